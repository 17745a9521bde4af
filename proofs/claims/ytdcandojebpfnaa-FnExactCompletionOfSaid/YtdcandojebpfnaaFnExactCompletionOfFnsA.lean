/- What the functions that FnExactCompletionOf reaches give: for each its contract, what it asks, and the proof. No condition. -/
import Derived.Test.YtdcandojebpfnaaTab
namespace Go.Bm
open Go.Proofs
set_option maxRecDepth 100000
set_option maxHeartbeats 1000000
set_option linter.unusedVariables false
set_option linter.unusedSimpArgs false
def c_impl_Category_arrows : Ct := ⟨[(.pt CategoryT)], [false], fun x => [], [(false, (.fz (.int .i64)))], fun x => ((x.1.2.1.length : Int), ()), false, none⟩
def W_impl_Category_arrows (c : CategoryD) (K : Int × Unit -> Prop) : Prop := (K (((c.2.1.length : Nat) : Int), ()))
theorem w_impl_Category_arrows (x : denL c_impl_Category_arrows.args) (K : Int × Unit -> Prop) : evF tab (lkp []) (cutL []) Try.f40 (bodyOf Try.f40) .n c_impl_Category_arrows x K = W_impl_Category_arrows x.1 K := by kernel_rfl
theorem k_impl_Category_arrows : okC Try.f40.ntmps (cutL []) (bodyOf Try.f40) = true := by kernel_rfl
theorem m_impl_Category_arrows (c : CategoryD) (hok : allP (okL c_impl_Category_arrows.args (c, ()))) (hpre : allP (c_impl_Category_arrows.pre (c, ()))) : W_impl_Category_arrows c (fun r => r = c_impl_Category_arrows.res (c, ())) := by
 simp only [c_impl_Category_arrows, okL, T.oks, T.ok, ap, allP, true_and, and_true, implies_true] at hok hpre
 try dsimp only [T.den] at hok
 try dsimp only [T.den] at hpre
 unfold W_impl_Category_arrows
 rfl
theorem ct_impl_Category_arrows : CtOk Try.prog 40 c_impl_Category_arrows :=
 ct_by (Φ := lkp []) good_nil tab_ok (by kernel_rfl) (fn := Try.f40) (c := bodyOf Try.f40) (by kernel_rfl) (by kernel_rfl) (by kernel_rfl) c_impl_Category_arrows rfl .n (cutL []) (by kernel_rfl) (by kernel_rfl) k_impl_Category_arrows (by decide) (fun x K => W_impl_Category_arrows x.1 K) w_impl_Category_arrows (fun x h1 h2 => m_impl_Category_arrows x.1 h1 h2)
def compR (c : CategoryD) (f g : Int) : Int := (c.2.2.2.2.getD f.toNat []).getD g.toNat 0
def c_impl_Category_then : Ct := ⟨[(.pt CategoryT), (.int .i64), (.int .i64)], [false, false, false], fun x => [0 <= x.2.1, x.2.1 < x.1.2.2.2.2.length, 0 <= x.2.2.1, x.2.2.1 < (x.1.2.2.2.2.getD x.2.1.toNat []).length], [(false, (.fz (.int .i64)))], fun x => (compR x.1 x.2.1 x.2.2.1, ()), false, none⟩
def W_impl_Category_then (c : CategoryD) (f : Int) (g : Int) (K : Int × Unit -> Prop) : Prop := ((0 <= f) /\ ((f < ((c.2.2.2.2.length : Nat) : Int)) /\ ((0 <= g) /\ ((g < (((List.length (List.getD c.2.2.2.2 f.toNat [])) : Nat) : Int)) /\ (K ((List.getD (List.getD c.2.2.2.2 f.toNat []) g.toNat 0), ()))))))
theorem w_impl_Category_then (x : denL c_impl_Category_then.args) (K : Int × Unit -> Prop) : evF tab (lkp []) (cutL []) Try.f67 (bodyOf Try.f67) .n c_impl_Category_then x K = W_impl_Category_then x.1 x.2.1 x.2.2.1 K := by kernel_rfl
theorem k_impl_Category_then : okC Try.f67.ntmps (cutL []) (bodyOf Try.f67) = true := by kernel_rfl
theorem m_impl_Category_then (c : CategoryD) (f : Int) (g : Int) (hok : allP (okL c_impl_Category_then.args (c, f, g, ()))) (hpre : allP (c_impl_Category_then.pre (c, f, g, ()))) : W_impl_Category_then c f g (fun r => r = c_impl_Category_then.res (c, f, g, ())) := by
 simp only [c_impl_Category_then, okL, T.oks, T.ok, ap, allP, true_and, and_true, implies_true] at hok hpre
 try dsimp only [T.den] at hok
 try dsimp only [T.den] at hpre
 unfold W_impl_Category_then
 exact ⟨hpre.1, hpre.2.1, hpre.2.2.1, hpre.2.2.2, rfl⟩
theorem ct_impl_Category_then : CtOk Try.prog 67 c_impl_Category_then :=
 ct_by (Φ := lkp []) good_nil tab_ok (by kernel_rfl) (fn := Try.f67) (c := bodyOf Try.f67) (by kernel_rfl) (by kernel_rfl) (by kernel_rfl) c_impl_Category_then rfl .n (cutL []) (by kernel_rfl) (by kernel_rfl) k_impl_Category_then (by decide) (fun x K => W_impl_Category_then x.1 x.2.1 x.2.2.1 K) w_impl_Category_then (fun x h1 h2 => m_impl_Category_then x.1 x.2.1 x.2.2.1 h1 h2)
def c_impl_Category_ends : Ct := ⟨[(.pt CategoryT), (.int .i64)], [false, false], fun x => [0 <= x.2.1, x.2.1 < x.1.2.1.length, x.2.1 < x.1.2.2.1.length], [(true, (.fz endsT))], fun x => (((x.1.2.1.getD x.2.1.toNat 0, x.1.2.2.1.getD x.2.1.toNat 0) : Int × Int), ()), false, none⟩
def W_impl_Category_ends (c : CategoryD) (f : Int) (K : endsD × Unit -> Prop) : Prop := ((0 <= f) /\ ((f < ((c.2.1.length : Nat) : Int)) /\ ((0 <= f) /\ ((f < ((c.2.2.1.length : Nat) : Int)) /\ (K (((List.getD c.2.1 f.toNat 0), (List.getD c.2.2.1 f.toNat 0)), ()))))))
theorem w_impl_Category_ends (x : denL c_impl_Category_ends.args) (K : endsD × Unit -> Prop) : evF tab (lkp []) (cutL [(1, 15)]) Try.f99 (bodyOf Try.f99) .n c_impl_Category_ends x K = W_impl_Category_ends x.1 x.2.1 K := by kernel_rfl
theorem k_impl_Category_ends : okC Try.f99.ntmps (cutL [(1, 15)]) (bodyOf Try.f99) = true := by kernel_rfl
theorem m_impl_Category_ends (c : CategoryD) (f : Int) (hok : allP (okL c_impl_Category_ends.args (c, f, ()))) (hpre : allP (c_impl_Category_ends.pre (c, f, ()))) : W_impl_Category_ends c f (fun r => r = c_impl_Category_ends.res (c, f, ())) := by
 simp only [c_impl_Category_ends, okL, T.oks, T.ok, ap, allP, true_and, and_true, implies_true] at hok hpre
 try dsimp only [T.den] at hok
 try dsimp only [T.den] at hpre
 unfold W_impl_Category_ends
 exact ⟨hpre.1, hpre.2.1, hpre.1, hpre.2.2, rfl⟩
theorem ct_impl_Category_ends : CtOk Try.prog 99 c_impl_Category_ends :=
 ct_by (Φ := lkp []) good_nil tab_ok (by kernel_rfl) (fn := Try.f99) (c := bodyOf Try.f99) (by kernel_rfl) (by kernel_rfl) (by kernel_rfl) c_impl_Category_ends rfl .n (cutL [(1, 15)]) (by kernel_rfl) (by kernel_rfl) k_impl_Category_ends (by decide) (fun x K => W_impl_Category_ends x.1 x.2.1 K) w_impl_Category_ends (fun x h1 h2 => m_impl_Category_ends x.1 x.2.1 h1 h2)
def c_impl_inRange : Ct := ⟨[(.int .i64), (.int .i64), (.int .i64)], [false, false, false], fun x => [], [(false, (.fz .bool))], fun x => (inR x.1 x.2.1 x.2.2.1, ()), false, none⟩
def W_impl_inRange (n : Int) (low : Int) (high : Int) (K : Bool × Unit -> Prop) : Prop := (K (((decide (low <= n)) && (decide (n <= high))), ()))
theorem w_impl_inRange (x : denL c_impl_inRange.args) (K : Bool × Unit -> Prop) : evF tab (lkp []) (cutL []) Try.f81 (bodyOf Try.f81) .n c_impl_inRange x K = W_impl_inRange x.1 x.2.1 x.2.2.1 K := by kernel_rfl
theorem k_impl_inRange : okC Try.f81.ntmps (cutL []) (bodyOf Try.f81) = true := by kernel_rfl
theorem m_impl_inRange (n : Int) (low : Int) (high : Int) (hok : allP (okL c_impl_inRange.args (n, low, high, ()))) (hpre : allP (c_impl_inRange.pre (n, low, high, ()))) : W_impl_inRange n low high (fun r => r = c_impl_inRange.res (n, low, high, ())) := by
 simp only [c_impl_inRange, okL, T.oks, T.ok, ap, allP, true_and, and_true, implies_true] at hok hpre
 try dsimp only [T.den] at hok
 try dsimp only [T.den] at hpre
 unfold W_impl_inRange
 grind [cnd, nb_eq, inK64, c_impl_inRange, inR]
theorem ct_impl_inRange : CtOk Try.prog 81 c_impl_inRange :=
 ct_by (Φ := lkp []) good_nil tab_ok (by kernel_rfl) (fn := Try.f81) (c := bodyOf Try.f81) (by kernel_rfl) (by kernel_rfl) (by kernel_rfl) c_impl_inRange rfl .n (cutL []) (by kernel_rfl) (by kernel_rfl) k_impl_inRange (by decide) (fun x K => W_impl_inRange x.1 x.2.1 x.2.2.1 K) w_impl_inRange (fun x h1 h2 => m_impl_inRange x.1 x.2.1 x.2.2.1 h1 h2)
def c_impl_within : Ct := ⟨[(.sl (.int .i64)), (.int .i64)], [false, false], fun x => [inK .i64 (x.2.1 - 1)], [(false, (.fz .bool))], fun x => (withinR x.1 x.2.1, ()), false, none⟩
def an_impl_within : Ann := (.s .n (.s (.s .n (.l [(9, (.d (.int .i64)))] [] [1, 7, 8] .n)) .n))
def W_impl_within (list : List Int) (n : Int) (K : Bool × Unit -> Prop) : Prop := (loopW (S := ((Int × Unit) × Unit)) (fun s => (fun next => ((inK .i64 s.1.1) -> (cnd (decide (s.1.1 < ((list.length : Nat) : Int))) ((0 <= s.1.1) /\ ((s.1.1 < ((list.length : Nat) : Int)) /\ ((inK .i64 (n - 1)) /\ (cnd (!(inR (List.getD list s.1.1.toNat 0) 0 (n - 1))) (K (false, ())) ((inK .i64 (s.1.1 + 1)) /\ (next (((s.1.1 + 1), ()), ()))))))) (K (true, ())))))) ((0, ()), ()))
theorem w_impl_within (x : denL c_impl_within.args) (K : Bool × Unit -> Prop) : evF tab (lkp [(81, c_impl_inRange)]) (cutL []) Try.f39 (bodyOf Try.f39) an_impl_within c_impl_within x K = W_impl_within x.1 x.2.1 K := by kernel_rfl
theorem k_impl_within : okC Try.f39.ntmps (cutL []) (bodyOf Try.f39) = true := by kernel_rfl
theorem m_impl_within (list : List Int) (n : Int) (hok : allP (okL c_impl_within.args (list, n, ()))) (hpre : allP (c_impl_within.pre (list, n, ()))) : W_impl_within list n (fun r => r = c_impl_within.res (list, n, ())) := by
 simp only [c_impl_within, okL, T.oks, T.ok, ap, allP, true_and, and_true, implies_true] at hok hpre
 try dsimp only [T.den] at hok
 try dsimp only [T.den] at hpre
 unfold W_impl_within
 refine loop_of (fun (s : ((Int × Unit) × Unit)) => 0 <= s.1.1 /\ s.1.1 <= list.length /\ withinR list n = withinR (list.drop s.1.1.toNat) n) (fun (s : ((Int × Unit) × Unit)) => (list.length - s.1.1).toNat) ?_ (by simp)
 rintro ⟨⟨i, _⟩, _⟩ next ⟨h0, h1, h2⟩ hn hin
 simp only at h0 h1 h2 hn ⊢
 refine cnd_d (fun hc => ?_) (fun hc => ?_)
 ·rw [drop_c list 0 h0 hc] at h2
  simp only [withinR, List.all_cons] at h2
  grind [cnd, nb_eq, inK64, c_impl_within, withinR]
 ·rw [drop_n list (by omega)] at h2
  grind [cnd, nb_eq, inK64, c_impl_within, withinR]
theorem ct_impl_within : CtOk Try.prog 39 c_impl_within :=
 ct_by (Φ := lkp [(81, c_impl_inRange)]) (good_cons ct_impl_inRange good_nil) tab_ok (by kernel_rfl) (fn := Try.f39) (c := bodyOf Try.f39) (by kernel_rfl) (by kernel_rfl) (by kernel_rfl) c_impl_within rfl an_impl_within (cutL []) (by kernel_rfl) (by kernel_rfl) k_impl_within (by decide) (fun x K => W_impl_within x.1 x.2.1 K) w_impl_within (fun x h1 h2 => m_impl_within x.1 x.2.1 h1 h2)
def cellQ (c : CategoryD) (f g v : Int) : Bool :=
 if c.2.2.1.getD f.toNat 0 = c.2.1.getD g.toNat 0 then decide (0 <= v /\ v < c.2.1.length /\ c.2.1.getD v.toNat 0 = c.2.1.getD f.toNat 0 /\ c.2.2.1.getD v.toNat 0 = c.2.2.1.getD g.toNat 0)
 else decide (v = -1)
def cellR (c : CategoryD) (f g : Int) : Bool := cellQ c f g (compR c f g)
structure ShapeP (c : CategoryD) : Prop where
 ob : 0 <= c.1 /\ c.1 <= 8
 m : c.2.1.length <= 40
 lt : c.2.2.1.length = c.2.1.length
 fr : withinR c.2.1 c.1 = true
 to : withinR c.2.2.1 c.1 = true
 li : (c.2.2.2.1.length : Int) = c.1
 ids : withinR c.2.2.2.1 c.2.1.length = true
 lc : c.2.2.2.2.length = c.2.1.length
 idt : ∀ x : Int, 0 <= x -> x < c.1 -> c.2.1.getD (c.2.2.2.1.getD x.toNat 0).toNat 0 = x /\ c.2.2.1.getD (c.2.2.2.1.getD x.toNat 0).toNat 0 = x
 row : ∀ f : Int, 0 <= f -> f < c.2.1.length -> (c.2.2.2.2.getD f.toNat []).length = c.2.1.length
 cell : ∀ f g : Int, 0 <= f -> f < c.2.1.length -> 0 <= g -> g < c.2.1.length -> cellR c f g = true
def shapeR (c : CategoryD) : Bool := inR c.1 0 8 && decide (c.2.1.length <= 40) && decide (c.2.2.1.length = c.2.1.length) && withinR c.2.1 c.1 && withinR c.2.2.1 c.1 && decide ((c.2.2.2.1.length : Int) = c.1) && withinR c.2.2.2.1 c.2.1.length &&
 decide (c.2.2.2.2.length = c.2.1.length) && allB c.1.toNat (fun x => decide (c.2.1.getD (c.2.2.2.1.getD x.toNat 0).toNat 0 = x /\ c.2.2.1.getD (c.2.2.2.1.getD x.toNat 0).toNat 0 = x)) &&
 allB c.2.1.length (fun f => decide ((c.2.2.2.2.getD f.toNat []).length = c.2.1.length)) && allB c.2.1.length (fun f => allB c.2.1.length fun g => cellR c f g)
theorem shape_iff {c : CategoryD} : shapeR c = true ↔ ShapeP c := by
 simp only [shapeR, Bool.and_eq_true, decide_eq_true_eq, inR, allB_iff]
 constructor
 ·rintro ⟨⟨⟨⟨⟨⟨⟨⟨⟨⟨h0, h1⟩, h2⟩, h3⟩, h4⟩, h5⟩, h6⟩, h7⟩, h8⟩, h9⟩, h10⟩
  exact ⟨h0, h1, h2, h3, h4, h5, h6, h7, fun x a b => h8 x a (by omega), h9, fun f g a b d e => h10 f a b g d e⟩
 ·intro h
  exact ⟨⟨⟨⟨⟨⟨⟨⟨⟨⟨h.ob, h.m⟩, h.lt⟩, h.fr⟩, h.to⟩, h.li⟩, h.ids⟩, h.lc⟩, fun x a b => h.idt x a (by have := h.ob; omega)⟩, h.row⟩, fun f a b g d e => h.cell f g a b d e⟩
theorem shape_f {c : CategoryD} (h : ¬ ShapeP c) : shapeR c = false := by
 cases hs : shapeR c with
 | false => rfl
 | true => exact absurd (shape_iff.1 hs) h
theorem shape_t {c : CategoryD} (h : ShapeP c) : shapeR c = true := shape_iff.2 h
def c_impl_Category_isShape : Ct := ⟨[(.pt CategoryT)], [false], fun x => [], [(false, (.fz .bool))], fun x => (shapeR x.1, ()), false, none⟩
def an_impl_Category_isShape : Ann := (.s .n (.s .n (.s .n (.s .n (.s (.s .n (.l [(88, (.d (.int .i64)))] [] [0, 3, 86, 87] .n)) (.s (.s .n (.l [(106, (.d (.int .i64)))] [] [0, 3, 104, 105] (.s .n (.s .n (.s (.s .n (.s .n (.s .n (.l [(117, (.d (.int .i64)))] [] [0, 3, 6, 104, 105, 106, 115, 116] (.s .n (.s .n (.s (.j [] [] [0, 3, 6, 104, 105, 106, 115, 116, 117] .n) .n))))))) .n))))) .n))))))
def ph_impl_Category_isShape : FuncId -> Option Ct := lkp [(40, c_impl_Category_arrows), (99, c_impl_Category_ends), (81, c_impl_inRange), (39, c_impl_within)]
def W_impl_Category_isShape (c : CategoryD) (K : Bool × Unit -> Prop) : Prop := ((((((!(inR c.1 0 8)) || (decide (40 < ((c.2.1.length : Nat) : Int)))) || (((c.2.2.1.length : Nat) : Int) != ((c.2.1.length : Nat) : Int))) = false) -> (inK .i64 (c.1 - 1))) /\ (((((((!(inR c.1 0 8)) || (decide (40 < ((c.2.1.length : Nat) : Int)))) || (((c.2.2.1.length : Nat) : Int) != ((c.2.1.length : Nat) : Int))) || (!(withinR c.2.1 c.1))) = false) -> (inK .i64 (c.1 - 1))) /\ (cnd (((((!(inR c.1 0 8)) || (decide (40 < ((c.2.1.length : Nat) : Int)))) || (((c.2.2.1.length : Nat) : Int) != ((c.2.1.length : Nat) : Int))) || (!(withinR c.2.1 c.1))) || (!(withinR c.2.2.1 c.1))) (K (false, ())) ((((((c.2.2.2.1.length : Nat) : Int) != c.1) = false) -> (inK .i64 (((c.2.1.length : Nat) : Int) - 1))) /\ (cnd (((((c.2.2.2.1.length : Nat) : Int) != c.1) || (!(withinR c.2.2.2.1 ((c.2.1.length : Nat) : Int)))) || (((c.2.2.2.2.length : Nat) : Int) != ((c.2.1.length : Nat) : Int))) (K (false, ())) (loopW (S := ((Int × Unit) × Unit)) (fun s => (fun next => ((inK .i64 s.1.1) -> (cnd (decide (s.1.1 < ((c.2.2.2.1.length : Nat) : Int))) ((0 <= s.1.1) /\ ((s.1.1 < ((c.2.2.2.1.length : Nat) : Int)) /\ ((0 <= (List.getD c.2.2.2.1 s.1.1.toNat 0)) /\ (((List.getD c.2.2.2.1 s.1.1.toNat 0) < ((c.2.1.length : Nat) : Int)) /\ (((List.getD c.2.2.2.1 s.1.1.toNat 0) < ((c.2.2.1.length : Nat) : Int)) /\ (cnd (!(((List.getD c.2.1 (Int.toNat (List.getD c.2.2.2.1 s.1.1.toNat 0)) 0) == s.1.1) && ((List.getD c.2.2.1 (Int.toNat (List.getD c.2.2.2.1 s.1.1.toNat 0)) 0) == s.1.1))) (K (false, ())) ((inK .i64 (s.1.1 + 1)) /\ (next (((s.1.1 + 1), ()), ()))))))))) (loopW (S := ((Int × Unit) × Unit)) (fun s1 => (fun next1 => ((inK .i64 s1.1.1) -> (cnd (decide (s1.1.1 < ((c.2.2.2.2.length : Nat) : Int))) ((0 <= s1.1.1) /\ ((s1.1.1 < ((c.2.2.2.2.length : Nat) : Int)) /\ (cnd ((((List.length (List.getD c.2.2.2.2 s1.1.1.toNat [])) : Nat) : Int) != ((c.2.1.length : Nat) : Int)) (K (false, ())) (loopW (S := ((Int × Unit) × Unit)) (fun s2 => (fun next2 => ((inK .i64 s2.1.1) -> (cnd (decide (s2.1.1 < (((List.length (List.getD c.2.2.2.2 s1.1.1.toNat [])) : Nat) : Int))) (joinW (S := (Unit × Unit)) (fun s3 => ((inK .i64 (s2.1.1 + 1)) /\ (next2 (((s2.1.1 + 1), ()), ())))) (fun k => ((0 <= s2.1.1) /\ ((s2.1.1 < (((List.length (List.getD c.2.2.2.2 s1.1.1.toNat [])) : Nat) : Int)) /\ ((0 <= s1.1.1) /\ ((s1.1.1 < ((c.2.2.1.length : Nat) : Int)) /\ ((0 <= s2.1.1) /\ ((s2.1.1 < ((c.2.1.length : Nat) : Int)) /\ (cnd ((List.getD c.2.2.1 s1.1.1.toNat 0) != (List.getD c.2.1 s2.1.1.toNat 0)) (cnd ((List.getD (List.getD c.2.2.2.2 s1.1.1.toNat []) s2.1.1.toNat 0) != (-1)) (K (false, ())) (k ((), ()))) ((inK .i64 (((c.2.1.length : Nat) : Int) - 1)) /\ ((((!(inR (List.getD (List.getD c.2.2.2.2 s1.1.1.toNat []) s2.1.1.toNat 0) 0 (((c.2.1.length : Nat) : Int) - 1))) = false) -> (((List.getD (List.getD c.2.2.2.2 s1.1.1.toNat []) s2.1.1.toNat 0) < ((c.2.1.length : Nat) : Int)) /\ (((List.getD (List.getD c.2.2.2.2 s1.1.1.toNat []) s2.1.1.toNat 0) < ((c.2.2.1.length : Nat) : Int)) /\ (0 <= (List.getD (List.getD c.2.2.2.2 s1.1.1.toNat []) s2.1.1.toNat 0))))) /\ ((((!(inR (List.getD (List.getD c.2.2.2.2 s1.1.1.toNat []) s2.1.1.toNat 0) 0 (((c.2.1.length : Nat) : Int) - 1))) = false) -> ((s1.1.1 < ((c.2.1.length : Nat) : Int)) /\ (0 <= s1.1.1))) /\ ((((!(inR (List.getD (List.getD c.2.2.2.2 s1.1.1.toNat []) s2.1.1.toNat 0) 0 (((c.2.1.length : Nat) : Int) - 1))) = false) -> ((s2.1.1 < ((c.2.2.1.length : Nat) : Int)) /\ (0 <= s2.1.1))) /\ (cnd ((!(inR (List.getD (List.getD c.2.2.2.2 s1.1.1.toNat []) s2.1.1.toNat 0) 0 (((c.2.1.length : Nat) : Int) - 1))) || (!(((List.getD c.2.1 (Int.toNat (List.getD (List.getD c.2.2.2.2 s1.1.1.toNat []) s2.1.1.toNat 0)) 0) == (List.getD c.2.1 s1.1.1.toNat 0)) && ((List.getD c.2.2.1 (Int.toNat (List.getD (List.getD c.2.2.2.2 s1.1.1.toNat []) s2.1.1.toNat 0)) 0) == (List.getD c.2.2.1 s2.1.1.toNat 0))))) (K (false, ())) (k ((), ())))))))))))))))) ((inK .i64 (s1.1.1 + 1)) /\ (next1 (((s1.1.1 + 1), ()), ()))))))) ((0, ()), ()))))) (K (true, ())))))) ((0, ()), ())))))) ((0, ()), ())))))))
theorem w_impl_Category_isShape (x : denL c_impl_Category_isShape.args) (K : Bool × Unit -> Prop) : evF tab ph_impl_Category_isShape (cutL [(2, 43), (20, 15), (4, 28), (23, 26)]) Try.f108 (bodyOf Try.f108) an_impl_Category_isShape c_impl_Category_isShape x K = W_impl_Category_isShape x.1 K := by kernel_rfl
theorem k_impl_Category_isShape : okC Try.f108.ntmps (cutL [(2, 43), (20, 15), (4, 28), (23, 26)]) (bodyOf Try.f108) = true := by kernel_rfl
theorem m_impl_Category_isShape (c : CategoryD) (hok : allP (okL c_impl_Category_isShape.args (c, ()))) (hpre : allP (c_impl_Category_isShape.pre (c, ()))) : W_impl_Category_isShape c (fun r => r = c_impl_Category_isShape.res (c, ())) := by
 simp only [c_impl_Category_isShape, okL, T.oks, T.ok, ap, allP, true_and, and_true, implies_true] at hok hpre
 try dsimp only [T.den] at hok
 try dsimp only [T.den] at hpre
 unfold W_impl_Category_isShape
 refine ⟨by grind [cnd, nb_eq, inK64, inR], by grind [cnd, nb_eq, inK64, inR], cnd_of (fun hc => ?_) (fun hc => ⟨by rw [inK64]; have := hok.2.1.1; grind [cnd, nb_eq, inK64], cnd_of (fun hd => ?_) (fun hd => ?_)⟩)⟩
 ·simp only [c_impl_Category_isShape]; rw [shape_f]; intro h; have h1 := h.ob; have h2 := h.m; have h3 := h.lt; have h4 := h.fr; have h5 := h.to; simp only [inR] at hc; grind [cnd, nb_eq, inK64]
 ·simp only [c_impl_Category_isShape]; rw [shape_f]; intro h; have h1 := h.li; have h2 := h.ids; have h3 := h.lc; grind [cnd, nb_eq, inK64]
 simp only [inR, Bool.or_eq_false_iff, Bool.not_eq_false', Bool.and_eq_true, decide_eq_true_eq, decide_eq_false_iff_not, bne_eq_false_iff_eq] at hc hd
 obtain ⟨⟨⟨⟨hob, hm⟩, hlt⟩, hfr⟩, hto⟩ := hc
 obtain ⟨⟨hli, hids⟩, hlc⟩ := hd
 have bad : ¬ ShapeP c -> (false, ()) = c_impl_Category_isShape.res (c, ()) := fun h => by simp only [c_impl_Category_isShape]; rw [shape_f h]
 refine loop_ix (n := c.2.2.2.1.length) (fun x => ∀ y : Int, 0 <= y -> y < x -> c.2.1.getD (c.2.2.2.1.getD y.toNat 0).toNat 0 = y /\ c.2.2.1.getD (c.2.2.2.1.getD y.toNat 0).toNat 0 = y) (by omega) (by intro y h0 h1; omega) ?_ ?_
 ·intro x next h0 h1 hP hn hin
  have hb := within_iff.1 hids x h0 h1
  try dsimp only
  refine cnd_d (fun _ => ⟨h0, h1, hb.1, hb.2, by omega, cnd_of (fun hx => bad fun h => ?_) (fun hx => ?_)⟩) (fun h => absurd h1 h)
  ·have := h.idt x h0 (by omega)
   rw [this.1, this.2] at hx
   simp at hx
  ·simp only [Bool.not_eq_false', Bool.and_eq_true, beq_iff_eq] at hx
   refine ⟨by rw [inK64]; (try dsimp only); omega, hn fun y y0 y1 => ?_⟩
   by_cases e : y = x
   ·rw [e]; exact hx
   ·exact hP y y0 (by omega)
 intro next hidt hin
 refine cnd_d (fun h => absurd h (by dsimp only; omega)) (fun _ => ?_)
 refine loop_ix (n := c.2.2.2.2.length) (fun f => ∀ f' : Int, 0 <= f' -> f' < f -> (c.2.2.2.2.getD f'.toNat []).length = c.2.1.length /\ ∀ g : Int, 0 <= g -> g < c.2.1.length -> cellR c f' g = true) (by omega) (by intro y h0 h1; omega) ?_ ?_
 ·intro f next h0 h1 hP hn hin
  try dsimp only
  refine cnd_d (fun _ => ⟨h0, h1, cnd_of (fun hx => bad fun h => ?_) (fun hx => ?_)⟩) (fun h => absurd h1 h)
  ·have := h.row f h0 (by omega)
   rw [this] at hx
   simp at hx
  simp only [bne_eq_false_iff_eq] at hx
  refine loop_ix (n := (c.2.2.2.2.getD f.toNat []).length) (fun g => ∀ g' : Int, 0 <= g' -> g' < g -> cellR c f g' = true) (by omega) (by intro y h0 h1; omega) ?_ ?_
  ·intro g next3 g0 g1 hP3 hn3 hin3
   try dsimp only
   refine cnd_d (fun _ => ?_) (fun h => absurd g1 h)
   refine join_of (fun _ => cellR c f g = true) (fun _ hcell => ⟨by rw [inK64]; (try dsimp only); omega, hn3 fun g' y0 y1 => ?_⟩) (fun k hk => ?_)
   ·by_cases e : g' = g
    ·rw [e]; exact hcell
    ·exact hP3 g' y0 (by omega)
   have hcell : ∀ b, cellR c f g = b -> b = false -> ¬ ShapeP c := fun b h1 h2 h => by
    have := h.cell f g h0 (by omega) g0 (by omega)
    rw [h1, h2] at this; cases this
   have hk' := hk ((), ())
   obtain ⟨v, hv⟩ : ∃ v, (c.2.2.2.2.getD f.toNat []).getD g.toNat 0 = v := ⟨_, rfl⟩
   have hR : cellR c f g = cellQ c f g v := by unfold cellR compR; rw [hv]
   rw [hR] at hk'
   rw [hR] at hcell
   rw [hv]
   clear hP3 hn3 hP hn hk hR hv hidt hok
   refine ⟨g0, g1, h0, by omega, g0, by omega, cnd_of (fun ha => cnd_of (fun hb => bad ?_) (fun hb => hk' ?_)) (fun ha => ⟨by rw [inK64]; (try dsimp only); omega, fun hv => ?_, fun _ => ⟨by omega, h0⟩, fun _ => ⟨by omega, g0⟩, cnd_of (fun hb => bad ?_) (fun hb => hk' ?_)⟩)⟩
   ·exact hcell _ rfl (by grind [cnd, nb_eq, inK64, cellQ])
   ·grind [cnd, nb_eq, inK64, cellQ]
   ·simp only [inR, Bool.not_eq_false', Bool.and_eq_true, decide_eq_true_eq] at hv; omega
   ·exact hcell _ rfl (by simp only [inR] at hb; grind [cnd, nb_eq, inK64, cellQ])
   ·simp only [inR] at hb; grind [cnd, nb_eq, inK64, cellQ]
  ·intro next3 hP3 hin3
   refine cnd_d (fun h => absurd h (by dsimp only; omega)) (fun _ => ⟨by rw [inK64]; (try dsimp only); omega, hn fun f' y0 y1 => ?_⟩)
   by_cases e : f' = f
   ·rw [e]; exact ⟨by omega, fun g g0 g1 => hP3 g g0 (by omega)⟩
   ·exact hP f' y0 (by omega)
 ·intro next2 hP2 hin2
  refine cnd_d (fun h => absurd h (by dsimp only; omega)) (fun _ => ?_)
  simp only [c_impl_Category_isShape]
  rw [shape_t ⟨hob, by omega, by omega, hfr, hto, by omega, hids, by omega, fun x a b => hidt x a (by omega), fun f a b => (hP2 f a (by omega)).1, fun f g a b d e => (hP2 f a (by omega)).2 g d e⟩]
theorem ct_impl_Category_isShape : CtOk Try.prog 108 c_impl_Category_isShape :=
 ct_by (Φ := ph_impl_Category_isShape) (good_cons ct_impl_Category_arrows (good_cons ct_impl_Category_ends (good_cons ct_impl_inRange (good_cons ct_impl_within good_nil)))) tab_ok (by kernel_rfl) (fn := Try.f108) (c := bodyOf Try.f108) (by kernel_rfl) (by kernel_rfl) (by kernel_rfl) c_impl_Category_isShape rfl an_impl_Category_isShape (cutL [(2, 43), (20, 15), (4, 28), (23, 26)]) (by kernel_rfl) (by kernel_rfl) k_impl_Category_isShape (by decide) (fun x K => W_impl_Category_isShape x.1 K) w_impl_Category_isShape (fun x h1 h2 => m_impl_Category_isShape x.1 h1 h2)
theorem ShapeP.frm {c : CategoryD} (h : ShapeP c) {f : Int} (h0 : 0 <= f) (h1 : f < c.2.1.length) : 0 <= c.2.1.getD f.toNat 0 /\ c.2.1.getD f.toNat 0 < c.1 /\ 0 <= c.2.2.1.getD f.toNat 0 /\ c.2.2.1.getD f.toNat 0 < c.1 := by
 have a := within_iff.1 h.fr f h0 h1
 have b := within_iff.1 h.to f h0 (by have := h.lt; omega)
 exact ⟨a.1, a.2, b.1, b.2⟩
theorem ShapeP.idn {c : CategoryD} (h : ShapeP c) {x : Int} (h0 : 0 <= x) (h1 : x < c.1) : 0 <= c.2.2.2.1.getD x.toNat 0 /\ c.2.2.2.1.getD x.toNat 0 < c.2.1.length /\ c.2.1.getD (c.2.2.2.1.getD x.toNat 0).toNat 0 = x /\ c.2.2.1.getD (c.2.2.2.1.getD x.toNat 0).toNat 0 = x := by
 have a := within_iff.1 h.ids x h0 (by have := h.li; omega)
 have b := h.idt x h0 h1
 exact ⟨a.1, a.2, b.1, b.2⟩
theorem ShapeP.yes {c : CategoryD} (h : ShapeP c) {f g : Int} (h0 : 0 <= f) (h1 : f < c.2.1.length) (g0 : 0 <= g) (g1 : g < c.2.1.length) (e : c.2.2.1.getD f.toNat 0 = c.2.1.getD g.toNat 0) :
  0 <= compR c f g /\ compR c f g < c.2.1.length /\ c.2.1.getD (compR c f g).toNat 0 = c.2.1.getD f.toNat 0 /\ c.2.2.1.getD (compR c f g).toNat 0 = c.2.2.1.getD g.toNat 0 := by
 have := h.cell f g h0 h1 g0 g1
 unfold cellR cellQ at this
 rw [if_pos e] at this
 simpa using this
theorem ShapeP.no {c : CategoryD} (h : ShapeP c) {f g : Int} (h0 : 0 <= f) (h1 : f < c.2.1.length) (g0 : 0 <= g) (g1 : g < c.2.1.length) (e : c.2.2.1.getD f.toNat 0 ≠ c.2.1.getD g.toNat 0) : compR c f g = -1 := by
 have := h.cell f g h0 h1 g0 g1
 unfold cellR cellQ at this
 rw [if_neg e] at this
 simpa using this
theorem ShapeP.comp {c : CategoryD} (h : ShapeP c) {f g : Int} (h0 : 0 <= f) (h1 : f < c.2.1.length) (g0 : 0 <= g) (g1 : g < c.2.1.length) : 0 <= compR c f g ↔ c.2.2.1.getD f.toNat 0 = c.2.1.getD g.toNat 0 := by
 constructor
 ·intro h2
  by_cases e : c.2.2.1.getD f.toNat 0 = c.2.1.getD g.toNat 0
  ·exact e
  ·have := h.no h0 h1 g0 g1 e; omega
 ·intro e; exact (h.yes h0 h1 g0 g1 e).1
def faultI (c : CategoryD) (f : Int) : Option (Int × Int × Int × Int) :=
 if compR c (c.2.2.2.1.getD (c.2.1.getD f.toNat 0).toNat 0) f ≠ f ∨ compR c f (c.2.2.2.1.getD (c.2.2.1.getD f.toNat 0).toNat 0) ≠ f then some (1, f, 0, 0) else none
def faultH (c : CategoryD) (f g h : Int) : Option (Int × Int × Int × Int) :=
 if c.2.2.1.getD g.toNat 0 = c.2.1.getD h.toNat 0 /\ compR c (compR c f g) h ≠ compR c f (compR c g h) then some (2, f, g, h) else none
def faultG (c : CategoryD) (f g : Int) : Option (Int × Int × Int × Int) :=
 if c.2.2.1.getD f.toNat 0 = c.2.1.getD g.toNat 0 then scanR (faultH c f g) c.2.1.length 0 else none
def faultF (c : CategoryD) (f : Int) : Option (Int × Int × Int × Int) := scanR (faultG c f) c.2.1.length 0
def faultR (c : CategoryD) : Int × Int × Int × Int :=
 orR (scanR (faultI c) c.2.1.length 0) (orR (scanR (faultF c) c.2.1.length 0) (0, 0, 0, 0))
def c_impl_Category_fault : Ct := ⟨[(.pt CategoryT)], [false], fun x => [ShapeP x.1], [(false, (.fz (.int .i64))), (false, (.fz (.int .i64))), (false, (.fz (.int .i64))), (false, (.fz (.int .i64)))], fun x => ((faultR x.1).1, (faultR x.1).2.1, (faultR x.1).2.2.1, (faultR x.1).2.2.2, ()), false, none⟩
def an_impl_Category_fault : Ann := (.s .n (.s .n (.s (.s .n (.l [(7, (.d (.int .i64)))] [] [0, 6] .n)) (.s (.s .n (.l [(8, (.d (.int .i64)))] [] [0, 6] (.s .n (.s (.s .n (.l [(9, (.d (.int .i64)))] [] [0, 6, 8] (.s .n (.s (.j [] [] [0, 6, 8, 9] (.s .n (.s .n (.l [(10, (.d (.int .i64)))] [] [0, 6, 8, 9] .n)))) .n)))) .n)))) .n))))
def ph_impl_Category_fault : FuncId -> Option Ct := lkp [(40, c_impl_Category_arrows), (67, c_impl_Category_then)]
def W_impl_Category_fault (c : CategoryD) (K : Int × Int × Int × Int × Unit -> Prop) : Prop := (loopW (S := ((Int × Unit) × Unit)) (fun s => (fun next => ((inK .i64 s.1.1) -> (cnd (decide (s.1.1 < ((c.2.1.length : Nat) : Int))) ((0 <= s.1.1) /\ ((s.1.1 < ((c.2.1.length : Nat) : Int)) /\ ((0 <= (List.getD c.2.1 s.1.1.toNat 0)) /\ (((List.getD c.2.1 s.1.1.toNat 0) < ((c.2.2.2.1.length : Nat) : Int)) /\ ((0 <= (List.getD c.2.2.2.1 (Int.toNat (List.getD c.2.1 s.1.1.toNat 0)) 0)) /\ (((List.getD c.2.2.2.1 (Int.toNat (List.getD c.2.1 s.1.1.toNat 0)) 0) < ((c.2.2.2.2.length : Nat) : Int)) /\ ((0 <= s.1.1) /\ ((s.1.1 < (((List.length (List.getD c.2.2.2.2 (Int.toNat (List.getD c.2.2.2.1 (Int.toNat (List.getD c.2.1 s.1.1.toNat 0)) 0)) [])) : Nat) : Int)) /\ (((((compR c (List.getD c.2.2.2.1 (Int.toNat (List.getD c.2.1 s.1.1.toNat 0)) 0) s.1.1) != s.1.1) = false) -> ((s.1.1 < ((c.2.2.1.length : Nat) : Int)) /\ (0 <= s.1.1))) /\ (((((compR c (List.getD c.2.2.2.1 (Int.toNat (List.getD c.2.1 s.1.1.toNat 0)) 0) s.1.1) != s.1.1) = false) -> (((List.getD c.2.2.1 s.1.1.toNat 0) < ((c.2.2.2.1.length : Nat) : Int)) /\ (0 <= (List.getD c.2.2.1 s.1.1.toNat 0)))) /\ (((((compR c (List.getD c.2.2.2.1 (Int.toNat (List.getD c.2.1 s.1.1.toNat 0)) 0) s.1.1) != s.1.1) = false) -> ((s.1.1 < ((c.2.2.2.2.length : Nat) : Int)) /\ ((0 <= (List.getD c.2.2.2.1 (Int.toNat (List.getD c.2.2.1 s.1.1.toNat 0)) 0)) /\ (((List.getD c.2.2.2.1 (Int.toNat (List.getD c.2.2.1 s.1.1.toNat 0)) 0) < (((List.length (List.getD c.2.2.2.2 s.1.1.toNat [])) : Nat) : Int)) /\ (0 <= s.1.1))))) /\ (cnd (((compR c (List.getD c.2.2.2.1 (Int.toNat (List.getD c.2.1 s.1.1.toNat 0)) 0) s.1.1) != s.1.1) || ((compR c s.1.1 (List.getD c.2.2.2.1 (Int.toNat (List.getD c.2.2.1 s.1.1.toNat 0)) 0)) != s.1.1)) (K (1, (s.1.1, (0, (0, ()))))) ((inK .i64 (s.1.1 + 1)) /\ (next (((s.1.1 + 1), ()), ()))))))))))))))) (loopW (S := ((Int × Unit) × Unit)) (fun s1 => (fun next1 => ((inK .i64 s1.1.1) -> (cnd (decide (s1.1.1 < ((c.2.1.length : Nat) : Int))) (loopW (S := ((Int × Unit) × Unit)) (fun s2 => (fun next2 => ((inK .i64 s2.1.1) -> (cnd (decide (s2.1.1 < ((c.2.1.length : Nat) : Int))) (joinW (S := (Unit × Unit)) (fun s3 => ((inK .i64 (s2.1.1 + 1)) /\ (next2 (((s2.1.1 + 1), ()), ())))) (fun k => ((0 <= s1.1.1) /\ ((s1.1.1 < ((c.2.2.2.2.length : Nat) : Int)) /\ ((0 <= s2.1.1) /\ ((s2.1.1 < (((List.length (List.getD c.2.2.2.2 s1.1.1.toNat [])) : Nat) : Int)) /\ (cnd (decide ((compR c s1.1.1 s2.1.1) < 0)) (k ((), ())) (loopW (S := ((Int × Unit) × Unit)) (fun s3 => (fun next3 => ((inK .i64 s3.1.1) -> (cnd (decide (s3.1.1 < ((c.2.1.length : Nat) : Int))) ((0 <= s2.1.1) /\ ((s2.1.1 < ((c.2.2.2.2.length : Nat) : Int)) /\ ((0 <= s3.1.1) /\ ((s3.1.1 < (((List.length (List.getD c.2.2.2.2 s2.1.1.toNat [])) : Nat) : Int)) /\ ((((decide (0 <= (compR c s2.1.1 s3.1.1))) = true) -> ((s1.1.1 < ((c.2.2.2.2.length : Nat) : Int)) /\ ((0 <= s2.1.1) /\ ((s2.1.1 < (((List.length (List.getD c.2.2.2.2 s1.1.1.toNat [])) : Nat) : Int)) /\ (0 <= s1.1.1))))) /\ ((((decide (0 <= (compR c s2.1.1 s3.1.1))) = true) -> (((compR c s1.1.1 s2.1.1) < ((c.2.2.2.2.length : Nat) : Int)) /\ ((0 <= s3.1.1) /\ ((s3.1.1 < (((List.length (List.getD c.2.2.2.2 (Int.toNat (compR c s1.1.1 s2.1.1)) [])) : Nat) : Int)) /\ (0 <= (compR c s1.1.1 s2.1.1)))))) /\ ((((decide (0 <= (compR c s2.1.1 s3.1.1))) = true) -> ((s2.1.1 < ((c.2.2.2.2.length : Nat) : Int)) /\ ((0 <= s3.1.1) /\ ((s3.1.1 < (((List.length (List.getD c.2.2.2.2 s2.1.1.toNat [])) : Nat) : Int)) /\ (0 <= s2.1.1))))) /\ ((((decide (0 <= (compR c s2.1.1 s3.1.1))) = true) -> ((s1.1.1 < ((c.2.2.2.2.length : Nat) : Int)) /\ ((0 <= (compR c s2.1.1 s3.1.1)) /\ (((compR c s2.1.1 s3.1.1) < (((List.length (List.getD c.2.2.2.2 s1.1.1.toNat [])) : Nat) : Int)) /\ (0 <= s1.1.1))))) /\ (cnd ((decide (0 <= (compR c s2.1.1 s3.1.1))) && ((compR c (compR c s1.1.1 s2.1.1) s3.1.1) != (compR c s1.1.1 (compR c s2.1.1 s3.1.1)))) (K (2, (s1.1.1, (s2.1.1, (s3.1.1, ()))))) ((inK .i64 (s3.1.1 + 1)) /\ (next3 (((s3.1.1 + 1), ()), ())))))))))))) (k ((), ())))))) ((0, ()), ()))))))))) ((inK .i64 (s1.1.1 + 1)) /\ (next1 (((s1.1.1 + 1), ()), ()))))))) ((0, ()), ())) (K (0, (0, (0, (0, ()))))))))) ((0, ()), ())))))) ((0, ()), ()))
theorem w_impl_Category_fault (x : denL c_impl_Category_fault.args) (K : Int × Int × Int × Int × Unit -> Prop) : evF tab ph_impl_Category_fault (cutL [(5, 38)]) Try.f109 (bodyOf Try.f109) an_impl_Category_fault c_impl_Category_fault x K = W_impl_Category_fault x.1 K := by kernel_rfl
theorem k_impl_Category_fault : okC Try.f109.ntmps (cutL [(5, 38)]) (bodyOf Try.f109) = true := by kernel_rfl
theorem m_impl_Category_fault (c : CategoryD) (hok : allP (okL c_impl_Category_fault.args (c, ()))) (hpre : allP (c_impl_Category_fault.pre (c, ()))) : W_impl_Category_fault c (fun r => r = c_impl_Category_fault.res (c, ())) := by
 simp only [c_impl_Category_fault, okL, T.oks, T.ok, ap, allP, true_and, and_true, implies_true] at hok hpre
 try dsimp only [T.den] at hok
 try dsimp only [T.den] at hpre
 unfold W_impl_Category_fault
 have S : ShapeP c := hpre
 have hlt := S.lt
 have hli := S.li
 have hlc := S.lc
 have hmm := S.m
 have resq : ∀ a b d e, faultR c = (a, b, d, e) -> (a, b, d, e, ()) = c_impl_Category_fault.res (c, ()) := fun a b d e h => by simp only [c_impl_Category_fault, h]
 refine loop_ix (n := c.2.1.length) (fun f => scanR (faultI c) c.2.1.length 0 = scanR (faultI c) ((c.2.1.length : Int) - f).toNat f) (by omega) scan_0 ?_ ?_
 ·intro f next h0 h1 hP hn hin
  try dsimp only
  obtain ⟨a1, a2, a3, a4⟩ := S.frm h0 h1
  obtain ⟨b1, b2, _, _⟩ := S.idn a1 a2
  obtain ⟨d1, d2, _, _⟩ := S.idn a3 a4
  have r1 := S.row _ b1 b2
  have r2 := S.row f h0 h1
  refine cnd_d (fun _ => ⟨h0, h1, by omega, by omega, by omega, by omega, h0, by omega, fun _ => by omega, fun _ => by omega, fun _ => by omega, cnd_of (fun hx => resq _ _ _ _ ?_) (fun hx => ⟨by rw [inK64]; (try dsimp only); omega, hn ?_⟩)⟩) (fun h => absurd h1 h)
  ·have : faultI c f = some (1, f, 0, 0) := by unfold faultI; rw [if_pos]; simpa using hx
   unfold faultR; rw [hP, scan_s h1 this]; rfl
  ·have : faultI c f = none := by unfold faultI; rw [if_neg]; simpa using hx
   rw [hP, scan_c h1 this]
 intro next hI hin
 rw [scan_n] at hI
 refine cnd_d (fun h => absurd h (by dsimp only; omega)) (fun _ => ?_)
 have hF : faultR c = orR (scanR (faultF c) c.2.1.length 0) (0, 0, 0, 0) := by unfold faultR; rw [hI]; rfl
 refine loop_ix (n := c.2.1.length) (fun f => scanR (faultF c) c.2.1.length 0 = scanR (faultF c) ((c.2.1.length : Int) - f).toNat f) (by omega) scan_0 ?_ ?_
 ·intro f next h0 h1 hP hn hin
  try dsimp only
  refine cnd_d (fun _ => ?_) (fun h => absurd h1 h)
  have r1 := S.row f h0 h1
  refine loop_ix (n := c.2.1.length) (fun g => faultF c f = scanR (faultG c f) ((c.2.1.length : Int) - g).toNat g) (by omega) scan_0 ?_ ?_
  ·intro g next3 g0 g1 hP3 hn3 hin3
   try dsimp only
   refine cnd_d (fun _ => ?_) (fun h => absurd g1 h)
   have r2 := S.row g g0 g1
   refine join_of (fun _ => faultG c f g = none) (fun _ hG => ⟨by rw [inK64]; (try dsimp only); omega, hn3 (by rw [hP3, scan_c g1 hG])⟩) (fun k hk => ?_)
   have hk' := hk ((), ())
   refine ⟨by omega, by omega, by omega, by omega, cnd_d (fun hx => hk' ?_) (fun hx => ?_)⟩
   ·unfold faultG; rw [if_neg]; intro e; have := (S.comp h0 h1 g0 g1).2 e; omega
   have hfg := (S.comp h0 h1 g0 g1).1 (by omega)
   obtain ⟨y1, y2, _, _⟩ := S.yes h0 h1 g0 g1 hfg
   refine loop_ix (n := c.2.1.length) (fun h => faultG c f g = scanR (faultH c f g) ((c.2.1.length : Int) - h).toNat h) (by omega) (by unfold faultG; rw [if_pos hfg]; exact scan_0) ?_ ?_
   ·intro h next4 i0 i1 hP4 hn4 hin4
    try dsimp only
    refine cnd_d (fun _ => ?_) (fun h => absurd i1 h)
    have r3 := S.row _ y1 y2
    have cgh := S.comp g0 g1 i0 i1
    have ygh := @ShapeP.yes c S g h g0 g1 i0 i1
    refine ⟨by omega, by omega, by omega, by omega, fun _ => by omega, fun _ => by omega, fun _ => by omega, fun he => ?_, cnd_of (fun hx => resq _ _ _ _ ?_) (fun hx => ⟨by rw [inK64]; (try dsimp only); omega, hn4 ?_⟩)⟩
    ·have := ygh (cgh.1 (by simpa using he)); omega
    ·have : faultH c f g h = some (2, f, g, h) := by unfold faultH; rw [if_pos]; rw [← cgh]; simpa using hx
     have e1 : faultG c f g = some (2, f, g, h) := by rw [hP4, scan_s i1 this]
     have e2 : faultF c f = some (2, f, g, h) := by rw [hP3, scan_s g1 e1]
     rw [hF, hP, scan_s h1 e2]; rfl
    ·have : faultH c f g h = none := by unfold faultH; rw [if_neg]; rw [← cgh]; simpa using hx
     rw [hP4, scan_c i1 this]
   ·intro next4 hP4 hin4
    rw [scan_n] at hP4
    exact cnd_d (fun h => absurd h (by dsimp only; omega)) (fun _ => hk' hP4)
  ·intro next3 hP3 hin3
   rw [scan_n] at hP3
   exact cnd_d (fun h => absurd h (by dsimp only; omega)) (fun _ => ⟨by rw [inK64]; (try dsimp only); omega, hn (by rw [hP, scan_c h1 hP3])⟩)
 ·intro next2 hP2 hin2
  rw [scan_n] at hP2
  refine cnd_d (fun h => absurd h (by dsimp only; omega)) (fun _ => resq _ _ _ _ ?_)
  rw [hF, hP2]; rfl
theorem ct_impl_Category_fault : CtOk Try.prog 109 c_impl_Category_fault :=
 ct_by (Φ := ph_impl_Category_fault) (good_cons ct_impl_Category_arrows (good_cons ct_impl_Category_then good_nil)) tab_ok (by kernel_rfl) (fn := Try.f109) (c := bodyOf Try.f109) (by kernel_rfl) (by kernel_rfl) (by kernel_rfl) c_impl_Category_fault rfl an_impl_Category_fault (cutL [(5, 38)]) (by kernel_rfl) (by kernel_rfl) k_impl_Category_fault (by decide) (fun x K => W_impl_Category_fault x.1 K) w_impl_Category_fault (fun x h1 h2 => m_impl_Category_fault x.1 h1 h2)
def homR (c : CategoryD) (x y : Int) : List Int := selR c.2.1.length fun f => c.2.1.getD f.toNat 0 == x && c.2.2.1.getD f.toNat 0 == y
theorem hom_mem {c : CategoryD} {x y g : Int} : g ∈ homR c x y ↔ 0 <= g /\ g < c.2.1.length /\ c.2.1.getD g.toNat 0 = x /\ c.2.2.1.getD g.toNat 0 = y := by
 unfold homR; rw [sel_mem, Bool.and_eq_true, beq_iff_eq, beq_iff_eq]
def c_impl_Category_hom : Ct := ⟨[(.pt CategoryT), (.int .i64), (.int .i64)], [false, false, false], fun x => [x.1.2.1.length <= 40, x.1.2.2.1.length = x.1.2.1.length], [(false, (.sl (.fz (.int .i64))))], fun x => (homR x.1 x.2.1 x.2.2.1, ()), false, none⟩
def an_impl_Category_hom : Ann := (.s .n (.s .n (.s (.s .n (.l [(7, (.ref 800007 [])), (15, (.d (.int .i64)))] [(800007, (.sl (.fz (.int .i64))))] [0, 1, 2, 14] (.s .n (.s .n (.s (.s .n (.s .n (.j [(7, (.ref 800007 []))] [(800007, (.sl (.fz (.int .i64))))] [0, 1, 2, 14, 15] .n))) .n))))) .n)))
def W_impl_Category_hom (c : CategoryD) (x : Int) (y : Int) (K : (List Int) × Unit -> Prop) : Prop := (loopW (S := ((Unit × (Int × Unit)) × ((List Int) × Unit))) (fun s => (fun next => ((inK .i64 s.1.2.1) -> ((T.ok (.sl (.int .i64)) s.2.1) -> (cnd (decide (s.1.2.1 < ((c.2.1.length : Nat) : Int))) ((0 <= s.1.2.1) /\ ((s.1.2.1 < ((c.2.1.length : Nat) : Int)) /\ (((((List.getD c.2.1 s.1.2.1.toNat 0) == x) = true) -> ((s.1.2.1 < ((c.2.2.1.length : Nat) : Int)) /\ (0 <= s.1.2.1))) /\ (joinW (S := ((Unit × Unit) × ((List Int) × Unit))) (fun s1 => ((T.ok (.sl (.int .i64)) s1.2.1) -> ((inK .i64 (s.1.2.1 + 1)) /\ (next (((), ((s.1.2.1 + 1), ())), (s1.2.1, ())))))) (fun k => (cnd (((List.getD c.2.1 s.1.2.1.toNat 0) == x) && ((List.getD c.2.2.1 s.1.2.1.toNat 0) == y)) ((room s.2.1.length (List.length (s.1.2.1 :: [])) 8) /\ (k (((), ()), ((s.2.1 ++ (s.1.2.1 :: [])), ())))) (k (((), ()), (s.2.1, ()))))))))) (K (s.2.1, ()))))))) (((), (0, ())), ([], ())))
theorem w_impl_Category_hom (x : denL c_impl_Category_hom.args) (K : (List Int) × Unit -> Prop) : evF tab (lkp []) (cutL []) Try.f111 (bodyOf Try.f111) an_impl_Category_hom c_impl_Category_hom x K = W_impl_Category_hom x.1 x.2.1 x.2.2.1 K := by kernel_rfl
theorem k_impl_Category_hom : okC Try.f111.ntmps (cutL []) (bodyOf Try.f111) = true := by kernel_rfl
theorem m_impl_Category_hom (c : CategoryD) (x : Int) (y : Int) (hok : allP (okL c_impl_Category_hom.args (c, x, y, ()))) (hpre : allP (c_impl_Category_hom.pre (c, x, y, ()))) : W_impl_Category_hom c x y (fun r => r = c_impl_Category_hom.res (c, x, y, ())) := by
 simp only [c_impl_Category_hom, okL, T.oks, T.ok, ap, allP, true_and, and_true, implies_true] at hok hpre
 try dsimp only [T.den] at hok
 try dsimp only [T.den] at hpre
 unfold W_impl_Category_hom
 have hm : c.2.1.length <= 40 := hpre.1
 have hlt : c.2.2.1.length = c.2.1.length := hpre.2
 refine loop_of (fun (s : ((Unit × (Int × Unit)) × ((List Int) × Unit))) => 0 <= s.1.2.1 /\ s.1.2.1 <= c.2.1.length /\ s.2.1 = selR s.1.2.1.toNat fun f => c.2.1.getD f.toNat 0 == x && c.2.2.1.getD f.toNat 0 == y) (fun (s : ((Unit × (Int × Unit)) × ((List Int) × Unit))) => (c.2.1.length - s.1.2.1).toNat) ?_ ⟨by simp, by simp, rfl⟩
 rintro ⟨⟨_, i, _⟩, l, _⟩ next ⟨h0, h1, h2⟩ hn hin hl
 try dsimp only at h0 h1 h2 hn ⊢
 subst h2
 refine cnd_d (fun hc => ⟨h0, hc, fun _ => by omega, join_of (fun s1 => s1.2.1 = selR (i + 1).toNat fun f => c.2.1.getD f.toNat 0 == x && c.2.2.1.getD f.toNat 0 == y) (fun s1 hs _ => ⟨by rw [inK64]; (try dsimp only); omega, hn _ ⟨(by first | omega | (dsimp only; omega)), (by first | omega | (dsimp only; omega)), hs⟩ (by first | omega | (dsimp only; omega))⟩) (fun k hk => cnd_of (fun hx => ⟨?_, hk _ ?_⟩) (fun hx => hk _ ?_))⟩) (fun hc => ?_)
 ·have := sel_len (p := fun f => c.2.1.getD f.toNat 0 == x && c.2.2.1.getD f.toNat 0 == y) i.toNat
  unfold room
  rw [nb_eq]
  have h3 : (i :: ([] : List Int)).length = 1 := rfl
  rw [h3]
  omega
 ·exact (sel_t h0 hx).symm
 ·exact (sel_f h0 hx).symm
 ·have e1 : i.toNat = c.2.1.length := by omega
  simp only [c_impl_Category_hom, homR]
  rw [e1]
theorem ct_impl_Category_hom : CtOk Try.prog 111 c_impl_Category_hom :=
 ct_by (Φ := lkp []) good_nil tab_ok (by kernel_rfl) (fn := Try.f111) (c := bodyOf Try.f111) (by kernel_rfl) (by kernel_rfl) (by kernel_rfl) c_impl_Category_hom rfl an_impl_Category_hom (cutL []) (by kernel_rfl) (by kernel_rfl) k_impl_Category_hom (by decide) (fun x K => W_impl_Category_hom x.1 x.2.1 x.2.2.1 K) w_impl_Category_hom (fun x h1 h2 => m_impl_Category_hom x.1 x.2.1 x.2.2.1 h1 h2)
def idemR (c : CategoryD) : List Int := selR c.2.1.length fun e => compR c e e == e
def c_impl_Category_idempotents : Ct := ⟨[(.pt CategoryT)], [false], fun x => [ShapeP x.1], [(false, (.fz (.sl (.int .i64))))], fun x => (idemR x.1, ()), true, none⟩
def an_impl_Category_idempotents : Ann := (.s .n (.s .n (.s (.s .n (.l [(3, (.ref 800003 [])), (11, (.d (.int .i64)))] [(800003, (.sl (.fz (.int .i64))))] [0, 10] (.s .n (.s .n (.s (.s .n (.s .n (.j [(3, (.ref 800003 []))] [(800003, (.sl (.fz (.int .i64))))] [0, 10, 11] .n))) .n))))) .n)))
def W_impl_Category_idempotents (c : CategoryD) (K : (List Int) × Unit -> Prop) : Prop := (loopW (S := ((Unit × (Int × Unit)) × ((List Int) × Unit))) (fun s => (fun next => ((inK .i64 s.1.2.1) -> ((T.ok (.sl (.int .i64)) s.2.1) -> (cnd (decide (s.1.2.1 < ((c.2.1.length : Nat) : Int))) ((0 <= s.1.2.1) /\ ((s.1.2.1 < ((c.2.2.2.2.length : Nat) : Int)) /\ ((0 <= s.1.2.1) /\ ((s.1.2.1 < (((List.length (List.getD c.2.2.2.2 s.1.2.1.toNat [])) : Nat) : Int)) /\ (joinW (S := ((Unit × Unit) × ((List Int) × Unit))) (fun s1 => ((T.ok (.sl (.int .i64)) s1.2.1) -> ((inK .i64 (s.1.2.1 + 1)) /\ (next (((), ((s.1.2.1 + 1), ())), (s1.2.1, ())))))) (fun k => (cnd ((List.getD (List.getD c.2.2.2.2 s.1.2.1.toNat []) s.1.2.1.toNat 0) == s.1.2.1) ((room s.2.1.length (List.length (s.1.2.1 :: [])) 8) /\ (k (((), ()), ((s.2.1 ++ (s.1.2.1 :: [])), ())))) (k (((), ()), (s.2.1, ())))))))))) (K (s.2.1, ()))))))) (((), (0, ())), ([], ())))
theorem w_impl_Category_idempotents (x : denL c_impl_Category_idempotents.args) (K : (List Int) × Unit -> Prop) : evF tab (lkp []) (cutL []) Try.f110 (bodyOf Try.f110) an_impl_Category_idempotents c_impl_Category_idempotents x K = W_impl_Category_idempotents x.1 K := by kernel_rfl
theorem k_impl_Category_idempotents : okC Try.f110.ntmps (cutL []) (bodyOf Try.f110) = true := by kernel_rfl
theorem m_impl_Category_idempotents (c : CategoryD) (hok : allP (okL c_impl_Category_idempotents.args (c, ()))) (hpre : allP (c_impl_Category_idempotents.pre (c, ()))) : W_impl_Category_idempotents c (fun r => r = c_impl_Category_idempotents.res (c, ())) := by
 simp only [c_impl_Category_idempotents, okL, T.oks, T.ok, ap, allP, true_and, and_true, implies_true] at hok hpre
 try dsimp only [T.den] at hok
 try dsimp only [T.den] at hpre
 unfold W_impl_Category_idempotents
 have S : ShapeP c := hpre
 have hm := S.m
 have hlc := S.lc
 refine loop_sel c.2.1.length (fun e => compR c e e == e) ?_ ?_
 ·intro i out next i0 i1 hn hl _ _
  try dsimp only at hn ⊢
  have hr := S.row i i0 i1
  refine cnd_d (fun _ => ⟨i0, by omega, i0, by omega, join_add (if (compR c i i == i) = true then out ++ [i] else out) (fun s hs _ => ⟨by rw [inK64]; (try dsimp only); omega, hn _ hs⟩) (fun k hk => ?_)⟩) (fun h => absurd i1 h)
  show cnd (compR c i i == i) _ _
  exact cnd_of (fun hx => ⟨room_of (by simp only [List.length_cons, List.length_nil]; omega), hk _ (by rw [if_pos hx])⟩) (fun hx => hk _ (by rw [if_neg (by rw [hx]; simp)]))
 ·intro next _ _
  refine cnd_d (fun h => absurd h (Int.lt_irrefl _)) (fun _ => ?_)
  simp only [c_impl_Category_idempotents, idemR]
theorem ct_impl_Category_idempotents : CtOk Try.prog 110 c_impl_Category_idempotents :=
 ct_by (Φ := lkp []) good_nil tab_ok (by kernel_rfl) (fn := Try.f110) (c := bodyOf Try.f110) (by kernel_rfl) (by kernel_rfl) (by kernel_rfl) c_impl_Category_idempotents rfl an_impl_Category_idempotents (cutL []) (by kernel_rfl) (by kernel_rfl) k_impl_Category_idempotents (by decide) (fun x K => W_impl_Category_idempotents x.1 K) w_impl_Category_idempotents (fun x h1 h2 => m_impl_Category_idempotents x.1 h1 h2)
def idxR {α : Type} [DecidableEq α] : List α -> α -> Int
 | [], _ => -1
 | a :: r, x => if a = x then 0 else (if idxR r x < 0 then -1 else idxR r x + 1)
theorem idx_p {α : Type} [DecidableEq α] (z : α) : ∀ {l : List α} {x : α}, (x ∈ l -> 0 <= idxR l x /\ idxR l x < l.length /\ l.getD (idxR l x).toNat z = x /\ ∀ i : Int, 0 <= i -> i < idxR l x -> l.getD i.toNat z ≠ x) /\ (x ∉ l -> idxR l x = -1)
 | [], x => by simp [idxR]
 | a :: r, x => by
  have ih := @idx_p α _ z r x
  rw [idxR]
  by_cases h : a = x
  ·subst h
   simp only [if_true, List.mem_cons, true_or, not_true_eq_false, false_implies, and_true, true_implies]
   exact ⟨Int.le_refl _, by simp, rfl, fun i i0 i1 => by omega⟩
  ·rw [if_neg h]
   simp only [List.mem_cons, not_or]
   refine ⟨fun hm => ?_, fun hm => ?_⟩
   ·have hm : x ∈ r := hm.resolve_left fun e => h e.symm
    obtain ⟨h0, h1, h2, h3⟩ := ih.1 hm
    rw [if_neg (by omega)]
    have e : (idxR r x + 1).toNat = (idxR r x).toNat + 1 := by omega
    refine ⟨by omega, by simp only [List.length_cons]; omega, by rw [e, List.getD_cons_succ]; exact h2, fun i i0 i1 => ?_⟩
    by_cases hi : i = 0
    ·rw [hi]; exact h
    ·have e : i.toNat = (i - 1).toNat + 1 := by omega
     rw [e, List.getD_cons_succ]
     exact h3 (i - 1) (by omega) (by omega)
   ·rw [ih.2 hm.2, if_pos (by omega)]
theorem idx_at {α : Type} [DecidableEq α] {z : α} {l : List α} {x : α} {i : Int} (i0 : 0 <= i) (i1 : i < l.length) (h : l.getD i.toNat z = x) (hn : ∀ k : Int, 0 <= k -> k < i -> l.getD k.toNat z ≠ x) : idxR l x = i := by
 have hm : x ∈ l := h ▸ getD_mem l z i0 i1
 obtain ⟨h0, h1, h2, h3⟩ := (idx_p z).1 hm
 rcases Int.lt_trichotomy (idxR l x) i with hl | hl | hl
 ·exact absurd h2 (hn _ h0 hl)
 ·exact hl
 ·exact absurd h (h3 i i0 hl)
theorem idx_no {α : Type} [DecidableEq α] {z : α} {l : List α} {x : α} (hn : ∀ k : Int, 0 <= k -> k < l.length -> l.getD k.toNat z ≠ x) : idxR l x = -1 := by
 refine (idx_p z).2 fun hm => ?_
 obtain ⟨h0, h1, h2, _⟩ := (idx_p z).1 hm
 exact hn _ h0 h1 h2
def idx3R (s : List (Int × Int × Int)) (v : Int × Int × Int) : Int := idxR s v
def c_slices_Index_3_int64_3_int64 : Ct := ⟨[(.sl (.p (.int .i64) (.p (.int .i64) (.int .i64)))), (.p (.int .i64) (.p (.int .i64) (.int .i64)))], [false, true], fun x => [], [(false, (.fz (.int .i64)))], fun x => (idx3R x.1 x.2.1, ()), false, none⟩
def an_slices_Index_3_int64_3_int64 : Ann := (.s .n (.s (.s .n (.l [(8, (.d (.int .i64)))] [] [0, 3, 7] .n)) .n))
def W_slices_Index_3_int64_3_int64 (s : List (Int × (Int × Int))) (v : Int × (Int × Int)) (K : Int × Unit -> Prop) : Prop := (loopW (S := ((Int × Unit) × Unit)) (fun s1 => (fun next => ((inK .i64 s1.1.1) -> (cnd (decide (s1.1.1 < ((s.length : Nat) : Int))) ((0 <= s1.1.1) /\ ((s1.1.1 < ((s.length : Nat) : Int)) /\ (cnd ((v.1 == (List.getD s s1.1.1.toNat (0, (0, 0))).1) && ((v.2.1 == (List.getD s s1.1.1.toNat (0, (0, 0))).2.1) && (v.2.2 == (List.getD s s1.1.1.toNat (0, (0, 0))).2.2))) (K (s1.1.1, ())) ((inK .i64 (s1.1.1 + 1)) /\ (next (((s1.1.1 + 1), ()), ())))))) (K ((-1), ())))))) ((0, ()), ()))
theorem w_slices_Index_3_int64_3_int64 (x : denL c_slices_Index_3_int64_3_int64.args) (K : Int × Unit -> Prop) : evF tab (lkp []) (cutL [(4, 5)]) Try.f150 (bodyOf Try.f150) an_slices_Index_3_int64_3_int64 c_slices_Index_3_int64_3_int64 x K = W_slices_Index_3_int64_3_int64 x.1 x.2.1 K := by kernel_rfl
theorem k_slices_Index_3_int64_3_int64 : okC Try.f150.ntmps (cutL [(4, 5)]) (bodyOf Try.f150) = true := by kernel_rfl
theorem m_slices_Index_3_int64_3_int64 (s : List (Int × (Int × Int))) (v : Int × (Int × Int)) (hok : allP (okL c_slices_Index_3_int64_3_int64.args (s, v, ()))) (hpre : allP (c_slices_Index_3_int64_3_int64.pre (s, v, ()))) : W_slices_Index_3_int64_3_int64 s v (fun r => r = c_slices_Index_3_int64_3_int64.res (s, v, ())) := by
 simp only [c_slices_Index_3_int64_3_int64, okL, T.oks, T.ok, ap, allP, true_and, and_true, implies_true] at hok hpre
 try dsimp only [T.den] at hok
 try dsimp only [T.den] at hpre
 unfold W_slices_Index_3_int64_3_int64
 have hl : s.length <= 140737488355328 := by simp only [nb_eq] at hok; omega
 clear hok
 refine loop_ix (n := s.length) (fun i => ∀ k : Int, 0 <= k -> k < i -> s.getD k.toNat (0, (0, 0)) ≠ v) (by omega) (by intro k h0 h1; omega) ?_ ?_
 ·intro i next i0 i1 hP hn _
  try dsimp only
  refine cnd_d (fun _ => ⟨i0, i1, cnd_of (fun hx => ?_) (fun hx => ⟨by rw [inK64]; (try dsimp only); omega, hn fun k k0 k1 => ?_⟩)⟩) (fun h => absurd i1 h)
  ·simp only [Bool.and_eq_true, beq_iff_eq] at hx
   have : idx3R s v = i := idx_at (z := ((0, (0, 0)) : Int × Int × Int)) i0 i1 (Prod.ext hx.1.symm (Prod.ext hx.2.1.symm hx.2.2.symm)) hP
   simp only [c_slices_Index_3_int64_3_int64, this]
  ·by_cases hk : k = i
   ·subst hk
    intro e
    rw [e] at hx
    simp at hx
   ·exact hP k k0 (by omega)
 ·intro next hP _
  refine cnd_d (fun h => absurd h (Int.lt_irrefl _)) (fun _ => ?_)
  have : idx3R s v = -1 := idx_no (z := ((0, (0, 0)) : Int × Int × Int)) hP
  simp only [c_slices_Index_3_int64_3_int64, this]
theorem ct_slices_Index_3_int64_3_int64 : CtOk Try.prog 150 c_slices_Index_3_int64_3_int64 :=
 ct_by (Φ := lkp []) good_nil tab_ok (by kernel_rfl) (fn := Try.f150) (c := bodyOf Try.f150) (by kernel_rfl) (by kernel_rfl) (by kernel_rfl) c_slices_Index_3_int64_3_int64 rfl an_slices_Index_3_int64_3_int64 (cutL [(4, 5)]) (by kernel_rfl) (by kernel_rfl) k_slices_Index_3_int64_3_int64 (by decide) (fun x K => W_slices_Index_3_int64_3_int64 x.1 x.2.1 K) w_slices_Index_3_int64_3_int64 (fun x h1 h2 => m_slices_Index_3_int64_3_int64 x.1 x.2.1 h1 h2)
def c_impl_index_3_int64 : Ct := ⟨[(.sl (.p (.int .i64) (.p (.int .i64) (.int .i64)))), (.p (.int .i64) (.p (.int .i64) (.int .i64)))], [false, true], fun x => [], [(false, (.fz (.int .i64)))], fun x => (idx3R x.1 x.2.1, ()), false, none⟩
def ph_impl_index_3_int64 : FuncId -> Option Ct := lkp [(150, c_slices_Index_3_int64_3_int64)]
def W_impl_index_3_int64 (list : List (Int × (Int × Int))) (x : Int × (Int × Int)) (K : Int × Unit -> Prop) : Prop := (K ((idx3R list x), ()))
theorem w_impl_index_3_int64 (x : denL c_impl_index_3_int64.args) (K : Int × Unit -> Prop) : evF tab ph_impl_index_3_int64 (cutL []) Try.f134 (bodyOf Try.f134) .n c_impl_index_3_int64 x K = W_impl_index_3_int64 x.1 x.2.1 K := by kernel_rfl
theorem k_impl_index_3_int64 : okC Try.f134.ntmps (cutL []) (bodyOf Try.f134) = true := by kernel_rfl
theorem m_impl_index_3_int64 (list : List (Int × (Int × Int))) (x : Int × (Int × Int)) (hok : allP (okL c_impl_index_3_int64.args (list, x, ()))) (hpre : allP (c_impl_index_3_int64.pre (list, x, ()))) : W_impl_index_3_int64 list x (fun r => r = c_impl_index_3_int64.res (list, x, ())) := by
 simp only [c_impl_index_3_int64, okL, T.oks, T.ok, ap, allP, true_and, and_true, implies_true] at hok hpre
 try dsimp only [T.den] at hok
 try dsimp only [T.den] at hpre
 unfold W_impl_index_3_int64
 rfl
theorem ct_impl_index_3_int64 : CtOk Try.prog 134 c_impl_index_3_int64 :=
 ct_by (Φ := ph_impl_index_3_int64) (good_cons ct_slices_Index_3_int64_3_int64 good_nil) tab_ok (by kernel_rfl) (fn := Try.f134) (c := bodyOf Try.f134) (by kernel_rfl) (by kernel_rfl) (by kernel_rfl) c_impl_index_3_int64 rfl .n (cutL []) (by kernel_rfl) (by kernel_rfl) k_impl_index_3_int64 (by decide) (fun x K => W_impl_index_3_int64 x.1 x.2.1 K) w_impl_index_3_int64 (fun x h1 h2 => m_impl_index_3_int64 x.1 x.2.1 h1 h2)
def c_impl_completion_arrow : Ct := ⟨[(.pt completionT), (.int .i64), (.int .i64), (.int .i64)], [false, false, false, false], fun x => [], [(false, (.fz (.int .i64)))], fun x => (idx3R x.1.2.2 (x.2.1, x.2.2.1, x.2.2.2.1), ()), false, none⟩
def W_impl_completion_arrow (k : completionD) (i : Int) (j : Int) (f : Int) (K : Int × Unit -> Prop) : Prop := (K ((idx3R k.2.2 (i, (j, f))), ()))
theorem w_impl_completion_arrow (x : denL c_impl_completion_arrow.args) (K : Int × Unit -> Prop) : evF tab (lkp [(134, c_impl_index_3_int64)]) (cutL []) Try.f112 (bodyOf Try.f112) .n c_impl_completion_arrow x K = W_impl_completion_arrow x.1 x.2.1 x.2.2.1 x.2.2.2.1 K := by kernel_rfl
theorem k_impl_completion_arrow : okC Try.f112.ntmps (cutL []) (bodyOf Try.f112) = true := by kernel_rfl
theorem m_impl_completion_arrow (k : completionD) (i : Int) (j : Int) (f : Int) (hok : allP (okL c_impl_completion_arrow.args (k, i, j, f, ()))) (hpre : allP (c_impl_completion_arrow.pre (k, i, j, f, ()))) : W_impl_completion_arrow k i j f (fun r => r = c_impl_completion_arrow.res (k, i, j, f, ())) := by
 simp only [c_impl_completion_arrow, okL, T.oks, T.ok, ap, allP, true_and, and_true, implies_true] at hok hpre
 try dsimp only [T.den] at hok
 try dsimp only [T.den] at hpre
 unfold W_impl_completion_arrow
 rfl
theorem ct_impl_completion_arrow : CtOk Try.prog 112 c_impl_completion_arrow :=
 ct_by (Φ := lkp [(134, c_impl_index_3_int64)]) (good_cons ct_impl_index_3_int64 good_nil) tab_ok (by kernel_rfl) (fn := Try.f112) (c := bodyOf Try.f112) (by kernel_rfl) (by kernel_rfl) (by kernel_rfl) c_impl_completion_arrow rfl .n (cutL []) (by kernel_rfl) (by kernel_rfl) k_impl_completion_arrow (by decide) (fun x K => W_impl_completion_arrow x.1 x.2.1 x.2.2.1 x.2.2.2.1 K) w_impl_completion_arrow (fun x h1 h2 => m_impl_completion_arrow x.1 x.2.1 x.2.2.1 x.2.2.2.1 h1 h2)
structure ArrP (c : CategoryD) (l : List (Int × Int × Int)) : Prop where
 at_ : ∀ i : Int, 0 <= i -> i < l.length -> 0 <= (l.getD i.toNat (0, (0, 0))).2.2 /\ (l.getD i.toNat (0, (0, 0))).2.2 < c.2.1.length
def cmpFR (c : CategoryD) (l : List (Int × Int × Int)) (a b : Int) : Int := idx3R l ((l.getD a.toNat (0, (0, 0))).1, (l.getD b.toNat (0, (0, 0))).2.1, compR c (l.getD a.toNat (0, (0, 0))).2.2 (l.getD b.toNat (0, (0, 0))).2.2)
def c_impl_Category_completed_1 : Ct := ⟨[(.int .i64), (.int .i64), (.pt (.pt completionT)), (.pt (.pt CategoryT))], [false, false, false, false], fun x => [ShapeP x.2.2.2.1, ArrP x.2.2.2.1 x.2.2.1.2.2, 0 <= x.1, x.1 < x.2.2.1.2.2.length, 0 <= x.2.1, x.2.1 < x.2.2.1.2.2.length], [(false, (.fz (.int .i64)))], fun x => (cmpFR x.2.2.2.1 x.2.2.1.2.2 x.1 x.2.1, ()), false, none⟩
def ph_impl_Category_completed_1 : FuncId -> Option Ct := lkp [(112, c_impl_completion_arrow), (67, c_impl_Category_then)]
def W_impl_Category_completed_1 (a : Int) (b : Int) (k : completionD) (c : CategoryD) (K : Int × Unit -> Prop) : Prop := ((0 <= a) /\ ((a < ((k.2.2.length : Nat) : Int)) /\ ((0 <= b) /\ ((b < ((k.2.2.length : Nat) : Int)) /\ (((0 : Int) <= 0) /\ ((0 < ((3 : Nat) : Int)) /\ (((0 : Int) <= 1) /\ ((1 < ((3 : Nat) : Int)) /\ (((0 : Int) <= 2) /\ ((2 < ((3 : Nat) : Int)) /\ (((0 : Int) <= 2) /\ ((2 < ((3 : Nat) : Int)) /\ ((0 <= (List.getD k.2.2 a.toNat (0, (0, 0))).2.2) /\ (((List.getD k.2.2 a.toNat (0, (0, 0))).2.2 < ((c.2.2.2.2.length : Nat) : Int)) /\ ((0 <= (List.getD k.2.2 b.toNat (0, (0, 0))).2.2) /\ (((List.getD k.2.2 b.toNat (0, (0, 0))).2.2 < (((List.length (List.getD c.2.2.2.2 (Int.toNat (List.getD k.2.2 a.toNat (0, (0, 0))).2.2) [])) : Nat) : Int)) /\ (K ((idx3R k.2.2 ((List.getD k.2.2 a.toNat (0, (0, 0))).1, ((List.getD k.2.2 b.toNat (0, (0, 0))).2.1, (compR c (List.getD k.2.2 a.toNat (0, (0, 0))).2.2 (List.getD k.2.2 b.toNat (0, (0, 0))).2.2)))), ()))))))))))))))))))
theorem w_impl_Category_completed_1 (x : denL c_impl_Category_completed_1.args) (K : Int × Unit -> Prop) : evF tab ph_impl_Category_completed_1 (cutL [(1, 2016), (2, 511)]) Try.f113 (bodyOf Try.f113) .n c_impl_Category_completed_1 x K = W_impl_Category_completed_1 x.1 x.2.1 x.2.2.1 x.2.2.2.1 K := by kernel_rfl
theorem k_impl_Category_completed_1 : okC Try.f113.ntmps (cutL [(1, 2016), (2, 511)]) (bodyOf Try.f113) = true := by kernel_rfl
theorem m_impl_Category_completed_1 (a : Int) (b : Int) (k : completionD) (c : CategoryD) (hok : allP (okL c_impl_Category_completed_1.args (a, b, k, c, ()))) (hpre : allP (c_impl_Category_completed_1.pre (a, b, k, c, ()))) : W_impl_Category_completed_1 a b k c (fun r => r = c_impl_Category_completed_1.res (a, b, k, c, ())) := by
 simp only [c_impl_Category_completed_1, okL, T.oks, T.ok, ap, allP, true_and, and_true, implies_true] at hok hpre
 try dsimp only [T.den] at hok
 try dsimp only [T.den] at hpre
 unfold W_impl_Category_completed_1
 obtain ⟨S, A, a0, a1, b0, b1⟩ := hpre
 have ha := A.at_ a a0 a1
 have hb := A.at_ b b0 b1
 have hr := S.row _ ha.1 ha.2
 have hlc := S.lc
 refine ⟨a0, a1, b0, b1, by omega, by omega, by omega, by omega, by omega, by omega, by omega, by omega, ha.1, by rw [hlc]; exact ha.2, hb.1, by rw [hr]; exact hb.2, rfl⟩
theorem ct_impl_Category_completed_1 : CtOk Try.prog 113 c_impl_Category_completed_1 :=
 ct_by (Φ := ph_impl_Category_completed_1) (good_cons ct_impl_completion_arrow (good_cons ct_impl_Category_then good_nil)) tab_ok (by kernel_rfl) (fn := Try.f113) (c := bodyOf Try.f113) (by kernel_rfl) (by kernel_rfl) (by kernel_rfl) c_impl_Category_completed_1 rfl .n (cutL [(1, 2016), (2, 511)]) (by kernel_rfl) (by kernel_rfl) k_impl_Category_completed_1 (by decide) (fun x K => W_impl_Category_completed_1 x.1 x.2.1 x.2.2.1 x.2.2.2.1 K) w_impl_Category_completed_1 (fun x h1 h2 => m_impl_Category_completed_1 x.1 x.2.1 x.2.2.1 x.2.2.2.1 h1 h2)
structure TabRP (o : CategoryD) (a : List Int) (c : CategoryD) (b : List Int) : Prop where
 sh : ShapeP c
 lb : b.length = c.2.1.length
 wb : withinR b c.2.1.length = true
 la : a.length = c.2.1.length
 lo : o.2.1.length = c.2.1.length
 lt : o.2.2.1.length = c.2.1.length
 co : ∀ f g : Int, 0 <= f -> f < c.2.1.length -> 0 <= g -> g < c.2.1.length -> o.2.2.1.getD f.toNat 0 = o.2.1.getD g.toNat 0 -> c.2.2.1.getD (b.getD f.toNat 0).toNat 0 = c.2.1.getD (b.getD g.toNat 0).toNat 0
def tabFR (o : CategoryD) (F : Int -> Int -> Int) (f g : Int) : Int := if o.2.2.1.getD f.toNat 0 = o.2.1.getD g.toNat 0 then F f g else -1
def tableR (o : CategoryD) (F : Int -> Int -> Int) : List (List Int) := tabN o.2.1.length fun f => tabN o.2.1.length fun g => tabFR o F f g
def tbT (F : Int -> Int -> Int) (n : Nat) (i j : Int) : List (List Int) := tabN n fun e => if e = i then (tabN n fun g => if g < j then F i g else 0) else if e < i then tabN n (F e) else []
theorem tbT_len {F : Int -> Int -> Int} {n : Nat} {i j : Int} : (tbT F n i j).length = n := tabN_len _
theorem tbT_row {F : Int -> Int -> Int} {n : Nat} {i j : Int} (i0 : 0 <= i) (i1 : i < n) : (tbT F n i j).getD i.toNat [] = tabN n fun g => if g < j then F i g else 0 := by
 unfold tbT; rw [tabN_get i0 i1, if_pos rfl]
theorem tbT_s {F : Int -> Int -> Int} {n : Nat} {i j : Int} (i0 : 0 <= i) (i1 : i < n) (j0 : 0 <= j) (j1 : j < n) : (tbT F n i j).set i.toNat (((tbT F n i j).getD i.toNat []).set j.toNat (F i j)) = tbT F n i (j + 1) := by
 rw [tbT_row i0 i1, tab_set j0 j1]
 unfold tbT
 rw [tab_set i0 i1]
 refine tabN_congr fun e _ _ => ?_
 by_cases h : e = i
 ·rw [if_pos h, if_pos h]
  refine tabN_congr fun g _ _ => ?_
  by_cases hg : g = j
  ·rw [if_pos hg, if_pos (by omega), hg]
  ·rw [if_neg hg]
   by_cases h2 : g < j
   ·rw [if_pos h2, if_pos (by omega)]
   ·rw [if_neg h2, if_neg (by omega)]
 ·rw [if_neg h, if_neg h, if_neg h]
theorem set_twice {A : List (List Int)} {i j : Nat} {w v : Int} (h : i < A.length) : (A.set i ((A.getD i []).set j w)).set i (((A.set i ((A.getD i []).set j w)).getD i []).set j v) = A.set i ((A.getD i []).set j v) := by
 rw [set_getD _ _ _ _ _ h, if_pos rfl, List.set_set, List.set_set]
theorem tbT_0 {F : Int -> Int -> Int} {n : Nat} {i : Int} (i0 : 0 <= i) (i1 : i < n) : (tabN n fun e => if e < i then tabN n (F e) else []).set i.toNat (tabN n fun _ => 0) = tbT F n i 0 := by
 rw [tab_set i0 i1]
 unfold tbT
 refine tabN_congr fun e _ _ => ?_
 by_cases h : e = i
 ·rw [if_pos h, if_pos h]; exact tabN_congr fun g g0 _ => by rw [if_neg (by omega)]
 ·rw [if_neg h, if_neg h]
theorem tbT_n {F : Int -> Int -> Int} {n : Nat} {i : Int} : tbT F n i n = tabN n fun e => if e < i + 1 then tabN n (F e) else [] := by
 unfold tbT
 refine tabN_congr fun e _ _ => ?_
 by_cases h : e = i
 ·rw [if_pos h, if_pos (by omega), h]; exact tabN_congr fun g _ g1 => by rw [if_pos g1]
 ·rw [if_neg h]
  by_cases h2 : e < i
  ·rw [if_pos h2, if_pos (by omega)]
  ·rw [if_neg h2, if_neg (by omega)]
structure CmpP (k : completionD) (c : CategoryD) : Prop where
 sh : ShapeP c
 ar : ArrP c k.2.2
 lf : k.1.2.1.length = k.2.2.length
 lt : k.1.2.2.1.length = k.2.2.length
 le : k.2.2.length <= 40
theorem loop_ixv {Z Y : Type} {n : Int} (z : Z) (y : Int -> Y) {y0 : Y} {body : (Unit × ((Unit × (Z × Unit)) × (Int × Unit))) × (Y × Unit) -> ((Unit × ((Unit × (Z × Unit)) × (Int × Unit))) × (Y × Unit) -> Prop) -> Prop} (hn0 : 0 <= n) (h0 : y0 = y 0)
  (hs : ∀ i next, 0 <= i -> i < n -> next (((), (((), (z, ())), (i + 1, ()))), (y (i + 1), ())) -> body (((), (((), (z, ())), (i, ()))), (y i, ())) next)
  (he : ∀ next, body (((), (((), (z, ())), (n, ()))), (y n, ())) next) : loopW body (((), (((), (z, ())), (0, ()))), (y0, ())) := by
 refine loop_of (fun s => s.1.2.1.2.1 = z /\ s.2.1 = y s.1.2.2.1 /\ 0 <= s.1.2.2.1 /\ s.1.2.2.1 <= n) (fun s => (n - s.1.2.2.1).toNat) ?_ ⟨rfl, h0, Int.le_refl _, hn0⟩
 rintro ⟨⟨_, ⟨_, q, _⟩, i, _⟩, t, _⟩ next ⟨hz, hy, h1, h2⟩ hnx
 dsimp only at hz hy h1 h2 hnx
 subst hz
 subst hy
 by_cases e : i = n
 ·subst e; exact he next
 ·exact hs i next h1 (by omega) (hnx _ ⟨rfl, rfl, by dsimp only; omega, by dsimp only; omega⟩ (by dsimp only; omega))
def w0_impl_Category_table_comp : Wa := ⟨(.pt (.p (.p (.fz (.int .i64)) (.p (.sl (.fz (.int .i64))) (.p (.sl (.fz (.int .i64))) (.p (.sl (.fz (.int .i64))) (.sl (.sl (.fz (.int .i64)))))))) (.p (.fz (.sl (.int .i64))) (.fz (.sl (.p (.int .i64) (.p (.int .i64) (.int .i64)))))))), [.de, .l], [(.fn 113 (.p (.pt .any) (.p (.pt (.pt CategoryT)) .u)))], fun x y => [CmpP x y.1.2.1], fun x y => ((x.1.1, x.1.2.1, x.1.2.2.1, x.1.2.2.2.1, tableR x.1 (cmpFR y.1.2.1 x.2.2)), x.2)⟩
def c_impl_Category_table_comp : Ct := waCt w0_impl_Category_table_comp
def an_impl_Category_table_comp : Ann := (.s .n (.s .n (.s .n (.l [(0, (.ad 1000000 [.de, .l])), (1, (.fc 113 (.pr (.bx (.ad 1000000 [.de])) (.pr (.d (.pt (.pt (.p (.int .i64) (.p (.sl (.int .i64)) (.p (.sl (.int .i64)) (.p (.sl (.int .i64)) (.sl (.sl (.int .i64)))))))))) .u)))), (19, (.d (.int .i64)))] [(1000000, (.pt (.p (.p (.fz (.int .i64)) (.p (.sl (.fz (.int .i64))) (.p (.sl (.fz (.int .i64))) (.p (.sl (.fz (.int .i64))) (.sl (.sl (.fz (.int .i64)))))))) (.p (.fz (.sl (.int .i64))) (.fz (.sl (.p (.int .i64) (.p (.int .i64) (.int .i64)))))))))] [4, 18] (.s .n (.s .n (.s (.s .n (.s .n (.s .n (.l [(0, (.ad 1000000 [.de, .l])), (1, (.fc 113 (.pr (.bx (.ad 1000000 [.de])) (.pr (.d (.pt (.pt (.p (.int .i64) (.p (.sl (.int .i64)) (.p (.sl (.int .i64)) (.p (.sl (.int .i64)) (.sl (.sl (.int .i64)))))))))) .u)))), (38, (.d (.int .i64)))] [(1000000, (.pt (.p (.p (.fz (.int .i64)) (.p (.sl (.fz (.int .i64))) (.p (.sl (.fz (.int .i64))) (.p (.sl (.fz (.int .i64))) (.sl (.sl (.fz (.int .i64)))))))) (.p (.fz (.sl (.int .i64))) (.fz (.sl (.p (.int .i64) (.p (.int .i64) (.int .i64)))))))))] [4, 5, 18, 19, 37] (.s .n (.s .n (.s (.s .n (.s .n (.s .n (.j [(0, (.ad 1000000 [.de, .l])), (1, (.fc 113 (.pr (.bx (.ad 1000000 [.de])) (.pr (.d (.pt (.pt (.p (.int .i64) (.p (.sl (.int .i64)) (.p (.sl (.int .i64)) (.p (.sl (.int .i64)) (.sl (.sl (.int .i64)))))))))) .u))))] [(1000000, (.pt (.p (.p (.fz (.int .i64)) (.p (.sl (.fz (.int .i64))) (.p (.sl (.fz (.int .i64))) (.p (.sl (.fz (.int .i64))) (.sl (.sl (.fz (.int .i64)))))))) (.p (.fz (.sl (.int .i64))) (.fz (.sl (.p (.int .i64) (.p (.int .i64) (.int .i64)))))))))] [4, 5, 18, 19, 37, 38] .n)))) .n))))))) .n)))))))
def ph_impl_Category_table_comp : FuncId -> Option Ct := lkp [(113, c_impl_Category_completed_1), (40, c_impl_Category_arrows)]
def W_impl_Category_table_comp (c : completionD) (composite : Unit × (CategoryD × Unit)) (K : completionD -> Prop) : Prop := ((0 <= ((c.1.2.1.length : Nat) : Int)) /\ ((((c.1.2.1.length : Nat) : Int) <= ((c.1.2.1.length : Nat) : Int)) /\ ((((c.1.2.1.length : Nat) : Int) <= ((140737488355328 : Nat) : Int)) /\ (((((c.1.2.1.length : Nat) : Int) * ((24 : Nat) : Int)) <= ((140737488355328 : Nat) : Int)) /\ (loopW (S := ((Unit × ((Unit × ((Int × ((List Int) × ((List Int) × ((List Int) × (List (List Int)))))) × Unit)) × (Int × Unit))) × (((Int × ((List Int) × ((List Int) × ((List Int) × (List (List Int)))))) × ((List Int) × (List (Int × (Int × Int))))) × Unit))) (fun s => (fun next => ((inK .i64 s.1.2.1.2.1.1) -> ((T.ok (.sl (.int .i64)) s.1.2.1.2.1.2.1) -> ((T.ok (.sl (.int .i64)) s.1.2.1.2.1.2.2.1) -> ((T.ok (.sl (.int .i64)) s.1.2.1.2.1.2.2.2.1) -> ((T.ok (.sl (.sl (.int .i64))) s.1.2.1.2.1.2.2.2.2) -> ((inK .i64 s.1.2.2.1) -> ((inK .i64 s.2.1.1.1) -> ((T.ok (.sl (.int .i64)) s.2.1.1.2.1) -> ((T.ok (.sl (.int .i64)) s.2.1.1.2.2.1) -> ((T.ok (.sl (.int .i64)) s.2.1.1.2.2.2.1) -> ((T.ok (.sl (.sl (.int .i64))) s.2.1.1.2.2.2.2) -> ((T.ok (.sl (.int .i64)) s.2.1.2.1) -> ((T.ok (.sl tripleT) s.2.1.2.2) -> (cnd (decide (s.1.2.2.1 < (((List.length (List.replicate (Int.toNat ((c.1.2.1.length : Nat) : Int)) ([] :List Int))) : Nat) : Int))) ((0 <= ((c.1.2.1.length : Nat) : Int)) /\ ((((c.1.2.1.length : Nat) : Int) <= ((c.1.2.1.length : Nat) : Int)) /\ ((((c.1.2.1.length : Nat) : Int) <= ((140737488355328 : Nat) : Int)) /\ (((((c.1.2.1.length : Nat) : Int) * ((8 : Nat) : Int)) <= ((140737488355328 : Nat) : Int)) /\ ((0 <= s.1.2.2.1) /\ ((s.1.2.2.1 < ((s.2.1.1.2.2.2.2.length : Nat) : Int)) /\ ((0 <= s.1.2.2.1) /\ ((s.1.2.2.1 < (((List.length (List.set s.2.1.1.2.2.2.2 s.1.2.2.1.toNat (List.replicate (Int.toNat ((c.1.2.1.length : Nat) : Int)) (0 :Int)))) : Nat) : Int)) /\ (loopW (S := ((Unit × ((Unit × ((Int × ((List Int) × ((List Int) × ((List Int) × (List (List Int)))))) × Unit)) × (Int × Unit))) × (((Int × ((List Int) × ((List Int) × ((List Int) × (List (List Int)))))) × ((List Int) × (List (Int × (Int × Int))))) × Unit))) (fun s1 => (fun next1 => ((inK .i64 s1.1.2.1.2.1.1) -> ((T.ok (.sl (.int .i64)) s1.1.2.1.2.1.2.1) -> ((T.ok (.sl (.int .i64)) s1.1.2.1.2.1.2.2.1) -> ((T.ok (.sl (.int .i64)) s1.1.2.1.2.1.2.2.2.1) -> ((T.ok (.sl (.sl (.int .i64))) s1.1.2.1.2.1.2.2.2.2) -> ((inK .i64 s1.1.2.2.1) -> ((inK .i64 s1.2.1.1.1) -> ((T.ok (.sl (.int .i64)) s1.2.1.1.2.1) -> ((T.ok (.sl (.int .i64)) s1.2.1.1.2.2.1) -> ((T.ok (.sl (.int .i64)) s1.2.1.1.2.2.2.1) -> ((T.ok (.sl (.sl (.int .i64))) s1.2.1.1.2.2.2.2) -> ((T.ok (.sl (.int .i64)) s1.2.1.2.1) -> ((T.ok (.sl tripleT) s1.2.1.2.2) -> (cnd (decide (s1.1.2.2.1 < (((List.length (List.getD (List.set s.2.1.1.2.2.2.2 s.1.2.2.1.toNat (List.replicate (Int.toNat ((c.1.2.1.length : Nat) : Int)) (0 :Int))) s.1.2.2.1.toNat [])) : Nat) : Int))) ((0 <= s.1.2.2.1) /\ ((s.1.2.2.1 < ((s1.2.1.1.2.2.2.2.length : Nat) : Int)) /\ ((0 <= s1.1.2.2.1) /\ ((s1.1.2.2.1 < (((List.length (List.getD s1.2.1.1.2.2.2.2 s.1.2.2.1.toNat [])) : Nat) : Int)) /\ ((0 <= s.1.2.2.1) /\ ((s.1.2.2.1 < ((s1.2.1.1.2.2.1.length : Nat) : Int)) /\ ((0 <= s1.1.2.2.1) /\ ((s1.1.2.2.1 < ((s1.2.1.1.2.1.length : Nat) : Int)) /\ (joinW (S := ((Unit × ((Unit × ((Int × ((List Int) × ((List Int) × ((List Int) × (List (List Int)))))) × Unit)) × Unit)) × (((Int × ((List Int) × ((List Int) × ((List Int) × (List (List Int)))))) × ((List Int) × (List (Int × (Int × Int))))) × Unit))) (fun s2 => ((inK .i64 s2.1.2.1.2.1.1) -> ((T.ok (.sl (.int .i64)) s2.1.2.1.2.1.2.1) -> ((T.ok (.sl (.int .i64)) s2.1.2.1.2.1.2.2.1) -> ((T.ok (.sl (.int .i64)) s2.1.2.1.2.1.2.2.2.1) -> ((T.ok (.sl (.sl (.int .i64))) s2.1.2.1.2.1.2.2.2.2) -> ((inK .i64 s2.2.1.1.1) -> ((T.ok (.sl (.int .i64)) s2.2.1.1.2.1) -> ((T.ok (.sl (.int .i64)) s2.2.1.1.2.2.1) -> ((T.ok (.sl (.int .i64)) s2.2.1.1.2.2.2.1) -> ((T.ok (.sl (.sl (.int .i64))) s2.2.1.1.2.2.2.2) -> ((T.ok (.sl (.int .i64)) s2.2.1.2.1) -> ((T.ok (.sl tripleT) s2.2.1.2.2) -> ((inK .i64 (s1.1.2.2.1 + 1)) /\ (next1 (((), (((), (s2.1.2.1.2.1, ())), ((s1.1.2.2.1 + 1), ()))), (s2.2.1, ()))))))))))))))))) (fun k => (cnd ((List.getD s1.2.1.1.2.2.1 s.1.2.2.1.toNat 0) == (List.getD s1.2.1.1.2.1 s1.1.2.2.1.toNat 0)) ((0 <= s.1.2.2.1) /\ ((s.1.2.2.1 < (((List.length (List.set s1.2.1.1.2.2.2.2 s.1.2.2.1.toNat (List.set (List.getD s1.2.1.1.2.2.2.2 s.1.2.2.1.toNat []) s1.1.2.2.1.toNat (-1)))) : Nat) : Int)) /\ ((ShapeP s1.1.2.1.2.1) /\ ((ArrP s1.1.2.1.2.1 s1.2.1.2.2) /\ ((0 <= s.1.2.2.1) /\ ((s.1.2.2.1 < ((s1.2.1.2.2.length : Nat) : Int)) /\ ((0 <= s1.1.2.2.1) /\ ((s1.1.2.2.1 < ((s1.2.1.2.2.length : Nat) : Int)) /\ ((0 <= s1.1.2.2.1) /\ ((s1.1.2.2.1 < (((List.length (List.getD (List.set s1.2.1.1.2.2.2.2 s.1.2.2.1.toNat (List.set (List.getD s1.2.1.1.2.2.2.2 s.1.2.2.1.toNat []) s1.1.2.2.1.toNat (-1))) s.1.2.2.1.toNat [])) : Nat) : Int)) /\ (k (((), (((), (s1.1.2.1.2.1, ())), ())), (((s1.2.1.1.1, (s1.2.1.1.2.1, (s1.2.1.1.2.2.1, (s1.2.1.1.2.2.2.1, (List.set (List.set s1.2.1.1.2.2.2.2 s.1.2.2.1.toNat (List.set (List.getD s1.2.1.1.2.2.2.2 s.1.2.2.1.toNat []) s1.1.2.2.1.toNat (-1))) s.1.2.2.1.toNat (List.set (List.getD (List.set s1.2.1.1.2.2.2.2 s.1.2.2.1.toNat (List.set (List.getD s1.2.1.1.2.2.2.2 s.1.2.2.1.toNat []) s1.1.2.2.1.toNat (-1))) s.1.2.2.1.toNat []) s1.1.2.2.1.toNat (cmpFR s1.1.2.1.2.1 s1.2.1.2.2 s.1.2.2.1 s1.1.2.2.1))))))), s1.2.1.2), ()))))))))))))) (k (((), (((), (s1.1.2.1.2.1, ())), ())), (((s1.2.1.1.1, (s1.2.1.1.2.1, (s1.2.1.1.2.2.1, (s1.2.1.1.2.2.2.1, (List.set s1.2.1.1.2.2.2.2 s.1.2.2.1.toNat (List.set (List.getD s1.2.1.1.2.2.2.2 s.1.2.2.1.toNat []) s1.1.2.2.1.toNat (-1))))))), s1.2.1.2), ())))))))))))))) ((inK .i64 (s.1.2.2.1 + 1)) /\ (next (((), (((), (s1.1.2.1.2.1, ())), ((s.1.2.2.1 + 1), ()))), (s1.2.1, ())))))))))))))))))))) (((), (((), (s.1.2.1.2.1, ())), (0, ()))), (((s.2.1.1.1, (s.2.1.1.2.1, (s.2.1.1.2.2.1, (s.2.1.1.2.2.2.1, (List.set s.2.1.1.2.2.2.2 s.1.2.2.1.toNat (List.replicate (Int.toNat ((c.1.2.1.length : Nat) : Int)) (0 :Int))))))), s.2.1.2), ()))))))))))) (K s.2.1))))))))))))))))) (((), (((), (composite.2.1, ())), (0, ()))), (((c.1.1, (c.1.2.1, (c.1.2.2.1, (c.1.2.2.2.1, (List.replicate (Int.toNat ((c.1.2.1.length : Nat) : Int)) ([] :List Int)))))), c.2), ())))))))
theorem w_impl_Category_table_comp (x : w0_impl_Category_table_comp.o.strip.den) (y : denL w0_impl_Category_table_comp.as) (K : completionD -> Prop) : evFa tab ph_impl_Category_table_comp (cutL [(5, 507), (10, 14), (11, 12)]) Try.f87 (bodyOf Try.f87) an_impl_Category_table_comp w0_impl_Category_table_comp x y K = W_impl_Category_table_comp x y.1 K := by kernel_rfl
theorem k_impl_Category_table_comp : okC Try.f87.ntmps (cutL [(5, 507), (10, 14), (11, 12)]) (bodyOf Try.f87) = true := by kernel_rfl
theorem m_impl_Category_table_comp (c : completionD) (composite : Unit × (CategoryD × Unit)) (hok : allP (w0_impl_Category_table_comp.o.strip.oks c)) (hok2 : allP (okL w0_impl_Category_table_comp.as (composite, ()))) (hpre : allP (w0_impl_Category_table_comp.pre c (composite, ()))) : W_impl_Category_table_comp c composite (fun z => z = w0_impl_Category_table_comp.new c (composite, ())) := by
 simp only [w0_impl_Category_table_comp, O.strip, okL, T.oks, T.ok, ap, allP, true_and, and_true, implies_true] at hok hok2 hpre
 try dsimp only [T.den] at hok
 try dsimp only [T.den] at hok2
 try dsimp only [T.den] at hpre
 unfold W_impl_Category_table_comp
 obtain ⟨_, z, _⟩ := composite
 have P : CmpP c z := hpre
 have S := P.sh
 have A := P.ar
 have hlf := P.lf
 have hlt := P.lt
 have hle := P.le
 have hnew : ∀ q, q = tableR c.1 (cmpFR z c.2.2) -> ((c.1.1, c.1.2.1, c.1.2.2.1, c.1.2.2.2.1, q), c.2) = ((c.1.1, c.1.2.1, c.1.2.2.1, c.1.2.2.2.1, tableR c.1 (cmpFR z c.2.2)), c.2) := fun q h => by rw [h]
 clear hok hok2 hpre P
 try dsimp only
 have hR : tableR c.1 (cmpFR z c.2.2) = tabN c.1.2.1.length fun e => tabN c.1.2.1.length (tabFR c.1 (cmpFR z c.2.2) e) := rfl
 refine ⟨by omega, by omega, by omega, by omega, ?_⟩
 simp only [Int.toNat_natCast, tab_rep, tabN_len]
 generalize hn : c.1.2.1.length = n at *
 generalize hF : tabFR c.1 (cmpFR z c.2.2) = F at *
 refine loop_ixv (n := n) z (fun i => ((c.1.1, c.1.2.1, c.1.2.2.1, c.1.2.2.2.1, tabN n fun e => if e < i then tabN n (F e) else []), c.2)) (by omega) (congrArg (fun q => ((c.1.1, c.1.2.1, c.1.2.2.1, c.1.2.2.2.1, q), c.2)) (tabN_congr fun e h0 _ => by rw [if_neg (by omega)])) ?_ ?_
 ·intro i next i0 i1 hnx _ _ _ _ _ _ _ _ _ _ _ _ _
  try dsimp only
  refine cnd_d (fun _ => ⟨by omega, by omega, by omega, by omega, i0, by rw [tabN_len]; exact i1, i0, by rw [List.length_set, tabN_len]; exact i1, ?_⟩) (fun h => absurd i1 h)
  rw [tbT_0 i0 i1, tbT_row i0 i1, tabN_len]
  refine loop_ixv (n := n) z (fun j => ((c.1.1, c.1.2.1, c.1.2.2.1, c.1.2.2.2.1, tbT F n i j), c.2)) (by omega) rfl ?_ ?_
  ·intro j next2 j0 j1 hn2 _ _ _ _ _ _ _ _ _ _ _ _ _
   try dsimp only
   have hr : ((tbT F n i j).getD i.toNat []).length = n := by rw [tbT_row i0 i1, tabN_len]
   have hA : i.toNat < (tbT F n i j).length := by rw [tbT_len]; omega
   have hs2 := @set_twice (tbT F n i j) i.toNat j.toNat (-1) (F i j) hA
   have hs1 := @tbT_s F n i j i0 i1 j0 j1
   have hrow : (((tbT F n i j).set i.toNat (((tbT F n i j).getD i.toNat []).set j.toNat (-1))).getD i.toNat []).length = n := by rw [set_getD _ _ _ _ _ hA, if_pos rfl, List.length_set, hr]
   refine cnd_d (fun _ => ⟨i0, by rw [tbT_len]; exact i1, j0, by rw [hr]; exact j1, i0, by omega, j0, by omega, ?_⟩) (fun h => absurd j1 h)
   refine join_of (fun s2 => s2.1.2.1.2.1 = z /\ s2.2.1 = ((c.1.1, c.1.2.1, c.1.2.2.1, c.1.2.2.2.1, tbT F n i (j + 1)), c.2)) (fun s2 hs _ _ _ _ _ _ _ _ _ _ _ _ => ⟨by rw [inK64]; (try dsimp only); omega, by rw [hs.1, hs.2]; exact hn2⟩) (fun k hk => cnd_of (fun he => ?_) (fun he => hk _ ⟨rfl, ?_⟩))
   ·rw [beq_iff_eq] at he
    have hv : cmpFR z c.2.2 i j = F i j := by rw [← hF]; unfold tabFR; rw [if_pos he]
    refine ⟨i0, by rw [List.length_set, tbT_len]; exact i1, S, A, i0, by omega, j0, by omega, j0, by rw [hrow]; exact j1, hk _ ⟨rfl, ?_⟩⟩
    try dsimp only
    rw [hv, hs2, hs1]
   ·have hv : F i j = -1 := by rw [← hF]; unfold tabFR; rw [if_neg (by intro h; rw [h] at he; simp at he)]
    try dsimp only
    rw [← hv, hs1]
  ·intro next2 _ _ _ _ _ _ _ _ _ _ _ _ _
   try dsimp only
   refine cnd_d (fun h => absurd h (Int.lt_irrefl _)) (fun _ => ⟨by rw [inK64]; (try dsimp only); omega, ?_⟩)
   rw [tbT_n]; exact hnx
 ·intro next _ _ _ _ _ _ _ _ _ _ _ _ _
  try dsimp only
  refine cnd_d (fun h => absurd h (Int.lt_irrefl _)) (fun _ => hnew _ ?_)
  rw [hR]; exact tabN_congr fun e _ e1 => by rw [if_pos e1]
theorem ct_impl_Category_table_comp : CtOk Try.prog 87 c_impl_Category_table_comp :=
 wa_of (Φ := ph_impl_Category_table_comp) (good_cons ct_impl_Category_completed_1 (good_cons ct_impl_Category_arrows good_nil)) tab_ok (by kernel_rfl) (fn := Try.f87) (c := bodyOf Try.f87) (by kernel_rfl) (by kernel_rfl) (by kernel_rfl) w0_impl_Category_table_comp an_impl_Category_table_comp (cutL [(5, 507), (10, 14), (11, 12)]) (by kernel_rfl) k_impl_Category_table_comp (by decide) (by kernel_rfl) (fun x y h1 h2 h3 => (w_impl_Category_table_comp x y _).mpr (m_impl_Category_table_comp x y.1 h1 h2 h3))
def c_spec_l02Fits : Ct := ⟨[CategoryT], [true], fun x => [], [(false, (.fz .bool))], fun x => ((decide (x.1.1 <= 8) && decide ((x.1.2.1.length : Int) <= 40)), ()), false, none⟩
def W_spec_l02Fits (c : CategoryD) (K : Bool × Unit -> Prop) : Prop := (K (((decide (c.1 <= 8)) && (decide (((c.2.1.length : Nat) : Int) <= 40))), ()))
theorem w_spec_l02Fits (x : denL c_spec_l02Fits.args) (K : Bool × Unit -> Prop) : evF tab (lkp []) (cutL []) Try.f107 (bodyOf Try.f107) .n c_spec_l02Fits x K = W_spec_l02Fits x.1 K := by kernel_rfl
theorem k_spec_l02Fits : okC Try.f107.ntmps (cutL []) (bodyOf Try.f107) = true := by kernel_rfl
theorem m_spec_l02Fits (c : CategoryD) (hok : allP (okL c_spec_l02Fits.args (c, ()))) (hpre : allP (c_spec_l02Fits.pre (c, ()))) : W_spec_l02Fits c (fun r => r = c_spec_l02Fits.res (c, ())) := by
 simp only [c_spec_l02Fits, okL, T.oks, T.ok, ap, allP, true_and, and_true, implies_true] at hok hpre
 try dsimp only [T.den] at hok
 try dsimp only [T.den] at hpre
 unfold W_spec_l02Fits
 rfl
theorem ct_spec_l02Fits : CtOk Try.prog 107 c_spec_l02Fits :=
 ct_by (Φ := lkp []) good_nil tab_ok (by kernel_rfl) (fn := Try.f107) (c := bodyOf Try.f107) (by kernel_rfl) (by kernel_rfl) (by kernel_rfl) c_spec_l02Fits rfl .n (cutL []) (by kernel_rfl) (by kernel_rfl) k_spec_l02Fits (by decide) (fun x K => W_spec_l02Fits x.1 K) w_spec_l02Fits (fun x h1 h2 => m_spec_l02Fits x.1 h1 h2)
def c_spec_l02Hom : Ct := ⟨[CategoryT, (.int .i64), (.int .i64)], [true, false, false], fun x => [x.1.2.1.length <= 40, x.1.2.2.1.length = x.1.2.1.length], [(false, (.sl (.fz (.int .i64))))], fun x => (homR x.1 x.2.1 x.2.2.1, ()), false, none⟩
def an_spec_l02Hom : Ann := (.s .n (.s .n (.s (.s .n (.l [(7, (.ref 800007 [])), (8, (.d (.int .i64)))] [(800007, (.sl (.fz (.int .i64))))] [1, 2, 3] (.s .n (.s (.s .n (.j [(7, (.ref 800007 []))] [(800007, (.sl (.fz (.int .i64))))] [1, 2, 3, 8] .n)) .n)))) .n)))
def W_spec_l02Hom (c : CategoryD) (x : Int) (y : Int) (K : (List Int) × Unit -> Prop) : Prop := (loopW (S := ((Unit × (Int × Unit)) × ((List Int) × Unit))) (fun s => (fun next => ((inK .i64 s.1.2.1) -> ((T.ok (.sl (.int .i64)) s.2.1) -> (cnd (decide (s.1.2.1 < ((c.2.1.length : Nat) : Int))) ((0 <= s.1.2.1) /\ ((s.1.2.1 < ((c.2.1.length : Nat) : Int)) /\ (((((List.getD c.2.1 s.1.2.1.toNat 0) == x) = true) -> ((s.1.2.1 < ((c.2.2.1.length : Nat) : Int)) /\ (0 <= s.1.2.1))) /\ (joinW (S := ((Unit × Unit) × ((List Int) × Unit))) (fun s1 => ((T.ok (.sl (.int .i64)) s1.2.1) -> ((inK .i64 (s.1.2.1 + 1)) /\ (next (((), ((s.1.2.1 + 1), ())), (s1.2.1, ())))))) (fun k => (cnd (((List.getD c.2.1 s.1.2.1.toNat 0) == x) && ((List.getD c.2.2.1 s.1.2.1.toNat 0) == y)) ((room s.2.1.length (List.length (s.1.2.1 :: [])) 8) /\ (k (((), ()), ((s.2.1 ++ (s.1.2.1 :: [])), ())))) (k (((), ()), (s.2.1, ()))))))))) (K (s.2.1, ()))))))) (((), (0, ())), ([], ())))
theorem w_spec_l02Hom (x : denL c_spec_l02Hom.args) (K : (List Int) × Unit -> Prop) : evF tab (lkp []) (cutL []) Try.f131 (bodyOf Try.f131) an_spec_l02Hom c_spec_l02Hom x K = W_spec_l02Hom x.1 x.2.1 x.2.2.1 K := by kernel_rfl
theorem k_spec_l02Hom : okC Try.f131.ntmps (cutL []) (bodyOf Try.f131) = true := by kernel_rfl
theorem m_spec_l02Hom (c : CategoryD) (x : Int) (y : Int) (hok : allP (okL c_spec_l02Hom.args (c, x, y, ()))) (hpre : allP (c_spec_l02Hom.pre (c, x, y, ()))) : W_spec_l02Hom c x y (fun r => r = c_spec_l02Hom.res (c, x, y, ())) := by
 simp only [c_spec_l02Hom, okL, T.oks, T.ok, ap, allP, true_and, and_true, implies_true] at hok hpre
 try dsimp only [T.den] at hok
 try dsimp only [T.den] at hpre
 unfold W_spec_l02Hom
 have hm : c.2.1.length <= 40 := hpre.1
 have hlt : c.2.2.1.length = c.2.1.length := hpre.2
 refine loop_of (fun (s : ((Unit × (Int × Unit)) × ((List Int) × Unit))) => 0 <= s.1.2.1 /\ s.1.2.1 <= c.2.1.length /\ s.2.1 = selR s.1.2.1.toNat fun f => c.2.1.getD f.toNat 0 == x && c.2.2.1.getD f.toNat 0 == y) (fun (s : ((Unit × (Int × Unit)) × ((List Int) × Unit))) => (c.2.1.length - s.1.2.1).toNat) ?_ ⟨by simp, by simp, rfl⟩
 rintro ⟨⟨_, i, _⟩, l, _⟩ next ⟨h0, h1, h2⟩ hn hin hl
 try dsimp only at h0 h1 h2 hn ⊢
 subst h2
 refine cnd_d (fun hc => ⟨h0, hc, fun _ => by omega, join_of (fun s1 => s1.2.1 = selR (i + 1).toNat fun f => c.2.1.getD f.toNat 0 == x && c.2.2.1.getD f.toNat 0 == y) (fun s1 hs _ => ⟨by rw [inK64]; (try dsimp only); omega, hn _ ⟨(by first | omega | (dsimp only; omega)), (by first | omega | (dsimp only; omega)), hs⟩ (by first | omega | (dsimp only; omega))⟩) (fun k hk => cnd_of (fun hx => ⟨?_, hk _ ?_⟩) (fun hx => hk _ ?_))⟩) (fun hc => ?_)
 ·have := sel_len (p := fun f => c.2.1.getD f.toNat 0 == x && c.2.2.1.getD f.toNat 0 == y) i.toNat
  unfold room
  rw [nb_eq]
  have h3 : (i :: ([] : List Int)).length = 1 := rfl
  rw [h3]
  omega
 ·exact (sel_t h0 hx).symm
 ·exact (sel_f h0 hx).symm
 ·have e1 : i.toNat = c.2.1.length := by omega
  simp only [c_spec_l02Hom, homR]
  rw [e1]
theorem ct_spec_l02Hom : CtOk Try.prog 131 c_spec_l02Hom :=
 ct_by (Φ := lkp []) good_nil tab_ok (by kernel_rfl) (fn := Try.f131) (c := bodyOf Try.f131) (by kernel_rfl) (by kernel_rfl) (by kernel_rfl) c_spec_l02Hom rfl an_spec_l02Hom (cutL []) (by kernel_rfl) (by kernel_rfl) k_spec_l02Hom (by decide) (fun x K => W_spec_l02Hom x.1 x.2.1 x.2.2.1 K) w_spec_l02Hom (fun x h1 h2 => m_spec_l02Hom x.1 x.2.1 x.2.2.1 h1 h2)
def c_spec_l02Then : Ct := ⟨[CategoryT, (.int .i64), (.int .i64)], [true, false, false], fun x => [0 <= x.2.1, x.2.1 < x.1.2.2.2.2.length, 0 <= x.2.2.1, x.2.2.1 < (x.1.2.2.2.2.getD x.2.1.toNat []).length], [(false, (.fz (.int .i64)))], fun x => (compR x.1 x.2.1 x.2.2.1, ()), false, none⟩
def W_spec_l02Then (c : CategoryD) (f : Int) (g : Int) (K : Int × Unit -> Prop) : Prop := ((0 <= f) /\ ((f < ((c.2.2.2.2.length : Nat) : Int)) /\ ((0 <= g) /\ ((g < (((List.length (List.getD c.2.2.2.2 f.toNat [])) : Nat) : Int)) /\ (K ((List.getD (List.getD c.2.2.2.2 f.toNat []) g.toNat 0), ()))))))
theorem w_spec_l02Then (x : denL c_spec_l02Then.args) (K : Int × Unit -> Prop) : evF tab (lkp []) (cutL []) Try.f61 (bodyOf Try.f61) .n c_spec_l02Then x K = W_spec_l02Then x.1 x.2.1 x.2.2.1 K := by kernel_rfl
theorem k_spec_l02Then : okC Try.f61.ntmps (cutL []) (bodyOf Try.f61) = true := by kernel_rfl
theorem m_spec_l02Then (c : CategoryD) (f : Int) (g : Int) (hok : allP (okL c_spec_l02Then.args (c, f, g, ()))) (hpre : allP (c_spec_l02Then.pre (c, f, g, ()))) : W_spec_l02Then c f g (fun r => r = c_spec_l02Then.res (c, f, g, ())) := by
 simp only [c_spec_l02Then, okL, T.oks, T.ok, ap, allP, true_and, and_true, implies_true] at hok hpre
 try dsimp only [T.den] at hok
 try dsimp only [T.den] at hpre
 unfold W_spec_l02Then
 exact ⟨hpre.1, hpre.2.1, hpre.2.2.1, hpre.2.2.2, rfl⟩
theorem ct_spec_l02Then : CtOk Try.prog 61 c_spec_l02Then :=
 ct_by (Φ := lkp []) good_nil tab_ok (by kernel_rfl) (fn := Try.f61) (c := bodyOf Try.f61) (by kernel_rfl) (by kernel_rfl) (by kernel_rfl) c_spec_l02Then rfl .n (cutL []) (by kernel_rfl) (by kernel_rfl) k_spec_l02Then (by decide) (fun x K => W_spec_l02Then x.1 x.2.1 x.2.2.1 K) w_spec_l02Then (fun x h1 h2 => m_spec_l02Then x.1 x.2.1 x.2.2.1 h1 h2)
structure ColP (l : List (List Int)) (k : Int) : Prop where
 k0 : 0 <= k
 len : l.length <= 1099511627776
 row : ∀ r ∈ l, k < r.length
def colR (l : List (List Int)) (k : Int) : List Int := l.map fun r => r.getD k.toNat 0
def c_spec_l09Column : Ct := ⟨[(.sl (.sl (.int .i64))), (.int .i64)], [false, false], fun x => [ColP x.1 x.2.1], [(false, (.sl (.fz (.int .i64))))], fun x => (colR x.1 x.2.1, ()), false, none⟩
def an_spec_l09Column : Ann := (.s .n (.s .n (.s (.s .n (.l [(5, (.ref 800005 [])), (6, (.d (.int .i64)))] [(800005, (.sl (.fz (.int .i64))))] [0, 1] .n)) .n)))
def W_spec_l09Column (lists : List (List Int)) (k : Int) (K : (List Int) × Unit -> Prop) : Prop := (loopW (S := ((Unit × (Int × Unit)) × ((List Int) × Unit))) (fun s => (fun next => ((inK .i64 s.1.2.1) -> ((T.ok (.sl (.int .i64)) s.2.1) -> (cnd (decide (s.1.2.1 < ((lists.length : Nat) : Int))) ((0 <= s.1.2.1) /\ ((s.1.2.1 < ((lists.length : Nat) : Int)) /\ ((0 <= k) /\ ((k < (((List.length (List.getD lists s.1.2.1.toNat [])) : Nat) : Int)) /\ ((room s.2.1.length (List.length ((List.getD (List.getD lists s.1.2.1.toNat []) k.toNat 0) :: [])) 8) /\ ((inK .i64 (s.1.2.1 + 1)) /\ (next (((), ((s.1.2.1 + 1), ())), ((s.2.1 ++ ((List.getD (List.getD lists s.1.2.1.toNat []) k.toNat 0) :: [])), ()))))))))) (K (s.2.1, ()))))))) (((), (0, ())), ([], ())))
theorem w_spec_l09Column (x : denL c_spec_l09Column.args) (K : (List Int) × Unit -> Prop) : evF tab (lkp []) (cutL []) Try.f132 (bodyOf Try.f132) an_spec_l09Column c_spec_l09Column x K = W_spec_l09Column x.1 x.2.1 K := by kernel_rfl
theorem k_spec_l09Column : okC Try.f132.ntmps (cutL []) (bodyOf Try.f132) = true := by kernel_rfl
theorem m_spec_l09Column (lists : List (List Int)) (k : Int) (hok : allP (okL c_spec_l09Column.args (lists, k, ()))) (hpre : allP (c_spec_l09Column.pre (lists, k, ()))) : W_spec_l09Column lists k (fun r => r = c_spec_l09Column.res (lists, k, ())) := by
 simp only [c_spec_l09Column, okL, T.oks, T.ok, ap, allP, true_and, and_true, implies_true] at hok hpre
 try dsimp only [T.den] at hok
 try dsimp only [T.den] at hpre
 unfold W_spec_l09Column
 obtain ⟨k0, hl, hr⟩ := hpre
 clear hok
 refine loop_ixa (fun i => colR (lists.take i.toNat) k) (n := lists.length) (by omega) rfl ?_ ?_
 ·intro i next i0 i1 hn _ _
  try dsimp only at hn ⊢
  have hk := hr _ (getD_mem lists [] i0 i1)
  have hc : (colR (lists.take i.toNat) k).length <= lists.length := by unfold colR; rw [List.length_map, List.length_take]; omega
  have hs : colR (lists.take (i + 1).toNat) k = colR (lists.take i.toNat) k ++ [(lists.getD i.toNat []).getD k.toNat 0] := by
   unfold colR; rw [take_c lists [] i0 i1, List.map_append]; rfl
  rw [hs] at hn
  exact cnd_d (fun _ => ⟨i0, i1, k0, hk, room_of (by simp only [List.length_cons, List.length_nil]; omega), by rw [inK64]; (try dsimp only); omega, hn⟩) (fun h => absurd i1 h)
 ·intro next _ _
  refine cnd_d (fun h => absurd h (Int.lt_irrefl _)) (fun _ => ?_)
  simp only [c_spec_l09Column]
  rw [take_n _ (Int.le_refl _)]
theorem ct_spec_l09Column : CtOk Try.prog 132 c_spec_l09Column :=
 ct_by (Φ := lkp []) good_nil tab_ok (by kernel_rfl) (fn := Try.f132) (c := bodyOf Try.f132) (by kernel_rfl) (by kernel_rfl) (by kernel_rfl) c_spec_l09Column rfl an_spec_l09Column (cutL []) (by kernel_rfl) (by kernel_rfl) k_spec_l09Column (by decide) (fun x K => W_spec_l09Column x.1 x.2.1 K) w_spec_l09Column (fun x h1 h2 => m_spec_l09Column x.1 x.2.1 h1 h2)
def c_spec_l01Same : Ct := ⟨[(.sl (.int .i64)), (.sl (.int .i64))], [false, false], fun x => [], [(false, (.fz .bool))], fun x => (eqR (.sl (.int .i64)) x.1 x.2.1, ()), false, none⟩
def an_spec_l01Same : Ann := (.s .n (.s .n (.s (.s .n (.l [(5, (.d (.int .i64)))] [] [0, 1] .n)) .n)))
def W_spec_l01Same (a : List Int) (b : List Int) (K : Bool × Unit -> Prop) : Prop := (cnd (((a.length : Nat) : Int) != ((b.length : Nat) : Int)) (K (false, ())) (loopW (S := ((Int × Unit) × Unit)) (fun s => (fun next => ((inK .i64 s.1.1) -> (cnd (decide (s.1.1 < ((a.length : Nat) : Int))) ((0 <= s.1.1) /\ ((s.1.1 < ((a.length : Nat) : Int)) /\ ((0 <= s.1.1) /\ ((s.1.1 < ((b.length : Nat) : Int)) /\ (cnd ((List.getD a s.1.1.toNat 0) != (List.getD b s.1.1.toNat 0)) (K (false, ())) ((inK .i64 (s.1.1 + 1)) /\ (next (((s.1.1 + 1), ()), ())))))))) (K (true, ())))))) ((0, ()), ())))
theorem w_spec_l01Same (x : denL c_spec_l01Same.args) (K : Bool × Unit -> Prop) : evF tab (lkp []) (cutL [(6, 9)]) Try.f62 (bodyOf Try.f62) an_spec_l01Same c_spec_l01Same x K = W_spec_l01Same x.1 x.2.1 K := by kernel_rfl
theorem k_spec_l01Same : okC Try.f62.ntmps (cutL [(6, 9)]) (bodyOf Try.f62) = true := by kernel_rfl
theorem m_spec_l01Same (a : List Int) (b : List Int) (hok : allP (okL c_spec_l01Same.args (a, b, ()))) (hpre : allP (c_spec_l01Same.pre (a, b, ()))) : W_spec_l01Same a b (fun r => r = c_spec_l01Same.res (a, b, ())) := by
 simp only [c_spec_l01Same, okL, T.oks, T.ok, ap, allP, true_and, and_true, implies_true] at hok hpre
 try dsimp only [T.den] at hok
 try dsimp only [T.den] at hpre
 unfold W_spec_l01Same
 have ha : a.length <= 140737488355328 := by simp only [nb_eq] at hok; omega
 clear hok
 refine cnd_of (fun h => ?_) (fun h => ?_)
 ·simp only [c_spec_l01Same]; rw [eqR_f]; rintro rfl; simp at h
 have hl : a.length = b.length := by rw [bne_eq_false_iff_eq] at h; omega
 refine loop_ix (n := a.length) (fun i => a.take i.toNat = b.take i.toNat) (by omega) (by simp) ?_ ?_
 ·intro i next i0 i1 hP hn hin
  have hta := take_c a 0 i0 i1
  have htb := take_c b 0 i0 (by omega)
  refine cnd_d (fun _ => ⟨i0, i1, i0, by omega, cnd_of (fun h1 => ?_) (fun h1 => ⟨by rw [inK64]; (try dsimp only); omega, hn ?_⟩)⟩) (fun h => absurd i1 h)
  ·simp only [c_spec_l01Same]; rw [eqR_f]; rintro rfl; simp at h1
  ·rw [bne_eq_false_iff_eq] at h1
   rw [hta, htb, hP, h1]
 ·intro next hP hin
  refine cnd_d (fun h => absurd h (by dsimp only; omega)) (fun _ => ?_)
  rw [take_n _ (Int.le_refl _), take_n _ (by omega)] at hP
  simp only [c_spec_l01Same, hP, eqR_self]
theorem ct_spec_l01Same : CtOk Try.prog 62 c_spec_l01Same :=
 ct_by (Φ := lkp []) good_nil tab_ok (by kernel_rfl) (fn := Try.f62) (c := bodyOf Try.f62) (by kernel_rfl) (by kernel_rfl) (by kernel_rfl) c_spec_l01Same rfl an_spec_l01Same (cutL [(6, 9)]) (by kernel_rfl) (by kernel_rfl) k_spec_l01Same (by decide) (fun x K => W_spec_l01Same x.1 x.2.1 K) w_spec_l01Same (fun x h1 h2 => m_spec_l01Same x.1 x.2.1 h1 h2)
def idxLR (l : List (List Int)) (x : List Int) : Int := idxR l x
def c_spec_l09Find : Ct := ⟨[(.sl (.sl (.int .i64))), (.sl (.int .i64))], [false, false], fun x => [x.1.length <= 1099511627776], [(false, (.fz (.int .i64)))], fun x => (idxLR x.1 x.2.1, ()), false, none⟩
def an_spec_l09Find : Ann := (.s .n (.s (.s .n (.l [(5, (.d (.int .i64)))] [] [0, 1] .n)) .n))
def W_spec_l09Find (lists : List (List Int)) (list : List Int) (K : Int × Unit -> Prop) : Prop := (loopW (S := ((Int × Unit) × Unit)) (fun s => (fun next => ((inK .i64 s.1.1) -> (cnd (decide (s.1.1 < ((lists.length : Nat) : Int))) ((0 <= s.1.1) /\ ((s.1.1 < ((lists.length : Nat) : Int)) /\ (cnd (eqR (.sl (.int .i64)) (List.getD lists s.1.1.toNat []) list) (K (s.1.1, ())) ((inK .i64 (s.1.1 + 1)) /\ (next (((s.1.1 + 1), ()), ())))))) (K ((-1), ())))))) ((0, ()), ()))
theorem w_spec_l09Find (x : denL c_spec_l09Find.args) (K : Int × Unit -> Prop) : evF tab (lkp [(62, c_spec_l01Same)]) (cutL []) Try.f133 (bodyOf Try.f133) an_spec_l09Find c_spec_l09Find x K = W_spec_l09Find x.1 x.2.1 K := by kernel_rfl
theorem k_spec_l09Find : okC Try.f133.ntmps (cutL []) (bodyOf Try.f133) = true := by kernel_rfl
theorem m_spec_l09Find (lists : List (List Int)) (list : List Int) (hok : allP (okL c_spec_l09Find.args (lists, list, ()))) (hpre : allP (c_spec_l09Find.pre (lists, list, ()))) : W_spec_l09Find lists list (fun r => r = c_spec_l09Find.res (lists, list, ())) := by
 simp only [c_spec_l09Find, okL, T.oks, T.ok, ap, allP, true_and, and_true, implies_true] at hok hpre
 try dsimp only [T.den] at hok
 try dsimp only [T.den] at hpre
 unfold W_spec_l09Find
 have hl : lists.length <= 1099511627776 := hpre
 clear hok
 refine loop_ix (n := lists.length) (fun i => ∀ k : Int, 0 <= k -> k < i -> lists.getD k.toNat [] ≠ list) (by omega) (by intro k h0 h1; omega) ?_ ?_
 ·intro i next i0 i1 hP hn _
  try dsimp only
  refine cnd_d (fun _ => ⟨i0, i1, cnd_of (fun hx => ?_) (fun hx => ⟨by rw [inK64]; (try dsimp only); omega, hn fun k k0 k1 => ?_⟩)⟩) (fun h => absurd i1 h)
  ·have : idxLR lists list = i := idx_at (z := ([] : List Int)) i0 i1 (eqR_iff.1 hx) hP
   simp only [c_spec_l09Find, this]
  ·by_cases hk : k = i
   ·subst hk
    intro e
    rw [eqR_iff.2 e] at hx
    cases hx
   ·exact hP k k0 (by omega)
 ·intro next hP _
  refine cnd_d (fun h => absurd h (Int.lt_irrefl _)) (fun _ => ?_)
  have : idxLR lists list = -1 := idx_no (z := ([] : List Int)) hP
  simp only [c_spec_l09Find, this]
theorem ct_spec_l09Find : CtOk Try.prog 133 c_spec_l09Find :=
 ct_by (Φ := lkp [(62, c_spec_l01Same)]) (good_cons ct_spec_l01Same good_nil) tab_ok (by kernel_rfl) (fn := Try.f133) (c := bodyOf Try.f133) (by kernel_rfl) (by kernel_rfl) (by kernel_rfl) c_spec_l09Find rfl an_spec_l09Find (cutL []) (by kernel_rfl) (by kernel_rfl) k_spec_l09Find (by decide) (fun x K => W_spec_l09Find x.1 x.2.1 K) w_spec_l09Find (fun x h1 h2 => m_spec_l09Find x.1 x.2.1 h1 h2)
def c_spec_l11Idempotents : Ct := ⟨[CategoryT], [true], fun x => [ShapeP x.1], [(false, (.sl (.fz (.int .i64))))], fun x => (idemR x.1, ()), false, none⟩
def an_spec_l11Idempotents : Ann := (.s .n (.s .n (.s (.s .n (.l [(3, (.ref 800003 [])), (4, (.d (.int .i64)))] [(800003, (.sl (.fz (.int .i64))))] [1] (.s .n (.s (.s .n (.j [(3, (.ref 800003 []))] [(800003, (.sl (.fz (.int .i64))))] [1, 4] .n)) .n)))) .n)))
def W_spec_l11Idempotents (c : CategoryD) (K : (List Int) × Unit -> Prop) : Prop := (loopW (S := ((Unit × (Int × Unit)) × ((List Int) × Unit))) (fun s => (fun next => ((inK .i64 s.1.2.1) -> ((T.ok (.sl (.int .i64)) s.2.1) -> (cnd (decide (s.1.2.1 < ((c.2.1.length : Nat) : Int))) ((0 <= s.1.2.1) /\ ((s.1.2.1 < ((c.2.1.length : Nat) : Int)) /\ ((0 <= s.1.2.1) /\ ((s.1.2.1 < ((c.2.2.1.length : Nat) : Int)) /\ (((((List.getD c.2.1 s.1.2.1.toNat 0) == (List.getD c.2.2.1 s.1.2.1.toNat 0)) = true) -> ((s.1.2.1 < ((c.2.2.2.2.length : Nat) : Int)) /\ ((0 <= s.1.2.1) /\ ((s.1.2.1 < (((List.length (List.getD c.2.2.2.2 s.1.2.1.toNat [])) : Nat) : Int)) /\ (0 <= s.1.2.1))))) /\ (joinW (S := ((Unit × Unit) × ((List Int) × Unit))) (fun s1 => ((T.ok (.sl (.int .i64)) s1.2.1) -> ((inK .i64 (s.1.2.1 + 1)) /\ (next (((), ((s.1.2.1 + 1), ())), (s1.2.1, ())))))) (fun k => (cnd (((List.getD c.2.1 s.1.2.1.toNat 0) == (List.getD c.2.2.1 s.1.2.1.toNat 0)) && ((compR c s.1.2.1 s.1.2.1) == s.1.2.1)) ((room s.2.1.length (List.length (s.1.2.1 :: [])) 8) /\ (k (((), ()), ((s.2.1 ++ (s.1.2.1 :: [])), ())))) (k (((), ()), (s.2.1, ()))))))))))) (K (s.2.1, ()))))))) (((), (0, ())), ([], ())))
theorem w_spec_l11Idempotents (x : denL c_spec_l11Idempotents.args) (K : (List Int) × Unit -> Prop) : evF tab (lkp [(61, c_spec_l02Then)]) (cutL [(5, 17)]) Try.f130 (bodyOf Try.f130) an_spec_l11Idempotents c_spec_l11Idempotents x K = W_spec_l11Idempotents x.1 K := by kernel_rfl
theorem k_spec_l11Idempotents : okC Try.f130.ntmps (cutL [(5, 17)]) (bodyOf Try.f130) = true := by kernel_rfl
theorem m_spec_l11Idempotents (c : CategoryD) (hok : allP (okL c_spec_l11Idempotents.args (c, ()))) (hpre : allP (c_spec_l11Idempotents.pre (c, ()))) : W_spec_l11Idempotents c (fun r => r = c_spec_l11Idempotents.res (c, ())) := by
 simp only [c_spec_l11Idempotents, okL, T.oks, T.ok, ap, allP, true_and, and_true, implies_true] at hok hpre
 try dsimp only [T.den] at hok
 try dsimp only [T.den] at hpre
 unfold W_spec_l11Idempotents
 have S : ShapeP c := hpre
 have hm := S.m
 have hlc := S.lc
 have hlt := S.lt
 refine loop_sel c.2.1.length (fun e => compR c e e == e) ?_ ?_
 ·intro i out next i0 i1 hn hl _ _
  try dsimp only at hn ⊢
  have hr := S.row i i0 i1
  refine cnd_d (fun _ => ⟨i0, i1, i0, by omega, fun _ => ⟨by omega, i0, by omega, i0⟩, join_add (if (compR c i i == i) = true then out ++ [i] else out) (fun s hs _ => ⟨by rw [inK64]; (try dsimp only); omega, hn _ hs⟩) (fun k hk => ?_)⟩) (fun h => absurd i1 h)
  have e : (c.2.1.getD i.toNat 0 == c.2.2.1.getD i.toNat 0 && compR c i i == i) = (compR c i i == i) := by
   by_cases h : c.2.2.1.getD i.toNat 0 = c.2.1.getD i.toNat 0
   ·rw [h]; simp
   ·have := S.no i0 i1 i0 i1 h
    rw [this]
    have h2 : ((-1 : Int) == i) = false := by rw [beq_eq_false_iff_ne]; omega
    rw [h2, Bool.and_false]
  rw [e]
  exact cnd_of (fun hx => ⟨room_of (by simp only [List.length_cons, List.length_nil]; omega), hk _ (by rw [if_pos hx])⟩) (fun hx => hk _ (by rw [if_neg (by rw [hx]; simp)]))
 ·intro next _ _
  refine cnd_d (fun h => absurd h (Int.lt_irrefl _)) (fun _ => ?_)
  simp only [c_spec_l11Idempotents, idemR]
theorem ct_spec_l11Idempotents : CtOk Try.prog 130 c_spec_l11Idempotents :=
 ct_by (Φ := lkp [(61, c_spec_l02Then)]) (good_cons ct_spec_l02Then good_nil) tab_ok (by kernel_rfl) (fn := Try.f130) (c := bodyOf Try.f130) (by kernel_rfl) (by kernel_rfl) (by kernel_rfl) c_spec_l11Idempotents rfl an_spec_l11Idempotents (cutL [(5, 17)]) (by kernel_rfl) (by kernel_rfl) k_spec_l11Idempotents (by decide) (fun x K => W_spec_l11Idempotents x.1 K) w_spec_l11Idempotents (fun x h1 h2 => m_spec_l11Idempotents x.1 h1 h2)
theorem loop_catZ {β Z : Type} (n : Int) (hn0 : 0 <= n) (g : Int -> List β) (A : List β) (z0 : Z) (B : Nat) (hB : ∀ x : Int, 0 <= x -> x < n -> (g x).length <= B) {body : (Unit × (Unit × (Int × Unit))) × (Z × (List β × Unit)) -> ((Unit × (Unit × (Int × Unit))) × (Z × (List β × Unit)) -> Prop) -> Prop}
  (hs : ∀ (i : Int) (z : Z) (out : List β) next, 0 <= i -> i < n -> out.length + (g i).length <= A.length + n.toNat * B -> (∀ z : Z, next (((), ((), (i + 1, ()))), (z, (out ++ g i, ())))) -> body (((), ((), (i, ()))), (z, (out, ()))) next)
  (he : ∀ z next, body (((), ((), (n, ()))), (z, (A ++ (tabN n.toNat g).flatten, ()))) next) : loopW body (((), ((), (0, ()))), (z0, (A, ()))) := by
 refine loop_of (fun s => s.2.2.1 = A ++ (tabN s.1.2.2.1.toNat g).flatten /\ 0 <= s.1.2.2.1 /\ s.1.2.2.1 <= n) (fun s => (n - s.1.2.2.1).toNat) ?_ ⟨by simp [tabN], Int.le_refl _, hn0⟩
 rintro ⟨⟨_, _, i, _⟩, z, y, _⟩ next ⟨hy, h1, h2⟩ hnx
 dsimp only at hy h1 h2 hnx
 subst hy
 by_cases e : i = n
 ·subst e; exact he z next
 ·have hk : (tabN (i + 1).toNat g).flatten = (tabN i.toNat g).flatten ++ g i := by
   rw [tabN_s h1, List.flatten_append]; simp
  refine hs i z _ next h1 (by omega) ?_ (fun z2 => hnx _ ⟨by dsimp only; rw [hk, List.append_assoc], by dsimp only; omega, by dsimp only; omega⟩ (by dsimp only; omega))
  have h4 := @flat_le β B (tabN (i + 1).toNat g) fun l hl => by
   obtain ⟨j, j0, j1, rfl⟩ := tabN_mem.1 hl; exact hB j j0 (by omega)
  rw [hk, List.length_append, tabN_len] at h4
  have h3 := Nat.mul_le_mul_right B (show (i + 1).toNat <= n.toNat by omega)
  rw [List.length_append]
  omega
def cpHR (c : CategoryD) (s t h : Int) : List (List Int) := if compR c (compR c ((idemR c).getD s.toNat 0) h) ((idemR c).getD t.toNat 0) = h then [[s, t, h]] else []
def cpHomR (c : CategoryD) (s t : Int) : List Int := homR c (c.2.1.getD ((idemR c).getD s.toNat 0).toNat 0) (c.2.1.getD ((idemR c).getD t.toNat 0).toNat 0)
def cpTR (c : CategoryD) (s t : Int) : List (List Int) := (tabN (cpHomR c s t).length fun i => cpHR c s t ((cpHomR c s t).getD i.toNat 0)).flatten
theorem cpH_len {c : CategoryD} {s t h : Int} : (cpHR c s t h).length <= 1 := by unfold cpHR; split <;> simp
theorem cpT_len {c : CategoryD} (S : ShapeP c) {s t : Int} : (cpTR c s t).length <= 40 := by
 have h1 := @flat_le _ 1 (tabN (cpHomR c s t).length fun i => cpHR c s t ((cpHomR c s t).getD i.toNat 0)) fun l hl => by
  obtain ⟨y, _, _, rfl⟩ := tabN_mem.1 hl
  exact cpH_len
 rw [tabN_len] at h1
 have h2 : (cpHomR c s t).length <= 40 := by
  have := @sel_len (fun g => c.2.1.getD g.toNat 0 == c.2.1.getD ((idemR c).getD s.toNat 0).toNat 0 && c.2.2.1.getD g.toNat 0 == c.2.1.getD ((idemR c).getD t.toNat 0).toNat 0) c.2.1.length
  have h := S.m
  unfold cpHomR homR; omega
 unfold cpTR; omega
theorem idem_mem {c : CategoryD} {e : Int} : e ∈ idemR c ↔ 0 <= e /\ e < c.2.1.length /\ compR c e e = e := by unfold idemR; rw [sel_mem, beq_iff_eq]
theorem idem_len {c : CategoryD} (S : ShapeP c) : (idemR c).length <= 40 := by
 have := @sel_len (fun e => compR c e e == e) c.2.1.length
 have h := S.m
 unfold idemR; omega
def cpSR (c : CategoryD) (s : Int) : List (List Int) := (tabN (idemR c).length (cpTR c s)).flatten
def cpArrR (c : CategoryD) : List (List Int) := (tabN (idemR c).length (cpSR c)).flatten
def cpCellR (c : CategoryD) (a b : List Int) : Int := if a.getD 1 0 = b.getD 0 0 then idxLR (cpArrR c) [a.getD 0 0, b.getD 1 0, compR c (a.getD 2 0) (b.getD 2 0)] else -1
def cpFitR (c : CategoryD) : Bool := decide (((idemR c).length : Int) <= 8) && decide (((colR (cpArrR c) 0).length : Int) <= 40)
def completeR (c : CategoryD) : CategoryD := ((idemR c).length, (colR (cpArrR c) 0, (colR (cpArrR c) 1, (tabN (idemR c).length fun s => idxLR (cpArrR c) [s, s, (idemR c).getD s.toNat 0], if cpFitR c = true then tabN (cpArrR c).length (fun i => tabN (cpArrR c).length fun j => cpCellR c ((cpArrR c).getD i.toNat []) ((cpArrR c).getD j.toNat [])) else []))))
theorem cpS_len {c : CategoryD} (S : ShapeP c) {s : Int} : (cpSR c s).length <= 1600 := by
 have h1 := @flat_le _ 40 (tabN (idemR c).length (cpTR c s)) fun l hl => by
  obtain ⟨y, _, _, rfl⟩ := tabN_mem.1 hl
  exact cpT_len S
 rw [tabN_len] at h1
 have := idem_len S
 unfold cpSR; omega
theorem cpA_len {c : CategoryD} (S : ShapeP c) : (cpArrR c).length <= 64000 := by
 have h1 := @flat_le _ 1600 (tabN (idemR c).length (cpSR c)) fun l hl => by
  obtain ⟨y, _, _, rfl⟩ := tabN_mem.1 hl
  exact cpS_len S
 rw [tabN_len] at h1
 have := idem_len S
 unfold cpArrR; omega
theorem loop_ixZ {Z Y : Type} (F : Int -> Y) {n : Int} (hn0 : 0 <= n) (z0 : Z) {a0 : Y} (h0 : a0 = F 0) {body : (Unit × (Unit × (Int × Unit))) × (Z × (Y × Unit)) -> ((Unit × (Unit × (Int × Unit))) × (Z × (Y × Unit)) -> Prop) -> Prop}
  (hs : ∀ (i : Int) (z : Z) next, 0 <= i -> i < n -> (∀ z : Z, next (((), ((), (i + 1, ()))), (z, (F (i + 1), ())))) -> body (((), ((), (i, ()))), (z, (F i, ()))) next)
  (he : ∀ z next, body (((), ((), (n, ()))), (z, (F n, ()))) next) : loopW body (((), ((), (0, ()))), (z0, (a0, ()))) := by
 refine loop_of (fun s => s.2.2.1 = F s.1.2.2.1 /\ 0 <= s.1.2.2.1 /\ s.1.2.2.1 <= n) (fun s => (n - s.1.2.2.1).toNat) ?_ ⟨h0, Int.le_refl _, hn0⟩
 rintro ⟨⟨_, _, i, _⟩, z, y, _⟩ next ⟨hy, h1, h2⟩ hnx
 dsimp only at hy h1 h2 hnx
 subst hy
 by_cases e : i = n
 ·subst e; exact he z next
 ·exact hs i z next h1 (by omega) (fun z2 => hnx _ ⟨rfl, by dsimp only; omega, by dsimp only; omega⟩ (by dsimp only; omega))
theorem loop_ixZ2 {Z Y X : Type} (F : Int -> X) {n : Int} (hn0 : 0 <= n) (z0 : Z) (y0 : Y) {a0 : X} (h0 : a0 = F 0) {body : (Unit × (Unit × (Unit × (Int × Unit)))) × (Z × (Y × (X × Unit))) -> ((Unit × (Unit × (Unit × (Int × Unit)))) × (Z × (Y × (X × Unit))) -> Prop) -> Prop}
  (hs : ∀ (i : Int) (z : Z) next, 0 <= i -> i < n -> (∀ z : Z, next (((), ((), ((), (i + 1, ())))), (z, (y0, (F (i + 1), ()))))) -> body (((), ((), ((), (i, ())))), (z, (y0, (F i, ())))) next)
  (he : ∀ z next, body (((), ((), ((), (n, ())))), (z, (y0, (F n, ())))) next) : loopW body (((), ((), ((), (0, ())))), (z0, (y0, (a0, ())))) := by
 refine loop_of (fun s => s.2.2.2.1 = F s.1.2.2.2.1 /\ s.2.2.1 = y0 /\ 0 <= s.1.2.2.2.1 /\ s.1.2.2.2.1 <= n) (fun s => (n - s.1.2.2.2.1).toNat) ?_ ⟨h0, rfl, Int.le_refl _, hn0⟩
 rintro ⟨⟨_, _, _, i, _⟩, z, y, x, _⟩ next ⟨hx, hy, h1, h2⟩ hnx
 dsimp only at hx hy h1 h2 hnx
 subst hx hy
 by_cases e : i = n
 ·subst e; exact he z next
 ·exact hs i z next h1 (by omega) (fun z2 => hnx _ ⟨rfl, rfl, by dsimp only; omega, by dsimp only; omega⟩ (by dsimp only; omega))
theorem cpArr_mem {c : CategoryD} {l : List Int} (h : l ∈ cpArrR c) : ∃ s t g : Int, l = [s, t, g] /\ 0 <= g /\ g < c.2.1.length := by
 unfold cpArrR at h
 obtain ⟨a, ha, hl⟩ := List.mem_flatten.1 h
 obtain ⟨s, _, _, rfl⟩ := tabN_mem.1 ha
 unfold cpSR at hl
 obtain ⟨b, hb, hl⟩ := List.mem_flatten.1 hl
 obtain ⟨t, _, _, rfl⟩ := tabN_mem.1 hb
 unfold cpTR at hl
 obtain ⟨d, hd, hl⟩ := List.mem_flatten.1 hl
 obtain ⟨i, i0, i1, rfl⟩ := tabN_mem.1 hd
 unfold cpHR at hl
 split at hl
 ·have := hom_mem.1 (getD_mem (cpHomR c s t) 0 i0 i1)
  exact ⟨s, t, _, by simpa using hl, this.1, this.2.1⟩
 ·simp at hl
def c_spec_l11Complete : Ct := ⟨[CategoryT], [true], fun x => [ShapeP x.1], [(true, (.p (.fz (.int .i64)) (.p (.sl (.fz (.int .i64))) (.p (.sl (.fz (.int .i64))) (.p (.sl (.fz (.int .i64))) (.sl (.sl (.fz (.int .i64))))))))), (false, (.fz (.sl (.sl (.int .i64)))))], fun x => (completeR x.1, cpArrR x.1, ()), true, none⟩
def an_spec_l11Complete : Ann := (.s .n (.s .n (.s .n (.s (.s .n (.l [(2, (.ad 2 [.de])), (5, (.ref 800005 [])), (6, (.d (.int .i64)))] [(2, (.pt (.p (.fz (.int .i64)) (.p (.sl (.fz (.int .i64))) (.p (.sl (.fz (.int .i64))) (.p (.sl (.fz (.int .i64))) (.sl (.sl (.fz (.int .i64)))))))))), (800005, (.sl (.sl (.fz (.int .i64)))))] [1, 4] (.s .n (.s (.s .n (.l [(2, (.ad 2 [.de])), (5, (.ref 800005 [])), (7, (.d (.int .i64)))] [(2, (.pt (.p (.fz (.int .i64)) (.p (.sl (.fz (.int .i64))) (.p (.sl (.fz (.int .i64))) (.p (.sl (.fz (.int .i64))) (.sl (.sl (.fz (.int .i64)))))))))), (800005, (.sl (.sl (.fz (.int .i64)))))] [1, 4, 6] (.s .n (.s (.s .n (.s .n (.l [(2, (.ad 2 [.de])), (5, (.ref 800005 [])), (9, (.d (.int .i64)))] [(2, (.pt (.p (.fz (.int .i64)) (.p (.sl (.fz (.int .i64))) (.p (.sl (.fz (.int .i64))) (.p (.sl (.fz (.int .i64))) (.sl (.sl (.fz (.int .i64)))))))))), (800005, (.sl (.sl (.fz (.int .i64)))))] [1, 4, 6, 7, 8] (.s .n (.s (.s .n (.j [(2, (.ad 2 [.de])), (5, (.ref 800005 []))] [(2, (.pt (.p (.fz (.int .i64)) (.p (.sl (.fz (.int .i64))) (.p (.sl (.fz (.int .i64))) (.p (.sl (.fz (.int .i64))) (.sl (.sl (.fz (.int .i64)))))))))), (800005, (.sl (.sl (.fz (.int .i64)))))] [1, 4, 6, 7, 8, 9] .n)) .n))))) .n)))) .n)))) (.s .n (.s (.s .n (.l [(2, (.ad 2 [.de])), (10, (.ad 10 [.de])), (11, (.d (.int .i64)))] [(2, (.pt (.p (.fz (.int .i64)) (.p (.sl (.fz (.int .i64))) (.p (.sl (.fz (.int .i64))) (.p (.sl (.fz (.int .i64))) (.sl (.sl (.fz (.int .i64)))))))))), (10, (.pt (.p (.fz (.int .i64)) (.p (.sl (.fz (.int .i64))) (.p (.sl (.fz (.int .i64))) (.p (.sl (.fz (.int .i64))) (.sl (.sl (.fz (.int .i64))))))))))] [1, 4, 5] .n)) (.s (.s .n (.l [(2, (.ad 2 [.de])), (10, (.ad 10 [.de])), (12, (.d (.int .i64)))] [(2, (.pt (.p (.fz (.int .i64)) (.p (.sl (.fz (.int .i64))) (.p (.sl (.fz (.int .i64))) (.p (.sl (.fz (.int .i64))) (.sl (.sl (.fz (.int .i64)))))))))), (10, (.pt (.p (.fz (.int .i64)) (.p (.sl (.fz (.int .i64))) (.p (.sl (.fz (.int .i64))) (.p (.sl (.fz (.int .i64))) (.sl (.sl (.fz (.int .i64))))))))))] [1, 5] (.s .n (.s (.s .n (.s (.s .n (.l [(2, (.ad 2 [.de])), (10, (.ad 10 [.de])), (13, (.ref 800013 [])), (14, (.d (.int .i64)))] [(2, (.pt (.p (.fz (.int .i64)) (.p (.sl (.fz (.int .i64))) (.p (.sl (.fz (.int .i64))) (.p (.sl (.fz (.int .i64))) (.sl (.sl (.fz (.int .i64)))))))))), (10, (.pt (.p (.fz (.int .i64)) (.p (.sl (.fz (.int .i64))) (.p (.sl (.fz (.int .i64))) (.p (.sl (.fz (.int .i64))) (.sl (.sl (.fz (.int .i64)))))))))), (800013, (.sl (.fz (.int .i64))))] [1, 5, 12] (.s .n (.s (.s .n (.s .n (.s (.s .n (.j [(2, (.ad 2 [.de])), (10, (.ad 10 [.de])), (13, (.ref 800013 [])), (17, (.d (.int .i64)))] [(2, (.pt (.p (.fz (.int .i64)) (.p (.sl (.fz (.int .i64))) (.p (.sl (.fz (.int .i64))) (.p (.sl (.fz (.int .i64))) (.sl (.sl (.fz (.int .i64)))))))))), (10, (.pt (.p (.fz (.int .i64)) (.p (.sl (.fz (.int .i64))) (.p (.sl (.fz (.int .i64))) (.p (.sl (.fz (.int .i64))) (.sl (.sl (.fz (.int .i64)))))))))), (800013, (.sl (.fz (.int .i64))))] [1, 5, 12, 14] .n)) .n))) .n)))) .n)) .n)))) .n)))))))
def ph_spec_l11Complete : FuncId -> Option Ct := lkp [(107, c_spec_l02Fits), (131, c_spec_l02Hom), (61, c_spec_l02Then), (132, c_spec_l09Column), (133, c_spec_l09Find), (130, c_spec_l11Idempotents)]
def W_spec_l11Complete (c : CategoryD) (K : CategoryD × (List (List Int)) × Unit -> Prop) : Prop := ((ShapeP c) /\ (loopW (S := ((Unit × (Unit × (Int × Unit))) × ((Int × ((List Int) × ((List Int) × ((List Int) × (List (List Int)))))) × ((List (List Int)) × Unit)))) (fun s => (fun next => ((inK .i64 s.1.2.2.1) -> ((inK .i64 s.2.1.1) -> ((T.ok (.sl (.int .i64)) s.2.1.2.1) -> ((T.ok (.sl (.int .i64)) s.2.1.2.2.1) -> ((T.ok (.sl (.int .i64)) s.2.1.2.2.2.1) -> ((T.ok (.sl (.sl (.int .i64))) s.2.1.2.2.2.2) -> ((T.ok (.sl (.sl (.int .i64))) s.2.2.1) -> (cnd (decide (s.1.2.2.1 < (((List.length (idemR c)) : Nat) : Int))) (loopW (S := ((Unit × (Unit × (Int × Unit))) × ((Int × ((List Int) × ((List Int) × ((List Int) × (List (List Int)))))) × ((List (List Int)) × Unit)))) (fun s1 => (fun next1 => ((inK .i64 s1.1.2.2.1) -> ((inK .i64 s1.2.1.1) -> ((T.ok (.sl (.int .i64)) s1.2.1.2.1) -> ((T.ok (.sl (.int .i64)) s1.2.1.2.2.1) -> ((T.ok (.sl (.int .i64)) s1.2.1.2.2.2.1) -> ((T.ok (.sl (.sl (.int .i64))) s1.2.1.2.2.2.2) -> ((T.ok (.sl (.sl (.int .i64))) s1.2.2.1) -> (cnd (decide (s1.1.2.2.1 < (((List.length (idemR c)) : Nat) : Int))) ((0 <= s.1.2.2.1) /\ ((s.1.2.2.1 < (((List.length (idemR c)) : Nat) : Int)) /\ ((0 <= (List.getD (idemR c) s.1.2.2.1.toNat 0)) /\ (((List.getD (idemR c) s.1.2.2.1.toNat 0) < ((c.2.1.length : Nat) : Int)) /\ ((0 <= s1.1.2.2.1) /\ ((s1.1.2.2.1 < (((List.length (idemR c)) : Nat) : Int)) /\ ((0 <= (List.getD (idemR c) s1.1.2.2.1.toNat 0)) /\ (((List.getD (idemR c) s1.1.2.2.1.toNat 0) < ((c.2.1.length : Nat) : Int)) /\ ((c.2.1.length <= 40) /\ ((c.2.2.1.length = c.2.1.length) /\ (loopW (S := ((Unit × (Unit × (Int × Unit))) × ((Int × ((List Int) × ((List Int) × ((List Int) × (List (List Int)))))) × ((List (List Int)) × Unit)))) (fun s2 => (fun next2 => ((inK .i64 s2.1.2.2.1) -> ((inK .i64 s2.2.1.1) -> ((T.ok (.sl (.int .i64)) s2.2.1.2.1) -> ((T.ok (.sl (.int .i64)) s2.2.1.2.2.1) -> ((T.ok (.sl (.int .i64)) s2.2.1.2.2.2.1) -> ((T.ok (.sl (.sl (.int .i64))) s2.2.1.2.2.2.2) -> ((T.ok (.sl (.sl (.int .i64))) s2.2.2.1) -> (cnd (decide (s2.1.2.2.1 < (((List.length (homR c (List.getD c.2.1 (Int.toNat (List.getD (idemR c) s.1.2.2.1.toNat 0)) 0) (List.getD c.2.1 (Int.toNat (List.getD (idemR c) s1.1.2.2.1.toNat 0)) 0))) : Nat) : Int))) ((0 <= s.1.2.2.1) /\ ((s.1.2.2.1 < (((List.length (idemR c)) : Nat) : Int)) /\ ((0 <= s2.1.2.2.1) /\ ((s2.1.2.2.1 < (((List.length (homR c (List.getD c.2.1 (Int.toNat (List.getD (idemR c) s.1.2.2.1.toNat 0)) 0) (List.getD c.2.1 (Int.toNat (List.getD (idemR c) s1.1.2.2.1.toNat 0)) 0))) : Nat) : Int)) /\ ((0 <= (List.getD (idemR c) s.1.2.2.1.toNat 0)) /\ (((List.getD (idemR c) s.1.2.2.1.toNat 0) < ((c.2.2.2.2.length : Nat) : Int)) /\ ((0 <= (List.getD (homR c (List.getD c.2.1 (Int.toNat (List.getD (idemR c) s.1.2.2.1.toNat 0)) 0) (List.getD c.2.1 (Int.toNat (List.getD (idemR c) s1.1.2.2.1.toNat 0)) 0)) s2.1.2.2.1.toNat 0)) /\ (((List.getD (homR c (List.getD c.2.1 (Int.toNat (List.getD (idemR c) s.1.2.2.1.toNat 0)) 0) (List.getD c.2.1 (Int.toNat (List.getD (idemR c) s1.1.2.2.1.toNat 0)) 0)) s2.1.2.2.1.toNat 0) < (((List.length (List.getD c.2.2.2.2 (Int.toNat (List.getD (idemR c) s.1.2.2.1.toNat 0)) [])) : Nat) : Int)) /\ ((0 <= s1.1.2.2.1) /\ ((s1.1.2.2.1 < (((List.length (idemR c)) : Nat) : Int)) /\ ((0 <= (compR c (List.getD (idemR c) s.1.2.2.1.toNat 0) (List.getD (homR c (List.getD c.2.1 (Int.toNat (List.getD (idemR c) s.1.2.2.1.toNat 0)) 0) (List.getD c.2.1 (Int.toNat (List.getD (idemR c) s1.1.2.2.1.toNat 0)) 0)) s2.1.2.2.1.toNat 0))) /\ (((compR c (List.getD (idemR c) s.1.2.2.1.toNat 0) (List.getD (homR c (List.getD c.2.1 (Int.toNat (List.getD (idemR c) s.1.2.2.1.toNat 0)) 0) (List.getD c.2.1 (Int.toNat (List.getD (idemR c) s1.1.2.2.1.toNat 0)) 0)) s2.1.2.2.1.toNat 0)) < ((c.2.2.2.2.length : Nat) : Int)) /\ ((0 <= (List.getD (idemR c) s1.1.2.2.1.toNat 0)) /\ (((List.getD (idemR c) s1.1.2.2.1.toNat 0) < (((List.length (List.getD c.2.2.2.2 (Int.toNat (compR c (List.getD (idemR c) s.1.2.2.1.toNat 0) (List.getD (homR c (List.getD c.2.1 (Int.toNat (List.getD (idemR c) s.1.2.2.1.toNat 0)) 0) (List.getD c.2.1 (Int.toNat (List.getD (idemR c) s1.1.2.2.1.toNat 0)) 0)) s2.1.2.2.1.toNat 0))) [])) : Nat) : Int)) /\ ((0 <= s2.1.2.2.1) /\ ((s2.1.2.2.1 < (((List.length (homR c (List.getD c.2.1 (Int.toNat (List.getD (idemR c) s.1.2.2.1.toNat 0)) 0) (List.getD c.2.1 (Int.toNat (List.getD (idemR c) s1.1.2.2.1.toNat 0)) 0))) : Nat) : Int)) /\ (joinW (S := ((Unit × (Unit × Unit)) × ((Int × ((List Int) × ((List Int) × ((List Int) × (List (List Int)))))) × ((List (List Int)) × Unit)))) (fun s3 => ((inK .i64 s3.2.1.1) -> ((T.ok (.sl (.int .i64)) s3.2.1.2.1) -> ((T.ok (.sl (.int .i64)) s3.2.1.2.2.1) -> ((T.ok (.sl (.int .i64)) s3.2.1.2.2.2.1) -> ((T.ok (.sl (.sl (.int .i64))) s3.2.1.2.2.2.2) -> ((T.ok (.sl (.sl (.int .i64))) s3.2.2.1) -> ((inK .i64 (s2.1.2.2.1 + 1)) /\ (next2 (((), ((), ((s2.1.2.2.1 + 1), ()))), (s3.2.1, (s3.2.2.1, ())))))))))))) (fun k => (cnd ((compR c (compR c (List.getD (idemR c) s.1.2.2.1.toNat 0) (List.getD (homR c (List.getD c.2.1 (Int.toNat (List.getD (idemR c) s.1.2.2.1.toNat 0)) 0) (List.getD c.2.1 (Int.toNat (List.getD (idemR c) s1.1.2.2.1.toNat 0)) 0)) s2.1.2.2.1.toNat 0)) (List.getD (idemR c) s1.1.2.2.1.toNat 0)) == (List.getD (homR c (List.getD c.2.1 (Int.toNat (List.getD (idemR c) s.1.2.2.1.toNat 0)) 0) (List.getD c.2.1 (Int.toNat (List.getD (idemR c) s1.1.2.2.1.toNat 0)) 0)) s2.1.2.2.1.toNat 0)) ((0 <= s2.1.2.2.1) /\ ((s2.1.2.2.1 < (((List.length (homR c (List.getD c.2.1 (Int.toNat (List.getD (idemR c) s.1.2.2.1.toNat 0)) 0) (List.getD c.2.1 (Int.toNat (List.getD (idemR c) s1.1.2.2.1.toNat 0)) 0))) : Nat) : Int)) /\ ((room s2.2.2.1.length (List.length ((s.1.2.2.1 :: (s1.1.2.2.1 :: ((List.getD (homR c (List.getD c.2.1 (Int.toNat (List.getD (idemR c) s.1.2.2.1.toNat 0)) 0) (List.getD c.2.1 (Int.toNat (List.getD (idemR c) s1.1.2.2.1.toNat 0)) 0)) s2.1.2.2.1.toNat 0) :: []))) :: [])) 24) /\ (k (((), ((), ())), (s2.2.1, ((s2.2.2.1 ++ ((s.1.2.2.1 :: (s1.1.2.2.1 :: ((List.getD (homR c (List.getD c.2.1 (Int.toNat (List.getD (idemR c) s.1.2.2.1.toNat 0)) 0) (List.getD c.2.1 (Int.toNat (List.getD (idemR c) s1.1.2.2.1.toNat 0)) 0)) s2.1.2.2.1.toNat 0) :: []))) :: [])), ()))))))) (k (((), ((), ())), (s2.2.1, (s2.2.2.1, ()))))))))))))))))))))))) ((inK .i64 (s1.1.2.2.1 + 1)) /\ (next1 (((), ((), ((s1.1.2.2.1 + 1), ()))), (s2.2.1, (s2.2.2.1, ()))))))))))))))) (((), ((), (0, ()))), (s1.2.1, (s1.2.2.1, ())))))))))))))) ((inK .i64 (s.1.2.2.1 + 1)) /\ (next (((), ((), ((s.1.2.2.1 + 1), ()))), (s1.2.1, (s1.2.2.1, ()))))))))))))))) (((), ((), (0, ()))), (s.2.1, (s.2.2.1, ())))) ((ColP s.2.2.1 0) /\ ((ColP s.2.2.1 1) /\ (loopW (S := ((Unit × (Unit × (Int × Unit))) × ((Int × ((List Int) × ((List Int) × ((List Int) × (List (List Int)))))) × ((Int × ((List Int) × ((List Int) × ((List Int) × (List (List Int)))))) × Unit)))) (fun s1 => (fun next1 => ((inK .i64 s1.1.2.2.1) -> ((inK .i64 s1.2.1.1) -> ((T.ok (.sl (.int .i64)) s1.2.1.2.1) -> ((T.ok (.sl (.int .i64)) s1.2.1.2.2.1) -> ((T.ok (.sl (.int .i64)) s1.2.1.2.2.2.1) -> ((T.ok (.sl (.sl (.int .i64))) s1.2.1.2.2.2.2) -> ((inK .i64 s1.2.2.1.1) -> ((T.ok (.sl (.int .i64)) s1.2.2.1.2.1) -> ((T.ok (.sl (.int .i64)) s1.2.2.1.2.2.1) -> ((T.ok (.sl (.int .i64)) s1.2.2.1.2.2.2.1) -> ((T.ok (.sl (.sl (.int .i64))) s1.2.2.1.2.2.2.2) -> (cnd (decide (s1.1.2.2.1 < (((List.length (idemR c)) : Nat) : Int))) ((0 <= s1.1.2.2.1) /\ ((s1.1.2.2.1 < (((List.length (idemR c)) : Nat) : Int)) /\ ((s.2.2.1.length <= 1099511627776) /\ ((room s1.2.2.1.2.2.2.1.length (List.length ((idxLR s.2.2.1 (s1.1.2.2.1 :: (s1.1.2.2.1 :: ((List.getD (idemR c) s1.1.2.2.1.toNat 0) :: [])))) :: [])) 8) /\ ((inK .i64 (s1.1.2.2.1 + 1)) /\ (next1 (((), ((), ((s1.1.2.2.1 + 1), ()))), (s1.2.1, ((s1.2.2.1.1, (s1.2.2.1.2.1, (s1.2.2.1.2.2.1, ((s1.2.2.1.2.2.2.1 ++ ((idxLR s.2.2.1 (s1.1.2.2.1 :: (s1.1.2.2.1 :: ((List.getD (idemR c) s1.1.2.2.1.toNat 0) :: [])))) :: [])), s1.2.2.1.2.2.2.2)))), ()))))))))) (loopW (S := ((Unit × (Unit × (Int × Unit))) × ((Int × ((List Int) × ((List Int) × ((List Int) × (List (List Int)))))) × ((Int × ((List Int) × ((List Int) × ((List Int) × (List (List Int)))))) × Unit)))) (fun s2 => (fun next2 => ((inK .i64 s2.1.2.2.1) -> ((inK .i64 s2.2.1.1) -> ((T.ok (.sl (.int .i64)) s2.2.1.2.1) -> ((T.ok (.sl (.int .i64)) s2.2.1.2.2.1) -> ((T.ok (.sl (.int .i64)) s2.2.1.2.2.2.1) -> ((T.ok (.sl (.sl (.int .i64))) s2.2.1.2.2.2.2) -> ((inK .i64 s2.2.2.1.1) -> ((T.ok (.sl (.int .i64)) s2.2.2.1.2.1) -> ((T.ok (.sl (.int .i64)) s2.2.2.1.2.2.1) -> ((T.ok (.sl (.int .i64)) s2.2.2.1.2.2.2.1) -> ((T.ok (.sl (.sl (.int .i64))) s2.2.2.1.2.2.2.2) -> (cnd ((decide (s2.1.2.2.1 < ((s.2.2.1.length : Nat) : Int))) && ((decide (s2.2.2.1.1 <= 8)) && (decide (((s2.2.2.1.2.1.length : Nat) : Int) <= 40)))) (loopW (S := ((Unit × (Unit × (Unit × (Int × Unit)))) × ((Int × ((List Int) × ((List Int) × ((List Int) × (List (List Int)))))) × ((Int × ((List Int) × ((List Int) × ((List Int) × (List (List Int)))))) × ((List Int) × Unit))))) (fun s3 => (fun next3 => ((inK .i64 s3.1.2.2.2.1) -> ((inK .i64 s3.2.1.1) -> ((T.ok (.sl (.int .i64)) s3.2.1.2.1) -> ((T.ok (.sl (.int .i64)) s3.2.1.2.2.1) -> ((T.ok (.sl (.int .i64)) s3.2.1.2.2.2.1) -> ((T.ok (.sl (.sl (.int .i64))) s3.2.1.2.2.2.2) -> ((inK .i64 s3.2.2.1.1) -> ((T.ok (.sl (.int .i64)) s3.2.2.1.2.1) -> ((T.ok (.sl (.int .i64)) s3.2.2.1.2.2.1) -> ((T.ok (.sl (.int .i64)) s3.2.2.1.2.2.2.1) -> ((T.ok (.sl (.sl (.int .i64))) s3.2.2.1.2.2.2.2) -> ((T.ok (.sl (.int .i64)) s3.2.2.2.1) -> (cnd (decide (s3.1.2.2.2.1 < ((s.2.2.1.length : Nat) : Int))) ((0 <= s2.1.2.2.1) /\ ((s2.1.2.2.1 < ((s.2.2.1.length : Nat) : Int)) /\ ((0 <= s3.1.2.2.2.1) /\ ((s3.1.2.2.2.1 < ((s.2.2.1.length : Nat) : Int)) /\ (((0 : Int) <= 1) /\ ((1 < (((List.length (List.getD s.2.2.1 s2.1.2.2.1.toNat [])) : Nat) : Int)) /\ (((0 : Int) <= 0) /\ ((0 < (((List.length (List.getD s.2.2.1 s3.1.2.2.2.1.toNat [])) : Nat) : Int)) /\ (joinW (S := ((Unit × (Unit × (Unit × (Int × Unit)))) × ((Int × ((List Int) × ((List Int) × ((List Int) × (List (List Int)))))) × ((Int × ((List Int) × ((List Int) × ((List Int) × (List (List Int)))))) × ((List Int) × Unit))))) (fun s4 => ((inK .i64 s4.1.2.2.2.1) -> ((inK .i64 s4.2.1.1) -> ((T.ok (.sl (.int .i64)) s4.2.1.2.1) -> ((T.ok (.sl (.int .i64)) s4.2.1.2.2.1) -> ((T.ok (.sl (.int .i64)) s4.2.1.2.2.2.1) -> ((T.ok (.sl (.sl (.int .i64))) s4.2.1.2.2.2.2) -> ((inK .i64 s4.2.2.1.1) -> ((T.ok (.sl (.int .i64)) s4.2.2.1.2.1) -> ((T.ok (.sl (.int .i64)) s4.2.2.1.2.2.1) -> ((T.ok (.sl (.int .i64)) s4.2.2.1.2.2.2.1) -> ((T.ok (.sl (.sl (.int .i64))) s4.2.2.1.2.2.2.2) -> ((T.ok (.sl (.int .i64)) s4.2.2.2.1) -> ((room s4.2.2.2.1.length (List.length (s4.1.2.2.2.1 :: [])) 8) /\ ((inK .i64 (s3.1.2.2.2.1 + 1)) /\ (next3 (((), ((), ((), ((s3.1.2.2.2.1 + 1), ())))), (s4.2.1, (s4.2.2.1, ((s4.2.2.2.1 ++ (s4.1.2.2.2.1 :: [])), ())))))))))))))))))))) (fun k => (cnd ((List.getD (List.getD s.2.2.1 s2.1.2.2.1.toNat []) (Int.toNat 1) 0) == (List.getD (List.getD s.2.2.1 s3.1.2.2.2.1.toNat []) (Int.toNat 0) 0)) (((0 : Int) <= 0) /\ ((0 < (((List.length (List.getD s.2.2.1 s2.1.2.2.1.toNat [])) : Nat) : Int)) /\ (((0 : Int) <= 1) /\ ((1 < (((List.length (List.getD s.2.2.1 s3.1.2.2.2.1.toNat [])) : Nat) : Int)) /\ (((0 : Int) <= 2) /\ ((2 < (((List.length (List.getD s.2.2.1 s2.1.2.2.1.toNat [])) : Nat) : Int)) /\ (((0 : Int) <= 2) /\ ((2 < (((List.length (List.getD s.2.2.1 s3.1.2.2.2.1.toNat [])) : Nat) : Int)) /\ ((0 <= (List.getD (List.getD s.2.2.1 s2.1.2.2.1.toNat []) (Int.toNat 2) 0)) /\ (((List.getD (List.getD s.2.2.1 s2.1.2.2.1.toNat []) (Int.toNat 2) 0) < ((c.2.2.2.2.length : Nat) : Int)) /\ ((0 <= (List.getD (List.getD s.2.2.1 s3.1.2.2.2.1.toNat []) (Int.toNat 2) 0)) /\ (((List.getD (List.getD s.2.2.1 s3.1.2.2.2.1.toNat []) (Int.toNat 2) 0) < (((List.length (List.getD c.2.2.2.2 (Int.toNat (List.getD (List.getD s.2.2.1 s2.1.2.2.1.toNat []) (Int.toNat 2) 0)) [])) : Nat) : Int)) /\ ((s.2.2.1.length <= 1099511627776) /\ (k (((), ((), ((), ((idxLR s.2.2.1 ((List.getD (List.getD s.2.2.1 s2.1.2.2.1.toNat []) (Int.toNat 0) 0) :: ((List.getD (List.getD s.2.2.1 s3.1.2.2.2.1.toNat []) (Int.toNat 1) 0) :: ((compR c (List.getD (List.getD s.2.2.1 s2.1.2.2.1.toNat []) (Int.toNat 2) 0) (List.getD (List.getD s.2.2.1 s3.1.2.2.2.1.toNat []) (Int.toNat 2) 0)) :: [])))), ())))), (s3.2.1, (s3.2.2.1, (s3.2.2.2.1, ())))))))))))))))))) (k (((), ((), ((), ((-1), ())))), (s3.2.1, (s3.2.2.1, (s3.2.2.2.1, ())))))))))))))))) ((room s3.2.2.1.2.2.2.2.length (List.length (s3.2.2.2.1 :: [])) 24) /\ ((inK .i64 (s2.1.2.2.1 + 1)) /\ (next2 (((), ((), ((s2.1.2.2.1 + 1), ()))), (s3.2.1, ((s3.2.2.1.1, (s3.2.2.1.2.1, (s3.2.2.1.2.2.1, (s3.2.2.1.2.2.2.1, (s3.2.2.1.2.2.2.2 ++ (s3.2.2.2.1 :: [])))))), ()))))))))))))))))))))) (((), ((), ((), (0, ())))), (s2.2.1, (s2.2.2.1, ([], ()))))) (K (s2.2.2.1, (s.2.2.1, ()))))))))))))))))) (((), ((), (0, ()))), (s1.2.1, (s1.2.2.1, ())))))))))))))))))) (((), ((), (0, ()))), (s.2.1, (((((List.length (idemR c)) : Nat) : Int), ((colR s.2.2.1 0), ((colR s.2.2.1 1), ([], [])))), ())))))))))))))))) (((), ((), (0, ()))), ((0, ([], ([], ([], [])))), ([], ())))))
theorem w_spec_l11Complete (x : denL c_spec_l11Complete.args) (K : CategoryD × (List (List Int)) × Unit -> Prop) : evF tab ph_spec_l11Complete (cutL [(19, 12), (9, 517), (27, 9), (29, 6), (13, 20), (30, 515)]) Try.f106 (bodyOf Try.f106) an_spec_l11Complete c_spec_l11Complete x K = W_spec_l11Complete x.1 K := by kernel_rfl
theorem k_spec_l11Complete : okC Try.f106.ntmps (cutL [(19, 12), (9, 517), (27, 9), (29, 6), (13, 20), (30, 515)]) (bodyOf Try.f106) = true := by kernel_rfl
theorem m_spec_l11Complete (c : CategoryD) (hok : allP (okL c_spec_l11Complete.args (c, ()))) (hpre : allP (c_spec_l11Complete.pre (c, ()))) : W_spec_l11Complete c (fun r => r = c_spec_l11Complete.res (c, ())) := by
 simp only [c_spec_l11Complete, okL, T.oks, T.ok, ap, allP, true_and, and_true, implies_true] at hok hpre
 try dsimp only [T.den] at hok
 try dsimp only [T.den] at hpre
 unfold W_spec_l11Complete
 have S : ShapeP c := hpre
 clear hok hpre
 have hm := S.m
 have hlt := S.lt
 have hlc := S.lc
 have hil := idem_len S
 have hie : ∀ i : Int, 0 <= i -> i < (idemR c).length -> 0 <= (idemR c).getD i.toNat 0 /\ (idemR c).getD i.toNat 0 < c.2.1.length /\ compR c ((idemR c).getD i.toNat 0) ((idemR c).getD i.toNat 0) = (idemR c).getD i.toNat 0 := fun i i0 i1 => idem_mem.1 (getD_mem _ 0 i0 i1)
 refine ⟨S, loop_catZ (idemR c).length (by omega) (cpSR c) [] _ 1600 (fun _ _ _ => cpS_len S) ?_ ?_⟩
 ·intro s z out next s0 s1 hb hn _ _ _ _ _ _ _
  try dsimp only at hn ⊢
  simp only [List.length_nil] at hb
  have hb1 : out.length <= 64000 := by omega
  clear hb
  obtain ⟨es0, es1, es2⟩ := hie s s0 s1
  refine cnd_d (fun _ => ?_) (fun h => absurd s1 h)
  refine loop_catZ (idemR c).length (by omega) (cpTR c s) out _ 40 (fun _ _ _ => cpT_len S) ?_ ?_
  ·intro t z2 out2 next2 t0 t1 hb hn2 _ _ _ _ _ _ _
   try dsimp only at hn2 ⊢
   have hb2 : out2.length <= 65600 := by omega
   clear hb
   obtain ⟨et0, et1, et2⟩ := hie t t0 t1
   refine cnd_d (fun _ => ⟨s0, s1, es0, es1, t0, t1, et0, et1, hm, hlt, ?_⟩) (fun h => absurd t1 h)
   have hst : c.2.2.1.getD ((idemR c).getD s.toNat 0).toNat 0 = c.2.1.getD ((idemR c).getD s.toNat 0).toNat 0 := (S.comp es0 es1 es0 es1).1 (by omega)
   have hl40 : (cpHomR c s t).length <= 40 := by
    have := @sel_len (fun g => c.2.1.getD g.toNat 0 == c.2.1.getD ((idemR c).getD s.toNat 0).toNat 0 && c.2.2.1.getD g.toNat 0 == c.2.1.getD ((idemR c).getD t.toNat 0).toNat 0) c.2.1.length
    unfold cpHomR homR; omega
   refine loop_catZ (cpHomR c s t).length (by omega) (fun i => cpHR c s t ((cpHomR c s t).getD i.toNat 0)) out2 _ 1 (fun _ _ _ => cpH_len) ?_ ?_
   ·intro i z3 out3 next3 i0 i1 hb hn3 _ _ _ _ _ _ _
    try dsimp only at hn3 ⊢
    have hb3 : out3.length <= 65700 := by omega
    clear hb
    obtain ⟨h0, h1, h2, h3⟩ := hom_mem.1 (getD_mem (cpHomR c s t) 0 i0 i1)
    have hes := S.row _ es0 es1
    have hy := S.yes es0 es1 h0 h1 (hst.trans h2.symm)
    have hry := S.row _ hy.1 hy.2.1
    refine cnd_d (fun _ => ⟨s0, s1, i0, i1, es0, by rw [hlc]; exact es1, h0, by rw [hes]; exact h1, t0, t1, hy.1, by rw [hlc]; exact hy.2.1, et0, (by erw [hry]; exact et1), i0, i1, ?_⟩) (fun h => absurd i1 h)
    refine join_of (fun (q : ((Unit × (Unit × Unit)) × ((Int × ((List Int) × ((List Int) × ((List Int) × (List (List Int)))))) × ((List (List Int)) × Unit)))) => q.2.2.1 = out3 ++ cpHR c s t ((cpHomR c s t).getD i.toNat 0)) (fun q hq _ _ _ _ _ _ => ⟨by rw [inK64]; (try dsimp only); omega, by rw [hq]; exact hn3 _⟩) (fun k hk => cnd_of (fun hc => ⟨i0, i1, room_of (by simp only [List.length_cons, List.length_nil]; omega), hk _ ?_⟩) (fun hc => hk _ ?_))
    ·unfold cpHR; rw [if_pos (by unfold cpHomR; simpa using hc)]; rfl
    ·unfold cpHR; rw [if_neg (by unfold cpHomR; simpa using hc), List.append_nil]
   ·intro z3 next3 _ _ _ _ _ _ _
    exact cnd_d (fun h => absurd h (Int.lt_irrefl _)) (fun _ => ⟨by rw [inK64]; (try dsimp only); omega, hn2 _⟩)
  ·intro z2 next2 _ _ _ _ _ _ _
   exact cnd_d (fun h => absurd h (Int.lt_irrefl _)) (fun _ => ⟨by rw [inK64]; (try dsimp only); omega, hn _⟩)
 ·intro z next _ _ _ _ _ _ _
  have hA : ([] : List (List Int)) ++ (tabN (((idemR c).length : Nat) : Int).toNat (cpSR c)).flatten = cpArrR c := by rw [Int.toNat_natCast]; rfl
  try dsimp only
  rw [hA]
  have hal := cpA_len S
  have h3 : ∀ i : Int, 0 <= i -> i < (cpArrR c).length -> ∃ s t g : Int, (cpArrR c).getD i.toNat [] = [s, t, g] /\ 0 <= g /\ g < c.2.1.length := fun i i0 i1 => cpArr_mem (getD_mem (cpArrR c) [] i0 i1)
  have hcol : ∀ k : Int, 0 <= k -> k < 2 -> ColP (cpArrR c) k := fun k k0 k1 => ⟨k0, by omega, fun r hr => by obtain ⟨_, _, _, rfl, _⟩ := cpArr_mem hr; simp only [List.length_cons, List.length_nil]; omega⟩
  refine cnd_d (fun h => absurd h (Int.lt_irrefl _)) (fun _ => ⟨hcol 0 (by omega) (by omega), hcol 1 (by omega) (by omega), ?_⟩)
  refine loop_ixZ (fun i => ((((idemR c).length : Nat) : Int), (colR (cpArrR c) 0, (colR (cpArrR c) 1, (tabN i.toNat fun s => idxLR (cpArrR c) [s, s, (idemR c).getD s.toNat 0], ([] : List (List Int))))))) (n := (idemR c).length) (by omega) _ rfl ?_ ?_
  ·intro i z2 next2 i0 i1 hn _ _ _ _ _ _ _ _ _ _ _
   try dsimp only at hn ⊢
   refine cnd_d (fun _ => ⟨i0, i1, by omega, room_of (by rw [tabN_len]; simp only [List.length_cons, List.length_nil]; omega), by rw [inK64]; (try dsimp only); omega, ?_⟩) (fun h => absurd i1 h)
   have := hn z2
   rw [tabN_s i0] at this
   exact this
  intro z2 next2 _ _ _ _ _ _ _ _ _ _ _
  try dsimp only
  refine cnd_d (fun h => absurd h (Int.lt_irrefl _)) (fun _ => ?_)
  rw [Int.toNat_natCast]
  have hres : ∀ n : Int, (cpFitR c = true -> n = (cpArrR c).length) -> (cpFitR c = false -> n = 0) -> (((((idemR c).length : Nat) : Int), (colR (cpArrR c) 0, (colR (cpArrR c) 1, (tabN (idemR c).length fun s => idxLR (cpArrR c) [s, s, (idemR c).getD s.toNat 0], tabN n.toNat fun i => tabN (cpArrR c).length fun j => cpCellR c ((cpArrR c).getD i.toNat []) ((cpArrR c).getD j.toNat []))))), cpArrR c, ()) = c_spec_l11Complete.res (c, ()) := by
   intro n h1 h2
   simp only [c_spec_l11Complete, completeR]
   cases h : cpFitR c with
   | true => rw [h1 h]; simp
   | false => rw [h2 h]; simp [tabN]
  obtain ⟨n, hn0, hn1, hn2⟩ : ∃ n : Int, 0 <= n /\ (cpFitR c = true -> n = (cpArrR c).length) /\ (cpFitR c = false -> n = 0) := by
   cases h : cpFitR c with
   | true => exact ⟨(cpArrR c).length, by omega, fun _ => rfl, fun h => by cases h⟩
   | false => exact ⟨0, by omega, fun h => (by cases h), fun _ => rfl⟩
  have hn3 : n <= (cpArrR c).length := by
   cases h : cpFitR c with
   | true => rw [hn1 h]; omega
   | false => rw [hn2 h]; omega
  have hn4 : 0 < n -> cpFitR c = true := fun h => by
   cases h2 : cpFitR c with
   | true => rfl
   | false => rw [hn2 h2] at h; omega
  refine loop_ixZ (fun i => ((((idemR c).length : Nat) : Int), (colR (cpArrR c) 0, (colR (cpArrR c) 1, (tabN (idemR c).length fun s => idxLR (cpArrR c) [s, s, (idemR c).getD s.toNat 0], tabN i.toNat fun i => tabN (cpArrR c).length fun j => cpCellR c ((cpArrR c).getD i.toNat []) ((cpArrR c).getD j.toNat []))))) ) (n := n) hn0 _ rfl ?_ ?_
  ·intro i z3 next3 i0 i1 hn _ _ _ _ _ _ _ _ _ _ _
   try dsimp only at hn ⊢
   have hf := hn4 (by omega)
   have hf2 := hf
   unfold cpFitR at hf2
   obtain ⟨s1, t1, g1, e1, g10, g11⟩ := h3 i i0 (by omega)
   refine cnd_of (fun _ => ?_) (fun h => ?_)
   ·refine loop_ixZ2 (fun j => tabN j.toNat fun j => cpCellR c ((cpArrR c).getD i.toNat []) ((cpArrR c).getD j.toNat [])) (n := (cpArrR c).length) (by omega) _ _ rfl ?_ ?_
    ·intro j z4 next4 j0 j1 hn5 _ _ _ _ _ _ _ _ _ _ _ _
     try dsimp only at hn5 ⊢
     obtain ⟨s2, t2, g2, e2, g20, g21⟩ := h3 j j0 j1
     rw [tabN_s j0] at hn5
     have hr := S.row g1 g10 g11
     refine cnd_d (fun _ => ⟨i0, by omega, j0, j1, by omega, by rw [e1]; simp, by omega, by rw [e2]; simp, ?_⟩) (fun h => absurd j1 h)
     refine join_of (fun q => q.1.2.2.2.1 = cpCellR c ((cpArrR c).getD i.toNat []) ((cpArrR c).getD j.toNat []) /\ q.2.2.1 = ((((idemR c).length : Nat) : Int), (colR (cpArrR c) 0, (colR (cpArrR c) 1, (tabN (idemR c).length fun s => idxLR (cpArrR c) [s, s, (idemR c).getD s.toNat 0], tabN i.toNat fun i => tabN (cpArrR c).length fun j => cpCellR c ((cpArrR c).getD i.toNat []) ((cpArrR c).getD j.toNat []))))) /\ q.2.2.2.1 = tabN j.toNat fun j => cpCellR c ((cpArrR c).getD i.toNat []) ((cpArrR c).getD j.toNat [])) (fun q hq _ _ _ _ _ _ _ _ _ _ _ _ => ?_) (fun k hk => ?_)
     ·obtain ⟨q1, q2, q3⟩ := hq
      rw [q1, q2, q3]
      exact ⟨room_of (by rw [tabN_len]; simp only [List.length_cons, List.length_nil]; omega), by rw [inK64]; (try dsimp only); omega, hn5 _⟩
     ·have hcell : cpCellR c ((cpArrR c).getD i.toNat []) ((cpArrR c).getD j.toNat []) = if t1 = s2 then idxLR (cpArrR c) [s1, t2, compR c g1 g2] else -1 := by rw [e1, e2]; rfl
      refine cnd_of (fun hc => ?_) (fun hc => ?_)
      ·have hc2 : t1 = s2 := by rw [e1, e2] at hc; simpa using hc
       refine ⟨by omega, by rw [e1]; simp, by omega, by rw [e2]; simp, by omega, by rw [e1]; simp, by omega, by rw [e2]; simp, by rw [e1]; exact g10, by rw [e1]; show g1 < _; omega, by rw [e2]; exact g20, ?_, by omega, hk _ ⟨?_, rfl, rfl⟩⟩
       ·rw [e1, e2]; show g2 < (((c.2.2.2.2.getD g1.toNat []).length : Nat) : Int); rw [hr]; exact g21
       ·try dsimp only; rw [hcell, if_pos hc2, e1, e2]; rfl
      ·have hc2 : ¬ t1 = s2 := by rw [e1, e2] at hc; simpa using hc
       refine hk _ ⟨?_, rfl, rfl⟩
       try dsimp only; rw [hcell, if_neg hc2]
    ·intro z4 next4 _ _ _ _ _ _ _ _ _ _ _ _
     try dsimp only
     refine cnd_d (fun h => absurd h (Int.lt_irrefl _)) (fun _ => ⟨room_of (by rw [tabN_len]; simp only [List.length_cons, List.length_nil]; omega), by rw [inK64]; (try dsimp only); omega, ?_⟩)
     have := hn z4
     rw [tabN_s i0] at this
     rw [Int.toNat_natCast]
     exact this
   ·exfalso
    simp only [Bool.and_eq_true, decide_eq_true_eq] at hf2
    simp only [Bool.and_eq_false_iff, decide_eq_false_iff_not] at h
    omega
  ·intro z3 next3 _ _ _ _ _ _ _ _ _ _ _
   try dsimp only
   refine cnd_of (fun h => ?_) (fun _ => hres n hn1 hn2)
   exfalso
   simp only [Bool.and_eq_true, decide_eq_true_eq] at h
   have hf : cpFitR c = true := by unfold cpFitR; simp only [Bool.and_eq_true, decide_eq_true_eq]; exact h.2
   have := hn1 hf
   omega
theorem ct_spec_l11Complete : CtOk Try.prog 106 c_spec_l11Complete :=
 ct_by (Φ := ph_spec_l11Complete) (good_cons ct_spec_l02Fits (good_cons ct_spec_l02Hom (good_cons ct_spec_l02Then (good_cons ct_spec_l09Column (good_cons ct_spec_l09Find (good_cons ct_spec_l11Idempotents good_nil)))))) tab_ok (by kernel_rfl) (fn := Try.f106) (c := bodyOf Try.f106) (by kernel_rfl) (by kernel_rfl) (by kernel_rfl) c_spec_l11Complete rfl an_spec_l11Complete (cutL [(19, 12), (9, 517), (27, 9), (29, 6), (13, 20), (30, 515)]) (by kernel_rfl) (by kernel_rfl) k_spec_l11Complete (by decide) (fun x K => W_spec_l11Complete x.1 K) w_spec_l11Complete (fun x h1 h2 => m_spec_l11Complete x.1 h1 h2)
def c3HR (c : CategoryD) (s t h : Int) : List (Int × Int × Int) := if compR c (compR c ((idemR c).getD s.toNat 0) h) ((idemR c).getD t.toNat 0) = h then [(s, t, h)] else []
def c3TR (c : CategoryD) (s t : Int) : List (Int × Int × Int) := (tabN (cpHomR c s t).length fun i => c3HR c s t ((cpHomR c s t).getD i.toNat 0)).flatten
def c3SR (c : CategoryD) (s : Int) : List (Int × Int × Int) := (tabN (idemR c).length (c3TR c s)).flatten
def c3R (c : CategoryD) : List (Int × Int × Int) := (tabN (idemR c).length (c3SR c)).flatten
def completedR (c : CategoryD) : completionD := (completeR c, idemR c, c3R c)
theorem mapTab {α β : Type} (h : α -> β) (f : Int -> α) : ∀ n : Nat, (tabN n f).map h = tabN n fun i => h (f i)
 | 0 => rfl
 | n + 1 => by rw [tabN, tabN, List.map_append, mapTab h f n]; rfl
def l3R (x : Int × Int × Int) : List Int := [x.1, x.2.1, x.2.2]
theorem c3H_map {c : CategoryD} {s t h : Int} : (c3HR c s t h).map l3R = cpHR c s t h := by unfold c3HR cpHR; split <;> rfl
theorem c3T_map {c : CategoryD} {s t : Int} : (c3TR c s t).map l3R = cpTR c s t := by
 unfold c3TR cpTR; rw [List.map_flatten, mapTab]; exact congrArg List.flatten (tabN_congr fun _ _ _ => c3H_map)
theorem c3S_map {c : CategoryD} {s : Int} : (c3SR c s).map l3R = cpSR c s := by
 unfold c3SR cpSR; rw [List.map_flatten, mapTab]; exact congrArg List.flatten (tabN_congr fun _ _ _ => c3T_map)
theorem c3_map (c : CategoryD) : (c3R c).map l3R = cpArrR c := by
 unfold c3R cpArrR; rw [List.map_flatten, mapTab]; exact congrArg List.flatten (tabN_congr fun _ _ _ => c3S_map)
theorem c3_len (c : CategoryD) : (cpArrR c).length = (c3R c).length := by rw [← c3_map, List.length_map]
theorem c3H_len {c : CategoryD} {s t h : Int} : (c3HR c s t h).length <= 1 := by unfold c3HR; split <;> simp
theorem c3T_len {c : CategoryD} (S : ShapeP c) {s t : Int} : (c3TR c s t).length <= 40 := by
 have h := cpT_len S (s := s) (t := t); rw [← c3T_map, List.length_map] at h; exact h
theorem c3S_len {c : CategoryD} (S : ShapeP c) {s : Int} : (c3SR c s).length <= 1600 := by
 have h := cpS_len S (s := s); rw [← c3S_map, List.length_map] at h; exact h
theorem tabflat_s {α : Type} {g : Int -> List α} {i : Int} (h0 : 0 <= i) : (tabN (i + 1).toNat g).flatten = (tabN i.toNat g).flatten ++ g i := by
 rw [tabN_s h0, List.flatten_append]; simp
theorem tabflat_le {α : Type} {g : Int -> List α} {B n : Nat} (h : ∀ i : Int, 0 <= i -> i < n -> (g i).length <= B) : (tabN n g).flatten.length <= n * B := by
 have := @flat_le α B (tabN n g) fun l hl => by obtain ⟨j, j0, j1, rfl⟩ := tabN_mem.1 hl; exact h j j0 j1
 rwa [tabN_len] at this
theorem c3_mem {c : CategoryD} {x : Int × Int × Int} (h : x ∈ c3R c) : 0 <= x.2.2 /\ x.2.2 < c.2.1.length := by
 have h1 : l3R x ∈ cpArrR c := by rw [← c3_map]; exact List.mem_map_of_mem h
 obtain ⟨s, t, g, e, g0, g1⟩ := cpArr_mem h1
 simp only [l3R, List.cons.injEq, and_true] at e
 rw [e.2.2]; exact ⟨g0, g1⟩
theorem c3_arr (c : CategoryD) : ArrP c (c3R c) := ⟨fun i h0 h1 => c3_mem (getD_mem _ _ h0 h1)⟩
theorem idx_map {α β : Type} [DecidableEq α] [DecidableEq β] (g : α -> β) (hg : ∀ a b, g a = g b -> a = b) (x : α) : ∀ l : List α, idxR (l.map g) (g x) = idxR l x
 | [] => rfl
 | a :: r => by
  rw [List.map_cons, idxR, idxR, idx_map g hg x r]
  by_cases h : a = x
  ·rw [if_pos h, if_pos (congrArg g h)]
  ·rw [if_neg h, if_neg (fun e => h (hg _ _ e))]
theorem c3_idx (c : CategoryD) (a b f : Int) : idxLR (cpArrR c) [a, b, f] = idx3R (c3R c) (a, b, f) := by
 rw [← c3_map]
 exact idx_map l3R (fun x y h => by simp only [l3R, List.cons.injEq, and_true] at h; exact Prod.ext h.1 (Prod.ext h.2.1 h.2.2)) (a, b, f) _
theorem c3_col0 (c : CategoryD) : colR (cpArrR c) 0 = (c3R c).map (fun x => x.1) := by
 rw [← c3_map]; unfold colR; rw [List.map_map]; rfl
theorem c3_col1 (c : CategoryD) : colR (cpArrR c) 1 = (c3R c).map (fun x => x.2.1) := by
 rw [← c3_map]; unfold colR; rw [List.map_map]; rfl
theorem c3_fit (c : CategoryD) : cpFitR c = (decide (((idemR c).length : Int) <= 8) && decide (((c3R c).length : Int) <= 40)) := by
 unfold cpFitR; rw [c3_col0, List.length_map]
theorem c3_get {c : CategoryD} {i : Int} (h0 : 0 <= i) (h1 : i < (c3R c).length) : (cpArrR c).getD i.toNat [] = l3R ((c3R c).getD i.toNat (0, (0, 0))) := by
 rw [← c3_map]; exact map_getD (by omega)
theorem c3_table (c : CategoryD) (n : Int) (l : List Int) (z : List (List Int)) : tableR (n, ((c3R c).map (fun x => x.1), ((c3R c).map (fun x => x.2.1), (l, z)))) (cmpFR c (c3R c)) = tabN (cpArrR c).length (fun i => tabN (cpArrR c).length fun j => cpCellR c ((cpArrR c).getD i.toNat []) ((cpArrR c).getD j.toNat [])) := by
 unfold tableR
 rw [c3_len]
 dsimp only
 rw [List.length_map]
 refine tabN_congr fun i i0 i1 => tabN_congr fun j j0 j1 => ?_
 unfold tabFR cpCellR cmpFR
 dsimp only
 rw [c3_get i0 i1, c3_get j0 j1, c3_idx]
 have e1 : ((c3R c).map (fun x => x.2.1)).getD i.toNat 0 = ((c3R c).getD i.toNat (0, (0, 0))).2.1 := map_getD (by omega)
 have e2 : ((c3R c).map (fun x => x.1)).getD j.toNat 0 = ((c3R c).getD j.toNat (0, (0, 0))).1 := map_getD (by omega)
 rw [e1, e2]
 rfl
theorem c3_all {c : CategoryD} (h : cpFitR c = true) (z : List (List Int)) : (((((idemR c).length : Int), ((c3R c).map (fun x => x.1), ((c3R c).map (fun x => x.2.1), ((tabN (idemR c).length fun s => idx3R (c3R c) (s, (s, (idemR c).getD s.toNat 0))), tableR (((idemR c).length : Int), ((c3R c).map (fun x => x.1), ((c3R c).map (fun x => x.2.1), ((tabN (idemR c).length fun s => idx3R (c3R c) (s, (s, (idemR c).getD s.toNat 0))), z)))) (cmpFR c (c3R c)))))) : CategoryD), (idemR c, c3R c)) = completedR c := by
 unfold completedR completeR
 rw [c3_table, if_pos h, c3_col0, c3_col1]
 simp only [c3_idx]
def s_impl_Category_completed : Sp := ⟨[(.pt CategoryT)], [false], true, fun x => cpFitR x.1, fun x => [ShapeP x.1], [(false, (.pt (.p (.p (.fz (.int .i64)) (.p (.sl (.fz (.int .i64))) (.p (.sl (.fz (.int .i64))) (.p (.sl (.fz (.int .i64))) (.sl (.sl (.fz (.int .i64)))))))) (.p (.fz (.sl (.int .i64))) (.fz (.sl (.p (.int .i64) (.p (.int .i64) (.int .i64))))))))), (false, (.fz .bool))], fun x => (completedR x.1, true, ()), [(false, (.fz .any)), (false, (.fz .bool))], fun x => ((), false, ())⟩
def c_impl_Category_completed_y : Ct := spCt s_impl_Category_completed true
def c_impl_Category_completed_n : Ct := spCt s_impl_Category_completed false
def c_impl_Category_completed : Ct := spC s_impl_Category_completed
def W_impl_Category_completed_y (c : CategoryD) (K : denR c_impl_Category_completed_y.rt -> Prop) : Prop := ((ShapeP c) /\ (cnd (decide ((8 : Int) < (((List.length (idemR c)) : Nat) : Int))) False (loopW (S := ((Unit × (Int × Unit)) × (((Int × ((List Int) × ((List Int) × ((List Int) × (List (List Int)))))) × ((List Int) × (List (Int × (Int × Int))))) × Unit))) (fun s => (fun next => ((inK IntKind.i64 s.1.2.1) -> ((inK IntKind.i64 s.2.1.1.1) -> ((T.ok (T.sl (T.int IntKind.i64)) s.2.1.1.2.1) -> ((T.ok (T.sl (T.int IntKind.i64)) s.2.1.1.2.2.1) -> ((T.ok (T.sl (T.int IntKind.i64)) s.2.1.1.2.2.2.1) -> ((T.ok (T.sl (T.sl (T.int IntKind.i64))) s.2.1.1.2.2.2.2) -> ((T.ok (T.sl (T.int IntKind.i64)) s.2.1.2.1) -> ((T.ok (T.sl tripleT) s.2.1.2.2) -> (cnd (decide (s.1.2.1 < (((List.length (idemR c)) : Nat) : Int))) (((0 : Int) <= s.1.2.1) /\ ((s.1.2.1 < (((List.length (idemR c)) : Nat) : Int)) /\ (loopW (S := ((Unit × (Int × Unit)) × (((Int × ((List Int) × ((List Int) × ((List Int) × (List (List Int)))))) × ((List Int) × (List (Int × (Int × Int))))) × Unit))) (fun s1 => (fun next1 => ((inK IntKind.i64 s1.1.2.1) -> ((inK IntKind.i64 s1.2.1.1.1) -> ((T.ok (T.sl (T.int IntKind.i64)) s1.2.1.1.2.1) -> ((T.ok (T.sl (T.int IntKind.i64)) s1.2.1.1.2.2.1) -> ((T.ok (T.sl (T.int IntKind.i64)) s1.2.1.1.2.2.2.1) -> ((T.ok (T.sl (T.sl (T.int IntKind.i64))) s1.2.1.1.2.2.2.2) -> ((T.ok (T.sl (T.int IntKind.i64)) s1.2.1.2.1) -> ((T.ok (T.sl tripleT) s1.2.1.2.2) -> (cnd (decide (s1.1.2.1 < (((List.length s.2.1.2.1) : Nat) : Int))) (((0 : Int) <= s1.1.2.1) /\ ((s1.1.2.1 < (((List.length s.2.1.2.1) : Nat) : Int)) /\ (((0 : Int) <= (List.getD (idemR c) (Int.toNat s.1.2.1) (0 : Int))) /\ (((List.getD (idemR c) (Int.toNat s.1.2.1) (0 : Int)) < (((List.length c.2.1) : Nat) : Int)) /\ (((0 : Int) <= (List.getD s.2.1.2.1 (Int.toNat s1.1.2.1) (0 : Int))) /\ (((List.getD s.2.1.2.1 (Int.toNat s1.1.2.1) (0 : Int)) < (((List.length c.2.1) : Nat) : Int)) /\ (((List.length c.2.1) <= 40) /\ (((List.length c.2.2.1) = (List.length c.2.1)) /\ (loopW (S := ((Unit × (Int × Unit)) × (((Int × ((List Int) × ((List Int) × ((List Int) × (List (List Int)))))) × ((List Int) × (List (Int × (Int × Int))))) × Unit))) (fun s2 => (fun next2 => ((inK IntKind.i64 s2.1.2.1) -> ((inK IntKind.i64 s2.2.1.1.1) -> ((T.ok (T.sl (T.int IntKind.i64)) s2.2.1.1.2.1) -> ((T.ok (T.sl (T.int IntKind.i64)) s2.2.1.1.2.2.1) -> ((T.ok (T.sl (T.int IntKind.i64)) s2.2.1.1.2.2.2.1) -> ((T.ok (T.sl (T.sl (T.int IntKind.i64))) s2.2.1.1.2.2.2.2) -> ((T.ok (T.sl (T.int IntKind.i64)) s2.2.1.2.1) -> ((T.ok (T.sl tripleT) s2.2.1.2.2) -> (cnd (decide (s2.1.2.1 < (((List.length (homR c (List.getD c.2.1 (Int.toNat (List.getD (idemR c) (Int.toNat s.1.2.1) (0 : Int))) (0 : Int)) (List.getD c.2.1 (Int.toNat (List.getD s.2.1.2.1 (Int.toNat s1.1.2.1) (0 : Int))) (0 : Int)))) : Nat) : Int))) (((0 : Int) <= s2.1.2.1) /\ ((s2.1.2.1 < (((List.length (homR c (List.getD c.2.1 (Int.toNat (List.getD (idemR c) (Int.toNat s.1.2.1) (0 : Int))) (0 : Int)) (List.getD c.2.1 (Int.toNat (List.getD s.2.1.2.1 (Int.toNat s1.1.2.1) (0 : Int))) (0 : Int)))) : Nat) : Int)) /\ (((0 : Int) <= (List.getD (idemR c) (Int.toNat s.1.2.1) (0 : Int))) /\ (((List.getD (idemR c) (Int.toNat s.1.2.1) (0 : Int)) < (((List.length c.2.2.2.2) : Nat) : Int)) /\ (((0 : Int) <= (List.getD (homR c (List.getD c.2.1 (Int.toNat (List.getD (idemR c) (Int.toNat s.1.2.1) (0 : Int))) (0 : Int)) (List.getD c.2.1 (Int.toNat (List.getD s.2.1.2.1 (Int.toNat s1.1.2.1) (0 : Int))) (0 : Int))) (Int.toNat s2.1.2.1) (0 : Int))) /\ (((List.getD (homR c (List.getD c.2.1 (Int.toNat (List.getD (idemR c) (Int.toNat s.1.2.1) (0 : Int))) (0 : Int)) (List.getD c.2.1 (Int.toNat (List.getD s.2.1.2.1 (Int.toNat s1.1.2.1) (0 : Int))) (0 : Int))) (Int.toNat s2.1.2.1) (0 : Int)) < (((List.length (List.getD c.2.2.2.2 (Int.toNat (List.getD (idemR c) (Int.toNat s.1.2.1) (0 : Int))) ([] : List Int))) : Nat) : Int)) /\ (((0 : Int) <= (compR c (List.getD (idemR c) (Int.toNat s.1.2.1) (0 : Int)) (List.getD (homR c (List.getD c.2.1 (Int.toNat (List.getD (idemR c) (Int.toNat s.1.2.1) (0 : Int))) (0 : Int)) (List.getD c.2.1 (Int.toNat (List.getD s.2.1.2.1 (Int.toNat s1.1.2.1) (0 : Int))) (0 : Int))) (Int.toNat s2.1.2.1) (0 : Int)))) /\ (((compR c (List.getD (idemR c) (Int.toNat s.1.2.1) (0 : Int)) (List.getD (homR c (List.getD c.2.1 (Int.toNat (List.getD (idemR c) (Int.toNat s.1.2.1) (0 : Int))) (0 : Int)) (List.getD c.2.1 (Int.toNat (List.getD s.2.1.2.1 (Int.toNat s1.1.2.1) (0 : Int))) (0 : Int))) (Int.toNat s2.1.2.1) (0 : Int))) < (((List.length c.2.2.2.2) : Nat) : Int)) /\ (((0 : Int) <= (List.getD s.2.1.2.1 (Int.toNat s1.1.2.1) (0 : Int))) /\ (((List.getD s.2.1.2.1 (Int.toNat s1.1.2.1) (0 : Int)) < (((List.length (List.getD c.2.2.2.2 (Int.toNat (compR c (List.getD (idemR c) (Int.toNat s.1.2.1) (0 : Int)) (List.getD (homR c (List.getD c.2.1 (Int.toNat (List.getD (idemR c) (Int.toNat s.1.2.1) (0 : Int))) (0 : Int)) (List.getD c.2.1 (Int.toNat (List.getD s.2.1.2.1 (Int.toNat s1.1.2.1) (0 : Int))) (0 : Int))) (Int.toNat s2.1.2.1) (0 : Int)))) ([] : List Int))) : Nat) : Int)) /\ (joinW (S := ((Unit × Unit) × (((Int × ((List Int) × ((List Int) × ((List Int) × (List (List Int)))))) × ((List Int) × (List (Int × (Int × Int))))) × Unit))) (fun s3 => ((inK IntKind.i64 s3.2.1.1.1) -> ((T.ok (T.sl (T.int IntKind.i64)) s3.2.1.1.2.1) -> ((T.ok (T.sl (T.int IntKind.i64)) s3.2.1.1.2.2.1) -> ((T.ok (T.sl (T.int IntKind.i64)) s3.2.1.1.2.2.2.1) -> ((T.ok (T.sl (T.sl (T.int IntKind.i64))) s3.2.1.1.2.2.2.2) -> ((T.ok (T.sl (T.int IntKind.i64)) s3.2.1.2.1) -> ((T.ok (T.sl tripleT) s3.2.1.2.2) -> ((inK IntKind.i64 (s2.1.2.1 + (1 : Int))) /\ (next2 (((), ((s2.1.2.1 + (1 : Int)), ())), (s3.2.1, ())))))))))))) (fun k => (cnd ((compR c (compR c (List.getD (idemR c) (Int.toNat s.1.2.1) (0 : Int)) (List.getD (homR c (List.getD c.2.1 (Int.toNat (List.getD (idemR c) (Int.toNat s.1.2.1) (0 : Int))) (0 : Int)) (List.getD c.2.1 (Int.toNat (List.getD s.2.1.2.1 (Int.toNat s1.1.2.1) (0 : Int))) (0 : Int))) (Int.toNat s2.1.2.1) (0 : Int))) (List.getD s.2.1.2.1 (Int.toNat s1.1.2.1) (0 : Int))) == (List.getD (homR c (List.getD c.2.1 (Int.toNat (List.getD (idemR c) (Int.toNat s.1.2.1) (0 : Int))) (0 : Int)) (List.getD c.2.1 (Int.toNat (List.getD s.2.1.2.1 (Int.toNat s1.1.2.1) (0 : Int))) (0 : Int))) (Int.toNat s2.1.2.1) (0 : Int))) ((room (List.length s2.2.1.2.2) (List.length ((s.1.2.1, (s1.1.2.1, (List.getD (homR c (List.getD c.2.1 (Int.toNat (List.getD (idemR c) (Int.toNat s.1.2.1) (0 : Int))) (0 : Int)) (List.getD c.2.1 (Int.toNat (List.getD s.2.1.2.1 (Int.toNat s1.1.2.1) (0 : Int))) (0 : Int))) (Int.toNat s2.1.2.1) (0 : Int)))) :: ([] : List (Int × (Int × Int))))) 24) /\ (k (((), ()), ((s2.2.1.1, (s2.2.1.2.1, (s2.2.1.2.2 ++ ((s.1.2.1, (s1.1.2.1, (List.getD (homR c (List.getD c.2.1 (Int.toNat (List.getD (idemR c) (Int.toNat s.1.2.1) (0 : Int))) (0 : Int)) (List.getD c.2.1 (Int.toNat (List.getD s.2.1.2.1 (Int.toNat s1.1.2.1) (0 : Int))) (0 : Int))) (Int.toNat s2.1.2.1) (0 : Int)))) :: ([] : List (Int × (Int × Int))))))), ())))) (k (((), ()), (s2.2.1, ())))))))))))))))) ((inK IntKind.i64 (s1.1.2.1 + (1 : Int))) /\ (next1 (((), ((s1.1.2.1 + (1 : Int)), ())), (s2.2.1, ()))))))))))))))) (((), ((0 : Int), ())), (s1.2.1, ()))))))))))) ((inK IntKind.i64 (s.1.2.1 + (1 : Int))) /\ (next (((), ((s.1.2.1 + (1 : Int)), ())), (s1.2.1, ()))))))))))))))) (((), ((0 : Int), ())), (s.2.1, ()))))) (joinW (S := ((Unit × Unit) × (((Int × ((List Int) × ((List Int) × ((List Int) × (List (List Int)))))) × ((List Int) × (List (Int × (Int × Int))))) × Unit))) (fun s1 => ((inK IntKind.i64 s1.2.1.1.1) -> ((T.ok (T.sl (T.int IntKind.i64)) s1.2.1.1.2.1) -> ((T.ok (T.sl (T.int IntKind.i64)) s1.2.1.1.2.2.1) -> ((T.ok (T.sl (T.int IntKind.i64)) s1.2.1.1.2.2.2.1) -> ((T.ok (T.sl (T.sl (T.int IntKind.i64))) s1.2.1.1.2.2.2.2) -> ((T.ok (T.sl (T.int IntKind.i64)) s1.2.1.2.1) -> ((T.ok (T.sl tripleT) s1.2.1.2.2) -> (((0 : Int) <= (((List.length s1.2.1.2.1) : Nat) : Int)) /\ (((((List.length s1.2.1.2.1) : Nat) : Int) <= (((List.length s1.2.1.2.1) : Nat) : Int)) /\ (((((List.length s1.2.1.2.1) : Nat) : Int) <= ((140737488355328 : Nat) : Int)) /\ ((((((List.length s1.2.1.2.1) : Nat) : Int) * ((8 : Nat) : Int)) <= ((140737488355328 : Nat) : Int)) /\ (loopW (S := ((Unit × (Int × Unit)) × (((Int × ((List Int) × ((List Int) × ((List Int) × (List (List Int)))))) × ((List Int) × (List (Int × (Int × Int))))) × Unit))) (fun s2 => (fun next1 => ((inK IntKind.i64 s2.1.2.1) -> ((inK IntKind.i64 s2.2.1.1.1) -> ((T.ok (T.sl (T.int IntKind.i64)) s2.2.1.1.2.1) -> ((T.ok (T.sl (T.int IntKind.i64)) s2.2.1.1.2.2.1) -> ((T.ok (T.sl (T.int IntKind.i64)) s2.2.1.1.2.2.2.1) -> ((T.ok (T.sl (T.sl (T.int IntKind.i64))) s2.2.1.1.2.2.2.2) -> ((T.ok (T.sl (T.int IntKind.i64)) s2.2.1.2.1) -> ((T.ok (T.sl tripleT) s2.2.1.2.2) -> (cnd (decide (s2.1.2.1 < (((List.length s1.2.1.2.2) : Nat) : Int))) (((0 : Int) <= s2.1.2.1) /\ ((s2.1.2.1 < (((List.length s1.2.1.2.2) : Nat) : Int)) /\ (((0 : Int) <= (0 : Int)) /\ (((0 : Int) < ((3 : Nat) : Int)) /\ ((room (List.length s2.2.1.1.2.1) (List.length ((List.getD s1.2.1.2.2 (Int.toNat s2.1.2.1) ((0 : Int), ((0 : Int), (0 : Int)))).1 :: ([] : List Int))) 8) /\ (((0 : Int) <= (1 : Int)) /\ (((1 : Int) < ((3 : Nat) : Int)) /\ ((room (List.length s2.2.1.1.2.2.1) (List.length ((List.getD s1.2.1.2.2 (Int.toNat s2.1.2.1) ((0 : Int), ((0 : Int), (0 : Int)))).2.1 :: ([] : List Int))) 8) /\ ((inK IntKind.i64 (s2.1.2.1 + (1 : Int))) /\ (next1 (((), ((s2.1.2.1 + (1 : Int)), ())), (((s2.2.1.1.1, ((s2.2.1.1.2.1 ++ ((List.getD s1.2.1.2.2 (Int.toNat s2.1.2.1) ((0 : Int), ((0 : Int), (0 : Int)))).1 :: ([] : List Int))), ((s2.2.1.1.2.2.1 ++ ((List.getD s1.2.1.2.2 (Int.toNat s2.1.2.1) ((0 : Int), ((0 : Int), (0 : Int)))).2.1 :: ([] : List Int))), s2.2.1.1.2.2.2))), s2.2.1.2), ())))))))))))) (loopW (S := ((Unit × (Int × Unit)) × (((Int × ((List Int) × ((List Int) × ((List Int) × (List (List Int)))))) × ((List Int) × (List (Int × (Int × Int))))) × Unit))) (fun s3 => (fun next2 => ((inK IntKind.i64 s3.1.2.1) -> ((inK IntKind.i64 s3.2.1.1.1) -> ((T.ok (T.sl (T.int IntKind.i64)) s3.2.1.1.2.1) -> ((T.ok (T.sl (T.int IntKind.i64)) s3.2.1.1.2.2.1) -> ((T.ok (T.sl (T.int IntKind.i64)) s3.2.1.1.2.2.2.1) -> ((T.ok (T.sl (T.sl (T.int IntKind.i64))) s3.2.1.1.2.2.2.2) -> ((T.ok (T.sl (T.int IntKind.i64)) s3.2.1.2.1) -> ((T.ok (T.sl tripleT) s3.2.1.2.2) -> (cnd (decide (s3.1.2.1 < (((List.length s2.2.1.2.1) : Nat) : Int))) (((0 : Int) <= s3.1.2.1) /\ ((s3.1.2.1 < (((List.length s2.2.1.2.1) : Nat) : Int)) /\ (((0 : Int) <= s3.1.2.1) /\ ((s3.1.2.1 < (((List.length s3.2.1.1.2.2.2.1) : Nat) : Int)) /\ ((inK IntKind.i64 (s3.1.2.1 + (1 : Int))) /\ (next2 (((), ((s3.1.2.1 + (1 : Int)), ())), (((s3.2.1.1.1, (s3.2.1.1.2.1, (s3.2.1.1.2.2.1, ((List.set s3.2.1.1.2.2.2.1 (Int.toNat s3.1.2.1) (idx3R s3.2.1.2.2 (s3.1.2.1, (s3.1.2.1, (List.getD s2.2.1.2.1 (Int.toNat s3.1.2.1) (0 : Int)))))), s3.2.1.1.2.2.2.2)))), s3.2.1.2), ())))))))) ((CmpP s3.2.1 c) /\ (K (((s3.2.1.1.1, (s3.2.1.1.2.1, (s3.2.1.1.2.2.1, (s3.2.1.1.2.2.2.1, (tableR s3.2.1.1 (cmpFR c s3.2.1.2.2)))))), s3.2.1.2), (Bool.true, ()))))))))))))))) (((), ((0 : Int), ())), (s2.2.1, ())))))))))))))) (((), ((0 : Int), ())), ((((((List.length s1.2.1.2.1) : Nat) : Int), (([] : List Int), (([] : List Int), ((List.replicate (Int.toNat (((List.length s1.2.1.2.1) : Nat) : Int)) (0 : Int)), ([] : List (List Int)))))), s1.2.1.2), ()))))))))))))))) (fun k => (cnd (decide ((40 : Int) < (((List.length s.2.1.2.2) : Nat) : Int))) False (k (((), ()), (s.2.1, ()))))))))))))))))) (((), ((0 : Int), ())), ((((0 : Int), (([] : List Int), (([] : List Int), (([] : List Int), ([] : List (List Int)))))), ((idemR c), ([] : List (Int × (Int × Int))))), ())))))
theorem w_impl_Category_completed_y (x : denL c_impl_Category_completed_y.args) (K : denR c_impl_Category_completed_y.rt -> Prop) : evF tab (lkp [(111, c_impl_Category_hom), (110, c_impl_Category_idempotents), (87, c_impl_Category_table_comp), (67, c_impl_Category_then), (112, c_impl_completion_arrow)]) (cutL [(20, 513), (24, 5009), (25, 5009), (10, 518), (13, 8), (30, 11), (14, 5010)]) Try.f49 (bodyOf Try.f49) (.s .n (.s .n (.s .n (.s (.s .n (.l [(4, (.bx (.ad 18 [.de]))), (30, (.d (.int .i64)))] [(18, (.pt (.p (.p (.fz (.int .i64)) (.p (.sl (.fz (.int .i64))) (.p (.sl (.fz (.int .i64))) (.p (.sl (.fz (.int .i64))) (.sl (.sl (.fz (.int .i64)))))))) (.p (.fz (.sl (.int .i64))) (.sl (.fz (.p (.int .i64) (.p (.int .i64) (.int .i64)))))))))] [1, 28, 29] (.s .n (.s .n (.s (.s .n (.s .n (.l [(4, (.bx (.ad 18 [.de]))), (40, (.d (.int .i64)))] [(18, (.pt (.p (.p (.fz (.int .i64)) (.p (.sl (.fz (.int .i64))) (.p (.sl (.fz (.int .i64))) (.p (.sl (.fz (.int .i64))) (.sl (.sl (.fz (.int .i64)))))))) (.p (.fz (.sl (.int .i64))) (.sl (.fz (.p (.int .i64) (.p (.int .i64) (.int .i64)))))))))] [1, 5, 6, 28, 29, 30, 38, 39] (.s .n (.s .n (.s (.s .n (.s .n (.l [(4, (.bx (.ad 18 [.de]))), (62, (.d (.int .i64)))] [(18, (.pt (.p (.p (.fz (.int .i64)) (.p (.sl (.fz (.int .i64))) (.p (.sl (.fz (.int .i64))) (.p (.sl (.fz (.int .i64))) (.sl (.sl (.fz (.int .i64)))))))) (.p (.fz (.sl (.int .i64))) (.sl (.fz (.p (.int .i64) (.p (.int .i64) (.int .i64)))))))))] [1, 5, 6, 7, 8, 28, 29, 30, 38, 39, 40, 60, 61] (.s .n (.s .n (.s (.s .n (.s .n (.j [(4, (.bx (.ad 18 [.de])))] [(18, (.pt (.p (.p (.fz (.int .i64)) (.p (.sl (.fz (.int .i64))) (.p (.sl (.fz (.int .i64))) (.p (.sl (.fz (.int .i64))) (.sl (.sl (.fz (.int .i64)))))))) (.p (.fz (.sl (.int .i64))) (.sl (.fz (.p (.int .i64) (.p (.int .i64) (.int .i64)))))))))] [1, 5, 6, 7, 8, 28, 29, 30, 38, 39, 40, 60, 61, 62] .n))) .n)))))) .n)))))) .n))))) (.s (.s .n (.j [(4, (.bx (.ad 18 [.de])))] [(18, (.pt (.p (.p (.fz (.int .i64)) (.p (.sl (.fz (.int .i64))) (.p (.sl (.fz (.int .i64))) (.p (.sl (.fz (.int .i64))) (.sl (.sl (.fz (.int .i64)))))))) (.p (.fz (.sl (.int .i64))) (.fz (.sl (.p (.int .i64) (.p (.int .i64) (.int .i64)))))))))] [1] .n)) (.s .n (.s (.s .n (.l [(4, (.bx (.ad 18 [.de]))), (117, (.d (.int .i64)))] [(18, (.pt (.p (.p (.fz (.int .i64)) (.p (.sl (.fz (.int .i64))) (.p (.sl (.fz (.int .i64))) (.p (.sl (.fz (.int .i64))) (.sl (.sl (.fz (.int .i64)))))))) (.p (.fz (.sl (.int .i64))) (.fz (.sl (.p (.int .i64) (.p (.int .i64) (.int .i64)))))))))] [1, 115, 116] .n)) (.s (.s .n (.l [(4, (.bx (.ad 18 [.de]))), (153, (.d (.int .i64)))] [(18, (.pt (.p (.p (.fz (.int .i64)) (.p (.sl (.fz (.int .i64))) (.p (.sl (.fz (.int .i64))) (.p (.sl (.fz (.int .i64))) (.sl (.sl (.fz (.int .i64)))))))) (.p (.fz (.sl (.int .i64))) (.fz (.sl (.p (.int .i64) (.p (.int .i64) (.int .i64)))))))))] [1, 151, 152] .n)) .n)))))))) c_impl_Category_completed_y x K = W_impl_Category_completed_y x.1 K := by kernel_rfl
theorem k_impl_Category_completed_y : okC Try.f49.ntmps (cutL [(20, 513), (24, 5009), (25, 5009), (10, 518), (13, 8), (30, 11), (14, 5010)]) (bodyOf Try.f49) = true := by kernel_rfl
theorem m_impl_Category_completed_y (c : CategoryD) (hok : allP (okL c_impl_Category_completed_y.args (c, ()))) (hpre : allP (c_impl_Category_completed_y.pre (c, ()))) : W_impl_Category_completed_y c (fun r => r = c_impl_Category_completed_y.res (c, ())) := by
 simp only [c_impl_Category_completed_y, spCt, s_impl_Category_completed, okL, T.oks, T.ok, ap, allP, true_and, and_true, implies_true] at hok hpre
 try dsimp only [T.den] at hok
 try dsimp only [T.den] at hpre
 unfold W_impl_Category_completed_y
 obtain ⟨hf, S⟩ := hpre
 clear hok
 have hm := S.m
 have hlt := S.lt
 have hlc := S.lc
 have hil := idem_len S
 have hie : ∀ i : Int, 0 <= i -> i < (idemR c).length -> 0 <= (idemR c).getD i.toNat 0 /\ (idemR c).getD i.toNat 0 < c.2.1.length /\ compR c ((idemR c).getD i.toNat 0) ((idemR c).getD i.toNat 0) = (idemR c).getD i.toNat 0 := fun i i0 i1 => idem_mem.1 (getD_mem _ 0 i0 i1)
 have hf1 := hf
 rw [c3_fit, Bool.and_eq_true, decide_eq_true_eq, decide_eq_true_eq] at hf1
 refine ⟨S, cnd_d (fun h => absurd h (by omega)) (fun _ => ?_)⟩
 refine loop_ixa (fun s => (((0, ([], ([], ([], [])))), (idemR c, (tabN s.toNat (c3SR c)).flatten)) : completionD)) (n := (idemR c).length) (by omega) rfl ?_ ?_
 ·intro s next s0 s1 hn _ _ _ _ _ _ _ _
  try dsimp only at hn ⊢
  obtain ⟨es0, es1, es2⟩ := hie s s0 s1
  refine cnd_d (fun _ => ⟨s0, s1, ?_⟩) (fun h => absurd s1 h)
  have hS : (tabN s.toNat (c3SR c)).flatten.length <= 64000 := by
   have := @tabflat_le _ (c3SR c) 1600 s.toNat (fun i _ _ => c3S_len S)
   omega
  rw [tabflat_s s0] at hn
  generalize (tabN s.toNat (c3SR c)).flatten = A at hS hn ⊢
  refine loop_ixa (fun t => (((0, ([], ([], ([], [])))), (idemR c, A ++ (tabN t.toNat (c3TR c s)).flatten)) : completionD)) (n := (idemR c).length) (by omega) (by simp [tabN]) ?_ ?_
  ·intro t next1 t0 t1 hn1 _ _ _ _ _ _ _ _
   try dsimp only at hn1 ⊢
   obtain ⟨et0, et1, et2⟩ := hie t t0 t1
   refine cnd_d (fun _ => ⟨t0, t1, es0, es1, et0, et1, hm, hlt, ?_⟩) (fun h => absurd t1 h)
   have hT : (A ++ (tabN t.toNat (c3TR c s)).flatten).length <= 65600 := by
    have := @tabflat_le _ (c3TR c s) 40 t.toNat (fun i _ _ => c3T_len S)
    rw [List.length_append]
    omega
   rw [tabflat_s t0, ← List.append_assoc] at hn1
   generalize A ++ (tabN t.toNat (c3TR c s)).flatten = A2 at hT hn1 ⊢
   have hst : c.2.2.1.getD ((idemR c).getD s.toNat 0).toNat 0 = c.2.1.getD ((idemR c).getD s.toNat 0).toNat 0 := (S.comp es0 es1 es0 es1).1 (by omega)
   have hl40 : (cpHomR c s t).length <= 40 := by
    have := @sel_len (fun g => c.2.1.getD g.toNat 0 == c.2.1.getD ((idemR c).getD s.toNat 0).toNat 0 && c.2.2.1.getD g.toNat 0 == c.2.1.getD ((idemR c).getD t.toNat 0).toNat 0) c.2.1.length
    unfold cpHomR homR; omega
   refine loop_ixa (fun i => (((0, ([], ([], ([], [])))), (idemR c, A2 ++ (tabN i.toNat fun i => c3HR c s t ((cpHomR c s t).getD i.toNat 0)).flatten)) : completionD)) (n := (cpHomR c s t).length) (by omega) (by simp [tabN]) ?_ ?_
   ·intro i next2 i0 i1 hn2 _ _ _ _ _ _ _ _
    try dsimp only at hn2 ⊢
    obtain ⟨h0, h1, h2, h3⟩ := hom_mem.1 (getD_mem (cpHomR c s t) 0 i0 i1)
    have hes := S.row _ es0 es1
    have hy := S.yes es0 es1 h0 h1 (hst.trans h2.symm)
    have hry := S.row _ hy.1 hy.2.1
    have hI : (A2 ++ (tabN i.toNat fun i => c3HR c s t ((cpHomR c s t).getD i.toNat 0)).flatten).length <= 65700 := by
     have := @tabflat_le _ (fun i => c3HR c s t ((cpHomR c s t).getD i.toNat 0)) 1 i.toNat (fun i _ _ => c3H_len)
     rw [List.length_append]
     omega
    rw [tabflat_s i0, ← List.append_assoc] at hn2
    generalize A2 ++ (tabN i.toNat fun i => c3HR c s t ((cpHomR c s t).getD i.toNat 0)).flatten = A3 at hI hn2 ⊢
    refine cnd_d (fun _ => ⟨i0, i1, es0, by rw [hlc]; exact es1, h0, by rw [hes]; exact h1, hy.1, by rw [hlc]; exact hy.2.1, et0, (by erw [hry]; exact et1), ?_⟩) (fun h => absurd i1 h)
    refine join_of (fun q => q.2.1 = (((0, ([], ([], ([], [])))), (idemR c, A3 ++ c3HR c s t ((cpHomR c s t).getD i.toNat 0))) : completionD)) (fun q hq _ _ _ _ _ _ _ => ⟨by rw [inK64]; (try dsimp only); omega, by rw [hq]; exact hn2⟩) (fun k hk => cnd_of (fun hc => ⟨room_of (by simp only [List.length_cons, List.length_nil]; omega), hk _ ?_⟩) (fun hc => hk _ ?_))
    ·try dsimp only
     unfold c3HR; rw [if_pos (by unfold cpHomR; simpa using hc)]; rfl
    ·try dsimp only
     unfold c3HR; rw [if_neg (by unfold cpHomR; simpa using hc), List.append_nil]
   ·intro next2 _ _ _ _ _ _ _ _
    try dsimp only
    exact cnd_d (fun h => absurd h (Int.lt_irrefl _)) (fun _ => ⟨by rw [inK64]; (try dsimp only); omega, hn1⟩)
  ·intro next1 _ _ _ _ _ _ _ _
   try dsimp only
   exact cnd_d (fun h => absurd h (Int.lt_irrefl _)) (fun _ => ⟨by rw [inK64]; (try dsimp only); omega, hn⟩)
 ·intro next _ _ _ _ _ _ _ _
  try dsimp only
  refine cnd_d (fun h => absurd h (Int.lt_irrefl _)) (fun _ => ?_)
  have hC : (tabN (((idemR c).length : Int)).toNat (c3SR c)).flatten = c3R c := rfl
  rw [hC]
  refine join_of (fun q => q.2.1 = (((0, ([], ([], ([], [])))), (idemR c, c3R c)) : completionD)) (fun q hq _ _ _ _ _ _ _ => ?_) (fun k hk => cnd_d (fun h => absurd h (by omega)) (fun _ => hk _ rfl))
  rw [hq]
  try dsimp only
  refine ⟨by omega, by omega, by omega, by omega, ?_⟩
  refine loop_ixa (fun i => (((((idemR c).length : Int), (((c3R c).take i.toNat).map (fun x => x.1), (((c3R c).take i.toNat).map (fun x => x.2.1), (List.replicate (Int.toNat ((idemR c).length : Int)) 0, [])))), (idemR c, c3R c)) : completionD)) (n := (c3R c).length) (by omega) rfl ?_ ?_
  ·intro i next1 i0 i1 hn1 _ _ _ _ _ _ _ _
   try dsimp only at hn1 ⊢
   rw [take_c (c3R c) (0, (0, 0)) i0 i1, List.map_append, List.map_append] at hn1
   exact cnd_d (fun _ => ⟨i0, i1, by omega, by omega, room_of (by simp only [List.length_map, List.length_take, List.length_cons, List.length_nil]; omega), by omega, by omega, room_of (by simp only [List.length_map, List.length_take, List.length_cons, List.length_nil]; omega), by rw [inK64]; (try dsimp only); omega, hn1⟩) (fun h => absurd i1 h)
  ·intro next1 _ _ _ _ _ _ _ _
   try dsimp only
   refine cnd_d (fun h => absurd h (Int.lt_irrefl _)) (fun _ => ?_)
   rw [take_n (c3R c) (Int.le_refl _)]
   refine loop_ixa (fun i => (((((idemR c).length : Int), ((c3R c).map (fun x => x.1), ((c3R c).map (fun x => x.2.1), (tabN (idemR c).length (fun s => if s < i then idx3R (c3R c) (s, (s, (idemR c).getD s.toNat 0)) else 0), [])))), (idemR c, c3R c)) : completionD)) (n := (idemR c).length) (by omega) ?_ ?_ ?_
   ·rw [Int.toNat_natCast, tab_rep]
    have e0 : (tabN (idemR c).length fun _ => (0 : Int)) = tabN (idemR c).length (fun s => if s < 0 then idx3R (c3R c) (s, (s, (idemR c).getD s.toNat 0)) else 0) := tabN_congr fun s s0 _ => by rw [if_neg (by omega)]
    rw [e0]
   ·intro i next2 i0 i1 hn2 _ _ _ _ _ _ _ _
    try dsimp only at hn2 ⊢
    refine cnd_d (fun _ => ⟨i0, i1, i0, by rw [tabN_len]; exact i1, by rw [inK64]; (try dsimp only); omega, ?_⟩) (fun h => absurd i1 h)
    rw [tab_set i0 i1]
    have e : (tabN (idemR c).length fun y => if y = i then idx3R (c3R c) (i, (i, (idemR c).getD i.toNat 0)) else if y < i then idx3R (c3R c) (y, (y, (idemR c).getD y.toNat 0)) else 0) = tabN (idemR c).length (fun s => if s < i + 1 then idx3R (c3R c) (s, (s, (idemR c).getD s.toNat 0)) else 0) := by
     refine tabN_congr fun y y0 _ => ?_
     by_cases hy : y = i
     ·rw [if_pos hy, if_pos (by omega), hy]
     ·rw [if_neg hy]
      by_cases h2 : y < i
      ·rw [if_pos h2, if_pos (by omega)]
      ·rw [if_neg h2, if_neg (by omega)]
    rw [e]
    exact hn2
   ·intro next2 _ _ _ _ _ _ _ _
    try dsimp only
    refine cnd_d (fun h => absurd h (Int.lt_irrefl _)) (fun _ => ?_)
    have e : (tabN (idemR c).length fun s => if s < ((idemR c).length : Int) then idx3R (c3R c) (s, (s, (idemR c).getD s.toNat 0)) else 0) = tabN (idemR c).length (fun s => idx3R (c3R c) (s, (s, (idemR c).getD s.toNat 0))) := tabN_congr fun y _ y1 => by rw [if_pos y1]
    rw [e]
    refine ⟨⟨S, c3_arr c, by simp, by simp, by dsimp only; omega⟩, ?_⟩
    exact congrArg (fun z => (z, (true, ()))) (c3_all hf [])
theorem ct_impl_Category_completed_y : CtOk Try.prog 49 c_impl_Category_completed_y :=
 ct_by (Φ := lkp [(111, c_impl_Category_hom), (110, c_impl_Category_idempotents), (87, c_impl_Category_table_comp), (67, c_impl_Category_then), (112, c_impl_completion_arrow)]) (good_cons ct_impl_Category_hom (good_cons ct_impl_Category_idempotents (good_cons ct_impl_Category_table_comp (good_cons ct_impl_Category_then (good_cons ct_impl_completion_arrow good_nil))))) tab_ok (by kernel_rfl) (fn := Try.f49) (c := bodyOf Try.f49) (by kernel_rfl) (by kernel_rfl) (by kernel_rfl) c_impl_Category_completed_y rfl (.s .n (.s .n (.s .n (.s (.s .n (.l [(4, (.bx (.ad 18 [.de]))), (30, (.d (.int .i64)))] [(18, (.pt (.p (.p (.fz (.int .i64)) (.p (.sl (.fz (.int .i64))) (.p (.sl (.fz (.int .i64))) (.p (.sl (.fz (.int .i64))) (.sl (.sl (.fz (.int .i64)))))))) (.p (.fz (.sl (.int .i64))) (.sl (.fz (.p (.int .i64) (.p (.int .i64) (.int .i64)))))))))] [1, 28, 29] (.s .n (.s .n (.s (.s .n (.s .n (.l [(4, (.bx (.ad 18 [.de]))), (40, (.d (.int .i64)))] [(18, (.pt (.p (.p (.fz (.int .i64)) (.p (.sl (.fz (.int .i64))) (.p (.sl (.fz (.int .i64))) (.p (.sl (.fz (.int .i64))) (.sl (.sl (.fz (.int .i64)))))))) (.p (.fz (.sl (.int .i64))) (.sl (.fz (.p (.int .i64) (.p (.int .i64) (.int .i64)))))))))] [1, 5, 6, 28, 29, 30, 38, 39] (.s .n (.s .n (.s (.s .n (.s .n (.l [(4, (.bx (.ad 18 [.de]))), (62, (.d (.int .i64)))] [(18, (.pt (.p (.p (.fz (.int .i64)) (.p (.sl (.fz (.int .i64))) (.p (.sl (.fz (.int .i64))) (.p (.sl (.fz (.int .i64))) (.sl (.sl (.fz (.int .i64)))))))) (.p (.fz (.sl (.int .i64))) (.sl (.fz (.p (.int .i64) (.p (.int .i64) (.int .i64)))))))))] [1, 5, 6, 7, 8, 28, 29, 30, 38, 39, 40, 60, 61] (.s .n (.s .n (.s (.s .n (.s .n (.j [(4, (.bx (.ad 18 [.de])))] [(18, (.pt (.p (.p (.fz (.int .i64)) (.p (.sl (.fz (.int .i64))) (.p (.sl (.fz (.int .i64))) (.p (.sl (.fz (.int .i64))) (.sl (.sl (.fz (.int .i64)))))))) (.p (.fz (.sl (.int .i64))) (.sl (.fz (.p (.int .i64) (.p (.int .i64) (.int .i64)))))))))] [1, 5, 6, 7, 8, 28, 29, 30, 38, 39, 40, 60, 61, 62] .n))) .n)))))) .n)))))) .n))))) (.s (.s .n (.j [(4, (.bx (.ad 18 [.de])))] [(18, (.pt (.p (.p (.fz (.int .i64)) (.p (.sl (.fz (.int .i64))) (.p (.sl (.fz (.int .i64))) (.p (.sl (.fz (.int .i64))) (.sl (.sl (.fz (.int .i64)))))))) (.p (.fz (.sl (.int .i64))) (.fz (.sl (.p (.int .i64) (.p (.int .i64) (.int .i64)))))))))] [1] .n)) (.s .n (.s (.s .n (.l [(4, (.bx (.ad 18 [.de]))), (117, (.d (.int .i64)))] [(18, (.pt (.p (.p (.fz (.int .i64)) (.p (.sl (.fz (.int .i64))) (.p (.sl (.fz (.int .i64))) (.p (.sl (.fz (.int .i64))) (.sl (.sl (.fz (.int .i64)))))))) (.p (.fz (.sl (.int .i64))) (.fz (.sl (.p (.int .i64) (.p (.int .i64) (.int .i64)))))))))] [1, 115, 116] .n)) (.s (.s .n (.l [(4, (.bx (.ad 18 [.de]))), (153, (.d (.int .i64)))] [(18, (.pt (.p (.p (.fz (.int .i64)) (.p (.sl (.fz (.int .i64))) (.p (.sl (.fz (.int .i64))) (.p (.sl (.fz (.int .i64))) (.sl (.sl (.fz (.int .i64)))))))) (.p (.fz (.sl (.int .i64))) (.fz (.sl (.p (.int .i64) (.p (.int .i64) (.int .i64)))))))))] [1, 151, 152] .n)) .n)))))))) (cutL [(20, 513), (24, 5009), (25, 5009), (10, 518), (13, 8), (30, 11), (14, 5010)]) (by kernel_rfl) (by kernel_rfl) k_impl_Category_completed_y (by decide) (fun x K => W_impl_Category_completed_y x.1 K) w_impl_Category_completed_y (fun x h1 h2 => m_impl_Category_completed_y x.1 h1 h2)
def W_impl_Category_completed_n (c : CategoryD) (K : denR c_impl_Category_completed_n.rt -> Prop) : Prop := ((ShapeP c) /\ (cnd (decide ((8 : Int) < (((List.length (idemR c)) : Nat) : Int))) (K ((), (Bool.false, ()))) (loopW (S := ((Unit × (Int × Unit)) × (((Int × ((List Int) × ((List Int) × ((List Int) × (List (List Int)))))) × ((List Int) × (List (Int × (Int × Int))))) × Unit))) (fun s => (fun next => ((inK IntKind.i64 s.1.2.1) -> ((inK IntKind.i64 s.2.1.1.1) -> ((T.ok (T.sl (T.int IntKind.i64)) s.2.1.1.2.1) -> ((T.ok (T.sl (T.int IntKind.i64)) s.2.1.1.2.2.1) -> ((T.ok (T.sl (T.int IntKind.i64)) s.2.1.1.2.2.2.1) -> ((T.ok (T.sl (T.sl (T.int IntKind.i64))) s.2.1.1.2.2.2.2) -> ((T.ok (T.sl (T.int IntKind.i64)) s.2.1.2.1) -> ((T.ok (T.sl tripleT) s.2.1.2.2) -> (cnd (decide (s.1.2.1 < (((List.length (idemR c)) : Nat) : Int))) (((0 : Int) <= s.1.2.1) /\ ((s.1.2.1 < (((List.length (idemR c)) : Nat) : Int)) /\ (loopW (S := ((Unit × (Int × Unit)) × (((Int × ((List Int) × ((List Int) × ((List Int) × (List (List Int)))))) × ((List Int) × (List (Int × (Int × Int))))) × Unit))) (fun s1 => (fun next1 => ((inK IntKind.i64 s1.1.2.1) -> ((inK IntKind.i64 s1.2.1.1.1) -> ((T.ok (T.sl (T.int IntKind.i64)) s1.2.1.1.2.1) -> ((T.ok (T.sl (T.int IntKind.i64)) s1.2.1.1.2.2.1) -> ((T.ok (T.sl (T.int IntKind.i64)) s1.2.1.1.2.2.2.1) -> ((T.ok (T.sl (T.sl (T.int IntKind.i64))) s1.2.1.1.2.2.2.2) -> ((T.ok (T.sl (T.int IntKind.i64)) s1.2.1.2.1) -> ((T.ok (T.sl tripleT) s1.2.1.2.2) -> (cnd (decide (s1.1.2.1 < (((List.length s.2.1.2.1) : Nat) : Int))) (((0 : Int) <= s1.1.2.1) /\ ((s1.1.2.1 < (((List.length s.2.1.2.1) : Nat) : Int)) /\ (((0 : Int) <= (List.getD (idemR c) (Int.toNat s.1.2.1) (0 : Int))) /\ (((List.getD (idemR c) (Int.toNat s.1.2.1) (0 : Int)) < (((List.length c.2.1) : Nat) : Int)) /\ (((0 : Int) <= (List.getD s.2.1.2.1 (Int.toNat s1.1.2.1) (0 : Int))) /\ (((List.getD s.2.1.2.1 (Int.toNat s1.1.2.1) (0 : Int)) < (((List.length c.2.1) : Nat) : Int)) /\ (((List.length c.2.1) <= 40) /\ (((List.length c.2.2.1) = (List.length c.2.1)) /\ (loopW (S := ((Unit × (Int × Unit)) × (((Int × ((List Int) × ((List Int) × ((List Int) × (List (List Int)))))) × ((List Int) × (List (Int × (Int × Int))))) × Unit))) (fun s2 => (fun next2 => ((inK IntKind.i64 s2.1.2.1) -> ((inK IntKind.i64 s2.2.1.1.1) -> ((T.ok (T.sl (T.int IntKind.i64)) s2.2.1.1.2.1) -> ((T.ok (T.sl (T.int IntKind.i64)) s2.2.1.1.2.2.1) -> ((T.ok (T.sl (T.int IntKind.i64)) s2.2.1.1.2.2.2.1) -> ((T.ok (T.sl (T.sl (T.int IntKind.i64))) s2.2.1.1.2.2.2.2) -> ((T.ok (T.sl (T.int IntKind.i64)) s2.2.1.2.1) -> ((T.ok (T.sl tripleT) s2.2.1.2.2) -> (cnd (decide (s2.1.2.1 < (((List.length (homR c (List.getD c.2.1 (Int.toNat (List.getD (idemR c) (Int.toNat s.1.2.1) (0 : Int))) (0 : Int)) (List.getD c.2.1 (Int.toNat (List.getD s.2.1.2.1 (Int.toNat s1.1.2.1) (0 : Int))) (0 : Int)))) : Nat) : Int))) (((0 : Int) <= s2.1.2.1) /\ ((s2.1.2.1 < (((List.length (homR c (List.getD c.2.1 (Int.toNat (List.getD (idemR c) (Int.toNat s.1.2.1) (0 : Int))) (0 : Int)) (List.getD c.2.1 (Int.toNat (List.getD s.2.1.2.1 (Int.toNat s1.1.2.1) (0 : Int))) (0 : Int)))) : Nat) : Int)) /\ (((0 : Int) <= (List.getD (idemR c) (Int.toNat s.1.2.1) (0 : Int))) /\ (((List.getD (idemR c) (Int.toNat s.1.2.1) (0 : Int)) < (((List.length c.2.2.2.2) : Nat) : Int)) /\ (((0 : Int) <= (List.getD (homR c (List.getD c.2.1 (Int.toNat (List.getD (idemR c) (Int.toNat s.1.2.1) (0 : Int))) (0 : Int)) (List.getD c.2.1 (Int.toNat (List.getD s.2.1.2.1 (Int.toNat s1.1.2.1) (0 : Int))) (0 : Int))) (Int.toNat s2.1.2.1) (0 : Int))) /\ (((List.getD (homR c (List.getD c.2.1 (Int.toNat (List.getD (idemR c) (Int.toNat s.1.2.1) (0 : Int))) (0 : Int)) (List.getD c.2.1 (Int.toNat (List.getD s.2.1.2.1 (Int.toNat s1.1.2.1) (0 : Int))) (0 : Int))) (Int.toNat s2.1.2.1) (0 : Int)) < (((List.length (List.getD c.2.2.2.2 (Int.toNat (List.getD (idemR c) (Int.toNat s.1.2.1) (0 : Int))) ([] : List Int))) : Nat) : Int)) /\ (((0 : Int) <= (compR c (List.getD (idemR c) (Int.toNat s.1.2.1) (0 : Int)) (List.getD (homR c (List.getD c.2.1 (Int.toNat (List.getD (idemR c) (Int.toNat s.1.2.1) (0 : Int))) (0 : Int)) (List.getD c.2.1 (Int.toNat (List.getD s.2.1.2.1 (Int.toNat s1.1.2.1) (0 : Int))) (0 : Int))) (Int.toNat s2.1.2.1) (0 : Int)))) /\ (((compR c (List.getD (idemR c) (Int.toNat s.1.2.1) (0 : Int)) (List.getD (homR c (List.getD c.2.1 (Int.toNat (List.getD (idemR c) (Int.toNat s.1.2.1) (0 : Int))) (0 : Int)) (List.getD c.2.1 (Int.toNat (List.getD s.2.1.2.1 (Int.toNat s1.1.2.1) (0 : Int))) (0 : Int))) (Int.toNat s2.1.2.1) (0 : Int))) < (((List.length c.2.2.2.2) : Nat) : Int)) /\ (((0 : Int) <= (List.getD s.2.1.2.1 (Int.toNat s1.1.2.1) (0 : Int))) /\ (((List.getD s.2.1.2.1 (Int.toNat s1.1.2.1) (0 : Int)) < (((List.length (List.getD c.2.2.2.2 (Int.toNat (compR c (List.getD (idemR c) (Int.toNat s.1.2.1) (0 : Int)) (List.getD (homR c (List.getD c.2.1 (Int.toNat (List.getD (idemR c) (Int.toNat s.1.2.1) (0 : Int))) (0 : Int)) (List.getD c.2.1 (Int.toNat (List.getD s.2.1.2.1 (Int.toNat s1.1.2.1) (0 : Int))) (0 : Int))) (Int.toNat s2.1.2.1) (0 : Int)))) ([] : List Int))) : Nat) : Int)) /\ (joinW (S := ((Unit × Unit) × (((Int × ((List Int) × ((List Int) × ((List Int) × (List (List Int)))))) × ((List Int) × (List (Int × (Int × Int))))) × Unit))) (fun s3 => ((inK IntKind.i64 s3.2.1.1.1) -> ((T.ok (T.sl (T.int IntKind.i64)) s3.2.1.1.2.1) -> ((T.ok (T.sl (T.int IntKind.i64)) s3.2.1.1.2.2.1) -> ((T.ok (T.sl (T.int IntKind.i64)) s3.2.1.1.2.2.2.1) -> ((T.ok (T.sl (T.sl (T.int IntKind.i64))) s3.2.1.1.2.2.2.2) -> ((T.ok (T.sl (T.int IntKind.i64)) s3.2.1.2.1) -> ((T.ok (T.sl tripleT) s3.2.1.2.2) -> ((inK IntKind.i64 (s2.1.2.1 + (1 : Int))) /\ (next2 (((), ((s2.1.2.1 + (1 : Int)), ())), (s3.2.1, ())))))))))))) (fun k => (cnd ((compR c (compR c (List.getD (idemR c) (Int.toNat s.1.2.1) (0 : Int)) (List.getD (homR c (List.getD c.2.1 (Int.toNat (List.getD (idemR c) (Int.toNat s.1.2.1) (0 : Int))) (0 : Int)) (List.getD c.2.1 (Int.toNat (List.getD s.2.1.2.1 (Int.toNat s1.1.2.1) (0 : Int))) (0 : Int))) (Int.toNat s2.1.2.1) (0 : Int))) (List.getD s.2.1.2.1 (Int.toNat s1.1.2.1) (0 : Int))) == (List.getD (homR c (List.getD c.2.1 (Int.toNat (List.getD (idemR c) (Int.toNat s.1.2.1) (0 : Int))) (0 : Int)) (List.getD c.2.1 (Int.toNat (List.getD s.2.1.2.1 (Int.toNat s1.1.2.1) (0 : Int))) (0 : Int))) (Int.toNat s2.1.2.1) (0 : Int))) ((room (List.length s2.2.1.2.2) (List.length ((s.1.2.1, (s1.1.2.1, (List.getD (homR c (List.getD c.2.1 (Int.toNat (List.getD (idemR c) (Int.toNat s.1.2.1) (0 : Int))) (0 : Int)) (List.getD c.2.1 (Int.toNat (List.getD s.2.1.2.1 (Int.toNat s1.1.2.1) (0 : Int))) (0 : Int))) (Int.toNat s2.1.2.1) (0 : Int)))) :: ([] : List (Int × (Int × Int))))) 24) /\ (k (((), ()), ((s2.2.1.1, (s2.2.1.2.1, (s2.2.1.2.2 ++ ((s.1.2.1, (s1.1.2.1, (List.getD (homR c (List.getD c.2.1 (Int.toNat (List.getD (idemR c) (Int.toNat s.1.2.1) (0 : Int))) (0 : Int)) (List.getD c.2.1 (Int.toNat (List.getD s.2.1.2.1 (Int.toNat s1.1.2.1) (0 : Int))) (0 : Int))) (Int.toNat s2.1.2.1) (0 : Int)))) :: ([] : List (Int × (Int × Int))))))), ())))) (k (((), ()), (s2.2.1, ())))))))))))))))) ((inK IntKind.i64 (s1.1.2.1 + (1 : Int))) /\ (next1 (((), ((s1.1.2.1 + (1 : Int)), ())), (s2.2.1, ()))))))))))))))) (((), ((0 : Int), ())), (s1.2.1, ()))))))))))) ((inK IntKind.i64 (s.1.2.1 + (1 : Int))) /\ (next (((), ((s.1.2.1 + (1 : Int)), ())), (s1.2.1, ()))))))))))))))) (((), ((0 : Int), ())), (s.2.1, ()))))) (joinW (S := ((Unit × Unit) × (((Int × ((List Int) × ((List Int) × ((List Int) × (List (List Int)))))) × ((List Int) × (List (Int × (Int × Int))))) × Unit))) (fun s1 => ((inK IntKind.i64 s1.2.1.1.1) -> ((T.ok (T.sl (T.int IntKind.i64)) s1.2.1.1.2.1) -> ((T.ok (T.sl (T.int IntKind.i64)) s1.2.1.1.2.2.1) -> ((T.ok (T.sl (T.int IntKind.i64)) s1.2.1.1.2.2.2.1) -> ((T.ok (T.sl (T.sl (T.int IntKind.i64))) s1.2.1.1.2.2.2.2) -> ((T.ok (T.sl (T.int IntKind.i64)) s1.2.1.2.1) -> ((T.ok (T.sl tripleT) s1.2.1.2.2) -> (((0 : Int) <= (((List.length s1.2.1.2.1) : Nat) : Int)) /\ (((((List.length s1.2.1.2.1) : Nat) : Int) <= (((List.length s1.2.1.2.1) : Nat) : Int)) /\ (((((List.length s1.2.1.2.1) : Nat) : Int) <= ((140737488355328 : Nat) : Int)) /\ ((((((List.length s1.2.1.2.1) : Nat) : Int) * ((8 : Nat) : Int)) <= ((140737488355328 : Nat) : Int)) /\ (loopW (S := ((Unit × (Int × Unit)) × (((Int × ((List Int) × ((List Int) × ((List Int) × (List (List Int)))))) × ((List Int) × (List (Int × (Int × Int))))) × Unit))) (fun s2 => (fun next1 => ((inK IntKind.i64 s2.1.2.1) -> ((inK IntKind.i64 s2.2.1.1.1) -> ((T.ok (T.sl (T.int IntKind.i64)) s2.2.1.1.2.1) -> ((T.ok (T.sl (T.int IntKind.i64)) s2.2.1.1.2.2.1) -> ((T.ok (T.sl (T.int IntKind.i64)) s2.2.1.1.2.2.2.1) -> ((T.ok (T.sl (T.sl (T.int IntKind.i64))) s2.2.1.1.2.2.2.2) -> ((T.ok (T.sl (T.int IntKind.i64)) s2.2.1.2.1) -> ((T.ok (T.sl tripleT) s2.2.1.2.2) -> (cnd (decide (s2.1.2.1 < (((List.length s1.2.1.2.2) : Nat) : Int))) (((0 : Int) <= s2.1.2.1) /\ ((s2.1.2.1 < (((List.length s1.2.1.2.2) : Nat) : Int)) /\ (((0 : Int) <= (0 : Int)) /\ (((0 : Int) < ((3 : Nat) : Int)) /\ ((room (List.length s2.2.1.1.2.1) (List.length ((List.getD s1.2.1.2.2 (Int.toNat s2.1.2.1) ((0 : Int), ((0 : Int), (0 : Int)))).1 :: ([] : List Int))) 8) /\ (((0 : Int) <= (1 : Int)) /\ (((1 : Int) < ((3 : Nat) : Int)) /\ ((room (List.length s2.2.1.1.2.2.1) (List.length ((List.getD s1.2.1.2.2 (Int.toNat s2.1.2.1) ((0 : Int), ((0 : Int), (0 : Int)))).2.1 :: ([] : List Int))) 8) /\ ((inK IntKind.i64 (s2.1.2.1 + (1 : Int))) /\ (next1 (((), ((s2.1.2.1 + (1 : Int)), ())), (((s2.2.1.1.1, ((s2.2.1.1.2.1 ++ ((List.getD s1.2.1.2.2 (Int.toNat s2.1.2.1) ((0 : Int), ((0 : Int), (0 : Int)))).1 :: ([] : List Int))), ((s2.2.1.1.2.2.1 ++ ((List.getD s1.2.1.2.2 (Int.toNat s2.1.2.1) ((0 : Int), ((0 : Int), (0 : Int)))).2.1 :: ([] : List Int))), s2.2.1.1.2.2.2))), s2.2.1.2), ())))))))))))) (loopW (S := ((Unit × (Int × Unit)) × (((Int × ((List Int) × ((List Int) × ((List Int) × (List (List Int)))))) × ((List Int) × (List (Int × (Int × Int))))) × Unit))) (fun s3 => (fun next2 => ((inK IntKind.i64 s3.1.2.1) -> ((inK IntKind.i64 s3.2.1.1.1) -> ((T.ok (T.sl (T.int IntKind.i64)) s3.2.1.1.2.1) -> ((T.ok (T.sl (T.int IntKind.i64)) s3.2.1.1.2.2.1) -> ((T.ok (T.sl (T.int IntKind.i64)) s3.2.1.1.2.2.2.1) -> ((T.ok (T.sl (T.sl (T.int IntKind.i64))) s3.2.1.1.2.2.2.2) -> ((T.ok (T.sl (T.int IntKind.i64)) s3.2.1.2.1) -> ((T.ok (T.sl tripleT) s3.2.1.2.2) -> (cnd (decide (s3.1.2.1 < (((List.length s2.2.1.2.1) : Nat) : Int))) (((0 : Int) <= s3.1.2.1) /\ ((s3.1.2.1 < (((List.length s2.2.1.2.1) : Nat) : Int)) /\ (((0 : Int) <= s3.1.2.1) /\ ((s3.1.2.1 < (((List.length s3.2.1.1.2.2.2.1) : Nat) : Int)) /\ ((inK IntKind.i64 (s3.1.2.1 + (1 : Int))) /\ (next2 (((), ((s3.1.2.1 + (1 : Int)), ())), (((s3.2.1.1.1, (s3.2.1.1.2.1, (s3.2.1.1.2.2.1, ((List.set s3.2.1.1.2.2.2.1 (Int.toNat s3.1.2.1) (idx3R s3.2.1.2.2 (s3.1.2.1, (s3.1.2.1, (List.getD s2.2.1.2.1 (Int.toNat s3.1.2.1) (0 : Int)))))), s3.2.1.1.2.2.2.2)))), s3.2.1.2), ())))))))) ((CmpP s3.2.1 c) /\ False)))))))))))) (((), ((0 : Int), ())), (s2.2.1, ())))))))))))))) (((), ((0 : Int), ())), ((((((List.length s1.2.1.2.1) : Nat) : Int), (([] : List Int), (([] : List Int), ((List.replicate (Int.toNat (((List.length s1.2.1.2.1) : Nat) : Int)) (0 : Int)), ([] : List (List Int)))))), s1.2.1.2), ()))))))))))))))) (fun k => (cnd (decide ((40 : Int) < (((List.length s.2.1.2.2) : Nat) : Int))) (K ((), (Bool.false, ()))) (k (((), ()), (s.2.1, ()))))))))))))))))) (((), ((0 : Int), ())), ((((0 : Int), (([] : List Int), (([] : List Int), (([] : List Int), ([] : List (List Int)))))), ((idemR c), ([] : List (Int × (Int × Int))))), ())))))
theorem w_impl_Category_completed_n (x : denL c_impl_Category_completed_n.args) (K : denR c_impl_Category_completed_n.rt -> Prop) : evF tab (lkp [(111, c_impl_Category_hom), (110, c_impl_Category_idempotents), (87, c_impl_Category_table_comp), (67, c_impl_Category_then), (112, c_impl_completion_arrow)]) (cutL [(20, 513), (24, 5009), (25, 5009), (10, 518), (13, 8), (30, 11), (14, 5010)]) Try.f49 (bodyOf Try.f49) (.s .n (.s .n (.s .n (.s (.s .n (.l [(4, (.bx (.ad 18 [.de]))), (30, (.d (.int .i64)))] [(18, (.pt (.p (.p (.fz (.int .i64)) (.p (.sl (.fz (.int .i64))) (.p (.sl (.fz (.int .i64))) (.p (.sl (.fz (.int .i64))) (.sl (.sl (.fz (.int .i64)))))))) (.p (.fz (.sl (.int .i64))) (.sl (.fz (.p (.int .i64) (.p (.int .i64) (.int .i64)))))))))] [1, 28, 29] (.s .n (.s .n (.s (.s .n (.s .n (.l [(4, (.bx (.ad 18 [.de]))), (40, (.d (.int .i64)))] [(18, (.pt (.p (.p (.fz (.int .i64)) (.p (.sl (.fz (.int .i64))) (.p (.sl (.fz (.int .i64))) (.p (.sl (.fz (.int .i64))) (.sl (.sl (.fz (.int .i64)))))))) (.p (.fz (.sl (.int .i64))) (.sl (.fz (.p (.int .i64) (.p (.int .i64) (.int .i64)))))))))] [1, 5, 6, 28, 29, 30, 38, 39] (.s .n (.s .n (.s (.s .n (.s .n (.l [(4, (.bx (.ad 18 [.de]))), (62, (.d (.int .i64)))] [(18, (.pt (.p (.p (.fz (.int .i64)) (.p (.sl (.fz (.int .i64))) (.p (.sl (.fz (.int .i64))) (.p (.sl (.fz (.int .i64))) (.sl (.sl (.fz (.int .i64)))))))) (.p (.fz (.sl (.int .i64))) (.sl (.fz (.p (.int .i64) (.p (.int .i64) (.int .i64)))))))))] [1, 5, 6, 7, 8, 28, 29, 30, 38, 39, 40, 60, 61] (.s .n (.s .n (.s (.s .n (.s .n (.j [(4, (.bx (.ad 18 [.de])))] [(18, (.pt (.p (.p (.fz (.int .i64)) (.p (.sl (.fz (.int .i64))) (.p (.sl (.fz (.int .i64))) (.p (.sl (.fz (.int .i64))) (.sl (.sl (.fz (.int .i64)))))))) (.p (.fz (.sl (.int .i64))) (.sl (.fz (.p (.int .i64) (.p (.int .i64) (.int .i64)))))))))] [1, 5, 6, 7, 8, 28, 29, 30, 38, 39, 40, 60, 61, 62] .n))) .n)))))) .n)))))) .n))))) (.s (.s .n (.j [(4, (.bx (.ad 18 [.de])))] [(18, (.pt (.p (.p (.fz (.int .i64)) (.p (.sl (.fz (.int .i64))) (.p (.sl (.fz (.int .i64))) (.p (.sl (.fz (.int .i64))) (.sl (.sl (.fz (.int .i64)))))))) (.p (.fz (.sl (.int .i64))) (.fz (.sl (.p (.int .i64) (.p (.int .i64) (.int .i64)))))))))] [1] .n)) (.s .n (.s (.s .n (.l [(4, (.bx (.ad 18 [.de]))), (117, (.d (.int .i64)))] [(18, (.pt (.p (.p (.fz (.int .i64)) (.p (.sl (.fz (.int .i64))) (.p (.sl (.fz (.int .i64))) (.p (.sl (.fz (.int .i64))) (.sl (.sl (.fz (.int .i64)))))))) (.p (.fz (.sl (.int .i64))) (.fz (.sl (.p (.int .i64) (.p (.int .i64) (.int .i64)))))))))] [1, 115, 116] .n)) (.s (.s .n (.l [(4, (.bx (.ad 18 [.de]))), (153, (.d (.int .i64)))] [(18, (.pt (.p (.p (.fz (.int .i64)) (.p (.sl (.fz (.int .i64))) (.p (.sl (.fz (.int .i64))) (.p (.sl (.fz (.int .i64))) (.sl (.sl (.fz (.int .i64)))))))) (.p (.fz (.sl (.int .i64))) (.fz (.sl (.p (.int .i64) (.p (.int .i64) (.int .i64)))))))))] [1, 151, 152] .n)) .n)))))))) c_impl_Category_completed_n x K = W_impl_Category_completed_n x.1 K := by kernel_rfl
theorem k_impl_Category_completed_n : okC Try.f49.ntmps (cutL [(20, 513), (24, 5009), (25, 5009), (10, 518), (13, 8), (30, 11), (14, 5010)]) (bodyOf Try.f49) = true := by kernel_rfl
theorem m_impl_Category_completed_n (c : CategoryD) (hok : allP (okL c_impl_Category_completed_n.args (c, ()))) (hpre : allP (c_impl_Category_completed_n.pre (c, ()))) : W_impl_Category_completed_n c (fun r => r = c_impl_Category_completed_n.res (c, ())) := by
 simp only [c_impl_Category_completed_n, spCt, s_impl_Category_completed, okL, T.oks, T.ok, ap, allP, true_and, and_true, implies_true] at hok hpre
 try dsimp only [T.den] at hok
 try dsimp only [T.den] at hpre
 unfold W_impl_Category_completed_n
 obtain ⟨hf, S⟩ := hpre
 clear hok
 have hm := S.m
 have hlt := S.lt
 have hlc := S.lc
 have hil := idem_len S
 have hie : ∀ i : Int, 0 <= i -> i < (idemR c).length -> 0 <= (idemR c).getD i.toNat 0 /\ (idemR c).getD i.toNat 0 < c.2.1.length /\ compR c ((idemR c).getD i.toNat 0) ((idemR c).getD i.toNat 0) = (idemR c).getD i.toNat 0 := fun i i0 i1 => idem_mem.1 (getD_mem _ 0 i0 i1)
 refine ⟨S, cnd_d (fun _ => rfl) (fun h8 => ?_)⟩
 refine loop_ixa (fun s => (((0, ([], ([], ([], [])))), (idemR c, (tabN s.toNat (c3SR c)).flatten)) : completionD)) (n := (idemR c).length) (by omega) rfl ?_ ?_
 ·intro s next s0 s1 hn _ _ _ _ _ _ _ _
  try dsimp only at hn ⊢
  obtain ⟨es0, es1, es2⟩ := hie s s0 s1
  refine cnd_d (fun _ => ⟨s0, s1, ?_⟩) (fun h => absurd s1 h)
  have hS : (tabN s.toNat (c3SR c)).flatten.length <= 64000 := by
   have := @tabflat_le _ (c3SR c) 1600 s.toNat (fun i _ _ => c3S_len S)
   omega
  rw [tabflat_s s0] at hn
  generalize (tabN s.toNat (c3SR c)).flatten = A at hS hn ⊢
  refine loop_ixa (fun t => (((0, ([], ([], ([], [])))), (idemR c, A ++ (tabN t.toNat (c3TR c s)).flatten)) : completionD)) (n := (idemR c).length) (by omega) (by simp [tabN]) ?_ ?_
  ·intro t next1 t0 t1 hn1 _ _ _ _ _ _ _ _
   try dsimp only at hn1 ⊢
   obtain ⟨et0, et1, et2⟩ := hie t t0 t1
   refine cnd_d (fun _ => ⟨t0, t1, es0, es1, et0, et1, hm, hlt, ?_⟩) (fun h => absurd t1 h)
   have hT : (A ++ (tabN t.toNat (c3TR c s)).flatten).length <= 65600 := by
    have := @tabflat_le _ (c3TR c s) 40 t.toNat (fun i _ _ => c3T_len S)
    rw [List.length_append]
    omega
   rw [tabflat_s t0, ← List.append_assoc] at hn1
   generalize A ++ (tabN t.toNat (c3TR c s)).flatten = A2 at hT hn1 ⊢
   have hst : c.2.2.1.getD ((idemR c).getD s.toNat 0).toNat 0 = c.2.1.getD ((idemR c).getD s.toNat 0).toNat 0 := (S.comp es0 es1 es0 es1).1 (by omega)
   have hl40 : (cpHomR c s t).length <= 40 := by
    have := @sel_len (fun g => c.2.1.getD g.toNat 0 == c.2.1.getD ((idemR c).getD s.toNat 0).toNat 0 && c.2.2.1.getD g.toNat 0 == c.2.1.getD ((idemR c).getD t.toNat 0).toNat 0) c.2.1.length
    unfold cpHomR homR; omega
   refine loop_ixa (fun i => (((0, ([], ([], ([], [])))), (idemR c, A2 ++ (tabN i.toNat fun i => c3HR c s t ((cpHomR c s t).getD i.toNat 0)).flatten)) : completionD)) (n := (cpHomR c s t).length) (by omega) (by simp [tabN]) ?_ ?_
   ·intro i next2 i0 i1 hn2 _ _ _ _ _ _ _ _
    try dsimp only at hn2 ⊢
    obtain ⟨h0, h1, h2, h3⟩ := hom_mem.1 (getD_mem (cpHomR c s t) 0 i0 i1)
    have hes := S.row _ es0 es1
    have hy := S.yes es0 es1 h0 h1 (hst.trans h2.symm)
    have hry := S.row _ hy.1 hy.2.1
    have hI : (A2 ++ (tabN i.toNat fun i => c3HR c s t ((cpHomR c s t).getD i.toNat 0)).flatten).length <= 65700 := by
     have := @tabflat_le _ (fun i => c3HR c s t ((cpHomR c s t).getD i.toNat 0)) 1 i.toNat (fun i _ _ => c3H_len)
     rw [List.length_append]
     omega
    rw [tabflat_s i0, ← List.append_assoc] at hn2
    generalize A2 ++ (tabN i.toNat fun i => c3HR c s t ((cpHomR c s t).getD i.toNat 0)).flatten = A3 at hI hn2 ⊢
    refine cnd_d (fun _ => ⟨i0, i1, es0, by rw [hlc]; exact es1, h0, by rw [hes]; exact h1, hy.1, by rw [hlc]; exact hy.2.1, et0, (by erw [hry]; exact et1), ?_⟩) (fun h => absurd i1 h)
    refine join_of (fun q => q.2.1 = (((0, ([], ([], ([], [])))), (idemR c, A3 ++ c3HR c s t ((cpHomR c s t).getD i.toNat 0))) : completionD)) (fun q hq _ _ _ _ _ _ _ => ⟨by rw [inK64]; (try dsimp only); omega, by rw [hq]; exact hn2⟩) (fun k hk => cnd_of (fun hc => ⟨room_of (by simp only [List.length_cons, List.length_nil]; omega), hk _ ?_⟩) (fun hc => hk _ ?_))
    ·try dsimp only
     unfold c3HR; rw [if_pos (by unfold cpHomR; simpa using hc)]; rfl
    ·try dsimp only
     unfold c3HR; rw [if_neg (by unfold cpHomR; simpa using hc), List.append_nil]
   ·intro next2 _ _ _ _ _ _ _ _
    try dsimp only
    exact cnd_d (fun h => absurd h (Int.lt_irrefl _)) (fun _ => ⟨by rw [inK64]; (try dsimp only); omega, hn1⟩)
  ·intro next1 _ _ _ _ _ _ _ _
   try dsimp only
   exact cnd_d (fun h => absurd h (Int.lt_irrefl _)) (fun _ => ⟨by rw [inK64]; (try dsimp only); omega, hn⟩)
 ·intro next _ _ _ _ _ _ _ _
  try dsimp only
  refine cnd_d (fun h => absurd h (Int.lt_irrefl _)) (fun _ => ?_)
  have hC : (tabN (((idemR c).length : Int)).toNat (c3SR c)).flatten = c3R c := rfl
  rw [hC]
  refine join_of (fun _ => False) (fun q hq => hq.elim) (fun k hk => cnd_d (fun _ => rfl) (fun h => ?_))
  exfalso
  rw [c3_fit] at hf
  simp only [Bool.and_eq_false_iff, decide_eq_false_iff_not] at hf
  omega
theorem ct_impl_Category_completed_n : CtOk Try.prog 49 c_impl_Category_completed_n :=
 ct_by (Φ := lkp [(111, c_impl_Category_hom), (110, c_impl_Category_idempotents), (87, c_impl_Category_table_comp), (67, c_impl_Category_then), (112, c_impl_completion_arrow)]) (good_cons ct_impl_Category_hom (good_cons ct_impl_Category_idempotents (good_cons ct_impl_Category_table_comp (good_cons ct_impl_Category_then (good_cons ct_impl_completion_arrow good_nil))))) tab_ok (by kernel_rfl) (fn := Try.f49) (c := bodyOf Try.f49) (by kernel_rfl) (by kernel_rfl) (by kernel_rfl) c_impl_Category_completed_n rfl (.s .n (.s .n (.s .n (.s (.s .n (.l [(4, (.bx (.ad 18 [.de]))), (30, (.d (.int .i64)))] [(18, (.pt (.p (.p (.fz (.int .i64)) (.p (.sl (.fz (.int .i64))) (.p (.sl (.fz (.int .i64))) (.p (.sl (.fz (.int .i64))) (.sl (.sl (.fz (.int .i64)))))))) (.p (.fz (.sl (.int .i64))) (.sl (.fz (.p (.int .i64) (.p (.int .i64) (.int .i64)))))))))] [1, 28, 29] (.s .n (.s .n (.s (.s .n (.s .n (.l [(4, (.bx (.ad 18 [.de]))), (40, (.d (.int .i64)))] [(18, (.pt (.p (.p (.fz (.int .i64)) (.p (.sl (.fz (.int .i64))) (.p (.sl (.fz (.int .i64))) (.p (.sl (.fz (.int .i64))) (.sl (.sl (.fz (.int .i64)))))))) (.p (.fz (.sl (.int .i64))) (.sl (.fz (.p (.int .i64) (.p (.int .i64) (.int .i64)))))))))] [1, 5, 6, 28, 29, 30, 38, 39] (.s .n (.s .n (.s (.s .n (.s .n (.l [(4, (.bx (.ad 18 [.de]))), (62, (.d (.int .i64)))] [(18, (.pt (.p (.p (.fz (.int .i64)) (.p (.sl (.fz (.int .i64))) (.p (.sl (.fz (.int .i64))) (.p (.sl (.fz (.int .i64))) (.sl (.sl (.fz (.int .i64)))))))) (.p (.fz (.sl (.int .i64))) (.sl (.fz (.p (.int .i64) (.p (.int .i64) (.int .i64)))))))))] [1, 5, 6, 7, 8, 28, 29, 30, 38, 39, 40, 60, 61] (.s .n (.s .n (.s (.s .n (.s .n (.j [(4, (.bx (.ad 18 [.de])))] [(18, (.pt (.p (.p (.fz (.int .i64)) (.p (.sl (.fz (.int .i64))) (.p (.sl (.fz (.int .i64))) (.p (.sl (.fz (.int .i64))) (.sl (.sl (.fz (.int .i64)))))))) (.p (.fz (.sl (.int .i64))) (.sl (.fz (.p (.int .i64) (.p (.int .i64) (.int .i64)))))))))] [1, 5, 6, 7, 8, 28, 29, 30, 38, 39, 40, 60, 61, 62] .n))) .n)))))) .n)))))) .n))))) (.s (.s .n (.j [(4, (.bx (.ad 18 [.de])))] [(18, (.pt (.p (.p (.fz (.int .i64)) (.p (.sl (.fz (.int .i64))) (.p (.sl (.fz (.int .i64))) (.p (.sl (.fz (.int .i64))) (.sl (.sl (.fz (.int .i64)))))))) (.p (.fz (.sl (.int .i64))) (.fz (.sl (.p (.int .i64) (.p (.int .i64) (.int .i64)))))))))] [1] .n)) (.s .n (.s (.s .n (.l [(4, (.bx (.ad 18 [.de]))), (117, (.d (.int .i64)))] [(18, (.pt (.p (.p (.fz (.int .i64)) (.p (.sl (.fz (.int .i64))) (.p (.sl (.fz (.int .i64))) (.p (.sl (.fz (.int .i64))) (.sl (.sl (.fz (.int .i64)))))))) (.p (.fz (.sl (.int .i64))) (.fz (.sl (.p (.int .i64) (.p (.int .i64) (.int .i64)))))))))] [1, 115, 116] .n)) (.s (.s .n (.l [(4, (.bx (.ad 18 [.de]))), (153, (.d (.int .i64)))] [(18, (.pt (.p (.p (.fz (.int .i64)) (.p (.sl (.fz (.int .i64))) (.p (.sl (.fz (.int .i64))) (.p (.sl (.fz (.int .i64))) (.sl (.sl (.fz (.int .i64)))))))) (.p (.fz (.sl (.int .i64))) (.fz (.sl (.p (.int .i64) (.p (.int .i64) (.int .i64)))))))))] [1, 151, 152] .n)) .n)))))))) (cutL [(20, 513), (24, 5009), (25, 5009), (10, 518), (13, 8), (30, 11), (14, 5010)]) (by kernel_rfl) (by kernel_rfl) k_impl_Category_completed_n (by decide) (fun x K => W_impl_Category_completed_n x.1 K) w_impl_Category_completed_n (fun x h1 h2 => m_impl_Category_completed_n x.1 h1 h2)
theorem ct_impl_Category_completed : CtOk Try.prog 49 c_impl_Category_completed := ct_sp ct_impl_Category_completed_y ct_impl_Category_completed_n
def catR (c : CategoryD) : Bool := shapeR c && (faultR c).1 == 0
def c_impl_Category_isCategory : Ct := ⟨[(.pt CategoryT)], [false], fun x => [], [(false, (.fz .bool))], fun x => (catR x.1, ()), false, none⟩
def ph_impl_Category_isCategory : FuncId -> Option Ct := lkp [(109, c_impl_Category_fault), (108, c_impl_Category_isShape)]
def W_impl_Category_isCategory (c : CategoryD) (K : Bool × Unit -> Prop) : Prop := (cnd (!(shapeR c)) (K (false, ())) ((ShapeP c) /\ (K (((faultR c).1 == 0), ()))))
theorem w_impl_Category_isCategory (x : denL c_impl_Category_isCategory.args) (K : Bool × Unit -> Prop) : evF tab ph_impl_Category_isCategory (cutL []) Try.f48 (bodyOf Try.f48) .n c_impl_Category_isCategory x K = W_impl_Category_isCategory x.1 K := by kernel_rfl
theorem k_impl_Category_isCategory : okC Try.f48.ntmps (cutL []) (bodyOf Try.f48) = true := by kernel_rfl
theorem m_impl_Category_isCategory (c : CategoryD) (hok : allP (okL c_impl_Category_isCategory.args (c, ()))) (hpre : allP (c_impl_Category_isCategory.pre (c, ()))) : W_impl_Category_isCategory c (fun r => r = c_impl_Category_isCategory.res (c, ())) := by
 simp only [c_impl_Category_isCategory, okL, T.oks, T.ok, ap, allP, true_and, and_true, implies_true] at hok hpre
 try dsimp only [T.den] at hok
 try dsimp only [T.den] at hpre
 unfold W_impl_Category_isCategory
 simp only [c_impl_Category_isCategory, catR]
 have := @shape_iff c
 grind [cnd, nb_eq, inK64]
theorem ct_impl_Category_isCategory : CtOk Try.prog 48 c_impl_Category_isCategory :=
 ct_by (Φ := ph_impl_Category_isCategory) (good_cons ct_impl_Category_fault (good_cons ct_impl_Category_isShape good_nil)) tab_ok (by kernel_rfl) (fn := Try.f48) (c := bodyOf Try.f48) (by kernel_rfl) (by kernel_rfl) (by kernel_rfl) c_impl_Category_isCategory rfl .n (cutL []) (by kernel_rfl) (by kernel_rfl) k_impl_Category_isCategory (by decide) (fun x K => W_impl_Category_isCategory x.1 K) w_impl_Category_isCategory (fun x h1 h2 => m_impl_Category_isCategory x.1 h1 h2)
theorem cat_shp {c : CategoryD} (h : catR c = true) : ShapeP c := by
 simp only [catR, Bool.and_eq_true] at h; exact shape_iff.1 h.1
def ccR (c : CategoryD) : CategoryD × Int := if catR c = true then (if cpFitR c = true then (completeR c, 0) else (T.dflt CategoryT, 3)) else (T.dflt CategoryT, 1)
def c_impl_CompletionOf : Ct := ⟨[CategoryT], [true], fun x => [], [(true, CategoryO), (false, (.fz (.int .i64)))], fun x => ((ccR x.1).1, (ccR x.1).2, ()), false, none⟩
def ph_impl_CompletionOf : FuncId -> Option Ct := lkp [(49, c_impl_Category_completed), (48, c_impl_Category_isCategory)]
def W_impl_CompletionOf (c : CategoryD) (K : CategoryD × Int × Unit -> Prop) : Prop := (cnd (!(catR c)) (K ((0, ([], ([], ([], [])))), (1, ()))) (cnd (cpFitR c) (((cpFitR c) = true) /\ ((ShapeP c) /\ (cnd (!true) (K ((0, ([], ([], ([], [])))), (3, ()))) (K ((completedR c).1, (0, ())))))) (((cpFitR c) = false) /\ ((ShapeP c) /\ (cnd (!false) (K ((0, ([], ([], ([], [])))), (3, ()))) (False /\ (False /\ (False /\ (False /\ (K ((0, ([], ([], ([], [])))), (0, ()))))))))))))
theorem w_impl_CompletionOf (x : denL c_impl_CompletionOf.args) (K : CategoryD × Int × Unit -> Prop) : evF tab ph_impl_CompletionOf (cutL [(3, 1500)]) Try.f18 (bodyOf Try.f18) .n c_impl_CompletionOf x K = W_impl_CompletionOf x.1 K := by kernel_rfl
theorem k_impl_CompletionOf : okC Try.f18.ntmps (cutL [(3, 1500)]) (bodyOf Try.f18) = true := by kernel_rfl
theorem m_impl_CompletionOf (c : CategoryD) (hok : allP (okL c_impl_CompletionOf.args (c, ()))) (hpre : allP (c_impl_CompletionOf.pre (c, ()))) : W_impl_CompletionOf c (fun r => r = c_impl_CompletionOf.res (c, ())) := by
 simp only [c_impl_CompletionOf, okL, T.oks, T.ok, ap, allP, true_and, and_true, implies_true] at hok hpre
 try dsimp only [T.den] at hok
 try dsimp only [T.den] at hpre
 unfold W_impl_CompletionOf
 have hcat : catR c = false -> (ccR c) = ((0, [], [], [], []), 1) := fun h => by unfold ccR; rw [if_neg (by rw [h]; simp)]; rfl
 refine cnd_of (fun hx => ?_) (fun hx => ?_)
 ·have h : catR c = false := by rw [Bool.not_eq_true'] at hx; exact hx
  simp only [c_impl_CompletionOf, hcat h]
 have h : catR c = true := by rw [Bool.not_eq_false'] at hx; exact hx
 have S := cat_shp h
 refine cnd_of (fun hy => ⟨hy, S, cnd_of (fun h => by cases h) (fun _ => ?_)⟩) (fun hy => ⟨hy, S, cnd_of (fun _ => ?_) (fun h => by cases h)⟩)
 ·simp only [c_impl_CompletionOf, ccR]; rw [if_pos h, if_pos hy]; rfl
 ·simp only [c_impl_CompletionOf, ccR]; rw [if_pos h, if_neg (by rw [hy]; simp)]; rfl
theorem ct_impl_CompletionOf : CtOk Try.prog 18 c_impl_CompletionOf :=
 ct_by (Φ := ph_impl_CompletionOf) (good_cons ct_impl_Category_completed (good_cons ct_impl_Category_isCategory good_nil)) tab_ok (by kernel_rfl) (fn := Try.f18) (c := bodyOf Try.f18) (by kernel_rfl) (by kernel_rfl) (by kernel_rfl) c_impl_CompletionOf rfl .n (cutL [(3, 1500)]) (by kernel_rfl) (by kernel_rfl) k_impl_CompletionOf (by decide) (fun x K => W_impl_CompletionOf x.1 K) w_impl_CompletionOf (fun x h1 h2 => m_impl_CompletionOf x.1 h1 h2)
def c_laws_eqInt64S : Ct := ⟨[(.sl (.int .i64)), (.sl (.int .i64))], [false, false], fun x => [], [(false, (.fz .bool))], fun x => (eqR (.sl (.int .i64)) x.1 x.2.1, ()), false, none⟩
def an_laws_eqInt64S : Ann := (.s .n (.s .n (.s (.s .n (.l [(5, (.d (.int .i64)))] [] [0, 1] .n)) .n)))
def W_laws_eqInt64S (a : List Int) (b : List Int) (K : Bool × Unit -> Prop) : Prop := (cnd (((a.length : Nat) : Int) != ((b.length : Nat) : Int)) (K (false, ())) (loopW (S := ((Int × Unit) × Unit)) (fun s => (fun next => ((inK .i64 s.1.1) -> (cnd (decide (s.1.1 < ((a.length : Nat) : Int))) ((0 <= s.1.1) /\ ((s.1.1 < ((a.length : Nat) : Int)) /\ ((0 <= s.1.1) /\ ((s.1.1 < ((b.length : Nat) : Int)) /\ (cnd ((List.getD a s.1.1.toNat 0) != (List.getD b s.1.1.toNat 0)) (K (false, ())) ((inK .i64 (s.1.1 + 1)) /\ (next (((s.1.1 + 1), ()), ())))))))) (K (true, ())))))) ((0, ()), ())))
theorem w_laws_eqInt64S (x : denL c_laws_eqInt64S.args) (K : Bool × Unit -> Prop) : evF tab (lkp []) (cutL [(6, 9)]) Try.f50 (bodyOf Try.f50) an_laws_eqInt64S c_laws_eqInt64S x K = W_laws_eqInt64S x.1 x.2.1 K := by kernel_rfl
theorem k_laws_eqInt64S : okC Try.f50.ntmps (cutL [(6, 9)]) (bodyOf Try.f50) = true := by kernel_rfl
theorem m_laws_eqInt64S (a : List Int) (b : List Int) (hok : allP (okL c_laws_eqInt64S.args (a, b, ()))) (hpre : allP (c_laws_eqInt64S.pre (a, b, ()))) : W_laws_eqInt64S a b (fun r => r = c_laws_eqInt64S.res (a, b, ())) := by
 simp only [c_laws_eqInt64S, okL, T.oks, T.ok, ap, allP, true_and, and_true, implies_true] at hok hpre
 try dsimp only [T.den] at hok
 try dsimp only [T.den] at hpre
 unfold W_laws_eqInt64S
 refine cnd_of (fun hc => ?_) (fun hc => ?_)
 ·simp only [c_laws_eqInt64S, Prod.mk.injEq, and_true]; rw [eqR_f]; rintro rfl; simp at hc
 have hl : a.length = b.length := by simp at hc; omega
 refine loop_of (fun (s : ((Int × Unit) × Unit)) => 0 <= s.1.1 /\ s.1.1 <= a.length /\ a.take s.1.1.toNat = b.take s.1.1.toNat) (fun (s : ((Int × Unit) × Unit)) => (a.length - s.1.1).toNat) ?_ (by simp)
 rintro ⟨⟨i, _⟩, _⟩ next ⟨h0, h1, h2⟩ hn hin
 simp only at h0 h1 h2 hn ⊢
 refine cnd_d (fun hc => ?_) (fun hc => ?_)
 ·have ha := take_c a (0 : Int) h0 hc
  have hb := take_c b (0 : Int) h0 (by omega)
  refine ⟨by omega, by omega, by omega, by omega, cnd_of (fun hd => ?_) (fun hd => ?_)⟩
  ·simp only [c_laws_eqInt64S, Prod.mk.injEq, and_true]; rw [eqR_f]; rintro rfl; simp at hd
  ·refine ⟨by grind [cnd, nb_eq, inK64], hn _ ⟨(by first | omega | (dsimp only; omega)), (by first | omega | (dsimp only; omega)), ?_⟩ (by first | omega | (dsimp only; omega))⟩
   simp only [Bool.not_eq_false', eqR_iff, bne_eq_false_iff_eq] at hd
   simp only [ha, hb, h2, hd]
 ·rw [take_n a (by omega), take_n b (by omega)] at h2
  simp [h2, c_laws_eqInt64S]
theorem ct_laws_eqInt64S : CtOk Try.prog 50 c_laws_eqInt64S :=
 ct_by (Φ := lkp []) good_nil tab_ok (by kernel_rfl) (fn := Try.f50) (c := bodyOf Try.f50) (by kernel_rfl) (by kernel_rfl) (by kernel_rfl) c_laws_eqInt64S rfl an_laws_eqInt64S (cutL [(6, 9)]) (by kernel_rfl) (by kernel_rfl) k_laws_eqInt64S (by decide) (fun x K => W_laws_eqInt64S x.1 x.2.1 K) w_laws_eqInt64S (fun x h1 h2 => m_laws_eqInt64S x.1 x.2.1 h1 h2)
def c_laws_eqInt64SS : Ct := ⟨[(.sl (.sl (.int .i64))), (.sl (.sl (.int .i64)))], [false, false], fun x => [], [(false, (.fz .bool))], fun x => (eqR (.sl (.sl (.int .i64))) x.1 x.2.1, ()), false, none⟩
def an_laws_eqInt64SS : Ann := (.s .n (.s .n (.s (.s .n (.l [(5, (.d (.int .i64)))] [] [0, 1] .n)) .n)))
def W_laws_eqInt64SS (a : List (List Int)) (b : List (List Int)) (K : Bool × Unit -> Prop) : Prop := (cnd (((a.length : Nat) : Int) != ((b.length : Nat) : Int)) (K (false, ())) (loopW (S := ((Int × Unit) × Unit)) (fun s => (fun next => ((inK .i64 s.1.1) -> (cnd (decide (s.1.1 < ((a.length : Nat) : Int))) ((0 <= s.1.1) /\ ((s.1.1 < ((a.length : Nat) : Int)) /\ ((0 <= s.1.1) /\ ((s.1.1 < ((b.length : Nat) : Int)) /\ (cnd (!(eqR (.sl (.int .i64)) (List.getD a s.1.1.toNat []) (List.getD b s.1.1.toNat []))) (K (false, ())) ((inK .i64 (s.1.1 + 1)) /\ (next (((s.1.1 + 1), ()), ())))))))) (K (true, ())))))) ((0, ()), ())))
theorem w_laws_eqInt64SS (x : denL c_laws_eqInt64SS.args) (K : Bool × Unit -> Prop) : evF tab (lkp [(50, c_laws_eqInt64S)]) (cutL [(6, 10)]) Try.f51 (bodyOf Try.f51) an_laws_eqInt64SS c_laws_eqInt64SS x K = W_laws_eqInt64SS x.1 x.2.1 K := by kernel_rfl
theorem k_laws_eqInt64SS : okC Try.f51.ntmps (cutL [(6, 10)]) (bodyOf Try.f51) = true := by kernel_rfl
theorem m_laws_eqInt64SS (a : List (List Int)) (b : List (List Int)) (hok : allP (okL c_laws_eqInt64SS.args (a, b, ()))) (hpre : allP (c_laws_eqInt64SS.pre (a, b, ()))) : W_laws_eqInt64SS a b (fun r => r = c_laws_eqInt64SS.res (a, b, ())) := by
 simp only [c_laws_eqInt64SS, okL, T.oks, T.ok, ap, allP, true_and, and_true, implies_true] at hok hpre
 try dsimp only [T.den] at hok
 try dsimp only [T.den] at hpre
 unfold W_laws_eqInt64SS
 refine cnd_of (fun hc => ?_) (fun hc => ?_)
 ·simp only [c_laws_eqInt64SS, Prod.mk.injEq, and_true]; rw [eqR_f]; rintro rfl; simp at hc
 have hl : a.length = b.length := by simp at hc; omega
 refine loop_of (fun (s : ((Int × Unit) × Unit)) => 0 <= s.1.1 /\ s.1.1 <= a.length /\ a.take s.1.1.toNat = b.take s.1.1.toNat) (fun (s : ((Int × Unit) × Unit)) => (a.length - s.1.1).toNat) ?_ (by simp)
 rintro ⟨⟨i, _⟩, _⟩ next ⟨h0, h1, h2⟩ hn hin
 simp only at h0 h1 h2 hn ⊢
 refine cnd_d (fun hc => ?_) (fun hc => ?_)
 ·have ha := take_c a ([] : List Int) h0 hc
  have hb := take_c b ([] : List Int) h0 (by omega)
  refine ⟨by omega, by omega, by omega, by omega, cnd_of (fun hd => ?_) (fun hd => ?_)⟩
  ·simp only [c_laws_eqInt64SS, Prod.mk.injEq, and_true]; rw [eqR_f]; rintro rfl; simp at hd
  ·refine ⟨by grind [cnd, nb_eq, inK64], hn _ ⟨(by first | omega | (dsimp only; omega)), (by first | omega | (dsimp only; omega)), ?_⟩ (by first | omega | (dsimp only; omega))⟩
   simp only [Bool.not_eq_false', eqR_iff, bne_eq_false_iff_eq] at hd
   simp only [ha, hb, h2, hd]
 ·rw [take_n a (by omega), take_n b (by omega)] at h2
  simp [h2, c_laws_eqInt64SS]
theorem ct_laws_eqInt64SS : CtOk Try.prog 51 c_laws_eqInt64SS :=
 ct_by (Φ := lkp [(50, c_laws_eqInt64S)]) (good_cons ct_laws_eqInt64S good_nil) tab_ok (by kernel_rfl) (fn := Try.f51) (c := bodyOf Try.f51) (by kernel_rfl) (by kernel_rfl) (by kernel_rfl) c_laws_eqInt64SS rfl an_laws_eqInt64SS (cutL [(6, 10)]) (by kernel_rfl) (by kernel_rfl) k_laws_eqInt64SS (by decide) (fun x K => W_laws_eqInt64SS x.1 x.2.1 K) w_laws_eqInt64SS (fun x h1 h2 => m_laws_eqInt64SS x.1 x.2.1 h1 h2)
def c_laws_eqCategory : Ct := ⟨[CategoryT, CategoryT], [true, true], fun x => [], [(false, (.fz .bool))], fun x => (eqR CategoryT x.1 x.2.1, ()), false, none⟩
def ph_laws_eqCategory : FuncId -> Option Ct := lkp [(50, c_laws_eqInt64S), (51, c_laws_eqInt64SS)]
def W_laws_eqCategory (a : CategoryD) (b : CategoryD) (K : Bool × Unit -> Prop) : Prop := (cnd (a.1 != b.1) (K (false, ())) (cnd (!(eqR (.sl (.int .i64)) a.2.1 b.2.1)) (K (false, ())) (cnd (!(eqR (.sl (.int .i64)) a.2.2.1 b.2.2.1)) (K (false, ())) (cnd (!(eqR (.sl (.int .i64)) a.2.2.2.1 b.2.2.2.1)) (K (false, ())) (cnd (!(eqR (.sl (.sl (.int .i64))) a.2.2.2.2 b.2.2.2.2)) (K (false, ())) (K (true, ())))))))
theorem w_laws_eqCategory (x : denL c_laws_eqCategory.args) (K : Bool × Unit -> Prop) : evF tab ph_laws_eqCategory (cutL []) Try.f19 (bodyOf Try.f19) .n c_laws_eqCategory x K = W_laws_eqCategory x.1 x.2.1 K := by kernel_rfl
theorem k_laws_eqCategory : okC Try.f19.ntmps (cutL []) (bodyOf Try.f19) = true := by kernel_rfl
theorem m_laws_eqCategory (a : CategoryD) (b : CategoryD) (hok : allP (okL c_laws_eqCategory.args (a, b, ()))) (hpre : allP (c_laws_eqCategory.pre (a, b, ()))) : W_laws_eqCategory a b (fun r => r = c_laws_eqCategory.res (a, b, ())) := by
 simp only [c_laws_eqCategory, okL, T.oks, T.ok, ap, allP, true_and, and_true, implies_true] at hok hpre
 try dsimp only [T.den] at hok
 try dsimp only [T.den] at hpre
 unfold W_laws_eqCategory
 simp only [c_laws_eqCategory, eqR_p, eqR_int, eqR_bool]
 grind [cnd, nb_eq, inK64]
theorem ct_laws_eqCategory : CtOk Try.prog 19 c_laws_eqCategory :=
 ct_by (Φ := ph_laws_eqCategory) (good_cons ct_laws_eqInt64S (good_cons ct_laws_eqInt64SS good_nil)) tab_ok (by kernel_rfl) (fn := Try.f19) (c := bodyOf Try.f19) (by kernel_rfl) (by kernel_rfl) (by kernel_rfl) c_laws_eqCategory rfl .n (cutL []) (by kernel_rfl) (by kernel_rfl) k_laws_eqCategory (by decide) (fun x K => W_laws_eqCategory x.1 x.2.1 K) w_laws_eqCategory (fun x h1 h2 => m_laws_eqCategory x.1 x.2.1 h1 h2)
def c_laws_heldInt64S : Ct := ⟨[(.sl (.int .i64)), (.int .i64)], [false, false], fun x => [0 <= x.2.1, x.2.1 + ckR (.sl (.int .i64)) x.1 <= 4611686018427387904], [(false, (.fz (.int .i64)))], fun x => (hdR (.sl (.int .i64)) x.1 x.2.1, ()), false, none⟩
def an_laws_heldInt64S : Ann := (.s .n (.s (.s .n (.l [(1, (.d (.int .i64))), (5, (.d (.int .i64)))] [] [0] .n)) .n))
def W_laws_heldInt64S (a : List Int) (k : Int) (K : Int × Unit -> Prop) : Prop := (loopW (S := ((Int × (Int × Unit)) × Unit)) (fun s => (fun next => ((inK .i64 s.1.1) -> ((inK .i64 s.1.2.1) -> (cnd (decide (s.1.2.1 < ((a.length : Nat) : Int))) ((0 <= s.1.2.1) /\ ((s.1.2.1 < ((a.length : Nat) : Int)) /\ (cnd ((List.getD a s.1.2.1.toNat 0) != s.1.1) (K ((-1), ())) ((inK .i64 (s.1.1 + 1)) /\ ((inK .i64 (s.1.2.1 + 1)) /\ (next (((s.1.1 + 1), ((s.1.2.1 + 1), ())), ()))))))) (K (s.1.1, ()))))))) ((k, (0, ())), ()))
theorem w_laws_heldInt64S (x : denL c_laws_heldInt64S.args) (K : Int × Unit -> Prop) : evF tab (lkp []) (cutL []) Try.f54 (bodyOf Try.f54) an_laws_heldInt64S c_laws_heldInt64S x K = W_laws_heldInt64S x.1 x.2.1 K := by kernel_rfl
theorem k_laws_heldInt64S : okC Try.f54.ntmps (cutL []) (bodyOf Try.f54) = true := by kernel_rfl
theorem m_laws_heldInt64S (a : List Int) (k : Int) (hok : allP (okL c_laws_heldInt64S.args (a, k, ()))) (hpre : allP (c_laws_heldInt64S.pre (a, k, ()))) : W_laws_heldInt64S a k (fun r => r = c_laws_heldInt64S.res (a, k, ())) := by
 simp only [c_laws_heldInt64S, okL, T.oks, T.ok, ap, allP, true_and, and_true, implies_true] at hok hpre
 try dsimp only [T.den] at hok
 try dsimp only [T.den] at hpre
 unfold W_laws_heldInt64S
 obtain ⟨h0, hb⟩ := hpre
 have hll : a.length <= 140737488355328 := by simp only [nb_eq] at hok; omega
 refine held_loop (e := .int .i64) (0 : Int) a k h0 hb (fun k i next i0 i1 k0 kb hbad hn h1 h2 => ?_) (fun i next hi h1 h2 => ?_)
 ·try dsimp only
  simp only [ckR] at kb
  simp only [hd_int] at hbad hn
  refine cnd_d (fun _ => ⟨i0, i1, cnd_of (fun hx => ?_) (fun hx => ⟨by rw [inK64]; (try dsimp only); omega, by rw [inK64]; (try dsimp only); omega, ?_⟩)⟩) (fun h => absurd i1 h)
  ·rw [bne_iff_ne] at hx
   rw [if_neg hx] at hbad
   simp only [c_laws_heldInt64S]; rw [hbad (by omega)]
  ·rw [bne_eq_false_iff_eq] at hx
   rw [if_pos hx] at hn
   exact hn (by omega)
 ·exact cnd_d (fun h => absurd h (by dsimp only; omega)) (fun _ => rfl)
theorem ct_laws_heldInt64S : CtOk Try.prog 54 c_laws_heldInt64S :=
 ct_by (Φ := lkp []) good_nil tab_ok (by kernel_rfl) (fn := Try.f54) (c := bodyOf Try.f54) (by kernel_rfl) (by kernel_rfl) (by kernel_rfl) c_laws_heldInt64S rfl an_laws_heldInt64S (cutL []) (by kernel_rfl) (by kernel_rfl) k_laws_heldInt64S (by decide) (fun x K => W_laws_heldInt64S x.1 x.2.1 K) w_laws_heldInt64S (fun x h1 h2 => m_laws_heldInt64S x.1 x.2.1 h1 h2)
def c_laws_heldInt64SS : Ct := ⟨[(.sl (.sl (.int .i64))), (.int .i64)], [false, false], fun x => [0 <= x.2.1, x.2.1 + ckR (.sl (.sl (.int .i64))) x.1 <= 4611686018427387904], [(false, (.fz (.int .i64)))], fun x => (hdR (.sl (.sl (.int .i64))) x.1 x.2.1, ()), false, none⟩
def an_laws_heldInt64SS : Ann := (.s .n (.s (.s .n (.l [(1, (.d (.int .i64))), (5, (.d (.int .i64)))] [] [0] .n)) .n))
def W_laws_heldInt64SS (a : List (List Int)) (k : Int) (K : Int × Unit -> Prop) : Prop := (loopW (S := ((Int × (Int × Unit)) × Unit)) (fun s => (fun next => ((inK .i64 s.1.1) -> ((inK .i64 s.1.2.1) -> (cnd (decide (s.1.2.1 < ((a.length : Nat) : Int))) ((0 <= s.1.2.1) /\ ((s.1.2.1 < ((a.length : Nat) : Int)) /\ ((0 <= s.1.1) /\ (((s.1.1 + (((ckR (.sl (.int .i64)) (List.getD a s.1.2.1.toNat [])) : Nat) : Int)) <= 4611686018427387904) /\ (cnd (decide ((hdR (.sl (.int .i64)) (List.getD a s.1.2.1.toNat []) s.1.1) < 0)) (K ((-1), ())) ((inK .i64 (s.1.2.1 + 1)) /\ (next (((hdR (.sl (.int .i64)) (List.getD a s.1.2.1.toNat []) s.1.1), ((s.1.2.1 + 1), ())), ())))))))) (K (s.1.1, ()))))))) ((k, (0, ())), ()))
theorem w_laws_heldInt64SS (x : denL c_laws_heldInt64SS.args) (K : Int × Unit -> Prop) : evF tab (lkp [(54, c_laws_heldInt64S)]) (cutL []) Try.f55 (bodyOf Try.f55) an_laws_heldInt64SS c_laws_heldInt64SS x K = W_laws_heldInt64SS x.1 x.2.1 K := by kernel_rfl
theorem k_laws_heldInt64SS : okC Try.f55.ntmps (cutL []) (bodyOf Try.f55) = true := by kernel_rfl
theorem m_laws_heldInt64SS (a : List (List Int)) (k : Int) (hok : allP (okL c_laws_heldInt64SS.args (a, k, ()))) (hpre : allP (c_laws_heldInt64SS.pre (a, k, ()))) : W_laws_heldInt64SS a k (fun r => r = c_laws_heldInt64SS.res (a, k, ())) := by
 simp only [c_laws_heldInt64SS, okL, T.oks, T.ok, ap, allP, true_and, and_true, implies_true] at hok hpre
 try dsimp only [T.den] at hok
 try dsimp only [T.den] at hpre
 unfold W_laws_heldInt64SS
 obtain ⟨h0, hb⟩ := hpre
 have hll : a.length <= 140737488355328 := by simp only [nb_eq] at hok; omega
 refine held_loop (e := (.sl (.int .i64))) ([] : List Int) a k h0 hb (fun k i next i0 i1 k0 kb hbad hn h1 h2 => ?_) (fun i next hi h1 h2 => ?_)
 ·try dsimp only
  refine cnd_d (fun _ => ⟨i0, i1, k0, kb, cnd_d (fun hx => ?_) (fun hx => ⟨by rw [inK64]; (try dsimp only); omega, hn hx⟩)⟩) (fun h => absurd i1 h)
  simp only [c_laws_heldInt64SS]; rw [hbad hx]
 ·exact cnd_d (fun h => absurd h (by dsimp only; omega)) (fun _ => rfl)
theorem ct_laws_heldInt64SS : CtOk Try.prog 55 c_laws_heldInt64SS :=
 ct_by (Φ := lkp [(54, c_laws_heldInt64S)]) (good_cons ct_laws_heldInt64S good_nil) tab_ok (by kernel_rfl) (fn := Try.f55) (c := bodyOf Try.f55) (by kernel_rfl) (by kernel_rfl) (by kernel_rfl) c_laws_heldInt64SS rfl an_laws_heldInt64SS (cutL []) (by kernel_rfl) (by kernel_rfl) k_laws_heldInt64SS (by decide) (fun x K => W_laws_heldInt64SS x.1 x.2.1 K) w_laws_heldInt64SS (fun x h1 h2 => m_laws_heldInt64SS x.1 x.2.1 h1 h2)
def c_laws_heldCategory : Ct := ⟨[CategoryT, (.int .i64)], [true, false], fun x => [0 <= x.2.1, x.2.1 + ctR CategoryT x.1 <= 4611686018427387904], [(false, (.fz (.int .i64)))], fun x => (htR CategoryT x.1 x.2.1, ()), false, none⟩
def ph_laws_heldCategory : FuncId -> Option Ct := lkp [(54, c_laws_heldInt64S), (55, c_laws_heldInt64SS)]
def W_laws_heldCategory (a : CategoryD) (k : Int) (K : Int × Unit -> Prop) : Prop := ((0 <= k) /\ (((k + (((ckR (.sl (.int .i64)) a.2.1) : Nat) : Int)) <= 4611686018427387904) /\ (cnd (decide ((hdR (.sl (.int .i64)) a.2.1 k) < 0)) (K ((-1), ())) ((0 <= (hdR (.sl (.int .i64)) a.2.1 k)) /\ ((((hdR (.sl (.int .i64)) a.2.1 k) + (((ckR (.sl (.int .i64)) a.2.2.1) : Nat) : Int)) <= 4611686018427387904) /\ (cnd (decide ((hdR (.sl (.int .i64)) a.2.2.1 (hdR (.sl (.int .i64)) a.2.1 k)) < 0)) (K ((-1), ())) ((0 <= (hdR (.sl (.int .i64)) a.2.2.1 (hdR (.sl (.int .i64)) a.2.1 k))) /\ ((((hdR (.sl (.int .i64)) a.2.2.1 (hdR (.sl (.int .i64)) a.2.1 k)) + (((ckR (.sl (.int .i64)) a.2.2.2.1) : Nat) : Int)) <= 4611686018427387904) /\ (cnd (decide ((hdR (.sl (.int .i64)) a.2.2.2.1 (hdR (.sl (.int .i64)) a.2.2.1 (hdR (.sl (.int .i64)) a.2.1 k))) < 0)) (K ((-1), ())) ((0 <= (hdR (.sl (.int .i64)) a.2.2.2.1 (hdR (.sl (.int .i64)) a.2.2.1 (hdR (.sl (.int .i64)) a.2.1 k)))) /\ ((((hdR (.sl (.int .i64)) a.2.2.2.1 (hdR (.sl (.int .i64)) a.2.2.1 (hdR (.sl (.int .i64)) a.2.1 k))) + (((ckR (.sl (.sl (.int .i64))) a.2.2.2.2) : Nat) : Int)) <= 4611686018427387904) /\ (cnd (decide ((hdR (.sl (.sl (.int .i64))) a.2.2.2.2 (hdR (.sl (.int .i64)) a.2.2.2.1 (hdR (.sl (.int .i64)) a.2.2.1 (hdR (.sl (.int .i64)) a.2.1 k)))) < 0)) (K ((-1), ())) (K ((hdR (.sl (.sl (.int .i64))) a.2.2.2.2 (hdR (.sl (.int .i64)) a.2.2.2.1 (hdR (.sl (.int .i64)) a.2.2.1 (hdR (.sl (.int .i64)) a.2.1 k)))), ()))))))))))))))
theorem w_laws_heldCategory (x : denL c_laws_heldCategory.args) (K : Int × Unit -> Prop) : evF tab ph_laws_heldCategory (cutL []) Try.f21 (bodyOf Try.f21) .n c_laws_heldCategory x K = W_laws_heldCategory x.1 x.2.1 K := by kernel_rfl
theorem k_laws_heldCategory : okC Try.f21.ntmps (cutL []) (bodyOf Try.f21) = true := by kernel_rfl
theorem m_laws_heldCategory (a : CategoryD) (k : Int) (hok : allP (okL c_laws_heldCategory.args (a, k, ()))) (hpre : allP (c_laws_heldCategory.pre (a, k, ()))) : W_laws_heldCategory a k (fun r => r = c_laws_heldCategory.res (a, k, ())) := by
 simp only [c_laws_heldCategory, okL, T.oks, T.ok, ap, allP, true_and, and_true, implies_true] at hok hpre
 try dsimp only [T.den] at hok
 try dsimp only [T.den] at hpre
 unfold W_laws_heldCategory
 obtain ⟨h0, hb⟩ := hpre
 simp only [ctR] at hb
 simp only [c_laws_heldCategory, htR]
 grind [cnd, hd_val, ht_val, ctR]
theorem ct_laws_heldCategory : CtOk Try.prog 21 c_laws_heldCategory :=
 ct_by (Φ := ph_laws_heldCategory) (good_cons ct_laws_heldInt64S (good_cons ct_laws_heldInt64SS good_nil)) tab_ok (by kernel_rfl) (fn := Try.f21) (c := bodyOf Try.f21) (by kernel_rfl) (by kernel_rfl) (by kernel_rfl) c_laws_heldCategory rfl .n (cutL []) (by kernel_rfl) (by kernel_rfl) k_laws_heldCategory (by decide) (fun x K => W_laws_heldCategory x.1 x.2.1 K) w_laws_heldCategory (fun x h1 h2 => m_laws_heldCategory x.1 x.2.1 h1 h2)
def m0_laws_markInt64S : Mt := ⟨(.sl (.fz (.int .i64))), false, fun x k => [0 <= k, k + ckR (.sl (.int .i64)) x <= 4611686018427387904], fun x k => mkR (.sl (.int .i64)) x k⟩
def c_laws_markInt64S : Ct := mtCt m0_laws_markInt64S
def an_laws_markInt64S : Ann := (.s .n (.s (.s .n (.l [(0, (.ref 1000000 [])), (1, (.d (.int .i64))), (5, (.d (.int .i64)))] [(1000000, (.sl (.fz (.int .i64))))] [] .n)) .n))
def W_laws_markInt64S (a : List Int) (k : Int) (K : (List Int) -> Int -> Prop) : Prop := (loopW (S := ((Unit × (Int × (Int × Unit))) × ((List Int) × Unit))) (fun s => (fun next => ((inK .i64 s.1.2.1) -> ((inK .i64 s.1.2.2.1) -> ((T.ok (.sl (.int .i64)) s.2.1) -> (cnd (decide (s.1.2.2.1 < ((s.2.1.length : Nat) : Int))) ((0 <= s.1.2.2.1) /\ ((s.1.2.2.1 < ((s.2.1.length : Nat) : Int)) /\ ((inK .i64 (s.1.2.1 + 1)) /\ ((inK .i64 (s.1.2.2.1 + 1)) /\ (next (((), ((s.1.2.1 + 1), ((s.1.2.2.1 + 1), ()))), ((List.set s.2.1 s.1.2.2.1.toNat s.1.2.1), ()))))))) (K s.2.1 s.1.2.1))))))) (((), (k, (0, ()))), (a, ())))
theorem w_laws_markInt64S (a : List Int) (k : Int) (K : (List Int) -> Int -> Prop) : evFm tab (lkp []) (cutL []) Try.f52 (bodyOf Try.f52) an_laws_markInt64S m0_laws_markInt64S a k K = W_laws_markInt64S a k K := by kernel_rfl
theorem k_laws_markInt64S : okC Try.f52.ntmps (cutL []) (bodyOf Try.f52) = true := by kernel_rfl
theorem m_laws_markInt64S (a : List Int) (k : Int) (hok : allP (T.oks (.sl (.int .i64)) a)) (h0 : 0 <= k) (hpre : k + ckR (.sl (.int .i64)) a <= 4611686018427387904) : W_laws_markInt64S a k (fun y n => y = (mkR (.sl (.int .i64)) a k).1 /\ n = (mkR (.sl (.int .i64)) a k).2) := by
 simp only [T.oks, T.ok, ap, allP, true_and, and_true, implies_true] at hok
 try dsimp only [T.den] at hok
 unfold W_laws_markInt64S
 refine mark_loop (e := .int .i64) (0 : Int) a k h0 hpre (fun k i l next i0 i1 hl hg k0 kb hn h1 h2 h3 => ?_) (fun i l next hi hl h1 h2 h3 => ?_)
 ·try dsimp only
  simp only [ckR] at kb
  have hll := h3.1
  simp only [nb_eq] at hll
  exact cnd_d (fun _ => ⟨i0, i1, by rw [inK64]; (try dsimp only); omega, by rw [inK64]; (try dsimp only); omega, hn⟩) (fun h => absurd i1 h)
 ·exact cnd_d (fun h => absurd h (by dsimp only; omega)) (fun _ => ⟨hl, rfl⟩)
theorem ct_laws_markInt64S : CtOk Try.prog 52 c_laws_markInt64S :=
 mt_of (Φ := lkp []) good_nil tab_ok (by kernel_rfl) (fn := Try.f52) (c := bodyOf Try.f52) (by kernel_rfl) (by kernel_rfl) (by kernel_rfl) m0_laws_markInt64S an_laws_markInt64S (cutL []) (by kernel_rfl) (by kernel_rfl) k_laws_markInt64S (by decide) (by kernel_rfl) (fun x k hk hok hp => (w_laws_markInt64S x k _).mpr (m_laws_markInt64S x k hok hp.1 hp.2.1))
def m0_laws_markInt64SS : Mt := ⟨(.sl (.sl (.fz (.int .i64)))), false, fun x k => [0 <= k, k + ckR (.sl (.sl (.int .i64))) x <= 4611686018427387904], fun x k => mkR (.sl (.sl (.int .i64))) x k⟩
def c_laws_markInt64SS : Ct := mtCt m0_laws_markInt64SS
def an_laws_markInt64SS : Ann := (.s .n (.s (.s .n (.l [(0, (.ref 1000000 [])), (1, (.d (.int .i64))), (5, (.d (.int .i64)))] [(1000000, (.sl (.sl (.fz (.int .i64)))))] [] .n)) .n))
def W_laws_markInt64SS (a : List (List Int)) (k : Int) (K : (List (List Int)) -> Int -> Prop) : Prop := (loopW (S := ((Unit × (Int × (Int × Unit))) × ((List (List Int)) × Unit))) (fun s => (fun next => ((inK .i64 s.1.2.1) -> ((inK .i64 s.1.2.2.1) -> ((T.ok (.sl (.sl (.int .i64))) s.2.1) -> (cnd (decide (s.1.2.2.1 < ((s.2.1.length : Nat) : Int))) ((0 <= s.1.2.2.1) /\ ((s.1.2.2.1 < ((s.2.1.length : Nat) : Int)) /\ ((0 <= s.1.2.1) /\ (((s.1.2.1 + (((ckR (.sl (.int .i64)) (List.getD s.2.1 s.1.2.2.1.toNat [])) : Nat) : Int)) <= 4611686018427387904) /\ ((inK .i64 (s.1.2.2.1 + 1)) /\ (next (((), ((mkR (.sl (.int .i64)) (List.getD s.2.1 s.1.2.2.1.toNat []) s.1.2.1).2, ((s.1.2.2.1 + 1), ()))), ((List.set s.2.1 s.1.2.2.1.toNat (mkR (.sl (.int .i64)) (List.getD s.2.1 s.1.2.2.1.toNat []) s.1.2.1).1), ())))))))) (K s.2.1 s.1.2.1))))))) (((), (k, (0, ()))), (a, ())))
theorem w_laws_markInt64SS (a : List (List Int)) (k : Int) (K : (List (List Int)) -> Int -> Prop) : evFm tab (lkp [(52, c_laws_markInt64S)]) (cutL []) Try.f53 (bodyOf Try.f53) an_laws_markInt64SS m0_laws_markInt64SS a k K = W_laws_markInt64SS a k K := by kernel_rfl
theorem k_laws_markInt64SS : okC Try.f53.ntmps (cutL []) (bodyOf Try.f53) = true := by kernel_rfl
theorem m_laws_markInt64SS (a : List (List Int)) (k : Int) (hok : allP (T.oks (.sl (.sl (.int .i64))) a)) (h0 : 0 <= k) (hpre : k + ckR (.sl (.sl (.int .i64))) a <= 4611686018427387904) : W_laws_markInt64SS a k (fun y n => y = (mkR (.sl (.sl (.int .i64))) a k).1 /\ n = (mkR (.sl (.sl (.int .i64))) a k).2) := by
 simp only [T.oks, T.ok, ap, allP, true_and, and_true, implies_true] at hok
 try dsimp only [T.den] at hok
 unfold W_laws_markInt64SS
 refine mark_loop (e := (.sl (.int .i64))) ([] : List Int) a k h0 hpre (fun k i l next i0 i1 hl hg k0 kb hn h1 h2 h3 => ?_) (fun i l next hi hl h1 h2 h3 => ?_)
 ·try dsimp only
  have hll := h3.1
  simp only [nb_eq] at hll
  rw [hg]
  exact cnd_d (fun _ => ⟨i0, i1, k0, kb, by rw [inK64]; (try dsimp only); omega, hn⟩) (fun h => absurd i1 h)
 ·exact cnd_d (fun h => absurd h (by dsimp only; omega)) (fun _ => ⟨hl, rfl⟩)
theorem ct_laws_markInt64SS : CtOk Try.prog 53 c_laws_markInt64SS :=
 mt_of (Φ := lkp [(52, c_laws_markInt64S)]) (good_cons ct_laws_markInt64S good_nil) tab_ok (by kernel_rfl) (fn := Try.f53) (c := bodyOf Try.f53) (by kernel_rfl) (by kernel_rfl) (by kernel_rfl) m0_laws_markInt64SS an_laws_markInt64SS (cutL []) (by kernel_rfl) (by kernel_rfl) k_laws_markInt64SS (by decide) (by kernel_rfl) (fun x k hk hok hp => (w_laws_markInt64SS x k _).mpr (m_laws_markInt64SS x k hok hp.1 hp.2.1))
def m0_laws_markCategory : Mt := ⟨CategoryO, true, fun x k => [0 <= k, k + ctR CategoryT x <= 4611686018427387904], fun x k => mtR CategoryT x k⟩
def c_laws_markCategory : Ct := mtCt m0_laws_markCategory
def ph_laws_markCategory : FuncId -> Option Ct := lkp [(52, c_laws_markInt64S), (53, c_laws_markInt64SS)]
def W_laws_markCategory (a : CategoryD) (k : Int) (K : CategoryD -> Int -> Prop) : Prop := ((0 <= k) /\ (((k + (((ckR (.sl (.int .i64)) a.2.1) : Nat) : Int)) <= 4611686018427387904) /\ ((0 <= (mkR (.sl (.int .i64)) a.2.1 k).2) /\ ((((mkR (.sl (.int .i64)) a.2.1 k).2 + (((ckR (.sl (.int .i64)) a.2.2.1) : Nat) : Int)) <= 4611686018427387904) /\ ((0 <= (mkR (.sl (.int .i64)) a.2.2.1 (mkR (.sl (.int .i64)) a.2.1 k).2).2) /\ ((((mkR (.sl (.int .i64)) a.2.2.1 (mkR (.sl (.int .i64)) a.2.1 k).2).2 + (((ckR (.sl (.int .i64)) a.2.2.2.1) : Nat) : Int)) <= 4611686018427387904) /\ ((0 <= (mkR (.sl (.int .i64)) a.2.2.2.1 (mkR (.sl (.int .i64)) a.2.2.1 (mkR (.sl (.int .i64)) a.2.1 k).2).2).2) /\ ((((mkR (.sl (.int .i64)) a.2.2.2.1 (mkR (.sl (.int .i64)) a.2.2.1 (mkR (.sl (.int .i64)) a.2.1 k).2).2).2 + (((ckR (.sl (.sl (.int .i64))) a.2.2.2.2) : Nat) : Int)) <= 4611686018427387904) /\ (K (a.1, ((mkR (.sl (.int .i64)) a.2.1 k).1, ((mkR (.sl (.int .i64)) a.2.2.1 (mkR (.sl (.int .i64)) a.2.1 k).2).1, ((mkR (.sl (.int .i64)) a.2.2.2.1 (mkR (.sl (.int .i64)) a.2.2.1 (mkR (.sl (.int .i64)) a.2.1 k).2).2).1, (mkR (.sl (.sl (.int .i64))) a.2.2.2.2 (mkR (.sl (.int .i64)) a.2.2.2.1 (mkR (.sl (.int .i64)) a.2.2.1 (mkR (.sl (.int .i64)) a.2.1 k).2).2).2).1)))) (mkR (.sl (.sl (.int .i64))) a.2.2.2.2 (mkR (.sl (.int .i64)) a.2.2.2.1 (mkR (.sl (.int .i64)) a.2.2.1 (mkR (.sl (.int .i64)) a.2.1 k).2).2).2).2)))))))))
theorem w_laws_markCategory (a : CategoryD) (k : Int) (K : CategoryD -> Int -> Prop) : evFm tab ph_laws_markCategory (cutL []) Try.f20 (bodyOf Try.f20) .n m0_laws_markCategory a k K = W_laws_markCategory a k K := by kernel_rfl
theorem k_laws_markCategory : okC Try.f20.ntmps (cutL []) (bodyOf Try.f20) = true := by kernel_rfl
theorem m_laws_markCategory (a : CategoryD) (k : Int) (hok : allP (T.oks CategoryT a)) (h0 : 0 <= k) (hpre : k + ctR CategoryT a <= 4611686018427387904) : W_laws_markCategory a k (fun y n => y = (mtR CategoryT a k).1 /\ n = (mtR CategoryT a k).2) := by
 simp only [T.oks, T.ok, ap, allP, true_and, and_true, implies_true] at hok
 try dsimp only [T.den] at hok
 unfold W_laws_markCategory
 simp only [ctR] at hpre
 repeat' apply And.intro
 all_goals first | rfl | ((try simp only [mk_num, mt_num, ctR]); omega)
theorem ct_laws_markCategory : CtOk Try.prog 20 c_laws_markCategory :=
 mt_of (Φ := ph_laws_markCategory) (good_cons ct_laws_markInt64S (good_cons ct_laws_markInt64SS good_nil)) tab_ok (by kernel_rfl) (fn := Try.f20) (c := bodyOf Try.f20) (by kernel_rfl) (by kernel_rfl) (by kernel_rfl) m0_laws_markCategory .n (cutL []) (by kernel_rfl) (by kernel_rfl) k_laws_markCategory (by decide) (by kernel_rfl) (fun x k hk hok hp => (w_laws_markCategory x k _).mpr (m_laws_markCategory x k hok hp.1 hp.2.1))
def c_laws_szInt64S : Ct := ⟨[(.sl (.int .i64)), (.int .i64)], [false, false], fun x => [-4611545280939032576 <= x.2.1], [(false, (.fz (.int .i64)))], fun x => (szR (wR (.sl (.int .i64)) x.1) x.2.1, ()), false, none⟩
def W_laws_szInt64S (a : List Int) (left : Int) (K : Int × Unit -> Prop) : Prop := ((inK .i64 (left - ((a.length : Nat) : Int))) /\ (cnd (decide ((left - ((a.length : Nat) : Int)) < 0)) (K ((-1), ())) (K ((left - ((a.length : Nat) : Int)), ()))))
theorem w_laws_szInt64S (x : denL c_laws_szInt64S.args) (K : Int × Unit -> Prop) : evF tab (lkp []) (cutL []) Try.f43 (bodyOf Try.f43) .n c_laws_szInt64S x K = W_laws_szInt64S x.1 x.2.1 K := by kernel_rfl
theorem k_laws_szInt64S : okC Try.f43.ntmps (cutL []) (bodyOf Try.f43) = true := by kernel_rfl
theorem m_laws_szInt64S (a : List Int) (left : Int) (hok : allP (okL c_laws_szInt64S.args (a, left, ()))) (hpre : allP (c_laws_szInt64S.pre (a, left, ()))) : W_laws_szInt64S a left (fun r => r = c_laws_szInt64S.res (a, left, ())) := by
 simp only [c_laws_szInt64S, okL, T.oks, T.ok, ap, allP, true_and, and_true, implies_true] at hok hpre
 try dsimp only [T.den] at hok
 try dsimp only [T.den] at hpre
 unfold W_laws_szInt64S
 simp only [c_laws_szInt64S, wR_ints]
 grind [cnd, nb_eq, inK64, szR]
theorem ct_laws_szInt64S : CtOk Try.prog 43 c_laws_szInt64S :=
 ct_by (Φ := lkp []) good_nil tab_ok (by kernel_rfl) (fn := Try.f43) (c := bodyOf Try.f43) (by kernel_rfl) (by kernel_rfl) (by kernel_rfl) c_laws_szInt64S rfl .n (cutL []) (by kernel_rfl) (by kernel_rfl) k_laws_szInt64S (by decide) (fun x K => W_laws_szInt64S x.1 x.2.1 K) w_laws_szInt64S (fun x h1 h2 => m_laws_szInt64S x.1 x.2.1 h1 h2)
def c_laws_szInt64SS : Ct := ⟨[(.sl (.sl (.int .i64))), (.int .i64)], [false, false], fun x => [-4611404543450677248 <= x.2.1], [(false, (.fz (.int .i64)))], fun x => (szR (wR (.sl (.sl (.int .i64))) x.1) x.2.1, ()), false, none⟩
def an_laws_szInt64SS : Ann := (.s .n (.s .n (.s .n (.s (.s .n (.l [(1, (.d (.int .i64))), (5, (.d (.int .i64)))] [] [0] .n)) .n))))
def W_laws_szInt64SS (a : List (List Int)) (left : Int) (K : Int × Unit -> Prop) : Prop := ((inK .i64 (left - ((a.length : Nat) : Int))) /\ (cnd (decide ((left - ((a.length : Nat) : Int)) < 0)) (K ((-1), ())) (loopW (S := ((Int × (Int × Unit)) × Unit)) (fun s => (fun next => ((inK .i64 s.1.1) -> ((inK .i64 s.1.2.1) -> (cnd (decide (s.1.2.1 < ((a.length : Nat) : Int))) ((0 <= s.1.2.1) /\ ((s.1.2.1 < ((a.length : Nat) : Int)) /\ (((-4611545280939032576) <= s.1.1) /\ (cnd (decide ((szR (wR (.sl (.int .i64)) (List.getD a s.1.2.1.toNat [])) s.1.1) < 0)) (K ((-1), ())) ((inK .i64 (s.1.2.1 + 1)) /\ (next (((szR (wR (.sl (.int .i64)) (List.getD a s.1.2.1.toNat [])) s.1.1), ((s.1.2.1 + 1), ())), ()))))))) (K (s.1.1, ()))))))) (((left - ((a.length : Nat) : Int)), (0, ())), ()))))
theorem w_laws_szInt64SS (x : denL c_laws_szInt64SS.args) (K : Int × Unit -> Prop) : evF tab (lkp [(43, c_laws_szInt64S)]) (cutL []) Try.f44 (bodyOf Try.f44) an_laws_szInt64SS c_laws_szInt64SS x K = W_laws_szInt64SS x.1 x.2.1 K := by kernel_rfl
theorem k_laws_szInt64SS : okC Try.f44.ntmps (cutL []) (bodyOf Try.f44) = true := by kernel_rfl
theorem m_laws_szInt64SS (a : List (List Int)) (left : Int) (hok : allP (okL c_laws_szInt64SS.args (a, left, ()))) (hpre : allP (c_laws_szInt64SS.pre (a, left, ()))) : W_laws_szInt64SS a left (fun r => r = c_laws_szInt64SS.res (a, left, ())) := by
 simp only [c_laws_szInt64SS, okL, T.oks, T.ok, ap, allP, true_and, and_true, implies_true] at hok hpre
 try dsimp only [T.den] at hok
 try dsimp only [T.den] at hpre
 unfold W_laws_szInt64SS
 have hr := szR_ge (x := a.length) (r := (a.map (wR (.sl (.int .i64)))).sum) (l := left)
 refine ⟨by grind [cnd, nb_eq, inK64], cnd_d (fun hc => ?_) (fun hc => ?_)⟩
 ·simp only [c_laws_szInt64SS]; rw [wR_sl, szR_lt (x := a.length) (by omega)]
 replace hr := hr (by omega)
 rw [szR_val (x := a.length) (by omega)] at hr
 refine loop_of (fun (s : ((Int × (Int × Unit)) × Unit)) => 0 <= s.1.1 /\ 0 <= s.1.2.1 /\ s.1.2.1 <= a.length /\ szR (wR (.sl (.sl (.int .i64))) a) left = szR ((a.drop s.1.2.1.toNat).map (wR (.sl (.int .i64)))).sum s.1.1) (fun (s : ((Int × (Int × Unit)) × Unit)) => (a.length - s.1.2.1).toNat) ?_ ⟨(by first | omega | (dsimp only; omega)), by simp, by simp, by rw [wR_sl]; simpa using hr⟩
 rintro ⟨⟨l, i, _⟩, _⟩ next ⟨h0, h1, h2, h3⟩ hn hin hl
 simp only at h0 h1 h2 h3 hn ⊢
 refine cnd_d (fun hc => ?_) (fun hc => ?_)
 ·rw [drop_c a ([] : List Int) h1 hc, List.map_cons, List.sum_cons] at h3
  refine ⟨by omega, by omega, by omega, cnd_d (fun hd => ?_) (fun hd => ?_)⟩
  ·rw [szR_neg] at hd
   rw [szR_lt hd] at h3
   simp only [c_laws_szInt64SS]; rw [h3]
  ·rw [szR_neg] at hd
   rw [szR_ge hd] at h3
   exact ⟨by grind [cnd, nb_eq, inK64], hn _ ⟨by simp only; rw [szR_val hd]; omega, (by first | omega | (dsimp only; omega)), (by first | omega | (dsimp only; omega)), h3⟩ (by first | omega | (dsimp only; omega))⟩
 ·rw [drop_n a (by omega)] at h3
  simp only [List.map_nil, List.sum_nil] at h3
  rw [szR_zero h0] at h3
  simp only [c_laws_szInt64SS]; rw [h3]
theorem ct_laws_szInt64SS : CtOk Try.prog 44 c_laws_szInt64SS :=
 ct_by (Φ := lkp [(43, c_laws_szInt64S)]) (good_cons ct_laws_szInt64S good_nil) tab_ok (by kernel_rfl) (fn := Try.f44) (c := bodyOf Try.f44) (by kernel_rfl) (by kernel_rfl) (by kernel_rfl) c_laws_szInt64SS rfl an_laws_szInt64SS (cutL []) (by kernel_rfl) (by kernel_rfl) k_laws_szInt64SS (by decide) (fun x K => W_laws_szInt64SS x.1 x.2.1 K) w_laws_szInt64SS (fun x h1 h2 => m_laws_szInt64SS x.1 x.2.1 h1 h2)
def c_laws_szCategory : Ct := ⟨[CategoryT, (.int .i64)], [true, false], fun x => [-4611404543450677248 <= x.2.1], [(false, (.fz (.int .i64)))], fun x => (szR (wR CategoryT x.1) x.2.1, ()), false, none⟩
def ph_laws_szCategory : FuncId -> Option Ct := lkp [(43, c_laws_szInt64S), (44, c_laws_szInt64SS)]
def W_laws_szCategory (a : CategoryD) (left : Int) (K : Int × Unit -> Prop) : Prop := (((-4611545280939032576) <= left) /\ (cnd (decide ((szR (wR (.sl (.int .i64)) a.2.1) left) < 0)) (K ((-1), ())) (((-4611545280939032576) <= (szR (wR (.sl (.int .i64)) a.2.1) left)) /\ (cnd (decide ((szR (wR (.sl (.int .i64)) a.2.2.1) (szR (wR (.sl (.int .i64)) a.2.1) left)) < 0)) (K ((-1), ())) (((-4611545280939032576) <= (szR (wR (.sl (.int .i64)) a.2.2.1) (szR (wR (.sl (.int .i64)) a.2.1) left))) /\ (cnd (decide ((szR (wR (.sl (.int .i64)) a.2.2.2.1) (szR (wR (.sl (.int .i64)) a.2.2.1) (szR (wR (.sl (.int .i64)) a.2.1) left))) < 0)) (K ((-1), ())) (((-4611404543450677248) <= (szR (wR (.sl (.int .i64)) a.2.2.2.1) (szR (wR (.sl (.int .i64)) a.2.2.1) (szR (wR (.sl (.int .i64)) a.2.1) left)))) /\ (cnd (decide ((szR (wR (.sl (.sl (.int .i64))) a.2.2.2.2) (szR (wR (.sl (.int .i64)) a.2.2.2.1) (szR (wR (.sl (.int .i64)) a.2.2.1) (szR (wR (.sl (.int .i64)) a.2.1) left)))) < 0)) (K ((-1), ())) (K ((szR (wR (.sl (.sl (.int .i64))) a.2.2.2.2) (szR (wR (.sl (.int .i64)) a.2.2.2.1) (szR (wR (.sl (.int .i64)) a.2.2.1) (szR (wR (.sl (.int .i64)) a.2.1) left)))), ()))))))))))
theorem w_laws_szCategory (x : denL c_laws_szCategory.args) (K : Int × Unit -> Prop) : evF tab ph_laws_szCategory (cutL []) Try.f15 (bodyOf Try.f15) .n c_laws_szCategory x K = W_laws_szCategory x.1 x.2.1 K := by kernel_rfl
theorem k_laws_szCategory : okC Try.f15.ntmps (cutL []) (bodyOf Try.f15) = true := by kernel_rfl
theorem m_laws_szCategory (a : CategoryD) (left : Int) (hok : allP (okL c_laws_szCategory.args (a, left, ()))) (hpre : allP (c_laws_szCategory.pre (a, left, ()))) : W_laws_szCategory a left (fun r => r = c_laws_szCategory.res (a, left, ())) := by
 simp only [c_laws_szCategory, okL, T.oks, T.ok, ap, allP, true_and, and_true, implies_true] at hok hpre
 try dsimp only [T.den] at hok
 try dsimp only [T.den] at hpre
 unfold W_laws_szCategory
 simp only [c_laws_szCategory, wR_p, wR_int, wR_bool, Nat.zero_add, Nat.add_zero]
 grind [cnd, nb_eq, inK64, szR]
theorem ct_laws_szCategory : CtOk Try.prog 15 c_laws_szCategory :=
 ct_by (Φ := ph_laws_szCategory) (good_cons ct_laws_szInt64S (good_cons ct_laws_szInt64SS good_nil)) tab_ok (by kernel_rfl) (fn := Try.f15) (c := bodyOf Try.f15) (by kernel_rfl) (by kernel_rfl) (by kernel_rfl) c_laws_szCategory rfl .n (cutL []) (by kernel_rfl) (by kernel_rfl) k_laws_szCategory (by decide) (fun x K => W_laws_szCategory x.1 x.2.1 K) w_laws_szCategory (fun x h1 h2 => m_laws_szCategory x.1 x.2.1 h1 h2)
def c_laws_toInt64S : Ct := ⟨[(.sl (.int .i64))], [false], fun x => [wR (.sl (.int .i64)) x.1 <= 1099511627776], [(false, (.sl (.fz (.int .i64))))], fun x => (x.1, ()), false, none⟩
def an_laws_toInt64S : Ann := (.s .n (.s .n (.s (.s .n (.l [(3, (.ref 7 [])), (4, (.d (.int .i64)))] [(7, (.sl (.fz (.int .i64))))] [0] .n)) .n)))
def W_laws_toInt64S (a : List Int) (K : (List Int) × Unit -> Prop) : Prop := ((0 <= ((a.length : Nat) : Int)) /\ ((((a.length : Nat) : Int) <= ((a.length : Nat) : Int)) /\ ((((a.length : Nat) : Int) <= ((140737488355328 : Nat) : Int)) /\ (((((a.length : Nat) : Int) * ((8 : Nat) : Int)) <= ((140737488355328 : Nat) : Int)) /\ (loopW (S := ((Unit × (Int × Unit)) × ((List Int) × Unit))) (fun s => (fun next => ((inK .i64 s.1.2.1) -> ((T.ok (.sl (.int .i64)) s.2.1) -> (cnd (decide (s.1.2.1 < ((a.length : Nat) : Int))) ((0 <= s.1.2.1) /\ ((s.1.2.1 < ((a.length : Nat) : Int)) /\ ((0 <= s.1.2.1) /\ ((s.1.2.1 < ((s.2.1.length : Nat) : Int)) /\ ((inK .i64 (s.1.2.1 + 1)) /\ (next (((), ((s.1.2.1 + 1), ())), ((List.set s.2.1 s.1.2.1.toNat (List.getD a s.1.2.1.toNat 0)), ())))))))) (K (s.2.1, ()))))))) (((), (0, ())), ((List.replicate (Int.toNat ((a.length : Nat) : Int)) (0 :Int)), ())))))))
theorem w_laws_toInt64S (x : denL c_laws_toInt64S.args) (K : (List Int) × Unit -> Prop) : evF tab (lkp []) (cutL []) Try.f46 (bodyOf Try.f46) an_laws_toInt64S c_laws_toInt64S x K = W_laws_toInt64S x.1 K := by kernel_rfl
theorem k_laws_toInt64S : okC Try.f46.ntmps (cutL []) (bodyOf Try.f46) = true := by kernel_rfl
theorem m_laws_toInt64S (a : List Int) (hok : allP (okL c_laws_toInt64S.args (a, ()))) (hpre : allP (c_laws_toInt64S.pre (a, ()))) : W_laws_toInt64S a (fun r => r = c_laws_toInt64S.res (a, ())) := by
 simp only [c_laws_toInt64S, okL, T.oks, T.ok, ap, allP, true_and, and_true, implies_true] at hok hpre
 try dsimp only [T.den] at hok
 try dsimp only [T.den] at hpre
 unfold W_laws_toInt64S
 rw [wR_sl] at hpre
 refine ⟨by omega, by omega, by first | omega | (rw [nb_eq]; omega), by first | omega | (rw [nb_eq]; omega), ?_⟩
 refine loop_of (fun (s : ((Unit × (Int × Unit)) × ((List Int) × Unit))) => 0 <= s.1.2.1 /\ s.1.2.1 <= a.length /\ s.2.1.length = a.length /\ s.2.1.take s.1.2.1.toNat = a.take s.1.2.1.toNat) (fun (s : ((Unit × (Int × Unit)) × ((List Int) × Unit))) => (a.length - s.1.2.1).toNat) ?_ (by simp)
 rintro ⟨⟨_, i, _⟩, l, _⟩ next ⟨h0, h1, h2, h3⟩ hn hin hl
 simp only at h0 h1 h2 h3 hn ⊢
 refine cnd_d (fun hc => ?_) (fun hc => ?_)
 ·refine ⟨by omega, by omega, by omega, by omega, by grind [cnd, nb_eq, inK64], hn _ ⟨(by first | omega | (dsimp only; omega)), (by first | omega | (dsimp only; omega)), by simp [h2], ?_⟩ (by first | omega | (dsimp only; omega))⟩
  simp only
  rw [take_c a (0 : Int) h0 hc, ← h3]
  exact take_set l h0 (by omega) _
 ·rw [take_n a (by omega), take_n l (by omega)] at h3
  simp [h3, c_laws_toInt64S]
theorem ct_laws_toInt64S : CtOk Try.prog 46 c_laws_toInt64S :=
 ct_by (Φ := lkp []) good_nil tab_ok (by kernel_rfl) (fn := Try.f46) (c := bodyOf Try.f46) (by kernel_rfl) (by kernel_rfl) (by kernel_rfl) c_laws_toInt64S rfl an_laws_toInt64S (cutL []) (by kernel_rfl) (by kernel_rfl) k_laws_toInt64S (by decide) (fun x K => W_laws_toInt64S x.1 K) w_laws_toInt64S (fun x h1 h2 => m_laws_toInt64S x.1 h1 h2)
def c_laws_toInt64SS : Ct := ⟨[(.sl (.sl (.int .i64)))], [false], fun x => [wR (.sl (.sl (.int .i64))) x.1 <= 1099511627776], [(false, (.sl (.sl (.fz (.int .i64)))))], fun x => (x.1, ()), false, none⟩
def an_laws_toInt64SS : Ann := (.s .n (.s .n (.s (.s .n (.l [(3, (.ref 7 [])), (4, (.d (.int .i64)))] [(7, (.sl (.sl (.fz (.int .i64)))))] [0] .n)) .n)))
def W_laws_toInt64SS (a : List (List Int)) (K : (List (List Int)) × Unit -> Prop) : Prop := ((0 <= ((a.length : Nat) : Int)) /\ ((((a.length : Nat) : Int) <= ((a.length : Nat) : Int)) /\ ((((a.length : Nat) : Int) <= ((140737488355328 : Nat) : Int)) /\ (((((a.length : Nat) : Int) * ((24 : Nat) : Int)) <= ((140737488355328 : Nat) : Int)) /\ (loopW (S := ((Unit × (Int × Unit)) × ((List (List Int)) × Unit))) (fun s => (fun next => ((inK .i64 s.1.2.1) -> ((T.ok (.sl (.sl (.int .i64))) s.2.1) -> (cnd (decide (s.1.2.1 < ((a.length : Nat) : Int))) ((0 <= s.1.2.1) /\ ((s.1.2.1 < ((a.length : Nat) : Int)) /\ (((wR (.sl (.int .i64)) (List.getD a s.1.2.1.toNat [])) <= 1099511627776) /\ ((0 <= s.1.2.1) /\ ((s.1.2.1 < ((s.2.1.length : Nat) : Int)) /\ ((inK .i64 (s.1.2.1 + 1)) /\ (next (((), ((s.1.2.1 + 1), ())), ((List.set s.2.1 s.1.2.1.toNat (List.getD a s.1.2.1.toNat [])), ()))))))))) (K (s.2.1, ()))))))) (((), (0, ())), ((List.replicate (Int.toNat ((a.length : Nat) : Int)) ([] :List Int)), ())))))))
theorem w_laws_toInt64SS (x : denL c_laws_toInt64SS.args) (K : (List (List Int)) × Unit -> Prop) : evF tab (lkp [(46, c_laws_toInt64S)]) (cutL []) Try.f47 (bodyOf Try.f47) an_laws_toInt64SS c_laws_toInt64SS x K = W_laws_toInt64SS x.1 K := by kernel_rfl
theorem k_laws_toInt64SS : okC Try.f47.ntmps (cutL []) (bodyOf Try.f47) = true := by kernel_rfl
theorem m_laws_toInt64SS (a : List (List Int)) (hok : allP (okL c_laws_toInt64SS.args (a, ()))) (hpre : allP (c_laws_toInt64SS.pre (a, ()))) : W_laws_toInt64SS a (fun r => r = c_laws_toInt64SS.res (a, ())) := by
 simp only [c_laws_toInt64SS, okL, T.oks, T.ok, ap, allP, true_and, and_true, implies_true] at hok hpre
 try dsimp only [T.den] at hok
 try dsimp only [T.den] at hpre
 unfold W_laws_toInt64SS
 rw [wR_sl] at hpre
 refine ⟨by omega, by omega, by first | omega | (rw [nb_eq]; omega), by first | omega | (rw [nb_eq]; omega), ?_⟩
 refine loop_of (fun (s : ((Unit × (Int × Unit)) × ((List (List Int)) × Unit))) => 0 <= s.1.2.1 /\ s.1.2.1 <= a.length /\ s.2.1.length = a.length /\ s.2.1.take s.1.2.1.toNat = a.take s.1.2.1.toNat) (fun (s : ((Unit × (Int × Unit)) × ((List (List Int)) × Unit))) => (a.length - s.1.2.1).toNat) ?_ (by simp)
 rintro ⟨⟨_, i, _⟩, l, _⟩ next ⟨h0, h1, h2, h3⟩ hn hin hl
 simp only at h0 h1 h2 h3 hn ⊢
 refine cnd_d (fun hc => ?_) (fun hc => ?_)
 ·have hm := wR_mem (e := (.sl (.int .i64))) (getD_mem a ([] : List Int) h0 hc)
  refine ⟨by omega, by omega, by omega, by omega, by omega, by grind [cnd, nb_eq, inK64], hn _ ⟨(by first | omega | (dsimp only; omega)), (by first | omega | (dsimp only; omega)), by simp [h2], ?_⟩ (by first | omega | (dsimp only; omega))⟩
  simp only
  rw [take_c a ([] : List Int) h0 hc, ← h3]
  exact take_set l h0 (by omega) _
 ·rw [take_n a (by omega), take_n l (by omega)] at h3
  simp [h3, c_laws_toInt64SS]
theorem ct_laws_toInt64SS : CtOk Try.prog 47 c_laws_toInt64SS :=
 ct_by (Φ := lkp [(46, c_laws_toInt64S)]) (good_cons ct_laws_toInt64S good_nil) tab_ok (by kernel_rfl) (fn := Try.f47) (c := bodyOf Try.f47) (by kernel_rfl) (by kernel_rfl) (by kernel_rfl) c_laws_toInt64SS rfl an_laws_toInt64SS (cutL []) (by kernel_rfl) (by kernel_rfl) k_laws_toInt64SS (by decide) (fun x K => W_laws_toInt64SS x.1 K) w_laws_toInt64SS (fun x h1 h2 => m_laws_toInt64SS x.1 h1 h2)
def c_laws_toCategory : Ct := ⟨[CategoryT], [true], fun x => [wR CategoryT x.1 <= 1099511627776], [(true, CategoryO)], fun x => (x.1, ()), false, none⟩
def ph_laws_toCategory : FuncId -> Option Ct := lkp [(46, c_laws_toInt64S), (47, c_laws_toInt64SS)]
def W_laws_toCategory (a : CategoryD) (K : CategoryD × Unit -> Prop) : Prop := (((wR (.sl (.int .i64)) a.2.1) <= 1099511627776) /\ (((wR (.sl (.int .i64)) a.2.2.1) <= 1099511627776) /\ (((wR (.sl (.int .i64)) a.2.2.2.1) <= 1099511627776) /\ (((wR (.sl (.sl (.int .i64))) a.2.2.2.2) <= 1099511627776) /\ (K (a, ()))))))
theorem w_laws_toCategory (x : denL c_laws_toCategory.args) (K : CategoryD × Unit -> Prop) : evF tab ph_laws_toCategory (cutL []) Try.f17 (bodyOf Try.f17) .n c_laws_toCategory x K = W_laws_toCategory x.1 K := by kernel_rfl
theorem k_laws_toCategory : okC Try.f17.ntmps (cutL []) (bodyOf Try.f17) = true := by kernel_rfl
theorem m_laws_toCategory (a : CategoryD) (hok : allP (okL c_laws_toCategory.args (a, ()))) (hpre : allP (c_laws_toCategory.pre (a, ()))) : W_laws_toCategory a (fun r => r = c_laws_toCategory.res (a, ())) := by
 simp only [c_laws_toCategory, okL, T.oks, T.ok, ap, allP, true_and, and_true, implies_true] at hok hpre
 try dsimp only [T.den] at hok
 try dsimp only [T.den] at hpre
 unfold W_laws_toCategory
 simp only [wR_p, wR_int, wR_bool] at hpre
 repeat' apply And.intro
 all_goals first | rfl | ((try simp only [wR_p, wR_int, wR_bool]); omega)
theorem ct_laws_toCategory : CtOk Try.prog 17 c_laws_toCategory :=
 ct_by (Φ := ph_laws_toCategory) (good_cons ct_laws_toInt64S (good_cons ct_laws_toInt64SS good_nil)) tab_ok (by kernel_rfl) (fn := Try.f17) (c := bodyOf Try.f17) (by kernel_rfl) (by kernel_rfl) (by kernel_rfl) c_laws_toCategory rfl .n (cutL []) (by kernel_rfl) (by kernel_rfl) k_laws_toCategory (by decide) (fun x K => W_laws_toCategory x.1 K) w_laws_toCategory (fun x h1 h2 => m_laws_toCategory x.1 h1 h2)
def c_spec_l01In : Ct := ⟨[(.int .i64), (.int .i64), (.int .i64)], [false, false, false], fun x => [], [(false, (.fz .bool))], fun x => (inR x.1 x.2.1 x.2.2.1, ()), false, none⟩
def W_spec_l01In (n : Int) (low : Int) (high : Int) (K : Bool × Unit -> Prop) : Prop := (K (((decide (low <= n)) && (decide (n <= high))), ()))
theorem w_spec_l01In (x : denL c_spec_l01In.args) (K : Bool × Unit -> Prop) : evF tab (lkp []) (cutL []) Try.f91 (bodyOf Try.f91) .n c_spec_l01In x K = W_spec_l01In x.1 x.2.1 x.2.2.1 K := by kernel_rfl
theorem k_spec_l01In : okC Try.f91.ntmps (cutL []) (bodyOf Try.f91) = true := by kernel_rfl
theorem m_spec_l01In (n : Int) (low : Int) (high : Int) (hok : allP (okL c_spec_l01In.args (n, low, high, ()))) (hpre : allP (c_spec_l01In.pre (n, low, high, ()))) : W_spec_l01In n low high (fun r => r = c_spec_l01In.res (n, low, high, ())) := by
 simp only [c_spec_l01In, okL, T.oks, T.ok, ap, allP, true_and, and_true, implies_true] at hok hpre
 try dsimp only [T.den] at hok
 try dsimp only [T.den] at hpre
 unfold W_spec_l01In
 grind [cnd, nb_eq, inK64, c_spec_l01In, inR]
theorem ct_spec_l01In : CtOk Try.prog 91 c_spec_l01In :=
 ct_by (Φ := lkp []) good_nil tab_ok (by kernel_rfl) (fn := Try.f91) (c := bodyOf Try.f91) (by kernel_rfl) (by kernel_rfl) (by kernel_rfl) c_spec_l01In rfl .n (cutL []) (by kernel_rfl) (by kernel_rfl) k_spec_l01In (by decide) (fun x K => W_spec_l01In x.1 x.2.1 x.2.2.1 K) w_spec_l01In (fun x h1 h2 => m_spec_l01In x.1 x.2.1 x.2.2.1 h1 h2)
def c_spec_l01Map : Ct := ⟨[(.int .i64), (.sl (.int .i64))], [false, false], fun x => [], [(false, (.fz .bool))], fun x => (withinR x.2.1 x.1, ()), false, none⟩
def an_spec_l01Map : Ann := (.s .n (.s (.s .n (.l [(5, (.d (.int .i64)))] [] [0, 1] .n)) .n))
def W_spec_l01Map (n : Int) (f : List Int) (K : Bool × Unit -> Prop) : Prop := (loopW (S := ((Int × Unit) × Unit)) (fun s => (fun next => ((inK .i64 s.1.1) -> (cnd (decide (s.1.1 < ((f.length : Nat) : Int))) ((0 <= s.1.1) /\ ((s.1.1 < ((f.length : Nat) : Int)) /\ ((((decide ((List.getD f s.1.1.toNat 0) < 0)) = false) -> ((s.1.1 < ((f.length : Nat) : Int)) /\ (0 <= s.1.1))) /\ (cnd ((decide ((List.getD f s.1.1.toNat 0) < 0)) || (decide (n <= (List.getD f s.1.1.toNat 0)))) (K (false, ())) ((inK .i64 (s.1.1 + 1)) /\ (next (((s.1.1 + 1), ()), ()))))))) (K (true, ())))))) ((0, ()), ()))
theorem w_spec_l01Map (x : denL c_spec_l01Map.args) (K : Bool × Unit -> Prop) : evF tab (lkp []) (cutL []) Try.f42 (bodyOf Try.f42) an_spec_l01Map c_spec_l01Map x K = W_spec_l01Map x.1 x.2.1 K := by kernel_rfl
theorem k_spec_l01Map : okC Try.f42.ntmps (cutL []) (bodyOf Try.f42) = true := by kernel_rfl
theorem m_spec_l01Map (n : Int) (f : List Int) (hok : allP (okL c_spec_l01Map.args (n, f, ()))) (hpre : allP (c_spec_l01Map.pre (n, f, ()))) : W_spec_l01Map n f (fun r => r = c_spec_l01Map.res (n, f, ())) := by
 simp only [c_spec_l01Map, okL, T.oks, T.ok, ap, allP, true_and, and_true, implies_true] at hok hpre
 try dsimp only [T.den] at hok
 try dsimp only [T.den] at hpre
 unfold W_spec_l01Map
 refine loop_of (fun (s : ((Int × Unit) × Unit)) => 0 <= s.1.1 /\ s.1.1 <= f.length /\ withinR f n = withinR (f.drop s.1.1.toNat) n) (fun (s : ((Int × Unit) × Unit)) => (f.length - s.1.1).toNat) ?_ (by simp)
 rintro ⟨⟨i, _⟩, _⟩ next ⟨h0, h1, h2⟩ hn hin
 simp only at h0 h1 h2 hn ⊢
 refine cnd_d (fun hc => ?_) (fun hc => ?_)
 ·rw [drop_c f 0 h0 hc] at h2
  simp only [withinR, List.all_cons] at h2
  grind [cnd, nb_eq, inK64, c_spec_l01Map, withinR, inR]
 ·rw [drop_n f (by omega)] at h2
  grind [cnd, nb_eq, inK64, c_spec_l01Map, withinR]
theorem ct_spec_l01Map : CtOk Try.prog 42 c_spec_l01Map :=
 ct_by (Φ := lkp []) good_nil tab_ok (by kernel_rfl) (fn := Try.f42) (c := bodyOf Try.f42) (by kernel_rfl) (by kernel_rfl) (by kernel_rfl) c_spec_l01Map rfl an_spec_l01Map (cutL []) (by kernel_rfl) (by kernel_rfl) k_spec_l01Map (by decide) (fun x K => W_spec_l01Map x.1 x.2.1 K) w_spec_l01Map (fun x h1 h2 => m_spec_l01Map x.1 x.2.1 h1 h2)
def c_spec_l02Ends : Ct := ⟨[(.sl (.int .i64)), (.int .i64), (.int .i64)], [false, false, false], fun x => [], [(false, (.fz .bool))], fun x => ((decide ((x.1.length : Int) = x.2.1) && withinR x.1 x.2.2.1), ()), false, none⟩
def W_spec_l02Ends (list : List Int) (length : Int) (objects : Int) (K : Bool × Unit -> Prop) : Prop := (K (((((list.length : Nat) : Int) == length) && (withinR list objects)), ()))
theorem w_spec_l02Ends (x : denL c_spec_l02Ends.args) (K : Bool × Unit -> Prop) : evF tab (lkp [(42, c_spec_l01Map)]) (cutL []) Try.f135 (bodyOf Try.f135) .n c_spec_l02Ends x K = W_spec_l02Ends x.1 x.2.1 x.2.2.1 K := by kernel_rfl
theorem k_spec_l02Ends : okC Try.f135.ntmps (cutL []) (bodyOf Try.f135) = true := by kernel_rfl
theorem m_spec_l02Ends (list : List Int) (length : Int) (objects : Int) (hok : allP (okL c_spec_l02Ends.args (list, length, objects, ()))) (hpre : allP (c_spec_l02Ends.pre (list, length, objects, ()))) : W_spec_l02Ends list length objects (fun r => r = c_spec_l02Ends.res (list, length, objects, ())) := by
 simp only [c_spec_l02Ends, okL, T.oks, T.ok, ap, allP, true_and, and_true, implies_true] at hok hpre
 try dsimp only [T.den] at hok
 try dsimp only [T.den] at hpre
 unfold W_spec_l02Ends
 have : ((list.length : Int) == length) = decide ((list.length : Int) = length) := rfl
 simp only [c_spec_l02Ends, this]
theorem ct_spec_l02Ends : CtOk Try.prog 135 c_spec_l02Ends :=
 ct_by (Φ := lkp [(42, c_spec_l01Map)]) (good_cons ct_spec_l01Map good_nil) tab_ok (by kernel_rfl) (fn := Try.f135) (c := bodyOf Try.f135) (by kernel_rfl) (by kernel_rfl) (by kernel_rfl) c_spec_l02Ends rfl .n (cutL []) (by kernel_rfl) (by kernel_rfl) k_spec_l02Ends (by decide) (fun x K => W_spec_l02Ends x.1 x.2.1 x.2.2.1 K) w_spec_l02Ends (fun x h1 h2 => m_spec_l02Ends x.1 x.2.1 x.2.2.1 h1 h2)
def c_spec_IsShape : Ct := ⟨[CategoryT], [true], fun x => [], [(false, (.fz .bool))], fun x => (shapeR x.1, ()), false, none⟩
def an_spec_IsShape : Ann := (.s .n (.s .n (.s .n (.s .n (.s (.s .n (.l [(4, (.d (.int .i64)))] [] [1, 3] .n)) (.s (.s .n (.l [(5, (.d (.int .i64)))] [] [1, 3] (.s .n (.s (.s .n (.s .n (.l [(6, (.d (.int .i64)))] [] [1, 3, 5] (.s .n (.s (.j [] [] [1, 3, 5, 6] .n) .n))))) .n)))) .n))))))
def ph_spec_IsShape : FuncId -> Option Ct := lkp [(91, c_spec_l01In), (42, c_spec_l01Map), (135, c_spec_l02Ends)]
def W_spec_IsShape (c : CategoryD) (K : Bool × Unit -> Prop) : Prop := (cnd (((((!(inR c.1 0 8)) || (decide (40 < ((c.2.1.length : Nat) : Int)))) || (!((decide (((c.2.1.length : Nat) : Int) = ((c.2.1.length : Nat) : Int))) && (withinR c.2.1 c.1)))) || (!((decide (((c.2.2.1.length : Nat) : Int) = ((c.2.1.length : Nat) : Int))) && (withinR c.2.2.1 c.1)))) || (((c.2.2.2.2.length : Nat) : Int) != ((c.2.1.length : Nat) : Int))) (K (false, ())) (cnd ((((c.2.2.2.1.length : Nat) : Int) != c.1) || (!(withinR c.2.2.2.1 ((c.2.1.length : Nat) : Int)))) (K (false, ())) (loopW (S := ((Int × Unit) × Unit)) (fun s => (fun next => ((inK .i64 s.1.1) -> (cnd (decide (s.1.1 < c.1)) ((0 <= s.1.1) /\ ((s.1.1 < ((c.2.2.2.1.length : Nat) : Int)) /\ ((0 <= (List.getD c.2.2.2.1 s.1.1.toNat 0)) /\ (((List.getD c.2.2.2.1 s.1.1.toNat 0) < ((c.2.1.length : Nat) : Int)) /\ (((((List.getD c.2.1 (Int.toNat (List.getD c.2.2.2.1 s.1.1.toNat 0)) 0) != s.1.1) = false) -> ((s.1.1 < ((c.2.2.2.1.length : Nat) : Int)) /\ (0 <= s.1.1))) /\ (((((List.getD c.2.1 (Int.toNat (List.getD c.2.2.2.1 s.1.1.toNat 0)) 0) != s.1.1) = false) -> (((List.getD c.2.2.2.1 s.1.1.toNat 0) < ((c.2.2.1.length : Nat) : Int)) /\ (0 <= (List.getD c.2.2.2.1 s.1.1.toNat 0)))) /\ (cnd (((List.getD c.2.1 (Int.toNat (List.getD c.2.2.2.1 s.1.1.toNat 0)) 0) != s.1.1) || ((List.getD c.2.2.1 (Int.toNat (List.getD c.2.2.2.1 s.1.1.toNat 0)) 0) != s.1.1)) (K (false, ())) ((inK .i64 (s.1.1 + 1)) /\ (next (((s.1.1 + 1), ()), ())))))))))) (loopW (S := ((Int × Unit) × Unit)) (fun s1 => (fun next1 => ((inK .i64 s1.1.1) -> (cnd (decide (s1.1.1 < ((c.2.1.length : Nat) : Int))) ((0 <= s1.1.1) /\ ((s1.1.1 < ((c.2.2.2.2.length : Nat) : Int)) /\ (cnd ((((List.length (List.getD c.2.2.2.2 s1.1.1.toNat [])) : Nat) : Int) != ((c.2.1.length : Nat) : Int)) (K (false, ())) (loopW (S := ((Int × Unit) × Unit)) (fun s2 => (fun next2 => ((inK .i64 s2.1.1) -> (cnd (decide (s2.1.1 < ((c.2.1.length : Nat) : Int))) (joinW (S := (Unit × Unit)) (fun s3 => ((inK .i64 (s2.1.1 + 1)) /\ (next2 (((s2.1.1 + 1), ()), ())))) (fun k => ((0 <= s1.1.1) /\ ((s1.1.1 < ((c.2.2.2.2.length : Nat) : Int)) /\ ((0 <= s2.1.1) /\ ((s2.1.1 < (((List.length (List.getD c.2.2.2.2 s1.1.1.toNat [])) : Nat) : Int)) /\ ((0 <= s1.1.1) /\ ((s1.1.1 < ((c.2.2.1.length : Nat) : Int)) /\ ((0 <= s2.1.1) /\ ((s2.1.1 < ((c.2.1.length : Nat) : Int)) /\ (cnd ((List.getD c.2.2.1 s1.1.1.toNat 0) != (List.getD c.2.1 s2.1.1.toNat 0)) (cnd ((List.getD (List.getD c.2.2.2.2 s1.1.1.toNat []) s2.1.1.toNat 0) != (-1)) (K (false, ())) (k ((), ()))) (((((decide ((List.getD (List.getD c.2.2.2.2 s1.1.1.toNat []) s2.1.1.toNat 0) < 0)) || (decide (((c.2.1.length : Nat) : Int) <= (List.getD (List.getD c.2.2.2.2 s1.1.1.toNat []) s2.1.1.toNat 0)))) = false) -> (((List.getD (List.getD c.2.2.2.2 s1.1.1.toNat []) s2.1.1.toNat 0) < ((c.2.1.length : Nat) : Int)) /\ (0 <= (List.getD (List.getD c.2.2.2.2 s1.1.1.toNat []) s2.1.1.toNat 0)))) /\ (((((decide ((List.getD (List.getD c.2.2.2.2 s1.1.1.toNat []) s2.1.1.toNat 0) < 0)) || (decide (((c.2.1.length : Nat) : Int) <= (List.getD (List.getD c.2.2.2.2 s1.1.1.toNat []) s2.1.1.toNat 0)))) = false) -> ((s1.1.1 < ((c.2.1.length : Nat) : Int)) /\ (0 <= s1.1.1))) /\ ((((((decide ((List.getD (List.getD c.2.2.2.2 s1.1.1.toNat []) s2.1.1.toNat 0) < 0)) || (decide (((c.2.1.length : Nat) : Int) <= (List.getD (List.getD c.2.2.2.2 s1.1.1.toNat []) s2.1.1.toNat 0)))) || ((List.getD c.2.1 (Int.toNat (List.getD (List.getD c.2.2.2.2 s1.1.1.toNat []) s2.1.1.toNat 0)) 0) != (List.getD c.2.1 s1.1.1.toNat 0))) = false) -> (((List.getD (List.getD c.2.2.2.2 s1.1.1.toNat []) s2.1.1.toNat 0) < ((c.2.2.1.length : Nat) : Int)) /\ (0 <= (List.getD (List.getD c.2.2.2.2 s1.1.1.toNat []) s2.1.1.toNat 0)))) /\ ((((((decide ((List.getD (List.getD c.2.2.2.2 s1.1.1.toNat []) s2.1.1.toNat 0) < 0)) || (decide (((c.2.1.length : Nat) : Int) <= (List.getD (List.getD c.2.2.2.2 s1.1.1.toNat []) s2.1.1.toNat 0)))) || ((List.getD c.2.1 (Int.toNat (List.getD (List.getD c.2.2.2.2 s1.1.1.toNat []) s2.1.1.toNat 0)) 0) != (List.getD c.2.1 s1.1.1.toNat 0))) = false) -> ((s2.1.1 < ((c.2.2.1.length : Nat) : Int)) /\ (0 <= s2.1.1))) /\ (cnd ((((decide ((List.getD (List.getD c.2.2.2.2 s1.1.1.toNat []) s2.1.1.toNat 0) < 0)) || (decide (((c.2.1.length : Nat) : Int) <= (List.getD (List.getD c.2.2.2.2 s1.1.1.toNat []) s2.1.1.toNat 0)))) || ((List.getD c.2.1 (Int.toNat (List.getD (List.getD c.2.2.2.2 s1.1.1.toNat []) s2.1.1.toNat 0)) 0) != (List.getD c.2.1 s1.1.1.toNat 0))) || ((List.getD c.2.2.1 (Int.toNat (List.getD (List.getD c.2.2.2.2 s1.1.1.toNat []) s2.1.1.toNat 0)) 0) != (List.getD c.2.2.1 s2.1.1.toNat 0))) (K (false, ())) (k ((), ())))))))))))))))))) ((inK .i64 (s1.1.1 + 1)) /\ (next1 (((s1.1.1 + 1), ()), ()))))))) ((0, ()), ()))))) (K (true, ())))))) ((0, ()), ())))))) ((0, ()), ()))))
theorem w_spec_IsShape (x : denL c_spec_IsShape.args) (K : Bool × Unit -> Prop) : evF tab ph_spec_IsShape (cutL [(20, 11), (23, 33), (9, 24)]) Try.f114 (bodyOf Try.f114) an_spec_IsShape c_spec_IsShape x K = W_spec_IsShape x.1 K := by kernel_rfl
theorem k_spec_IsShape : okC Try.f114.ntmps (cutL [(20, 11), (23, 33), (9, 24)]) (bodyOf Try.f114) = true := by kernel_rfl
theorem m_spec_IsShape (c : CategoryD) (hok : allP (okL c_spec_IsShape.args (c, ()))) (hpre : allP (c_spec_IsShape.pre (c, ()))) : W_spec_IsShape c (fun r => r = c_spec_IsShape.res (c, ())) := by
 simp only [c_spec_IsShape, okL, T.oks, T.ok, ap, allP, true_and, and_true, implies_true] at hok hpre
 try dsimp only [T.den] at hok
 try dsimp only [T.den] at hpre
 unfold W_spec_IsShape
 have bad : ¬ ShapeP c -> (false, ()) = c_spec_IsShape.res (c, ()) := fun h => by simp only [c_spec_IsShape]; rw [shape_f h]
 refine cnd_of (fun hc => bad fun h => ?_) (fun hc => cnd_of (fun hd => bad fun h => ?_) (fun hd => ?_))
 ·have h1 := h.ob; have h2 := h.m; have h3 := h.lt; have h4 := h.fr; have h5 := h.to; have h6 := h.lc; simp only [inR] at hc; grind [cnd, nb_eq, inK64]
 ·have h1 := h.li; have h2 := h.ids; grind [cnd, nb_eq, inK64]
 simp only [inR, Bool.or_eq_false_iff, Bool.not_eq_false', Bool.and_eq_true, decide_eq_true_eq, decide_eq_false_iff_not, bne_eq_false_iff_eq] at hc hd
 obtain ⟨⟨⟨⟨hob, hm⟩, _, hfr⟩, hlt, hto⟩, hlc⟩ := hc
 obtain ⟨hli, hids⟩ := hd
 refine loop_ix (n := c.1) (fun x => ∀ y : Int, 0 <= y -> y < x -> c.2.1.getD (c.2.2.2.1.getD y.toNat 0).toNat 0 = y /\ c.2.2.1.getD (c.2.2.2.1.getD y.toNat 0).toNat 0 = y) (by omega) (by intro y h0 h1; omega) ?_ ?_
 ·intro x next h0 h1 hP hn hin
  have hb := within_iff.1 hids x h0 (by omega)
  try dsimp only
  refine cnd_d (fun _ => ⟨h0, by omega, hb.1, hb.2, fun _ => by omega, fun _ => by omega, cnd_of (fun hx => bad fun h => ?_) (fun hx => ?_)⟩) (fun h => absurd h1 h)
  ·have := h.idt x h0 (by omega)
   rw [this.1, this.2] at hx
   simp at hx
  ·simp only [Bool.or_eq_false_iff, bne_eq_false_iff_eq] at hx
   refine ⟨by rw [inK64]; (try dsimp only); omega, hn fun y y0 y1 => ?_⟩
   by_cases e : y = x
   ·rw [e]; exact hx
   ·exact hP y y0 (by omega)
 intro next hidt hin
 refine cnd_d (fun h => absurd h (by dsimp only; omega)) (fun _ => ?_)
 refine loop_ix (n := c.2.1.length) (fun f => ∀ f' : Int, 0 <= f' -> f' < f -> (c.2.2.2.2.getD f'.toNat []).length = c.2.1.length /\ ∀ g : Int, 0 <= g -> g < c.2.1.length -> cellR c f' g = true) (by omega) (by intro y h0 h1; omega) ?_ ?_
 ·intro f next h0 h1 hP hn hin
  try dsimp only
  refine cnd_d (fun _ => ⟨h0, by omega, cnd_of (fun hx => bad fun h => ?_) (fun hx => ?_)⟩) (fun h => absurd h1 h)
  ·have := h.row f h0 (by omega)
   rw [this] at hx
   simp at hx
  simp only [bne_eq_false_iff_eq] at hx
  refine loop_ix (n := c.2.1.length) (fun g => ∀ g' : Int, 0 <= g' -> g' < g -> cellR c f g' = true) (by omega) (by intro y h0 h1; omega) ?_ ?_
  ·intro g next3 g0 g1 hP3 hn3 hin3
   try dsimp only
   refine cnd_d (fun _ => ?_) (fun h => absurd g1 h)
   refine join_of (fun _ => cellR c f g = true) (fun _ hcell => ⟨by rw [inK64]; (try dsimp only); omega, hn3 fun g' y0 y1 => ?_⟩) (fun k hk => ?_)
   ·by_cases e : g' = g
    ·rw [e]; exact hcell
    ·exact hP3 g' y0 (by omega)
   have hcell : ∀ b, cellR c f g = b -> b = false -> ¬ ShapeP c := fun b h1 h2 h => by
    have := h.cell f g h0 (by omega) g0 (by omega)
    rw [h1, h2] at this; cases this
   have hk' := hk ((), ())
   obtain ⟨v, hv⟩ : ∃ v, (c.2.2.2.2.getD f.toNat []).getD g.toNat 0 = v := ⟨_, rfl⟩
   have hR : cellR c f g = cellQ c f g v := by unfold cellR compR; rw [hv]
   rw [hR] at hk'
   rw [hR] at hcell
   rw [hv]
   clear hP3 hn3 hP hn hk hR hv hidt hok
   refine ⟨h0, by omega, g0, by omega, h0, by omega, g0, by omega, cnd_of (fun ha => cnd_of (fun hb => bad ?_) (fun hb => hk' ?_)) (fun ha => ⟨fun hv => ?_, fun _ => ⟨by omega, h0⟩, fun hv => ?_, fun _ => ⟨by omega, g0⟩, cnd_of (fun hb => bad ?_) (fun hb => hk' ?_)⟩)⟩
   ·exact hcell _ rfl (by grind [cnd, nb_eq, inK64, cellQ])
   ·grind [cnd, nb_eq, inK64, cellQ]
   ·simp only [Bool.or_eq_false_iff, decide_eq_false_iff_not] at hv; omega
   ·simp only [Bool.or_eq_false_iff, decide_eq_false_iff_not] at hv; omega
   ·exact hcell _ rfl (by grind [cnd, nb_eq, inK64, cellQ])
   ·grind [cnd, nb_eq, inK64, cellQ]
  ·intro next3 hP3 hin3
   refine cnd_d (fun h => absurd h (by dsimp only; omega)) (fun _ => ⟨by rw [inK64]; (try dsimp only); omega, hn fun f' y0 y1 => ?_⟩)
   by_cases e : f' = f
   ·rw [e]; exact ⟨by omega, fun g g0 g1 => hP3 g g0 (by omega)⟩
   ·exact hP f' y0 (by omega)
 ·intro next2 hP2 hin2
  refine cnd_d (fun h => absurd h (by dsimp only; omega)) (fun _ => ?_)
  simp only [c_spec_IsShape]
  rw [shape_t ⟨hob, by omega, by omega, hfr, hto, by omega, hids, by omega, fun x a b => hidt x a (by omega), fun f a b => (hP2 f a (by omega)).1, fun f g a b d e => (hP2 f a (by omega)).2 g d e⟩]
theorem ct_spec_IsShape : CtOk Try.prog 114 c_spec_IsShape :=
 ct_by (Φ := ph_spec_IsShape) (good_cons ct_spec_l01In (good_cons ct_spec_l01Map (good_cons ct_spec_l02Ends good_nil))) tab_ok (by kernel_rfl) (fn := Try.f114) (c := bodyOf Try.f114) (by kernel_rfl) (by kernel_rfl) (by kernel_rfl) c_spec_IsShape rfl an_spec_IsShape (cutL [(20, 11), (23, 33), (9, 24)]) (by kernel_rfl) (by kernel_rfl) k_spec_IsShape (by decide) (fun x K => W_spec_IsShape x.1 K) w_spec_IsShape (fun x h1 h2 => m_spec_IsShape x.1 h1 h2)
def c_spec_l02Fault : Ct := ⟨[CategoryT], [true], fun x => [ShapeP x.1], [(false, (.fz (.int .i64))), (false, (.fz (.int .i64))), (false, (.fz (.int .i64))), (false, (.fz (.int .i64)))], fun x => ((faultR x.1).1, (faultR x.1).2.1, (faultR x.1).2.2.1, (faultR x.1).2.2.2, ()), false, none⟩
def an_spec_l02Fault : Ann := (.s .n (.s .n (.s (.s .n (.l [(7, (.d (.int .i64)))] [] [1, 6] .n)) (.s (.s .n (.l [(8, (.d (.int .i64)))] [] [1, 6] (.s .n (.s (.s .n (.l [(9, (.d (.int .i64)))] [] [1, 6, 8] (.s .n (.s (.j [] [] [1, 6, 8, 9] (.s .n (.s .n (.l [(10, (.d (.int .i64)))] [] [1, 6, 8, 9] .n)))) .n)))) .n)))) .n))))
def W_spec_l02Fault (c : CategoryD) (K : Int × Int × Int × Int × Unit -> Prop) : Prop := (loopW (S := ((Int × Unit) × Unit)) (fun s => (fun next => ((inK .i64 s.1.1) -> (cnd (decide (s.1.1 < ((c.2.1.length : Nat) : Int))) ((0 <= s.1.1) /\ ((s.1.1 < ((c.2.1.length : Nat) : Int)) /\ ((0 <= (List.getD c.2.1 s.1.1.toNat 0)) /\ (((List.getD c.2.1 s.1.1.toNat 0) < ((c.2.2.2.1.length : Nat) : Int)) /\ ((0 <= (List.getD c.2.2.2.1 (Int.toNat (List.getD c.2.1 s.1.1.toNat 0)) 0)) /\ (((List.getD c.2.2.2.1 (Int.toNat (List.getD c.2.1 s.1.1.toNat 0)) 0) < ((c.2.2.2.2.length : Nat) : Int)) /\ ((0 <= s.1.1) /\ ((s.1.1 < (((List.length (List.getD c.2.2.2.2 (Int.toNat (List.getD c.2.2.2.1 (Int.toNat (List.getD c.2.1 s.1.1.toNat 0)) 0)) [])) : Nat) : Int)) /\ (((((List.getD (List.getD c.2.2.2.2 (Int.toNat (List.getD c.2.2.2.1 (Int.toNat (List.getD c.2.1 s.1.1.toNat 0)) 0)) []) s.1.1.toNat 0) != s.1.1) = false) -> ((s.1.1 < ((c.2.2.2.2.length : Nat) : Int)) /\ (0 <= s.1.1))) /\ (((((List.getD (List.getD c.2.2.2.2 (Int.toNat (List.getD c.2.2.2.1 (Int.toNat (List.getD c.2.1 s.1.1.toNat 0)) 0)) []) s.1.1.toNat 0) != s.1.1) = false) -> ((s.1.1 < ((c.2.2.1.length : Nat) : Int)) /\ (0 <= s.1.1))) /\ (((((List.getD (List.getD c.2.2.2.2 (Int.toNat (List.getD c.2.2.2.1 (Int.toNat (List.getD c.2.1 s.1.1.toNat 0)) 0)) []) s.1.1.toNat 0) != s.1.1) = false) -> (((List.getD c.2.2.1 s.1.1.toNat 0) < ((c.2.2.2.1.length : Nat) : Int)) /\ (0 <= (List.getD c.2.2.1 s.1.1.toNat 0)))) /\ (((((List.getD (List.getD c.2.2.2.2 (Int.toNat (List.getD c.2.2.2.1 (Int.toNat (List.getD c.2.1 s.1.1.toNat 0)) 0)) []) s.1.1.toNat 0) != s.1.1) = false) -> (((List.getD c.2.2.2.1 (Int.toNat (List.getD c.2.2.1 s.1.1.toNat 0)) 0) < (((List.length (List.getD c.2.2.2.2 s.1.1.toNat [])) : Nat) : Int)) /\ (0 <= (List.getD c.2.2.2.1 (Int.toNat (List.getD c.2.2.1 s.1.1.toNat 0)) 0)))) /\ (cnd (((List.getD (List.getD c.2.2.2.2 (Int.toNat (List.getD c.2.2.2.1 (Int.toNat (List.getD c.2.1 s.1.1.toNat 0)) 0)) []) s.1.1.toNat 0) != s.1.1) || ((List.getD (List.getD c.2.2.2.2 s.1.1.toNat []) (Int.toNat (List.getD c.2.2.2.1 (Int.toNat (List.getD c.2.2.1 s.1.1.toNat 0)) 0)) 0) != s.1.1)) (K (1, (s.1.1, (0, (0, ()))))) ((inK .i64 (s.1.1 + 1)) /\ (next (((s.1.1 + 1), ()), ())))))))))))))))) (loopW (S := ((Int × Unit) × Unit)) (fun s1 => (fun next1 => ((inK .i64 s1.1.1) -> (cnd (decide (s1.1.1 < ((c.2.1.length : Nat) : Int))) (loopW (S := ((Int × Unit) × Unit)) (fun s2 => (fun next2 => ((inK .i64 s2.1.1) -> (cnd (decide (s2.1.1 < ((c.2.1.length : Nat) : Int))) (joinW (S := (Unit × Unit)) (fun s3 => ((inK .i64 (s2.1.1 + 1)) /\ (next2 (((s2.1.1 + 1), ()), ())))) (fun k => ((0 <= s1.1.1) /\ ((s1.1.1 < ((c.2.2.1.length : Nat) : Int)) /\ ((0 <= s2.1.1) /\ ((s2.1.1 < ((c.2.1.length : Nat) : Int)) /\ (cnd ((List.getD c.2.2.1 s1.1.1.toNat 0) != (List.getD c.2.1 s2.1.1.toNat 0)) (k ((), ())) (loopW (S := ((Int × Unit) × Unit)) (fun s3 => (fun next3 => ((inK .i64 s3.1.1) -> (cnd (decide (s3.1.1 < ((c.2.1.length : Nat) : Int))) ((0 <= s2.1.1) /\ ((s2.1.1 < ((c.2.2.1.length : Nat) : Int)) /\ ((0 <= s3.1.1) /\ ((s3.1.1 < ((c.2.1.length : Nat) : Int)) /\ (((((List.getD c.2.2.1 s2.1.1.toNat 0) == (List.getD c.2.1 s3.1.1.toNat 0)) = true) -> ((s1.1.1 < ((c.2.2.2.2.length : Nat) : Int)) /\ (0 <= s1.1.1))) /\ (((((List.getD c.2.2.1 s2.1.1.toNat 0) == (List.getD c.2.1 s3.1.1.toNat 0)) = true) -> ((s2.1.1 < (((List.length (List.getD c.2.2.2.2 s1.1.1.toNat [])) : Nat) : Int)) /\ (0 <= s2.1.1))) /\ (((((List.getD c.2.2.1 s2.1.1.toNat 0) == (List.getD c.2.1 s3.1.1.toNat 0)) = true) -> (((List.getD (List.getD c.2.2.2.2 s1.1.1.toNat []) s2.1.1.toNat 0) < ((c.2.2.2.2.length : Nat) : Int)) /\ (0 <= (List.getD (List.getD c.2.2.2.2 s1.1.1.toNat []) s2.1.1.toNat 0)))) /\ (((((List.getD c.2.2.1 s2.1.1.toNat 0) == (List.getD c.2.1 s3.1.1.toNat 0)) = true) -> ((s3.1.1 < (((List.length (List.getD c.2.2.2.2 (Int.toNat (List.getD (List.getD c.2.2.2.2 s1.1.1.toNat []) s2.1.1.toNat 0)) [])) : Nat) : Int)) /\ (0 <= s3.1.1))) /\ (((((List.getD c.2.2.1 s2.1.1.toNat 0) == (List.getD c.2.1 s3.1.1.toNat 0)) = true) -> ((s1.1.1 < ((c.2.2.2.2.length : Nat) : Int)) /\ (0 <= s1.1.1))) /\ (((((List.getD c.2.2.1 s2.1.1.toNat 0) == (List.getD c.2.1 s3.1.1.toNat 0)) = true) -> ((s2.1.1 < ((c.2.2.2.2.length : Nat) : Int)) /\ (0 <= s2.1.1))) /\ (((((List.getD c.2.2.1 s2.1.1.toNat 0) == (List.getD c.2.1 s3.1.1.toNat 0)) = true) -> ((s3.1.1 < (((List.length (List.getD c.2.2.2.2 s2.1.1.toNat [])) : Nat) : Int)) /\ (0 <= s3.1.1))) /\ (((((List.getD c.2.2.1 s2.1.1.toNat 0) == (List.getD c.2.1 s3.1.1.toNat 0)) = true) -> (((List.getD (List.getD c.2.2.2.2 s2.1.1.toNat []) s3.1.1.toNat 0) < (((List.length (List.getD c.2.2.2.2 s1.1.1.toNat [])) : Nat) : Int)) /\ (0 <= (List.getD (List.getD c.2.2.2.2 s2.1.1.toNat []) s3.1.1.toNat 0)))) /\ (cnd (((List.getD c.2.2.1 s2.1.1.toNat 0) == (List.getD c.2.1 s3.1.1.toNat 0)) && ((List.getD (List.getD c.2.2.2.2 (Int.toNat (List.getD (List.getD c.2.2.2.2 s1.1.1.toNat []) s2.1.1.toNat 0)) []) s3.1.1.toNat 0) != (List.getD (List.getD c.2.2.2.2 s1.1.1.toNat []) (Int.toNat (List.getD (List.getD c.2.2.2.2 s2.1.1.toNat []) s3.1.1.toNat 0)) 0))) (K (2, (s1.1.1, (s2.1.1, (s3.1.1, ()))))) ((inK .i64 (s3.1.1 + 1)) /\ (next3 (((s3.1.1 + 1), ()), ())))))))))))))))) (k ((), ())))))) ((0, ()), ()))))))))) ((inK .i64 (s1.1.1 + 1)) /\ (next1 (((s1.1.1 + 1), ()), ()))))))) ((0, ()), ())) (K (0, (0, (0, (0, ()))))))))) ((0, ()), ())))))) ((0, ()), ()))
theorem w_spec_l02Fault (x : denL c_spec_l02Fault.args) (K : Int × Int × Int × Int × Unit -> Prop) : evF tab (lkp []) (cutL [(17, 44), (5, 38), (13, 11)]) Try.f115 (bodyOf Try.f115) an_spec_l02Fault c_spec_l02Fault x K = W_spec_l02Fault x.1 K := by kernel_rfl
theorem k_spec_l02Fault : okC Try.f115.ntmps (cutL [(17, 44), (5, 38), (13, 11)]) (bodyOf Try.f115) = true := by kernel_rfl
theorem m_spec_l02Fault (c : CategoryD) (hok : allP (okL c_spec_l02Fault.args (c, ()))) (hpre : allP (c_spec_l02Fault.pre (c, ()))) : W_spec_l02Fault c (fun r => r = c_spec_l02Fault.res (c, ())) := by
 simp only [c_spec_l02Fault, okL, T.oks, T.ok, ap, allP, true_and, and_true, implies_true] at hok hpre
 try dsimp only [T.den] at hok
 try dsimp only [T.den] at hpre
 unfold W_spec_l02Fault
 have S : ShapeP c := hpre
 have hlt := S.lt
 have hli := S.li
 have hlc := S.lc
 have hmm := S.m
 have resq : ∀ a b d e, faultR c = (a, b, d, e) -> (a, b, d, e, ()) = c_spec_l02Fault.res (c, ()) := fun a b d e h => by simp only [c_spec_l02Fault, h]
 have hcr : ∀ f g : Int, (c.2.2.2.2.getD f.toNat []).getD g.toNat 0 = compR c f g := fun _ _ => rfl
 simp only [hcr]
 refine loop_ix (n := c.2.1.length) (fun f => scanR (faultI c) c.2.1.length 0 = scanR (faultI c) ((c.2.1.length : Int) - f).toNat f) (by omega) scan_0 ?_ ?_
 ·intro f next h0 h1 hP hn hin
  try dsimp only
  obtain ⟨a1, a2, a3, a4⟩ := S.frm h0 h1
  obtain ⟨b1, b2, _, _⟩ := S.idn a1 a2
  obtain ⟨d1, d2, _, _⟩ := S.idn a3 a4
  have r1 := S.row _ b1 b2
  have r2 := S.row f h0 h1
  refine cnd_d (fun _ => ⟨h0, h1, by omega, by omega, by omega, by omega, h0, by omega, fun _ => by omega, fun _ => by omega, fun _ => by omega, fun _ => by omega, cnd_of (fun hx => resq _ _ _ _ ?_) (fun hx => ⟨by rw [inK64]; (try dsimp only); omega, hn ?_⟩)⟩) (fun h => absurd h1 h)
  ·have : faultI c f = some (1, f, 0, 0) := by unfold faultI; rw [if_pos]; simpa using hx
   unfold faultR; rw [hP, scan_s h1 this]; rfl
  ·have : faultI c f = none := by unfold faultI; rw [if_neg]; simpa using hx
   rw [hP, scan_c h1 this]
 intro next hI hin
 rw [scan_n] at hI
 refine cnd_d (fun h => absurd h (by dsimp only; omega)) (fun _ => ?_)
 have hF : faultR c = orR (scanR (faultF c) c.2.1.length 0) (0, 0, 0, 0) := by unfold faultR; rw [hI]; rfl
 refine loop_ix (n := c.2.1.length) (fun f => scanR (faultF c) c.2.1.length 0 = scanR (faultF c) ((c.2.1.length : Int) - f).toNat f) (by omega) scan_0 ?_ ?_
 ·intro f next h0 h1 hP hn hin
  try dsimp only
  refine cnd_d (fun _ => ?_) (fun h => absurd h1 h)
  have r1 := S.row f h0 h1
  refine loop_ix (n := c.2.1.length) (fun g => faultF c f = scanR (faultG c f) ((c.2.1.length : Int) - g).toNat g) (by omega) scan_0 ?_ ?_
  ·intro g next3 g0 g1 hP3 hn3 hin3
   try dsimp only
   refine cnd_d (fun _ => ?_) (fun h => absurd g1 h)
   have r2 := S.row g g0 g1
   refine join_of (fun _ => faultG c f g = none) (fun _ hG => ⟨by rw [inK64]; (try dsimp only); omega, hn3 (by rw [hP3, scan_c g1 hG])⟩) (fun k hk => ?_)
   have hk' := hk ((), ())
   refine ⟨by omega, by omega, by omega, by omega, cnd_of (fun hx => hk' ?_) (fun hx => ?_)⟩
   ·unfold faultG; rw [if_neg]; simpa using hx
   have hfg : c.2.2.1.getD f.toNat 0 = c.2.1.getD g.toNat 0 := by rw [bne_eq_false_iff_eq] at hx; exact hx
   obtain ⟨y1, y2, _, _⟩ := S.yes h0 h1 g0 g1 hfg
   refine loop_ix (n := c.2.1.length) (fun h => faultG c f g = scanR (faultH c f g) ((c.2.1.length : Int) - h).toNat h) (by omega) (by unfold faultG; rw [if_pos hfg]; exact scan_0) ?_ ?_
   ·intro h next4 i0 i1 hP4 hn4 hin4
    try dsimp only
    refine cnd_d (fun _ => ?_) (fun h => absurd i1 h)
    have r3 := S.row _ y1 y2
    have cgh := S.comp g0 g1 i0 i1
    have ygh := @ShapeP.yes c S g h g0 g1 i0 i1
    refine ⟨by omega, by omega, by omega, by omega, fun _ => by omega, fun _ => by omega, fun _ => by omega, fun _ => by omega, fun _ => by omega, fun _ => by omega, fun _ => by omega, fun he => ?_, cnd_of (fun hx => resq _ _ _ _ ?_) (fun hx => ⟨by rw [inK64]; (try dsimp only); omega, hn4 ?_⟩)⟩
    ·have := ygh (by simpa only [beq_iff_eq] using he); omega
    ·have : faultH c f g h = some (2, f, g, h) := by unfold faultH; rw [if_pos]; simpa using hx
     have e1 : faultG c f g = some (2, f, g, h) := by rw [hP4, scan_s i1 this]
     have e2 : faultF c f = some (2, f, g, h) := by rw [hP3, scan_s g1 e1]
     rw [hF, hP, scan_s h1 e2]; rfl
    ·have : faultH c f g h = none := by unfold faultH; rw [if_neg]; simpa using hx
     rw [hP4, scan_c i1 this]
   ·intro next4 hP4 hin4
    rw [scan_n] at hP4
    exact cnd_d (fun h => absurd h (by dsimp only; omega)) (fun _ => hk' hP4)
  ·intro next3 hP3 hin3
   rw [scan_n] at hP3
   exact cnd_d (fun h => absurd h (by dsimp only; omega)) (fun _ => ⟨by rw [inK64]; (try dsimp only); omega, hn (by rw [hP, scan_c h1 hP3])⟩)
 ·intro next2 hP2 hin2
  rw [scan_n] at hP2
  refine cnd_d (fun h => absurd h (by dsimp only; omega)) (fun _ => resq _ _ _ _ ?_)
  rw [hF, hP2]; rfl
theorem ct_spec_l02Fault : CtOk Try.prog 115 c_spec_l02Fault :=
 ct_by (Φ := lkp []) good_nil tab_ok (by kernel_rfl) (fn := Try.f115) (c := bodyOf Try.f115) (by kernel_rfl) (by kernel_rfl) (by kernel_rfl) c_spec_l02Fault rfl an_spec_l02Fault (cutL [(17, 44), (5, 38), (13, 11)]) (by kernel_rfl) (by kernel_rfl) k_spec_l02Fault (by decide) (fun x K => W_spec_l02Fault x.1 K) w_spec_l02Fault (fun x h1 h2 => m_spec_l02Fault x.1 h1 h2)
def c_spec_l02Is : Ct := ⟨[CategoryT], [true], fun x => [], [(false, (.fz .bool))], fun x => (catR x.1, ()), false, none⟩
def ph_spec_l02Is : FuncId -> Option Ct := lkp [(114, c_spec_IsShape), (115, c_spec_l02Fault)]
def W_spec_l02Is (c : CategoryD) (K : Bool × Unit -> Prop) : Prop := (cnd (!(shapeR c)) (K (false, ())) ((ShapeP c) /\ (K (((faultR c).1 == 0), ()))))
theorem w_spec_l02Is (x : denL c_spec_l02Is.args) (K : Bool × Unit -> Prop) : evF tab ph_spec_l02Is (cutL []) Try.f56 (bodyOf Try.f56) .n c_spec_l02Is x K = W_spec_l02Is x.1 K := by kernel_rfl
theorem k_spec_l02Is : okC Try.f56.ntmps (cutL []) (bodyOf Try.f56) = true := by kernel_rfl
theorem m_spec_l02Is (c : CategoryD) (hok : allP (okL c_spec_l02Is.args (c, ()))) (hpre : allP (c_spec_l02Is.pre (c, ()))) : W_spec_l02Is c (fun r => r = c_spec_l02Is.res (c, ())) := by
 simp only [c_spec_l02Is, okL, T.oks, T.ok, ap, allP, true_and, and_true, implies_true] at hok hpre
 try dsimp only [T.den] at hok
 try dsimp only [T.den] at hpre
 unfold W_spec_l02Is
 simp only [c_spec_l02Is, catR]
 have := @shape_iff c
 grind [cnd, nb_eq, inK64]
theorem ct_spec_l02Is : CtOk Try.prog 56 c_spec_l02Is :=
 ct_by (Φ := ph_spec_l02Is) (good_cons ct_spec_IsShape (good_cons ct_spec_l02Fault good_nil)) tab_ok (by kernel_rfl) (fn := Try.f56) (c := bodyOf Try.f56) (by kernel_rfl) (by kernel_rfl) (by kernel_rfl) c_spec_l02Is rfl .n (cutL []) (by kernel_rfl) (by kernel_rfl) k_spec_l02Is (by decide) (fun x K => W_spec_l02Is x.1 K) w_spec_l02Is (fun x h1 h2 => m_spec_l02Is x.1 h1 h2)
def ccArrR (c : CategoryD) : List (List Int) := if catR c = true then (if cpFitR c = true then cpArrR c else []) else []
def c_spec_l11Completion : Ct := ⟨[CategoryT], [true], fun x => [], [(true, (.p (.fz (.int .i64)) (.p (.sl (.fz (.int .i64))) (.p (.sl (.fz (.int .i64))) (.p (.sl (.fz (.int .i64))) (.sl (.sl (.fz (.int .i64))))))))), (false, (.fz (.sl (.sl (.int .i64))))), (false, (.fz (.int .i64)))], fun x => ((ccR x.1).1, ccArrR x.1, (ccR x.1).2, ()), true, none⟩
def ph_spec_l11Completion : FuncId -> Option Ct := lkp [(107, c_spec_l02Fits), (56, c_spec_l02Is), (106, c_spec_l11Complete)]
def W_spec_l11Completion (c : CategoryD) (K : CategoryD × (List (List Int)) × Int × Unit -> Prop) : Prop := (cnd (!(catR c)) (K ((0, ([], ([], ([], [])))), ([], (1, ())))) ((ShapeP c) /\ (cnd (!((decide ((completeR c).1 <= 8)) && (decide ((((List.length (completeR c).2.1) : Nat) : Int) <= 40)))) (K ((0, ([], ([], ([], [])))), ([], (3, ())))) (K ((completeR c), ((cpArrR c), (0, ())))))))
theorem w_spec_l11Completion (x : denL c_spec_l11Completion.args) (K : CategoryD × (List (List Int)) × Int × Unit -> Prop) : evF tab ph_spec_l11Completion (cutL []) Try.f45 (bodyOf Try.f45) .n c_spec_l11Completion x K = W_spec_l11Completion x.1 K := by kernel_rfl
theorem k_spec_l11Completion : okC Try.f45.ntmps (cutL []) (bodyOf Try.f45) = true := by kernel_rfl
theorem m_spec_l11Completion (c : CategoryD) (hok : allP (okL c_spec_l11Completion.args (c, ()))) (hpre : allP (c_spec_l11Completion.pre (c, ()))) : W_spec_l11Completion c (fun r => r = c_spec_l11Completion.res (c, ())) := by
 simp only [c_spec_l11Completion, okL, T.oks, T.ok, ap, allP, true_and, and_true, implies_true] at hok hpre
 try dsimp only [T.den] at hok
 try dsimp only [T.den] at hpre
 unfold W_spec_l11Completion
 refine cnd_of (fun hx => ?_) (fun hx => ?_)
 ·have h : catR c = false := by rw [Bool.not_eq_true'] at hx; exact hx
  simp only [c_spec_l11Completion, ccR, ccArrR]; rw [if_neg (by rw [h]; simp), if_neg (by rw [h]; simp)]; rfl
 have h : catR c = true := by rw [Bool.not_eq_false'] at hx; exact hx
 have S := cat_shp h
 refine ⟨S, cnd_of (fun hy => ?_) (fun hy => ?_)⟩
 ·have hf : cpFitR c = false := by rw [Bool.not_eq_true'] at hy; exact hy
  simp only [c_spec_l11Completion, ccR, ccArrR]; rw [if_pos h, if_pos h, if_neg (by rw [hf]; simp), if_neg (by rw [hf]; simp)]; rfl
 ·have hf : cpFitR c = true := by rw [Bool.not_eq_false'] at hy; exact hy
  simp only [c_spec_l11Completion, ccR, ccArrR]; rw [if_pos h, if_pos h, if_pos hf, if_pos hf]
theorem ct_spec_l11Completion : CtOk Try.prog 45 c_spec_l11Completion :=
 ct_by (Φ := ph_spec_l11Completion) (good_cons ct_spec_l02Fits (good_cons ct_spec_l02Is (good_cons ct_spec_l11Complete good_nil))) tab_ok (by kernel_rfl) (fn := Try.f45) (c := bodyOf Try.f45) (by kernel_rfl) (by kernel_rfl) (by kernel_rfl) c_spec_l11Completion rfl .n (cutL []) (by kernel_rfl) (by kernel_rfl) k_spec_l11Completion (by decide) (fun x K => W_spec_l11Completion x.1 K) w_spec_l11Completion (fun x h1 h2 => m_spec_l11Completion x.1 h1 h2)
end Go.Bm
