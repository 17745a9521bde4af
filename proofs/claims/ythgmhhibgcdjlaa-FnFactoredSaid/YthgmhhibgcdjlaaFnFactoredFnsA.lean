/- What the functions that FnFactored reaches give: for each its contract, what it asks, and the proof. No condition. -/
import Derived.Test.YthgmhhibgcdjlaaTab
namespace Go.Bm
open Go.Proofs
set_option maxRecDepth 100000
set_option maxHeartbeats 1000000
set_option linter.unusedVariables false
set_option linter.unusedSimpArgs false
noncomputable section
def c_impl_marked : Ct := ⟨[(.sl .bool)], [false], fun x => [x.1.length ≤ 1099511627776], [(false, (.sl (.fz (.int .i64))))], fun x => (selR x.1.length (fun i => x.1.getD i.toNat false), ()), false, none⟩
def W_impl_marked (there : List Bool) (K : (List Int) × Unit → Prop) : Prop := (loopW (S := ((Unit × (Int × Unit)) × ((List Int) × Unit))) (fun s => (fun next => ((inK IntKind.i64 s.1.2.1) → ((T.ok (T.sl (T.int IntKind.i64)) s.2.1) → (cnd (decide (s.1.2.1 < (((List.length there) : Nat) : Int))) (((0 : Int) ≤ s.1.2.1) ∧ ((s.1.2.1 < (((List.length there) : Nat) : Int)) ∧ (joinW (S := ((Unit × Unit) × ((List Int) × Unit))) (fun s1 => ((T.ok (T.sl (T.int IntKind.i64)) s1.2.1) → ((inK IntKind.i64 (s.1.2.1 + (1 : Int))) ∧ (next (((), ((s.1.2.1 + (1 : Int)), ())), (s1.2.1, ())))))) (fun k => (cnd (List.getD there (Int.toNat s.1.2.1) Bool.false) ((room (List.length s.2.1) (List.length (s.1.2.1 :: ([] : List Int))) 8) ∧ (k (((), ()), ((s.2.1 ++ (s.1.2.1 :: ([] : List Int))), ())))) (k (((), ()), (s.2.1, ())))))))) (K (s.2.1, ()))))))) (((), ((0 : Int), ())), (([] : List Int), ())))
theorem w_impl_marked (x : denL c_impl_marked.args) (K : (List Int) × Unit → Prop) : evF tab (lkp []) (cutL []) Try.f67 (bodyOf Try.f67) (.s .n (.s .n (.s (.s .n (.l [(3, (.ref 800003 [])), (9, (.d (.int .i64)))] [(800003, (.sl (.fz (.int .i64))))] [7, 8] (.s .n (.s .n (.s (.s .n (.s .n (.j [(3, (.ref 800003 []))] [(800003, (.sl (.fz (.int .i64))))] [7, 8, 9] .n))) .n))))) .n))) c_impl_marked x K = W_impl_marked x.1 K := by kernel_rfl
theorem k_impl_marked : okC Try.f67.ntmps (cutL []) (bodyOf Try.f67) = true := by kernel_rfl
theorem m_impl_marked (there : List Bool) (hok : allP (okL c_impl_marked.args (there, ()))) (hpre : allP (c_impl_marked.pre (there, ()))) : W_impl_marked there (fun r => r = c_impl_marked.res (there, ())) := by
  simp only [c_impl_marked, okL, T.oks, T.ok, ap, allP, true_and, and_true, implies_true] at hok hpre
  try dsimp only [T.den] at hok
  try dsimp only [T.den] at hpre
  unfold W_impl_marked
  have hm : there.length ≤ 1099511627776 := hpre
  refine loop_of (fun (s : ((Unit × (Int × Unit)) × ((List Int) × Unit))) => 0 ≤ s.1.2.1 ∧ s.1.2.1 ≤ there.length ∧ s.2.1 = selR s.1.2.1.toNat fun i => there.getD i.toNat false) (fun (s : ((Unit × (Int × Unit)) × ((List Int) × Unit))) => (there.length - s.1.2.1).toNat) ?_ ⟨by simp, by simp, rfl⟩
  rintro ⟨⟨_, i, _⟩, l, _⟩ next ⟨h0, h1, h2⟩ hn hin hl
  try dsimp only at h0 h1 h2 hn ⊢
  subst h2
  refine cnd_d (fun hc => ⟨h0, hc, join_of (fun s1 => s1.2.1 = selR (i + 1).toNat fun i => there.getD i.toNat false) (fun s1 hs _ => ⟨by rw [inK64]; (try dsimp only); omega, hn _ ⟨(by first | omega | (dsimp only; omega)), (by first | omega | (dsimp only; omega)), hs⟩ (by first | omega | (dsimp only; omega))⟩) (fun k hk => cnd_of (fun hx => ⟨?_, hk _ ?_⟩) (fun hx => hk _ ?_))⟩) (fun hc => ?_)
  · have := sel_len (p := fun i => there.getD i.toNat false) i.toNat
    unfold room
    rw [nb_eq]
    have h3 : (i :: ([] : List Int)).length = 1 := rfl
    rw [h3]
    omega
  · exact (sel_t h0 hx).symm
  · exact (sel_f h0 hx).symm
  · have e1 : i.toNat = there.length := by omega
    simp only [c_impl_marked]
    rw [e1]
theorem ct_impl_marked : CtOk Try.prog 67 c_impl_marked :=
  ct_by (Φ := lkp []) good_nil tab_ok (by kernel_rfl) (fn := Try.f67) (c := bodyOf Try.f67) (by kernel_rfl) (by kernel_rfl) (by kernel_rfl) c_impl_marked rfl (.s .n (.s .n (.s (.s .n (.l [(3, (.ref 800003 [])), (9, (.d (.int .i64)))] [(800003, (.sl (.fz (.int .i64))))] [7, 8] (.s .n (.s .n (.s (.s .n (.s .n (.j [(3, (.ref 800003 []))] [(800003, (.sl (.fz (.int .i64))))] [7, 8, 9] .n))) .n))))) .n))) (cutL []) (by kernel_rfl) (by kernel_rfl) k_impl_marked (by decide) (fun x K => W_impl_marked x.1 K) w_impl_marked (fun x h1 h2 => m_impl_marked x.1 h1 h2)
def hasR (l : List Int) (n : Int) : Bool := l.any fun x => x == n

def imageR (n : Int) (l : List Int) : List Int := selR n.toNat fun y => hasR l y
theorem has_app {l r : List Int} {y : Int} : hasR (l ++ r) y = (hasR l y || hasR r y) := by simp [hasR]

def c_impl_image : Ct := ⟨[(.int .i64), (.sl (.int .i64))], [false, false], fun x => [0 ≤ x.1, x.1 ≤ 256, withinR x.2.1 x.1 = true], [(false, (.sl (.fz (.int .i64))))], fun x => (imageR x.1 x.2.1, ()), false, none⟩
def W_impl_image (n : Int) (f : List Int) (K : (List Int) × Unit → Prop) : Prop := (((0 : Int) ≤ n) ∧ ((n ≤ n) ∧ ((n ≤ ((140737488355328 : Nat) : Int)) ∧ (((n * ((1 : Nat) : Int)) ≤ ((140737488355328 : Nat) : Int)) ∧ (loopW (S := ((Unit × (Int × Unit)) × ((List Bool) × Unit))) (fun s => (fun next => ((inK IntKind.i64 s.1.2.1) → ((T.ok (T.sl T.bool) s.2.1) → (cnd (decide (s.1.2.1 < (((List.length f) : Nat) : Int))) (((0 : Int) ≤ s.1.2.1) ∧ ((s.1.2.1 < (((List.length f) : Nat) : Int)) ∧ (((0 : Int) ≤ (List.getD f (Int.toNat s.1.2.1) (0 : Int))) ∧ (((List.getD f (Int.toNat s.1.2.1) (0 : Int)) < (((List.length s.2.1) : Nat) : Int)) ∧ ((inK IntKind.i64 (s.1.2.1 + (1 : Int))) ∧ (next (((), ((s.1.2.1 + (1 : Int)), ())), ((List.set s.2.1 (Int.toNat (List.getD f (Int.toNat s.1.2.1) (0 : Int))) Bool.true), ())))))))) (((List.length s.2.1) ≤ 1099511627776) ∧ (K ((selR (List.length s.2.1) (fun i => (List.getD s.2.1 (Int.toNat i) Bool.false))), ())))))))) (((), ((0 : Int), ())), ((List.replicate (Int.toNat n) Bool.false), ())))))))
theorem w_impl_image (x : denL c_impl_image.args) (K : (List Int) × Unit → Prop) : evF tab (lkp [(67, c_impl_marked)]) (cutL []) Try.f26 (bodyOf Try.f26) (.s .n (.s .n (.s (.s .n (.l [(5, (.ref 9 [])), (12, (.d (.int .i64)))] [(9, (.sl (.fz .bool)))] [10, 11] .n)) .n))) c_impl_image x K = W_impl_image x.1 x.2.1 K := by kernel_rfl
theorem k_impl_image : okC Try.f26.ntmps (cutL []) (bodyOf Try.f26) = true := by kernel_rfl
theorem m_impl_image (n : Int) (f : List Int) (hok : allP (okL c_impl_image.args (n, f, ()))) (hpre : allP (c_impl_image.pre (n, f, ()))) : W_impl_image n f (fun r => r = c_impl_image.res (n, f, ())) := by
  simp only [c_impl_image, okL, T.oks, T.ok, ap, allP, true_and, and_true, implies_true] at hok hpre
  try dsimp only [T.den] at hok
  try dsimp only [T.den] at hpre
  unfold W_impl_image
  have hn0 : 0 ≤ n := hpre.1
  have hn1 : n ≤ 256 := hpre.2.1
  have hw := within_iff.1 hpre.2.2
  have hl : f.length ≤ 140737488355328 := by simp only [nb_eq] at hok; omega
  refine ⟨hn0, Int.le_refl _, by omega, by omega, ?_⟩
  refine loop_of (fun (s : ((Unit × (Int × Unit)) × ((List Bool) × Unit))) => 0 ≤ s.1.2.1 ∧ s.1.2.1 ≤ f.length ∧ s.2.1.length = n.toNat ∧ ∀ y : Int, 0 ≤ y → y < n → s.2.1.getD y.toNat false = hasR (f.take s.1.2.1.toNat) y) (fun (s : ((Unit × (Int × Unit)) × ((List Bool) × Unit))) => (f.length - s.1.2.1).toNat) ?_ ⟨by simp, by simp, by simp, fun y y0 y1 => ?_⟩
  · rintro ⟨⟨_, i, _⟩, l, _⟩ next ⟨h0, h1, h2, h3⟩ hn hin hok2
    try dsimp only at h0 h1 h2 h3 hn ⊢
    refine cnd_d (fun hc => ?_) (fun hc => ?_)
    · have hf := hw i h0 hc
      refine ⟨h0, hc, hf.1, by omega, by rw [inK64]; (try dsimp only); omega, hn _ ⟨(by first | omega | (dsimp only; omega)), (by first | omega | (dsimp only; omega)), by simp [h2], fun y y0 y1 => ?_⟩ (by first | omega | (dsimp only; omega))⟩
      try dsimp only
      rw [set_getD _ _ _ _ _ (by omega), take_c f 0 h0 hc, has_app, ← h3 y y0 y1]
      by_cases e : f.getD i.toNat 0 = y
      · rw [if_pos (by rw [e])]; simp only [hasR, List.any_cons, List.any_nil, e, beq_self_eq_true, Bool.true_or, Bool.or_true]
      · rw [if_neg (by omega)]; simp only [hasR, List.any_cons, List.any_nil, beq_eq_false_iff_ne.2 e, Bool.or_false]
    · rw [take_n f (by omega)] at h3
      refine ⟨by omega, ?_⟩
      simp only [c_impl_image, imageR, h2]
      rw [sel_congr fun i i0 i1 => h3 i i0 (by omega)]
  · try dsimp only
    rw [List.getD_eq_getElem?_getD, List.getElem?_replicate]
    simp only [hasR]
    split <;> simp
theorem ct_impl_image : CtOk Try.prog 26 c_impl_image :=
  ct_by (Φ := lkp [(67, c_impl_marked)]) (good_cons ct_impl_marked good_nil) tab_ok (by kernel_rfl) (fn := Try.f26) (c := bodyOf Try.f26) (by kernel_rfl) (by kernel_rfl) (by kernel_rfl) c_impl_image rfl (.s .n (.s .n (.s (.s .n (.l [(5, (.ref 9 [])), (12, (.d (.int .i64)))] [(9, (.sl (.fz .bool)))] [10, 11] .n)) .n))) (cutL []) (by kernel_rfl) (by kernel_rfl) k_impl_image (by decide) (fun x K => W_impl_image x.1 x.2.1 K) w_impl_image (fun x h1 h2 => m_impl_image x.1 x.2.1 h1 h2)
def c_impl_inRange : Ct := ⟨[(.int .i64), (.int .i64), (.int .i64)], [false, false, false], fun x => [], [(false, (.fz .bool))], fun x => (inR x.1 x.2.1 x.2.2.1, ()), false, none⟩
def W_impl_inRange (n : Int) (low : Int) (high : Int) (K : Bool × Unit → Prop) : Prop := (K (((decide (low ≤ n)) && (decide (n ≤ high))), ()))
theorem w_impl_inRange (x : denL c_impl_inRange.args) (K : Bool × Unit → Prop) : evF tab (lkp []) (cutL []) Try.f71 (bodyOf Try.f71) .n c_impl_inRange x K = W_impl_inRange x.1 x.2.1 x.2.2.1 K := by kernel_rfl
theorem k_impl_inRange : okC Try.f71.ntmps (cutL []) (bodyOf Try.f71) = true := by kernel_rfl
theorem m_impl_inRange (n : Int) (low : Int) (high : Int) (hok : allP (okL c_impl_inRange.args (n, low, high, ()))) (hpre : allP (c_impl_inRange.pre (n, low, high, ()))) : W_impl_inRange n low high (fun r => r = c_impl_inRange.res (n, low, high, ())) := by
  simp only [c_impl_inRange, okL, T.oks, T.ok, ap, allP, true_and, and_true, implies_true] at hok hpre
  try dsimp only [T.den] at hok
  try dsimp only [T.den] at hpre
  unfold W_impl_inRange
  grind [cnd, nb_eq, inK64, c_impl_inRange, inR]
theorem ct_impl_inRange : CtOk Try.prog 71 c_impl_inRange :=
  ct_by (Φ := lkp []) good_nil tab_ok (by kernel_rfl) (fn := Try.f71) (c := bodyOf Try.f71) (by kernel_rfl) (by kernel_rfl) (by kernel_rfl) c_impl_inRange rfl .n (cutL []) (by kernel_rfl) (by kernel_rfl) k_impl_inRange (by decide) (fun x K => W_impl_inRange x.1 x.2.1 x.2.2.1 K) w_impl_inRange (fun x h1 h2 => m_impl_inRange x.1 x.2.1 x.2.2.1 h1 h2)
def c_impl_isSize : Ct := ⟨[(.int .i64)], [false], fun x => [], [(false, (.fz .bool))], fun x => (inR x.1 0 256, ()), false, none⟩
def W_impl_isSize (n : Int) (K : Bool × Unit → Prop) : Prop := (K ((inR n (0 : Int) (256 : Int)), ()))
theorem w_impl_isSize (x : denL c_impl_isSize.args) (K : Bool × Unit → Prop) : evF tab (lkp [(71, c_impl_inRange)]) (cutL []) Try.f31 (bodyOf Try.f31) .n c_impl_isSize x K = W_impl_isSize x.1 K := by kernel_rfl
theorem k_impl_isSize : okC Try.f31.ntmps (cutL []) (bodyOf Try.f31) = true := by kernel_rfl
theorem m_impl_isSize (n : Int) (hok : allP (okL c_impl_isSize.args (n, ()))) (hpre : allP (c_impl_isSize.pre (n, ()))) : W_impl_isSize n (fun r => r = c_impl_isSize.res (n, ())) := by
  simp only [c_impl_isSize, okL, T.oks, T.ok, ap, allP, true_and, and_true, implies_true] at hok hpre
  try dsimp only [T.den] at hok
  try dsimp only [T.den] at hpre
  unfold W_impl_isSize
  rfl
theorem ct_impl_isSize : CtOk Try.prog 31 c_impl_isSize :=
  ct_by (Φ := lkp [(71, c_impl_inRange)]) (good_cons ct_impl_inRange good_nil) tab_ok (by kernel_rfl) (fn := Try.f31) (c := bodyOf Try.f31) (by kernel_rfl) (by kernel_rfl) (by kernel_rfl) c_impl_isSize rfl .n (cutL []) (by kernel_rfl) (by kernel_rfl) k_impl_isSize (by decide) (fun x K => W_impl_isSize x.1 K) w_impl_isSize (fun x h1 h2 => m_impl_isSize x.1 h1 h2)
def c_impl_within : Ct := ⟨[(.sl (.int .i64)), (.int .i64)], [false, false], fun x => [inK .i64 (x.2.1 - 1)], [(false, (.fz .bool))], fun x => (withinR x.1 x.2.1, ()), false, none⟩
def W_impl_within (list : List Int) (n : Int) (K : Bool × Unit → Prop) : Prop := (loopW (S := ((Int × Unit) × Unit)) (fun s => (fun next => ((inK IntKind.i64 s.1.1) → (cnd (decide (s.1.1 < (((List.length list) : Nat) : Int))) (((0 : Int) ≤ s.1.1) ∧ ((s.1.1 < (((List.length list) : Nat) : Int)) ∧ ((inK IntKind.i64 (n - (1 : Int))) ∧ (cnd (!(inR (List.getD list (Int.toNat s.1.1) (0 : Int)) (0 : Int) (n - (1 : Int)))) (K (Bool.false, ())) ((inK IntKind.i64 (s.1.1 + (1 : Int))) ∧ (next (((s.1.1 + (1 : Int)), ()), ()))))))) (K (Bool.true, ())))))) (((0 : Int), ()), ()))
theorem w_impl_within (x : denL c_impl_within.args) (K : Bool × Unit → Prop) : evF tab (lkp [(71, c_impl_inRange)]) (cutL []) Try.f72 (bodyOf Try.f72) (.s .n (.s (.s .n (.l [(9, (.d (.int .i64)))] [] [1, 7, 8] .n)) .n)) c_impl_within x K = W_impl_within x.1 x.2.1 K := by kernel_rfl
theorem k_impl_within : okC Try.f72.ntmps (cutL []) (bodyOf Try.f72) = true := by kernel_rfl
theorem m_impl_within (list : List Int) (n : Int) (hok : allP (okL c_impl_within.args (list, n, ()))) (hpre : allP (c_impl_within.pre (list, n, ()))) : W_impl_within list n (fun r => r = c_impl_within.res (list, n, ())) := by
  simp only [c_impl_within, okL, T.oks, T.ok, ap, allP, true_and, and_true, implies_true] at hok hpre
  try dsimp only [T.den] at hok
  try dsimp only [T.den] at hpre
  unfold W_impl_within
  refine loop_of (fun (s : ((Int × Unit) × Unit)) => 0 ≤ s.1.1 ∧ s.1.1 ≤ list.length ∧ withinR list n = withinR (list.drop s.1.1.toNat) n) (fun (s : ((Int × Unit) × Unit)) => (list.length - s.1.1).toNat) ?_ (by simp)
  rintro ⟨⟨i, _⟩, _⟩ next ⟨h0, h1, h2⟩ hn hin
  simp only at h0 h1 h2 hn ⊢
  refine cnd_d (fun hc => ?_) (fun hc => ?_)
  · rw [drop_c list 0 h0 hc] at h2
    simp only [withinR, List.all_cons] at h2
    grind [cnd, nb_eq, inK64, c_impl_within, withinR]
  · rw [drop_n list (by omega)] at h2
    grind [cnd, nb_eq, inK64, c_impl_within, withinR]
theorem ct_impl_within : CtOk Try.prog 72 c_impl_within :=
  ct_by (Φ := lkp [(71, c_impl_inRange)]) (good_cons ct_impl_inRange good_nil) tab_ok (by kernel_rfl) (fn := Try.f72) (c := bodyOf Try.f72) (by kernel_rfl) (by kernel_rfl) (by kernel_rfl) c_impl_within rfl (.s .n (.s (.s .n (.l [(9, (.d (.int .i64)))] [] [1, 7, 8] .n)) .n)) (cutL []) (by kernel_rfl) (by kernel_rfl) k_impl_within (by decide) (fun x K => W_impl_within x.1 x.2.1 K) w_impl_within (fun x h1 h2 => m_impl_within x.1 x.2.1 h1 h2)
def mapsR (n : Int) (f : List Int) : Bool := decide ((f.length : Int) ≤ 256) && withinR f n

def c_impl_maps : Ct := ⟨[(.int .i64), (.sl (.int .i64))], [false, false], fun x => [inK .i64 (x.1 - 1)], [(false, (.fz .bool))], fun x => (mapsR x.1 x.2.1, ()), false, none⟩
def W_impl_maps (n : Int) (f : List Int) (K : Bool × Unit → Prop) : Prop := ((((decide ((((List.length f) : Nat) : Int) ≤ (256 : Int))) = Bool.true) → (inK IntKind.i64 (n - (1 : Int)))) ∧ (K (((decide ((((List.length f) : Nat) : Int) ≤ (256 : Int))) && (withinR f n)), ())))
theorem w_impl_maps (x : denL c_impl_maps.args) (K : Bool × Unit → Prop) : evF tab (lkp [(72, c_impl_within)]) (cutL []) Try.f32 (bodyOf Try.f32) .n c_impl_maps x K = W_impl_maps x.1 x.2.1 K := by kernel_rfl
theorem k_impl_maps : okC Try.f32.ntmps (cutL []) (bodyOf Try.f32) = true := by kernel_rfl
theorem m_impl_maps (n : Int) (f : List Int) (hok : allP (okL c_impl_maps.args (n, f, ()))) (hpre : allP (c_impl_maps.pre (n, f, ()))) : W_impl_maps n f (fun r => r = c_impl_maps.res (n, f, ())) := by
  simp only [c_impl_maps, okL, T.oks, T.ok, ap, allP, true_and, and_true, implies_true] at hok hpre
  try dsimp only [T.den] at hok
  try dsimp only [T.den] at hpre
  unfold W_impl_maps
  exact ⟨fun _ => hpre, rfl⟩
theorem ct_impl_maps : CtOk Try.prog 32 c_impl_maps :=
  ct_by (Φ := lkp [(72, c_impl_within)]) (good_cons ct_impl_within good_nil) tab_ok (by kernel_rfl) (fn := Try.f32) (c := bodyOf Try.f32) (by kernel_rfl) (by kernel_rfl) (by kernel_rfl) c_impl_maps rfl .n (cutL []) (by kernel_rfl) (by kernel_rfl) k_impl_maps (by decide) (fun x K => W_impl_maps x.1 x.2.1 K) w_impl_maps (fun x h1 h2 => m_impl_maps x.1 x.2.1 h1 h2)
def codeR (n : Int) (l : List (List Int)) : Int := if inR n 0 256 = true then (if l.all (mapsR n) = true then 0 else 1) else 2
theorem code_z {n : Int} {f : List Int} : codeR n [f] = 0 ↔ (0 ≤ n ∧ n ≤ 256) ∧ f.length ≤ 256 ∧ withinR f n = true := by
  simp only [codeR, List.all_cons, List.all_nil, Bool.and_true, mapsR, inR, Bool.and_eq_true, decide_eq_true_eq]
  grind

def c_impl_mapCode : Ct := ⟨[(.int .i64), (.sl (.sl (.int .i64)))], [false, false], fun x => [], [(false, (.fz (.int .i64)))], fun x => (codeR x.1 x.2.1, ()), false, none⟩
def W_impl_mapCode (n : Int) (list : List (List Int)) (K : Int × Unit → Prop) : Prop := (cnd (!(inR n (0 : Int) (256 : Int))) (K ((2 : Int), ())) (loopW (S := ((Int × Unit) × Unit)) (fun s => (fun next => ((inK IntKind.i64 s.1.1) → (cnd (decide (s.1.1 < (((List.length list) : Nat) : Int))) (((0 : Int) ≤ s.1.1) ∧ ((s.1.1 < (((List.length list) : Nat) : Int)) ∧ ((inK IntKind.i64 (n - (1 : Int))) ∧ (cnd (!(mapsR n (List.getD list (Int.toNat s.1.1) ([] : List Int)))) (K ((1 : Int), ())) ((inK IntKind.i64 (s.1.1 + (1 : Int))) ∧ (next (((s.1.1 + (1 : Int)), ()), ()))))))) (K ((0 : Int), ())))))) (((0 : Int), ()), ())))
theorem w_impl_mapCode (x : denL c_impl_mapCode.args) (K : Int × Unit → Prop) : evF tab (lkp [(31, c_impl_isSize), (32, c_impl_maps)]) (cutL []) Try.f25 (bodyOf Try.f25) (.s .n (.s .n (.s (.s .n (.l [(12, (.d (.int .i64)))] [] [0, 10, 11] .n)) .n))) c_impl_mapCode x K = W_impl_mapCode x.1 x.2.1 K := by kernel_rfl
theorem k_impl_mapCode : okC Try.f25.ntmps (cutL []) (bodyOf Try.f25) = true := by kernel_rfl
theorem m_impl_mapCode (n : Int) (list : List (List Int)) (hok : allP (okL c_impl_mapCode.args (n, list, ()))) (hpre : allP (c_impl_mapCode.pre (n, list, ()))) : W_impl_mapCode n list (fun r => r = c_impl_mapCode.res (n, list, ())) := by
  simp only [c_impl_mapCode, okL, T.oks, T.ok, ap, allP, true_and, and_true, implies_true] at hok hpre
  try dsimp only [T.den] at hok
  try dsimp only [T.den] at hpre
  unfold W_impl_mapCode
  have hl : list.length ≤ 140737488355328 := by have := hok.2.1; rw [nb_eq] at this; omega
  clear hok
  refine cnd_of (fun hc => ?_) (fun hc => ?_)
  · simp only [c_impl_mapCode, codeR]; rw [if_neg (by simpa using hc)]
  have hi : inR n 0 256 = true := by simpa using hc
  have hn : n ≥ 0 ∧ n ≤ 256 := by simpa [inR] using hi
  refine loop_all list [] (mapsR n) ?_ ?_
  · intro i next i0 i1 hbad hn' _
    try dsimp only
    refine cnd_d (fun _ => ⟨i0, i1, by rw [inK64]; (try dsimp only); omega, cnd_of (fun hx => ?_) (fun hx => ⟨by rw [inK64]; (try dsimp only); omega, hn' (by simpa using hx)⟩)⟩) (fun h => absurd i1 h)
    simp only [c_impl_mapCode, codeR, hi, if_true]; rw [hbad (by simpa using hx)]; rfl
  · intro next hall _
    refine cnd_d (fun h => absurd h (by dsimp only; omega)) (fun _ => ?_)
    simp only [c_impl_mapCode, codeR, hi, hall, if_true]
theorem ct_impl_mapCode : CtOk Try.prog 25 c_impl_mapCode :=
  ct_by (Φ := lkp [(31, c_impl_isSize), (32, c_impl_maps)]) (good_cons ct_impl_isSize (good_cons ct_impl_maps good_nil)) tab_ok (by kernel_rfl) (fn := Try.f25) (c := bodyOf Try.f25) (by kernel_rfl) (by kernel_rfl) (by kernel_rfl) c_impl_mapCode rfl (.s .n (.s .n (.s (.s .n (.l [(12, (.d (.int .i64)))] [] [0, 10, 11] .n)) .n))) (cutL []) (by kernel_rfl) (by kernel_rfl) k_impl_mapCode (by decide) (fun x K => W_impl_mapCode x.1 x.2.1 K) w_impl_mapCode (fun x h1 h2 => m_impl_mapCode x.1 x.2.1 h1 h2)
def thenR (f g : List Int) : List Int := f.map fun y => g.getD y.toNat 0

def c_impl_then : Ct := ⟨[(.sl (.int .i64)), (.sl (.int .i64))], [false, false], fun x => [x.1.length ≤ 1099511627776, withinR x.1 x.2.1.length = true], [(false, (.sl (.fz (.int .i64))))], fun x => (thenR x.1 x.2.1, ()), false, none⟩
def W_impl_then (f : List Int) (g : List Int) (K : (List Int) × Unit → Prop) : Prop := (((0 : Int) ≤ (((List.length f) : Nat) : Int)) ∧ (((((List.length f) : Nat) : Int) ≤ (((List.length f) : Nat) : Int)) ∧ (((((List.length f) : Nat) : Int) ≤ ((140737488355328 : Nat) : Int)) ∧ ((((((List.length f) : Nat) : Int) * ((8 : Nat) : Int)) ≤ ((140737488355328 : Nat) : Int)) ∧ (loopW (S := ((Unit × (Int × Unit)) × ((List Int) × Unit))) (fun s => (fun next => ((inK IntKind.i64 s.1.2.1) → ((T.ok (T.sl (T.int IntKind.i64)) s.2.1) → (cnd (decide (s.1.2.1 < (((List.length f) : Nat) : Int))) (((0 : Int) ≤ s.1.2.1) ∧ ((s.1.2.1 < (((List.length f) : Nat) : Int)) ∧ (((0 : Int) ≤ (List.getD f (Int.toNat s.1.2.1) (0 : Int))) ∧ (((List.getD f (Int.toNat s.1.2.1) (0 : Int)) < (((List.length g) : Nat) : Int)) ∧ (((0 : Int) ≤ s.1.2.1) ∧ ((s.1.2.1 < (((List.length s.2.1) : Nat) : Int)) ∧ ((inK IntKind.i64 (s.1.2.1 + (1 : Int))) ∧ (next (((), ((s.1.2.1 + (1 : Int)), ())), ((List.set s.2.1 (Int.toNat s.1.2.1) (List.getD g (Int.toNat (List.getD f (Int.toNat s.1.2.1) (0 : Int))) (0 : Int))), ())))))))))) (K (s.2.1, ()))))))) (((), ((0 : Int), ())), ((List.replicate (Int.toNat (((List.length f) : Nat) : Int)) (0 : Int)), ())))))))
theorem w_impl_then (x : denL c_impl_then.args) (K : (List Int) × Unit → Prop) : evF tab (lkp []) (cutL []) Try.f27 (bodyOf Try.f27) (.s .n (.s .n (.s (.s .n (.l [(5, (.ref 10 [])), (13, (.d (.int .i64)))] [(10, (.sl (.fz (.int .i64))))] [1, 11, 12] .n)) .n))) c_impl_then x K = W_impl_then x.1 x.2.1 K := by kernel_rfl
theorem k_impl_then : okC Try.f27.ntmps (cutL []) (bodyOf Try.f27) = true := by kernel_rfl
theorem m_impl_then (f : List Int) (g : List Int) (hok : allP (okL c_impl_then.args (f, g, ()))) (hpre : allP (c_impl_then.pre (f, g, ()))) : W_impl_then f g (fun r => r = c_impl_then.res (f, g, ())) := by
  simp only [c_impl_then, okL, T.oks, T.ok, ap, allP, true_and, and_true, implies_true] at hok hpre
  try dsimp only [T.den] at hok
  try dsimp only [T.den] at hpre
  unfold W_impl_then
  obtain ⟨hl, hw⟩ := hpre
  have hw := within_iff.1 hw
  clear hok
  refine ⟨by omega, Int.le_refl _, by omega, by omega, ?_⟩
  refine loop_ixa (fun i => tabN f.length fun y => if y < i then g.getD (f.getD y.toNat 0).toNat 0 else 0) (n := f.length) (by omega) ?_ ?_ ?_
  · rw [fill_0, Int.toNat_natCast, tab_rep]
  · intro i next i0 i1 hn _ _
    try dsimp only at hn ⊢
    have h1 := hw i i0 i1
    rw [← fill_s i0 i1] at hn
    exact cnd_d (fun _ => ⟨i0, i1, h1.1, h1.2, i0, by rw [tabN_len]; exact i1, by rw [inK64]; (try dsimp only); omega, hn⟩) (fun h => absurd i1 h)
  · intro next _ _
    refine cnd_d (fun h => absurd h (Int.lt_irrefl _)) (fun _ => ?_)
    rw [fill_n, map_tab (fun y => g.getD y.toNat 0) 0 f]
    rfl
theorem ct_impl_then : CtOk Try.prog 27 c_impl_then :=
  ct_by (Φ := lkp []) good_nil tab_ok (by kernel_rfl) (fn := Try.f27) (c := bodyOf Try.f27) (by kernel_rfl) (by kernel_rfl) (by kernel_rfl) c_impl_then rfl (.s .n (.s .n (.s (.s .n (.l [(5, (.ref 10 [])), (13, (.d (.int .i64)))] [(10, (.sl (.fz (.int .i64))))] [1, 11, 12] .n)) .n))) (cutL []) (by kernel_rfl) (by kernel_rfl) k_impl_then (by decide) (fun x K => W_impl_then x.1 x.2.1 K) w_impl_then (fun x h1 h2 => m_impl_then x.1 x.2.1 h1 h2)
def imgOfR (n : Int) (f : List Int) : List Int := if codeR n [f] = 0 then imageR n f else []

def c_impl_ImageOf : Ct := ⟨[(.int .i64), (.sl (.int .i64))], [false, false], fun x => [], [(false, (.sl (.fz (.int .i64)))), (false, (.fz (.int .i64)))], fun x => (imgOfR x.1 x.2.1, codeR x.1 [x.2.1], ()), false, none⟩
def W_impl_ImageOf (n : Int) (f : List Int) (K : (List Int) × Int × Unit → Prop) : Prop := (cnd ((codeR n (f :: ([] : List (List Int)))) != (0 : Int)) (K (([] : List Int), ((codeR n (f :: ([] : List (List Int)))), ()))) (((0 : Int) ≤ n) ∧ ((n ≤ (256 : Int)) ∧ (((withinR f n) = Bool.true) ∧ (K ((imageR n f), ((0 : Int), ())))))))
theorem w_impl_ImageOf (x : denL c_impl_ImageOf.args) (K : (List Int) × Int × Unit → Prop) : evF tab (lkp [(26, c_impl_image), (25, c_impl_mapCode)]) (cutL []) Try.f12 (bodyOf Try.f12) .n c_impl_ImageOf x K = W_impl_ImageOf x.1 x.2.1 K := by kernel_rfl
theorem k_impl_ImageOf : okC Try.f12.ntmps (cutL []) (bodyOf Try.f12) = true := by kernel_rfl
theorem m_impl_ImageOf (n : Int) (f : List Int) (hok : allP (okL c_impl_ImageOf.args (n, f, ()))) (hpre : allP (c_impl_ImageOf.pre (n, f, ()))) : W_impl_ImageOf n f (fun r => r = c_impl_ImageOf.res (n, f, ())) := by
  simp only [c_impl_ImageOf, okL, T.oks, T.ok, ap, allP, true_and, and_true, implies_true] at hok hpre
  try dsimp only [T.den] at hok
  try dsimp only [T.den] at hpre
  unfold W_impl_ImageOf
  simp only [c_impl_ImageOf, imgOfR]
  refine cnd_of (fun hc => ?_) (fun hc => ?_)
  · rw [if_neg (by simpa using hc)]
  · have hz : codeR n [f] = 0 := by simpa using hc
    obtain ⟨⟨h0, h1⟩, h2, h3⟩ := code_z.1 hz
    exact ⟨h0, h1, h3, by rw [if_pos hz, hz]⟩
theorem ct_impl_ImageOf : CtOk Try.prog 12 c_impl_ImageOf :=
  ct_by (Φ := lkp [(26, c_impl_image), (25, c_impl_mapCode)]) (good_cons ct_impl_image (good_cons ct_impl_mapCode good_nil)) tab_ok (by kernel_rfl) (fn := Try.f12) (c := bodyOf Try.f12) (by kernel_rfl) (by kernel_rfl) (by kernel_rfl) c_impl_ImageOf rfl .n (cutL []) (by kernel_rfl) (by kernel_rfl) k_impl_ImageOf (by decide) (fun x K => W_impl_ImageOf x.1 x.2.1 K) w_impl_ImageOf (fun x h1 h2 => m_impl_ImageOf x.1 x.2.1 h1 h2)
/-- where it stands first; -1: nowhere -/
def idxR {α : Type} [DecidableEq α] : List α → α → Int
  | [], _ => -1
  | a :: r, x => if a = x then 0 else (if idxR r x < 0 then -1 else idxR r x + 1)
def idxPR (s : List (Int × Int)) (v : Int × Int) : Int := idxR s v
theorem idx_p {α : Type} [DecidableEq α] (z : α) : ∀ {l : List α} {x : α}, (x ∈ l → 0 ≤ idxR l x ∧ idxR l x < l.length ∧ l.getD (idxR l x).toNat z = x ∧ ∀ i : Int, 0 ≤ i → i < idxR l x → l.getD i.toNat z ≠ x) ∧ (x ∉ l → idxR l x = -1)
  | [], x => by simp [idxR]
  | a :: r, x => by
    have ih := @idx_p α _ z r x
    rw [idxR]
    by_cases h : a = x
    · subst h
      simp only [if_true, List.mem_cons, true_or, not_true_eq_false, false_implies, and_true, true_implies]
      exact ⟨Int.le_refl _, by simp, rfl, fun i i0 i1 => by omega⟩
    · rw [if_neg h]
      simp only [List.mem_cons, not_or]
      refine ⟨fun hm => ?_, fun hm => ?_⟩
      · have hm : x ∈ r := hm.resolve_left fun e => h e.symm
        obtain ⟨h0, h1, h2, h3⟩ := ih.1 hm
        rw [if_neg (by omega)]
        have e : (idxR r x + 1).toNat = (idxR r x).toNat + 1 := by omega
        refine ⟨by omega, by simp only [List.length_cons]; omega, by rw [e, List.getD_cons_succ]; exact h2, fun i i0 i1 => ?_⟩
        by_cases hi : i = 0
        · rw [hi]; exact h
        · have e : i.toNat = (i - 1).toNat + 1 := by omega
          rw [e, List.getD_cons_succ]
          exact h3 (i - 1) (by omega) (by omega)
      · rw [ih.2 hm.2, if_pos (by omega)]
theorem idx_at {α : Type} [DecidableEq α] {z : α} {l : List α} {x : α} {i : Int} (i0 : 0 ≤ i) (i1 : i < l.length) (h : l.getD i.toNat z = x) (hn : ∀ k : Int, 0 ≤ k → k < i → l.getD k.toNat z ≠ x) : idxR l x = i := by
  have hm : x ∈ l := h ▸ getD_mem l z i0 i1
  obtain ⟨h0, h1, h2, h3⟩ := (idx_p z).1 hm
  rcases Int.lt_trichotomy (idxR l x) i with hl | hl | hl
  · exact absurd h2 (hn _ h0 hl)
  · exact hl
  · exact absurd h (h3 i i0 hl)
theorem idx_no {α : Type} [DecidableEq α] {z : α} {l : List α} {x : α} (hn : ∀ k : Int, 0 ≤ k → k < l.length → l.getD k.toNat z ≠ x) : idxR l x = -1 := by
  refine (idx_p z).2 fun hm => ?_
  obtain ⟨h0, h1, h2, _⟩ := (idx_p z).1 hm
  exact hn _ h0 h1 h2

/-- the labels in the order in which they come first -/
def dedSt (s : List Int) (k : Int) : List Int := if idxR s k < 0 then s ++ [k] else s
def dedR (l : List Int) : List Int := l.foldl dedSt []
def normR (l : List Int) : List Int := l.map (idxR (dedR l))
theorem idx_app {s : List Int} {k : Int} (r : List Int) (h : 0 ≤ idxR s k) : idxR (s ++ r) k = idxR s k := by
  have hm : k ∈ s := Decidable.byContradiction fun hn => by have := (idx_p (0 : Int)).2 hn; omega
  obtain ⟨h0, h1, h2, h3⟩ := (idx_p (0 : Int)).1 hm
  have hg : ∀ i : Int, 0 ≤ i → i < s.length → (s ++ r).getD i.toNat 0 = s.getD i.toNat 0 := fun i i0 i1 => by
    simp only [List.getD_eq_getElem?_getD]; rw [List.getElem?_append_left (by omega)]
  refine idx_at (z := (0 : Int)) h0 (by rw [List.length_append]; omega) (by rw [hg _ h0 h1]; exact h2) fun i i0 i1 => ?_
  rw [hg i i0 (by omega)]; exact h3 i i0 i1
theorem ded_pre : ∀ (l : List Int) (s : List Int), ∃ r, l.foldl dedSt s = s ++ r
  | [], s => ⟨[], by simp⟩
  | k :: l, s => by
    obtain ⟨r, hr⟩ := ded_pre l (dedSt s k)
    rw [List.foldl_cons, hr]
    unfold dedSt
    split
    · exact ⟨k :: r, by simp⟩
    · exact ⟨r, rfl⟩
theorem ded_len : ∀ (l : List Int) (s : List Int), (l.foldl dedSt s).length ≤ s.length + l.length
  | [], s => by simp
  | k :: l, s => by
    have := ded_len l (dedSt s k)
    rw [List.foldl_cons, List.length_cons]
    have h2 : (dedSt s k).length ≤ s.length + 1 := by unfold dedSt; split <;> simp
    omega
theorem ded_s {l : List Int} {i : Int} (i0 : 0 ≤ i) (i1 : i < l.length) : dedR (l.take (i + 1).toNat) = dedSt (dedR (l.take i.toNat)) (l.getD i.toNat 0) := by
  rw [take_c l 0 i0 i1]; unfold dedR; rw [List.foldl_append]; rfl
theorem ded_ext {l : List Int} {n : Nat} {k : Int} (h : 0 ≤ idxR (dedR (l.take n)) k) : idxR (dedR l) k = idxR (dedR (l.take n)) k := by
  obtain ⟨r, hr⟩ := ded_pre (l.drop n) (dedR (l.take n))
  have : dedR l = dedR (l.take n) ++ r := by
    rw [← hr]
    conv => lhs; rw [← List.take_append_drop n l]
    unfold dedR; rw [List.foldl_append]
  rw [this, idx_app r h]
theorem idx_new {s : List Int} {k : Int} (h : idxR s k < 0) : idxR (s ++ [k]) k = s.length := by
  have hm : k ∉ s := fun hm => by have := ((idx_p (0 : Int)).1 hm).1; omega
  refine idx_at (z := (0 : Int)) (by omega) (by simp only [List.length_append, List.length_cons, List.length_nil]; omega) (by simp [List.getD_eq_getElem?_getD]) fun i i0 i1 => ?_
  simp only [List.getD_eq_getElem?_getD]
  rw [List.getElem?_append_left (by omega)]
  intro e
  exact hm (e ▸ (by rw [← List.getD_eq_getElem?_getD]; exact getD_mem s 0 i0 i1))
/-- the numbers of the labels, in a map -/
structure NumM (m : List (Int × Int)) (s : List Int) : Prop where
  n : m.length = s.length
  f : ∀ k : Int, mfindR (.int .i64) (.int .i64) m k = if idxR s k < 0 then none else some (idxR s k)
theorem mfind_set {x y z : Int} : ∀ {l : List (Int × Int)}, mfindR (.int .i64) (.int .i64) (msetR (.int .i64) (.int .i64) l x z) y = if y = x then some z else mfindR (.int .i64) (.int .i64) l y
  | [] => by
    show mfindR (.int .i64) (.int .i64) [(x, z)] y = _
    rw [mfind_cons]
    by_cases h : y = x
    · rw [if_pos (eqR_iff.2 h), if_pos h]
    · rw [if_neg (fun e => h (eqR_iff.1 e)), if_neg h]
  | e :: r => by
    have ih := @mfind_set x y z r
    unfold msetR
    by_cases h : eqR (.int .i64) x e.1 = true
    · rw [if_pos h, mfind_cons, mfind_cons]
      have e1 := eqR_iff.1 h
      rw [← e1]
      by_cases h2 : y = x
      · rw [if_pos (eqR_iff.2 h2), if_pos h2]
      · rw [if_neg (fun e => h2 (eqR_iff.1 e)), if_neg h2, if_neg (fun e => h2 (eqR_iff.1 e))]
    · rw [if_neg h, mfind_cons, mfind_cons, ih]
      by_cases h2 : eqR (.int .i64) y e.1 = true
      · rw [if_pos h2, if_pos h2, if_neg]
        intro h3; exact h (eqR_iff.2 (h3 ▸ eqR_iff.1 h2))
      · rw [if_neg h2, if_neg h2]
theorem NumM.add {m : List (Int × Int)} {s : List Int} (h : NumM m s) {k : Int} (hk : idxR s k < 0) : NumM (msetR (.int .i64) (.int .i64) m k m.length) (s ++ [k]) := by
  have hno : k ∉ m.map (·.1) := fun hm => by
    have : ∀ {l : List (Int × Int)}, k ∈ l.map (·.1) → mfindR (.int .i64) (.int .i64) l k ≠ none := by
      intro l
      induction l with
      | nil => intro h; simp at h
      | cons e r ih =>
        intro hm
        rw [mfind_cons]
        split
        · simp
        · rename_i h1
          rcases List.mem_cons.1 hm with h2 | h2
          · exact absurd (eqR_iff.2 h2) h1
          · exact ih h2
    have := this hm
    rw [h.f, if_pos hk] at this
    exact this rfl
  refine ⟨?_, fun y => ?_⟩
  · have := @mset_out (.int .i64) (.int .i64) k m.length m hno
    rw [this, List.length_append, h.n]; rfl
  · rw [mfind_set]
    by_cases e : y = k
    · subst e
      rw [if_pos rfl, idx_new hk, if_neg (by omega), h.n]
    · rw [if_neg e, h.f]
      by_cases hy : idxR s y < 0
      · have hn : y ∉ s := fun hm => by have := ((idx_p (0 : Int)).1 hm).1; omega
        have : idxR (s ++ [k]) y = -1 := (idx_p (0 : Int)).2 (by simp [hn, e])
        rw [if_pos hy, this, if_pos (by omega)]
      · rw [idx_app _ (by omega)]

def c_impl_normal : Ct := ⟨[(.sl (.int .i64))], [false], fun x => [x.1.length ≤ 1099511627776], [(false, (.sl (.fz (.int .i64))))], fun x => (normR x.1, ()), false, none⟩
def W_impl_normal (labels : List Int) (K : (List Int) × Unit → Prop) : Prop := (((0 : Int) ≤ (((List.length labels) : Nat) : Int)) ∧ (((((List.length labels) : Nat) : Int) ≤ (((List.length labels) : Nat) : Int)) ∧ (((((List.length labels) : Nat) : Int) ≤ ((140737488355328 : Nat) : Int)) ∧ ((((((List.length labels) : Nat) : Int) * ((8 : Nat) : Int)) ≤ ((140737488355328 : Nat) : Int)) ∧ (loopW (S := ((Unit × (Unit × (Int × Unit))) × ((List (Int × Int)) × ((List Int) × Unit)))) (fun s => (fun next => ((inK IntKind.i64 s.1.2.2.1) → ((T.ok (T.mp (T.int IntKind.i64) (T.int IntKind.i64)) s.2.1) → ((T.ok (T.sl (T.int IntKind.i64)) s.2.2.1) → (cnd (decide (s.1.2.2.1 < (((List.length labels) : Nat) : Int))) (((0 : Int) ≤ s.1.2.2.1) ∧ ((s.1.2.2.1 < (((List.length labels) : Nat) : Int)) ∧ (joinW (S := ((Unit × (Unit × (Int × Unit))) × ((List (Int × Int)) × ((List Int) × Unit)))) (fun s1 => ((inK IntKind.i64 s1.1.2.2.1) → ((T.ok (T.mp (T.int IntKind.i64) (T.int IntKind.i64)) s1.2.1) → ((T.ok (T.sl (T.int IntKind.i64)) s1.2.2.1) → (((0 : Int) ≤ s.1.2.2.1) ∧ ((s.1.2.2.1 < (((List.length s1.2.2.1) : Nat) : Int)) ∧ ((inK IntKind.i64 (s.1.2.2.1 + (1 : Int))) ∧ (next (((), ((), ((s.1.2.2.1 + (1 : Int)), ()))), (s1.2.1, ((List.set s1.2.2.1 (Int.toNat s.1.2.2.1) s1.1.2.2.1), ()))))))))))) (fun k => (cnd (!(mhasR (T.int IntKind.i64) (T.int IntKind.i64) s.2.1 (List.getD labels (Int.toNat s.1.2.2.1) (0 : Int)))) ((room (List.length s.2.1) 1 1) ∧ (k (((), ((), ((((List.length s.2.1) : Nat) : Int), ()))), ((msetR (T.int IntKind.i64) (T.int IntKind.i64) s.2.1 (List.getD labels (Int.toNat s.1.2.2.1) (0 : Int)) (((List.length s.2.1) : Nat) : Int)), (s.2.2.1, ()))))) (k (((), ((), ((mgetR (T.int IntKind.i64) (T.int IntKind.i64) s.2.1 (List.getD labels (Int.toNat s.1.2.2.1) (0 : Int))), ()))), (s.2.1, (s.2.2.1, ()))))))))) (K (s.2.2.1, ())))))))) (((), ((), ((0 : Int), ()))), (([] : List (Int × Int)), ((List.replicate (Int.toNat (((List.length labels) : Nat) : Int)) (0 : Int)), ()))))))))
theorem w_impl_normal (x : denL c_impl_normal.args) (K : (List Int) × Unit → Prop) : evF tab (lkp []) (cutL []) Try.f33 (bodyOf Try.f33) (.s .n (.s .n (.s .n (.s (.s .n (.l [(3, (.ref 9 [])), (4, (.ref 12 [])), (15, (.d (.int .i64)))] [(9, (.mp (.int .i64) (.int .i64))), (12, (.sl (.fz (.int .i64))))] [13, 14] (.s .n (.s .n (.s (.s .n (.s .n (.s (.s .n (.j [(3, (.ref 9 [])), (4, (.ref 12 [])), (7, (.d (.int .i64)))] [(9, (.mp (.int .i64) (.int .i64))), (12, (.sl (.fz (.int .i64))))] [5, 13, 14, 15] .n)) .n))) .n))))) .n)))) c_impl_normal x K = W_impl_normal x.1 K := by kernel_rfl
theorem k_impl_normal : okC Try.f33.ntmps (cutL []) (bodyOf Try.f33) = true := by kernel_rfl
theorem m_impl_normal (labels : List Int) (hok : allP (okL c_impl_normal.args (labels, ()))) (hpre : allP (c_impl_normal.pre (labels, ()))) : W_impl_normal labels (fun r => r = c_impl_normal.res (labels, ())) := by
  simp only [c_impl_normal, okL, T.oks, T.ok, ap, allP, true_and, and_true, implies_true] at hok hpre
  try dsimp only [T.den] at hok
  try dsimp only [T.den] at hpre
  unfold W_impl_normal
  have hl : labels.length ≤ 1099511627776 := hpre
  clear hok
  refine ⟨by omega, Int.le_refl _, by omega, by omega, ?_⟩
  rw [Int.toNat_natCast, tab_rep]
  refine loop_of (fun (s : ((Unit × (Unit × (Int × Unit))) × ((List (Int × Int)) × ((List Int) × Unit)))) => 0 ≤ s.1.2.2.1 ∧ s.1.2.2.1 ≤ labels.length ∧ NumM s.2.1 (dedR (labels.take s.1.2.2.1.toNat)) ∧ s.2.2.1 = tabN labels.length fun k => if k < s.1.2.2.1 then idxR (dedR labels) (labels.getD k.toNat 0) else 0) (fun (s : ((Unit × (Unit × (Int × Unit))) × ((List (Int × Int)) × ((List Int) × Unit)))) => (labels.length - s.1.2.2.1).toNat) ?_ ⟨by simp, by simp, ⟨rfl, fun k => rfl⟩, tabN_congr fun k k0 _ => by dsimp only; rw [if_neg (by omega)]⟩
  rintro ⟨⟨_, _, i, _⟩, m, out, _⟩ next ⟨i0, i1, hM, ho⟩ hn _ _ _
  try dsimp only at i0 i1 hM ho hn ⊢
  refine cnd_d (fun hc => ?_) (fun hc => ?_)
  · have hs := @ded_s labels i i0 hc
    have hex := @ded_ext labels (i + 1).toNat (labels.getD i.toNat 0)
    have hml : m.length ≤ labels.length := by
      rw [hM.n]; have := ded_len (labels.take i.toNat) []; rw [List.length_take] at this; simp only [List.length_nil] at this; unfold dedR; omega
    have hout : ∀ v : Int, v = idxR (dedR labels) (labels.getD i.toNat 0) → out.set i.toNat v = tabN labels.length fun k => if k < i + 1 then idxR (dedR labels) (labels.getD k.toNat 0) else 0 := fun v hv => by
      rw [ho, tab_set i0 hc]
      refine tabN_congr fun k k0 k1 => ?_
      by_cases h : k = i
      · rw [if_pos h, if_pos (by omega), hv, h]
      · rw [if_neg h]
        by_cases h2 : k < i
        · rw [if_pos h2, if_pos (by omega)]
        · rw [if_neg h2, if_neg (by omega)]
    have hol : i < (out.length : Int) := by rw [ho, tabN_len]; exact hc
    rw [hs] at hex
    generalize labels.getD i.toNat 0 = k at *
    refine ⟨i0, hc, ?_⟩
    refine join_of (fun (s : ((Unit × (Unit × (Int × Unit))) × ((List (Int × Int)) × ((List Int) × Unit)))) => NumM s.2.1 (dedSt (dedR (labels.take i.toNat)) k) ∧ s.1.2.2.1 = idxR (dedR labels) k ∧ s.2.2.1 = out) (fun s ⟨s1, s2, s3⟩ _ _ _ => ⟨i0, by rw [s3]; exact hol, by rw [inK64]; (try dsimp only); omega, hn _ ⟨by dsimp only; omega, by dsimp only; omega, by dsimp only; rw [hs]; exact s1, by dsimp only; rw [s3]; exact hout _ s2⟩ (by dsimp only; omega)⟩) (fun kk hk => ?_)
    have hf := hM.f k
    refine cnd_of (fun hx => ?_) (fun hx => ?_)
    · have hneg : idxR (dedR (labels.take i.toNat)) k < 0 := by
        refine Decidable.byContradiction fun h => ?_
        rw [if_neg h] at hf
        simp [mhasR, hf] at hx
      have hd : dedSt (dedR (labels.take i.toNat)) k = dedR (labels.take i.toNat) ++ [k] := by unfold dedSt; rw [if_pos hneg]
      have hi := idx_new hneg
      rw [hd] at hex hk
      rw [hi] at hex
      refine ⟨by unfold room; rw [nb_eq]; omega, hk _ ⟨hM.add hneg, ?_, rfl⟩⟩
      try dsimp only
      rw [hex (by omega), hM.n]
    · have hpos : ¬ idxR (dedR (labels.take i.toNat)) k < 0 := fun h => by
        rw [if_pos h] at hf
        simp [mhasR, hf] at hx
      have hd : dedSt (dedR (labels.take i.toNat)) k = dedR (labels.take i.toNat) := by unfold dedSt; rw [if_neg hpos]
      rw [if_neg hpos] at hf
      rw [hd] at hex hk
      refine hk _ ⟨hM, ?_, rfl⟩
      try dsimp only
      rw [hex (by omega)]
      unfold mgetR; rw [hf]; rfl
  · have e : i = labels.length := by omega
    subst e
    simp only [c_impl_normal, normR]
    rw [ho]
    congr 1
    apply List.ext_getElem?
    intro k
    rw [List.getElem?_map]
    by_cases hk : k < labels.length
    · have h1 := @tabN_get Int (fun k => if k < (labels.length : Int) then idxR (dedR labels) (labels.getD k.toNat 0) else 0) 0 k labels.length (by omega) (by omega)
      rw [Int.toNat_natCast, if_pos (by omega), List.getD_eq_getElem?_getD, List.getElem?_eq_getElem (by rw [tabN_len]; exact hk)] at h1
      rw [List.getElem?_eq_getElem (by rw [tabN_len]; exact hk), List.getElem?_eq_getElem hk]
      simp only [Option.getD_some] at h1
      rw [h1, List.getD_eq_getElem?_getD, List.getElem?_eq_getElem hk]; rfl
    · rw [List.getElem?_eq_none (by rw [tabN_len]; omega), List.getElem?_eq_none (by omega)]; rfl
theorem ct_impl_normal : CtOk Try.prog 33 c_impl_normal :=
  ct_by (Φ := lkp []) good_nil tab_ok (by kernel_rfl) (fn := Try.f33) (c := bodyOf Try.f33) (by kernel_rfl) (by kernel_rfl) (by kernel_rfl) c_impl_normal rfl (.s .n (.s .n (.s .n (.s (.s .n (.l [(3, (.ref 9 [])), (4, (.ref 12 [])), (15, (.d (.int .i64)))] [(9, (.mp (.int .i64) (.int .i64))), (12, (.sl (.fz (.int .i64))))] [13, 14] (.s .n (.s .n (.s (.s .n (.s .n (.s (.s .n (.j [(3, (.ref 9 [])), (4, (.ref 12 [])), (7, (.d (.int .i64)))] [(9, (.mp (.int .i64) (.int .i64))), (12, (.sl (.fz (.int .i64))))] [5, 13, 14, 15] .n)) .n))) .n))))) .n)))) (cutL []) (by kernel_rfl) (by kernel_rfl) k_impl_normal (by decide) (fun x K => W_impl_normal x.1 K) w_impl_normal (fun x h1 h2 => m_impl_normal x.1 h1 h2)
def facR (n : Int) (f : List Int) : List Int := if codeR n [f] = 0 then f.map (idxR (imageR n f)) else []
theorem sel_nd {p : Int → Bool} : ∀ n : Nat, (selR n p).Nodup
  | 0 => List.nodup_nil
  | n + 1 => by
    rw [selR]
    split
    · rw [List.nodup_append]
      refine ⟨sel_nd n, by simp, fun a ha b hb => ?_⟩
      have := sel_mem.1 ha
      simp only [List.mem_singleton] at hb
      omega
    · exact sel_nd n
theorem idx_nd {l : List Int} (h : l.Nodup) {i : Int} (i0 : 0 ≤ i) (i1 : i < l.length) : idxR l (l.getD i.toNat 0) = i := by
  refine idx_at (z := (0 : Int)) i0 i1 rfl (fun k k0 k1 e => ?_)
  have := List.pairwise_iff_getElem.1 h k.toNat i.toNat (by omega) (by omega) (by omega)
  rw [List.getD_eq_getElem?_getD, List.getD_eq_getElem?_getD, List.getElem?_eq_getElem (by omega), List.getElem?_eq_getElem (by omega)] at e
  exact this e
theorem idx_in {l : List Int} {x : Int} (h : x ∈ l) : 0 ≤ idxR l x ∧ idxR l x < l.length ∧ l.getD (idxR l x).toNat 0 = x := by
  obtain ⟨h0, h1, h2, _⟩ := (idx_p (0 : Int)).1 h
  exact ⟨h0, h1, h2⟩
theorem image_has {n : Int} {f : List Int} (hw : withinR f n = true) (h0 : 0 ≤ n) {y : Int} (hy : y ∈ f) : y ∈ imageR n f := by
  have : ∀ x ∈ f, 0 ≤ x ∧ x ≤ n - 1 := by simpa [withinR, inR] using hw
  have := this y hy
  unfold imageR
  rw [sel_mem]
  exact ⟨by omega, by omega, by simp only [hasR, List.any_eq_true]; exact ⟨y, hy, by simp⟩⟩

def c_impl_FactorMap : Ct := ⟨[(.int .i64), (.sl (.int .i64))], [false, false], fun x => [], [(false, (.sl (.fz (.int .i64)))), (false, (.fz (.sl (.int .i64)))), (false, (.fz (.int .i64)))], fun x => (facR x.1 x.2.1, imgOfR x.1 x.2.1, codeR x.1 [x.2.1], ()), true, none⟩
def W_impl_FactorMap (n : Int) (f : List Int) (K : (List Int) × (List Int) × Int × Unit → Prop) : Prop := (cnd ((codeR n (f :: ([] : List (List Int)))) != (0 : Int)) (K (([] : List Int), (([] : List Int), ((codeR n (f :: ([] : List (List Int)))), ())))) (((0 : Int) ≤ n) ∧ ((n ≤ (256 : Int)) ∧ (((withinR f n) = Bool.true) ∧ (((0 : Int) ≤ n) ∧ ((n ≤ n) ∧ ((n ≤ ((140737488355328 : Nat) : Int)) ∧ (((n * ((8 : Nat) : Int)) ≤ ((140737488355328 : Nat) : Int)) ∧ (loopW (S := ((Unit × (Int × Unit)) × ((List Int) × Unit))) (fun s => (fun next => ((inK IntKind.i64 s.1.2.1) → ((T.ok (T.sl (T.int IntKind.i64)) s.2.1) → (cnd (decide (s.1.2.1 < (((List.length (imageR n f)) : Nat) : Int))) (((0 : Int) ≤ s.1.2.1) ∧ ((s.1.2.1 < (((List.length (imageR n f)) : Nat) : Int)) ∧ (((0 : Int) ≤ (List.getD (imageR n f) (Int.toNat s.1.2.1) (0 : Int))) ∧ (((List.getD (imageR n f) (Int.toNat s.1.2.1) (0 : Int)) < (((List.length s.2.1) : Nat) : Int)) ∧ ((inK IntKind.i64 (s.1.2.1 + (1 : Int))) ∧ (next (((), ((s.1.2.1 + (1 : Int)), ())), ((List.set s.2.1 (Int.toNat (List.getD (imageR n f) (Int.toNat s.1.2.1) (0 : Int))) s.1.2.1), ())))))))) (((List.length f) ≤ 1099511627776) ∧ (((withinR f (((List.length s.2.1) : Nat) : Int)) = Bool.true) ∧ (K ((thenR f s.2.1), ((imageR n f), ((0 : Int), ()))))))))))) (((), ((0 : Int), ())), ((List.replicate (Int.toNat n) (0 : Int)), ())))))))))))
theorem w_impl_FactorMap (x : denL c_impl_FactorMap.args) (K : (List Int) × (List Int) × Int × Unit → Prop) : evF tab (lkp [(26, c_impl_image), (25, c_impl_mapCode), (27, c_impl_then)]) (cutL []) Try.f7 (bodyOf Try.f7) (.s .n (.s .n (.s .n (.s .n (.s (.s .n (.l [(9, (.ref 23 [])), (26, (.d (.int .i64)))] [(23, (.sl (.fz (.int .i64))))] [1, 8, 24, 25] .n)) .n))))) c_impl_FactorMap x K = W_impl_FactorMap x.1 x.2.1 K := by kernel_rfl
theorem k_impl_FactorMap : okC Try.f7.ntmps (cutL []) (bodyOf Try.f7) = true := by kernel_rfl
theorem m_impl_FactorMap (n : Int) (f : List Int) (hok : allP (okL c_impl_FactorMap.args (n, f, ()))) (hpre : allP (c_impl_FactorMap.pre (n, f, ()))) : W_impl_FactorMap n f (fun r => r = c_impl_FactorMap.res (n, f, ())) := by
  simp only [c_impl_FactorMap, okL, T.oks, T.ok, ap, allP, true_and, and_true, implies_true] at hok hpre
  try dsimp only [T.den] at hok
  try dsimp only [T.den] at hpre
  unfold W_impl_FactorMap
  simp only [c_impl_FactorMap, facR, imgOfR]
  clear hok
  refine cnd_of (fun hc => ?_) (fun hc => ?_)
  · rw [if_neg (by simpa using hc), if_neg (by simpa using hc)]
  have hz : codeR n [f] = 0 := by simpa using hc
  obtain ⟨⟨h0, h1⟩, h2, h3⟩ := code_z.1 hz
  rw [if_pos hz, if_pos hz, hz]
  have hI : (imageR n f).length ≤ n.toNat := sel_len _
  have hm : ∀ i : Int, 0 ≤ i → i < (imageR n f).length → 0 ≤ (imageR n f).getD i.toNat 0 ∧ (imageR n f).getD i.toNat 0 < n := fun i i0 i1 => by
    have := sel_mem.1 (getD_mem (imageR n f) 0 i0 i1)
    omega
  refine ⟨h0, h1, h3, h0, Int.le_refl _, by omega, by omega, ?_⟩
  refine loop_ixa (fun i => tabN n.toNat fun y => if 0 ≤ idxR (imageR n f) y ∧ idxR (imageR n f) y < i then idxR (imageR n f) y else 0) (n := (imageR n f).length) (by omega) ?_ ?_ ?_
  · rw [tab_rep]
    exact tabN_congr fun y _ _ => by rw [if_neg (by omega)]
  · intro i next i0 i1 hn _ _
    try dsimp only at hn ⊢
    have hy := hm i i0 i1
    refine cnd_d (fun _ => ⟨i0, i1, hy.1, by rw [tabN_len]; omega, by rw [inK64]; (try dsimp only); omega, ?_⟩) (fun h => absurd i1 h)
    rw [tab_set hy.1 (by omega)]
    have e : (tabN n.toNat fun y => if y = (imageR n f).getD i.toNat 0 then i else if 0 ≤ idxR (imageR n f) y ∧ idxR (imageR n f) y < i then idxR (imageR n f) y else 0) = tabN n.toNat fun y => if 0 ≤ idxR (imageR n f) y ∧ idxR (imageR n f) y < i + 1 then idxR (imageR n f) y else 0 := by
      refine tabN_congr fun y _ _ => ?_
      by_cases hy : y = (imageR n f).getD i.toNat 0
      · rw [if_pos hy, hy, idx_nd (show (imageR n f).Nodup from sel_nd _) i0 i1, if_pos ⟨i0, by omega⟩]
      · rw [if_neg hy]
        have : idxR (imageR n f) y ≠ i := fun e => by
          have hym : y ∈ imageR n f := Decidable.byContradiction fun hn => by have := (idx_p (0 : Int)).2 hn; omega
          have := (idx_in hym).2.2
          rw [e] at this
          exact hy this.symm
        grind
    rw [e]
    exact hn
  · intro next _ _
    refine cnd_d (fun h => absurd h (Int.lt_irrefl _)) (fun _ => ⟨by omega, by rw [tabN_len]; rw [show ((n.toNat : Nat) : Int) = n from by omega]; exact h3, ?_⟩)
    have e : thenR f (tabN n.toNat fun y => if 0 ≤ idxR (imageR n f) y ∧ idxR (imageR n f) y < ((imageR n f).length : Int) then idxR (imageR n f) y else 0) = f.map (idxR (imageR n f)) := by
      unfold thenR
      refine List.map_congr_left fun y hy => ?_
      have hyI := image_has h3 h0 hy
      have hb := sel_mem.1 hyI
      rw [tabN_get (by omega) (by omega), if_pos ⟨(idx_in hyI).1, (idx_in hyI).2.1⟩]
    rw [e]
theorem ct_impl_FactorMap : CtOk Try.prog 7 c_impl_FactorMap :=
  ct_by (Φ := lkp [(26, c_impl_image), (25, c_impl_mapCode), (27, c_impl_then)]) (good_cons ct_impl_image (good_cons ct_impl_mapCode (good_cons ct_impl_then good_nil))) tab_ok (by kernel_rfl) (fn := Try.f7) (c := bodyOf Try.f7) (by kernel_rfl) (by kernel_rfl) (by kernel_rfl) c_impl_FactorMap rfl (.s .n (.s .n (.s .n (.s .n (.s (.s .n (.l [(9, (.ref 23 [])), (26, (.d (.int .i64)))] [(23, (.sl (.fz (.int .i64))))] [1, 8, 24, 25] .n)) .n))))) (cutL []) (by kernel_rfl) (by kernel_rfl) k_impl_FactorMap (by decide) (fun x K => W_impl_FactorMap x.1 x.2.1 K) w_impl_FactorMap (fun x h1 h2 => m_impl_FactorMap x.1 x.2.1 h1 h2)
def c_impl_IsMap : Ct := ⟨[(.int .i64), (.sl (.int .i64))], [false, false], fun x => [], [(false, (.fz .bool))], fun x => ((inR x.1 0 256 && mapsR x.1 x.2.1), ()), false, none⟩
def W_impl_IsMap (n : Int) (f : List Int) (K : Bool × Unit → Prop) : Prop := ((((inR n (0 : Int) (256 : Int)) = Bool.true) → (inK IntKind.i64 (n - (1 : Int)))) ∧ (K (((inR n (0 : Int) (256 : Int)) && (mapsR n f)), ())))
theorem w_impl_IsMap (x : denL c_impl_IsMap.args) (K : Bool × Unit → Prop) : evF tab (lkp [(31, c_impl_isSize), (32, c_impl_maps)]) (cutL []) Try.f10 (bodyOf Try.f10) .n c_impl_IsMap x K = W_impl_IsMap x.1 x.2.1 K := by kernel_rfl
theorem k_impl_IsMap : okC Try.f10.ntmps (cutL []) (bodyOf Try.f10) = true := by kernel_rfl
theorem m_impl_IsMap (n : Int) (f : List Int) (hok : allP (okL c_impl_IsMap.args (n, f, ()))) (hpre : allP (c_impl_IsMap.pre (n, f, ()))) : W_impl_IsMap n f (fun r => r = c_impl_IsMap.res (n, f, ())) := by
  simp only [c_impl_IsMap, okL, T.oks, T.ok, ap, allP, true_and, and_true, implies_true] at hok hpre
  try dsimp only [T.den] at hok
  try dsimp only [T.den] at hpre
  unfold W_impl_IsMap
  refine ⟨fun h => ?_, rfl⟩
  have hn : n ≥ 0 ∧ n ≤ 256 := by simpa [inR] using h
  rw [inK64]; omega
theorem ct_impl_IsMap : CtOk Try.prog 10 c_impl_IsMap :=
  ct_by (Φ := lkp [(31, c_impl_isSize), (32, c_impl_maps)]) (good_cons ct_impl_isSize (good_cons ct_impl_maps good_nil)) tab_ok (by kernel_rfl) (fn := Try.f10) (c := bodyOf Try.f10) (by kernel_rfl) (by kernel_rfl) (by kernel_rfl) c_impl_IsMap rfl .n (cutL []) (by kernel_rfl) (by kernel_rfl) k_impl_IsMap (by decide) (fun x K => W_impl_IsMap x.1 x.2.1 K) w_impl_IsMap (fun x h1 h2 => m_impl_IsMap x.1 x.2.1 h1 h2)
def isNrmR : List Int → Int → Bool
  | [], _ => true
  | k :: r, n => inR k 0 n && isNrmR r (if k = n then n + 1 else n)

def c_impl_partition_isNormal : Ct := ⟨[(.sl (.int .i64))], [false], fun x => [], [(false, (.fz .bool))], fun x => (isNrmR x.1 0, ()), false, none⟩
def W_impl_partition_isNormal (p : List Int) (K : Bool × Unit → Prop) : Prop := (loopW (S := ((Int × (Int × Unit)) × Unit)) (fun s => (fun next => ((inK IntKind.i64 s.1.1) → ((inK IntKind.i64 s.1.2.1) → (cnd (decide (s.1.2.1 < (((List.length p) : Nat) : Int))) (((0 : Int) ≤ s.1.2.1) ∧ ((s.1.2.1 < (((List.length p) : Nat) : Int)) ∧ (cnd (!(inR (List.getD p (Int.toNat s.1.2.1) (0 : Int)) (0 : Int) s.1.1)) (K (Bool.false, ())) (joinW (S := ((Int × Unit) × Unit)) (fun s1 => ((inK IntKind.i64 s1.1.1) → ((inK IntKind.i64 (s.1.2.1 + (1 : Int))) ∧ (next ((s1.1.1, ((s.1.2.1 + (1 : Int)), ())), ()))))) (fun k => (cnd ((List.getD p (Int.toNat s.1.2.1) (0 : Int)) == s.1.1) ((inK IntKind.i64 (s.1.1 + (1 : Int))) ∧ (k (((s.1.1 + (1 : Int)), ()), ()))) (k ((s.1.1, ()), ())))))))) (K (Bool.true, ()))))))) (((0 : Int), ((0 : Int), ())), ()))
theorem w_impl_partition_isNormal (x : denL c_impl_partition_isNormal.args) (K : Bool × Unit → Prop) : evF tab (lkp [(71, c_impl_inRange)]) (cutL []) Try.f34 (bodyOf Try.f34) (.s .n (.s .n (.s (.s .n (.l [(3, (.d (.int .i64))), (8, (.d (.int .i64)))] [] [6, 7] (.s .n (.s .n (.s (.s .n (.s .n (.s .n (.j [(3, (.d (.int .i64)))] [] [6, 7, 8] .n)))) .n))))) .n))) c_impl_partition_isNormal x K = W_impl_partition_isNormal x.1 K := by kernel_rfl
theorem k_impl_partition_isNormal : okC Try.f34.ntmps (cutL []) (bodyOf Try.f34) = true := by kernel_rfl
theorem m_impl_partition_isNormal (p : List Int) (hok : allP (okL c_impl_partition_isNormal.args (p, ()))) (hpre : allP (c_impl_partition_isNormal.pre (p, ()))) : W_impl_partition_isNormal p (fun r => r = c_impl_partition_isNormal.res (p, ())) := by
  simp only [c_impl_partition_isNormal, okL, T.oks, T.ok, ap, allP, true_and, and_true, implies_true] at hok hpre
  try dsimp only [T.den] at hok
  try dsimp only [T.den] at hpre
  unfold W_impl_partition_isNormal
  have hl : p.length ≤ 140737488355328 := by simp only [nb_eq] at hok; omega
  clear hok
  refine loop_of (fun (s : ((Int × (Int × Unit)) × Unit)) => 0 ≤ s.1.2.1 ∧ s.1.2.1 ≤ p.length ∧ 0 ≤ s.1.1 ∧ s.1.1 ≤ s.1.2.1 ∧ isNrmR p 0 = isNrmR (p.drop s.1.2.1.toNat) s.1.1) (fun (s : ((Int × (Int × Unit)) × Unit)) => (p.length - s.1.2.1).toNat) ?_ ⟨by simp, by simp, by simp, by simp, by simp⟩
  rintro ⟨⟨k, i, _⟩, _⟩ next ⟨h0, h1, h2, h3, h4⟩ hn _ _
  try dsimp only at h0 h1 h2 h3 h4 hn ⊢
  refine cnd_d (fun hc => ?_) (fun hc => ?_)
  · rw [drop_c p 0 h0 hc, isNrmR] at h4
    refine ⟨h0, hc, cnd_of (fun hx => ?_) (fun hx => ?_)⟩
    · simp only [c_impl_partition_isNormal]; rw [h4, show inR (p.getD i.toNat 0) 0 k = false by simpa using hx, Bool.false_and]
    · rw [show inR (p.getD i.toNat 0) 0 k = true by simpa using hx, Bool.true_and] at h4
      refine join_of (fun s1 => s1.1.1 = (if p.getD i.toNat 0 = k then k + 1 else k)) (fun s1 hs _ => ⟨by rw [inK64]; (try dsimp only); omega, hn _ ⟨(by first | omega | (dsimp only; omega)), (by first | omega | (dsimp only; omega)), ?_, ?_, ?_⟩ (by first | omega | (dsimp only; omega))⟩) (fun kk hk => cnd_of (fun hy => ⟨by rw [inK64]; (try dsimp only); omega, hk _ ?_⟩) (fun hy => hk _ ?_))
      · try dsimp only; rw [hs]; split <;> omega
      · try dsimp only; rw [hs]; split <;> omega
      · try dsimp only; rw [hs, h4]
      · try dsimp only; rw [if_pos (by simpa using hy)]
      · try dsimp only; rw [if_neg (by simpa using hy)]
  · rw [drop_n p (by omega)] at h4
    simp only [c_impl_partition_isNormal]; rw [h4]; rfl
theorem ct_impl_partition_isNormal : CtOk Try.prog 34 c_impl_partition_isNormal :=
  ct_by (Φ := lkp [(71, c_impl_inRange)]) (good_cons ct_impl_inRange good_nil) tab_ok (by kernel_rfl) (fn := Try.f34) (c := bodyOf Try.f34) (by kernel_rfl) (by kernel_rfl) (by kernel_rfl) c_impl_partition_isNormal rfl (.s .n (.s .n (.s (.s .n (.l [(3, (.d (.int .i64))), (8, (.d (.int .i64)))] [] [6, 7] (.s .n (.s .n (.s (.s .n (.s .n (.s .n (.j [(3, (.d (.int .i64)))] [] [6, 7, 8] .n)))) .n))))) .n))) (cutL []) (by kernel_rfl) (by kernel_rfl) k_impl_partition_isNormal (by decide) (fun x K => W_impl_partition_isNormal x.1 K) w_impl_partition_isNormal (fun x h1 h2 => m_impl_partition_isNormal x.1 h1 h2)
def isPtR (p : List Int) : Bool := decide ((p.length : Int) ≤ 256) && isNrmR p 0

def c_impl_IsPartition : Ct := ⟨[(.sl (.int .i64))], [false], fun x => [], [(false, (.fz .bool))], fun x => (isPtR x.1, ()), false, none⟩
def W_impl_IsPartition (p : List Int) (K : Bool × Unit → Prop) : Prop := (K (((decide ((((List.length p) : Nat) : Int) ≤ (256 : Int))) && (isNrmR p (0 : Int))), ()))
theorem w_impl_IsPartition (x : denL c_impl_IsPartition.args) (K : Bool × Unit → Prop) : evF tab (lkp [(34, c_impl_partition_isNormal)]) (cutL []) Try.f14 (bodyOf Try.f14) .n c_impl_IsPartition x K = W_impl_IsPartition x.1 K := by kernel_rfl
theorem k_impl_IsPartition : okC Try.f14.ntmps (cutL []) (bodyOf Try.f14) = true := by kernel_rfl
theorem m_impl_IsPartition (p : List Int) (hok : allP (okL c_impl_IsPartition.args (p, ()))) (hpre : allP (c_impl_IsPartition.pre (p, ()))) : W_impl_IsPartition p (fun r => r = c_impl_IsPartition.res (p, ())) := by
  simp only [c_impl_IsPartition, okL, T.oks, T.ok, ap, allP, true_and, and_true, implies_true] at hok hpre
  try dsimp only [T.den] at hok
  try dsimp only [T.den] at hpre
  unfold W_impl_IsPartition
  rfl
theorem ct_impl_IsPartition : CtOk Try.prog 14 c_impl_IsPartition :=
  ct_by (Φ := lkp [(34, c_impl_partition_isNormal)]) (good_cons ct_impl_partition_isNormal good_nil) tab_ok (by kernel_rfl) (fn := Try.f14) (c := bodyOf Try.f14) (by kernel_rfl) (by kernel_rfl) (by kernel_rfl) c_impl_IsPartition rfl .n (cutL []) (by kernel_rfl) (by kernel_rfl) k_impl_IsPartition (by decide) (fun x K => W_impl_IsPartition x.1 K) w_impl_IsPartition (fun x h1 h2 => m_impl_IsPartition x.1 h1 h2)
def kerOfR (n : Int) (f : List Int) : List Int := if codeR n [f] = 0 then normR f else []

def c_impl_KernelOf : Ct := ⟨[(.int .i64), (.sl (.int .i64))], [false, false], fun x => [], [(false, (.sl (.fz (.int .i64)))), (false, (.fz (.int .i64)))], fun x => (kerOfR x.1 x.2.1, codeR x.1 [x.2.1], ()), false, none⟩
def W_impl_KernelOf (n : Int) (f : List Int) (K : (List Int) × Int × Unit → Prop) : Prop := (cnd ((codeR n (f :: ([] : List (List Int)))) != (0 : Int)) (K (([] : List Int), ((codeR n (f :: ([] : List (List Int)))), ()))) (((List.length f) ≤ 1099511627776) ∧ (K ((normR f), ((0 : Int), ())))))
theorem w_impl_KernelOf (x : denL c_impl_KernelOf.args) (K : (List Int) × Int × Unit → Prop) : evF tab (lkp [(25, c_impl_mapCode), (33, c_impl_normal)]) (cutL []) Try.f11 (bodyOf Try.f11) .n c_impl_KernelOf x K = W_impl_KernelOf x.1 x.2.1 K := by kernel_rfl
theorem k_impl_KernelOf : okC Try.f11.ntmps (cutL []) (bodyOf Try.f11) = true := by kernel_rfl
theorem m_impl_KernelOf (n : Int) (f : List Int) (hok : allP (okL c_impl_KernelOf.args (n, f, ()))) (hpre : allP (c_impl_KernelOf.pre (n, f, ()))) : W_impl_KernelOf n f (fun r => r = c_impl_KernelOf.res (n, f, ())) := by
  simp only [c_impl_KernelOf, okL, T.oks, T.ok, ap, allP, true_and, and_true, implies_true] at hok hpre
  try dsimp only [T.den] at hok
  try dsimp only [T.den] at hpre
  unfold W_impl_KernelOf
  simp only [c_impl_KernelOf, kerOfR]
  refine cnd_of (fun hc => ?_) (fun hc => ?_)
  · rw [if_neg (by simpa using hc)]
  · have hz : codeR n [f] = 0 := by simpa using hc
    obtain ⟨⟨h0, h1⟩, h2, h3⟩ := code_z.1 hz
    exact ⟨by omega, by rw [if_pos hz, hz]⟩
theorem ct_impl_KernelOf : CtOk Try.prog 11 c_impl_KernelOf :=
  ct_by (Φ := lkp [(25, c_impl_mapCode), (33, c_impl_normal)]) (good_cons ct_impl_mapCode (good_cons ct_impl_normal good_nil)) tab_ok (by kernel_rfl) (fn := Try.f11) (c := bodyOf Try.f11) (by kernel_rfl) (by kernel_rfl) (by kernel_rfl) c_impl_KernelOf rfl .n (cutL []) (by kernel_rfl) (by kernel_rfl) k_impl_KernelOf (by decide) (fun x K => W_impl_KernelOf x.1 x.2.1 K) w_impl_KernelOf (fun x h1 h2 => m_impl_KernelOf x.1 x.2.1 h1 h2)
def thenMcR (n : Int) (f : List Int) (k : Int) (g : List Int) : Int := if (inR n 0 256 && inR k 0 256) = true then (if (mapsR n f && mapsR k g && decide ((g.length : Int) = n)) = true then 0 else 1) else 2
def thenMR (n : Int) (f : List Int) (k : Int) (g : List Int) : List Int := if thenMcR n f k g = 0 then thenR f g else []

def c_impl_ThenMaps : Ct := ⟨[(.int .i64), (.sl (.int .i64)), (.int .i64), (.sl (.int .i64))], [false, false, false, false], fun x => [], [(false, (.sl (.fz (.int .i64)))), (false, (.fz (.int .i64)))], fun x => (thenMR x.1 x.2.1 x.2.2.1 x.2.2.2.1, thenMcR x.1 x.2.1 x.2.2.1 x.2.2.2.1, ()), false, none⟩
def W_impl_ThenMaps (n : Int) (f : List Int) (k : Int) (g : List Int) (K : (List Int) × Int × Unit → Prop) : Prop := (cnd ((!(inR n (0 : Int) (256 : Int))) || (!(inR k (0 : Int) (256 : Int)))) (K (([] : List Int), ((2 : Int), ()))) ((inK IntKind.i64 (n - (1 : Int))) ∧ ((((!(mapsR n f)) = Bool.false) → (inK IntKind.i64 (k - (1 : Int)))) ∧ (cnd (((!(mapsR n f)) || (!(mapsR k g))) || ((((List.length g) : Nat) : Int) != n)) (K (([] : List Int), ((1 : Int), ()))) (((List.length f) ≤ 1099511627776) ∧ (((withinR f (((List.length g) : Nat) : Int)) = Bool.true) ∧ (K ((thenR f g), ((0 : Int), ())))))))))
theorem w_impl_ThenMaps (x : denL c_impl_ThenMaps.args) (K : (List Int) × Int × Unit → Prop) : evF tab (lkp [(31, c_impl_isSize), (32, c_impl_maps), (27, c_impl_then)]) (cutL []) Try.f13 (bodyOf Try.f13) .n c_impl_ThenMaps x K = W_impl_ThenMaps x.1 x.2.1 x.2.2.1 x.2.2.2.1 K := by kernel_rfl
theorem k_impl_ThenMaps : okC Try.f13.ntmps (cutL []) (bodyOf Try.f13) = true := by kernel_rfl
theorem m_impl_ThenMaps (n : Int) (f : List Int) (k : Int) (g : List Int) (hok : allP (okL c_impl_ThenMaps.args (n, f, k, g, ()))) (hpre : allP (c_impl_ThenMaps.pre (n, f, k, g, ()))) : W_impl_ThenMaps n f k g (fun r => r = c_impl_ThenMaps.res (n, f, k, g, ())) := by
  simp only [c_impl_ThenMaps, okL, T.oks, T.ok, ap, allP, true_and, and_true, implies_true] at hok hpre
  try dsimp only [T.den] at hok
  try dsimp only [T.den] at hpre
  unfold W_impl_ThenMaps
  refine cnd_of (fun hc => ?_) (fun hc => ?_)
  · have e : thenMcR n f k g = 2 := by
      unfold thenMcR; rw [if_neg (by simp only [Bool.or_eq_true, Bool.not_eq_true'] at hc; simp only [Bool.and_eq_true]; grind)]
    simp only [c_impl_ThenMaps, thenMR, e]; rfl
  · have hi : (inR n 0 256 && inR k 0 256) = true := by simp only [Bool.or_eq_false_iff, Bool.not_eq_false'] at hc; simp [hc.1, hc.2]
    have hn : (n ≥ 0 ∧ n ≤ 256) ∧ (k ≥ 0 ∧ k ≤ 256) := by simpa [inR] using hi
    refine ⟨by rw [inK64]; (try dsimp only); omega, fun _ => by rw [inK64]; (try dsimp only); omega, cnd_of (fun hd => ?_) (fun hd => ?_)⟩
    · have e : thenMcR n f k g = 1 := by
        unfold thenMcR; rw [if_pos hi, if_neg (by
          simp only [Bool.or_eq_true, Bool.not_eq_true', bne_iff_ne] at hd
          simp only [Bool.and_eq_true, decide_eq_true_eq]; grind)]
      simp only [c_impl_ThenMaps, thenMR, e]; rfl
    · simp only [Bool.or_eq_false_iff, Bool.not_eq_false', bne_eq_false_iff_eq] at hd
      obtain ⟨⟨d1, d2⟩, d3⟩ := hd
      have d1' : (f.length : Int) ≤ 256 ∧ withinR f n = true := by simpa [mapsR] using d1
      have e : thenMcR n f k g = 0 := by
        unfold thenMcR; rw [if_pos hi, if_pos (by simp only [Bool.and_eq_true, decide_eq_true_eq]; exact ⟨⟨d1, d2⟩, d3⟩)]
      refine ⟨by omega, by rw [d3]; exact d1'.2, ?_⟩
      simp only [c_impl_ThenMaps, thenMR, e]; rfl
theorem ct_impl_ThenMaps : CtOk Try.prog 13 c_impl_ThenMaps :=
  ct_by (Φ := lkp [(31, c_impl_isSize), (32, c_impl_maps), (27, c_impl_then)]) (good_cons ct_impl_isSize (good_cons ct_impl_maps (good_cons ct_impl_then good_nil))) tab_ok (by kernel_rfl) (fn := Try.f13) (c := bodyOf Try.f13) (by kernel_rfl) (by kernel_rfl) (by kernel_rfl) c_impl_ThenMaps rfl .n (cutL []) (by kernel_rfl) (by kernel_rfl) k_impl_ThenMaps (by decide) (fun x K => W_impl_ThenMaps x.1 x.2.1 x.2.2.1 x.2.2.2.1 K) w_impl_ThenMaps (fun x h1 h2 => m_impl_ThenMaps x.1 x.2.1 x.2.2.1 x.2.2.2.1 h1 h2)
def c_laws_big : Ct := ⟨[(.sl (.int .u8))], [false], fun x => [], [(false, (.fz .bool))], fun x => (decide ((4096 : Int) < x.1.length), ()), false, none⟩
def W_laws_big (code : List Int) (K : Bool × Unit → Prop) : Prop := (K ((decide ((4096 : Int) < (((List.length code) : Nat) : Int))), ()))
theorem w_laws_big (x : denL c_laws_big.args) (K : Bool × Unit → Prop) : evF tab (lkp []) (cutL []) Try.f5 (bodyOf Try.f5) .n c_laws_big x K = W_laws_big x.1 K := by kernel_rfl
theorem k_laws_big : okC Try.f5.ntmps (cutL []) (bodyOf Try.f5) = true := by kernel_rfl
theorem m_laws_big (code : List Int) (hok : allP (okL c_laws_big.args (code, ()))) (hpre : allP (c_laws_big.pre (code, ()))) : W_laws_big code (fun r => r = c_laws_big.res (code, ())) := by
  simp only [c_laws_big, okL, T.oks, T.ok, ap, allP, true_and, and_true, implies_true] at hok hpre
  try dsimp only [T.den] at hok
  try dsimp only [T.den] at hpre
  unfold W_laws_big
  rfl
theorem ct_laws_big : CtOk Try.prog 5 c_laws_big :=
  ct_by (Φ := lkp []) good_nil tab_ok (by kernel_rfl) (fn := Try.f5) (c := bodyOf Try.f5) (by kernel_rfl) (by kernel_rfl) (by kernel_rfl) c_laws_big rfl .n (cutL []) (by kernel_rfl) (by kernel_rfl) k_laws_big (by decide) (fun x K => W_laws_big x.1 K) w_laws_big (fun x h1 h2 => m_laws_big x.1 h1 h2)
def likeR (a b : List Int) : Bool := decide (a = b)

def c_laws_likeInts : Ct := ⟨[(.sl (.int .i64)), (.sl (.int .i64))], [false, false], fun x => [], [(false, (.fz .bool))], fun x => (likeR x.1 x.2.1, ()), false, none⟩
def W_laws_likeInts (a : List Int) (b : List Int) (K : Bool × Unit → Prop) : Prop := (cnd ((((List.length a) : Nat) : Int) != (((List.length b) : Nat) : Int)) (K (Bool.false, ())) (loopW (S := ((Int × Unit) × Unit)) (fun s => (fun next => ((inK IntKind.i64 s.1.1) → (cnd (decide (s.1.1 < (((List.length a) : Nat) : Int))) (((0 : Int) ≤ s.1.1) ∧ ((s.1.1 < (((List.length a) : Nat) : Int)) ∧ (((0 : Int) ≤ s.1.1) ∧ ((s.1.1 < (((List.length b) : Nat) : Int)) ∧ (cnd ((List.getD a (Int.toNat s.1.1) (0 : Int)) != (List.getD b (Int.toNat s.1.1) (0 : Int))) (K (Bool.false, ())) ((inK IntKind.i64 (s.1.1 + (1 : Int))) ∧ (next (((s.1.1 + (1 : Int)), ()), ())))))))) (K (Bool.true, ())))))) (((0 : Int), ()), ())))
theorem w_laws_likeInts (x : denL c_laws_likeInts.args) (K : Bool × Unit → Prop) : evF tab (lkp []) (cutL [(6, 8)]) Try.f9 (bodyOf Try.f9) (.s .n (.s .n (.s (.s .n (.l [(5, (.d (.int .i64)))] [] [0, 1] .n)) .n))) c_laws_likeInts x K = W_laws_likeInts x.1 x.2.1 K := by kernel_rfl
theorem k_laws_likeInts : okC Try.f9.ntmps (cutL [(6, 8)]) (bodyOf Try.f9) = true := by kernel_rfl
theorem m_laws_likeInts (a : List Int) (b : List Int) (hok : allP (okL c_laws_likeInts.args (a, b, ()))) (hpre : allP (c_laws_likeInts.pre (a, b, ()))) : W_laws_likeInts a b (fun r => r = c_laws_likeInts.res (a, b, ())) := by
  simp only [c_laws_likeInts, okL, T.oks, T.ok, ap, allP, true_and, and_true, implies_true] at hok hpre
  try dsimp only [T.den] at hok
  try dsimp only [T.den] at hpre
  unfold W_laws_likeInts
  have hla : a.length ≤ 140737488355328 := by have := hok.1.1; rw [nb_eq] at this; omega
  clear hok
  refine cnd_of (fun hc => ?_) (fun hc => ?_)
  · simp only [c_laws_likeInts, likeR, Prod.mk.injEq, and_true, decide_eq_false_iff_not]; rw [eq_comm, decide_eq_false_iff_not]; rintro rfl; simp at hc
  have hl : a.length = b.length := by simp at hc; omega
  refine loop_of (fun (s : ((Int × Unit) × Unit)) => 0 ≤ s.1.1 ∧ s.1.1 ≤ a.length ∧ a.take s.1.1.toNat = b.take s.1.1.toNat) (fun (s : ((Int × Unit) × Unit)) => (a.length - s.1.1).toNat) ?_ (by simp)
  rintro ⟨⟨i, _⟩, _⟩ next ⟨h0, h1, h2⟩ hn hin
  simp only at h0 h1 h2 hn ⊢
  refine cnd_d (fun hc => ?_) (fun hc => ?_)
  · have ha := take_c a 0 h0 hc
    have hb := take_c b 0 h0 (by omega)
    refine ⟨by omega, by omega, by omega, by omega, cnd_of (fun hd => ?_) (fun hd => ?_)⟩
    · simp only [c_laws_likeInts, likeR, Prod.mk.injEq, and_true]; rw [eq_comm, decide_eq_false_iff_not]; rintro rfl; simp at hd
    · refine ⟨by rw [inK64]; (try dsimp only); omega, hn _ ⟨(by first | omega | (dsimp only; omega)), (by first | omega | (dsimp only; omega)), ?_⟩ (by first | omega | (dsimp only; omega))⟩
      rw [bne_eq_false_iff_eq] at hd
      simp only [ha, hb, h2, hd]
  · rw [take_n a (by omega), take_n b (by omega)] at h2
    simp [h2, c_laws_likeInts, likeR]
theorem ct_laws_likeInts : CtOk Try.prog 9 c_laws_likeInts :=
  ct_by (Φ := lkp []) good_nil tab_ok (by kernel_rfl) (fn := Try.f9) (c := bodyOf Try.f9) (by kernel_rfl) (by kernel_rfl) (by kernel_rfl) c_laws_likeInts rfl (.s .n (.s .n (.s (.s .n (.l [(5, (.d (.int .i64)))] [] [0, 1] .n)) .n))) (cutL [(6, 8)]) (by kernel_rfl) (by kernel_rfl) k_laws_likeInts (by decide) (fun x K => W_laws_likeInts x.1 x.2.1 K) w_laws_likeInts (fun x h1 h2 => m_laws_likeInts x.1 x.2.1 h1 h2)
/-- a source that may be drawn from -/
def SrcR (s : spec_l01SourceD) : Prop := allP (T.oks spec_l01SourceT s) ∧ 0 ≤ s.2.1
theorem inKu {x : Int} : inK .u64 x ↔ 0 ≤ x ∧ x ≤ 18446744073709551615 := by
  unfold inK; exact Iff.rfl
theorem inK8 {x : Int} : inK .u8 x ↔ 0 ≤ x ∧ x ≤ 255 := by
  unfold inK; exact Iff.rfl
theorem and_le (a : Int) : 0 ≤ andR .u64 a 16777215 ∧ andR .u64 a 16777215 ≤ 16777215 := by
  have h : ((BitVec.ofInt IntKind.u64.bits a &&& BitVec.ofInt IntKind.u64.bits 16777215).toNat : Nat) ≤ 16777215 := by
    rw [BitVec.toNat_and]; exact Nat.le_trans Nat.and_le_right (by decide)
  unfold andR
  rw [wrap_in (by rw [inKu]; omega)]
  omega
theorem shr_in {a : Int} (h : inK .u64 a) : inK .u64 (shrR .u64 a 33) := by
  rw [inKu] at h ⊢
  have e : shrR .u64 a 33 = a / 8589934592 := by
    show a.fdiv 8589934592 = _
    rw [Int.fdiv_eq_ediv_of_nonneg _ (by decide)]
  rw [e]; omega

def w1_spec_l01Next : Wt := ⟨(.pt (.fz spec_l01SourceT)), [(.int .i64)], [false], fun x y => [0 ≤ x.2.1], fun x _ => x, [(false, (.fz (.int .i64)))], fun _ _ => dfR _⟩
def Q_spec_l01Next (s : spec_l01SourceD) (n : Int) (z : spec_l01SourceD) (r0 : Int) : Prop := 0 ≤ z.2.1 ∧ 0 ≤ r0 ∧ (1 ≤ n → r0 < n) ∧ (n < 1 → r0 = 0)
def W_spec_l01Next (s : spec_l01SourceD) (n : Int) (K : spec_l01SourceD → (Int × Unit) → Prop) : Prop := (cnd (decide (n < (1 : Int))) (K s ((0 : Int), ())) (((0 : Int) ≤ (33 : Int)) ∧ ((inK IntKind.u64 (shrR IntKind.u64 (IntKind.wrap IntKind.u64 ((IntKind.wrap IntKind.u64 (s.2.2 * (6364136223846793005 : Int))) + (1442695040888963407 : Int))) (33 : Int))) ∧ (joinW (S := ((Unit × (Int × Unit)) × (((List Int) × (Int × Int)) × Unit))) (fun s1 => ((inK IntKind.i64 s1.1.2.1) → ((T.ok (T.sl (T.int IntKind.u8)) s1.2.1.1) → ((inK IntKind.i64 s1.2.1.2.1) → ((inK IntKind.u64 s1.2.1.2.2) → ((n ≠ (0 : Int)) ∧ ((inK IntKind.i64 (Int.tmod s1.1.2.1 n)) ∧ (K s1.2.1 ((Int.tmod s1.1.2.1 n), ()))))))))) (fun k => (cnd (decide (s.2.1 < (((List.length s.1) : Nat) : Int))) (((0 : Int) ≤ s.2.1) ∧ ((s.2.1 < (((List.length s.1) : Nat) : Int)) ∧ ((inK IntKind.i64 ((IntKind.wrap IntKind.i64 (andR IntKind.u64 (shrR IntKind.u64 (IntKind.wrap IntKind.u64 ((IntKind.wrap IntKind.u64 (s.2.2 * (6364136223846793005 : Int))) + (1442695040888963407 : Int))) (33 : Int)) (16777215 : Int))) + (IntKind.wrap IntKind.i64 (List.getD s.1 (Int.toNat s.2.1) (0 : Int))))) ∧ ((inK IntKind.i64 (s.2.1 + (1 : Int))) ∧ (k (((), (((IntKind.wrap IntKind.i64 (andR IntKind.u64 (shrR IntKind.u64 (IntKind.wrap IntKind.u64 ((IntKind.wrap IntKind.u64 (s.2.2 * (6364136223846793005 : Int))) + (1442695040888963407 : Int))) (33 : Int)) (16777215 : Int))) + (IntKind.wrap IntKind.i64 (List.getD s.1 (Int.toNat s.2.1) (0 : Int)))), ())), ((s.1, ((s.2.1 + (1 : Int)), (IntKind.wrap IntKind.u64 ((IntKind.wrap IntKind.u64 (s.2.2 * (6364136223846793005 : Int))) + (1442695040888963407 : Int))))), ()))))))) (k (((), ((IntKind.wrap IntKind.i64 (andR IntKind.u64 (shrR IntKind.u64 (IntKind.wrap IntKind.u64 ((IntKind.wrap IntKind.u64 (s.2.2 * (6364136223846793005 : Int))) + (1442695040888963407 : Int))) (33 : Int)) (16777215 : Int))), ())), ((s.1, (s.2.1, (IntKind.wrap IntKind.u64 ((IntKind.wrap IntKind.u64 (s.2.2 * (6364136223846793005 : Int))) + (1442695040888963407 : Int))))), ())))))))))
theorem w_spec_l01Next (x : w1_spec_l01Next.o.strip.den) (y : denL w1_spec_l01Next.as) (K : spec_l01SourceD → (Int × Unit) → Prop) : evFw tab (lkp []) (cutL [(5, 9), (6, 12)]) Try.f66 (bodyOf Try.f66) (.s .n (.s .n (.s .n (.s .n (.s (.s .n (.j [(0, (.ad 1000000 [.de])), (5, (.d (.int .i64)))] [(1000000, (.pt (.fz (.p (.sl (.int .u8)) (.p (.int .i64) (.int .u64))))))] [1] .n)) .n))))) w1_spec_l01Next x y K = W_spec_l01Next x y.1 K := by kernel_rfl
theorem k_spec_l01Next : okC Try.f66.ntmps (cutL [(5, 9), (6, 12)]) (bodyOf Try.f66) = true := by kernel_rfl
theorem m_spec_l01Next (s : spec_l01SourceD) (n : Int) (hok : allP (w1_spec_l01Next.o.strip.oks s)) (hok2 : allP (okL w1_spec_l01Next.as (n, ()))) (hpre : allP (w1_spec_l01Next.pre s (n, ()))) : W_spec_l01Next s n (fun z r => Q_spec_l01Next s n z r.1) := by
  simp only [w1_spec_l01Next, O.strip, okL, T.oks, T.ok, ap, allP, true_and, and_true, implies_true] at hok hok2 hpre
  try dsimp only [T.den] at hok
  try dsimp only [T.den] at hok2
  try dsimp only [T.den] at hpre
  unfold W_spec_l01Next Q_spec_l01Next
  obtain ⟨⟨hc1, hc2⟩, ha, hh⟩ := hok
  rw [nb_eq] at hc1
  generalize hx : IntKind.wrap .u64 (IntKind.wrap .u64 (s.2.2 * 6364136223846793005) + 1442695040888963407) = x
  have hxk : inK .u64 x := by rw [← hx]; exact wrap_inK _ _
  have hm := and_le (shrR .u64 x 33)
  generalize andR .u64 (shrR .u64 x 33) 16777215 = y at hm
  refine cnd_d (fun hn => ⟨hpre, Int.le_refl _, fun h => by omega, fun _ => rfl⟩) (fun hn => ⟨by omega, shr_in hxk, ?_⟩)
  rw [wrap_in (show inK .i64 y by rw [inK64]; (try dsimp only); omega)]
  refine join_of (fun s1 => 0 ≤ s1.2.1.2.1 ∧ 0 ≤ s1.1.2.1) (fun s1 hs _ _ _ _ => ?_) (fun k hk => cnd_d (fun hc => ?_) (fun hc => hk _ ⟨hpre, hm.1⟩))
  · have h1 := Int.tmod_nonneg n hs.2
    have h2 := Int.tmod_lt_of_pos s1.1.2.1 (show 0 < n by omega)
    have hn2 := inK64.1 hok2
    exact ⟨by omega, by rw [inK64]; (try dsimp only); omega, hs.1, h1, fun _ => h2, fun h => by omega⟩
  · have hb := inK8.1 (hc2 _ (getD_mem s.1 0 hpre hc))
    rw [wrap_in (show inK .i64 (s.1.getD s.2.1.toNat 0) by rw [inK64]; (try dsimp only); omega)]
    exact ⟨hpre, hc, by rw [inK64]; (try dsimp only); omega, by rw [inK64]; (try dsimp only); omega, hk _ ⟨by dsimp only; omega, by dsimp only; omega⟩⟩
theorem e_spec_l01Next (s : spec_l01SourceD) (n : Int) : ∃ q : spec_l01SourceD × (Int × Unit), allP (w1_spec_l01Next.o.strip.oks s) → allP (okL w1_spec_l01Next.as (n, ())) → allP (w1_spec_l01Next.pre s (n, ())) → W_spec_l01Next s n (fun z r => z = q.1 ∧ r = q.2) ∧ allP (w1_spec_l01Next.o.strip.oks q.1) ∧ allP (okR w1_spec_l01Next.rt q.2) ∧ Q_spec_l01Next s n q.1 q.2.1 := by
  obtain ⟨q, h⟩ := pick_wt (f := 66) (Φ := lkp []) good_nil tab_ok (by kernel_rfl) (fn := Try.f66) (c := bodyOf Try.f66) (by kernel_rfl) (by kernel_rfl) (by kernel_rfl) w1_spec_l01Next (.s .n (.s .n (.s .n (.s .n (.s (.s .n (.j [(0, (.ad 1000000 [.de])), (5, (.d (.int .i64)))] [(1000000, (.pt (.fz (.p (.sl (.int .u8)) (.p (.int .i64) (.int .u64))))))] [1] .n)) .n))))) (cutL [(5, 9), (6, 12)]) (by kernel_rfl) (by kernel_rfl) k_spec_l01Next (by decide) (by kernel_rfl) (by kernel_rfl) spec_l01SourceT rfl (by kernel_rfl) (fun x y z r => Q_spec_l01Next x y.1 z r.1) (fun x y h1 h2 h3 => (w_spec_l01Next x y _).mpr (m_spec_l01Next x y.1 h1 h2 h3)) s (n, ())
  exact ⟨q, fun h1 h2 h3 => ⟨(w_spec_l01Next s (n, ()) _).mp (h h1 h2 h3).1, (h h1 h2 h3).2⟩⟩
def spec_l01Next_zR (s : spec_l01SourceD) (n : Int) : spec_l01SourceD := (e_spec_l01Next s n).choose.1
def spec_l01Next_r0R (s : spec_l01SourceD) (n : Int) : Int := (e_spec_l01Next s n).choose.2.1
theorem q_spec_l01Next (s : spec_l01SourceD) (n : Int) (hok : allP (w1_spec_l01Next.o.strip.oks s)) (hok2 : allP (okL w1_spec_l01Next.as (n, ()))) (hpre : allP (w1_spec_l01Next.pre s (n, ()))) : allP (w1_spec_l01Next.o.strip.oks (spec_l01Next_zR s n)) ∧ allP (okR w1_spec_l01Next.rt (spec_l01Next_r0R s n, ())) ∧ Q_spec_l01Next s n (spec_l01Next_zR s n) (spec_l01Next_r0R s n) := ((e_spec_l01Next s n).choose_spec hok hok2 hpre).2
def w0_spec_l01Next : Wt := ⟨(.pt (.fz spec_l01SourceT)), [(.int .i64)], [false], fun x y => [0 ≤ x.2.1], fun x y => (spec_l01Next_zR x y.1), [(false, (.fz (.int .i64)))], fun x y => ((spec_l01Next_r0R x y.1), ())⟩
def c_spec_l01Next : Ct := wtCt w0_spec_l01Next
theorem w2_spec_l01Next (x : w0_spec_l01Next.o.strip.den) (y : denL w0_spec_l01Next.as) (K : spec_l01SourceD → (Int × Unit) → Prop) : evFw tab (lkp []) (cutL [(5, 9), (6, 12)]) Try.f66 (bodyOf Try.f66) (.s .n (.s .n (.s .n (.s .n (.s (.s .n (.j [(0, (.ad 1000000 [.de])), (5, (.d (.int .i64)))] [(1000000, (.pt (.fz (.p (.sl (.int .u8)) (.p (.int .i64) (.int .u64))))))] [1] .n)) .n))))) w0_spec_l01Next x y K = W_spec_l01Next x y.1 K := by kernel_rfl
theorem ct_spec_l01Next : CtOk Try.prog 66 c_spec_l01Next :=
  wt_of (Φ := lkp []) good_nil tab_ok (by kernel_rfl) (fn := Try.f66) (c := bodyOf Try.f66) (by kernel_rfl) (by kernel_rfl) (by kernel_rfl) w0_spec_l01Next (.s .n (.s .n (.s .n (.s .n (.s (.s .n (.j [(0, (.ad 1000000 [.de])), (5, (.d (.int .i64)))] [(1000000, (.pt (.fz (.p (.sl (.int .u8)) (.p (.int .i64) (.int .u64))))))] [1] .n)) .n))))) (cutL [(5, 9), (6, 12)]) (by kernel_rfl) (by kernel_rfl) k_spec_l01Next (by decide) (by kernel_rfl) (fun x y h1 h2 h3 => (w2_spec_l01Next x y _).mpr ((e_spec_l01Next x y.1).choose_spec h1 h2 h3).1)
theorem next_p {s : spec_l01SourceD} {n : Int} (h : SrcR s) (hn : inK .i64 n) : SrcR (spec_l01Next_zR s n) ∧ 0 ≤ spec_l01Next_r0R s n ∧ (1 ≤ n → spec_l01Next_r0R s n < n) ∧ (n < 1 → spec_l01Next_r0R s n = 0) := by
  obtain ⟨h1, h2, h3, h4⟩ := q_spec_l01Next s n h.1 ⟨hn, trivial⟩ ⟨h.2, trivial⟩
  exact ⟨⟨h1, h3⟩, h4⟩


def w1_spec_l01Pick : Wt := ⟨(.pt (.fz spec_l01SourceT)), [(.sl (.int .i64))], [false], fun x y => [SrcR x, 1 ≤ y.1.length], fun x _ => x, [(false, (.fz (.int .i64)))], fun _ _ => dfR _⟩
def Q_spec_l01Pick (s : spec_l01SourceD) (list : List Int) (z : spec_l01SourceD) (r0 : Int) : Prop := SrcR z ∧ r0 ∈ list
def W_spec_l01Pick (s : spec_l01SourceD) (list : List Int) (K : spec_l01SourceD → (Int × Unit) → Prop) : Prop := (((0 : Int) ≤ s.2.1) ∧ (((0 : Int) ≤ (spec_l01Next_r0R s (((List.length list) : Nat) : Int))) ∧ (((spec_l01Next_r0R s (((List.length list) : Nat) : Int)) < (((List.length list) : Nat) : Int)) ∧ (K (spec_l01Next_zR s (((List.length list) : Nat) : Int)) ((List.getD list (Int.toNat (spec_l01Next_r0R s (((List.length list) : Nat) : Int))) (0 : Int)), ())))))
theorem w_spec_l01Pick (x : w1_spec_l01Pick.o.strip.den) (y : denL w1_spec_l01Pick.as) (K : spec_l01SourceD → (Int × Unit) → Prop) : evFw tab (lkp [(66, c_spec_l01Next)]) (cutL []) Try.f85 (bodyOf Try.f85) .n w1_spec_l01Pick x y K = W_spec_l01Pick x y.1 K := by kernel_rfl
theorem k_spec_l01Pick : okC Try.f85.ntmps (cutL []) (bodyOf Try.f85) = true := by kernel_rfl
theorem m_spec_l01Pick (s : spec_l01SourceD) (list : List Int) (hok : allP (w1_spec_l01Pick.o.strip.oks s)) (hok2 : allP (okL w1_spec_l01Pick.as (list, ()))) (hpre : allP (w1_spec_l01Pick.pre s (list, ()))) : W_spec_l01Pick s list (fun z r => Q_spec_l01Pick s list z r.1) := by
  simp only [w1_spec_l01Pick, O.strip, okL, T.oks, T.ok, ap, allP, true_and, and_true, implies_true] at hok hok2 hpre
  try dsimp only [T.den] at hok
  try dsimp only [T.den] at hok2
  try dsimp only [T.den] at hpre
  unfold W_spec_l01Pick Q_spec_l01Pick
  obtain ⟨hs, hl⟩ := hpre
  have h0 := hok2.1
  rw [nb_eq] at h0
  obtain ⟨h1, h2, h3, _⟩ := next_p (n := list.length) hs (by rw [inK64]; (try dsimp only); omega)
  have h4 := h3 (by omega)
  exact ⟨hs.2, h2, h4, h1, getD_mem list 0 h2 h4⟩
theorem e_spec_l01Pick (s : spec_l01SourceD) (list : List Int) : ∃ q : spec_l01SourceD × (Int × Unit), allP (w1_spec_l01Pick.o.strip.oks s) → allP (okL w1_spec_l01Pick.as (list, ())) → allP (w1_spec_l01Pick.pre s (list, ())) → W_spec_l01Pick s list (fun z r => z = q.1 ∧ r = q.2) ∧ allP (w1_spec_l01Pick.o.strip.oks q.1) ∧ allP (okR w1_spec_l01Pick.rt q.2) ∧ Q_spec_l01Pick s list q.1 q.2.1 := by
  obtain ⟨q, h⟩ := pick_wt (f := 85) (Φ := lkp [(66, c_spec_l01Next)]) (good_cons ct_spec_l01Next good_nil) tab_ok (by kernel_rfl) (fn := Try.f85) (c := bodyOf Try.f85) (by kernel_rfl) (by kernel_rfl) (by kernel_rfl) w1_spec_l01Pick .n (cutL []) (by kernel_rfl) (by kernel_rfl) k_spec_l01Pick (by decide) (by kernel_rfl) (by kernel_rfl) spec_l01SourceT rfl (by kernel_rfl) (fun x y z r => Q_spec_l01Pick x y.1 z r.1) (fun x y h1 h2 h3 => (w_spec_l01Pick x y _).mpr (m_spec_l01Pick x y.1 h1 h2 h3)) s (list, ())
  exact ⟨q, fun h1 h2 h3 => ⟨(w_spec_l01Pick s (list, ()) _).mp (h h1 h2 h3).1, (h h1 h2 h3).2⟩⟩
def spec_l01Pick_zR (s : spec_l01SourceD) (list : List Int) : spec_l01SourceD := (e_spec_l01Pick s list).choose.1
def spec_l01Pick_r0R (s : spec_l01SourceD) (list : List Int) : Int := (e_spec_l01Pick s list).choose.2.1
theorem q_spec_l01Pick (s : spec_l01SourceD) (list : List Int) (hok : allP (w1_spec_l01Pick.o.strip.oks s)) (hok2 : allP (okL w1_spec_l01Pick.as (list, ()))) (hpre : allP (w1_spec_l01Pick.pre s (list, ()))) : allP (w1_spec_l01Pick.o.strip.oks (spec_l01Pick_zR s list)) ∧ allP (okR w1_spec_l01Pick.rt (spec_l01Pick_r0R s list, ())) ∧ Q_spec_l01Pick s list (spec_l01Pick_zR s list) (spec_l01Pick_r0R s list) := ((e_spec_l01Pick s list).choose_spec hok hok2 hpre).2
def w0_spec_l01Pick : Wt := ⟨(.pt (.fz spec_l01SourceT)), [(.sl (.int .i64))], [false], fun x y => [SrcR x, 1 ≤ y.1.length], fun x y => (spec_l01Pick_zR x y.1), [(false, (.fz (.int .i64)))], fun x y => ((spec_l01Pick_r0R x y.1), ())⟩
def c_spec_l01Pick : Ct := wtCt w0_spec_l01Pick
theorem w2_spec_l01Pick (x : w0_spec_l01Pick.o.strip.den) (y : denL w0_spec_l01Pick.as) (K : spec_l01SourceD → (Int × Unit) → Prop) : evFw tab (lkp [(66, c_spec_l01Next)]) (cutL []) Try.f85 (bodyOf Try.f85) .n w0_spec_l01Pick x y K = W_spec_l01Pick x y.1 K := by kernel_rfl
theorem ct_spec_l01Pick : CtOk Try.prog 85 c_spec_l01Pick :=
  wt_of (Φ := lkp [(66, c_spec_l01Next)]) (good_cons ct_spec_l01Next good_nil) tab_ok (by kernel_rfl) (fn := Try.f85) (c := bodyOf Try.f85) (by kernel_rfl) (by kernel_rfl) (by kernel_rfl) w0_spec_l01Pick .n (cutL []) (by kernel_rfl) (by kernel_rfl) k_spec_l01Pick (by decide) (by kernel_rfl) (fun x y h1 h2 h3 => (w2_spec_l01Pick x y _).mpr ((e_spec_l01Pick x y.1).choose_spec h1 h2 h3).1)
theorem pick_p {s : spec_l01SourceD} {l : List Int} (h : SrcR s) (hl : allP ((T.sl (.int .i64)).oks l)) (hn : 1 ≤ l.length) : SrcR (spec_l01Pick_zR s l) ∧ spec_l01Pick_r0R s l ∈ l :=
  (q_spec_l01Pick s l h.1 (by simpa only [w1_spec_l01Pick, okL, allP_ap, allP, and_true] using hl) ⟨h, hn, trivial⟩).2.2


def w1_spec_l01Count : Wt := ⟨(.pt (.fz spec_l01SourceT)), [], [], fun x y => [SrcR x], fun x _ => x, [(false, (.fz (.int .i64)))], fun _ _ => dfR _⟩
def Q_spec_l01Count (s : spec_l01SourceD) (z : spec_l01SourceD) (r0 : Int) : Prop := SrcR z
def W_spec_l01Count (s : spec_l01SourceD) (K : spec_l01SourceD → (Int × Unit) → Prop) : Prop := (((0 : Int) ≤ s.2.1) ∧ (cnd ((spec_l01Next_r0R s (30 : Int)) == (0 : Int)) ((SrcR (spec_l01Next_zR s (30 : Int))) ∧ ((1 ≤ (List.length ((-(1 : Int)) :: ((257 : Int) :: ((256 : Int) :: ((9223372036854775807 : Int) :: ([] : List Int))))))) ∧ (K (spec_l01Pick_zR (spec_l01Next_zR s (30 : Int)) ((-(1 : Int)) :: ((257 : Int) :: ((256 : Int) :: ((9223372036854775807 : Int) :: ([] : List Int)))))) ((spec_l01Pick_r0R (spec_l01Next_zR s (30 : Int)) ((-(1 : Int)) :: ((257 : Int) :: ((256 : Int) :: ((9223372036854775807 : Int) :: ([] : List Int)))))), ())))) (((0 : Int) ≤ (spec_l01Next_zR s (30 : Int)).2.1) ∧ (K (spec_l01Next_zR (spec_l01Next_zR s (30 : Int)) (8 : Int)) ((spec_l01Next_r0R (spec_l01Next_zR s (30 : Int)) (8 : Int)), ())))))
theorem w_spec_l01Count (x : w1_spec_l01Count.o.strip.den) (y : denL w1_spec_l01Count.as) (K : spec_l01SourceD → (Int × Unit) → Prop) : evFw tab (lkp [(66, c_spec_l01Next), (85, c_spec_l01Pick)]) (cutL []) Try.f64 (bodyOf Try.f64) .n w1_spec_l01Count x y K = W_spec_l01Count x  K := by kernel_rfl
theorem k_spec_l01Count : okC Try.f64.ntmps (cutL []) (bodyOf Try.f64) = true := by kernel_rfl
theorem m_spec_l01Count (s : spec_l01SourceD) (hok : allP (w1_spec_l01Count.o.strip.oks s)) (hok2 : allP (okL w1_spec_l01Count.as (()))) (hpre : allP (w1_spec_l01Count.pre s (()))) : W_spec_l01Count s (fun z r => Q_spec_l01Count s z r.1) := by
  simp only [w1_spec_l01Count, O.strip, okL, T.oks, T.ok, ap, allP, true_and, and_true, implies_true] at hok hok2 hpre
  try dsimp only [T.den] at hok
  try dsimp only [T.den] at hok2
  try dsimp only [T.den] at hpre
  unfold W_spec_l01Count Q_spec_l01Count
  have h1 := next_p (n := 30) hpre (by rw [inK64]; (try dsimp only); omega)
  refine ⟨hpre.2, cnd_of (fun hc => ?_) (fun hc => ?_)⟩
  · exact ⟨h1.1, by simp, (pick_p h1.1 (by simp [T.oks, T.ok, allP, inK64, nb_eq]) (by simp)).1⟩
  · exact ⟨h1.1.2, (next_p h1.1 (by rw [inK64]; (try dsimp only); omega)).1⟩
theorem e_spec_l01Count (s : spec_l01SourceD) : ∃ q : spec_l01SourceD × (Int × Unit), allP (w1_spec_l01Count.o.strip.oks s) → allP (okL w1_spec_l01Count.as (())) → allP (w1_spec_l01Count.pre s (())) → W_spec_l01Count s (fun z r => z = q.1 ∧ r = q.2) ∧ allP (w1_spec_l01Count.o.strip.oks q.1) ∧ allP (okR w1_spec_l01Count.rt q.2) ∧ Q_spec_l01Count s q.1 q.2.1 := by
  obtain ⟨q, h⟩ := pick_wt (f := 64) (Φ := lkp [(66, c_spec_l01Next), (85, c_spec_l01Pick)]) (good_cons ct_spec_l01Next (good_cons ct_spec_l01Pick good_nil)) tab_ok (by kernel_rfl) (fn := Try.f64) (c := bodyOf Try.f64) (by kernel_rfl) (by kernel_rfl) (by kernel_rfl) w1_spec_l01Count .n (cutL []) (by kernel_rfl) (by kernel_rfl) k_spec_l01Count (by decide) (by kernel_rfl) (by kernel_rfl) spec_l01SourceT rfl (by kernel_rfl) (fun x y z r => Q_spec_l01Count x  z r.1) (fun x y h1 h2 h3 => (w_spec_l01Count x y _).mpr (m_spec_l01Count x  h1 h2 h3)) s (())
  exact ⟨q, fun h1 h2 h3 => ⟨(w_spec_l01Count s (()) _).mp (h h1 h2 h3).1, (h h1 h2 h3).2⟩⟩
def spec_l01Count_zR (s : spec_l01SourceD) : spec_l01SourceD := (e_spec_l01Count s).choose.1
def spec_l01Count_r0R (s : spec_l01SourceD) : Int := (e_spec_l01Count s).choose.2.1
theorem q_spec_l01Count (s : spec_l01SourceD) (hok : allP (w1_spec_l01Count.o.strip.oks s)) (hok2 : allP (okL w1_spec_l01Count.as (()))) (hpre : allP (w1_spec_l01Count.pre s (()))) : allP (w1_spec_l01Count.o.strip.oks (spec_l01Count_zR s)) ∧ allP (okR w1_spec_l01Count.rt (spec_l01Count_r0R s, ())) ∧ Q_spec_l01Count s (spec_l01Count_zR s) (spec_l01Count_r0R s) := ((e_spec_l01Count s).choose_spec hok hok2 hpre).2
def w0_spec_l01Count : Wt := ⟨(.pt (.fz spec_l01SourceT)), [], [], fun x y => [SrcR x], fun x y => (spec_l01Count_zR x), [(false, (.fz (.int .i64)))], fun x y => ((spec_l01Count_r0R x), ())⟩
def c_spec_l01Count : Ct := wtCt w0_spec_l01Count
theorem w2_spec_l01Count (x : w0_spec_l01Count.o.strip.den) (y : denL w0_spec_l01Count.as) (K : spec_l01SourceD → (Int × Unit) → Prop) : evFw tab (lkp [(66, c_spec_l01Next), (85, c_spec_l01Pick)]) (cutL []) Try.f64 (bodyOf Try.f64) .n w0_spec_l01Count x y K = W_spec_l01Count x  K := by kernel_rfl
theorem ct_spec_l01Count : CtOk Try.prog 64 c_spec_l01Count :=
  wt_of (Φ := lkp [(66, c_spec_l01Next), (85, c_spec_l01Pick)]) (good_cons ct_spec_l01Next (good_cons ct_spec_l01Pick good_nil)) tab_ok (by kernel_rfl) (fn := Try.f64) (c := bodyOf Try.f64) (by kernel_rfl) (by kernel_rfl) (by kernel_rfl) w0_spec_l01Count .n (cutL []) (by kernel_rfl) (by kernel_rfl) k_spec_l01Count (by decide) (by kernel_rfl) (fun x y h1 h2 h3 => (w2_spec_l01Count x y _).mpr ((e_spec_l01Count x ).choose_spec h1 h2 h3).1)
theorem count_p {s : spec_l01SourceD} (h : SrcR s) : SrcR (spec_l01Count_zR s) ∧ inK .i64 (spec_l01Count_r0R s) := by
  obtain ⟨_, h1, h2⟩ := q_spec_l01Count s h.1 trivial ⟨h, trivial⟩
  exact ⟨h2, h1.1⟩


def c1_spec_l01From : Ct := ⟨[(.sl (.int .u8))], [false], fun x => [], [(false, (.pt (.fz spec_l01SourceT)))], fun _ => dfR _, true, none⟩
def Q_spec_l01From (code : List Int) (r0 : spec_l01SourceD) : Prop := SrcR r0
def W_spec_l01From (code : List Int) (K : spec_l01SourceD × Unit → Prop) : Prop := (loopW (S := ((Unit × (Int × Unit)) × (((List Int) × (Int × Int)) × Unit))) (fun s => (fun next => ((inK IntKind.i64 s.1.2.1) → ((T.ok (T.sl (T.int IntKind.u8)) s.2.1.1) → ((inK IntKind.i64 s.2.1.2.1) → ((inK IntKind.u64 s.2.1.2.2) → (cnd ((decide (s.1.2.1 < (((List.length code) : Nat) : Int))) && (decide (s.1.2.1 < (4096 : Int)))) (((0 : Int) ≤ s.1.2.1) ∧ ((s.1.2.1 < (((List.length code) : Nat) : Int)) ∧ ((inK IntKind.i64 (s.1.2.1 + (1 : Int))) ∧ (next (((), ((s.1.2.1 + (1 : Int)), ())), ((s.2.1.1, (s.2.1.2.1, (IntKind.wrap IntKind.u64 ((IntKind.wrap IntKind.u64 ((IntKind.wrap IntKind.u64 (s.2.1.2.2 * (1099511628211 : Int))) + (IntKind.wrap IntKind.u64 (List.getD code (Int.toNat s.1.2.1) (0 : Int))))) + (7 : Int))))), ())))))) (K (s.2.1, ()))))))))) (((), ((0 : Int), ())), ((code, ((0 : Int), (IntKind.wrap IntKind.u64 ((7019 : Int) + (IntKind.wrap IntKind.u64 (((List.length code) : Nat) : Int)))))), ())))
theorem w_spec_l01From (x : denL c1_spec_l01From.args) (K : spec_l01SourceD × Unit → Prop) : evF tab (lkp []) (cutL [(5, 13)]) Try.f63 (bodyOf Try.f63) (.s .n (.s .n (.s (.s .n (.l [(3, (.ad 11 [.de])), (4, (.d (.int .i64)))] [(11, (.pt (.fz (.p (.sl (.int .u8)) (.p (.int .i64) (.int .u64))))))] [0] .n)) .n))) c1_spec_l01From x K = W_spec_l01From x.1 K := by kernel_rfl
theorem k_spec_l01From : okC Try.f63.ntmps (cutL [(5, 13)]) (bodyOf Try.f63) = true := by kernel_rfl
theorem m_spec_l01From (code : List Int) (hok : allP (okL c1_spec_l01From.args (code, ()))) (hpre : allP (c1_spec_l01From.pre (code, ()))) : W_spec_l01From code (fun r => Q_spec_l01From code r.1) := by
  simp only [c1_spec_l01From, okL, T.oks, T.ok, ap, allP, true_and, and_true, implies_true] at hok hpre
  try dsimp only [T.den] at hok
  try dsimp only [T.den] at hpre
  unfold W_spec_l01From Q_spec_l01From
  have hl := hok.1
  rw [nb_eq] at hl
  refine loop_of (fun (s : ((Unit × (Int × Unit)) × (((List Int) × (Int × Int)) × Unit))) => 0 ≤ s.1.2.1 ∧ s.1.2.1 ≤ code.length ∧ s.2.1.1 = code ∧ s.2.1.2.1 = 0 ∧ inK .u64 s.2.1.2.2) (fun (s : ((Unit × (Int × Unit)) × (((List Int) × (Int × Int)) × Unit))) => (code.length - s.1.2.1).toNat) ?_ ⟨by simp, by simp, rfl, rfl, wrap_inK _ _⟩
  rintro ⟨⟨_, i, _⟩, ⟨c, a, h⟩, _⟩ next ⟨h0, h1, h2, h3, h4⟩ hn _ _ _ _
  try dsimp only at h0 h1 h2 h3 h4 hn ⊢
  subst h2; subst h3
  refine cnd_of (fun hc => ?_) (fun _ => ⟨?_, Int.le_refl _⟩)
  · simp only [Bool.and_eq_true, decide_eq_true_eq] at hc
    exact ⟨h0, hc.1, by rw [inK64]; (try dsimp only); omega, hn _ ⟨by dsimp only; omega, by dsimp only; omega, rfl, rfl, wrap_inK _ _⟩ (by first | omega | (dsimp only; omega))⟩
  · simp only [T.oks, T.ok, ap, allP, and_true]
    exact ⟨hok, by rw [inK64]; (try dsimp only); omega, h4⟩
theorem e_spec_l01From (code : List Int) : ∃ q : spec_l01SourceD × Unit, allP (okL c1_spec_l01From.args (code, ())) → allP (c1_spec_l01From.pre (code, ())) → W_spec_l01From code (fun r => r = q) ∧ allP (okR c1_spec_l01From.rt q) ∧ Q_spec_l01From code q.1 := by
  obtain ⟨q, h⟩ := pick_ct (f := 63) (Φ := lkp []) good_nil tab_ok (by kernel_rfl) (fn := Try.f63) (c := bodyOf Try.f63) (by kernel_rfl) (by kernel_rfl) (by kernel_rfl) c1_spec_l01From (.s .n (.s .n (.s (.s .n (.l [(3, (.ad 11 [.de])), (4, (.d (.int .i64)))] [(11, (.pt (.fz (.p (.sl (.int .u8)) (.p (.int .i64) (.int .u64))))))] [0] .n)) .n))) (cutL [(5, 13)]) (by kernel_rfl) (by kernel_rfl) k_spec_l01From (by decide) (by kernel_rfl) (fun x r => Q_spec_l01From x.1 r.1) (fun x h1 h2 => (w_spec_l01From x _).mpr (m_spec_l01From x.1 h1 h2)) (code, ())
  exact ⟨q, fun h1 h2 => ⟨(w_spec_l01From (code, ()) _).mp (h h1 h2).1, (h h1 h2).2⟩⟩
def spec_l01From_r0R (code : List Int) : spec_l01SourceD := (e_spec_l01From code).choose.1
theorem q_spec_l01From (code : List Int) (hok : allP (okL c1_spec_l01From.args (code, ()))) (hpre : allP (c1_spec_l01From.pre (code, ()))) : allP (okR c1_spec_l01From.rt (spec_l01From_r0R code, ())) ∧ Q_spec_l01From code (spec_l01From_r0R code) := ((e_spec_l01From code).choose_spec hok hpre).2
def c_spec_l01From : Ct := ⟨[(.sl (.int .u8))], [false], fun x => [], [(false, (.pt (.fz spec_l01SourceT)))], fun x => ((spec_l01From_r0R x.1), ()), true, none⟩
theorem ct_spec_l01From : CtOk Try.prog 63 c_spec_l01From :=
  ct_by (Φ := lkp []) good_nil tab_ok (by kernel_rfl) (fn := Try.f63) (c := bodyOf Try.f63) (by kernel_rfl) (by kernel_rfl) (by kernel_rfl) c_spec_l01From rfl (.s .n (.s .n (.s (.s .n (.l [(3, (.ad 11 [.de])), (4, (.d (.int .i64)))] [(11, (.pt (.fz (.p (.sl (.int .u8)) (.p (.int .i64) (.int .u64))))))] [0] .n)) .n))) (cutL [(5, 13)]) (by kernel_rfl) (by kernel_rfl) k_spec_l01From (by decide) (fun x K => W_spec_l01From x.1 K) (fun x K => by kernel_rfl) (fun x h1 h2 => ((e_spec_l01From x.1).choose_spec h1 h2).1)
theorem from_p {code : List Int} (h : allP ((T.sl (.int .u8)).oks code)) : SrcR (spec_l01From_r0R code) :=
  (q_spec_l01From code (by simpa only [c1_spec_l01From, okL, allP_ap, allP, and_true] using h) trivial).2


def w1_spec_l01Maps : Wt := ⟨(.pt (.fz spec_l01SourceT)), [(.int .i64), (.int .i64)], [false, false], fun x y => [SrcR x], fun x _ => x, [(false, (.sl (.fz (.int .i64))))], fun _ _ => dfR _⟩
def Q_spec_l01Maps (s : spec_l01SourceD) (m : Int) (n : Int) (z : spec_l01SourceD) (r0 : List Int) : Prop := SrcR z ∧ r0.length ≤ 301
def W_spec_l01Maps (s : spec_l01SourceD) (m : Int) (n : Int) (K : spec_l01SourceD → ((List Int) × Unit) → Prop) : Prop := (loopW (S := ((Unit × (Unit × (Int × Unit))) × (((List Int) × (Int × Int)) × ((List Int) × Unit)))) (fun s1 => (fun next => ((inK IntKind.i64 s1.1.2.2.1) → ((T.ok (T.sl (T.int IntKind.u8)) s1.2.1.1) → ((inK IntKind.i64 s1.2.1.2.1) → ((inK IntKind.u64 s1.2.1.2.2) → ((T.ok (T.sl (T.int IntKind.i64)) s1.2.2.1) → (cnd (((decide (s1.1.2.2.1 < m)) && (decide ((0 : Int) < n))) && (decide (s1.1.2.2.1 < (300 : Int)))) (((0 : Int) ≤ s1.2.1.2.1) ∧ ((room (List.length s1.2.2.1) (List.length ((spec_l01Next_r0R s1.2.1 (mnR n (1000 : Int))) :: ([] : List Int))) 8) ∧ ((inK IntKind.i64 (s1.1.2.2.1 + (1 : Int))) ∧ (next (((), ((), ((s1.1.2.2.1 + (1 : Int)), ()))), ((spec_l01Next_zR s1.2.1 (mnR n (1000 : Int))), ((s1.2.2.1 ++ ((spec_l01Next_r0R s1.2.1 (mnR n (1000 : Int))) :: ([] : List Int))), ()))))))) (((0 : Int) ≤ s1.2.1.2.1) ∧ (joinW (S := ((Unit × (Unit × Unit)) × (((List Int) × (Int × Int)) × ((List Int) × Unit)))) (fun s2 => ((T.ok (T.sl (T.int IntKind.u8)) s2.2.1.1) → ((inK IntKind.i64 s2.2.1.2.1) → ((inK IntKind.u64 s2.2.1.2.2) → ((T.ok (T.sl (T.int IntKind.i64)) s2.2.2.1) → (K s2.2.1 (s2.2.2.1, ()))))))) (fun k => (cnd ((spec_l01Next_r0R s1.2.1 (30 : Int)) == (0 : Int)) ((SrcR (spec_l01Next_zR s1.2.1 (30 : Int))) ∧ ((1 ≤ (List.length ((0 : Int) :: (n :: ((-(1 : Int)) :: ([] : List Int)))))) ∧ ((room (List.length s1.2.2.1) (List.length ((spec_l01Pick_r0R (spec_l01Next_zR s1.2.1 (30 : Int)) ((0 : Int) :: (n :: ((-(1 : Int)) :: ([] : List Int))))) :: ([] : List Int))) 8) ∧ (k (((), ((), ())), ((spec_l01Pick_zR (spec_l01Next_zR s1.2.1 (30 : Int)) ((0 : Int) :: (n :: ((-(1 : Int)) :: ([] : List Int))))), ((s1.2.2.1 ++ ((spec_l01Pick_r0R (spec_l01Next_zR s1.2.1 (30 : Int)) ((0 : Int) :: (n :: ((-(1 : Int)) :: ([] : List Int))))) :: ([] : List Int))), ()))))))) (k (((), ((), ())), ((spec_l01Next_zR s1.2.1 (30 : Int)), (s1.2.2.1, ())))))))))))))))) (((), ((), ((0 : Int), ()))), (s, (([] : List Int), ()))))
theorem w_spec_l01Maps (x : w1_spec_l01Maps.o.strip.den) (y : denL w1_spec_l01Maps.as) (K : spec_l01SourceD → ((List Int) × Unit) → Prop) : evFw tab (lkp [(66, c_spec_l01Next), (85, c_spec_l01Pick)]) (cutL []) Try.f65 (bodyOf Try.f65) (.s .n (.s .n (.s (.s .n (.l [(0, (.ad 1000000 [.de])), (7, (.ref 800007 [])), (8, (.d (.int .i64)))] [(1000000, (.pt (.fz (.p (.sl (.int .u8)) (.p (.int .i64) (.int .u64)))))), (800007, (.sl (.fz (.int .i64))))] [1, 2] .n)) (.s (.s .n (.j [(0, (.ad 1000000 [.de])), (7, (.ref 800007 []))] [(1000000, (.pt (.fz (.p (.sl (.int .u8)) (.p (.int .i64) (.int .u64)))))), (800007, (.sl (.fz (.int .i64))))] [] .n)) .n)))) w1_spec_l01Maps x y K = W_spec_l01Maps x y.1 y.2.1 K := by kernel_rfl
theorem k_spec_l01Maps : okC Try.f65.ntmps (cutL []) (bodyOf Try.f65) = true := by kernel_rfl
theorem m_spec_l01Maps (s : spec_l01SourceD) (m : Int) (n : Int) (hok : allP (w1_spec_l01Maps.o.strip.oks s)) (hok2 : allP (okL w1_spec_l01Maps.as (m, n, ()))) (hpre : allP (w1_spec_l01Maps.pre s (m, n, ()))) : W_spec_l01Maps s m n (fun z r => Q_spec_l01Maps s m n z r.1) := by
  simp only [w1_spec_l01Maps, O.strip, okL, T.oks, T.ok, ap, allP, true_and, and_true, implies_true] at hok hok2 hpre
  try dsimp only [T.den] at hok
  try dsimp only [T.den] at hok2
  try dsimp only [T.den] at hpre
  unfold W_spec_l01Maps Q_spec_l01Maps
  have hn := hok2.2
  refine loop_of (fun (s : ((Unit × (Unit × (Int × Unit))) × (((List Int) × (Int × Int)) × ((List Int) × Unit)))) => 0 ≤ s.1.2.2.1 ∧ s.1.2.2.1 ≤ 300 ∧ SrcR s.2.1 ∧ s.2.2.1.length = s.1.2.2.1) (fun (s : ((Unit × (Unit × (Int × Unit))) × (((List Int) × (Int × Int)) × ((List Int) × Unit)))) => (300 - s.1.2.2.1).toNat) ?_ ⟨by simp, by simp, hpre, rfl⟩
  rintro ⟨⟨_, _, i, _⟩, s, l, _⟩ next ⟨h0, h1, h2, h3⟩ hx _ _ _ _ hl
  try dsimp only at h0 h1 h2 h3 hx hl ⊢
  have hm : inK .i64 (mnR n 1000) := by unfold mnR; split <;> first | assumption | (rw [inK64] at *; omega)
  have hr : ∀ x : Int, room l.length [x].length 8 := fun x => by unfold room; rw [nb_eq]; simp only [List.length_cons, List.length_nil]; omega
  refine cnd_of (fun hc => ?_) (fun _ => ?_)
  · simp only [Bool.and_eq_true, decide_eq_true_eq] at hc
    exact ⟨h2.2, hr _, by rw [inK64]; (try dsimp only); omega, hx _ ⟨by dsimp only; omega, by dsimp only; omega, (next_p h2 hm).1, by simp only [List.length_append, List.length_cons, List.length_nil]; omega⟩ (by first | omega | (dsimp only; omega))⟩
  · have h4 := next_p (n := 30) h2 (by rw [inK64]; (try dsimp only); omega)
    refine ⟨h2.2, join_of (fun s2 => SrcR s2.2.1 ∧ s2.2.2.1.length ≤ 301) (fun s2 hs _ _ _ _ => hs) (fun k hk => cnd_of (fun hc => ?_) (fun hc => hk _ ⟨h4.1, by dsimp only; omega⟩))⟩
    have h5 := pick_p (l := [0, n, -1]) h4.1 (by simp [T.oks, T.ok, allP, inK64, nb_eq]; rw [inK64] at hn; omega) (by simp)
    exact ⟨h4.1, by simp, hr _, hk _ ⟨h5.1, by simp only [List.length_append, List.length_cons, List.length_nil]; omega⟩⟩
theorem e_spec_l01Maps (s : spec_l01SourceD) (m : Int) (n : Int) : ∃ q : spec_l01SourceD × ((List Int) × Unit), allP (w1_spec_l01Maps.o.strip.oks s) → allP (okL w1_spec_l01Maps.as (m, n, ())) → allP (w1_spec_l01Maps.pre s (m, n, ())) → W_spec_l01Maps s m n (fun z r => z = q.1 ∧ r = q.2) ∧ allP (w1_spec_l01Maps.o.strip.oks q.1) ∧ allP (okR w1_spec_l01Maps.rt q.2) ∧ Q_spec_l01Maps s m n q.1 q.2.1 := by
  obtain ⟨q, h⟩ := pick_wt (f := 65) (Φ := lkp [(66, c_spec_l01Next), (85, c_spec_l01Pick)]) (good_cons ct_spec_l01Next (good_cons ct_spec_l01Pick good_nil)) tab_ok (by kernel_rfl) (fn := Try.f65) (c := bodyOf Try.f65) (by kernel_rfl) (by kernel_rfl) (by kernel_rfl) w1_spec_l01Maps (.s .n (.s .n (.s (.s .n (.l [(0, (.ad 1000000 [.de])), (7, (.ref 800007 [])), (8, (.d (.int .i64)))] [(1000000, (.pt (.fz (.p (.sl (.int .u8)) (.p (.int .i64) (.int .u64)))))), (800007, (.sl (.fz (.int .i64))))] [1, 2] .n)) (.s (.s .n (.j [(0, (.ad 1000000 [.de])), (7, (.ref 800007 []))] [(1000000, (.pt (.fz (.p (.sl (.int .u8)) (.p (.int .i64) (.int .u64)))))), (800007, (.sl (.fz (.int .i64))))] [] .n)) .n)))) (cutL []) (by kernel_rfl) (by kernel_rfl) k_spec_l01Maps (by decide) (by kernel_rfl) (by kernel_rfl) spec_l01SourceT rfl (by kernel_rfl) (fun x y z r => Q_spec_l01Maps x y.1 y.2.1 z r.1) (fun x y h1 h2 h3 => (w_spec_l01Maps x y _).mpr (m_spec_l01Maps x y.1 y.2.1 h1 h2 h3)) s (m, n, ())
  exact ⟨q, fun h1 h2 h3 => ⟨(w_spec_l01Maps s (m, n, ()) _).mp (h h1 h2 h3).1, (h h1 h2 h3).2⟩⟩
def spec_l01Maps_zR (s : spec_l01SourceD) (m : Int) (n : Int) : spec_l01SourceD := (e_spec_l01Maps s m n).choose.1
def spec_l01Maps_r0R (s : spec_l01SourceD) (m : Int) (n : Int) : List Int := (e_spec_l01Maps s m n).choose.2.1
theorem q_spec_l01Maps (s : spec_l01SourceD) (m : Int) (n : Int) (hok : allP (w1_spec_l01Maps.o.strip.oks s)) (hok2 : allP (okL w1_spec_l01Maps.as (m, n, ()))) (hpre : allP (w1_spec_l01Maps.pre s (m, n, ()))) : allP (w1_spec_l01Maps.o.strip.oks (spec_l01Maps_zR s m n)) ∧ allP (okR w1_spec_l01Maps.rt (spec_l01Maps_r0R s m n, ())) ∧ Q_spec_l01Maps s m n (spec_l01Maps_zR s m n) (spec_l01Maps_r0R s m n) := ((e_spec_l01Maps s m n).choose_spec hok hok2 hpre).2
def w0_spec_l01Maps : Wt := ⟨(.pt (.fz spec_l01SourceT)), [(.int .i64), (.int .i64)], [false, false], fun x y => [SrcR x], fun x y => (spec_l01Maps_zR x y.1 y.2.1), [(false, (.sl (.fz (.int .i64))))], fun x y => ((spec_l01Maps_r0R x y.1 y.2.1), ())⟩
def c_spec_l01Maps : Ct := wtCt w0_spec_l01Maps
theorem w2_spec_l01Maps (x : w0_spec_l01Maps.o.strip.den) (y : denL w0_spec_l01Maps.as) (K : spec_l01SourceD → ((List Int) × Unit) → Prop) : evFw tab (lkp [(66, c_spec_l01Next), (85, c_spec_l01Pick)]) (cutL []) Try.f65 (bodyOf Try.f65) (.s .n (.s .n (.s (.s .n (.l [(0, (.ad 1000000 [.de])), (7, (.ref 800007 [])), (8, (.d (.int .i64)))] [(1000000, (.pt (.fz (.p (.sl (.int .u8)) (.p (.int .i64) (.int .u64)))))), (800007, (.sl (.fz (.int .i64))))] [1, 2] .n)) (.s (.s .n (.j [(0, (.ad 1000000 [.de])), (7, (.ref 800007 []))] [(1000000, (.pt (.fz (.p (.sl (.int .u8)) (.p (.int .i64) (.int .u64)))))), (800007, (.sl (.fz (.int .i64))))] [] .n)) .n)))) w0_spec_l01Maps x y K = W_spec_l01Maps x y.1 y.2.1 K := by kernel_rfl
theorem ct_spec_l01Maps : CtOk Try.prog 65 c_spec_l01Maps :=
  wt_of (Φ := lkp [(66, c_spec_l01Next), (85, c_spec_l01Pick)]) (good_cons ct_spec_l01Next (good_cons ct_spec_l01Pick good_nil)) tab_ok (by kernel_rfl) (fn := Try.f65) (c := bodyOf Try.f65) (by kernel_rfl) (by kernel_rfl) (by kernel_rfl) w0_spec_l01Maps (.s .n (.s .n (.s (.s .n (.l [(0, (.ad 1000000 [.de])), (7, (.ref 800007 [])), (8, (.d (.int .i64)))] [(1000000, (.pt (.fz (.p (.sl (.int .u8)) (.p (.int .i64) (.int .u64)))))), (800007, (.sl (.fz (.int .i64))))] [1, 2] .n)) (.s (.s .n (.j [(0, (.ad 1000000 [.de])), (7, (.ref 800007 []))] [(1000000, (.pt (.fz (.p (.sl (.int .u8)) (.p (.int .i64) (.int .u64)))))), (800007, (.sl (.fz (.int .i64))))] [] .n)) .n)))) (cutL []) (by kernel_rfl) (by kernel_rfl) k_spec_l01Maps (by decide) (by kernel_rfl) (fun x y h1 h2 h3 => (w2_spec_l01Maps x y _).mpr ((e_spec_l01Maps x y.1 y.2.1).choose_spec h1 h2 h3).1)
theorem maps_p {s : spec_l01SourceD} {m n : Int} (h : SrcR s) (hm : inK .i64 m) (hn : inK .i64 n) : SrcR (spec_l01Maps_zR s m n) ∧ (spec_l01Maps_r0R s m n).length ≤ 301 :=
  (q_spec_l01Maps s m n h.1 (by simp only [w1_spec_l01Maps, okL, T.oks, ap, allP, and_true]; exact ⟨hm, hn⟩) ⟨h, trivial⟩).2.2


def c1_spec_l01One : Ct := ⟨[(.sl (.int .u8))], [false], fun x => [], [(false, (.fz (.int .i64))), (false, (.sl (.fz (.int .i64))))], fun _ => dfR _, false, none⟩
def Q_spec_l01One (code : List Int) (r0 : Int) (r1 : List Int) : Prop := r1.length ≤ 301
def W_spec_l01One (code : List Int) (K : Int × (List Int) × Unit → Prop) : Prop := ((SrcR (spec_l01From_r0R code)) ∧ (((0 : Int) ≤ (spec_l01Count_zR (spec_l01From_r0R code)).2.1) ∧ ((SrcR (spec_l01Next_zR (spec_l01Count_zR (spec_l01From_r0R code)) (10 : Int))) ∧ (K ((spec_l01Count_r0R (spec_l01From_r0R code)), ((spec_l01Maps_r0R (spec_l01Next_zR (spec_l01Count_zR (spec_l01From_r0R code)) (10 : Int)) (spec_l01Next_r0R (spec_l01Count_zR (spec_l01From_r0R code)) (10 : Int)) (spec_l01Count_r0R (spec_l01From_r0R code))), ()))))))
theorem w_spec_l01One (x : denL c1_spec_l01One.args) (K : Int × (List Int) × Unit → Prop) : evF tab (lkp [(64, c_spec_l01Count), (63, c_spec_l01From), (65, c_spec_l01Maps), (66, c_spec_l01Next)]) (cutL []) Try.f24 (bodyOf Try.f24) .n c1_spec_l01One x K = W_spec_l01One x.1 K := by kernel_rfl
theorem k_spec_l01One : okC Try.f24.ntmps (cutL []) (bodyOf Try.f24) = true := by kernel_rfl
theorem m_spec_l01One (code : List Int) (hok : allP (okL c1_spec_l01One.args (code, ()))) (hpre : allP (c1_spec_l01One.pre (code, ()))) : W_spec_l01One code (fun r => Q_spec_l01One code r.1 r.2.1) := by
  simp only [c1_spec_l01One, okL, T.oks, T.ok, ap, allP, true_and, and_true, implies_true] at hok hpre
  try dsimp only [T.den] at hok
  try dsimp only [T.den] at hpre
  unfold W_spec_l01One Q_spec_l01One
  have h1 : SrcR (spec_l01From_r0R code) := from_p ⟨hok, trivial⟩
  have h2 := count_p h1
  have h3 := next_p (n := 10) h2.1 (by rw [inK64]; (try dsimp only); omega)
  have h4 : inK .i64 (spec_l01Next_r0R (spec_l01Count_zR (spec_l01From_r0R code)) 10) := by rw [inK64]; (try dsimp only); omega
  exact ⟨h1, h2.1.2, h3.1, (maps_p h3.1 h4 h2.2).2⟩
theorem e_spec_l01One (code : List Int) : ∃ q : Int × (List Int) × Unit, allP (okL c1_spec_l01One.args (code, ())) → allP (c1_spec_l01One.pre (code, ())) → W_spec_l01One code (fun r => r = q) ∧ allP (okR c1_spec_l01One.rt q) ∧ Q_spec_l01One code q.1 q.2.1 := by
  obtain ⟨q, h⟩ := pick_ct (f := 24) (Φ := lkp [(64, c_spec_l01Count), (63, c_spec_l01From), (65, c_spec_l01Maps), (66, c_spec_l01Next)]) (good_cons ct_spec_l01Count (good_cons ct_spec_l01From (good_cons ct_spec_l01Maps (good_cons ct_spec_l01Next good_nil)))) tab_ok (by kernel_rfl) (fn := Try.f24) (c := bodyOf Try.f24) (by kernel_rfl) (by kernel_rfl) (by kernel_rfl) c1_spec_l01One .n (cutL []) (by kernel_rfl) (by kernel_rfl) k_spec_l01One (by decide) (by kernel_rfl) (fun x r => Q_spec_l01One x.1 r.1 r.2.1) (fun x h1 h2 => (w_spec_l01One x _).mpr (m_spec_l01One x.1 h1 h2)) (code, ())
  exact ⟨q, fun h1 h2 => ⟨(w_spec_l01One (code, ()) _).mp (h h1 h2).1, (h h1 h2).2⟩⟩
def spec_l01One_r0R (code : List Int) : Int := (e_spec_l01One code).choose.1
def spec_l01One_r1R (code : List Int) : List Int := (e_spec_l01One code).choose.2.1
theorem q_spec_l01One (code : List Int) (hok : allP (okL c1_spec_l01One.args (code, ()))) (hpre : allP (c1_spec_l01One.pre (code, ()))) : allP (okR c1_spec_l01One.rt (spec_l01One_r0R code, spec_l01One_r1R code, ())) ∧ Q_spec_l01One code (spec_l01One_r0R code) (spec_l01One_r1R code) := ((e_spec_l01One code).choose_spec hok hpre).2
def c_spec_l01One : Ct := ⟨[(.sl (.int .u8))], [false], fun x => [], [(false, (.fz (.int .i64))), (false, (.sl (.fz (.int .i64))))], fun x => ((spec_l01One_r0R x.1), (spec_l01One_r1R x.1), ()), false, none⟩
theorem ct_spec_l01One : CtOk Try.prog 24 c_spec_l01One :=
  ct_by (Φ := lkp [(64, c_spec_l01Count), (63, c_spec_l01From), (65, c_spec_l01Maps), (66, c_spec_l01Next)]) (good_cons ct_spec_l01Count (good_cons ct_spec_l01From (good_cons ct_spec_l01Maps (good_cons ct_spec_l01Next good_nil)))) tab_ok (by kernel_rfl) (fn := Try.f24) (c := bodyOf Try.f24) (by kernel_rfl) (by kernel_rfl) (by kernel_rfl) c_spec_l01One rfl .n (cutL []) (by kernel_rfl) (by kernel_rfl) k_spec_l01One (by decide) (fun x K => W_spec_l01One x.1 K) (fun x K => by kernel_rfl) (fun x h1 h2 => ((e_spec_l01One x.1).choose_spec h1 h2).1)
theorem one_p {code : List Int} (h : allP ((T.sl (.int .u8)).oks code)) : (spec_l01One_r1R code).length ≤ 301 ∧ (∀ y ∈ spec_l01One_r1R code, inK .i64 y) ∧ inK .i64 (spec_l01One_r0R code) := by
  obtain ⟨⟨h1, h2, _⟩, h3⟩ := q_spec_l01One code (by simpa only [c1_spec_l01One, okL, allP_ap, allP, and_true] using h) trivial
  exact ⟨h3, h2.2, h1⟩


def c_spec_DrawFactorMap : Ct := ⟨[(.sl (.int .u8))], [false], fun x => [], [(false, (.fz (.int .i64))), (false, (.sl (.fz (.int .i64))))], fun x => ((spec_l01One_r0R x.1), (spec_l01One_r1R x.1), ()), false, none⟩
def W_spec_DrawFactorMap (code : List Int) (K : Int × (List Int) × Unit → Prop) : Prop := (K ((spec_l01One_r0R code), ((spec_l01One_r1R code), ())))
theorem w_spec_DrawFactorMap (x : denL c_spec_DrawFactorMap.args) (K : Int × (List Int) × Unit → Prop) : evF tab (lkp [(24, c_spec_l01One)]) (cutL []) Try.f6 (bodyOf Try.f6) .n c_spec_DrawFactorMap x K = W_spec_DrawFactorMap x.1 K := by kernel_rfl
theorem k_spec_DrawFactorMap : okC Try.f6.ntmps (cutL []) (bodyOf Try.f6) = true := by kernel_rfl
theorem m_spec_DrawFactorMap (code : List Int) (hok : allP (okL c_spec_DrawFactorMap.args (code, ()))) (hpre : allP (c_spec_DrawFactorMap.pre (code, ()))) : W_spec_DrawFactorMap code (fun r => r = c_spec_DrawFactorMap.res (code, ())) := by
  simp only [c_spec_DrawFactorMap, okL, T.oks, T.ok, ap, allP, true_and, and_true, implies_true] at hok hpre
  try dsimp only [T.den] at hok
  try dsimp only [T.den] at hpre
  unfold W_spec_DrawFactorMap
  rfl
theorem ct_spec_DrawFactorMap : CtOk Try.prog 6 c_spec_DrawFactorMap :=
  ct_by (Φ := lkp [(24, c_spec_l01One)]) (good_cons ct_spec_l01One good_nil) tab_ok (by kernel_rfl) (fn := Try.f6) (c := bodyOf Try.f6) (by kernel_rfl) (by kernel_rfl) (by kernel_rfl) c_spec_DrawFactorMap rfl .n (cutL []) (by kernel_rfl) (by kernel_rfl) k_spec_DrawFactorMap (by decide) (fun x K => W_spec_DrawFactorMap x.1 K) w_spec_DrawFactorMap (fun x h1 h2 => m_spec_DrawFactorMap x.1 h1 h2)
def c_spec_l01Map : Ct := ⟨[(.int .i64), (.sl (.int .i64))], [false, false], fun x => [], [(false, (.fz .bool))], fun x => (withinR x.2.1 x.1, ()), false, none⟩
def W_spec_l01Map (n : Int) (f : List Int) (K : Bool × Unit → Prop) : Prop := (loopW (S := ((Int × Unit) × Unit)) (fun s => (fun next => ((inK IntKind.i64 s.1.1) → (cnd (decide (s.1.1 < (((List.length f) : Nat) : Int))) (((0 : Int) ≤ s.1.1) ∧ ((s.1.1 < (((List.length f) : Nat) : Int)) ∧ ((((decide ((List.getD f (Int.toNat s.1.1) (0 : Int)) < (0 : Int))) = Bool.false) → ((s.1.1 < (((List.length f) : Nat) : Int)) ∧ ((0 : Int) ≤ s.1.1))) ∧ (cnd ((decide ((List.getD f (Int.toNat s.1.1) (0 : Int)) < (0 : Int))) || (decide (n ≤ (List.getD f (Int.toNat s.1.1) (0 : Int))))) (K (Bool.false, ())) ((inK IntKind.i64 (s.1.1 + (1 : Int))) ∧ (next (((s.1.1 + (1 : Int)), ()), ()))))))) (K (Bool.true, ())))))) (((0 : Int), ()), ()))
theorem w_spec_l01Map (x : denL c_spec_l01Map.args) (K : Bool × Unit → Prop) : evF tab (lkp []) (cutL []) Try.f76 (bodyOf Try.f76) (.s .n (.s (.s .n (.l [(5, (.d (.int .i64)))] [] [0, 1] .n)) .n)) c_spec_l01Map x K = W_spec_l01Map x.1 x.2.1 K := by kernel_rfl
theorem k_spec_l01Map : okC Try.f76.ntmps (cutL []) (bodyOf Try.f76) = true := by kernel_rfl
theorem m_spec_l01Map (n : Int) (f : List Int) (hok : allP (okL c_spec_l01Map.args (n, f, ()))) (hpre : allP (c_spec_l01Map.pre (n, f, ()))) : W_spec_l01Map n f (fun r => r = c_spec_l01Map.res (n, f, ())) := by
  simp only [c_spec_l01Map, okL, T.oks, T.ok, ap, allP, true_and, and_true, implies_true] at hok hpre
  try dsimp only [T.den] at hok
  try dsimp only [T.den] at hpre
  unfold W_spec_l01Map
  refine loop_of (fun (s : ((Int × Unit) × Unit)) => 0 ≤ s.1.1 ∧ s.1.1 ≤ f.length ∧ withinR f n = withinR (f.drop s.1.1.toNat) n) (fun (s : ((Int × Unit) × Unit)) => (f.length - s.1.1).toNat) ?_ (by simp)
  rintro ⟨⟨i, _⟩, _⟩ next ⟨h0, h1, h2⟩ hn hin
  simp only at h0 h1 h2 hn ⊢
  refine cnd_d (fun hc => ?_) (fun hc => ?_)
  · rw [drop_c f 0 h0 hc] at h2
    simp only [withinR, List.all_cons] at h2
    grind [cnd, nb_eq, inK64, c_spec_l01Map, withinR, inR]
  · rw [drop_n f (by omega)] at h2
    grind [cnd, nb_eq, inK64, c_spec_l01Map, withinR]
theorem ct_spec_l01Map : CtOk Try.prog 76 c_spec_l01Map :=
  ct_by (Φ := lkp []) good_nil tab_ok (by kernel_rfl) (fn := Try.f76) (c := bodyOf Try.f76) (by kernel_rfl) (by kernel_rfl) (by kernel_rfl) c_spec_l01Map rfl (.s .n (.s (.s .n (.l [(5, (.d (.int .i64)))] [] [0, 1] .n)) .n)) (cutL []) (by kernel_rfl) (by kernel_rfl) k_spec_l01Map (by decide) (fun x K => W_spec_l01Map x.1 x.2.1 K) w_spec_l01Map (fun x h1 h2 => m_spec_l01Map x.1 x.2.1 h1 h2)
def c_spec_l01In : Ct := ⟨[(.int .i64), (.int .i64), (.int .i64)], [false, false, false], fun x => [], [(false, (.fz .bool))], fun x => (inR x.1 x.2.1 x.2.2.1, ()), false, none⟩
def W_spec_l01In (n : Int) (low : Int) (high : Int) (K : Bool × Unit → Prop) : Prop := (K (((decide (low ≤ n)) && (decide (n ≤ high))), ()))
theorem w_spec_l01In (x : denL c_spec_l01In.args) (K : Bool × Unit → Prop) : evF tab (lkp []) (cutL []) Try.f75 (bodyOf Try.f75) .n c_spec_l01In x K = W_spec_l01In x.1 x.2.1 x.2.2.1 K := by kernel_rfl
theorem k_spec_l01In : okC Try.f75.ntmps (cutL []) (bodyOf Try.f75) = true := by kernel_rfl
theorem m_spec_l01In (n : Int) (low : Int) (high : Int) (hok : allP (okL c_spec_l01In.args (n, low, high, ()))) (hpre : allP (c_spec_l01In.pre (n, low, high, ()))) : W_spec_l01In n low high (fun r => r = c_spec_l01In.res (n, low, high, ())) := by
  simp only [c_spec_l01In, okL, T.oks, T.ok, ap, allP, true_and, and_true, implies_true] at hok hpre
  try dsimp only [T.den] at hok
  try dsimp only [T.den] at hpre
  unfold W_spec_l01In
  grind [cnd, nb_eq, inK64, c_spec_l01In, inR]
theorem ct_spec_l01In : CtOk Try.prog 75 c_spec_l01In :=
  ct_by (Φ := lkp []) good_nil tab_ok (by kernel_rfl) (fn := Try.f75) (c := bodyOf Try.f75) (by kernel_rfl) (by kernel_rfl) (by kernel_rfl) c_spec_l01In rfl .n (cutL []) (by kernel_rfl) (by kernel_rfl) k_spec_l01In (by decide) (fun x K => W_spec_l01In x.1 x.2.1 x.2.2.1 K) w_spec_l01In (fun x h1 h2 => m_spec_l01In x.1 x.2.1 x.2.2.1 h1 h2)
def c_spec_l01Size : Ct := ⟨[(.int .i64)], [false], fun x => [], [(false, (.fz .bool))], fun x => (inR x.1 0 256, ()), false, none⟩
def W_spec_l01Size (n : Int) (K : Bool × Unit → Prop) : Prop := (K ((inR n (0 : Int) (256 : Int)), ()))
theorem w_spec_l01Size (x : denL c_spec_l01Size.args) (K : Bool × Unit → Prop) : evF tab (lkp [(75, c_spec_l01In)]) (cutL []) Try.f68 (bodyOf Try.f68) .n c_spec_l01Size x K = W_spec_l01Size x.1 K := by kernel_rfl
theorem k_spec_l01Size : okC Try.f68.ntmps (cutL []) (bodyOf Try.f68) = true := by kernel_rfl
theorem m_spec_l01Size (n : Int) (hok : allP (okL c_spec_l01Size.args (n, ()))) (hpre : allP (c_spec_l01Size.pre (n, ()))) : W_spec_l01Size n (fun r => r = c_spec_l01Size.res (n, ())) := by
  simp only [c_spec_l01Size, okL, T.oks, T.ok, ap, allP, true_and, and_true, implies_true] at hok hpre
  try dsimp only [T.den] at hok
  try dsimp only [T.den] at hpre
  unfold W_spec_l01Size
  rfl
theorem ct_spec_l01Size : CtOk Try.prog 68 c_spec_l01Size :=
  ct_by (Φ := lkp [(75, c_spec_l01In)]) (good_cons ct_spec_l01In good_nil) tab_ok (by kernel_rfl) (fn := Try.f68) (c := bodyOf Try.f68) (by kernel_rfl) (by kernel_rfl) (by kernel_rfl) c_spec_l01Size rfl .n (cutL []) (by kernel_rfl) (by kernel_rfl) k_spec_l01Size (by decide) (fun x K => W_spec_l01Size x.1 K) w_spec_l01Size (fun x h1 h2 => m_spec_l01Size x.1 h1 h2)
def c_spec_IsMap : Ct := ⟨[(.int .i64), (.sl (.int .i64))], [false, false], fun x => [], [(false, (.fz .bool))], fun x => ((inR x.1 0 256 && mapsR x.1 x.2.1), ()), false, none⟩
def W_spec_IsMap (n : Int) (f : List Int) (K : Bool × Unit → Prop) : Prop := (K ((((inR n (0 : Int) (256 : Int)) && (decide ((((List.length f) : Nat) : Int) ≤ (256 : Int)))) && (withinR f n)), ()))
theorem w_spec_IsMap (x : denL c_spec_IsMap.args) (K : Bool × Unit → Prop) : evF tab (lkp [(76, c_spec_l01Map), (68, c_spec_l01Size)]) (cutL []) Try.f69 (bodyOf Try.f69) .n c_spec_IsMap x K = W_spec_IsMap x.1 x.2.1 K := by kernel_rfl
theorem k_spec_IsMap : okC Try.f69.ntmps (cutL []) (bodyOf Try.f69) = true := by kernel_rfl
theorem m_spec_IsMap (n : Int) (f : List Int) (hok : allP (okL c_spec_IsMap.args (n, f, ()))) (hpre : allP (c_spec_IsMap.pre (n, f, ()))) : W_spec_IsMap n f (fun r => r = c_spec_IsMap.res (n, f, ())) := by
  simp only [c_spec_IsMap, okL, T.oks, T.ok, ap, allP, true_and, and_true, implies_true] at hok hpre
  try dsimp only [T.den] at hok
  try dsimp only [T.den] at hpre
  unfold W_spec_IsMap
  simp only [c_spec_IsMap, mapsR, Bool.and_assoc]
theorem ct_spec_IsMap : CtOk Try.prog 69 c_spec_IsMap :=
  ct_by (Φ := lkp [(76, c_spec_l01Map), (68, c_spec_l01Size)]) (good_cons ct_spec_l01Map (good_cons ct_spec_l01Size good_nil)) tab_ok (by kernel_rfl) (fn := Try.f69) (c := bodyOf Try.f69) (by kernel_rfl) (by kernel_rfl) (by kernel_rfl) c_spec_IsMap rfl .n (cutL []) (by kernel_rfl) (by kernel_rfl) k_spec_IsMap (by decide) (fun x K => W_spec_IsMap x.1 x.2.1 K) w_spec_IsMap (fun x h1 h2 => m_spec_IsMap x.1 x.2.1 h1 h2)
def c_spec_l01Code : Ct := ⟨[(.int .i64), (.sl (.int .i64))], [false, false], fun x => [], [(false, (.fz (.int .i64)))], fun x => (codeR x.1 [x.2.1], ()), false, none⟩
def W_spec_l01Code (n : Int) (f : List Int) (K : Int × Unit → Prop) : Prop := (cnd (!(inR n (0 : Int) (256 : Int))) (K ((2 : Int), ())) (cnd (!((inR n (0 : Int) (256 : Int)) && (mapsR n f))) (K ((1 : Int), ())) (K ((0 : Int), ()))))
theorem w_spec_l01Code (x : denL c_spec_l01Code.args) (K : Int × Unit → Prop) : evF tab (lkp [(69, c_spec_IsMap), (68, c_spec_l01Size)]) (cutL []) Try.f28 (bodyOf Try.f28) .n c_spec_l01Code x K = W_spec_l01Code x.1 x.2.1 K := by kernel_rfl
theorem k_spec_l01Code : okC Try.f28.ntmps (cutL []) (bodyOf Try.f28) = true := by kernel_rfl
theorem m_spec_l01Code (n : Int) (f : List Int) (hok : allP (okL c_spec_l01Code.args (n, f, ()))) (hpre : allP (c_spec_l01Code.pre (n, f, ()))) : W_spec_l01Code n f (fun r => r = c_spec_l01Code.res (n, f, ())) := by
  simp only [c_spec_l01Code, okL, T.oks, T.ok, ap, allP, true_and, and_true, implies_true] at hok hpre
  try dsimp only [T.den] at hok
  try dsimp only [T.den] at hpre
  unfold W_spec_l01Code
  simp only [c_spec_l01Code, codeR, List.all_cons, List.all_nil, Bool.and_true]
  refine cnd_of (fun hc => ?_) (fun hc => cnd_of (fun hd => ?_) (fun hd => ?_))
  · rw [if_neg (by simpa using hc)]
  · have hi : inR n 0 256 = true := by simpa using hc
    rw [if_pos hi, if_neg (by simpa [hi] using hd)]
  · have hi : inR n 0 256 = true := by simpa using hc
    rw [if_pos hi, if_pos (by simpa [hi] using hd)]
theorem ct_spec_l01Code : CtOk Try.prog 28 c_spec_l01Code :=
  ct_by (Φ := lkp [(69, c_spec_IsMap), (68, c_spec_l01Size)]) (good_cons ct_spec_IsMap (good_cons ct_spec_l01Size good_nil)) tab_ok (by kernel_rfl) (fn := Try.f28) (c := bodyOf Try.f28) (by kernel_rfl) (by kernel_rfl) (by kernel_rfl) c_spec_l01Code rfl .n (cutL []) (by kernel_rfl) (by kernel_rfl) k_spec_l01Code (by decide) (fun x K => W_spec_l01Code x.1 x.2.1 K) w_spec_l01Code (fun x h1 h2 => m_spec_l01Code x.1 x.2.1 h1 h2)
def c_spec_l01Has : Ct := ⟨[(.sl (.int .i64)), (.int .i64)], [false, false], fun x => [], [(false, (.fz .bool))], fun x => (hasR x.1 x.2.1, ()), false, none⟩
def W_spec_l01Has (list : List Int) (n : Int) (K : Bool × Unit → Prop) : Prop := (loopW (S := ((Int × Unit) × Unit)) (fun s => (fun next => ((inK IntKind.i64 s.1.1) → (cnd (decide (s.1.1 < (((List.length list) : Nat) : Int))) (((0 : Int) ≤ s.1.1) ∧ ((s.1.1 < (((List.length list) : Nat) : Int)) ∧ (cnd ((List.getD list (Int.toNat s.1.1) (0 : Int)) == n) (K (Bool.true, ())) ((inK IntKind.i64 (s.1.1 + (1 : Int))) ∧ (next (((s.1.1 + (1 : Int)), ()), ())))))) (K (Bool.false, ())))))) (((0 : Int), ()), ()))
theorem w_spec_l01Has (x : denL c_spec_l01Has.args) (K : Bool × Unit → Prop) : evF tab (lkp []) (cutL []) Try.f70 (bodyOf Try.f70) (.s .n (.s (.s .n (.l [(5, (.d (.int .i64)))] [] [0, 1] .n)) .n)) c_spec_l01Has x K = W_spec_l01Has x.1 x.2.1 K := by kernel_rfl
theorem k_spec_l01Has : okC Try.f70.ntmps (cutL []) (bodyOf Try.f70) = true := by kernel_rfl
theorem m_spec_l01Has (list : List Int) (n : Int) (hok : allP (okL c_spec_l01Has.args (list, n, ()))) (hpre : allP (c_spec_l01Has.pre (list, n, ()))) : W_spec_l01Has list n (fun r => r = c_spec_l01Has.res (list, n, ())) := by
  simp only [c_spec_l01Has, okL, T.oks, T.ok, ap, allP, true_and, and_true, implies_true] at hok hpre
  try dsimp only [T.den] at hok
  try dsimp only [T.den] at hpre
  unfold W_spec_l01Has
  refine loop_of (fun (s : ((Int × Unit) × Unit)) => 0 ≤ s.1.1 ∧ s.1.1 ≤ list.length ∧ hasR list n = hasR (list.drop s.1.1.toNat) n) (fun (s : ((Int × Unit) × Unit)) => (list.length - s.1.1).toNat) ?_ (by simp)
  rintro ⟨⟨i, _⟩, _⟩ next ⟨h0, h1, h2⟩ hn hin
  simp only at h0 h1 h2 hn ⊢
  refine cnd_d (fun hc => ?_) (fun hc => ?_)
  · rw [drop_c list 0 h0 hc] at h2
    simp only [hasR, List.any_cons] at h2
    grind [cnd, nb_eq, inK64, c_spec_l01Has, hasR]
  · rw [drop_n list (by omega)] at h2
    grind [cnd, nb_eq, inK64, c_spec_l01Has, hasR]
theorem ct_spec_l01Has : CtOk Try.prog 70 c_spec_l01Has :=
  ct_by (Φ := lkp []) good_nil tab_ok (by kernel_rfl) (fn := Try.f70) (c := bodyOf Try.f70) (by kernel_rfl) (by kernel_rfl) (by kernel_rfl) c_spec_l01Has rfl (.s .n (.s (.s .n (.l [(5, (.d (.int .i64)))] [] [0, 1] .n)) .n)) (cutL []) (by kernel_rfl) (by kernel_rfl) k_spec_l01Has (by decide) (fun x K => W_spec_l01Has x.1 x.2.1 K) w_spec_l01Has (fun x h1 h2 => m_spec_l01Has x.1 x.2.1 h1 h2)
def c_spec_l01Image : Ct := ⟨[(.int .i64), (.sl (.int .i64))], [false, false], fun x => [0 ≤ x.1, x.1 ≤ 256], [(false, (.sl (.fz (.int .i64))))], fun x => (imageR x.1 x.2.1, ()), false, none⟩
def W_spec_l01Image (n : Int) (f : List Int) (K : (List Int) × Unit → Prop) : Prop := (loopW (S := ((Unit × (Int × Unit)) × ((List Int) × Unit))) (fun s => (fun next => ((inK IntKind.i64 s.1.2.1) → ((T.ok (T.sl (T.int IntKind.i64)) s.2.1) → (cnd (decide (s.1.2.1 < n)) (joinW (S := ((Unit × Unit) × ((List Int) × Unit))) (fun s1 => ((T.ok (T.sl (T.int IntKind.i64)) s1.2.1) → ((inK IntKind.i64 (s.1.2.1 + (1 : Int))) ∧ (next (((), ((s.1.2.1 + (1 : Int)), ())), (s1.2.1, ())))))) (fun k => (cnd (hasR f s.1.2.1) ((room (List.length s.2.1) (List.length (s.1.2.1 :: ([] : List Int))) 8) ∧ (k (((), ()), ((s.2.1 ++ (s.1.2.1 :: ([] : List Int))), ())))) (k (((), ()), (s.2.1, ())))))) (K (s.2.1, ()))))))) (((), ((0 : Int), ())), (([] : List Int), ())))
theorem w_spec_l01Image (x : denL c_spec_l01Image.args) (K : (List Int) × Unit → Prop) : evF tab (lkp [(70, c_spec_l01Has)]) (cutL []) Try.f29 (bodyOf Try.f29) (.s .n (.s .n (.s (.s .n (.l [(5, (.ref 7 [])), (6, (.d (.int .i64)))] [(7, (.sl (.fz (.int .i64))))] [0, 1] (.s .n (.s (.s .n (.j [(5, (.ref 7 []))] [(7, (.sl (.fz (.int .i64))))] [0, 1, 6] .n)) .n)))) .n))) c_spec_l01Image x K = W_spec_l01Image x.1 x.2.1 K := by kernel_rfl
theorem k_spec_l01Image : okC Try.f29.ntmps (cutL []) (bodyOf Try.f29) = true := by kernel_rfl
theorem m_spec_l01Image (n : Int) (f : List Int) (hok : allP (okL c_spec_l01Image.args (n, f, ()))) (hpre : allP (c_spec_l01Image.pre (n, f, ()))) : W_spec_l01Image n f (fun r => r = c_spec_l01Image.res (n, f, ())) := by
  simp only [c_spec_l01Image, okL, T.oks, T.ok, ap, allP, true_and, and_true, implies_true] at hok hpre
  try dsimp only [T.den] at hok
  try dsimp only [T.den] at hpre
  unfold W_spec_l01Image
  have hn0 : 0 ≤ n := hpre.1
  have hn1 : n ≤ 256 := hpre.2
  refine loop_of (fun (s : ((Unit × (Int × Unit)) × ((List Int) × Unit))) => 0 ≤ s.1.2.1 ∧ s.1.2.1 ≤ n ∧ s.2.1 = selR s.1.2.1.toNat fun y => hasR f y) (fun (s : ((Unit × (Int × Unit)) × ((List Int) × Unit))) => (n - s.1.2.1).toNat) ?_ ⟨by simp, by simpa using hn0, rfl⟩
  rintro ⟨⟨_, i, _⟩, l, _⟩ next ⟨h0, h1, h2⟩ hn hin hl
  try dsimp only at h0 h1 h2 hn ⊢
  subst h2
  refine cnd_d (fun hc => join_of (fun s1 => s1.2.1 = selR (i + 1).toNat fun y => hasR f y) (fun s1 hs _ => ⟨by rw [inK64]; (try dsimp only); omega, hn _ ⟨(by first | omega | (dsimp only; omega)), (by first | omega | (dsimp only; omega)), hs⟩ (by first | omega | (dsimp only; omega))⟩) (fun k hk => cnd_of (fun hx => ⟨?_, hk _ ?_⟩) (fun hx => hk _ ?_))) (fun hc => ?_)
  · have := sel_len (p := fun y => hasR f y) i.toNat
    unfold room
    rw [nb_eq]
    have h3 : (i :: ([] : List Int)).length = 1 := rfl
    rw [h3]
    omega
  · exact (sel_t h0 hx).symm
  · exact (sel_f h0 hx).symm
  · have e1 : i = n := by omega
    simp only [c_spec_l01Image, imageR]
    rw [e1]
theorem ct_spec_l01Image : CtOk Try.prog 29 c_spec_l01Image :=
  ct_by (Φ := lkp [(70, c_spec_l01Has)]) (good_cons ct_spec_l01Has good_nil) tab_ok (by kernel_rfl) (fn := Try.f29) (c := bodyOf Try.f29) (by kernel_rfl) (by kernel_rfl) (by kernel_rfl) c_spec_l01Image rfl (.s .n (.s .n (.s (.s .n (.l [(5, (.ref 7 [])), (6, (.d (.int .i64)))] [(7, (.sl (.fz (.int .i64))))] [0, 1] (.s .n (.s (.s .n (.j [(5, (.ref 7 []))] [(7, (.sl (.fz (.int .i64))))] [0, 1, 6] .n)) .n)))) .n))) (cutL []) (by kernel_rfl) (by kernel_rfl) k_spec_l01Image (by decide) (fun x K => W_spec_l01Image x.1 x.2.1 K) w_spec_l01Image (fun x h1 h2 => m_spec_l01Image x.1 x.2.1 h1 h2)
def c_spec_l01Index : Ct := ⟨[(.sl (.int .i64)), (.int .i64)], [false, false], fun x => [], [(false, (.fz (.int .i64)))], fun x => (idxR x.1 x.2.1, ()), false, none⟩
def W_spec_l01Index (list : List Int) (n : Int) (K : Int × Unit → Prop) : Prop := (loopW (S := ((Int × Unit) × Unit)) (fun s => (fun next => ((inK IntKind.i64 s.1.1) → (cnd (decide (s.1.1 < (((List.length list) : Nat) : Int))) (((0 : Int) ≤ s.1.1) ∧ ((s.1.1 < (((List.length list) : Nat) : Int)) ∧ (cnd ((List.getD list (Int.toNat s.1.1) (0 : Int)) == n) (K (s.1.1, ())) ((inK IntKind.i64 (s.1.1 + (1 : Int))) ∧ (next (((s.1.1 + (1 : Int)), ()), ())))))) (K ((-(1 : Int)), ())))))) (((0 : Int), ()), ()))
theorem w_spec_l01Index (x : denL c_spec_l01Index.args) (K : Int × Unit → Prop) : evF tab (lkp []) (cutL []) Try.f30 (bodyOf Try.f30) (.s .n (.s (.s .n (.l [(5, (.d (.int .i64)))] [] [0, 1] .n)) .n)) c_spec_l01Index x K = W_spec_l01Index x.1 x.2.1 K := by kernel_rfl
theorem k_spec_l01Index : okC Try.f30.ntmps (cutL []) (bodyOf Try.f30) = true := by kernel_rfl
theorem m_spec_l01Index (list : List Int) (n : Int) (hok : allP (okL c_spec_l01Index.args (list, n, ()))) (hpre : allP (c_spec_l01Index.pre (list, n, ()))) : W_spec_l01Index list n (fun r => r = c_spec_l01Index.res (list, n, ())) := by
  simp only [c_spec_l01Index, okL, T.oks, T.ok, ap, allP, true_and, and_true, implies_true] at hok hpre
  try dsimp only [T.den] at hok
  try dsimp only [T.den] at hpre
  unfold W_spec_l01Index
  have hl : list.length ≤ 140737488355328 := by simp only [nb_eq] at hok; omega
  clear hok
  refine loop_ix (n := list.length) (fun i => ∀ k : Int, 0 ≤ k → k < i → list.getD k.toNat 0 ≠ n) (by omega) (by intro k h0 h1; omega) ?_ ?_
  · intro i next i0 i1 hP hn _
    try dsimp only
    refine cnd_d (fun _ => ⟨i0, i1, cnd_of (fun hx => ?_) (fun hx => ⟨by rw [inK64]; (try dsimp only); omega, hn fun k k0 k1 => ?_⟩)⟩) (fun h => absurd i1 h)
    · have : idxR list n = i := idx_at (z := (0 : Int)) i0 i1 (by simpa using hx) hP
      simp only [c_spec_l01Index, this]
    · by_cases hk : k = i
      · subst hk
        simpa using hx
      · exact hP k k0 (by omega)
  · intro next hP _
    refine cnd_d (fun h => absurd h (Int.lt_irrefl _)) (fun _ => ?_)
    have : idxR list n = -1 := idx_no (z := (0 : Int)) hP
    simp only [c_spec_l01Index, this]
theorem ct_spec_l01Index : CtOk Try.prog 30 c_spec_l01Index :=
  ct_by (Φ := lkp []) good_nil tab_ok (by kernel_rfl) (fn := Try.f30) (c := bodyOf Try.f30) (by kernel_rfl) (by kernel_rfl) (by kernel_rfl) c_spec_l01Index rfl (.s .n (.s (.s .n (.l [(5, (.d (.int .i64)))] [] [0, 1] .n)) .n)) (cutL []) (by kernel_rfl) (by kernel_rfl) k_spec_l01Index (by decide) (fun x K => W_spec_l01Index x.1 x.2.1 K) w_spec_l01Index (fun x h1 h2 => m_spec_l01Index x.1 x.2.1 h1 h2)
def c_spec_FactorMap : Ct := ⟨[(.int .i64), (.sl (.int .i64))], [false, false], fun x => [], [(false, (.sl (.fz (.int .i64)))), (false, (.fz (.sl (.int .i64)))), (false, (.fz (.int .i64)))], fun x => (facR x.1 x.2.1, imgOfR x.1 x.2.1, codeR x.1 [x.2.1], ()), true, none⟩
def W_spec_FactorMap (n : Int) (f : List Int) (K : (List Int) × (List Int) × Int × Unit → Prop) : Prop := (cnd ((codeR n (f :: ([] : List (List Int)))) != (0 : Int)) (K (([] : List Int), (([] : List Int), ((codeR n (f :: ([] : List (List Int)))), ())))) (((0 : Int) ≤ n) ∧ ((n ≤ (256 : Int)) ∧ (loopW (S := ((Unit × (Int × Unit)) × ((List Int) × Unit))) (fun s => (fun next => ((inK IntKind.i64 s.1.2.1) → ((T.ok (T.sl (T.int IntKind.i64)) s.2.1) → (cnd (decide (s.1.2.1 < (((List.length f) : Nat) : Int))) (((0 : Int) ≤ s.1.2.1) ∧ ((s.1.2.1 < (((List.length f) : Nat) : Int)) ∧ ((room (List.length s.2.1) (List.length ((idxR (imageR n f) (List.getD f (Int.toNat s.1.2.1) (0 : Int))) :: ([] : List Int))) 8) ∧ ((inK IntKind.i64 (s.1.2.1 + (1 : Int))) ∧ (next (((), ((s.1.2.1 + (1 : Int)), ())), ((s.2.1 ++ ((idxR (imageR n f) (List.getD f (Int.toNat s.1.2.1) (0 : Int))) :: ([] : List Int))), ()))))))) (K (s.2.1, ((imageR n f), ((0 : Int), ()))))))))) (((), ((0 : Int), ())), (([] : List Int), ()))))))
theorem w_spec_FactorMap (x : denL c_spec_FactorMap.args) (K : (List Int) × (List Int) × Int × Unit → Prop) : evF tab (lkp [(28, c_spec_l01Code), (29, c_spec_l01Image), (30, c_spec_l01Index)]) (cutL []) Try.f8 (bodyOf Try.f8) (.s .n (.s .n (.s .n (.s .n (.s (.s .n (.l [(9, (.ref 800009 [])), (10, (.d (.int .i64)))] [(800009, (.sl (.fz (.int .i64))))] [1, 8] .n)) .n))))) c_spec_FactorMap x K = W_spec_FactorMap x.1 x.2.1 K := by kernel_rfl
theorem k_spec_FactorMap : okC Try.f8.ntmps (cutL []) (bodyOf Try.f8) = true := by kernel_rfl
theorem m_spec_FactorMap (n : Int) (f : List Int) (hok : allP (okL c_spec_FactorMap.args (n, f, ()))) (hpre : allP (c_spec_FactorMap.pre (n, f, ()))) : W_spec_FactorMap n f (fun r => r = c_spec_FactorMap.res (n, f, ())) := by
  simp only [c_spec_FactorMap, okL, T.oks, T.ok, ap, allP, true_and, and_true, implies_true] at hok hpre
  try dsimp only [T.den] at hok
  try dsimp only [T.den] at hpre
  unfold W_spec_FactorMap
  have hl : f.length ≤ 140737488355328 := by have := hok.2.1; rw [nb_eq] at this; omega
  simp only [c_spec_FactorMap, facR, imgOfR]
  clear hok
  refine cnd_of (fun hc => ?_) (fun hc => ?_)
  · rw [if_neg (by simpa using hc), if_neg (by simpa using hc)]
  have hz : codeR n [f] = 0 := by simpa using hc
  obtain ⟨⟨h0, h1⟩, h2, h3⟩ := code_z.1 hz
  rw [if_pos hz, if_pos hz, hz]
  refine ⟨h0, h1, ?_⟩
  refine loop_ixa (fun i => tabN i.toNat fun y => idxR (imageR n f) (f.getD y.toNat 0)) (n := f.length) (by omega) rfl ?_ ?_
  · intro i next i0 i1 hn _ _
    try dsimp only at hn ⊢
    rw [tabN_s i0] at hn
    refine cnd_d (fun _ => ⟨i0, i1, ?_, by rw [inK64]; (try dsimp only); omega, hn⟩) (fun h => absurd i1 h)
    unfold room; rw [tabN_len, nb_eq]; simp only [List.length_cons, List.length_nil]; omega
  · intro next _ _
    refine cnd_d (fun h => absurd h (Int.lt_irrefl _)) (fun _ => ?_)
    rw [Int.toNat_natCast, map_tab (idxR (imageR n f)) 0 f]
theorem ct_spec_FactorMap : CtOk Try.prog 8 c_spec_FactorMap :=
  ct_by (Φ := lkp [(28, c_spec_l01Code), (29, c_spec_l01Image), (30, c_spec_l01Index)]) (good_cons ct_spec_l01Code (good_cons ct_spec_l01Image (good_cons ct_spec_l01Index good_nil))) tab_ok (by kernel_rfl) (fn := Try.f8) (c := bodyOf Try.f8) (by kernel_rfl) (by kernel_rfl) (by kernel_rfl) c_spec_FactorMap rfl (.s .n (.s .n (.s .n (.s .n (.s (.s .n (.l [(9, (.ref 800009 [])), (10, (.d (.int .i64)))] [(800009, (.sl (.fz (.int .i64))))] [1, 8] .n)) .n))))) (cutL []) (by kernel_rfl) (by kernel_rfl) k_spec_FactorMap (by decide) (fun x K => W_spec_FactorMap x.1 x.2.1 K) w_spec_FactorMap (fun x h1 h2 => m_spec_FactorMap x.1 x.2.1 h1 h2)
theorem idx_map (φ : Int → Int) {x : Int} : ∀ {s : List Int}, (∀ y ∈ s, φ y = φ x → y = x) → idxR (s.map φ) (φ x) = idxR s x
  | [], _ => rfl
  | a :: r, h => by
    have ih := idx_map φ (x := x) (s := r) (fun y hy => h y (List.mem_cons_of_mem _ hy))
    have ha := h a (List.mem_cons_self ..)
    rw [List.map_cons, idxR, idxR, ih]
    by_cases e : a = x
    · rw [if_pos e, if_pos (by rw [e])]
    · rw [if_neg e, if_neg (fun e' => e (ha e'))]
theorem ded_mem {y : Int} : ∀ {l s : List Int}, y ∈ l.foldl dedSt s → y ∈ s ∨ y ∈ l
  | [], s, h => .inl h
  | k :: l, s, h => by
    rw [List.foldl_cons] at h
    rcases ded_mem h with h | h
    · unfold dedSt at h
      split at h
      · rcases List.mem_append.1 h with h | h
        · exact .inl h
        · simp only [List.mem_singleton] at h; subst h; exact .inr (List.mem_cons_self ..)
      · exact .inl h
    · exact .inr (List.mem_cons_of_mem _ h)
theorem ded_map (φ : Int → Int) : ∀ {l s : List Int}, (∀ x ∈ l, ∀ y, (y ∈ s ∨ y ∈ l) → φ y = φ x → y = x) → (l.map φ).foldl dedSt (s.map φ) = (l.foldl dedSt s).map φ
  | [], s, _ => rfl
  | k :: l, s, h => by
    have e : dedSt (s.map φ) (φ k) = (dedSt s k).map φ := by
      unfold dedSt
      rw [idx_map φ (fun y hy => h k (List.mem_cons_self ..) y (.inl hy))]
      split
      · rw [List.map_append]; rfl
      · rfl
    rw [List.map_cons, List.foldl_cons, List.foldl_cons, e]
    refine ded_map φ fun x hx y hy => h x (List.mem_cons_of_mem _ hx) y ?_
    rcases hy with hy | hy
    · unfold dedSt at hy
      split at hy
      · rcases List.mem_append.1 hy with hy | hy
        · exact .inl hy
        · simp only [List.mem_singleton] at hy; subst hy; exact .inr (List.mem_cons_self ..)
      · exact .inl hy
    · exact .inr (List.mem_cons_of_mem _ hy)
theorem norm_map (φ : Int → Int) {l : List Int} (h : ∀ x ∈ l, ∀ y ∈ l, φ y = φ x → y = x) : normR (l.map φ) = normR l := by
  have e : dedR (l.map φ) = (dedR l).map φ := ded_map φ (s := []) (fun x hx y hy => h x hx y (hy.resolve_left (by simp)))
  unfold normR
  rw [e, List.map_map]
  refine List.map_congr_left fun x hx => ?_
  exact idx_map φ fun y hy => h x hx y ((ded_mem hy).resolve_left (by simp))
theorem nrm_ok : ∀ (l s : List Int), isNrmR (l.map (idxR (l.foldl dedSt s))) s.length = true
  | [], s => rfl
  | k :: l, s => by
    have ih := nrm_ok l (dedSt s k)
    rw [List.map_cons, List.foldl_cons, isNrmR]
    obtain ⟨r, hr⟩ := ded_pre l (dedSt s k)
    rw [Bool.and_eq_true]
    by_cases hk : idxR s k < 0
    · have e : dedSt s k = s ++ [k] := by unfold dedSt; rw [if_pos hk]
      have h1 : idxR (l.foldl dedSt (dedSt s k)) k = s.length := by
        rw [hr, e, idx_app r (by rw [idx_new hk]; omega), idx_new hk]
      rw [h1, if_pos rfl]
      refine ⟨by simp [inR], ?_⟩
      rw [e] at ih ⊢
      simpa using ih
    · have e : dedSt s k = s := by unfold dedSt; rw [if_neg hk]
      have hm : k ∈ s := Decidable.byContradiction fun hn => by have := (idx_p (0 : Int)).2 hn; omega
      have h2 := idx_in hm
      have h1 : idxR (l.foldl dedSt (dedSt s k)) k = idxR s k := by
        rw [hr, e, idx_app r h2.1]
      rw [h1, if_neg (by omega)]
      refine ⟨by simp [inR]; omega, ?_⟩
      rw [e] at ih ⊢
      exact ih
theorem like_t {a b : List Int} : likeR a b = true ↔ a = b := by simp [likeR]
theorem fac_ok {n : Int} {f : List Int} (hz : codeR n [f] = 0) :
    codeR (imageR n f).length [f.map (idxR (imageR n f))] = 0 ∧ thenMcR (imageR n f).length (f.map (idxR (imageR n f))) n (imageR n f) = 0 ∧ normR (f.map (idxR (imageR n f))) = normR f ∧
    thenR (f.map (idxR (imageR n f))) (imageR n f) = f ∧ isPtR (normR f) = true := by
  obtain ⟨⟨h0, h1⟩, h2, h3⟩ := code_z.1 hz
  have hI : (imageR n f).length ≤ n.toNat := sel_len _
  have hin : ∀ y ∈ f, 0 ≤ idxR (imageR n f) y ∧ idxR (imageR n f) y < (imageR n f).length ∧ (imageR n f).getD (idxR (imageR n f) y).toNat 0 = y := fun y hy => idx_in (image_has h3 h0 hy)
  have hw : withinR (f.map (idxR (imageR n f))) (imageR n f).length = true := by
    simp only [withinR, List.all_eq_true, List.mem_map]
    rintro _ ⟨y, hy, rfl⟩
    have := hin y hy
    simp [inR]; omega
  have hc : codeR (imageR n f).length [f.map (idxR (imageR n f))] = 0 := code_z.2 ⟨⟨by omega, by omega⟩, by rw [List.length_map]; exact h2, hw⟩
  have hwI : withinR (imageR n f) n = true := by
    simp only [withinR, List.all_eq_true]
    intro y hy
    have := sel_mem.1 hy
    simp [inR]; omega
  refine ⟨hc, ?_, ?_, ?_, ?_⟩
  · unfold thenMcR
    rw [if_pos (by simp [inR]; omega), if_pos]
    simp only [mapsR, Bool.and_eq_true, decide_eq_true_eq, and_true]
    exact ⟨⟨by rw [List.length_map]; omega, hw⟩, by omega, hwI⟩
  · exact norm_map _ fun x hx y hy e => by
      have e1 := (hin x hx).2.2
      have e2 := (hin y hy).2.2
      rw [← e1, ← e2, e]
  · unfold thenR
    rw [List.map_map]
    conv => rhs; rw [← List.map_id f]
    exact List.map_congr_left fun y hy => (hin y hy).2.2
  · unfold isPtR
    rw [Bool.and_eq_true]
    exact ⟨by unfold normR; rw [List.length_map, decide_eq_true_eq]; omega, nrm_ok f []⟩

def c_laws_FnFactored : Ct := ⟨[(.sl (.int .u8))], [false], fun x => [], [(false, (.fz .bool))], fun x => (true, ()), false, none⟩
def W_laws_FnFactored (code : List Int) (K : Bool × Unit → Prop) : Prop := (cnd (decide ((4096 : Int) < (((List.length code) : Nat) : Int))) (K (Bool.true, ())) (cnd ((((codeR (spec_l01One_r0R code) ((spec_l01One_r1R code) :: ([] : List (List Int)))) != (codeR (spec_l01One_r0R code) ((spec_l01One_r1R code) :: ([] : List (List Int))))) || (!(likeR (facR (spec_l01One_r0R code) (spec_l01One_r1R code)) (facR (spec_l01One_r0R code) (spec_l01One_r1R code))))) || (!(likeR (imgOfR (spec_l01One_r0R code) (spec_l01One_r1R code)) (imgOfR (spec_l01One_r0R code) (spec_l01One_r1R code))))) (K (Bool.false, ())) (cnd ((codeR (spec_l01One_r0R code) ((spec_l01One_r1R code) :: ([] : List (List Int)))) != (0 : Int)) (K ((!((inR (spec_l01One_r0R code) (0 : Int) (256 : Int)) && (mapsR (spec_l01One_r0R code) (spec_l01One_r1R code)))), ())) (K ((((((((((codeR (spec_l01One_r0R code) ((spec_l01One_r1R code) :: ([] : List (List Int)))) == (0 : Int)) && ((codeR (((List.length (imgOfR (spec_l01One_r0R code) (spec_l01One_r1R code))) : Nat) : Int) ((facR (spec_l01One_r0R code) (spec_l01One_r1R code)) :: ([] : List (List Int)))) == (0 : Int))) && ((codeR (spec_l01One_r0R code) ((spec_l01One_r1R code) :: ([] : List (List Int)))) == (0 : Int))) && ((thenMcR (((List.length (imgOfR (spec_l01One_r0R code) (spec_l01One_r1R code))) : Nat) : Int) (facR (spec_l01One_r0R code) (spec_l01One_r1R code)) (spec_l01One_r0R code) (imgOfR (spec_l01One_r0R code) (spec_l01One_r1R code))) == (0 : Int))) && (likeR (kerOfR (spec_l01One_r0R code) (spec_l01One_r1R code)) (kerOfR (((List.length (imgOfR (spec_l01One_r0R code) (spec_l01One_r1R code))) : Nat) : Int) (facR (spec_l01One_r0R code) (spec_l01One_r1R code))))) && (likeR (imgOfR (spec_l01One_r0R code) (spec_l01One_r1R code)) (imgOfR (spec_l01One_r0R code) (spec_l01One_r1R code)))) && (likeR (thenMR (((List.length (imgOfR (spec_l01One_r0R code) (spec_l01One_r1R code))) : Nat) : Int) (facR (spec_l01One_r0R code) (spec_l01One_r1R code)) (spec_l01One_r0R code) (imgOfR (spec_l01One_r0R code) (spec_l01One_r1R code))) (spec_l01One_r1R code))) && (isPtR (kerOfR (spec_l01One_r0R code) (spec_l01One_r1R code)))), ())))))
theorem w_laws_FnFactored (x : denL c_laws_FnFactored.args) (K : Bool × Unit → Prop) : evF tab (lkp [(7, c_impl_FactorMap), (12, c_impl_ImageOf), (10, c_impl_IsMap), (14, c_impl_IsPartition), (11, c_impl_KernelOf), (13, c_impl_ThenMaps), (5, c_laws_big), (9, c_laws_likeInts), (6, c_spec_DrawFactorMap), (8, c_spec_FactorMap)]) (cutL []) Try.f3 (bodyOf Try.f3) .n c_laws_FnFactored x K = W_laws_FnFactored x.1 K := by kernel_rfl
theorem k_laws_FnFactored : okC Try.f3.ntmps (cutL []) (bodyOf Try.f3) = true := by kernel_rfl
theorem m_laws_FnFactored (code : List Int) (hok : allP (okL c_laws_FnFactored.args (code, ()))) (hpre : allP (c_laws_FnFactored.pre (code, ()))) : W_laws_FnFactored code (fun r => r = c_laws_FnFactored.res (code, ())) := by
  simp only [c_laws_FnFactored, okL, T.oks, T.ok, ap, allP, true_and, and_true, implies_true] at hok hpre
  try dsimp only [T.den] at hok
  try dsimp only [T.den] at hpre
  unfold W_laws_FnFactored
  refine cnd_d (fun _ => rfl) (fun _ => ?_)
  generalize spec_l01One_r0R code = n
  generalize spec_l01One_r1R code = f
  refine cnd_of (fun h => ?_) (fun _ => cnd_of (fun h => ?_) (fun h => ?_))
  · simp [likeR] at h
  · have hz : codeR n [f] ≠ 0 := by simpa using h
    have : (!(inR n 0 256 && mapsR n f)) = true := by
      rw [Bool.not_eq_true', ← Bool.not_eq_true]
      intro e
      rw [Bool.and_eq_true] at e
      exact hz (by unfold codeR; rw [if_pos e.1, if_pos (by simp [e.2])])
    rw [this]; rfl
  · have hz : codeR n [f] = 0 := by simpa using h
    obtain ⟨f1, f2, f3, f4, f5⟩ := fac_ok hz
    have eI : imgOfR n f = imageR n f := if_pos hz
    have eq : facR n f = f.map (idxR (imageR n f)) := if_pos hz
    have ek : kerOfR n f = normR f := if_pos hz
    rw [eI, eq, ek, hz, f1, f2]
    have ek2 : kerOfR (imageR n f).length (f.map (idxR (imageR n f))) = normR f := by unfold kerOfR; rw [if_pos f1, f3]
    have et : thenMR (imageR n f).length (f.map (idxR (imageR n f))) n (imageR n f) = f := by unfold thenMR; rw [if_pos f2, f4]
    rw [ek2, et, f5, like_t.2 rfl, like_t.2 rfl, like_t.2 rfl]
    rfl
theorem ct_laws_FnFactored : CtOk Try.prog 3 c_laws_FnFactored :=
  ct_by (Φ := lkp [(7, c_impl_FactorMap), (12, c_impl_ImageOf), (10, c_impl_IsMap), (14, c_impl_IsPartition), (11, c_impl_KernelOf), (13, c_impl_ThenMaps), (5, c_laws_big), (9, c_laws_likeInts), (6, c_spec_DrawFactorMap), (8, c_spec_FactorMap)]) (good_cons ct_impl_FactorMap (good_cons ct_impl_ImageOf (good_cons ct_impl_IsMap (good_cons ct_impl_IsPartition (good_cons ct_impl_KernelOf (good_cons ct_impl_ThenMaps (good_cons ct_laws_big (good_cons ct_laws_likeInts (good_cons ct_spec_DrawFactorMap (good_cons ct_spec_FactorMap good_nil)))))))))) tab_ok (by kernel_rfl) (fn := Try.f3) (c := bodyOf Try.f3) (by kernel_rfl) (by kernel_rfl) (by kernel_rfl) c_laws_FnFactored rfl .n (cutL []) (by kernel_rfl) (by kernel_rfl) k_laws_FnFactored (by decide) (fun x K => W_laws_FnFactored x.1 K) w_laws_FnFactored (fun x h1 h2 => m_laws_FnFactored x.1 h1 h2)
end

end Go.Bm
