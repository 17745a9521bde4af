/- What the functions that FnExactImplyParts reaches give: for each its contract, what it asks, and the proof. No condition. -/
import Derived.Test.YtigkajkcdaoojaaFnExactImplyPartsFnsA
namespace Go.Bm
open Go.Proofs
set_option maxRecDepth 100000
set_option maxHeartbeats 1000000
set_option linter.unusedVariables false
set_option linter.unusedSimpArgs false
def c_spec_l25Part : Ct := ⟨[SetFunctorT, (.sl (.sl (.int .i64)))], [true, false], fun x => [SfP x.1], [(false, (.fz .bool))], fun x => (isPartR x.1 x.2.1, ()), false, none⟩
def W_spec_l25Part (f : SetFunctorD) (members : List (List Int)) (K : Bool × Unit → Prop) : Prop := (cnd ((((List.length members) : Nat) : Int) != (((List.length f.2.1) : Nat) : Int)) (K (Bool.false, ())) (loopW (S := ((Int × Unit) × Unit)) (fun s => (fun next => ((inK IntKind.i64 s.1.1) → (cnd (decide (s.1.1 < (((List.length members) : Nat) : Int))) (((0 : Int) ≤ s.1.1) ∧ ((s.1.1 < (((List.length members) : Nat) : Int)) ∧ ((((!(risesR (List.getD members (Int.toNat s.1.1) ([] : List Int)))) = Bool.false) → ((s.1.1 < (((List.length f.2.1) : Nat) : Int)) ∧ ((0 : Int) ≤ s.1.1))) ∧ ((((!(risesR (List.getD members (Int.toNat s.1.1) ([] : List Int)))) = Bool.false) → ((s.1.1 < (((List.length members) : Nat) : Int)) ∧ ((0 : Int) ≤ s.1.1))) ∧ (cnd ((!(risesR (List.getD members (Int.toNat s.1.1) ([] : List Int)))) || (!(withinR (List.getD members (Int.toNat s.1.1) ([] : List Int)) (List.getD f.2.1 (Int.toNat s.1.1) (0 : Int))))) (K (Bool.false, ())) ((inK IntKind.i64 (s.1.1 + (1 : Int))) ∧ (next (((s.1.1 + (1 : Int)), ()), ())))))))) (loopW (S := ((Int × Unit) × Unit)) (fun s1 => (fun next1 => ((inK IntKind.i64 s1.1.1) → (cnd (decide (s1.1.1 < (((List.length f.2.2) : Nat) : Int))) (((0 : Int) ≤ s1.1.1) ∧ ((s1.1.1 < (((List.length f.1.2.1) : Nat) : Int)) ∧ (((0 : Int) ≤ s1.1.1) ∧ ((s1.1.1 < (((List.length f.1.2.2.1) : Nat) : Int)) ∧ (loopW (S := ((Int × Unit) × Unit)) (fun s2 => (fun next2 => ((inK IntKind.i64 s2.1.1) → (((0 : Int) ≤ (List.getD f.1.2.1 (Int.toNat s1.1.1) (0 : Int))) ∧ (((List.getD f.1.2.1 (Int.toNat s1.1.1) (0 : Int)) < (((List.length members) : Nat) : Int)) ∧ (cnd (decide (s2.1.1 < (((List.length (List.getD members (Int.toNat (List.getD f.1.2.1 (Int.toNat s1.1.1) (0 : Int))) ([] : List Int))) : Nat) : Int))) (((0 : Int) ≤ (List.getD f.1.2.2.1 (Int.toNat s1.1.1) (0 : Int))) ∧ (((List.getD f.1.2.2.1 (Int.toNat s1.1.1) (0 : Int)) < (((List.length members) : Nat) : Int)) ∧ (((0 : Int) ≤ s1.1.1) ∧ ((s1.1.1 < (((List.length f.2.2) : Nat) : Int)) ∧ (((0 : Int) ≤ (List.getD f.1.2.1 (Int.toNat s1.1.1) (0 : Int))) ∧ (((List.getD f.1.2.1 (Int.toNat s1.1.1) (0 : Int)) < (((List.length members) : Nat) : Int)) ∧ (((0 : Int) ≤ s2.1.1) ∧ ((s2.1.1 < (((List.length (List.getD members (Int.toNat (List.getD f.1.2.1 (Int.toNat s1.1.1) (0 : Int))) ([] : List Int))) : Nat) : Int)) ∧ (((0 : Int) ≤ (List.getD (List.getD members (Int.toNat (List.getD f.1.2.1 (Int.toNat s1.1.1) (0 : Int))) ([] : List Int)) (Int.toNat s2.1.1) (0 : Int))) ∧ (((List.getD (List.getD members (Int.toNat (List.getD f.1.2.1 (Int.toNat s1.1.1) (0 : Int))) ([] : List Int)) (Int.toNat s2.1.1) (0 : Int)) < (((List.length (List.getD f.2.2 (Int.toNat s1.1.1) ([] : List Int))) : Nat) : Int)) ∧ (cnd (!(hasR (List.getD members (Int.toNat (List.getD f.1.2.2.1 (Int.toNat s1.1.1) (0 : Int))) ([] : List Int)) (List.getD (List.getD f.2.2 (Int.toNat s1.1.1) ([] : List Int)) (Int.toNat (List.getD (List.getD members (Int.toNat (List.getD f.1.2.1 (Int.toNat s1.1.1) (0 : Int))) ([] : List Int)) (Int.toNat s2.1.1) (0 : Int))) (0 : Int)))) (K (Bool.false, ())) ((inK IntKind.i64 (s2.1.1 + (1 : Int))) ∧ (next2 (((s2.1.1 + (1 : Int)), ()), ())))))))))))))) ((inK IntKind.i64 (s1.1.1 + (1 : Int))) ∧ (next1 (((s1.1.1 + (1 : Int)), ()), ()))))))))) (((0 : Int), ()), ())))))) (K (Bool.true, ())))))) (((0 : Int), ()), ())))))) (((0 : Int), ()), ())))
theorem w_spec_l25Part (x : denL c_spec_l25Part.args) (K : Bool × Unit → Prop) : evF tab (lkp [(99, c_spec_l01Has), (90, c_spec_l01Map), (154, c_spec_l02Rises)]) (cutL [(6, 16), (11, 13), (15, 18)]) Try.f113 (bodyOf Try.f113) (.s .n (.s .n (.s (.s .n (.l [(5, (.d (.int .i64)))] [] [1, 2] .n)) (.s (.s .n (.l [(6, (.d (.int .i64)))] [] [1, 2] (.s .n (.s (.s .n (.s .n (.l [(9, (.d (.int .i64)))] [] [1, 2, 6, 7, 8] .n))) .n)))) .n)))) c_spec_l25Part x K = W_spec_l25Part x.1 x.2.1 K := by kernel_rfl
theorem k_spec_l25Part : okC Try.f113.ntmps (cutL [(6, 16), (11, 13), (15, 18)]) (bodyOf Try.f113) = true := by kernel_rfl
theorem m_spec_l25Part (f : SetFunctorD) (members : List (List Int)) (hok : allP (okL c_spec_l25Part.args (f, members, ()))) (hpre : allP (c_spec_l25Part.pre (f, members, ()))) : W_spec_l25Part f members (fun r => r = c_spec_l25Part.res (f, members, ())) := by
  simp only [c_spec_l25Part, okL, T.oks, T.ok, ap, allP, true_and, and_true, implies_true] at hok hpre
  try dsimp only [T.den] at hok
  try dsimp only [T.den] at hpre
  unfold W_spec_l25Part
  have S : SfP f := hpre
  have C := cat_shape S.cat
  have hlt := C.lt
  have hm := C.m
  have hla := S.la
  have hob := C.ob
  have hlz := S.lz
  have hv : isPartR f members = (decide (members.length = f.2.1.length) && allB members.length (prtX f members) && allB f.2.2.length (prtA f members)) := rfl
  have res : ∀ b, isPartR f members = b → (b, ()) = c_spec_l25Part.res (f, members, ()) := fun b h => by simp only [c_spec_l25Part, h]
  refine cnd_of (fun hx => res _ ?_) (fun hx => ?_)
  · rw [hv, decide_eq_false (by simp at hx; omega), Bool.false_and, Bool.false_and]
  have hl : members.length = f.2.1.length := by rw [bne_eq_false_iff_eq] at hx; omega
  rw [decide_eq_true hl, Bool.true_and] at hv
  refine loop_allB members.length (prtX f members) ?_ ?_
  · intro x next x0 x1 hno hyes _
    try dsimp only
    have hz := S.size x0 (by omega)
    refine cnd_d (fun _ => ⟨x0, x1, fun _ => ⟨by omega, x0⟩, fun _ => ⟨by omega, x0⟩, cnd_of (fun hx => res _ ?_) (fun hx => ⟨by rw [inK64]; (try dsimp only); omega, hyes ?_⟩)⟩) (fun h => absurd x1 h)
    · rw [hv, hno ((by decide : ∀ u v : Bool, (!u || !v) = true → (u && v) = false) _ _ hx), Bool.false_and]
    · exact (by decide : ∀ u v : Bool, (!u || !v) = false → (u && v) = true) _ _ hx
  · intro next h _
    refine cnd_d (fun h => absurd h (Int.lt_irrefl _)) (fun _ => ?_)
    rw [h, Bool.true_and] at hv
    rw [allB_iff] at h
    refine loop_allB f.2.2.length (prtA f members) ?_ ?_
    · intro a next1 a0 a1 hno1 hyes1 _
      try dsimp only
      have hf := within_iff.1 C.fr a a0 (by omega)
      have hto := within_iff.1 C.to a a0 (by omega)
      have hact := S.act a a0 (by omega)
      have hwx := h (f.1.2.1.getD a.toNat 0) hf.1 (by omega)
      simp only [prtX, Bool.and_eq_true] at hwx
      have hlen := (hok.2.2.2.2.2.2.2.2 _ (getD_mem members [] hf.1 (by omega))).1
      simp only [nb_eq] at hlen
      refine cnd_d (fun _ => ⟨a0, by omega, a0, by omega, ?_⟩) (fun h => absurd a1 h)
      refine loop_all (members.getD (f.1.2.1.getD a.toNat 0).toNat []) 0 (fun e => mem2 members (f.1.2.2.1.getD a.toNat 0) (actR f a e)) ?_ ?_
      · intro j next2 j0 j1 hno2 hyes2 _
        try dsimp only at hno2 hyes2 ⊢
        have he := within_iff.1 hwx.2 j j0 j1
        refine ⟨hf.1, by omega, cnd_d (fun _ => ⟨hto.1, by omega, a0, by omega, hf.1, by omega, j0, j1, he.1, by omega, cnd_of (fun hx => res _ ?_) (fun hx => ⟨by rw [inK64]; (try dsimp only); omega, hyes2 ?_⟩)⟩) (fun h => absurd j1 h)⟩
        · rw [hv]; exact hno1 (hno2 (by rw [Bool.not_eq_true'] at hx; exact hx))
        · rw [Bool.not_eq_false'] at hx; exact hx
      · intro next2 h2 _
        exact ⟨hf.1, by omega, cnd_d (fun h => absurd h (Int.lt_irrefl _)) (fun _ => ⟨by rw [inK64]; (try dsimp only); omega, hyes1 h2⟩)⟩
    · intro next1 h1 _
      exact cnd_d (fun h => absurd h (Int.lt_irrefl _)) (fun _ => res _ (by rw [hv, h1]))
theorem ct_spec_l25Part : CtOk Try.prog 113 c_spec_l25Part :=
  ct_by (Φ := lkp [(99, c_spec_l01Has), (90, c_spec_l01Map), (154, c_spec_l02Rises)]) (good_cons ct_spec_l01Has (good_cons ct_spec_l01Map (good_cons ct_spec_l02Rises good_nil))) tab_ok (by kernel_rfl) (fn := Try.f113) (c := bodyOf Try.f113) (by kernel_rfl) (by kernel_rfl) (by kernel_rfl) c_spec_l25Part rfl (.s .n (.s .n (.s (.s .n (.l [(5, (.d (.int .i64)))] [] [1, 2] .n)) (.s (.s .n (.l [(6, (.d (.int .i64)))] [] [1, 2] (.s .n (.s (.s .n (.s .n (.l [(9, (.d (.int .i64)))] [] [1, 2, 6, 7, 8] .n))) .n)))) .n)))) (cutL [(6, 16), (11, 13), (15, 18)]) (by kernel_rfl) (by kernel_rfl) k_spec_l25Part (by decide) (fun x K => W_spec_l25Part x.1 x.2.1 K) w_spec_l25Part (fun x h1 h2 => m_spec_l25Part x.1 x.2.1 h1 h2)
def c_spec_IsPart : Ct := ⟨[SetFunctorT, PartT], [true, true], fun x => [], [(false, (.fz .bool))], fun x => ((setfR x.1 && isPartR x.1 x.2.1), ()), false, none⟩
def W_spec_IsPart (f : SetFunctorD) (p : PartD) (K : Bool × Unit → Prop) : Prop := ((((setfR f) = Bool.true) → (SfP f)) ∧ (K (((setfR f) && (isPartR f p)), ())))
theorem w_spec_IsPart (x : denL c_spec_IsPart.args) (K : Bool × Unit → Prop) : evF tab (lkp [(112, c_spec_l19Is), (113, c_spec_l25Part)]) (cutL []) Try.f73 (bodyOf Try.f73) .n c_spec_IsPart x K = W_spec_IsPart x.1 x.2.1 K := by kernel_rfl
theorem k_spec_IsPart : okC Try.f73.ntmps (cutL []) (bodyOf Try.f73) = true := by kernel_rfl
theorem m_spec_IsPart (f : SetFunctorD) (p : PartD) (hok : allP (okL c_spec_IsPart.args (f, p, ()))) (hpre : allP (c_spec_IsPart.pre (f, p, ()))) : W_spec_IsPart f p (fun r => r = c_spec_IsPart.res (f, p, ())) := by
  simp only [c_spec_IsPart, okL, T.oks, T.ok, ap, allP, true_and, and_true, implies_true] at hok hpre
  try dsimp only [T.den] at hok
  try dsimp only [T.den] at hpre
  unfold W_spec_IsPart
  exact ⟨fun h => setf_sf h, rfl⟩
theorem ct_spec_IsPart : CtOk Try.prog 73 c_spec_IsPart :=
  ct_by (Φ := lkp [(112, c_spec_l19Is), (113, c_spec_l25Part)]) (good_cons ct_spec_l19Is (good_cons ct_spec_l25Part good_nil)) tab_ok (by kernel_rfl) (fn := Try.f73) (c := bodyOf Try.f73) (by kernel_rfl) (by kernel_rfl) (by kernel_rfl) c_spec_IsPart rfl .n (cutL []) (by kernel_rfl) (by kernel_rfl) k_spec_IsPart (by decide) (fun x K => W_spec_IsPart x.1 x.2.1 K) w_spec_IsPart (fun x h1 h2 => m_spec_IsPart x.1 x.2.1 h1 h2)
def c_spec_l26Two : Ct := ⟨[SetFunctorT, PartT, PartT], [true, true, true], fun x => [], [(false, (.fz .bool))], fun x => (bothR x.1 x.2.1 x.2.2.1, ()), false, none⟩
def W_spec_l26Two (f : SetFunctorD) (p : PartD) (q : PartD) (K : Bool × Unit → Prop) : Prop := (((((setfR f) && (isPartR f p)) = Bool.true) → (SfP f)) ∧ (K ((((setfR f) && (isPartR f p)) && (isPartR f q)), ())))
theorem w_spec_l26Two (x : denL c_spec_l26Two.args) (K : Bool × Unit → Prop) : evF tab (lkp [(73, c_spec_IsPart), (113, c_spec_l25Part)]) (cutL []) Try.f81 (bodyOf Try.f81) .n c_spec_l26Two x K = W_spec_l26Two x.1 x.2.1 x.2.2.1 K := by kernel_rfl
theorem k_spec_l26Two : okC Try.f81.ntmps (cutL []) (bodyOf Try.f81) = true := by kernel_rfl
theorem m_spec_l26Two (f : SetFunctorD) (p : PartD) (q : PartD) (hok : allP (okL c_spec_l26Two.args (f, p, q, ()))) (hpre : allP (c_spec_l26Two.pre (f, p, q, ()))) : W_spec_l26Two f p q (fun r => r = c_spec_l26Two.res (f, p, q, ())) := by
  simp only [c_spec_l26Two, okL, T.oks, T.ok, ap, allP, true_and, and_true, implies_true] at hok hpre
  try dsimp only [T.den] at hok
  try dsimp only [T.den] at hpre
  unfold W_spec_l26Two
  exact ⟨fun h => setf_sf (Bool.and_eq_true_iff.1 h).1, rfl⟩
theorem ct_spec_l26Two : CtOk Try.prog 81 c_spec_l26Two :=
  ct_by (Φ := lkp [(73, c_spec_IsPart), (113, c_spec_l25Part)]) (good_cons ct_spec_IsPart (good_cons ct_spec_l25Part good_nil)) tab_ok (by kernel_rfl) (fn := Try.f81) (c := bodyOf Try.f81) (by kernel_rfl) (by kernel_rfl) (by kernel_rfl) c_spec_l26Two rfl .n (cutL []) (by kernel_rfl) (by kernel_rfl) k_spec_l26Two (by decide) (fun x K => W_spec_l26Two x.1 x.2.1 x.2.2.1 K) w_spec_l26Two (fun x h1 h2 => m_spec_l26Two x.1 x.2.1 x.2.2.1 h1 h2)
def c_spec_ImplyParts : Ct := ⟨[SetFunctorT, PartT, PartT], [true, true, true], fun x => [], [(true, PartO), (false, (.fz (.int .i64)))], fun x => (iPR x.1 x.2.1 x.2.2.1, codPR (bothR x.1 x.2.1 x.2.2.1), ()), false, none⟩
def W_spec_ImplyParts (f : SetFunctorD) (p : PartD) (q : PartD) (K : PartD × Int × Unit → Prop) : Prop := (cnd (!(bothR f p q)) (K (([] : List (List Int)), ((1 : Int), ()))) ((SfP f) ∧ ((PrtP f p) ∧ ((PrtP f q) ∧ (K ((implyR f p q), ((0 : Int), ())))))))
theorem w_spec_ImplyParts (x : denL c_spec_ImplyParts.args) (K : PartD × Int × Unit → Prop) : evF tab (lkp [(82, c_spec_l26Imply), (81, c_spec_l26Two)]) (cutL []) Try.f41 (bodyOf Try.f41) .n c_spec_ImplyParts x K = W_spec_ImplyParts x.1 x.2.1 x.2.2.1 K := by kernel_rfl
theorem k_spec_ImplyParts : okC Try.f41.ntmps (cutL []) (bodyOf Try.f41) = true := by kernel_rfl
theorem m_spec_ImplyParts (f : SetFunctorD) (p : PartD) (q : PartD) (hok : allP (okL c_spec_ImplyParts.args (f, p, q, ()))) (hpre : allP (c_spec_ImplyParts.pre (f, p, q, ()))) : W_spec_ImplyParts f p q (fun r => r = c_spec_ImplyParts.res (f, p, q, ())) := by
  simp only [c_spec_ImplyParts, okL, T.oks, T.ok, ap, allP, true_and, and_true, implies_true] at hok hpre
  try dsimp only [T.den] at hok
  try dsimp only [T.den] at hpre
  unfold W_spec_ImplyParts
  refine cnd_of (fun hx => ?_) (fun hx => ?_)
  · have h : bothR f p q = false := by rw [Bool.not_eq_true'] at hx; exact hx
    simp only [c_spec_ImplyParts, h, iPR_f h, codP_f]
  · have h : bothR f p q = true := by simpa using hx
    have h' := h
    simp only [bothR, Bool.and_eq_true] at h'
    have S := setf_sf h'.1.1
    refine ⟨S, isPart_prt S h'.1.2, isPart_prt S h'.2, ?_⟩
    simp only [c_spec_ImplyParts, h, iPR_t h, codP_t]
theorem ct_spec_ImplyParts : CtOk Try.prog 41 c_spec_ImplyParts :=
  ct_by (Φ := lkp [(82, c_spec_l26Imply), (81, c_spec_l26Two)]) (good_cons ct_spec_l26Imply (good_cons ct_spec_l26Two good_nil)) tab_ok (by kernel_rfl) (fn := Try.f41) (c := bodyOf Try.f41) (by kernel_rfl) (by kernel_rfl) (by kernel_rfl) c_spec_ImplyParts rfl .n (cutL []) (by kernel_rfl) (by kernel_rfl) k_spec_ImplyParts (by decide) (fun x K => W_spec_ImplyParts x.1 x.2.1 x.2.2.1 K) w_spec_ImplyParts (fun x h1 h2 => m_spec_ImplyParts x.1 x.2.1 x.2.2.1 h1 h2)
def c_laws_FnExactImplyParts : Ct := ⟨[SetFunctorT, PartT, PartT], [true, true, true], fun x => [], [(false, (.fz .bool))], fun x => (true, ()), false, none⟩
def W_laws_FnExactImplyParts (aF : SetFunctorD) (aP : PartD) (aQ : PartD) (K : Bool × Unit → Prop) : Prop := (((-(4611404543450677248 : Int)) ≤ (1048576 : Int)) ∧ (cnd (decide ((szR (wR SetFunctorT aF) (1048576 : Int)) < (0 : Int))) (K (Bool.true, ())) (((-(4611404543450677248 : Int)) ≤ (szR (wR SetFunctorT aF) (1048576 : Int))) ∧ (cnd (decide ((szR (wR (T.sl (T.sl (T.int IntKind.i64))) aP) (szR (wR SetFunctorT aF) (1048576 : Int))) < (0 : Int))) (K (Bool.true, ())) (((-(4611404543450677248 : Int)) ≤ (szR (wR (T.sl (T.sl (T.int IntKind.i64))) aP) (szR (wR SetFunctorT aF) (1048576 : Int)))) ∧ (cnd (decide ((szR (wR (T.sl (T.sl (T.int IntKind.i64))) aQ) (szR (wR (T.sl (T.sl (T.int IntKind.i64))) aP) (szR (wR SetFunctorT aF) (1048576 : Int)))) < (0 : Int))) (K (Bool.true, ())) (((wR SetFunctorT aF) ≤ 1099511627776) ∧ (((wR (T.sl (T.sl (T.int IntKind.i64))) aP) ≤ 1099511627776) ∧ (((wR (T.sl (T.sl (T.int IntKind.i64))) aQ) ≤ 1099511627776) ∧ (((wR SetFunctorT aF) ≤ 1099511627776) ∧ (((wR (T.sl (T.sl (T.int IntKind.i64))) aP) ≤ 1099511627776) ∧ (((wR (T.sl (T.sl (T.int IntKind.i64))) aQ) ≤ 1099511627776) ∧ (cnd ((!(eqR (T.sl (T.sl (T.int IntKind.i64))) (iPR aF aP aQ) (iPR aF aP aQ))) || ((codPR (bothR aF aP aQ)) != (codPR (bothR aF aP aQ)))) (K (Bool.false, ())) (((wR SetFunctorT aF) ≤ 1099511627776) ∧ (cnd (!(eqR SetFunctorT aF aF)) (K (Bool.false, ())) (((wR (T.sl (T.sl (T.int IntKind.i64))) aP) ≤ 1099511627776) ∧ (cnd (!(eqR (T.sl (T.sl (T.int IntKind.i64))) aP aP)) (K (Bool.false, ())) (((wR (T.sl (T.sl (T.int IntKind.i64))) aQ) ≤ 1099511627776) ∧ (cnd (!(eqR (T.sl (T.sl (T.int IntKind.i64))) aQ aQ)) (K (Bool.false, ())) (((0 : Int) ≤ (1 : Int)) ∧ ((((1 : Int) + (((ctR SetFunctorT aF) : Nat) : Int)) ≤ (4611686018427387904 : Int)) ∧ (((0 : Int) ≤ (mtR SetFunctorT aF (1 : Int)).2) ∧ ((((mtR SetFunctorT aF (1 : Int)).2 + (((ctR (T.sl (T.sl (T.int IntKind.i64))) aP) : Nat) : Int)) ≤ (4611686018427387904 : Int)) ∧ (((0 : Int) ≤ (mtR (T.sl (T.sl (T.int IntKind.i64))) aP (mtR SetFunctorT aF (1 : Int)).2).2) ∧ ((((mtR (T.sl (T.sl (T.int IntKind.i64))) aP (mtR SetFunctorT aF (1 : Int)).2).2 + (((ctR (T.sl (T.sl (T.int IntKind.i64))) aQ) : Nat) : Int)) ≤ (4611686018427387904 : Int)) ∧ (cnd (((decide ((mtR (T.sl (T.sl (T.int IntKind.i64))) aQ (mtR (T.sl (T.sl (T.int IntKind.i64))) aP (mtR SetFunctorT aF (1 : Int)).2).2).2 < (0 : Int))) || (!(eqR (T.sl (T.sl (T.int IntKind.i64))) (iPR aF aP aQ) (iPR aF aP aQ)))) || ((codPR (bothR aF aP aQ)) != (codPR (bothR aF aP aQ)))) (K (Bool.false, ())) (((0 : Int) ≤ (1 : Int)) ∧ ((((1 : Int) + (((ctR (T.sl (T.sl (T.int IntKind.i64))) (iPR aF aP aQ)) : Nat) : Int)) ≤ (4611686018427387904 : Int)) ∧ (((0 : Int) ≤ (1 : Int)) ∧ ((((1 : Int) + (((ctR (T.sl (T.sl (T.int IntKind.i64))) (mtR (T.sl (T.sl (T.int IntKind.i64))) (iPR aF aP aQ) (1 : Int)).1) : Nat) : Int)) ≤ (4611686018427387904 : Int)) ∧ (cnd (decide ((htR (T.sl (T.sl (T.int IntKind.i64))) (mtR (T.sl (T.sl (T.int IntKind.i64))) (iPR aF aP aQ) (1 : Int)).1 (1 : Int)) < (0 : Int))) (K (Bool.false, ())) (cnd ((htR (T.sl (T.sl (T.int IntKind.i64))) (mtR (T.sl (T.sl (T.int IntKind.i64))) (iPR aF aP aQ) (1 : Int)).1 (1 : Int)) != (mtR (T.sl (T.sl (T.int IntKind.i64))) (iPR aF aP aQ) (1 : Int)).2) (K (Bool.false, ())) (((wR SetFunctorT aF) ≤ 1099511627776) ∧ (((wR (T.sl (T.sl (T.int IntKind.i64))) aP) ≤ 1099511627776) ∧ (((wR (T.sl (T.sl (T.int IntKind.i64))) aQ) ≤ 1099511627776) ∧ (cnd ((!(eqR (T.sl (T.sl (T.int IntKind.i64))) (iPR aF aP aQ) (iPR aF aP aQ))) || ((codPR (bothR aF aP aQ)) != (codPR (bothR aF aP aQ)))) (K (Bool.false, ())) (((0 : Int) ≤ (1 : Int)) ∧ ((((1 : Int) + (((ctR (T.sl (T.sl (T.int IntKind.i64))) (mtR (T.sl (T.sl (T.int IntKind.i64))) (iPR aF aP aQ) (1 : Int)).1) : Nat) : Int)) ≤ (4611686018427387904 : Int)) ∧ (cnd (decide ((htR (T.sl (T.sl (T.int IntKind.i64))) (mtR (T.sl (T.sl (T.int IntKind.i64))) (iPR aF aP aQ) (1 : Int)).1 (1 : Int)) < (0 : Int))) (K (Bool.false, ())) (cnd ((htR (T.sl (T.sl (T.int IntKind.i64))) (mtR (T.sl (T.sl (T.int IntKind.i64))) (iPR aF aP aQ) (1 : Int)).1 (1 : Int)) != (mtR (T.sl (T.sl (T.int IntKind.i64))) (iPR aF aP aQ) (1 : Int)).2) (K (Bool.false, ())) (K (Bool.true, ()))))))))))))))))))))))))))))))))))))))))))
theorem w_laws_FnExactImplyParts (x : denL c_laws_FnExactImplyParts.args) (K : Bool × Unit → Prop) : evF tab (lkp [(42, c_impl_ImplyParts), (38, c_laws_eqPart), (37, c_laws_eqSetFunctor), (45, c_laws_heldPart), (44, c_laws_markPart), (43, c_laws_markSetFunctor), (32, c_laws_szPart), (31, c_laws_szSetFunctor), (35, c_laws_toPart), (34, c_laws_toSetFunctor), (41, c_spec_ImplyParts)]) (cutL [(18, 503), (20, 503), (38, 511), (22, 503), (11, 511)]) Try.f9 (bodyOf Try.f9) .n c_laws_FnExactImplyParts x K = W_laws_FnExactImplyParts x.1 x.2.1 x.2.2.1 K := by kernel_rfl
theorem k_laws_FnExactImplyParts : okC Try.f9.ntmps (cutL [(18, 503), (20, 503), (38, 511), (22, 503), (11, 511)]) (bodyOf Try.f9) = true := by kernel_rfl
theorem m_laws_FnExactImplyParts (aF : SetFunctorD) (aP : PartD) (aQ : PartD) (hok : allP (okL c_laws_FnExactImplyParts.args (aF, aP, aQ, ()))) (hpre : allP (c_laws_FnExactImplyParts.pre (aF, aP, aQ, ()))) : W_laws_FnExactImplyParts aF aP aQ (fun r => r = c_laws_FnExactImplyParts.res (aF, aP, aQ, ())) := by
  simp only [c_laws_FnExactImplyParts, okL, T.oks, T.ok, ap, allP, true_and, and_true, implies_true] at hok hpre
  try dsimp only [T.den] at hok
  try dsimp only [T.den] at hpre
  unfold W_laws_FnExactImplyParts
  have hg : ctR PartT (iPR aF aP aQ) ≤ 128 := by
    unfold iPR
    split
    · rename_i h
      simp only [bothR, Bool.and_eq_true] at h
      exact partOf_ck (setf_sf h.1.1) _
    · rw [nil_ck]; omega
  have e1 := ct_le SetFunctorT (by decide) aF
  have e2 := ct_le PartT (by decide) aP
  have e4 := ct_le PartT (by decide) aQ
  have e3 := @ht_mt1 PartT (iPR aF aP aQ) 1
  simp only [Int.ofNat_one, Int.natCast_one] at e3
  simp only [eqR_self, mt_num, ct_mt, e3]
  simp only [szR_neg]
  generalize wR SetFunctorT aF = n1 at *
  generalize ctR SetFunctorT aF = n2 at *
  generalize wR PartT aP = n3 at *
  generalize ctR PartT aP = n4 at *
  generalize ctR PartT (iPR aF aP aQ) = n5 at *
  generalize wR PartT aQ = n6 at *
  generalize ctR PartT aQ = n7 at *
  have sz : ∀ (n : Nat) (l : Int), (l < n ∧ szR n l = -1) ∨ (n ≤ l ∧ szR n l = l - n) := fun n l => by unfold szR; split <;> omega
  have s1 := sz n1 1048576
  generalize szR n1 1048576 = z1 at *
  have s2 := sz n3 z1
  generalize szR n3 z1 = z2 at *
  have s3 := sz n6 z2
  generalize szR n6 z2 = z3 at *
  clear sz
  clear hok
  repeat' (first | rfl | (refine cnd_d (fun _ => rfl) (fun h => ?_)) | (refine cnd_of (fun h => absurd h (by first | (simp; done) | (simp; omega))) (fun _ => ?_)) | (refine ⟨by omega, ?_⟩))
theorem ct_laws_FnExactImplyParts : CtOk Try.prog 9 c_laws_FnExactImplyParts :=
  ct_by (Φ := lkp [(42, c_impl_ImplyParts), (38, c_laws_eqPart), (37, c_laws_eqSetFunctor), (45, c_laws_heldPart), (44, c_laws_markPart), (43, c_laws_markSetFunctor), (32, c_laws_szPart), (31, c_laws_szSetFunctor), (35, c_laws_toPart), (34, c_laws_toSetFunctor), (41, c_spec_ImplyParts)]) (good_cons ct_impl_ImplyParts (good_cons ct_laws_eqPart (good_cons ct_laws_eqSetFunctor (good_cons ct_laws_heldPart (good_cons ct_laws_markPart (good_cons ct_laws_markSetFunctor (good_cons ct_laws_szPart (good_cons ct_laws_szSetFunctor (good_cons ct_laws_toPart (good_cons ct_laws_toSetFunctor (good_cons ct_spec_ImplyParts good_nil))))))))))) tab_ok (by kernel_rfl) (fn := Try.f9) (c := bodyOf Try.f9) (by kernel_rfl) (by kernel_rfl) (by kernel_rfl) c_laws_FnExactImplyParts rfl .n (cutL [(18, 503), (20, 503), (38, 511), (22, 503), (11, 511)]) (by kernel_rfl) (by kernel_rfl) k_laws_FnExactImplyParts (by decide) (fun x K => W_laws_FnExactImplyParts x.1 x.2.1 x.2.2.1 K) w_laws_FnExactImplyParts (fun x h1 h2 => m_laws_FnExactImplyParts x.1 x.2.1 x.2.2.1 h1 h2)
end Go.Bm
