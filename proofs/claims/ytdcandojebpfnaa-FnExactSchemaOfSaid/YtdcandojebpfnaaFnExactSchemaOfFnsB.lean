/- What the functions that FnExactSchemaOf reaches give: for each its contract, what it asks, and the proof. No condition. -/
import Derived.Test.YtdcandojebpfnaaFnExactSchemaOfFnsA
namespace Go.Bm
open Go.Proofs
set_option maxRecDepth 100000
set_option maxHeartbeats 1000000
set_option linter.unusedVariables false
set_option linter.unusedSimpArgs false
def lpRow (c : CategoryD) (f : Int) : List Int := (lpPR c (irrR c)).getD f.toNat []
def soQ (c : CategoryD) (f e : Int) : Bool := (decide (compR c f ((irrR c).getD e.toNat 0) < 0) || idR c f) || eqR (.sl (.int .i64)) (lpRow c f ++ [e]) (lpRow c (compR c f ((irrR c).getD e.toNat 0)))
def soE (c : CategoryD) (f : Int) (s : List PathD × List PathD) : Nat -> List PathD × List PathD
 | 0 => s
 | k + 1 => if soQ c f k = true then soE c f s k else ((soE c f s k).1 ++ [(c.2.1.getD f.toNat 0, lpRow c f ++ [(k : Int)])], (soE c f s k).2 ++ [(c.2.1.getD f.toNat 0, lpRow c (compR c f ((irrR c).getD k 0)))])
def soF (c : CategoryD) : Nat -> List PathD × List PathD
 | 0 => ([], [])
 | k + 1 => soE c k (soF c k) (irrR c).length
def soS (c : CategoryD) : SchemaD := (c.1, thenR (irrR c) c.2.1, thenR (irrR c) c.2.2.1, (soF c c.2.1.length).1, (soF c c.2.1.length).2)
def soZ : SchemaD := (0, [], [], [], [])
def soR (c : CategoryD) : SchemaD × Int := if catR c = true then (if lpOkR c (irrR c) = true then (if isSchemaR (soS c) = true then (soS c, 0) else (soZ, 3)) else (soZ, 4)) else (soZ, 1)
theorem irr_len {c : CategoryD} : (irrR c).length <= c.2.1.length := by unfold irrR; exact sel_len _
theorem irr_within {c : CategoryD} : withinR (irrR c) c.2.1.length = true := by
 unfold withinR
 rw [List.all_eq_true]
 intro x hx
 unfold irrR at hx
 obtain ⟨a, b, _⟩ := sel_mem.1 hx
 rw [inR_iff]; omega
theorem cls_get {z : List Int} : ∀ (o : OutD) (h : Nat), (clsR z o).getD h z = (o.getD h none).getD z
 | [], h => by simp [clsR]
 | a :: r, 0 => by cases a <;> simp [clsR]
 | a :: r, h + 1 => by
  have := @cls_get z r h
  simpa [clsR] using this
theorem lpL_v {c : CategoryD} (S : ShapeP c) {gens : List Int} (hg : withinR gens c.2.1.length = true) : ∀ (n B : Nat) (out : OutD) (todo : List Int), LpV c.2.1.length B (out, todo) ->
  (lpL c gens n out todo).length = c.2.1.length /\ ∀ (h : Nat) (l : List Int), (lpL c gens n out todo).getD h none = some l -> l.length <= c.2.1.length
 | 0, B, out, todo, V => ⟨V.len, fun h l e => by have := V.lnb h l e; omega⟩
 | n + 1, B, out, [], V => ⟨V.len, fun h l e => by have := V.lnb h l e; omega⟩
 | n + 1, B, out, f :: todo, V => by
  obtain ⟨f0, f1, fk⟩ := V.rng f (by simp)
  have V1 : LpV c.2.1.length (todo.length + nonC out) (out, todo) := ⟨V.len, fun g hg => V.rng g (by simp only [List.mem_cons]; exact .inr hg), V.lnb, Nat.le_refl _⟩
  obtain ⟨V2, _⟩ := lpE_v S hg f0 f1 V1 fk gens.length (Nat.le_refl _)
  rw [lpL]
  exact lpL_v S hg n _ _ _ V2
theorem lp_len {c : CategoryD} (S : ShapeP c) (h : lpOkR c (irrR c) = true) : (lpPR c (irrR c)).length = c.2.1.length := by
 rw [lpPR, if_pos h]
 have := (lpL_v S irr_within (c.2.1.length + c.2.2.2.1.length + 1) _ _ _ (lpV_0 S)).1
 rw [← this]
 simp [clsR, lpF]
theorem lp_row {c : CategoryD} (S : ShapeP c) (f : Int) : (lpRow c f).length <= c.2.1.length := by
 rw [lpRow, lpPR]
 split
 ·rw [cls_get]
  cases e : (lpF c (irrR c)).getD f.toNat none with
  | none => simp
  | some l => exact (lpL_v S irr_within (c.2.1.length + c.2.2.2.1.length + 1) _ _ _ (lpV_0 S)).2 _ _ e
 ·simp
theorem soE_s {c : CategoryD} {f e : Int} {s : List PathD × List PathD} (e0 : 0 <= e) : soE c f s (e + 1).toNat = if soQ c f e = true then soE c f s e.toNat else ((soE c f s e.toNat).1 ++ [(c.2.1.getD f.toNat 0, lpRow c f ++ [e])], (soE c f s e.toNat).2 ++ [(c.2.1.getD f.toNat 0, lpRow c (compR c f ((irrR c).getD e.toNat 0)))]) := by
 rw [show (e + 1).toNat = e.toNat + 1 from by omega, soE, show ((e.toNat : Nat) : Int) = e from by omega]
theorem soE_len {c : CategoryD} {f : Int} {s : List PathD × List PathD} (h : s.1.length = s.2.length) : ∀ k : Nat, s.1.length <= (soE c f s k).1.length /\ (soE c f s k).1.length <= s.1.length + k /\ (soE c f s k).1.length = (soE c f s k).2.length
 | 0 => ⟨Nat.le_refl _, Nat.le_refl _, h⟩
 | k + 1 => by
  have := soE_len (c := c) (f := f) h k
  rw [soE]
  split
  ·omega
  ·simp only [List.length_append, List.length_singleton]; omega
theorem soF_len {c : CategoryD} : ∀ k : Nat, (soF c k).1.length <= k * (irrR c).length /\ (soF c k).1.length = (soF c k).2.length
 | 0 => ⟨Nat.zero_le _, rfl⟩
 | k + 1 => by
  have h := soF_len (c := c) k
  have := soE_len (c := c) (f := k) h.2 (irrR c).length
  rw [soF, Nat.add_mul, Nat.one_mul]
  omega
theorem soF_s {c : CategoryD} {f : Int} (f0 : 0 <= f) : soF c (f + 1).toNat = soE c f (soF c f.toNat) (irrR c).length := by
 rw [show (f + 1).toNat = f.toNat + 1 from by omega, soF, show ((f.toNat : Nat) : Int) = f from by omega]
def soT (c : CategoryD) (s : List PathD × List PathD) : SchemaD := (c.1, thenR (irrR c) c.2.1, thenR (irrR c) c.2.2.1, s.1, s.2)
def c_impl_SchemaOf : Ct := ⟨[CategoryT], [true], fun x => [], [(true, SchemaO), (false, (.fz (.int .i64)))], fun x => ((soR x.1).1, (soR x.1).2, ()), false, none⟩
def an_impl_SchemaOf : Ann := (.s .n (.s .n (.s .n (.s .n (.s .n (.s .n (.s (.s .n (.l [(2, (.ad 2 [.de])), (7, (.ad 7 [.de])), (39, (.d (.int .i64)))] [(2, (.pt (.p (.fz (.int .i64)) (.p (.sl (.fz (.int .i64))) (.p (.sl (.fz (.int .i64))) (.p (.sl (.p (.fz (.int .i64)) (.sl (.fz (.int .i64))))) (.sl (.p (.fz (.int .i64)) (.sl (.fz (.int .i64))))))))))), (7, (.pt (.p (.fz (.int .i64)) (.p (.sl (.fz (.int .i64))) (.p (.sl (.fz (.int .i64))) (.p (.sl (.p (.fz (.int .i64)) (.sl (.fz (.int .i64))))) (.sl (.p (.fz (.int .i64)) (.sl (.fz (.int .i64)))))))))))] [1, 4, 5, 38] (.s .n (.s .n (.s (.s .n (.s .n (.l [(2, (.ad 2 [.de])), (7, (.ad 7 [.de])), (44, (.d (.int .i64)))] [(2, (.pt (.p (.fz (.int .i64)) (.p (.sl (.fz (.int .i64))) (.p (.sl (.fz (.int .i64))) (.p (.sl (.p (.fz (.int .i64)) (.sl (.fz (.int .i64))))) (.sl (.p (.fz (.int .i64)) (.sl (.fz (.int .i64))))))))))), (7, (.pt (.p (.fz (.int .i64)) (.p (.sl (.fz (.int .i64))) (.p (.sl (.fz (.int .i64))) (.p (.sl (.p (.fz (.int .i64)) (.sl (.fz (.int .i64))))) (.sl (.p (.fz (.int .i64)) (.sl (.fz (.int .i64)))))))))))] [1, 4, 5, 8, 38, 39, 42, 43] (.s .n (.s .n (.s (.j [(2, (.ad 2 [.de])), (7, (.ad 7 [.de]))] [(2, (.pt (.p (.fz (.int .i64)) (.p (.sl (.fz (.int .i64))) (.p (.sl (.fz (.int .i64))) (.p (.sl (.p (.fz (.int .i64)) (.sl (.fz (.int .i64))))) (.sl (.p (.fz (.int .i64)) (.sl (.fz (.int .i64))))))))))), (7, (.pt (.p (.fz (.int .i64)) (.p (.sl (.fz (.int .i64))) (.p (.sl (.fz (.int .i64))) (.p (.sl (.p (.fz (.int .i64)) (.sl (.fz (.int .i64))))) (.sl (.p (.fz (.int .i64)) (.sl (.fz (.int .i64)))))))))))] [1, 4, 5, 8, 38, 39, 42, 43, 44] .n) .n)))))) .n))))) .n)))))))
def ph_impl_SchemaOf : FuncId -> Option Ct := lkp [(64, c_impl_Category_irreducible), (48, c_impl_Category_isCategory), (68, c_impl_Category_isIdentity), (65, c_impl_Category_leastPaths), (67, c_impl_Category_then), (71, c_impl_Schema_isSchema), (69, c_impl_clone), (70, c_impl_same), (66, c_impl_then)]
def W_impl_SchemaOf (c : CategoryD) (K : SchemaD × Int × Unit -> Prop) : Prop := (cnd (!(catR c)) (K ((0, ([], ([], (([] : List (Int × (List Int))), ([] : List (Int × (List Int))))))), (1, ()))) ((ShapeP c) /\ ((ShapeP c) /\ (((withinR (irrR c) ((c.2.1.length : Nat) : Int)) = true) /\ (cnd (!(lpOkR c (irrR c))) (K ((0, ([], ([], (([] : List (Int × (List Int))), ([] : List (Int × (List Int))))))), (4, ()))) (((List.length (irrR c)) <= 1099511627776) /\ (((withinR (irrR c) ((c.2.1.length : Nat) : Int)) = true) /\ (((List.length (irrR c)) <= 1099511627776) /\ (((withinR (irrR c) ((c.2.2.1.length : Nat) : Int)) = true) /\ (loopW (S := ((Unit × (Unit × (Int × Unit))) × ((Int × ((List Int) × ((List Int) × ((List (Int × (List Int))) × (List (Int × (List Int))))))) × ((Int × ((List Int) × ((List Int) × ((List (Int × (List Int))) × (List (Int × (List Int))))))) × Unit)))) (fun s => (fun next => ((inK .i64 s.1.2.2.1) -> ((inK .i64 s.2.1.1) -> ((T.ok (.sl (.int .i64)) s.2.1.2.1) -> ((T.ok (.sl (.int .i64)) s.2.1.2.2.1) -> ((T.ok (.sl PathT) s.2.1.2.2.2.1) -> ((T.ok (.sl PathT) s.2.1.2.2.2.2) -> ((inK .i64 s.2.2.1.1) -> ((T.ok (.sl (.int .i64)) s.2.2.1.2.1) -> ((T.ok (.sl (.int .i64)) s.2.2.1.2.2.1) -> ((T.ok (.sl PathT) s.2.2.1.2.2.2.1) -> ((T.ok (.sl PathT) s.2.2.1.2.2.2.2) -> (cnd (decide (s.1.2.2.1 < ((c.2.1.length : Nat) : Int))) (loopW (S := ((Unit × (Unit × (Int × Unit))) × ((Int × ((List Int) × ((List Int) × ((List (Int × (List Int))) × (List (Int × (List Int))))))) × ((Int × ((List Int) × ((List Int) × ((List (Int × (List Int))) × (List (Int × (List Int))))))) × Unit)))) (fun s1 => (fun next1 => ((inK .i64 s1.1.2.2.1) -> ((inK .i64 s1.2.1.1) -> ((T.ok (.sl (.int .i64)) s1.2.1.2.1) -> ((T.ok (.sl (.int .i64)) s1.2.1.2.2.1) -> ((T.ok (.sl PathT) s1.2.1.2.2.2.1) -> ((T.ok (.sl PathT) s1.2.1.2.2.2.2) -> ((inK .i64 s1.2.2.1.1) -> ((T.ok (.sl (.int .i64)) s1.2.2.1.2.1) -> ((T.ok (.sl (.int .i64)) s1.2.2.1.2.2.1) -> ((T.ok (.sl PathT) s1.2.2.1.2.2.2.1) -> ((T.ok (.sl PathT) s1.2.2.1.2.2.2.2) -> (cnd (decide (s1.1.2.2.1 < (((List.length (irrR c)) : Nat) : Int))) (joinW (S := ((Unit × (Unit × Unit)) × ((Int × ((List Int) × ((List Int) × ((List (Int × (List Int))) × (List (Int × (List Int))))))) × ((Int × ((List Int) × ((List Int) × ((List (Int × (List Int))) × (List (Int × (List Int))))))) × Unit)))) (fun s2 => ((inK .i64 s2.2.1.1) -> ((T.ok (.sl (.int .i64)) s2.2.1.2.1) -> ((T.ok (.sl (.int .i64)) s2.2.1.2.2.1) -> ((T.ok (.sl PathT) s2.2.1.2.2.2.1) -> ((T.ok (.sl PathT) s2.2.1.2.2.2.2) -> ((inK .i64 s2.2.2.1.1) -> ((T.ok (.sl (.int .i64)) s2.2.2.1.2.1) -> ((T.ok (.sl (.int .i64)) s2.2.2.1.2.2.1) -> ((T.ok (.sl PathT) s2.2.2.1.2.2.2.1) -> ((T.ok (.sl PathT) s2.2.2.1.2.2.2.2) -> ((inK .i64 (s1.1.2.2.1 + 1)) /\ (next1 (((), ((), ((s1.1.2.2.1 + 1), ()))), (s2.2.1, (s2.2.2.1, ())))))))))))))))) (fun k => ((0 <= s1.1.2.2.1) /\ ((s1.1.2.2.1 < (((List.length (irrR c)) : Nat) : Int)) /\ ((0 <= s.1.2.2.1) /\ ((s.1.2.2.1 < ((c.2.2.2.2.length : Nat) : Int)) /\ ((0 <= (List.getD (irrR c) s1.1.2.2.1.toNat 0)) /\ (((List.getD (irrR c) s1.1.2.2.1.toNat 0) < (((List.length (List.getD c.2.2.2.2 s.1.2.2.1.toNat [])) : Nat) : Int)) /\ ((((decide ((compR c s.1.2.2.1 (List.getD (irrR c) s1.1.2.2.1.toNat 0)) < 0)) = false) -> ((0 <= s.1.2.2.1) /\ ((s.1.2.2.1 < ((c.2.1.length : Nat) : Int)) /\ (ShapeP c)))) /\ (cnd ((decide ((compR c s.1.2.2.1 (List.getD (irrR c) s1.1.2.2.1.toNat 0)) < 0)) || (idR c s.1.2.2.1)) (k (((), ((), ())), (s1.2.1, (s1.2.2.1, ())))) ((0 <= s.1.2.2.1) /\ ((s.1.2.2.1 < (((List.length (lpPR c (irrR c))) : Nat) : Int)) /\ (((List.length (List.getD (lpPR c (irrR c)) s.1.2.2.1.toNat [])) <= 1099511627776) /\ ((room (List.length (List.getD (lpPR c (irrR c)) s.1.2.2.1.toNat [])) (List.length (s1.1.2.2.1 :: [])) 8) /\ ((0 <= (compR c s.1.2.2.1 (List.getD (irrR c) s1.1.2.2.1.toNat 0))) /\ (((compR c s.1.2.2.1 (List.getD (irrR c) s1.1.2.2.1.toNat 0)) < (((List.length (lpPR c (irrR c))) : Nat) : Int)) /\ (cnd (eqR (.sl (.int .i64)) ((List.getD (lpPR c (irrR c)) s.1.2.2.1.toNat []) ++ (s1.1.2.2.1 :: [])) (List.getD (lpPR c (irrR c)) (Int.toNat (compR c s.1.2.2.1 (List.getD (irrR c) s1.1.2.2.1.toNat 0))) [])) (k (((), ((), ())), (s1.2.1, (s1.2.2.1, ())))) ((0 <= s.1.2.2.1) /\ ((s.1.2.2.1 < ((c.2.1.length : Nat) : Int)) /\ ((room s1.2.2.1.2.2.2.1.length (List.length (((List.getD c.2.1 s.1.2.2.1.toNat 0), ((List.getD (lpPR c (irrR c)) s.1.2.2.1.toNat []) ++ (s1.1.2.2.1 :: []))) :: ([] : List (Int × (List Int))))) 32) /\ ((0 <= s.1.2.2.1) /\ ((s.1.2.2.1 < ((c.2.1.length : Nat) : Int)) /\ ((0 <= (compR c s.1.2.2.1 (List.getD (irrR c) s1.1.2.2.1.toNat 0))) /\ (((compR c s.1.2.2.1 (List.getD (irrR c) s1.1.2.2.1.toNat 0)) < (((List.length (lpPR c (irrR c))) : Nat) : Int)) /\ (((List.length (List.getD (lpPR c (irrR c)) (Int.toNat (compR c s.1.2.2.1 (List.getD (irrR c) s1.1.2.2.1.toNat 0))) [])) <= 1099511627776) /\ ((room s1.2.2.1.2.2.2.2.length (List.length (((List.getD c.2.1 s.1.2.2.1.toNat 0), (List.getD (lpPR c (irrR c)) (Int.toNat (compR c s.1.2.2.1 (List.getD (irrR c) s1.1.2.2.1.toNat 0))) [])) :: ([] : List (Int × (List Int))))) 32) /\ (k (((), ((), ())), (s1.2.1, ((s1.2.2.1.1, (s1.2.2.1.2.1, (s1.2.2.1.2.2.1, ((s1.2.2.1.2.2.2.1 ++ (((List.getD c.2.1 s.1.2.2.1.toNat 0), ((List.getD (lpPR c (irrR c)) s.1.2.2.1.toNat []) ++ (s1.1.2.2.1 :: []))) :: ([] : List (Int × (List Int))))), (s1.2.2.1.2.2.2.2 ++ (((List.getD c.2.1 s.1.2.2.1.toNat 0), (List.getD (lpPR c (irrR c)) (Int.toNat (compR c s.1.2.2.1 (List.getD (irrR c) s1.1.2.2.1.toNat 0))) [])) :: ([] : List (Int × (List Int))))))))), ())))))))))))))))))))))))))))))) ((inK .i64 (s.1.2.2.1 + 1)) /\ (next (((), ((), ((s.1.2.2.1 + 1), ()))), (s1.2.1, (s1.2.2.1, ()))))))))))))))))))) (((), ((), (0, ()))), (s.2.1, (s.2.2.1, ())))) (cnd (!(isSchemaR s.2.2.1)) (K ((0, ([], ([], (([] : List (Int × (List Int))), ([] : List (Int × (List Int))))))), (3, ()))) (K (s.2.2.1, (0, ())))))))))))))))))) (((), ((), (0, ()))), ((0, ([], ([], (([] : List (Int × (List Int))), ([] : List (Int × (List Int))))))), ((c.1, ((thenR (irrR c) c.2.1), ((thenR (irrR c) c.2.2.1), (([] : List (Int × (List Int))), ([] : List (Int × (List Int))))))), ())))))))))))))
theorem w_impl_SchemaOf (x : denL c_impl_SchemaOf.args) (K : SchemaD × Int × Unit -> Prop) : evF tab ph_impl_SchemaOf (cutL [(18, 85009), (19, 85013), (7, 512)]) Try.f23 (bodyOf Try.f23) an_impl_SchemaOf c_impl_SchemaOf x K = W_impl_SchemaOf x.1 K := by kernel_rfl
theorem k_impl_SchemaOf : okC Try.f23.ntmps (cutL [(18, 85009), (19, 85013), (7, 512)]) (bodyOf Try.f23) = true := by kernel_rfl
theorem m_impl_SchemaOf (c : CategoryD) (hok : allP (okL c_impl_SchemaOf.args (c, ()))) (hpre : allP (c_impl_SchemaOf.pre (c, ()))) : W_impl_SchemaOf c (fun r => r = c_impl_SchemaOf.res (c, ())) := by
 simp only [c_impl_SchemaOf, okL, T.oks, T.ok, ap, allP, true_and, and_true, implies_true] at hok hpre
 try dsimp only [T.den] at hok
 try dsimp only [T.den] at hpre
 unfold W_impl_SchemaOf
 refine cnd_of (fun hx => ?_) (fun hx => ?_)
 ·have h : catR c = false := by rw [Bool.not_eq_true'] at hx; exact hx
  simp only [c_impl_SchemaOf, soR]; rw [if_neg (by rw [h]; simp)]; rfl
 have h : catR c = true := by rw [Bool.not_eq_false'] at hx; exact hx
 have S := cat_shp h
 have hw := irr_within (c := c)
 refine ⟨S, S, hw, cnd_of (fun hy => ?_) (fun hy => ?_)⟩
 ·have h2 : lpOkR c (irrR c) = false := by rw [Bool.not_eq_true'] at hy; exact hy
  simp only [c_impl_SchemaOf, soR]; rw [if_pos h, if_neg (by rw [h2]; simp)]; rfl
 have h2 : lpOkR c (irrR c) = true := by rw [Bool.not_eq_false'] at hy; exact hy
 clear hok hpre hx hy
 have hres : soR c = if isSchemaR (soT c (soF c c.2.1.length)) = true then (soT c (soF c c.2.1.length), 0) else (soZ, 3) := by rw [soR, if_pos h, if_pos h2]; rfl
 have hm := S.m
 have hlc := S.lc
 have hlt := S.lt
 have hil := irr_len (c := c)
 have hpl := lp_len S h2
 have hpr : ∀ f : Int, ((lpPR c (irrR c)).getD f.toNat []).length <= c.2.1.length := fun f => lp_row S f
 refine ⟨by omega, hw, by omega, by rw [hlt]; exact hw, ?_⟩
 refine loop_of (fun (s : ((Unit × (Unit × (Int × Unit))) × ((Int × ((List Int) × ((List Int) × ((List (Int × (List Int))) × (List (Int × (List Int))))))) × ((Int × ((List Int) × ((List Int) × ((List (Int × (List Int))) × (List (Int × (List Int))))))) × Unit)))) => 0 <= s.1.2.2.1 /\ s.1.2.2.1 <= c.2.1.length /\ s.2.2.1 = soT c (soF c s.1.2.2.1.toNat)) (fun (s : ((Unit × (Unit × (Int × Unit))) × ((Int × ((List Int) × ((List Int) × ((List (Int × (List Int))) × (List (Int × (List Int))))))) × ((Int × ((List Int) × ((List Int) × ((List (Int × (List Int))) × (List (Int × (List Int))))))) × Unit)))) => (c.2.1.length - s.1.2.2.1).toNat) ?_ ⟨by dsimp only; omega, by dsimp only; omega, rfl⟩
 rintro ⟨⟨_, _, i, _⟩, z, s, _⟩ next ⟨i0, i1, hs⟩ hnx hin _ _ _ _ _ _ _ _ _ _
 try dsimp only at i0 i1 hs hnx hin ⊢
 subst hs
 have hF := soF_len (c := c) i.toNat
 have hF1 : (soF c i.toNat).1.length <= 40 * 40 := Nat.le_trans hF.1 (Nat.mul_le_mul (by omega) (by omega))
 refine cnd_d (fun hi => ?_) (fun hi => ?_)
 ·refine loop_of (fun (s : ((Unit × (Unit × (Int × Unit))) × ((Int × ((List Int) × ((List Int) × ((List (Int × (List Int))) × (List (Int × (List Int))))))) × ((Int × ((List Int) × ((List Int) × ((List (Int × (List Int))) × (List (Int × (List Int))))))) × Unit)))) => 0 <= s.1.2.2.1 /\ s.1.2.2.1 <= (irrR c).length /\ s.2.2.1 = soT c (soE c i (soF c i.toNat) s.1.2.2.1.toNat)) (fun (s : ((Unit × (Unit × (Int × Unit))) × ((Int × ((List Int) × ((List Int) × ((List (Int × (List Int))) × (List (Int × (List Int))))))) × ((Int × ((List Int) × ((List Int) × ((List (Int × (List Int))) × (List (Int × (List Int))))))) × Unit)))) => ((irrR c).length - s.1.2.2.1).toNat) ?_ ⟨by dsimp only; omega, by dsimp only; omega, rfl⟩
  rintro ⟨⟨_, _, e, _⟩, z2, s2, _⟩ next2 ⟨e0, e1, hs⟩ hnx2 hin2 _ _ _ _ _ _ _ _ _ _
  try dsimp only at e0 e1 hs hnx2 hin2 ⊢
  subst hs
  have hE := soE_len (c := c) (f := i) hF.2 e.toNat
  refine cnd_d (fun he => ?_) (fun he => ?_)
  ·have hge := within_iff.1 hw e e0 he
   have hrow := S.row i i0 hi
   have hst := soE_s (c := c) (f := i) (s := soF c i.toNat) e0
   refine join_of (fun (q : ((Unit × (Unit × Unit)) × ((Int × ((List Int) × ((List Int) × ((List (Int × (List Int))) × (List (Int × (List Int))))))) × ((Int × ((List Int) × ((List Int) × ((List (Int × (List Int))) × (List (Int × (List Int))))))) × Unit)))) => q.2.2.1 = soT c (soE c i (soF c i.toNat) (e + 1).toNat)) (fun q hq _ _ _ _ _ _ _ _ _ _ => ⟨by rw [inK64]; (try dsimp only); omega, hnx2 _ ⟨by dsimp only; omega, by dsimp only; omega, hq⟩ (by dsimp only; omega)⟩) (fun k hk => ?_)
   refine ⟨e0, he, i0, by omega, hge.1, by rw [hrow]; exact hge.2, fun _ => ⟨i0, hi, S⟩, cnd_of (fun hc => hk _ ?_) (fun hc => ?_)⟩
   ·have hq : soQ c i e = true := by unfold soQ; rw [hc]; rfl
    rw [hst, if_pos hq]
   ·have hc' := hc
    rw [Bool.or_eq_false_iff, decide_eq_false_iff_not] at hc'
    have hh0 : 0 <= compR c i ((irrR c).getD e.toNat 0) := by omega
    have hh1 := (S.yes i0 hi hge.1 hge.2 ((S.comp i0 hi hge.1 hge.2).1 hh0)).2.1
    have hp1 := hpr i
    have hp2 := hpr (compR c i ((irrR c).getD e.toNat 0))
    refine ⟨i0, by omega, by omega, room_of (by simp only [List.length_cons, List.length_nil]; omega), hh0, by omega, cnd_of (fun hz => hk _ ?_) (fun hz => ?_)⟩
    ·have hq : soQ c i e = true := by unfold soQ lpRow; rw [hc, hz]; rfl
     rw [hst, if_pos hq]
    ·have hq : soQ c i e = false := by unfold soQ lpRow; rw [hc, hz]; rfl
     refine ⟨i0, hi, room_of (by dsimp only [soT]; simp only [List.length_cons, List.length_nil]; omega), i0, hi, hh0, by omega, by omega, room_of (by dsimp only [soT]; simp only [List.length_cons, List.length_nil]; omega), hk _ ?_⟩
     rw [hst, if_neg (by rw [hq]; simp)]
     rfl
  ·have hee : e.toNat = (irrR c).length := by omega
   rw [hee]
   refine ⟨by rw [inK64]; (try dsimp only); omega, hnx _ ⟨by dsimp only; omega, by dsimp only; omega, ?_⟩ (by dsimp only; omega)⟩
   try dsimp only
   rw [soF_s i0]
 ·have hie : i.toNat = c.2.1.length := by omega
  rw [hie]
  refine cnd_of (fun hz => ?_) (fun hz => ?_)
  ·have hz2 : isSchemaR (soT c (soF c c.2.1.length)) = false := by rw [Bool.not_eq_true'] at hz; exact hz
   simp only [c_impl_SchemaOf, hres]; rw [if_neg (by rw [hz2]; simp)]; rfl
  ·have hz2 : isSchemaR (soT c (soF c c.2.1.length)) = true := by rw [Bool.not_eq_false'] at hz; exact hz
   simp only [c_impl_SchemaOf, hres]; rw [if_pos hz2]
theorem ct_impl_SchemaOf : CtOk Try.prog 23 c_impl_SchemaOf :=
 ct_by (Φ := ph_impl_SchemaOf) (good_cons ct_impl_Category_irreducible (good_cons ct_impl_Category_isCategory (good_cons ct_impl_Category_isIdentity (good_cons ct_impl_Category_leastPaths (good_cons ct_impl_Category_then (good_cons ct_impl_Schema_isSchema (good_cons ct_impl_clone (good_cons ct_impl_same (good_cons ct_impl_then good_nil))))))))) tab_ok (by kernel_rfl) (fn := Try.f23) (c := bodyOf Try.f23) (by kernel_rfl) (by kernel_rfl) (by kernel_rfl) c_impl_SchemaOf rfl an_impl_SchemaOf (cutL [(18, 85009), (19, 85013), (7, 512)]) (by kernel_rfl) (by kernel_rfl) k_impl_SchemaOf (by decide) (fun x K => W_impl_SchemaOf x.1 K) w_impl_SchemaOf (fun x h1 h2 => m_impl_SchemaOf x.1 h1 h2)
def c_laws_eqInt64S : Ct := ⟨[(.sl (.int .i64)), (.sl (.int .i64))], [false, false], fun x => [], [(false, (.fz .bool))], fun x => (eqR (.sl (.int .i64)) x.1 x.2.1, ()), false, none⟩
def an_laws_eqInt64S : Ann := (.s .n (.s .n (.s (.s .n (.l [(5, (.d (.int .i64)))] [] [0, 1] .n)) .n)))
def W_laws_eqInt64S (a : List Int) (b : List Int) (K : Bool × Unit -> Prop) : Prop := (cnd (((a.length : Nat) : Int) != ((b.length : Nat) : Int)) (K (false, ())) (loopW (S := ((Int × Unit) × Unit)) (fun s => (fun next => ((inK .i64 s.1.1) -> (cnd (decide (s.1.1 < ((a.length : Nat) : Int))) ((0 <= s.1.1) /\ ((s.1.1 < ((a.length : Nat) : Int)) /\ ((0 <= s.1.1) /\ ((s.1.1 < ((b.length : Nat) : Int)) /\ (cnd ((List.getD a s.1.1.toNat 0) != (List.getD b s.1.1.toNat 0)) (K (false, ())) ((inK .i64 (s.1.1 + 1)) /\ (next (((s.1.1 + 1), ()), ())))))))) (K (true, ())))))) ((0, ()), ())))
theorem w_laws_eqInt64S (x : denL c_laws_eqInt64S.args) (K : Bool × Unit -> Prop) : evF tab (lkp []) (cutL [(6, 9)]) Try.f50 (bodyOf Try.f50) an_laws_eqInt64S c_laws_eqInt64S x K = W_laws_eqInt64S x.1 x.2.1 K := by kernel_rfl
theorem k_laws_eqInt64S : okC Try.f50.ntmps (cutL [(6, 9)]) (bodyOf Try.f50) = true := by kernel_rfl
theorem m_laws_eqInt64S (a : List Int) (b : List Int) (hok : allP (okL c_laws_eqInt64S.args (a, b, ()))) (hpre : allP (c_laws_eqInt64S.pre (a, b, ()))) : W_laws_eqInt64S a b (fun r => r = c_laws_eqInt64S.res (a, b, ())) := by
 simp only [c_laws_eqInt64S, okL, T.oks, T.ok, ap, allP, true_and, and_true, implies_true] at hok hpre
 try dsimp only [T.den] at hok
 try dsimp only [T.den] at hpre
 unfold W_laws_eqInt64S
 refine cnd_of (fun hc => ?_) (fun hc => ?_)
 ·simp only [c_laws_eqInt64S, Prod.mk.injEq, and_true]; rw [eqR_f]; rintro rfl; simp at hc
 have hl : a.length = b.length := by simp at hc; omega
 refine loop_of (fun (s : ((Int × Unit) × Unit)) => 0 <= s.1.1 /\ s.1.1 <= a.length /\ a.take s.1.1.toNat = b.take s.1.1.toNat) (fun (s : ((Int × Unit) × Unit)) => (a.length - s.1.1).toNat) ?_ (by simp)
 rintro ⟨⟨i, _⟩, _⟩ next ⟨h0, h1, h2⟩ hn hin
 simp only at h0 h1 h2 hn ⊢
 refine cnd_d (fun hc => ?_) (fun hc => ?_)
 ·have ha := take_c a (0 : Int) h0 hc
  have hb := take_c b (0 : Int) h0 (by omega)
  refine ⟨by omega, by omega, by omega, by omega, cnd_of (fun hd => ?_) (fun hd => ?_)⟩
  ·simp only [c_laws_eqInt64S, Prod.mk.injEq, and_true]; rw [eqR_f]; rintro rfl; simp at hd
  ·refine ⟨by grind [cnd, nb_eq, inK64], hn _ ⟨(by first | omega | (dsimp only; omega)), (by first | omega | (dsimp only; omega)), ?_⟩ (by first | omega | (dsimp only; omega))⟩
   simp only [Bool.not_eq_false', eqR_iff, bne_eq_false_iff_eq] at hd
   simp only [ha, hb, h2, hd]
 ·rw [take_n a (by omega), take_n b (by omega)] at h2
  simp [h2, c_laws_eqInt64S]
theorem ct_laws_eqInt64S : CtOk Try.prog 50 c_laws_eqInt64S :=
 ct_by (Φ := lkp []) good_nil tab_ok (by kernel_rfl) (fn := Try.f50) (c := bodyOf Try.f50) (by kernel_rfl) (by kernel_rfl) (by kernel_rfl) c_laws_eqInt64S rfl an_laws_eqInt64S (cutL [(6, 9)]) (by kernel_rfl) (by kernel_rfl) k_laws_eqInt64S (by decide) (fun x K => W_laws_eqInt64S x.1 x.2.1 K) w_laws_eqInt64S (fun x h1 h2 => m_laws_eqInt64S x.1 x.2.1 h1 h2)
def c_laws_eqInt64SS : Ct := ⟨[(.sl (.sl (.int .i64))), (.sl (.sl (.int .i64)))], [false, false], fun x => [], [(false, (.fz .bool))], fun x => (eqR (.sl (.sl (.int .i64))) x.1 x.2.1, ()), false, none⟩
def an_laws_eqInt64SS : Ann := (.s .n (.s .n (.s (.s .n (.l [(5, (.d (.int .i64)))] [] [0, 1] .n)) .n)))
def W_laws_eqInt64SS (a : List (List Int)) (b : List (List Int)) (K : Bool × Unit -> Prop) : Prop := (cnd (((a.length : Nat) : Int) != ((b.length : Nat) : Int)) (K (false, ())) (loopW (S := ((Int × Unit) × Unit)) (fun s => (fun next => ((inK .i64 s.1.1) -> (cnd (decide (s.1.1 < ((a.length : Nat) : Int))) ((0 <= s.1.1) /\ ((s.1.1 < ((a.length : Nat) : Int)) /\ ((0 <= s.1.1) /\ ((s.1.1 < ((b.length : Nat) : Int)) /\ (cnd (!(eqR (.sl (.int .i64)) (List.getD a s.1.1.toNat []) (List.getD b s.1.1.toNat []))) (K (false, ())) ((inK .i64 (s.1.1 + 1)) /\ (next (((s.1.1 + 1), ()), ())))))))) (K (true, ())))))) ((0, ()), ())))
theorem w_laws_eqInt64SS (x : denL c_laws_eqInt64SS.args) (K : Bool × Unit -> Prop) : evF tab (lkp [(50, c_laws_eqInt64S)]) (cutL [(6, 10)]) Try.f51 (bodyOf Try.f51) an_laws_eqInt64SS c_laws_eqInt64SS x K = W_laws_eqInt64SS x.1 x.2.1 K := by kernel_rfl
theorem k_laws_eqInt64SS : okC Try.f51.ntmps (cutL [(6, 10)]) (bodyOf Try.f51) = true := by kernel_rfl
theorem m_laws_eqInt64SS (a : List (List Int)) (b : List (List Int)) (hok : allP (okL c_laws_eqInt64SS.args (a, b, ()))) (hpre : allP (c_laws_eqInt64SS.pre (a, b, ()))) : W_laws_eqInt64SS a b (fun r => r = c_laws_eqInt64SS.res (a, b, ())) := by
 simp only [c_laws_eqInt64SS, okL, T.oks, T.ok, ap, allP, true_and, and_true, implies_true] at hok hpre
 try dsimp only [T.den] at hok
 try dsimp only [T.den] at hpre
 unfold W_laws_eqInt64SS
 refine cnd_of (fun hc => ?_) (fun hc => ?_)
 ·simp only [c_laws_eqInt64SS, Prod.mk.injEq, and_true]; rw [eqR_f]; rintro rfl; simp at hc
 have hl : a.length = b.length := by simp at hc; omega
 refine loop_of (fun (s : ((Int × Unit) × Unit)) => 0 <= s.1.1 /\ s.1.1 <= a.length /\ a.take s.1.1.toNat = b.take s.1.1.toNat) (fun (s : ((Int × Unit) × Unit)) => (a.length - s.1.1).toNat) ?_ (by simp)
 rintro ⟨⟨i, _⟩, _⟩ next ⟨h0, h1, h2⟩ hn hin
 simp only at h0 h1 h2 hn ⊢
 refine cnd_d (fun hc => ?_) (fun hc => ?_)
 ·have ha := take_c a ([] : List Int) h0 hc
  have hb := take_c b ([] : List Int) h0 (by omega)
  refine ⟨by omega, by omega, by omega, by omega, cnd_of (fun hd => ?_) (fun hd => ?_)⟩
  ·simp only [c_laws_eqInt64SS, Prod.mk.injEq, and_true]; rw [eqR_f]; rintro rfl; simp at hd
  ·refine ⟨by grind [cnd, nb_eq, inK64], hn _ ⟨(by first | omega | (dsimp only; omega)), (by first | omega | (dsimp only; omega)), ?_⟩ (by first | omega | (dsimp only; omega))⟩
   simp only [Bool.not_eq_false', eqR_iff, bne_eq_false_iff_eq] at hd
   simp only [ha, hb, h2, hd]
 ·rw [take_n a (by omega), take_n b (by omega)] at h2
  simp [h2, c_laws_eqInt64SS]
theorem ct_laws_eqInt64SS : CtOk Try.prog 51 c_laws_eqInt64SS :=
 ct_by (Φ := lkp [(50, c_laws_eqInt64S)]) (good_cons ct_laws_eqInt64S good_nil) tab_ok (by kernel_rfl) (fn := Try.f51) (c := bodyOf Try.f51) (by kernel_rfl) (by kernel_rfl) (by kernel_rfl) c_laws_eqInt64SS rfl an_laws_eqInt64SS (cutL [(6, 10)]) (by kernel_rfl) (by kernel_rfl) k_laws_eqInt64SS (by decide) (fun x K => W_laws_eqInt64SS x.1 x.2.1 K) w_laws_eqInt64SS (fun x h1 h2 => m_laws_eqInt64SS x.1 x.2.1 h1 h2)
def c_laws_eqCategory : Ct := ⟨[CategoryT, CategoryT], [true, true], fun x => [], [(false, (.fz .bool))], fun x => (eqR CategoryT x.1 x.2.1, ()), false, none⟩
def ph_laws_eqCategory : FuncId -> Option Ct := lkp [(50, c_laws_eqInt64S), (51, c_laws_eqInt64SS)]
def W_laws_eqCategory (a : CategoryD) (b : CategoryD) (K : Bool × Unit -> Prop) : Prop := (cnd (a.1 != b.1) (K (false, ())) (cnd (!(eqR (.sl (.int .i64)) a.2.1 b.2.1)) (K (false, ())) (cnd (!(eqR (.sl (.int .i64)) a.2.2.1 b.2.2.1)) (K (false, ())) (cnd (!(eqR (.sl (.int .i64)) a.2.2.2.1 b.2.2.2.1)) (K (false, ())) (cnd (!(eqR (.sl (.sl (.int .i64))) a.2.2.2.2 b.2.2.2.2)) (K (false, ())) (K (true, ())))))))
theorem w_laws_eqCategory (x : denL c_laws_eqCategory.args) (K : Bool × Unit -> Prop) : evF tab ph_laws_eqCategory (cutL []) Try.f19 (bodyOf Try.f19) .n c_laws_eqCategory x K = W_laws_eqCategory x.1 x.2.1 K := by kernel_rfl
theorem k_laws_eqCategory : okC Try.f19.ntmps (cutL []) (bodyOf Try.f19) = true := by kernel_rfl
theorem m_laws_eqCategory (a : CategoryD) (b : CategoryD) (hok : allP (okL c_laws_eqCategory.args (a, b, ()))) (hpre : allP (c_laws_eqCategory.pre (a, b, ()))) : W_laws_eqCategory a b (fun r => r = c_laws_eqCategory.res (a, b, ())) := by
 simp only [c_laws_eqCategory, okL, T.oks, T.ok, ap, allP, true_and, and_true, implies_true] at hok hpre
 try dsimp only [T.den] at hok
 try dsimp only [T.den] at hpre
 unfold W_laws_eqCategory
 simp only [c_laws_eqCategory, eqR_p, eqR_int, eqR_bool]
 grind [cnd, nb_eq, inK64]
theorem ct_laws_eqCategory : CtOk Try.prog 19 c_laws_eqCategory :=
 ct_by (Φ := ph_laws_eqCategory) (good_cons ct_laws_eqInt64S (good_cons ct_laws_eqInt64SS good_nil)) tab_ok (by kernel_rfl) (fn := Try.f19) (c := bodyOf Try.f19) (by kernel_rfl) (by kernel_rfl) (by kernel_rfl) c_laws_eqCategory rfl .n (cutL []) (by kernel_rfl) (by kernel_rfl) k_laws_eqCategory (by decide) (fun x K => W_laws_eqCategory x.1 x.2.1 K) w_laws_eqCategory (fun x h1 h2 => m_laws_eqCategory x.1 x.2.1 h1 h2)
def c_laws_eqPath : Ct := ⟨[PathT, PathT], [true, true], fun x => [], [(false, (.fz .bool))], fun x => (eqR PathT x.1 x.2.1, ()), false, none⟩
def W_laws_eqPath (a : PathD) (b : PathD) (K : Bool × Unit -> Prop) : Prop := (cnd (a.1 != b.1) (K (false, ())) (cnd (!(eqR (.sl (.int .i64)) a.2 b.2)) (K (false, ())) (K (true, ()))))
theorem w_laws_eqPath (x : denL c_laws_eqPath.args) (K : Bool × Unit -> Prop) : evF tab (lkp [(50, c_laws_eqInt64S)]) (cutL []) Try.f121 (bodyOf Try.f121) .n c_laws_eqPath x K = W_laws_eqPath x.1 x.2.1 K := by kernel_rfl
theorem k_laws_eqPath : okC Try.f121.ntmps (cutL []) (bodyOf Try.f121) = true := by kernel_rfl
theorem m_laws_eqPath (a : PathD) (b : PathD) (hok : allP (okL c_laws_eqPath.args (a, b, ()))) (hpre : allP (c_laws_eqPath.pre (a, b, ()))) : W_laws_eqPath a b (fun r => r = c_laws_eqPath.res (a, b, ())) := by
 simp only [c_laws_eqPath, okL, T.oks, T.ok, ap, allP, true_and, and_true, implies_true] at hok hpre
 try dsimp only [T.den] at hok
 try dsimp only [T.den] at hpre
 unfold W_laws_eqPath
 simp only [c_laws_eqPath, eqR_p, eqR_int, eqR_bool]
 grind [cnd, nb_eq, inK64]
theorem ct_laws_eqPath : CtOk Try.prog 121 c_laws_eqPath :=
 ct_by (Φ := lkp [(50, c_laws_eqInt64S)]) (good_cons ct_laws_eqInt64S good_nil) tab_ok (by kernel_rfl) (fn := Try.f121) (c := bodyOf Try.f121) (by kernel_rfl) (by kernel_rfl) (by kernel_rfl) c_laws_eqPath rfl .n (cutL []) (by kernel_rfl) (by kernel_rfl) k_laws_eqPath (by decide) (fun x K => W_laws_eqPath x.1 x.2.1 K) w_laws_eqPath (fun x h1 h2 => m_laws_eqPath x.1 x.2.1 h1 h2)
def c_laws_eqPathS : Ct := ⟨[(.sl PathT), (.sl PathT)], [false, false], fun x => [], [(false, (.fz .bool))], fun x => (eqR (.sl PathT) x.1 x.2.1, ()), false, none⟩
def an_laws_eqPathS : Ann := (.s .n (.s .n (.s (.s .n (.l [(5, (.d (.int .i64)))] [] [0, 1] .n)) .n)))
def W_laws_eqPathS (a : List PathD) (b : List PathD) (K : Bool × Unit -> Prop) : Prop := (cnd (((a.length : Nat) : Int) != ((b.length : Nat) : Int)) (K (false, ())) (loopW (S := ((Int × Unit) × Unit)) (fun s => (fun next => ((inK .i64 s.1.1) -> (cnd (decide (s.1.1 < ((a.length : Nat) : Int))) ((0 <= s.1.1) /\ ((s.1.1 < ((a.length : Nat) : Int)) /\ ((0 <= s.1.1) /\ ((s.1.1 < ((b.length : Nat) : Int)) /\ (cnd (!(eqR PathT (List.getD a s.1.1.toNat (0, [])) (List.getD b s.1.1.toNat (0, [])))) (K (false, ())) ((inK .i64 (s.1.1 + 1)) /\ (next (((s.1.1 + 1), ()), ())))))))) (K (true, ())))))) ((0, ()), ())))
theorem w_laws_eqPathS (x : denL c_laws_eqPathS.args) (K : Bool × Unit -> Prop) : evF tab (lkp [(121, c_laws_eqPath)]) (cutL [(6, 10)]) Try.f72 (bodyOf Try.f72) an_laws_eqPathS c_laws_eqPathS x K = W_laws_eqPathS x.1 x.2.1 K := by kernel_rfl
theorem k_laws_eqPathS : okC Try.f72.ntmps (cutL [(6, 10)]) (bodyOf Try.f72) = true := by kernel_rfl
theorem m_laws_eqPathS (a : List PathD) (b : List PathD) (hok : allP (okL c_laws_eqPathS.args (a, b, ()))) (hpre : allP (c_laws_eqPathS.pre (a, b, ()))) : W_laws_eqPathS a b (fun r => r = c_laws_eqPathS.res (a, b, ())) := by
 simp only [c_laws_eqPathS, okL, T.oks, T.ok, ap, allP, true_and, and_true, implies_true] at hok hpre
 try dsimp only [T.den] at hok
 try dsimp only [T.den] at hpre
 unfold W_laws_eqPathS
 refine cnd_of (fun hc => ?_) (fun hc => ?_)
 ·simp only [c_laws_eqPathS, Prod.mk.injEq, and_true]; rw [eqR_f]; rintro rfl; simp at hc
 have hl : a.length = b.length := by simp at hc; omega
 refine loop_of (fun (s : ((Int × Unit) × Unit)) => 0 <= s.1.1 /\ s.1.1 <= a.length /\ a.take s.1.1.toNat = b.take s.1.1.toNat) (fun (s : ((Int × Unit) × Unit)) => (a.length - s.1.1).toNat) ?_ (by simp)
 rintro ⟨⟨i, _⟩, _⟩ next ⟨h0, h1, h2⟩ hn hin
 simp only at h0 h1 h2 hn ⊢
 refine cnd_d (fun hc => ?_) (fun hc => ?_)
 ·have ha := take_c a ((0 : Int), ([] : List Int)) h0 hc
  have hb := take_c b ((0 : Int), ([] : List Int)) h0 (by omega)
  refine ⟨by omega, by omega, by omega, by omega, cnd_of (fun hd => ?_) (fun hd => ?_)⟩
  ·simp only [c_laws_eqPathS, Prod.mk.injEq, and_true]; rw [eqR_f]; rintro rfl; simp at hd
  ·refine ⟨by grind [cnd, nb_eq, inK64], hn _ ⟨(by first | omega | (dsimp only; omega)), (by first | omega | (dsimp only; omega)), ?_⟩ (by first | omega | (dsimp only; omega))⟩
   simp only [Bool.not_eq_false', eqR_iff, bne_eq_false_iff_eq] at hd
   simp only [ha, hb, h2, hd]
 ·rw [take_n a (by omega), take_n b (by omega)] at h2
  simp [h2, c_laws_eqPathS]
theorem ct_laws_eqPathS : CtOk Try.prog 72 c_laws_eqPathS :=
 ct_by (Φ := lkp [(121, c_laws_eqPath)]) (good_cons ct_laws_eqPath good_nil) tab_ok (by kernel_rfl) (fn := Try.f72) (c := bodyOf Try.f72) (by kernel_rfl) (by kernel_rfl) (by kernel_rfl) c_laws_eqPathS rfl an_laws_eqPathS (cutL [(6, 10)]) (by kernel_rfl) (by kernel_rfl) k_laws_eqPathS (by decide) (fun x K => W_laws_eqPathS x.1 x.2.1 K) w_laws_eqPathS (fun x h1 h2 => m_laws_eqPathS x.1 x.2.1 h1 h2)
def c_laws_eqSchema : Ct := ⟨[SchemaT, SchemaT], [true, true], fun x => [], [(false, (.fz .bool))], fun x => (eqR SchemaT x.1 x.2.1, ()), false, none⟩
def ph_laws_eqSchema : FuncId -> Option Ct := lkp [(50, c_laws_eqInt64S), (72, c_laws_eqPathS)]
def W_laws_eqSchema (a : SchemaD) (b : SchemaD) (K : Bool × Unit -> Prop) : Prop := (cnd (a.1 != b.1) (K (false, ())) (cnd (!(eqR (.sl (.int .i64)) a.2.1 b.2.1)) (K (false, ())) (cnd (!(eqR (.sl (.int .i64)) a.2.2.1 b.2.2.1)) (K (false, ())) (cnd (!(eqR (.sl PathT) a.2.2.2.1 b.2.2.2.1)) (K (false, ())) (cnd (!(eqR (.sl PathT) a.2.2.2.2 b.2.2.2.2)) (K (false, ())) (K (true, ())))))))
theorem w_laws_eqSchema (x : denL c_laws_eqSchema.args) (K : Bool × Unit -> Prop) : evF tab ph_laws_eqSchema (cutL []) Try.f24 (bodyOf Try.f24) .n c_laws_eqSchema x K = W_laws_eqSchema x.1 x.2.1 K := by kernel_rfl
theorem k_laws_eqSchema : okC Try.f24.ntmps (cutL []) (bodyOf Try.f24) = true := by kernel_rfl
theorem m_laws_eqSchema (a : SchemaD) (b : SchemaD) (hok : allP (okL c_laws_eqSchema.args (a, b, ()))) (hpre : allP (c_laws_eqSchema.pre (a, b, ()))) : W_laws_eqSchema a b (fun r => r = c_laws_eqSchema.res (a, b, ())) := by
 simp only [c_laws_eqSchema, okL, T.oks, T.ok, ap, allP, true_and, and_true, implies_true] at hok hpre
 try dsimp only [T.den] at hok
 try dsimp only [T.den] at hpre
 unfold W_laws_eqSchema
 simp only [c_laws_eqSchema, eqR_p, eqR_int, eqR_bool]
 grind [cnd, nb_eq, inK64]
theorem ct_laws_eqSchema : CtOk Try.prog 24 c_laws_eqSchema :=
 ct_by (Φ := ph_laws_eqSchema) (good_cons ct_laws_eqInt64S (good_cons ct_laws_eqPathS good_nil)) tab_ok (by kernel_rfl) (fn := Try.f24) (c := bodyOf Try.f24) (by kernel_rfl) (by kernel_rfl) (by kernel_rfl) c_laws_eqSchema rfl .n (cutL []) (by kernel_rfl) (by kernel_rfl) k_laws_eqSchema (by decide) (fun x K => W_laws_eqSchema x.1 x.2.1 K) w_laws_eqSchema (fun x h1 h2 => m_laws_eqSchema x.1 x.2.1 h1 h2)
def c_laws_heldInt64S : Ct := ⟨[(.sl (.int .i64)), (.int .i64)], [false, false], fun x => [0 <= x.2.1, x.2.1 + ckR (.sl (.int .i64)) x.1 <= 4611686018427387904], [(false, (.fz (.int .i64)))], fun x => (hdR (.sl (.int .i64)) x.1 x.2.1, ()), false, none⟩
def an_laws_heldInt64S : Ann := (.s .n (.s (.s .n (.l [(1, (.d (.int .i64))), (5, (.d (.int .i64)))] [] [0] .n)) .n))
def W_laws_heldInt64S (a : List Int) (k : Int) (K : Int × Unit -> Prop) : Prop := (loopW (S := ((Int × (Int × Unit)) × Unit)) (fun s => (fun next => ((inK .i64 s.1.1) -> ((inK .i64 s.1.2.1) -> (cnd (decide (s.1.2.1 < ((a.length : Nat) : Int))) ((0 <= s.1.2.1) /\ ((s.1.2.1 < ((a.length : Nat) : Int)) /\ (cnd ((List.getD a s.1.2.1.toNat 0) != s.1.1) (K ((-1), ())) ((inK .i64 (s.1.1 + 1)) /\ ((inK .i64 (s.1.2.1 + 1)) /\ (next (((s.1.1 + 1), ((s.1.2.1 + 1), ())), ()))))))) (K (s.1.1, ()))))))) ((k, (0, ())), ()))
theorem w_laws_heldInt64S (x : denL c_laws_heldInt64S.args) (K : Int × Unit -> Prop) : evF tab (lkp []) (cutL []) Try.f54 (bodyOf Try.f54) an_laws_heldInt64S c_laws_heldInt64S x K = W_laws_heldInt64S x.1 x.2.1 K := by kernel_rfl
theorem k_laws_heldInt64S : okC Try.f54.ntmps (cutL []) (bodyOf Try.f54) = true := by kernel_rfl
theorem m_laws_heldInt64S (a : List Int) (k : Int) (hok : allP (okL c_laws_heldInt64S.args (a, k, ()))) (hpre : allP (c_laws_heldInt64S.pre (a, k, ()))) : W_laws_heldInt64S a k (fun r => r = c_laws_heldInt64S.res (a, k, ())) := by
 simp only [c_laws_heldInt64S, okL, T.oks, T.ok, ap, allP, true_and, and_true, implies_true] at hok hpre
 try dsimp only [T.den] at hok
 try dsimp only [T.den] at hpre
 unfold W_laws_heldInt64S
 obtain ⟨h0, hb⟩ := hpre
 have hll : a.length <= 140737488355328 := by simp only [nb_eq] at hok; omega
 refine held_loop (e := .int .i64) (0 : Int) a k h0 hb (fun k i next i0 i1 k0 kb hbad hn h1 h2 => ?_) (fun i next hi h1 h2 => ?_)
 ·try dsimp only
  simp only [ckR] at kb
  simp only [hd_int] at hbad hn
  refine cnd_d (fun _ => ⟨i0, i1, cnd_of (fun hx => ?_) (fun hx => ⟨by rw [inK64]; (try dsimp only); omega, by rw [inK64]; (try dsimp only); omega, ?_⟩)⟩) (fun h => absurd i1 h)
  ·rw [bne_iff_ne] at hx
   rw [if_neg hx] at hbad
   simp only [c_laws_heldInt64S]; rw [hbad (by omega)]
  ·rw [bne_eq_false_iff_eq] at hx
   rw [if_pos hx] at hn
   exact hn (by omega)
 ·exact cnd_d (fun h => absurd h (by dsimp only; omega)) (fun _ => rfl)
theorem ct_laws_heldInt64S : CtOk Try.prog 54 c_laws_heldInt64S :=
 ct_by (Φ := lkp []) good_nil tab_ok (by kernel_rfl) (fn := Try.f54) (c := bodyOf Try.f54) (by kernel_rfl) (by kernel_rfl) (by kernel_rfl) c_laws_heldInt64S rfl an_laws_heldInt64S (cutL []) (by kernel_rfl) (by kernel_rfl) k_laws_heldInt64S (by decide) (fun x K => W_laws_heldInt64S x.1 x.2.1 K) w_laws_heldInt64S (fun x h1 h2 => m_laws_heldInt64S x.1 x.2.1 h1 h2)
def c_laws_heldPathS : Ct := ⟨[(.sl PathT), (.int .i64)], [false, false], fun x => [0 <= x.2.1, x.2.1 + ckR (.sl PathT) x.1 <= 4611686018427387904], [(false, (.fz (.int .i64)))], fun x => (hdR (.sl PathT) x.1 x.2.1, ()), false, none⟩
def an_laws_heldPathS : Ann := (.s .n (.s (.s .n (.l [(1, (.d (.int .i64))), (5, (.d (.int .i64)))] [] [0] .n)) .n))
def W_laws_heldPathS (a : List PathD) (k : Int) (K : Int × Unit -> Prop) : Prop := (loopW (S := ((Int × (Int × Unit)) × Unit)) (fun s => (fun next => ((inK .i64 s.1.1) -> ((inK .i64 s.1.2.1) -> (cnd (decide (s.1.2.1 < ((a.length : Nat) : Int))) ((0 <= s.1.2.1) /\ ((s.1.2.1 < ((a.length : Nat) : Int)) /\ (cnd ((List.getD a s.1.2.1.toNat (0, [])).1 != s.1.1) (K ((-1), ())) ((inK .i64 (s.1.1 + 1)) /\ ((0 <= s.1.2.1) /\ ((s.1.2.1 < ((a.length : Nat) : Int)) /\ ((0 <= (s.1.1 + 1)) /\ ((((s.1.1 + 1) + (((ckR (.sl (.int .i64)) (List.getD a s.1.2.1.toNat (0, [])).2) : Nat) : Int)) <= 4611686018427387904) /\ (cnd (decide ((hdR (.sl (.int .i64)) (List.getD a s.1.2.1.toNat (0, [])).2 (s.1.1 + 1)) < 0)) (K ((-1), ())) ((inK .i64 (s.1.2.1 + 1)) /\ (next (((hdR (.sl (.int .i64)) (List.getD a s.1.2.1.toNat (0, [])).2 (s.1.1 + 1)), ((s.1.2.1 + 1), ())), ())))))))))))) (K (s.1.1, ()))))))) ((k, (0, ())), ()))
theorem w_laws_heldPathS (x : denL c_laws_heldPathS.args) (K : Int × Unit -> Prop) : evF tab (lkp [(54, c_laws_heldInt64S)]) (cutL []) Try.f74 (bodyOf Try.f74) an_laws_heldPathS c_laws_heldPathS x K = W_laws_heldPathS x.1 x.2.1 K := by kernel_rfl
theorem k_laws_heldPathS : okC Try.f74.ntmps (cutL []) (bodyOf Try.f74) = true := by kernel_rfl
theorem m_laws_heldPathS (a : List PathD) (k : Int) (hok : allP (okL c_laws_heldPathS.args (a, k, ()))) (hpre : allP (c_laws_heldPathS.pre (a, k, ()))) : W_laws_heldPathS a k (fun r => r = c_laws_heldPathS.res (a, k, ())) := by
 simp only [c_laws_heldPathS, okL, T.oks, T.ok, ap, allP, true_and, and_true, implies_true] at hok hpre
 try dsimp only [T.den] at hok
 try dsimp only [T.den] at hpre
 unfold W_laws_heldPathS
 obtain ⟨h0, hb⟩ := hpre
 have hll : a.length <= 140737488355328 := by simp only [nb_eq] at hok; omega
 refine held_loop (e := PathT) ((0, []) : Int × List Int) a k h0 hb (fun k i next i0 i1 k0 kb hbad hn h1 h2 => ?_) (fun i next hi h1 h2 => ?_)
 ·try dsimp only
  have e1 : ∀ x : PathD, hdR PathT x k = if hdR (.int .i64) x.1 k < 0 then -1 else hdR (.sl (.int .i64)) x.2 (hdR (.int .i64) x.1 k) := fun _ => rfl
  have e2 : ∀ x : PathD, ckR PathT x = 1 + ckR (.sl (.int .i64)) x.2 := fun _ => rfl
  rw [e2] at kb
  rw [e1, hd_int] at hbad hn
  refine cnd_d (fun _ => ⟨i0, i1, cnd_of (fun hx => ?_) (fun hx => ?_)⟩) (fun h => absurd i1 h)
  ·rw [bne_iff_ne] at hx
   rw [if_neg hx, if_pos (by omega)] at hbad
   simp only [c_laws_heldPathS]; rw [hbad (by omega)]
  ·rw [bne_eq_false_iff_eq] at hx
   rw [if_pos hx, if_neg (by omega)] at hbad hn
   refine ⟨by rw [inK64]; (try dsimp only); omega, i0, i1, by omega, by omega, cnd_d (fun hy => ?_) (fun hy => ⟨by rw [inK64]; (try dsimp only); omega, hn hy⟩)⟩
   simp only [c_laws_heldPathS]; rw [hbad hy]
 ·exact cnd_d (fun h => absurd h (by dsimp only; omega)) (fun _ => rfl)
theorem ct_laws_heldPathS : CtOk Try.prog 74 c_laws_heldPathS :=
 ct_by (Φ := lkp [(54, c_laws_heldInt64S)]) (good_cons ct_laws_heldInt64S good_nil) tab_ok (by kernel_rfl) (fn := Try.f74) (c := bodyOf Try.f74) (by kernel_rfl) (by kernel_rfl) (by kernel_rfl) c_laws_heldPathS rfl an_laws_heldPathS (cutL []) (by kernel_rfl) (by kernel_rfl) k_laws_heldPathS (by decide) (fun x K => W_laws_heldPathS x.1 x.2.1 K) w_laws_heldPathS (fun x h1 h2 => m_laws_heldPathS x.1 x.2.1 h1 h2)
def c_laws_heldSchema : Ct := ⟨[SchemaT, (.int .i64)], [true, false], fun x => [0 <= x.2.1, x.2.1 + ctR SchemaT x.1 <= 4611686018427387904], [(false, (.fz (.int .i64)))], fun x => (htR SchemaT x.1 x.2.1, ()), false, none⟩
def ph_laws_heldSchema : FuncId -> Option Ct := lkp [(54, c_laws_heldInt64S), (74, c_laws_heldPathS)]
def W_laws_heldSchema (a : SchemaD) (k : Int) (K : Int × Unit -> Prop) : Prop := ((0 <= k) /\ (((k + (((ckR (.sl (.int .i64)) a.2.1) : Nat) : Int)) <= 4611686018427387904) /\ (cnd (decide ((hdR (.sl (.int .i64)) a.2.1 k) < 0)) (K ((-1), ())) ((0 <= (hdR (.sl (.int .i64)) a.2.1 k)) /\ ((((hdR (.sl (.int .i64)) a.2.1 k) + (((ckR (.sl (.int .i64)) a.2.2.1) : Nat) : Int)) <= 4611686018427387904) /\ (cnd (decide ((hdR (.sl (.int .i64)) a.2.2.1 (hdR (.sl (.int .i64)) a.2.1 k)) < 0)) (K ((-1), ())) ((0 <= (hdR (.sl (.int .i64)) a.2.2.1 (hdR (.sl (.int .i64)) a.2.1 k))) /\ ((((hdR (.sl (.int .i64)) a.2.2.1 (hdR (.sl (.int .i64)) a.2.1 k)) + (((ckR (.sl PathT) a.2.2.2.1) : Nat) : Int)) <= 4611686018427387904) /\ (cnd (decide ((hdR (.sl PathT) a.2.2.2.1 (hdR (.sl (.int .i64)) a.2.2.1 (hdR (.sl (.int .i64)) a.2.1 k))) < 0)) (K ((-1), ())) ((0 <= (hdR (.sl PathT) a.2.2.2.1 (hdR (.sl (.int .i64)) a.2.2.1 (hdR (.sl (.int .i64)) a.2.1 k)))) /\ ((((hdR (.sl PathT) a.2.2.2.1 (hdR (.sl (.int .i64)) a.2.2.1 (hdR (.sl (.int .i64)) a.2.1 k))) + (((ckR (.sl PathT) a.2.2.2.2) : Nat) : Int)) <= 4611686018427387904) /\ (cnd (decide ((hdR (.sl PathT) a.2.2.2.2 (hdR (.sl PathT) a.2.2.2.1 (hdR (.sl (.int .i64)) a.2.2.1 (hdR (.sl (.int .i64)) a.2.1 k)))) < 0)) (K ((-1), ())) (K ((hdR (.sl PathT) a.2.2.2.2 (hdR (.sl PathT) a.2.2.2.1 (hdR (.sl (.int .i64)) a.2.2.1 (hdR (.sl (.int .i64)) a.2.1 k)))), ()))))))))))))))
theorem w_laws_heldSchema (x : denL c_laws_heldSchema.args) (K : Int × Unit -> Prop) : evF tab ph_laws_heldSchema (cutL []) Try.f26 (bodyOf Try.f26) .n c_laws_heldSchema x K = W_laws_heldSchema x.1 x.2.1 K := by kernel_rfl
theorem k_laws_heldSchema : okC Try.f26.ntmps (cutL []) (bodyOf Try.f26) = true := by kernel_rfl
theorem m_laws_heldSchema (a : SchemaD) (k : Int) (hok : allP (okL c_laws_heldSchema.args (a, k, ()))) (hpre : allP (c_laws_heldSchema.pre (a, k, ()))) : W_laws_heldSchema a k (fun r => r = c_laws_heldSchema.res (a, k, ())) := by
 simp only [c_laws_heldSchema, okL, T.oks, T.ok, ap, allP, true_and, and_true, implies_true] at hok hpre
 try dsimp only [T.den] at hok
 try dsimp only [T.den] at hpre
 unfold W_laws_heldSchema
 obtain ⟨h0, hb⟩ := hpre
 simp only [ctR] at hb
 simp only [c_laws_heldSchema, htR]
 grind [cnd, hd_val, ht_val, ctR]
theorem ct_laws_heldSchema : CtOk Try.prog 26 c_laws_heldSchema :=
 ct_by (Φ := ph_laws_heldSchema) (good_cons ct_laws_heldInt64S (good_cons ct_laws_heldPathS good_nil)) tab_ok (by kernel_rfl) (fn := Try.f26) (c := bodyOf Try.f26) (by kernel_rfl) (by kernel_rfl) (by kernel_rfl) c_laws_heldSchema rfl .n (cutL []) (by kernel_rfl) (by kernel_rfl) k_laws_heldSchema (by decide) (fun x K => W_laws_heldSchema x.1 x.2.1 K) w_laws_heldSchema (fun x h1 h2 => m_laws_heldSchema x.1 x.2.1 h1 h2)
def m0_laws_markInt64S : Mt := ⟨(.sl (.fz (.int .i64))), false, fun x k => [0 <= k, k + ckR (.sl (.int .i64)) x <= 4611686018427387904], fun x k => mkR (.sl (.int .i64)) x k⟩
def c_laws_markInt64S : Ct := mtCt m0_laws_markInt64S
def an_laws_markInt64S : Ann := (.s .n (.s (.s .n (.l [(0, (.ref 1000000 [])), (1, (.d (.int .i64))), (5, (.d (.int .i64)))] [(1000000, (.sl (.fz (.int .i64))))] [] .n)) .n))
def W_laws_markInt64S (a : List Int) (k : Int) (K : (List Int) -> Int -> Prop) : Prop := (loopW (S := ((Unit × (Int × (Int × Unit))) × ((List Int) × Unit))) (fun s => (fun next => ((inK .i64 s.1.2.1) -> ((inK .i64 s.1.2.2.1) -> ((T.ok (.sl (.int .i64)) s.2.1) -> (cnd (decide (s.1.2.2.1 < ((s.2.1.length : Nat) : Int))) ((0 <= s.1.2.2.1) /\ ((s.1.2.2.1 < ((s.2.1.length : Nat) : Int)) /\ ((inK .i64 (s.1.2.1 + 1)) /\ ((inK .i64 (s.1.2.2.1 + 1)) /\ (next (((), ((s.1.2.1 + 1), ((s.1.2.2.1 + 1), ()))), ((List.set s.2.1 s.1.2.2.1.toNat s.1.2.1), ()))))))) (K s.2.1 s.1.2.1))))))) (((), (k, (0, ()))), (a, ())))
theorem w_laws_markInt64S (a : List Int) (k : Int) (K : (List Int) -> Int -> Prop) : evFm tab (lkp []) (cutL []) Try.f52 (bodyOf Try.f52) an_laws_markInt64S m0_laws_markInt64S a k K = W_laws_markInt64S a k K := by kernel_rfl
theorem k_laws_markInt64S : okC Try.f52.ntmps (cutL []) (bodyOf Try.f52) = true := by kernel_rfl
theorem m_laws_markInt64S (a : List Int) (k : Int) (hok : allP (T.oks (.sl (.int .i64)) a)) (h0 : 0 <= k) (hpre : k + ckR (.sl (.int .i64)) a <= 4611686018427387904) : W_laws_markInt64S a k (fun y n => y = (mkR (.sl (.int .i64)) a k).1 /\ n = (mkR (.sl (.int .i64)) a k).2) := by
 simp only [T.oks, T.ok, ap, allP, true_and, and_true, implies_true] at hok
 try dsimp only [T.den] at hok
 unfold W_laws_markInt64S
 refine mark_loop (e := .int .i64) (0 : Int) a k h0 hpre (fun k i l next i0 i1 hl hg k0 kb hn h1 h2 h3 => ?_) (fun i l next hi hl h1 h2 h3 => ?_)
 ·try dsimp only
  simp only [ckR] at kb
  have hll := h3.1
  simp only [nb_eq] at hll
  exact cnd_d (fun _ => ⟨i0, i1, by rw [inK64]; (try dsimp only); omega, by rw [inK64]; (try dsimp only); omega, hn⟩) (fun h => absurd i1 h)
 ·exact cnd_d (fun h => absurd h (by dsimp only; omega)) (fun _ => ⟨hl, rfl⟩)
theorem ct_laws_markInt64S : CtOk Try.prog 52 c_laws_markInt64S :=
 mt_of (Φ := lkp []) good_nil tab_ok (by kernel_rfl) (fn := Try.f52) (c := bodyOf Try.f52) (by kernel_rfl) (by kernel_rfl) (by kernel_rfl) m0_laws_markInt64S an_laws_markInt64S (cutL []) (by kernel_rfl) (by kernel_rfl) k_laws_markInt64S (by decide) (by kernel_rfl) (fun x k hk hok hp => (w_laws_markInt64S x k _).mpr (m_laws_markInt64S x k hok hp.1 hp.2.1))
def m0_laws_markInt64SS : Mt := ⟨(.sl (.sl (.fz (.int .i64)))), false, fun x k => [0 <= k, k + ckR (.sl (.sl (.int .i64))) x <= 4611686018427387904], fun x k => mkR (.sl (.sl (.int .i64))) x k⟩
def c_laws_markInt64SS : Ct := mtCt m0_laws_markInt64SS
def an_laws_markInt64SS : Ann := (.s .n (.s (.s .n (.l [(0, (.ref 1000000 [])), (1, (.d (.int .i64))), (5, (.d (.int .i64)))] [(1000000, (.sl (.sl (.fz (.int .i64)))))] [] .n)) .n))
def W_laws_markInt64SS (a : List (List Int)) (k : Int) (K : (List (List Int)) -> Int -> Prop) : Prop := (loopW (S := ((Unit × (Int × (Int × Unit))) × ((List (List Int)) × Unit))) (fun s => (fun next => ((inK .i64 s.1.2.1) -> ((inK .i64 s.1.2.2.1) -> ((T.ok (.sl (.sl (.int .i64))) s.2.1) -> (cnd (decide (s.1.2.2.1 < ((s.2.1.length : Nat) : Int))) ((0 <= s.1.2.2.1) /\ ((s.1.2.2.1 < ((s.2.1.length : Nat) : Int)) /\ ((0 <= s.1.2.1) /\ (((s.1.2.1 + (((ckR (.sl (.int .i64)) (List.getD s.2.1 s.1.2.2.1.toNat [])) : Nat) : Int)) <= 4611686018427387904) /\ ((inK .i64 (s.1.2.2.1 + 1)) /\ (next (((), ((mkR (.sl (.int .i64)) (List.getD s.2.1 s.1.2.2.1.toNat []) s.1.2.1).2, ((s.1.2.2.1 + 1), ()))), ((List.set s.2.1 s.1.2.2.1.toNat (mkR (.sl (.int .i64)) (List.getD s.2.1 s.1.2.2.1.toNat []) s.1.2.1).1), ())))))))) (K s.2.1 s.1.2.1))))))) (((), (k, (0, ()))), (a, ())))
theorem w_laws_markInt64SS (a : List (List Int)) (k : Int) (K : (List (List Int)) -> Int -> Prop) : evFm tab (lkp [(52, c_laws_markInt64S)]) (cutL []) Try.f53 (bodyOf Try.f53) an_laws_markInt64SS m0_laws_markInt64SS a k K = W_laws_markInt64SS a k K := by kernel_rfl
theorem k_laws_markInt64SS : okC Try.f53.ntmps (cutL []) (bodyOf Try.f53) = true := by kernel_rfl
theorem m_laws_markInt64SS (a : List (List Int)) (k : Int) (hok : allP (T.oks (.sl (.sl (.int .i64))) a)) (h0 : 0 <= k) (hpre : k + ckR (.sl (.sl (.int .i64))) a <= 4611686018427387904) : W_laws_markInt64SS a k (fun y n => y = (mkR (.sl (.sl (.int .i64))) a k).1 /\ n = (mkR (.sl (.sl (.int .i64))) a k).2) := by
 simp only [T.oks, T.ok, ap, allP, true_and, and_true, implies_true] at hok
 try dsimp only [T.den] at hok
 unfold W_laws_markInt64SS
 refine mark_loop (e := (.sl (.int .i64))) ([] : List Int) a k h0 hpre (fun k i l next i0 i1 hl hg k0 kb hn h1 h2 h3 => ?_) (fun i l next hi hl h1 h2 h3 => ?_)
 ·try dsimp only
  have hll := h3.1
  simp only [nb_eq] at hll
  rw [hg]
  exact cnd_d (fun _ => ⟨i0, i1, k0, kb, by rw [inK64]; (try dsimp only); omega, hn⟩) (fun h => absurd i1 h)
 ·exact cnd_d (fun h => absurd h (by dsimp only; omega)) (fun _ => ⟨hl, rfl⟩)
theorem ct_laws_markInt64SS : CtOk Try.prog 53 c_laws_markInt64SS :=
 mt_of (Φ := lkp [(52, c_laws_markInt64S)]) (good_cons ct_laws_markInt64S good_nil) tab_ok (by kernel_rfl) (fn := Try.f53) (c := bodyOf Try.f53) (by kernel_rfl) (by kernel_rfl) (by kernel_rfl) m0_laws_markInt64SS an_laws_markInt64SS (cutL []) (by kernel_rfl) (by kernel_rfl) k_laws_markInt64SS (by decide) (by kernel_rfl) (fun x k hk hok hp => (w_laws_markInt64SS x k _).mpr (m_laws_markInt64SS x k hok hp.1 hp.2.1))
def m0_laws_markCategory : Mt := ⟨CategoryO, true, fun x k => [0 <= k, k + ctR CategoryT x <= 4611686018427387904], fun x k => mtR CategoryT x k⟩
def c_laws_markCategory : Ct := mtCt m0_laws_markCategory
def ph_laws_markCategory : FuncId -> Option Ct := lkp [(52, c_laws_markInt64S), (53, c_laws_markInt64SS)]
def W_laws_markCategory (a : CategoryD) (k : Int) (K : CategoryD -> Int -> Prop) : Prop := ((0 <= k) /\ (((k + (((ckR (.sl (.int .i64)) a.2.1) : Nat) : Int)) <= 4611686018427387904) /\ ((0 <= (mkR (.sl (.int .i64)) a.2.1 k).2) /\ ((((mkR (.sl (.int .i64)) a.2.1 k).2 + (((ckR (.sl (.int .i64)) a.2.2.1) : Nat) : Int)) <= 4611686018427387904) /\ ((0 <= (mkR (.sl (.int .i64)) a.2.2.1 (mkR (.sl (.int .i64)) a.2.1 k).2).2) /\ ((((mkR (.sl (.int .i64)) a.2.2.1 (mkR (.sl (.int .i64)) a.2.1 k).2).2 + (((ckR (.sl (.int .i64)) a.2.2.2.1) : Nat) : Int)) <= 4611686018427387904) /\ ((0 <= (mkR (.sl (.int .i64)) a.2.2.2.1 (mkR (.sl (.int .i64)) a.2.2.1 (mkR (.sl (.int .i64)) a.2.1 k).2).2).2) /\ ((((mkR (.sl (.int .i64)) a.2.2.2.1 (mkR (.sl (.int .i64)) a.2.2.1 (mkR (.sl (.int .i64)) a.2.1 k).2).2).2 + (((ckR (.sl (.sl (.int .i64))) a.2.2.2.2) : Nat) : Int)) <= 4611686018427387904) /\ (K (a.1, ((mkR (.sl (.int .i64)) a.2.1 k).1, ((mkR (.sl (.int .i64)) a.2.2.1 (mkR (.sl (.int .i64)) a.2.1 k).2).1, ((mkR (.sl (.int .i64)) a.2.2.2.1 (mkR (.sl (.int .i64)) a.2.2.1 (mkR (.sl (.int .i64)) a.2.1 k).2).2).1, (mkR (.sl (.sl (.int .i64))) a.2.2.2.2 (mkR (.sl (.int .i64)) a.2.2.2.1 (mkR (.sl (.int .i64)) a.2.2.1 (mkR (.sl (.int .i64)) a.2.1 k).2).2).2).1)))) (mkR (.sl (.sl (.int .i64))) a.2.2.2.2 (mkR (.sl (.int .i64)) a.2.2.2.1 (mkR (.sl (.int .i64)) a.2.2.1 (mkR (.sl (.int .i64)) a.2.1 k).2).2).2).2)))))))))
theorem w_laws_markCategory (a : CategoryD) (k : Int) (K : CategoryD -> Int -> Prop) : evFm tab ph_laws_markCategory (cutL []) Try.f20 (bodyOf Try.f20) .n m0_laws_markCategory a k K = W_laws_markCategory a k K := by kernel_rfl
theorem k_laws_markCategory : okC Try.f20.ntmps (cutL []) (bodyOf Try.f20) = true := by kernel_rfl
theorem m_laws_markCategory (a : CategoryD) (k : Int) (hok : allP (T.oks CategoryT a)) (h0 : 0 <= k) (hpre : k + ctR CategoryT a <= 4611686018427387904) : W_laws_markCategory a k (fun y n => y = (mtR CategoryT a k).1 /\ n = (mtR CategoryT a k).2) := by
 simp only [T.oks, T.ok, ap, allP, true_and, and_true, implies_true] at hok
 try dsimp only [T.den] at hok
 unfold W_laws_markCategory
 simp only [ctR] at hpre
 repeat' apply And.intro
 all_goals first | rfl | ((try simp only [mk_num, mt_num, ctR]); omega)
theorem ct_laws_markCategory : CtOk Try.prog 20 c_laws_markCategory :=
 mt_of (Φ := ph_laws_markCategory) (good_cons ct_laws_markInt64S (good_cons ct_laws_markInt64SS good_nil)) tab_ok (by kernel_rfl) (fn := Try.f20) (c := bodyOf Try.f20) (by kernel_rfl) (by kernel_rfl) (by kernel_rfl) m0_laws_markCategory .n (cutL []) (by kernel_rfl) (by kernel_rfl) k_laws_markCategory (by decide) (by kernel_rfl) (fun x k hk hok hp => (w_laws_markCategory x k _).mpr (m_laws_markCategory x k hok hp.1 hp.2.1))
def m0_laws_markPathS : Mt := ⟨(.sl PathO), false, fun x k => [0 <= k, k + ckR (.sl PathT) x <= 4611686018427387904], fun x k => mkR (.sl PathT) x k⟩
def c_laws_markPathS : Ct := mtCt m0_laws_markPathS
def an_laws_markPathS : Ann := (.s .n (.s (.s .n (.l [(0, (.ref 1000000 [])), (1, (.d (.int .i64))), (5, (.d (.int .i64)))] [(1000000, (.sl (.p (.fz (.int .i64)) (.sl (.fz (.int .i64))))))] [] .n)) .n))
def W_laws_markPathS (a : List PathD) (k : Int) (K : (List PathD) -> Int -> Prop) : Prop := (loopW (S := ((Unit × (Int × (Int × Unit))) × ((List (Int × (List Int))) × Unit))) (fun s => (fun next => ((inK .i64 s.1.2.1) -> ((inK .i64 s.1.2.2.1) -> ((T.ok (.sl PathT) s.2.1) -> (cnd (decide (s.1.2.2.1 < ((s.2.1.length : Nat) : Int))) ((0 <= s.1.2.2.1) /\ ((s.1.2.2.1 < ((s.2.1.length : Nat) : Int)) /\ ((inK .i64 (s.1.2.1 + 1)) /\ ((0 <= s.1.2.2.1) /\ ((s.1.2.2.1 < (((List.length (List.set s.2.1 s.1.2.2.1.toNat (s.1.2.1, (List.getD s.2.1 s.1.2.2.1.toNat (0, [])).2))) : Nat) : Int)) /\ ((0 <= (s.1.2.1 + 1)) /\ ((((s.1.2.1 + 1) + (((ckR (.sl (.int .i64)) (List.getD (List.set s.2.1 s.1.2.2.1.toNat (s.1.2.1, (List.getD s.2.1 s.1.2.2.1.toNat (0, [])).2)) s.1.2.2.1.toNat (0, [])).2) : Nat) : Int)) <= 4611686018427387904) /\ ((inK .i64 (s.1.2.2.1 + 1)) /\ (next (((), ((mkR (.sl (.int .i64)) (List.getD (List.set s.2.1 s.1.2.2.1.toNat (s.1.2.1, (List.getD s.2.1 s.1.2.2.1.toNat (0, [])).2)) s.1.2.2.1.toNat (0, [])).2 (s.1.2.1 + 1)).2, ((s.1.2.2.1 + 1), ()))), ((List.set (List.set s.2.1 s.1.2.2.1.toNat (s.1.2.1, (List.getD s.2.1 s.1.2.2.1.toNat (0, [])).2)) s.1.2.2.1.toNat ((List.getD (List.set s.2.1 s.1.2.2.1.toNat (s.1.2.1, (List.getD s.2.1 s.1.2.2.1.toNat (0, [])).2)) s.1.2.2.1.toNat (0, [])).1, (mkR (.sl (.int .i64)) (List.getD (List.set s.2.1 s.1.2.2.1.toNat (s.1.2.1, (List.getD s.2.1 s.1.2.2.1.toNat (0, [])).2)) s.1.2.2.1.toNat (0, [])).2 (s.1.2.1 + 1)).1)), ()))))))))))) (K s.2.1 s.1.2.1))))))) (((), (k, (0, ()))), (a, ())))
theorem w_laws_markPathS (a : List PathD) (k : Int) (K : (List PathD) -> Int -> Prop) : evFm tab (lkp [(52, c_laws_markInt64S)]) (cutL []) Try.f73 (bodyOf Try.f73) an_laws_markPathS m0_laws_markPathS a k K = W_laws_markPathS a k K := by kernel_rfl
theorem k_laws_markPathS : okC Try.f73.ntmps (cutL []) (bodyOf Try.f73) = true := by kernel_rfl
theorem m_laws_markPathS (a : List PathD) (k : Int) (hok : allP (T.oks (.sl PathT) a)) (h0 : 0 <= k) (hpre : k + ckR (.sl PathT) a <= 4611686018427387904) : W_laws_markPathS a k (fun y n => y = (mkR (.sl PathT) a k).1 /\ n = (mkR (.sl PathT) a k).2) := by
 simp only [T.oks, T.ok, ap, allP, true_and, and_true, implies_true] at hok
 try dsimp only [T.den] at hok
 unfold W_laws_markPathS
 refine mark_loop (e := PathT) ((0, []) : Int × List Int) a k h0 hpre (fun k i l next i0 i1 hl hg k0 kb hn h1 h2 h3 => ?_) (fun i l next hi hl h1 h2 h3 => ?_)
 ·try dsimp only
  have hll := h3.1
  simp only [nb_eq] at hll
  have e1 : ∀ x : PathD, mkR PathT x k = ((k, (mkR (.sl (.int .i64)) x.2 (k + 1)).1), (mkR (.sl (.int .i64)) x.2 (k + 1)).2) := fun _ => rfl
  have e2 : ∀ x : PathD, ckR PathT x = 1 + ckR (.sl (.int .i64)) x.2 := fun _ => rfl
  rw [e1] at hn
  rw [e2] at kb
  have hs : (l.set i.toNat (k, (l.getD i.toNat (0, [])).2)).getD i.toNat (0, []) = (k, (a.getD i.toNat (0, [])).2) := by rw [set_getD _ _ _ _ _ (by omega), if_pos rfl, hg]
  simp only [hs, List.set_set, List.length_set]
  exact cnd_d (fun _ => ⟨i0, i1, by rw [inK64]; (try dsimp only); omega, i0, i1, by omega, by omega, by rw [inK64]; (try dsimp only); omega, hn⟩) (fun h => absurd i1 h)
 ·exact cnd_d (fun h => absurd h (by dsimp only; omega)) (fun _ => ⟨hl, rfl⟩)
theorem ct_laws_markPathS : CtOk Try.prog 73 c_laws_markPathS :=
 mt_of (Φ := lkp [(52, c_laws_markInt64S)]) (good_cons ct_laws_markInt64S good_nil) tab_ok (by kernel_rfl) (fn := Try.f73) (c := bodyOf Try.f73) (by kernel_rfl) (by kernel_rfl) (by kernel_rfl) m0_laws_markPathS an_laws_markPathS (cutL []) (by kernel_rfl) (by kernel_rfl) k_laws_markPathS (by decide) (by kernel_rfl) (fun x k hk hok hp => (w_laws_markPathS x k _).mpr (m_laws_markPathS x k hok hp.1 hp.2.1))
def m0_laws_markSchema : Mt := ⟨SchemaO, true, fun x k => [0 <= k, k + ctR SchemaT x <= 4611686018427387904], fun x k => mtR SchemaT x k⟩
def c_laws_markSchema : Ct := mtCt m0_laws_markSchema
def ph_laws_markSchema : FuncId -> Option Ct := lkp [(52, c_laws_markInt64S), (73, c_laws_markPathS)]
def W_laws_markSchema (a : SchemaD) (k : Int) (K : SchemaD -> Int -> Prop) : Prop := ((0 <= k) /\ (((k + (((ckR (.sl (.int .i64)) a.2.1) : Nat) : Int)) <= 4611686018427387904) /\ ((0 <= (mkR (.sl (.int .i64)) a.2.1 k).2) /\ ((((mkR (.sl (.int .i64)) a.2.1 k).2 + (((ckR (.sl (.int .i64)) a.2.2.1) : Nat) : Int)) <= 4611686018427387904) /\ ((0 <= (mkR (.sl (.int .i64)) a.2.2.1 (mkR (.sl (.int .i64)) a.2.1 k).2).2) /\ ((((mkR (.sl (.int .i64)) a.2.2.1 (mkR (.sl (.int .i64)) a.2.1 k).2).2 + (((ckR (.sl PathT) a.2.2.2.1) : Nat) : Int)) <= 4611686018427387904) /\ ((0 <= (mkR (.sl PathT) a.2.2.2.1 (mkR (.sl (.int .i64)) a.2.2.1 (mkR (.sl (.int .i64)) a.2.1 k).2).2).2) /\ ((((mkR (.sl PathT) a.2.2.2.1 (mkR (.sl (.int .i64)) a.2.2.1 (mkR (.sl (.int .i64)) a.2.1 k).2).2).2 + (((ckR (.sl PathT) a.2.2.2.2) : Nat) : Int)) <= 4611686018427387904) /\ (K (a.1, ((mkR (.sl (.int .i64)) a.2.1 k).1, ((mkR (.sl (.int .i64)) a.2.2.1 (mkR (.sl (.int .i64)) a.2.1 k).2).1, ((mkR (.sl PathT) a.2.2.2.1 (mkR (.sl (.int .i64)) a.2.2.1 (mkR (.sl (.int .i64)) a.2.1 k).2).2).1, (mkR (.sl PathT) a.2.2.2.2 (mkR (.sl PathT) a.2.2.2.1 (mkR (.sl (.int .i64)) a.2.2.1 (mkR (.sl (.int .i64)) a.2.1 k).2).2).2).1)))) (mkR (.sl PathT) a.2.2.2.2 (mkR (.sl PathT) a.2.2.2.1 (mkR (.sl (.int .i64)) a.2.2.1 (mkR (.sl (.int .i64)) a.2.1 k).2).2).2).2)))))))))
theorem w_laws_markSchema (a : SchemaD) (k : Int) (K : SchemaD -> Int -> Prop) : evFm tab ph_laws_markSchema (cutL []) Try.f25 (bodyOf Try.f25) .n m0_laws_markSchema a k K = W_laws_markSchema a k K := by kernel_rfl
theorem k_laws_markSchema : okC Try.f25.ntmps (cutL []) (bodyOf Try.f25) = true := by kernel_rfl
theorem m_laws_markSchema (a : SchemaD) (k : Int) (hok : allP (T.oks SchemaT a)) (h0 : 0 <= k) (hpre : k + ctR SchemaT a <= 4611686018427387904) : W_laws_markSchema a k (fun y n => y = (mtR SchemaT a k).1 /\ n = (mtR SchemaT a k).2) := by
 simp only [T.oks, T.ok, ap, allP, true_and, and_true, implies_true] at hok
 try dsimp only [T.den] at hok
 unfold W_laws_markSchema
 simp only [ctR] at hpre
 repeat' apply And.intro
 all_goals first | rfl | ((try simp only [mk_num, mt_num, ctR]); omega)
theorem ct_laws_markSchema : CtOk Try.prog 25 c_laws_markSchema :=
 mt_of (Φ := ph_laws_markSchema) (good_cons ct_laws_markInt64S (good_cons ct_laws_markPathS good_nil)) tab_ok (by kernel_rfl) (fn := Try.f25) (c := bodyOf Try.f25) (by kernel_rfl) (by kernel_rfl) (by kernel_rfl) m0_laws_markSchema .n (cutL []) (by kernel_rfl) (by kernel_rfl) k_laws_markSchema (by decide) (by kernel_rfl) (fun x k hk hok hp => (w_laws_markSchema x k _).mpr (m_laws_markSchema x k hok hp.1 hp.2.1))
def c_laws_szInt64S : Ct := ⟨[(.sl (.int .i64)), (.int .i64)], [false, false], fun x => [-4611545280939032576 <= x.2.1], [(false, (.fz (.int .i64)))], fun x => (szR (wR (.sl (.int .i64)) x.1) x.2.1, ()), false, none⟩
def W_laws_szInt64S (a : List Int) (left : Int) (K : Int × Unit -> Prop) : Prop := ((inK .i64 (left - ((a.length : Nat) : Int))) /\ (cnd (decide ((left - ((a.length : Nat) : Int)) < 0)) (K ((-1), ())) (K ((left - ((a.length : Nat) : Int)), ()))))
theorem w_laws_szInt64S (x : denL c_laws_szInt64S.args) (K : Int × Unit -> Prop) : evF tab (lkp []) (cutL []) Try.f43 (bodyOf Try.f43) .n c_laws_szInt64S x K = W_laws_szInt64S x.1 x.2.1 K := by kernel_rfl
theorem k_laws_szInt64S : okC Try.f43.ntmps (cutL []) (bodyOf Try.f43) = true := by kernel_rfl
theorem m_laws_szInt64S (a : List Int) (left : Int) (hok : allP (okL c_laws_szInt64S.args (a, left, ()))) (hpre : allP (c_laws_szInt64S.pre (a, left, ()))) : W_laws_szInt64S a left (fun r => r = c_laws_szInt64S.res (a, left, ())) := by
 simp only [c_laws_szInt64S, okL, T.oks, T.ok, ap, allP, true_and, and_true, implies_true] at hok hpre
 try dsimp only [T.den] at hok
 try dsimp only [T.den] at hpre
 unfold W_laws_szInt64S
 simp only [c_laws_szInt64S, wR_ints]
 grind [cnd, nb_eq, inK64, szR]
theorem ct_laws_szInt64S : CtOk Try.prog 43 c_laws_szInt64S :=
 ct_by (Φ := lkp []) good_nil tab_ok (by kernel_rfl) (fn := Try.f43) (c := bodyOf Try.f43) (by kernel_rfl) (by kernel_rfl) (by kernel_rfl) c_laws_szInt64S rfl .n (cutL []) (by kernel_rfl) (by kernel_rfl) k_laws_szInt64S (by decide) (fun x K => W_laws_szInt64S x.1 x.2.1 K) w_laws_szInt64S (fun x h1 h2 => m_laws_szInt64S x.1 x.2.1 h1 h2)
def c_laws_szInt64SS : Ct := ⟨[(.sl (.sl (.int .i64))), (.int .i64)], [false, false], fun x => [-4611404543450677248 <= x.2.1], [(false, (.fz (.int .i64)))], fun x => (szR (wR (.sl (.sl (.int .i64))) x.1) x.2.1, ()), false, none⟩
def an_laws_szInt64SS : Ann := (.s .n (.s .n (.s .n (.s (.s .n (.l [(1, (.d (.int .i64))), (5, (.d (.int .i64)))] [] [0] .n)) .n))))
def W_laws_szInt64SS (a : List (List Int)) (left : Int) (K : Int × Unit -> Prop) : Prop := ((inK .i64 (left - ((a.length : Nat) : Int))) /\ (cnd (decide ((left - ((a.length : Nat) : Int)) < 0)) (K ((-1), ())) (loopW (S := ((Int × (Int × Unit)) × Unit)) (fun s => (fun next => ((inK .i64 s.1.1) -> ((inK .i64 s.1.2.1) -> (cnd (decide (s.1.2.1 < ((a.length : Nat) : Int))) ((0 <= s.1.2.1) /\ ((s.1.2.1 < ((a.length : Nat) : Int)) /\ (((-4611545280939032576) <= s.1.1) /\ (cnd (decide ((szR (wR (.sl (.int .i64)) (List.getD a s.1.2.1.toNat [])) s.1.1) < 0)) (K ((-1), ())) ((inK .i64 (s.1.2.1 + 1)) /\ (next (((szR (wR (.sl (.int .i64)) (List.getD a s.1.2.1.toNat [])) s.1.1), ((s.1.2.1 + 1), ())), ()))))))) (K (s.1.1, ()))))))) (((left - ((a.length : Nat) : Int)), (0, ())), ()))))
theorem w_laws_szInt64SS (x : denL c_laws_szInt64SS.args) (K : Int × Unit -> Prop) : evF tab (lkp [(43, c_laws_szInt64S)]) (cutL []) Try.f44 (bodyOf Try.f44) an_laws_szInt64SS c_laws_szInt64SS x K = W_laws_szInt64SS x.1 x.2.1 K := by kernel_rfl
theorem k_laws_szInt64SS : okC Try.f44.ntmps (cutL []) (bodyOf Try.f44) = true := by kernel_rfl
theorem m_laws_szInt64SS (a : List (List Int)) (left : Int) (hok : allP (okL c_laws_szInt64SS.args (a, left, ()))) (hpre : allP (c_laws_szInt64SS.pre (a, left, ()))) : W_laws_szInt64SS a left (fun r => r = c_laws_szInt64SS.res (a, left, ())) := by
 simp only [c_laws_szInt64SS, okL, T.oks, T.ok, ap, allP, true_and, and_true, implies_true] at hok hpre
 try dsimp only [T.den] at hok
 try dsimp only [T.den] at hpre
 unfold W_laws_szInt64SS
 have hr := szR_ge (x := a.length) (r := (a.map (wR (.sl (.int .i64)))).sum) (l := left)
 refine ⟨by grind [cnd, nb_eq, inK64], cnd_d (fun hc => ?_) (fun hc => ?_)⟩
 ·simp only [c_laws_szInt64SS]; rw [wR_sl, szR_lt (x := a.length) (by omega)]
 replace hr := hr (by omega)
 rw [szR_val (x := a.length) (by omega)] at hr
 refine loop_of (fun (s : ((Int × (Int × Unit)) × Unit)) => 0 <= s.1.1 /\ 0 <= s.1.2.1 /\ s.1.2.1 <= a.length /\ szR (wR (.sl (.sl (.int .i64))) a) left = szR ((a.drop s.1.2.1.toNat).map (wR (.sl (.int .i64)))).sum s.1.1) (fun (s : ((Int × (Int × Unit)) × Unit)) => (a.length - s.1.2.1).toNat) ?_ ⟨(by first | omega | (dsimp only; omega)), by simp, by simp, by rw [wR_sl]; simpa using hr⟩
 rintro ⟨⟨l, i, _⟩, _⟩ next ⟨h0, h1, h2, h3⟩ hn hin hl
 simp only at h0 h1 h2 h3 hn ⊢
 refine cnd_d (fun hc => ?_) (fun hc => ?_)
 ·rw [drop_c a ([] : List Int) h1 hc, List.map_cons, List.sum_cons] at h3
  refine ⟨by omega, by omega, by omega, cnd_d (fun hd => ?_) (fun hd => ?_)⟩
  ·rw [szR_neg] at hd
   rw [szR_lt hd] at h3
   simp only [c_laws_szInt64SS]; rw [h3]
  ·rw [szR_neg] at hd
   rw [szR_ge hd] at h3
   exact ⟨by grind [cnd, nb_eq, inK64], hn _ ⟨by simp only; rw [szR_val hd]; omega, (by first | omega | (dsimp only; omega)), (by first | omega | (dsimp only; omega)), h3⟩ (by first | omega | (dsimp only; omega))⟩
 ·rw [drop_n a (by omega)] at h3
  simp only [List.map_nil, List.sum_nil] at h3
  rw [szR_zero h0] at h3
  simp only [c_laws_szInt64SS]; rw [h3]
theorem ct_laws_szInt64SS : CtOk Try.prog 44 c_laws_szInt64SS :=
 ct_by (Φ := lkp [(43, c_laws_szInt64S)]) (good_cons ct_laws_szInt64S good_nil) tab_ok (by kernel_rfl) (fn := Try.f44) (c := bodyOf Try.f44) (by kernel_rfl) (by kernel_rfl) (by kernel_rfl) c_laws_szInt64SS rfl an_laws_szInt64SS (cutL []) (by kernel_rfl) (by kernel_rfl) k_laws_szInt64SS (by decide) (fun x K => W_laws_szInt64SS x.1 x.2.1 K) w_laws_szInt64SS (fun x h1 h2 => m_laws_szInt64SS x.1 x.2.1 h1 h2)
def c_laws_szCategory : Ct := ⟨[CategoryT, (.int .i64)], [true, false], fun x => [-4611404543450677248 <= x.2.1], [(false, (.fz (.int .i64)))], fun x => (szR (wR CategoryT x.1) x.2.1, ()), false, none⟩
def ph_laws_szCategory : FuncId -> Option Ct := lkp [(43, c_laws_szInt64S), (44, c_laws_szInt64SS)]
def W_laws_szCategory (a : CategoryD) (left : Int) (K : Int × Unit -> Prop) : Prop := (((-4611545280939032576) <= left) /\ (cnd (decide ((szR (wR (.sl (.int .i64)) a.2.1) left) < 0)) (K ((-1), ())) (((-4611545280939032576) <= (szR (wR (.sl (.int .i64)) a.2.1) left)) /\ (cnd (decide ((szR (wR (.sl (.int .i64)) a.2.2.1) (szR (wR (.sl (.int .i64)) a.2.1) left)) < 0)) (K ((-1), ())) (((-4611545280939032576) <= (szR (wR (.sl (.int .i64)) a.2.2.1) (szR (wR (.sl (.int .i64)) a.2.1) left))) /\ (cnd (decide ((szR (wR (.sl (.int .i64)) a.2.2.2.1) (szR (wR (.sl (.int .i64)) a.2.2.1) (szR (wR (.sl (.int .i64)) a.2.1) left))) < 0)) (K ((-1), ())) (((-4611404543450677248) <= (szR (wR (.sl (.int .i64)) a.2.2.2.1) (szR (wR (.sl (.int .i64)) a.2.2.1) (szR (wR (.sl (.int .i64)) a.2.1) left)))) /\ (cnd (decide ((szR (wR (.sl (.sl (.int .i64))) a.2.2.2.2) (szR (wR (.sl (.int .i64)) a.2.2.2.1) (szR (wR (.sl (.int .i64)) a.2.2.1) (szR (wR (.sl (.int .i64)) a.2.1) left)))) < 0)) (K ((-1), ())) (K ((szR (wR (.sl (.sl (.int .i64))) a.2.2.2.2) (szR (wR (.sl (.int .i64)) a.2.2.2.1) (szR (wR (.sl (.int .i64)) a.2.2.1) (szR (wR (.sl (.int .i64)) a.2.1) left)))), ()))))))))))
theorem w_laws_szCategory (x : denL c_laws_szCategory.args) (K : Int × Unit -> Prop) : evF tab ph_laws_szCategory (cutL []) Try.f15 (bodyOf Try.f15) .n c_laws_szCategory x K = W_laws_szCategory x.1 x.2.1 K := by kernel_rfl
theorem k_laws_szCategory : okC Try.f15.ntmps (cutL []) (bodyOf Try.f15) = true := by kernel_rfl
theorem m_laws_szCategory (a : CategoryD) (left : Int) (hok : allP (okL c_laws_szCategory.args (a, left, ()))) (hpre : allP (c_laws_szCategory.pre (a, left, ()))) : W_laws_szCategory a left (fun r => r = c_laws_szCategory.res (a, left, ())) := by
 simp only [c_laws_szCategory, okL, T.oks, T.ok, ap, allP, true_and, and_true, implies_true] at hok hpre
 try dsimp only [T.den] at hok
 try dsimp only [T.den] at hpre
 unfold W_laws_szCategory
 simp only [c_laws_szCategory, wR_p, wR_int, wR_bool, Nat.zero_add, Nat.add_zero]
 grind [cnd, nb_eq, inK64, szR]
theorem ct_laws_szCategory : CtOk Try.prog 15 c_laws_szCategory :=
 ct_by (Φ := ph_laws_szCategory) (good_cons ct_laws_szInt64S (good_cons ct_laws_szInt64SS good_nil)) tab_ok (by kernel_rfl) (fn := Try.f15) (c := bodyOf Try.f15) (by kernel_rfl) (by kernel_rfl) (by kernel_rfl) c_laws_szCategory rfl .n (cutL []) (by kernel_rfl) (by kernel_rfl) k_laws_szCategory (by decide) (fun x K => W_laws_szCategory x.1 x.2.1 K) w_laws_szCategory (fun x h1 h2 => m_laws_szCategory x.1 x.2.1 h1 h2)
def c_laws_toInt64S : Ct := ⟨[(.sl (.int .i64))], [false], fun x => [wR (.sl (.int .i64)) x.1 <= 1099511627776], [(false, (.sl (.fz (.int .i64))))], fun x => (x.1, ()), false, none⟩
def an_laws_toInt64S : Ann := (.s .n (.s .n (.s (.s .n (.l [(3, (.ref 7 [])), (4, (.d (.int .i64)))] [(7, (.sl (.fz (.int .i64))))] [0] .n)) .n)))
def W_laws_toInt64S (a : List Int) (K : (List Int) × Unit -> Prop) : Prop := ((0 <= ((a.length : Nat) : Int)) /\ ((((a.length : Nat) : Int) <= ((a.length : Nat) : Int)) /\ ((((a.length : Nat) : Int) <= ((140737488355328 : Nat) : Int)) /\ (((((a.length : Nat) : Int) * ((8 : Nat) : Int)) <= ((140737488355328 : Nat) : Int)) /\ (loopW (S := ((Unit × (Int × Unit)) × ((List Int) × Unit))) (fun s => (fun next => ((inK .i64 s.1.2.1) -> ((T.ok (.sl (.int .i64)) s.2.1) -> (cnd (decide (s.1.2.1 < ((a.length : Nat) : Int))) ((0 <= s.1.2.1) /\ ((s.1.2.1 < ((a.length : Nat) : Int)) /\ ((0 <= s.1.2.1) /\ ((s.1.2.1 < ((s.2.1.length : Nat) : Int)) /\ ((inK .i64 (s.1.2.1 + 1)) /\ (next (((), ((s.1.2.1 + 1), ())), ((List.set s.2.1 s.1.2.1.toNat (List.getD a s.1.2.1.toNat 0)), ())))))))) (K (s.2.1, ()))))))) (((), (0, ())), ((List.replicate (Int.toNat ((a.length : Nat) : Int)) (0 :Int)), ())))))))
theorem w_laws_toInt64S (x : denL c_laws_toInt64S.args) (K : (List Int) × Unit -> Prop) : evF tab (lkp []) (cutL []) Try.f46 (bodyOf Try.f46) an_laws_toInt64S c_laws_toInt64S x K = W_laws_toInt64S x.1 K := by kernel_rfl
theorem k_laws_toInt64S : okC Try.f46.ntmps (cutL []) (bodyOf Try.f46) = true := by kernel_rfl
theorem m_laws_toInt64S (a : List Int) (hok : allP (okL c_laws_toInt64S.args (a, ()))) (hpre : allP (c_laws_toInt64S.pre (a, ()))) : W_laws_toInt64S a (fun r => r = c_laws_toInt64S.res (a, ())) := by
 simp only [c_laws_toInt64S, okL, T.oks, T.ok, ap, allP, true_and, and_true, implies_true] at hok hpre
 try dsimp only [T.den] at hok
 try dsimp only [T.den] at hpre
 unfold W_laws_toInt64S
 rw [wR_sl] at hpre
 refine ⟨by omega, by omega, by first | omega | (rw [nb_eq]; omega), by first | omega | (rw [nb_eq]; omega), ?_⟩
 refine loop_of (fun (s : ((Unit × (Int × Unit)) × ((List Int) × Unit))) => 0 <= s.1.2.1 /\ s.1.2.1 <= a.length /\ s.2.1.length = a.length /\ s.2.1.take s.1.2.1.toNat = a.take s.1.2.1.toNat) (fun (s : ((Unit × (Int × Unit)) × ((List Int) × Unit))) => (a.length - s.1.2.1).toNat) ?_ (by simp)
 rintro ⟨⟨_, i, _⟩, l, _⟩ next ⟨h0, h1, h2, h3⟩ hn hin hl
 simp only at h0 h1 h2 h3 hn ⊢
 refine cnd_d (fun hc => ?_) (fun hc => ?_)
 ·refine ⟨by omega, by omega, by omega, by omega, by grind [cnd, nb_eq, inK64], hn _ ⟨(by first | omega | (dsimp only; omega)), (by first | omega | (dsimp only; omega)), by simp [h2], ?_⟩ (by first | omega | (dsimp only; omega))⟩
  simp only
  rw [take_c a (0 : Int) h0 hc, ← h3]
  exact take_set l h0 (by omega) _
 ·rw [take_n a (by omega), take_n l (by omega)] at h3
  simp [h3, c_laws_toInt64S]
theorem ct_laws_toInt64S : CtOk Try.prog 46 c_laws_toInt64S :=
 ct_by (Φ := lkp []) good_nil tab_ok (by kernel_rfl) (fn := Try.f46) (c := bodyOf Try.f46) (by kernel_rfl) (by kernel_rfl) (by kernel_rfl) c_laws_toInt64S rfl an_laws_toInt64S (cutL []) (by kernel_rfl) (by kernel_rfl) k_laws_toInt64S (by decide) (fun x K => W_laws_toInt64S x.1 K) w_laws_toInt64S (fun x h1 h2 => m_laws_toInt64S x.1 h1 h2)
def c_laws_toInt64SS : Ct := ⟨[(.sl (.sl (.int .i64)))], [false], fun x => [wR (.sl (.sl (.int .i64))) x.1 <= 1099511627776], [(false, (.sl (.sl (.fz (.int .i64)))))], fun x => (x.1, ()), false, none⟩
def an_laws_toInt64SS : Ann := (.s .n (.s .n (.s (.s .n (.l [(3, (.ref 7 [])), (4, (.d (.int .i64)))] [(7, (.sl (.sl (.fz (.int .i64)))))] [0] .n)) .n)))
def W_laws_toInt64SS (a : List (List Int)) (K : (List (List Int)) × Unit -> Prop) : Prop := ((0 <= ((a.length : Nat) : Int)) /\ ((((a.length : Nat) : Int) <= ((a.length : Nat) : Int)) /\ ((((a.length : Nat) : Int) <= ((140737488355328 : Nat) : Int)) /\ (((((a.length : Nat) : Int) * ((24 : Nat) : Int)) <= ((140737488355328 : Nat) : Int)) /\ (loopW (S := ((Unit × (Int × Unit)) × ((List (List Int)) × Unit))) (fun s => (fun next => ((inK .i64 s.1.2.1) -> ((T.ok (.sl (.sl (.int .i64))) s.2.1) -> (cnd (decide (s.1.2.1 < ((a.length : Nat) : Int))) ((0 <= s.1.2.1) /\ ((s.1.2.1 < ((a.length : Nat) : Int)) /\ (((wR (.sl (.int .i64)) (List.getD a s.1.2.1.toNat [])) <= 1099511627776) /\ ((0 <= s.1.2.1) /\ ((s.1.2.1 < ((s.2.1.length : Nat) : Int)) /\ ((inK .i64 (s.1.2.1 + 1)) /\ (next (((), ((s.1.2.1 + 1), ())), ((List.set s.2.1 s.1.2.1.toNat (List.getD a s.1.2.1.toNat [])), ()))))))))) (K (s.2.1, ()))))))) (((), (0, ())), ((List.replicate (Int.toNat ((a.length : Nat) : Int)) ([] :List Int)), ())))))))
theorem w_laws_toInt64SS (x : denL c_laws_toInt64SS.args) (K : (List (List Int)) × Unit -> Prop) : evF tab (lkp [(46, c_laws_toInt64S)]) (cutL []) Try.f47 (bodyOf Try.f47) an_laws_toInt64SS c_laws_toInt64SS x K = W_laws_toInt64SS x.1 K := by kernel_rfl
theorem k_laws_toInt64SS : okC Try.f47.ntmps (cutL []) (bodyOf Try.f47) = true := by kernel_rfl
theorem m_laws_toInt64SS (a : List (List Int)) (hok : allP (okL c_laws_toInt64SS.args (a, ()))) (hpre : allP (c_laws_toInt64SS.pre (a, ()))) : W_laws_toInt64SS a (fun r => r = c_laws_toInt64SS.res (a, ())) := by
 simp only [c_laws_toInt64SS, okL, T.oks, T.ok, ap, allP, true_and, and_true, implies_true] at hok hpre
 try dsimp only [T.den] at hok
 try dsimp only [T.den] at hpre
 unfold W_laws_toInt64SS
 rw [wR_sl] at hpre
 refine ⟨by omega, by omega, by first | omega | (rw [nb_eq]; omega), by first | omega | (rw [nb_eq]; omega), ?_⟩
 refine loop_of (fun (s : ((Unit × (Int × Unit)) × ((List (List Int)) × Unit))) => 0 <= s.1.2.1 /\ s.1.2.1 <= a.length /\ s.2.1.length = a.length /\ s.2.1.take s.1.2.1.toNat = a.take s.1.2.1.toNat) (fun (s : ((Unit × (Int × Unit)) × ((List (List Int)) × Unit))) => (a.length - s.1.2.1).toNat) ?_ (by simp)
 rintro ⟨⟨_, i, _⟩, l, _⟩ next ⟨h0, h1, h2, h3⟩ hn hin hl
 simp only at h0 h1 h2 h3 hn ⊢
 refine cnd_d (fun hc => ?_) (fun hc => ?_)
 ·have hm := wR_mem (e := (.sl (.int .i64))) (getD_mem a ([] : List Int) h0 hc)
  refine ⟨by omega, by omega, by omega, by omega, by omega, by grind [cnd, nb_eq, inK64], hn _ ⟨(by first | omega | (dsimp only; omega)), (by first | omega | (dsimp only; omega)), by simp [h2], ?_⟩ (by first | omega | (dsimp only; omega))⟩
  simp only
  rw [take_c a ([] : List Int) h0 hc, ← h3]
  exact take_set l h0 (by omega) _
 ·rw [take_n a (by omega), take_n l (by omega)] at h3
  simp [h3, c_laws_toInt64SS]
theorem ct_laws_toInt64SS : CtOk Try.prog 47 c_laws_toInt64SS :=
 ct_by (Φ := lkp [(46, c_laws_toInt64S)]) (good_cons ct_laws_toInt64S good_nil) tab_ok (by kernel_rfl) (fn := Try.f47) (c := bodyOf Try.f47) (by kernel_rfl) (by kernel_rfl) (by kernel_rfl) c_laws_toInt64SS rfl an_laws_toInt64SS (cutL []) (by kernel_rfl) (by kernel_rfl) k_laws_toInt64SS (by decide) (fun x K => W_laws_toInt64SS x.1 K) w_laws_toInt64SS (fun x h1 h2 => m_laws_toInt64SS x.1 h1 h2)
def c_laws_toCategory : Ct := ⟨[CategoryT], [true], fun x => [wR CategoryT x.1 <= 1099511627776], [(true, CategoryO)], fun x => (x.1, ()), false, none⟩
def ph_laws_toCategory : FuncId -> Option Ct := lkp [(46, c_laws_toInt64S), (47, c_laws_toInt64SS)]
def W_laws_toCategory (a : CategoryD) (K : CategoryD × Unit -> Prop) : Prop := (((wR (.sl (.int .i64)) a.2.1) <= 1099511627776) /\ (((wR (.sl (.int .i64)) a.2.2.1) <= 1099511627776) /\ (((wR (.sl (.int .i64)) a.2.2.2.1) <= 1099511627776) /\ (((wR (.sl (.sl (.int .i64))) a.2.2.2.2) <= 1099511627776) /\ (K (a, ()))))))
theorem w_laws_toCategory (x : denL c_laws_toCategory.args) (K : CategoryD × Unit -> Prop) : evF tab ph_laws_toCategory (cutL []) Try.f17 (bodyOf Try.f17) .n c_laws_toCategory x K = W_laws_toCategory x.1 K := by kernel_rfl
theorem k_laws_toCategory : okC Try.f17.ntmps (cutL []) (bodyOf Try.f17) = true := by kernel_rfl
theorem m_laws_toCategory (a : CategoryD) (hok : allP (okL c_laws_toCategory.args (a, ()))) (hpre : allP (c_laws_toCategory.pre (a, ()))) : W_laws_toCategory a (fun r => r = c_laws_toCategory.res (a, ())) := by
 simp only [c_laws_toCategory, okL, T.oks, T.ok, ap, allP, true_and, and_true, implies_true] at hok hpre
 try dsimp only [T.den] at hok
 try dsimp only [T.den] at hpre
 unfold W_laws_toCategory
 simp only [wR_p, wR_int, wR_bool] at hpre
 repeat' apply And.intro
 all_goals first | rfl | ((try simp only [wR_p, wR_int, wR_bool]); omega)
theorem ct_laws_toCategory : CtOk Try.prog 17 c_laws_toCategory :=
 ct_by (Φ := ph_laws_toCategory) (good_cons ct_laws_toInt64S (good_cons ct_laws_toInt64SS good_nil)) tab_ok (by kernel_rfl) (fn := Try.f17) (c := bodyOf Try.f17) (by kernel_rfl) (by kernel_rfl) (by kernel_rfl) c_laws_toCategory rfl .n (cutL []) (by kernel_rfl) (by kernel_rfl) k_laws_toCategory (by decide) (fun x K => W_laws_toCategory x.1 K) w_laws_toCategory (fun x h1 h2 => m_laws_toCategory x.1 h1 h2)
def c_spec_l01In : Ct := ⟨[(.int .i64), (.int .i64), (.int .i64)], [false, false, false], fun x => [], [(false, (.fz .bool))], fun x => (inR x.1 x.2.1 x.2.2.1, ()), false, none⟩
def W_spec_l01In (n : Int) (low : Int) (high : Int) (K : Bool × Unit -> Prop) : Prop := (K (((decide (low <= n)) && (decide (n <= high))), ()))
theorem w_spec_l01In (x : denL c_spec_l01In.args) (K : Bool × Unit -> Prop) : evF tab (lkp []) (cutL []) Try.f91 (bodyOf Try.f91) .n c_spec_l01In x K = W_spec_l01In x.1 x.2.1 x.2.2.1 K := by kernel_rfl
theorem k_spec_l01In : okC Try.f91.ntmps (cutL []) (bodyOf Try.f91) = true := by kernel_rfl
theorem m_spec_l01In (n : Int) (low : Int) (high : Int) (hok : allP (okL c_spec_l01In.args (n, low, high, ()))) (hpre : allP (c_spec_l01In.pre (n, low, high, ()))) : W_spec_l01In n low high (fun r => r = c_spec_l01In.res (n, low, high, ())) := by
 simp only [c_spec_l01In, okL, T.oks, T.ok, ap, allP, true_and, and_true, implies_true] at hok hpre
 try dsimp only [T.den] at hok
 try dsimp only [T.den] at hpre
 unfold W_spec_l01In
 grind [cnd, nb_eq, inK64, c_spec_l01In, inR]
theorem ct_spec_l01In : CtOk Try.prog 91 c_spec_l01In :=
 ct_by (Φ := lkp []) good_nil tab_ok (by kernel_rfl) (fn := Try.f91) (c := bodyOf Try.f91) (by kernel_rfl) (by kernel_rfl) (by kernel_rfl) c_spec_l01In rfl .n (cutL []) (by kernel_rfl) (by kernel_rfl) k_spec_l01In (by decide) (fun x K => W_spec_l01In x.1 x.2.1 x.2.2.1 K) w_spec_l01In (fun x h1 h2 => m_spec_l01In x.1 x.2.1 x.2.2.1 h1 h2)
def c_spec_l01Map : Ct := ⟨[(.int .i64), (.sl (.int .i64))], [false, false], fun x => [], [(false, (.fz .bool))], fun x => (withinR x.2.1 x.1, ()), false, none⟩
def an_spec_l01Map : Ann := (.s .n (.s (.s .n (.l [(5, (.d (.int .i64)))] [] [0, 1] .n)) .n))
def W_spec_l01Map (n : Int) (f : List Int) (K : Bool × Unit -> Prop) : Prop := (loopW (S := ((Int × Unit) × Unit)) (fun s => (fun next => ((inK .i64 s.1.1) -> (cnd (decide (s.1.1 < ((f.length : Nat) : Int))) ((0 <= s.1.1) /\ ((s.1.1 < ((f.length : Nat) : Int)) /\ ((((decide ((List.getD f s.1.1.toNat 0) < 0)) = false) -> ((s.1.1 < ((f.length : Nat) : Int)) /\ (0 <= s.1.1))) /\ (cnd ((decide ((List.getD f s.1.1.toNat 0) < 0)) || (decide (n <= (List.getD f s.1.1.toNat 0)))) (K (false, ())) ((inK .i64 (s.1.1 + 1)) /\ (next (((s.1.1 + 1), ()), ()))))))) (K (true, ())))))) ((0, ()), ()))
theorem w_spec_l01Map (x : denL c_spec_l01Map.args) (K : Bool × Unit -> Prop) : evF tab (lkp []) (cutL []) Try.f42 (bodyOf Try.f42) an_spec_l01Map c_spec_l01Map x K = W_spec_l01Map x.1 x.2.1 K := by kernel_rfl
theorem k_spec_l01Map : okC Try.f42.ntmps (cutL []) (bodyOf Try.f42) = true := by kernel_rfl
theorem m_spec_l01Map (n : Int) (f : List Int) (hok : allP (okL c_spec_l01Map.args (n, f, ()))) (hpre : allP (c_spec_l01Map.pre (n, f, ()))) : W_spec_l01Map n f (fun r => r = c_spec_l01Map.res (n, f, ())) := by
 simp only [c_spec_l01Map, okL, T.oks, T.ok, ap, allP, true_and, and_true, implies_true] at hok hpre
 try dsimp only [T.den] at hok
 try dsimp only [T.den] at hpre
 unfold W_spec_l01Map
 refine loop_of (fun (s : ((Int × Unit) × Unit)) => 0 <= s.1.1 /\ s.1.1 <= f.length /\ withinR f n = withinR (f.drop s.1.1.toNat) n) (fun (s : ((Int × Unit) × Unit)) => (f.length - s.1.1).toNat) ?_ (by simp)
 rintro ⟨⟨i, _⟩, _⟩ next ⟨h0, h1, h2⟩ hn hin
 simp only at h0 h1 h2 hn ⊢
 refine cnd_d (fun hc => ?_) (fun hc => ?_)
 ·rw [drop_c f 0 h0 hc] at h2
  simp only [withinR, List.all_cons] at h2
  grind [cnd, nb_eq, inK64, c_spec_l01Map, withinR, inR]
 ·rw [drop_n f (by omega)] at h2
  grind [cnd, nb_eq, inK64, c_spec_l01Map, withinR]
theorem ct_spec_l01Map : CtOk Try.prog 42 c_spec_l01Map :=
 ct_by (Φ := lkp []) good_nil tab_ok (by kernel_rfl) (fn := Try.f42) (c := bodyOf Try.f42) (by kernel_rfl) (by kernel_rfl) (by kernel_rfl) c_spec_l01Map rfl an_spec_l01Map (cutL []) (by kernel_rfl) (by kernel_rfl) k_spec_l01Map (by decide) (fun x K => W_spec_l01Map x.1 x.2.1 K) w_spec_l01Map (fun x h1 h2 => m_spec_l01Map x.1 x.2.1 h1 h2)
def c_spec_l02Ends : Ct := ⟨[(.sl (.int .i64)), (.int .i64), (.int .i64)], [false, false, false], fun x => [], [(false, (.fz .bool))], fun x => ((decide ((x.1.length : Int) = x.2.1) && withinR x.1 x.2.2.1), ()), false, none⟩
def W_spec_l02Ends (list : List Int) (length : Int) (objects : Int) (K : Bool × Unit -> Prop) : Prop := (K (((((list.length : Nat) : Int) == length) && (withinR list objects)), ()))
theorem w_spec_l02Ends (x : denL c_spec_l02Ends.args) (K : Bool × Unit -> Prop) : evF tab (lkp [(42, c_spec_l01Map)]) (cutL []) Try.f135 (bodyOf Try.f135) .n c_spec_l02Ends x K = W_spec_l02Ends x.1 x.2.1 x.2.2.1 K := by kernel_rfl
theorem k_spec_l02Ends : okC Try.f135.ntmps (cutL []) (bodyOf Try.f135) = true := by kernel_rfl
theorem m_spec_l02Ends (list : List Int) (length : Int) (objects : Int) (hok : allP (okL c_spec_l02Ends.args (list, length, objects, ()))) (hpre : allP (c_spec_l02Ends.pre (list, length, objects, ()))) : W_spec_l02Ends list length objects (fun r => r = c_spec_l02Ends.res (list, length, objects, ())) := by
 simp only [c_spec_l02Ends, okL, T.oks, T.ok, ap, allP, true_and, and_true, implies_true] at hok hpre
 try dsimp only [T.den] at hok
 try dsimp only [T.den] at hpre
 unfold W_spec_l02Ends
 have : ((list.length : Int) == length) = decide ((list.length : Int) = length) := rfl
 simp only [c_spec_l02Ends, this]
theorem ct_spec_l02Ends : CtOk Try.prog 135 c_spec_l02Ends :=
 ct_by (Φ := lkp [(42, c_spec_l01Map)]) (good_cons ct_spec_l01Map good_nil) tab_ok (by kernel_rfl) (fn := Try.f135) (c := bodyOf Try.f135) (by kernel_rfl) (by kernel_rfl) (by kernel_rfl) c_spec_l02Ends rfl .n (cutL []) (by kernel_rfl) (by kernel_rfl) k_spec_l02Ends (by decide) (fun x K => W_spec_l02Ends x.1 x.2.1 x.2.2.1 K) w_spec_l02Ends (fun x h1 h2 => m_spec_l02Ends x.1 x.2.1 x.2.2.1 h1 h2)
def c_spec_IsShape : Ct := ⟨[CategoryT], [true], fun x => [], [(false, (.fz .bool))], fun x => (shapeR x.1, ()), false, none⟩
def an_spec_IsShape : Ann := (.s .n (.s .n (.s .n (.s .n (.s (.s .n (.l [(4, (.d (.int .i64)))] [] [1, 3] .n)) (.s (.s .n (.l [(5, (.d (.int .i64)))] [] [1, 3] (.s .n (.s (.s .n (.s .n (.l [(6, (.d (.int .i64)))] [] [1, 3, 5] (.s .n (.s (.j [] [] [1, 3, 5, 6] .n) .n))))) .n)))) .n))))))
def ph_spec_IsShape : FuncId -> Option Ct := lkp [(91, c_spec_l01In), (42, c_spec_l01Map), (135, c_spec_l02Ends)]
def W_spec_IsShape (c : CategoryD) (K : Bool × Unit -> Prop) : Prop := (cnd (((((!(inR c.1 0 8)) || (decide (40 < ((c.2.1.length : Nat) : Int)))) || (!((decide (((c.2.1.length : Nat) : Int) = ((c.2.1.length : Nat) : Int))) && (withinR c.2.1 c.1)))) || (!((decide (((c.2.2.1.length : Nat) : Int) = ((c.2.1.length : Nat) : Int))) && (withinR c.2.2.1 c.1)))) || (((c.2.2.2.2.length : Nat) : Int) != ((c.2.1.length : Nat) : Int))) (K (false, ())) (cnd ((((c.2.2.2.1.length : Nat) : Int) != c.1) || (!(withinR c.2.2.2.1 ((c.2.1.length : Nat) : Int)))) (K (false, ())) (loopW (S := ((Int × Unit) × Unit)) (fun s => (fun next => ((inK .i64 s.1.1) -> (cnd (decide (s.1.1 < c.1)) ((0 <= s.1.1) /\ ((s.1.1 < ((c.2.2.2.1.length : Nat) : Int)) /\ ((0 <= (List.getD c.2.2.2.1 s.1.1.toNat 0)) /\ (((List.getD c.2.2.2.1 s.1.1.toNat 0) < ((c.2.1.length : Nat) : Int)) /\ (((((List.getD c.2.1 (Int.toNat (List.getD c.2.2.2.1 s.1.1.toNat 0)) 0) != s.1.1) = false) -> ((s.1.1 < ((c.2.2.2.1.length : Nat) : Int)) /\ (0 <= s.1.1))) /\ (((((List.getD c.2.1 (Int.toNat (List.getD c.2.2.2.1 s.1.1.toNat 0)) 0) != s.1.1) = false) -> (((List.getD c.2.2.2.1 s.1.1.toNat 0) < ((c.2.2.1.length : Nat) : Int)) /\ (0 <= (List.getD c.2.2.2.1 s.1.1.toNat 0)))) /\ (cnd (((List.getD c.2.1 (Int.toNat (List.getD c.2.2.2.1 s.1.1.toNat 0)) 0) != s.1.1) || ((List.getD c.2.2.1 (Int.toNat (List.getD c.2.2.2.1 s.1.1.toNat 0)) 0) != s.1.1)) (K (false, ())) ((inK .i64 (s.1.1 + 1)) /\ (next (((s.1.1 + 1), ()), ())))))))))) (loopW (S := ((Int × Unit) × Unit)) (fun s1 => (fun next1 => ((inK .i64 s1.1.1) -> (cnd (decide (s1.1.1 < ((c.2.1.length : Nat) : Int))) ((0 <= s1.1.1) /\ ((s1.1.1 < ((c.2.2.2.2.length : Nat) : Int)) /\ (cnd ((((List.length (List.getD c.2.2.2.2 s1.1.1.toNat [])) : Nat) : Int) != ((c.2.1.length : Nat) : Int)) (K (false, ())) (loopW (S := ((Int × Unit) × Unit)) (fun s2 => (fun next2 => ((inK .i64 s2.1.1) -> (cnd (decide (s2.1.1 < ((c.2.1.length : Nat) : Int))) (joinW (S := (Unit × Unit)) (fun s3 => ((inK .i64 (s2.1.1 + 1)) /\ (next2 (((s2.1.1 + 1), ()), ())))) (fun k => ((0 <= s1.1.1) /\ ((s1.1.1 < ((c.2.2.2.2.length : Nat) : Int)) /\ ((0 <= s2.1.1) /\ ((s2.1.1 < (((List.length (List.getD c.2.2.2.2 s1.1.1.toNat [])) : Nat) : Int)) /\ ((0 <= s1.1.1) /\ ((s1.1.1 < ((c.2.2.1.length : Nat) : Int)) /\ ((0 <= s2.1.1) /\ ((s2.1.1 < ((c.2.1.length : Nat) : Int)) /\ (cnd ((List.getD c.2.2.1 s1.1.1.toNat 0) != (List.getD c.2.1 s2.1.1.toNat 0)) (cnd ((List.getD (List.getD c.2.2.2.2 s1.1.1.toNat []) s2.1.1.toNat 0) != (-1)) (K (false, ())) (k ((), ()))) (((((decide ((List.getD (List.getD c.2.2.2.2 s1.1.1.toNat []) s2.1.1.toNat 0) < 0)) || (decide (((c.2.1.length : Nat) : Int) <= (List.getD (List.getD c.2.2.2.2 s1.1.1.toNat []) s2.1.1.toNat 0)))) = false) -> (((List.getD (List.getD c.2.2.2.2 s1.1.1.toNat []) s2.1.1.toNat 0) < ((c.2.1.length : Nat) : Int)) /\ (0 <= (List.getD (List.getD c.2.2.2.2 s1.1.1.toNat []) s2.1.1.toNat 0)))) /\ (((((decide ((List.getD (List.getD c.2.2.2.2 s1.1.1.toNat []) s2.1.1.toNat 0) < 0)) || (decide (((c.2.1.length : Nat) : Int) <= (List.getD (List.getD c.2.2.2.2 s1.1.1.toNat []) s2.1.1.toNat 0)))) = false) -> ((s1.1.1 < ((c.2.1.length : Nat) : Int)) /\ (0 <= s1.1.1))) /\ ((((((decide ((List.getD (List.getD c.2.2.2.2 s1.1.1.toNat []) s2.1.1.toNat 0) < 0)) || (decide (((c.2.1.length : Nat) : Int) <= (List.getD (List.getD c.2.2.2.2 s1.1.1.toNat []) s2.1.1.toNat 0)))) || ((List.getD c.2.1 (Int.toNat (List.getD (List.getD c.2.2.2.2 s1.1.1.toNat []) s2.1.1.toNat 0)) 0) != (List.getD c.2.1 s1.1.1.toNat 0))) = false) -> (((List.getD (List.getD c.2.2.2.2 s1.1.1.toNat []) s2.1.1.toNat 0) < ((c.2.2.1.length : Nat) : Int)) /\ (0 <= (List.getD (List.getD c.2.2.2.2 s1.1.1.toNat []) s2.1.1.toNat 0)))) /\ ((((((decide ((List.getD (List.getD c.2.2.2.2 s1.1.1.toNat []) s2.1.1.toNat 0) < 0)) || (decide (((c.2.1.length : Nat) : Int) <= (List.getD (List.getD c.2.2.2.2 s1.1.1.toNat []) s2.1.1.toNat 0)))) || ((List.getD c.2.1 (Int.toNat (List.getD (List.getD c.2.2.2.2 s1.1.1.toNat []) s2.1.1.toNat 0)) 0) != (List.getD c.2.1 s1.1.1.toNat 0))) = false) -> ((s2.1.1 < ((c.2.2.1.length : Nat) : Int)) /\ (0 <= s2.1.1))) /\ (cnd ((((decide ((List.getD (List.getD c.2.2.2.2 s1.1.1.toNat []) s2.1.1.toNat 0) < 0)) || (decide (((c.2.1.length : Nat) : Int) <= (List.getD (List.getD c.2.2.2.2 s1.1.1.toNat []) s2.1.1.toNat 0)))) || ((List.getD c.2.1 (Int.toNat (List.getD (List.getD c.2.2.2.2 s1.1.1.toNat []) s2.1.1.toNat 0)) 0) != (List.getD c.2.1 s1.1.1.toNat 0))) || ((List.getD c.2.2.1 (Int.toNat (List.getD (List.getD c.2.2.2.2 s1.1.1.toNat []) s2.1.1.toNat 0)) 0) != (List.getD c.2.2.1 s2.1.1.toNat 0))) (K (false, ())) (k ((), ())))))))))))))))))) ((inK .i64 (s1.1.1 + 1)) /\ (next1 (((s1.1.1 + 1), ()), ()))))))) ((0, ()), ()))))) (K (true, ())))))) ((0, ()), ())))))) ((0, ()), ()))))
theorem w_spec_IsShape (x : denL c_spec_IsShape.args) (K : Bool × Unit -> Prop) : evF tab ph_spec_IsShape (cutL [(20, 11), (23, 33), (9, 24)]) Try.f114 (bodyOf Try.f114) an_spec_IsShape c_spec_IsShape x K = W_spec_IsShape x.1 K := by kernel_rfl
theorem k_spec_IsShape : okC Try.f114.ntmps (cutL [(20, 11), (23, 33), (9, 24)]) (bodyOf Try.f114) = true := by kernel_rfl
theorem m_spec_IsShape (c : CategoryD) (hok : allP (okL c_spec_IsShape.args (c, ()))) (hpre : allP (c_spec_IsShape.pre (c, ()))) : W_spec_IsShape c (fun r => r = c_spec_IsShape.res (c, ())) := by
 simp only [c_spec_IsShape, okL, T.oks, T.ok, ap, allP, true_and, and_true, implies_true] at hok hpre
 try dsimp only [T.den] at hok
 try dsimp only [T.den] at hpre
 unfold W_spec_IsShape
 have bad : ¬ ShapeP c -> (false, ()) = c_spec_IsShape.res (c, ()) := fun h => by simp only [c_spec_IsShape]; rw [shape_f h]
 refine cnd_of (fun hc => bad fun h => ?_) (fun hc => cnd_of (fun hd => bad fun h => ?_) (fun hd => ?_))
 ·have h1 := h.ob; have h2 := h.m; have h3 := h.lt; have h4 := h.fr; have h5 := h.to; have h6 := h.lc; simp only [inR] at hc; grind [cnd, nb_eq, inK64]
 ·have h1 := h.li; have h2 := h.ids; grind [cnd, nb_eq, inK64]
 simp only [inR, Bool.or_eq_false_iff, Bool.not_eq_false', Bool.and_eq_true, decide_eq_true_eq, decide_eq_false_iff_not, bne_eq_false_iff_eq] at hc hd
 obtain ⟨⟨⟨⟨hob, hm⟩, _, hfr⟩, hlt, hto⟩, hlc⟩ := hc
 obtain ⟨hli, hids⟩ := hd
 refine loop_ix (n := c.1) (fun x => ∀ y : Int, 0 <= y -> y < x -> c.2.1.getD (c.2.2.2.1.getD y.toNat 0).toNat 0 = y /\ c.2.2.1.getD (c.2.2.2.1.getD y.toNat 0).toNat 0 = y) (by omega) (by intro y h0 h1; omega) ?_ ?_
 ·intro x next h0 h1 hP hn hin
  have hb := within_iff.1 hids x h0 (by omega)
  try dsimp only
  refine cnd_d (fun _ => ⟨h0, by omega, hb.1, hb.2, fun _ => by omega, fun _ => by omega, cnd_of (fun hx => bad fun h => ?_) (fun hx => ?_)⟩) (fun h => absurd h1 h)
  ·have := h.idt x h0 (by omega)
   rw [this.1, this.2] at hx
   simp at hx
  ·simp only [Bool.or_eq_false_iff, bne_eq_false_iff_eq] at hx
   refine ⟨by rw [inK64]; (try dsimp only); omega, hn fun y y0 y1 => ?_⟩
   by_cases e : y = x
   ·rw [e]; exact hx
   ·exact hP y y0 (by omega)
 intro next hidt hin
 refine cnd_d (fun h => absurd h (by dsimp only; omega)) (fun _ => ?_)
 refine loop_ix (n := c.2.1.length) (fun f => ∀ f' : Int, 0 <= f' -> f' < f -> (c.2.2.2.2.getD f'.toNat []).length = c.2.1.length /\ ∀ g : Int, 0 <= g -> g < c.2.1.length -> cellR c f' g = true) (by omega) (by intro y h0 h1; omega) ?_ ?_
 ·intro f next h0 h1 hP hn hin
  try dsimp only
  refine cnd_d (fun _ => ⟨h0, by omega, cnd_of (fun hx => bad fun h => ?_) (fun hx => ?_)⟩) (fun h => absurd h1 h)
  ·have := h.row f h0 (by omega)
   rw [this] at hx
   simp at hx
  simp only [bne_eq_false_iff_eq] at hx
  refine loop_ix (n := c.2.1.length) (fun g => ∀ g' : Int, 0 <= g' -> g' < g -> cellR c f g' = true) (by omega) (by intro y h0 h1; omega) ?_ ?_
  ·intro g next3 g0 g1 hP3 hn3 hin3
   try dsimp only
   refine cnd_d (fun _ => ?_) (fun h => absurd g1 h)
   refine join_of (fun _ => cellR c f g = true) (fun _ hcell => ⟨by rw [inK64]; (try dsimp only); omega, hn3 fun g' y0 y1 => ?_⟩) (fun k hk => ?_)
   ·by_cases e : g' = g
    ·rw [e]; exact hcell
    ·exact hP3 g' y0 (by omega)
   have hcell : ∀ b, cellR c f g = b -> b = false -> ¬ ShapeP c := fun b h1 h2 h => by
    have := h.cell f g h0 (by omega) g0 (by omega)
    rw [h1, h2] at this; cases this
   have hk' := hk ((), ())
   obtain ⟨v, hv⟩ : ∃ v, (c.2.2.2.2.getD f.toNat []).getD g.toNat 0 = v := ⟨_, rfl⟩
   have hR : cellR c f g = cellQ c f g v := by unfold cellR compR; rw [hv]
   rw [hR] at hk'
   rw [hR] at hcell
   rw [hv]
   clear hP3 hn3 hP hn hk hR hv hidt hok
   refine ⟨h0, by omega, g0, by omega, h0, by omega, g0, by omega, cnd_of (fun ha => cnd_of (fun hb => bad ?_) (fun hb => hk' ?_)) (fun ha => ⟨fun hv => ?_, fun _ => ⟨by omega, h0⟩, fun hv => ?_, fun _ => ⟨by omega, g0⟩, cnd_of (fun hb => bad ?_) (fun hb => hk' ?_)⟩)⟩
   ·exact hcell _ rfl (by grind [cnd, nb_eq, inK64, cellQ])
   ·grind [cnd, nb_eq, inK64, cellQ]
   ·simp only [Bool.or_eq_false_iff, decide_eq_false_iff_not] at hv; omega
   ·simp only [Bool.or_eq_false_iff, decide_eq_false_iff_not] at hv; omega
   ·exact hcell _ rfl (by grind [cnd, nb_eq, inK64, cellQ])
   ·grind [cnd, nb_eq, inK64, cellQ]
  ·intro next3 hP3 hin3
   refine cnd_d (fun h => absurd h (by dsimp only; omega)) (fun _ => ⟨by rw [inK64]; (try dsimp only); omega, hn fun f' y0 y1 => ?_⟩)
   by_cases e : f' = f
   ·rw [e]; exact ⟨by omega, fun g g0 g1 => hP3 g g0 (by omega)⟩
   ·exact hP f' y0 (by omega)
 ·intro next2 hP2 hin2
  refine cnd_d (fun h => absurd h (by dsimp only; omega)) (fun _ => ?_)
  simp only [c_spec_IsShape]
  rw [shape_t ⟨hob, by omega, by omega, hfr, hto, by omega, hids, by omega, fun x a b => hidt x a (by omega), fun f a b => (hP2 f a (by omega)).1, fun f g a b d e => (hP2 f a (by omega)).2 g d e⟩]
theorem ct_spec_IsShape : CtOk Try.prog 114 c_spec_IsShape :=
 ct_by (Φ := ph_spec_IsShape) (good_cons ct_spec_l01In (good_cons ct_spec_l01Map (good_cons ct_spec_l02Ends good_nil))) tab_ok (by kernel_rfl) (fn := Try.f114) (c := bodyOf Try.f114) (by kernel_rfl) (by kernel_rfl) (by kernel_rfl) c_spec_IsShape rfl an_spec_IsShape (cutL [(20, 11), (23, 33), (9, 24)]) (by kernel_rfl) (by kernel_rfl) k_spec_IsShape (by decide) (fun x K => W_spec_IsShape x.1 K) w_spec_IsShape (fun x h1 h2 => m_spec_IsShape x.1 h1 h2)
def c_spec_l02Fault : Ct := ⟨[CategoryT], [true], fun x => [ShapeP x.1], [(false, (.fz (.int .i64))), (false, (.fz (.int .i64))), (false, (.fz (.int .i64))), (false, (.fz (.int .i64)))], fun x => ((faultR x.1).1, (faultR x.1).2.1, (faultR x.1).2.2.1, (faultR x.1).2.2.2, ()), false, none⟩
def an_spec_l02Fault : Ann := (.s .n (.s .n (.s (.s .n (.l [(7, (.d (.int .i64)))] [] [1, 6] .n)) (.s (.s .n (.l [(8, (.d (.int .i64)))] [] [1, 6] (.s .n (.s (.s .n (.l [(9, (.d (.int .i64)))] [] [1, 6, 8] (.s .n (.s (.j [] [] [1, 6, 8, 9] (.s .n (.s .n (.l [(10, (.d (.int .i64)))] [] [1, 6, 8, 9] .n)))) .n)))) .n)))) .n))))
def W_spec_l02Fault (c : CategoryD) (K : Int × Int × Int × Int × Unit -> Prop) : Prop := (loopW (S := ((Int × Unit) × Unit)) (fun s => (fun next => ((inK .i64 s.1.1) -> (cnd (decide (s.1.1 < ((c.2.1.length : Nat) : Int))) ((0 <= s.1.1) /\ ((s.1.1 < ((c.2.1.length : Nat) : Int)) /\ ((0 <= (List.getD c.2.1 s.1.1.toNat 0)) /\ (((List.getD c.2.1 s.1.1.toNat 0) < ((c.2.2.2.1.length : Nat) : Int)) /\ ((0 <= (List.getD c.2.2.2.1 (Int.toNat (List.getD c.2.1 s.1.1.toNat 0)) 0)) /\ (((List.getD c.2.2.2.1 (Int.toNat (List.getD c.2.1 s.1.1.toNat 0)) 0) < ((c.2.2.2.2.length : Nat) : Int)) /\ ((0 <= s.1.1) /\ ((s.1.1 < (((List.length (List.getD c.2.2.2.2 (Int.toNat (List.getD c.2.2.2.1 (Int.toNat (List.getD c.2.1 s.1.1.toNat 0)) 0)) [])) : Nat) : Int)) /\ (((((List.getD (List.getD c.2.2.2.2 (Int.toNat (List.getD c.2.2.2.1 (Int.toNat (List.getD c.2.1 s.1.1.toNat 0)) 0)) []) s.1.1.toNat 0) != s.1.1) = false) -> ((s.1.1 < ((c.2.2.2.2.length : Nat) : Int)) /\ (0 <= s.1.1))) /\ (((((List.getD (List.getD c.2.2.2.2 (Int.toNat (List.getD c.2.2.2.1 (Int.toNat (List.getD c.2.1 s.1.1.toNat 0)) 0)) []) s.1.1.toNat 0) != s.1.1) = false) -> ((s.1.1 < ((c.2.2.1.length : Nat) : Int)) /\ (0 <= s.1.1))) /\ (((((List.getD (List.getD c.2.2.2.2 (Int.toNat (List.getD c.2.2.2.1 (Int.toNat (List.getD c.2.1 s.1.1.toNat 0)) 0)) []) s.1.1.toNat 0) != s.1.1) = false) -> (((List.getD c.2.2.1 s.1.1.toNat 0) < ((c.2.2.2.1.length : Nat) : Int)) /\ (0 <= (List.getD c.2.2.1 s.1.1.toNat 0)))) /\ (((((List.getD (List.getD c.2.2.2.2 (Int.toNat (List.getD c.2.2.2.1 (Int.toNat (List.getD c.2.1 s.1.1.toNat 0)) 0)) []) s.1.1.toNat 0) != s.1.1) = false) -> (((List.getD c.2.2.2.1 (Int.toNat (List.getD c.2.2.1 s.1.1.toNat 0)) 0) < (((List.length (List.getD c.2.2.2.2 s.1.1.toNat [])) : Nat) : Int)) /\ (0 <= (List.getD c.2.2.2.1 (Int.toNat (List.getD c.2.2.1 s.1.1.toNat 0)) 0)))) /\ (cnd (((List.getD (List.getD c.2.2.2.2 (Int.toNat (List.getD c.2.2.2.1 (Int.toNat (List.getD c.2.1 s.1.1.toNat 0)) 0)) []) s.1.1.toNat 0) != s.1.1) || ((List.getD (List.getD c.2.2.2.2 s.1.1.toNat []) (Int.toNat (List.getD c.2.2.2.1 (Int.toNat (List.getD c.2.2.1 s.1.1.toNat 0)) 0)) 0) != s.1.1)) (K (1, (s.1.1, (0, (0, ()))))) ((inK .i64 (s.1.1 + 1)) /\ (next (((s.1.1 + 1), ()), ())))))))))))))))) (loopW (S := ((Int × Unit) × Unit)) (fun s1 => (fun next1 => ((inK .i64 s1.1.1) -> (cnd (decide (s1.1.1 < ((c.2.1.length : Nat) : Int))) (loopW (S := ((Int × Unit) × Unit)) (fun s2 => (fun next2 => ((inK .i64 s2.1.1) -> (cnd (decide (s2.1.1 < ((c.2.1.length : Nat) : Int))) (joinW (S := (Unit × Unit)) (fun s3 => ((inK .i64 (s2.1.1 + 1)) /\ (next2 (((s2.1.1 + 1), ()), ())))) (fun k => ((0 <= s1.1.1) /\ ((s1.1.1 < ((c.2.2.1.length : Nat) : Int)) /\ ((0 <= s2.1.1) /\ ((s2.1.1 < ((c.2.1.length : Nat) : Int)) /\ (cnd ((List.getD c.2.2.1 s1.1.1.toNat 0) != (List.getD c.2.1 s2.1.1.toNat 0)) (k ((), ())) (loopW (S := ((Int × Unit) × Unit)) (fun s3 => (fun next3 => ((inK .i64 s3.1.1) -> (cnd (decide (s3.1.1 < ((c.2.1.length : Nat) : Int))) ((0 <= s2.1.1) /\ ((s2.1.1 < ((c.2.2.1.length : Nat) : Int)) /\ ((0 <= s3.1.1) /\ ((s3.1.1 < ((c.2.1.length : Nat) : Int)) /\ (((((List.getD c.2.2.1 s2.1.1.toNat 0) == (List.getD c.2.1 s3.1.1.toNat 0)) = true) -> ((s1.1.1 < ((c.2.2.2.2.length : Nat) : Int)) /\ (0 <= s1.1.1))) /\ (((((List.getD c.2.2.1 s2.1.1.toNat 0) == (List.getD c.2.1 s3.1.1.toNat 0)) = true) -> ((s2.1.1 < (((List.length (List.getD c.2.2.2.2 s1.1.1.toNat [])) : Nat) : Int)) /\ (0 <= s2.1.1))) /\ (((((List.getD c.2.2.1 s2.1.1.toNat 0) == (List.getD c.2.1 s3.1.1.toNat 0)) = true) -> (((List.getD (List.getD c.2.2.2.2 s1.1.1.toNat []) s2.1.1.toNat 0) < ((c.2.2.2.2.length : Nat) : Int)) /\ (0 <= (List.getD (List.getD c.2.2.2.2 s1.1.1.toNat []) s2.1.1.toNat 0)))) /\ (((((List.getD c.2.2.1 s2.1.1.toNat 0) == (List.getD c.2.1 s3.1.1.toNat 0)) = true) -> ((s3.1.1 < (((List.length (List.getD c.2.2.2.2 (Int.toNat (List.getD (List.getD c.2.2.2.2 s1.1.1.toNat []) s2.1.1.toNat 0)) [])) : Nat) : Int)) /\ (0 <= s3.1.1))) /\ (((((List.getD c.2.2.1 s2.1.1.toNat 0) == (List.getD c.2.1 s3.1.1.toNat 0)) = true) -> ((s1.1.1 < ((c.2.2.2.2.length : Nat) : Int)) /\ (0 <= s1.1.1))) /\ (((((List.getD c.2.2.1 s2.1.1.toNat 0) == (List.getD c.2.1 s3.1.1.toNat 0)) = true) -> ((s2.1.1 < ((c.2.2.2.2.length : Nat) : Int)) /\ (0 <= s2.1.1))) /\ (((((List.getD c.2.2.1 s2.1.1.toNat 0) == (List.getD c.2.1 s3.1.1.toNat 0)) = true) -> ((s3.1.1 < (((List.length (List.getD c.2.2.2.2 s2.1.1.toNat [])) : Nat) : Int)) /\ (0 <= s3.1.1))) /\ (((((List.getD c.2.2.1 s2.1.1.toNat 0) == (List.getD c.2.1 s3.1.1.toNat 0)) = true) -> (((List.getD (List.getD c.2.2.2.2 s2.1.1.toNat []) s3.1.1.toNat 0) < (((List.length (List.getD c.2.2.2.2 s1.1.1.toNat [])) : Nat) : Int)) /\ (0 <= (List.getD (List.getD c.2.2.2.2 s2.1.1.toNat []) s3.1.1.toNat 0)))) /\ (cnd (((List.getD c.2.2.1 s2.1.1.toNat 0) == (List.getD c.2.1 s3.1.1.toNat 0)) && ((List.getD (List.getD c.2.2.2.2 (Int.toNat (List.getD (List.getD c.2.2.2.2 s1.1.1.toNat []) s2.1.1.toNat 0)) []) s3.1.1.toNat 0) != (List.getD (List.getD c.2.2.2.2 s1.1.1.toNat []) (Int.toNat (List.getD (List.getD c.2.2.2.2 s2.1.1.toNat []) s3.1.1.toNat 0)) 0))) (K (2, (s1.1.1, (s2.1.1, (s3.1.1, ()))))) ((inK .i64 (s3.1.1 + 1)) /\ (next3 (((s3.1.1 + 1), ()), ())))))))))))))))) (k ((), ())))))) ((0, ()), ()))))))))) ((inK .i64 (s1.1.1 + 1)) /\ (next1 (((s1.1.1 + 1), ()), ()))))))) ((0, ()), ())) (K (0, (0, (0, (0, ()))))))))) ((0, ()), ())))))) ((0, ()), ()))
theorem w_spec_l02Fault (x : denL c_spec_l02Fault.args) (K : Int × Int × Int × Int × Unit -> Prop) : evF tab (lkp []) (cutL [(17, 44), (5, 38), (13, 11)]) Try.f115 (bodyOf Try.f115) an_spec_l02Fault c_spec_l02Fault x K = W_spec_l02Fault x.1 K := by kernel_rfl
theorem k_spec_l02Fault : okC Try.f115.ntmps (cutL [(17, 44), (5, 38), (13, 11)]) (bodyOf Try.f115) = true := by kernel_rfl
theorem m_spec_l02Fault (c : CategoryD) (hok : allP (okL c_spec_l02Fault.args (c, ()))) (hpre : allP (c_spec_l02Fault.pre (c, ()))) : W_spec_l02Fault c (fun r => r = c_spec_l02Fault.res (c, ())) := by
 simp only [c_spec_l02Fault, okL, T.oks, T.ok, ap, allP, true_and, and_true, implies_true] at hok hpre
 try dsimp only [T.den] at hok
 try dsimp only [T.den] at hpre
 unfold W_spec_l02Fault
 have S : ShapeP c := hpre
 have hlt := S.lt
 have hli := S.li
 have hlc := S.lc
 have hmm := S.m
 have resq : ∀ a b d e, faultR c = (a, b, d, e) -> (a, b, d, e, ()) = c_spec_l02Fault.res (c, ()) := fun a b d e h => by simp only [c_spec_l02Fault, h]
 have hcr : ∀ f g : Int, (c.2.2.2.2.getD f.toNat []).getD g.toNat 0 = compR c f g := fun _ _ => rfl
 simp only [hcr]
 refine loop_ix (n := c.2.1.length) (fun f => scanR (faultI c) c.2.1.length 0 = scanR (faultI c) ((c.2.1.length : Int) - f).toNat f) (by omega) scan_0 ?_ ?_
 ·intro f next h0 h1 hP hn hin
  try dsimp only
  obtain ⟨a1, a2, a3, a4⟩ := S.frm h0 h1
  obtain ⟨b1, b2, _, _⟩ := S.idn a1 a2
  obtain ⟨d1, d2, _, _⟩ := S.idn a3 a4
  have r1 := S.row _ b1 b2
  have r2 := S.row f h0 h1
  refine cnd_d (fun _ => ⟨h0, h1, by omega, by omega, by omega, by omega, h0, by omega, fun _ => by omega, fun _ => by omega, fun _ => by omega, fun _ => by omega, cnd_of (fun hx => resq _ _ _ _ ?_) (fun hx => ⟨by rw [inK64]; (try dsimp only); omega, hn ?_⟩)⟩) (fun h => absurd h1 h)
  ·have : faultI c f = some (1, f, 0, 0) := by unfold faultI; rw [if_pos]; simpa using hx
   unfold faultR; rw [hP, scan_s h1 this]; rfl
  ·have : faultI c f = none := by unfold faultI; rw [if_neg]; simpa using hx
   rw [hP, scan_c h1 this]
 intro next hI hin
 rw [scan_n] at hI
 refine cnd_d (fun h => absurd h (by dsimp only; omega)) (fun _ => ?_)
 have hF : faultR c = orR (scanR (faultF c) c.2.1.length 0) (0, 0, 0, 0) := by unfold faultR; rw [hI]; rfl
 refine loop_ix (n := c.2.1.length) (fun f => scanR (faultF c) c.2.1.length 0 = scanR (faultF c) ((c.2.1.length : Int) - f).toNat f) (by omega) scan_0 ?_ ?_
 ·intro f next h0 h1 hP hn hin
  try dsimp only
  refine cnd_d (fun _ => ?_) (fun h => absurd h1 h)
  have r1 := S.row f h0 h1
  refine loop_ix (n := c.2.1.length) (fun g => faultF c f = scanR (faultG c f) ((c.2.1.length : Int) - g).toNat g) (by omega) scan_0 ?_ ?_
  ·intro g next3 g0 g1 hP3 hn3 hin3
   try dsimp only
   refine cnd_d (fun _ => ?_) (fun h => absurd g1 h)
   have r2 := S.row g g0 g1
   refine join_of (fun _ => faultG c f g = none) (fun _ hG => ⟨by rw [inK64]; (try dsimp only); omega, hn3 (by rw [hP3, scan_c g1 hG])⟩) (fun k hk => ?_)
   have hk' := hk ((), ())
   refine ⟨by omega, by omega, by omega, by omega, cnd_of (fun hx => hk' ?_) (fun hx => ?_)⟩
   ·unfold faultG; rw [if_neg]; simpa using hx
   have hfg : c.2.2.1.getD f.toNat 0 = c.2.1.getD g.toNat 0 := by rw [bne_eq_false_iff_eq] at hx; exact hx
   obtain ⟨y1, y2, _, _⟩ := S.yes h0 h1 g0 g1 hfg
   refine loop_ix (n := c.2.1.length) (fun h => faultG c f g = scanR (faultH c f g) ((c.2.1.length : Int) - h).toNat h) (by omega) (by unfold faultG; rw [if_pos hfg]; exact scan_0) ?_ ?_
   ·intro h next4 i0 i1 hP4 hn4 hin4
    try dsimp only
    refine cnd_d (fun _ => ?_) (fun h => absurd i1 h)
    have r3 := S.row _ y1 y2
    have cgh := S.comp g0 g1 i0 i1
    have ygh := @ShapeP.yes c S g h g0 g1 i0 i1
    refine ⟨by omega, by omega, by omega, by omega, fun _ => by omega, fun _ => by omega, fun _ => by omega, fun _ => by omega, fun _ => by omega, fun _ => by omega, fun _ => by omega, fun he => ?_, cnd_of (fun hx => resq _ _ _ _ ?_) (fun hx => ⟨by rw [inK64]; (try dsimp only); omega, hn4 ?_⟩)⟩
    ·have := ygh (by simpa only [beq_iff_eq] using he); omega
    ·have : faultH c f g h = some (2, f, g, h) := by unfold faultH; rw [if_pos]; simpa using hx
     have e1 : faultG c f g = some (2, f, g, h) := by rw [hP4, scan_s i1 this]
     have e2 : faultF c f = some (2, f, g, h) := by rw [hP3, scan_s g1 e1]
     rw [hF, hP, scan_s h1 e2]; rfl
    ·have : faultH c f g h = none := by unfold faultH; rw [if_neg]; simpa using hx
     rw [hP4, scan_c i1 this]
   ·intro next4 hP4 hin4
    rw [scan_n] at hP4
    exact cnd_d (fun h => absurd h (by dsimp only; omega)) (fun _ => hk' hP4)
  ·intro next3 hP3 hin3
   rw [scan_n] at hP3
   exact cnd_d (fun h => absurd h (by dsimp only; omega)) (fun _ => ⟨by rw [inK64]; (try dsimp only); omega, hn (by rw [hP, scan_c h1 hP3])⟩)
 ·intro next2 hP2 hin2
  rw [scan_n] at hP2
  refine cnd_d (fun h => absurd h (by dsimp only; omega)) (fun _ => resq _ _ _ _ ?_)
  rw [hF, hP2]; rfl
theorem ct_spec_l02Fault : CtOk Try.prog 115 c_spec_l02Fault :=
 ct_by (Φ := lkp []) good_nil tab_ok (by kernel_rfl) (fn := Try.f115) (c := bodyOf Try.f115) (by kernel_rfl) (by kernel_rfl) (by kernel_rfl) c_spec_l02Fault rfl an_spec_l02Fault (cutL [(17, 44), (5, 38), (13, 11)]) (by kernel_rfl) (by kernel_rfl) k_spec_l02Fault (by decide) (fun x K => W_spec_l02Fault x.1 K) w_spec_l02Fault (fun x h1 h2 => m_spec_l02Fault x.1 h1 h2)
def c_spec_l02Is : Ct := ⟨[CategoryT], [true], fun x => [], [(false, (.fz .bool))], fun x => (catR x.1, ()), false, none⟩
def ph_spec_l02Is : FuncId -> Option Ct := lkp [(114, c_spec_IsShape), (115, c_spec_l02Fault)]
def W_spec_l02Is (c : CategoryD) (K : Bool × Unit -> Prop) : Prop := (cnd (!(shapeR c)) (K (false, ())) ((ShapeP c) /\ (K (((faultR c).1 == 0), ()))))
theorem w_spec_l02Is (x : denL c_spec_l02Is.args) (K : Bool × Unit -> Prop) : evF tab ph_spec_l02Is (cutL []) Try.f56 (bodyOf Try.f56) .n c_spec_l02Is x K = W_spec_l02Is x.1 K := by kernel_rfl
theorem k_spec_l02Is : okC Try.f56.ntmps (cutL []) (bodyOf Try.f56) = true := by kernel_rfl
theorem m_spec_l02Is (c : CategoryD) (hok : allP (okL c_spec_l02Is.args (c, ()))) (hpre : allP (c_spec_l02Is.pre (c, ()))) : W_spec_l02Is c (fun r => r = c_spec_l02Is.res (c, ())) := by
 simp only [c_spec_l02Is, okL, T.oks, T.ok, ap, allP, true_and, and_true, implies_true] at hok hpre
 try dsimp only [T.den] at hok
 try dsimp only [T.den] at hpre
 unfold W_spec_l02Is
 simp only [c_spec_l02Is, catR]
 have := @shape_iff c
 grind [cnd, nb_eq, inK64]
theorem ct_spec_l02Is : CtOk Try.prog 56 c_spec_l02Is :=
 ct_by (Φ := ph_spec_l02Is) (good_cons ct_spec_IsShape (good_cons ct_spec_l02Fault good_nil)) tab_ok (by kernel_rfl) (fn := Try.f56) (c := bodyOf Try.f56) (by kernel_rfl) (by kernel_rfl) (by kernel_rfl) c_spec_l02Is rfl .n (cutL []) (by kernel_rfl) (by kernel_rfl) k_spec_l02Is (by decide) (fun x K => W_spec_l02Is x.1 K) w_spec_l02Is (fun x h1 h2 => m_spec_l02Is x.1 h1 h2)
def c_spec_l02Unit : Ct := ⟨[CategoryT, (.int .i64)], [true, false], fun x => [ShapeP x.1, 0 <= x.2.1, x.2.1 < x.1.2.1.length], [(false, (.fz .bool))], fun x => (idR x.1 x.2.1, ()), false, none⟩
def W_spec_l02Unit (c : CategoryD) (f : Int) (K : Bool × Unit -> Prop) : Prop := ((0 <= f) /\ ((f < ((c.2.1.length : Nat) : Int)) /\ ((0 <= (List.getD c.2.1 f.toNat 0)) /\ (((List.getD c.2.1 f.toNat 0) < ((c.2.2.2.1.length : Nat) : Int)) /\ (K (((List.getD c.2.2.2.1 (Int.toNat (List.getD c.2.1 f.toNat 0)) 0) == f), ()))))))
theorem w_spec_l02Unit (x : denL c_spec_l02Unit.args) (K : Bool × Unit -> Prop) : evF tab (lkp []) (cutL [(1, 12)]) Try.f60 (bodyOf Try.f60) .n c_spec_l02Unit x K = W_spec_l02Unit x.1 x.2.1 K := by kernel_rfl
theorem k_spec_l02Unit : okC Try.f60.ntmps (cutL [(1, 12)]) (bodyOf Try.f60) = true := by kernel_rfl
theorem m_spec_l02Unit (c : CategoryD) (f : Int) (hok : allP (okL c_spec_l02Unit.args (c, f, ()))) (hpre : allP (c_spec_l02Unit.pre (c, f, ()))) : W_spec_l02Unit c f (fun r => r = c_spec_l02Unit.res (c, f, ())) := by
 simp only [c_spec_l02Unit, okL, T.oks, T.ok, ap, allP, true_and, and_true, implies_true] at hok hpre
 try dsimp only [T.den] at hok
 try dsimp only [T.den] at hpre
 unfold W_spec_l02Unit
 have S : ShapeP c := hpre.1
 have a := S.frm hpre.2.1 hpre.2.2
 have := S.li
 exact ⟨hpre.2.1, hpre.2.2, a.1, by omega, rfl⟩
theorem ct_spec_l02Unit : CtOk Try.prog 60 c_spec_l02Unit :=
 ct_by (Φ := lkp []) good_nil tab_ok (by kernel_rfl) (fn := Try.f60) (c := bodyOf Try.f60) (by kernel_rfl) (by kernel_rfl) (by kernel_rfl) c_spec_l02Unit rfl .n (cutL [(1, 12)]) (by kernel_rfl) (by kernel_rfl) k_spec_l02Unit (by decide) (fun x K => W_spec_l02Unit x.1 x.2.1 K) w_spec_l02Unit (fun x h1 h2 => m_spec_l02Unit x.1 x.2.1 h1 h2)
def irrCR (c : CategoryD) : List Int × Int := if catR c = true then (irrR c, 0) else ([], 1)
theorem selR_s {p : Int -> Bool} {i : Int} (h0 : 0 <= i) : selR (i + 1).toNat p = if p i = true then selR i.toNat p ++ [i] else selR i.toNat p := by
 rw [show (i + 1).toNat = i.toNat + 1 from by omega, selR, show ((i.toNat : Nat) : Int) = i from by omega]
def c_spec_IrreducibleArrows : Ct := ⟨[CategoryT], [true], fun x => [], [(false, (.sl (.fz (.int .i64)))), (false, (.fz (.int .i64)))], fun x => ((irrCR x.1).1, (irrCR x.1).2, ()), false, none⟩
def an_spec_IrreducibleArrows : Ann := (.s .n (.s .n (.s .n (.s (.s .n (.l [(4, (.ref 15 [])), (5, (.d (.int .i64)))] [(15, (.sl (.fz .bool)))] [1] (.s .n (.s (.s .n (.l [(4, (.ref 15 [])), (6, (.d (.int .i64)))] [(15, (.sl (.fz .bool)))] [1, 5] (.s .n (.s (.s .n (.j [(4, (.ref 15 []))] [(15, (.sl (.fz .bool)))] [1, 5, 6] .n)) .n)))) .n)))) (.s .n (.s (.s .n (.l [(7, (.ref 800007 [])), (8, (.d (.int .i64)))] [(800007, (.sl (.fz (.int .i64))))] [1, 4] (.s .n (.s (.s .n (.j [(7, (.ref 800007 []))] [(800007, (.sl (.fz (.int .i64))))] [1, 4, 8] .n)) .n)))) .n))))))
def ph_spec_IrreducibleArrows : FuncId -> Option Ct := lkp [(56, c_spec_l02Is), (61, c_spec_l02Then), (60, c_spec_l02Unit)]
def W_spec_IrreducibleArrows (c : CategoryD) (K : (List Int) × Int × Unit -> Prop) : Prop := (cnd (!(catR c)) (K ([], (1, ()))) ((0 <= ((c.2.1.length : Nat) : Int)) /\ ((((c.2.1.length : Nat) : Int) <= ((c.2.1.length : Nat) : Int)) /\ ((((c.2.1.length : Nat) : Int) <= ((140737488355328 : Nat) : Int)) /\ (((((c.2.1.length : Nat) : Int) * ((1 : Nat) : Int)) <= ((140737488355328 : Nat) : Int)) /\ (loopW (S := ((Unit × (Int × Unit)) × ((List Bool) × Unit))) (fun s => (fun next => ((inK .i64 s.1.2.1) -> ((T.ok (.sl T.bool) s.2.1) -> (cnd (decide (s.1.2.1 < ((s.2.1.length : Nat) : Int))) (loopW (S := ((Unit × (Int × Unit)) × ((List Bool) × Unit))) (fun s1 => (fun next1 => ((inK .i64 s1.1.2.1) -> ((T.ok (.sl T.bool) s1.2.1) -> (cnd (decide (s1.1.2.1 < ((s1.2.1.length : Nat) : Int))) ((0 <= s.1.2.1) /\ ((s.1.2.1 < ((c.2.2.1.length : Nat) : Int)) /\ ((0 <= s1.1.2.1) /\ ((s1.1.2.1 < ((c.2.1.length : Nat) : Int)) /\ (((((List.getD c.2.2.1 s.1.2.1.toNat 0) == (List.getD c.2.1 s1.1.2.1.toNat 0)) = true) -> ((0 <= s.1.2.1) /\ ((s.1.2.1 < ((c.2.1.length : Nat) : Int)) /\ (ShapeP c)))) /\ ((((((List.getD c.2.2.1 s.1.2.1.toNat 0) == (List.getD c.2.1 s1.1.2.1.toNat 0)) && (!(idR c s.1.2.1))) = true) -> ((0 <= s1.1.2.1) /\ ((s1.1.2.1 < ((c.2.1.length : Nat) : Int)) /\ (ShapeP c)))) /\ (joinW (S := ((Unit × Unit) × ((List Bool) × Unit))) (fun s2 => ((T.ok (.sl T.bool) s2.2.1) -> ((inK .i64 (s1.1.2.1 + 1)) /\ (next1 (((), ((s1.1.2.1 + 1), ())), (s2.2.1, ())))))) (fun k => (cnd ((((List.getD c.2.2.1 s.1.2.1.toNat 0) == (List.getD c.2.1 s1.1.2.1.toNat 0)) && (!(idR c s.1.2.1))) && (!(idR c s1.1.2.1))) ((0 <= s.1.2.1) /\ ((s.1.2.1 < ((c.2.2.2.2.length : Nat) : Int)) /\ ((0 <= s1.1.2.1) /\ ((s1.1.2.1 < (((List.length (List.getD c.2.2.2.2 s.1.2.1.toNat [])) : Nat) : Int)) /\ ((0 <= (compR c s.1.2.1 s1.1.2.1)) /\ (((compR c s.1.2.1 s1.1.2.1) < ((s1.2.1.length : Nat) : Int)) /\ (k (((), ()), ((List.set s1.2.1 (Int.toNat (compR c s.1.2.1 s1.1.2.1)) true), ()))))))))) (k (((), ()), (s1.2.1, ())))))))))))) ((inK .i64 (s.1.2.1 + 1)) /\ (next (((), ((s.1.2.1 + 1), ())), (s1.2.1, ()))))))))) (((), (0, ())), (s.2.1, ()))) (loopW (S := ((Unit × (Int × Unit)) × ((List Int) × Unit))) (fun s1 => (fun next1 => ((inK .i64 s1.1.2.1) -> ((T.ok (.sl (.int .i64)) s1.2.1) -> (cnd (decide (s1.1.2.1 < ((s.2.1.length : Nat) : Int))) ((0 <= s1.1.2.1) /\ ((s1.1.2.1 < ((s.2.1.length : Nat) : Int)) /\ ((((!(List.getD s.2.1 s1.1.2.1.toNat false)) = true) -> ((0 <= s1.1.2.1) /\ ((s1.1.2.1 < ((c.2.1.length : Nat) : Int)) /\ (ShapeP c)))) /\ (joinW (S := ((Unit × Unit) × ((List Int) × Unit))) (fun s2 => ((T.ok (.sl (.int .i64)) s2.2.1) -> ((inK .i64 (s1.1.2.1 + 1)) /\ (next1 (((), ((s1.1.2.1 + 1), ())), (s2.2.1, ())))))) (fun k => (cnd ((!(List.getD s.2.1 s1.1.2.1.toNat false)) && (!(idR c s1.1.2.1))) ((room s1.2.1.length (List.length (s1.1.2.1 :: [])) 8) /\ (k (((), ()), ((s1.2.1 ++ (s1.1.2.1 :: [])), ())))) (k (((), ()), (s1.2.1, ()))))))))) (K (s1.2.1, (0, ())))))))) (((), (0, ())), ([], ())))))))) (((), (0, ())), ((List.replicate (Int.toNat ((c.2.1.length : Nat) : Int)) false), ()))))))))
theorem w_spec_IrreducibleArrows (x : denL c_spec_IrreducibleArrows.args) (K : (List Int) × Int × Unit -> Prop) : evF tab ph_spec_IrreducibleArrows (cutL [(10, 20)]) Try.f57 (bodyOf Try.f57) an_spec_IrreducibleArrows c_spec_IrreducibleArrows x K = W_spec_IrreducibleArrows x.1 K := by kernel_rfl
theorem k_spec_IrreducibleArrows : okC Try.f57.ntmps (cutL [(10, 20)]) (bodyOf Try.f57) = true := by kernel_rfl
theorem m_spec_IrreducibleArrows (c : CategoryD) (hok : allP (okL c_spec_IrreducibleArrows.args (c, ()))) (hpre : allP (c_spec_IrreducibleArrows.pre (c, ()))) : W_spec_IrreducibleArrows c (fun r => r = c_spec_IrreducibleArrows.res (c, ())) := by
 simp only [c_spec_IrreducibleArrows, okL, T.oks, T.ok, ap, allP, true_and, and_true, implies_true] at hok hpre
 try dsimp only [T.den] at hok
 try dsimp only [T.den] at hpre
 unfold W_spec_IrreducibleArrows
 refine cnd_of (fun hx => ?_) (fun hx => ?_)
 ·have h : catR c = false := by rw [Bool.not_eq_true'] at hx; exact hx
  simp only [c_spec_IrreducibleArrows, irrCR]; rw [if_neg (by rw [h]; simp)]
 have h : catR c = true := by rw [Bool.not_eq_false'] at hx; exact hx
 have S := cat_shp h
 have hres : irrCR c = (irrR c, 0) := by unfold irrCR; rw [if_pos h]
 clear hok hpre hx h
 have hm := S.m
 have hlc := S.lc
 have hlt := S.lt
 refine ⟨by omega, by omega, by omega, by omega, ?_⟩
 simp only [Int.toNat_natCast, tab_rep]
 have hirr : irrR c = selR c.2.1.length (fun h => !idR c h && !(anyB c.2.1.length fun f => anyB c.2.1.length fun g => spQ c f g h)) := rfl
 have hrow : ∀ i : Int, 0 <= i -> i < c.2.1.length -> (c.2.2.2.2.getD i.toNat []).length = c.2.1.length := S.row
 have hyes : ∀ i j : Int, 0 <= i -> i < c.2.1.length -> 0 <= j -> j < c.2.1.length -> c.2.2.1.getD i.toNat 0 = c.2.1.getD j.toNat 0 -> 0 <= compR c i j /\ compR c i j < c.2.1.length := fun i j i0 i1 j0 j1 h => ⟨(S.yes i0 i1 j0 j1 h).1, (S.yes i0 i1 j0 j1 h).2.1⟩
 have hno : ∀ i j : Int, 0 <= i -> i < c.2.1.length -> 0 <= j -> j < c.2.1.length -> 0 <= compR c i j -> c.2.2.1.getD i.toNat 0 = c.2.1.getD j.toNat 0 := fun i j i0 i1 j0 j1 h => (S.comp i0 i1 j0 j1).1 h
 generalize hn : c.2.1.length = m at *
 refine loop_ixa (fun i => tabN m fun h => anyB i.toNat fun f => anyB m fun g => spQ c f g h) (n := m) (by omega) (tabN_congr fun h h0 _ => by simp [anyB]) ?_ ?_
 ·intro i next i0 i1 hn1 _ _
  try dsimp only at hn1 ⊢
  refine cnd_d (fun _ => ?_) (fun h => absurd (by rw [tabN_len]; exact i1) h)
  have hr := hrow i i0 i1
  refine loop_ixa (fun j => tabN m fun h => (anyB i.toNat fun f => anyB m fun g => spQ c f g h) || anyB j.toNat fun g => spQ c i g h) (n := m) (by omega) (tabN_congr fun h _ _ => by simp [anyB]) ?_ ?_
  ·intro j next2 j0 j1 hn3 _ _
   try dsimp only at hn3 ⊢
   refine cnd_d (fun _ => ⟨i0, by omega, j0, by omega, fun _ => ⟨i0, i1, S⟩, fun _ => ⟨j0, j1, S⟩, ?_⟩) (fun h => absurd (by rw [tabN_len]; exact j1) h)
   refine join_of (fun q => q.2.1 = tabN m fun h => (anyB i.toNat fun f => anyB m fun g => spQ c f g h) || anyB (j + 1).toNat fun g => spQ c i g h) (fun q hq _ => ⟨by rw [inK64]; (try dsimp only); omega, by rw [hq]; exact hn3⟩) (fun k hk => cnd_of (fun hc => ?_) (fun hc => hk _ ?_))
   ·simp only [Bool.and_eq_true, beq_iff_eq, Bool.not_eq_true'] at hc
    obtain ⟨⟨hc0, hi⟩, hj⟩ := hc
    obtain ⟨hp, hcm⟩ := hyes i j i0 i1 j0 j1 hc0
    refine ⟨i0, by omega, j0, by omega, hp, by rw [tabN_len]; exact hcm, hk _ ?_⟩
    try dsimp only
    rw [tab_set (k := compR c i j) hp hcm]
    refine tabN_congr fun y y0 y1 => ?_
    rw [anyB_s j0]
    by_cases hy : y = compR c i j
    ·rw [if_pos hy]; simp [spQ, hy, hi, hj]
    ·rw [if_neg hy, spQ_ne hy, Bool.or_false]
   ·try dsimp only
    refine tabN_congr fun y y0 y1 => ?_
    rw [anyB_s j0, spQ_no (fun h => ?_) y0, Bool.or_false]
    rw [h.2.1, h.2.2, beq_iff_eq.2 (hno i j i0 i1 j0 j1 h.1)] at hc
    cases hc
  ·intro next2 _ _
   try dsimp only
   refine cnd_d (fun h => absurd h (by rw [tabN_len]; omega)) (fun _ => ⟨by rw [inK64]; (try dsimp only); omega, ?_⟩)
   have e : (tabN m fun h => (anyB i.toNat fun f => anyB m fun g => spQ c f g h) || anyB ((m : Int)).toNat fun g => spQ c i g h) = tabN m (fun h => anyB (i + 1).toNat fun f => anyB m fun g => spQ c f g h) := tabN_congr fun y _ _ => by rw [anyB_s i0]; rfl
   rw [e]; exact hn1
 ·intro next _ _
  try dsimp only
  refine cnd_d (fun h => absurd h (by rw [tabN_len]; omega)) (fun _ => ?_)
  refine loop_ixa (fun i => selR i.toNat fun h => !idR c h && !(anyB m fun f => anyB m fun g => spQ c f g h)) (n := m) (by omega) rfl ?_ ?_
  ·intro i next1 i0 i1 hn2 _ _
   try dsimp only at hn2 ⊢
   have hg : (tabN m fun h => anyB ((m : Int)).toNat fun f => anyB m fun g => spQ c f g h).getD i.toNat false = anyB m fun f => anyB m fun g => spQ c f g i := tabN_get i0 i1
   rw [hg]
   have hl := @sel_len (fun h => !idR c h && !(anyB m fun f => anyB m fun g => spQ c f g h)) i.toNat
   rw [selR_s i0] at hn2
   refine cnd_d (fun _ => ⟨i0, by rw [tabN_len]; exact i1, fun _ => ⟨i0, i1, S⟩, ?_⟩) (fun h => absurd (by rw [tabN_len]; exact i1) h)
   refine join_of (fun q => q.2.1 = _) (fun q hq _ => ⟨by rw [inK64]; (try dsimp only); omega, by rw [hq]; exact hn2⟩) (fun k hk => cnd_of (fun hc => ⟨room_of (by simp only [List.length_cons, List.length_nil]; omega), hk _ ?_⟩) (fun hc => hk _ ?_))
   ·rw [if_pos (by rw [Bool.and_comm]; exact hc)]
   ·rw [if_neg (by rw [Bool.and_comm, hc]; simp)]
  ·intro next1 _ _
   try dsimp only
   refine cnd_d (fun h => absurd h (by rw [tabN_len]; omega)) (fun _ => ?_)
   simp only [c_spec_IrreducibleArrows, hres, hirr]
   rfl
theorem ct_spec_IrreducibleArrows : CtOk Try.prog 57 c_spec_IrreducibleArrows :=
 ct_by (Φ := ph_spec_IrreducibleArrows) (good_cons ct_spec_l02Is (good_cons ct_spec_l02Then (good_cons ct_spec_l02Unit good_nil))) tab_ok (by kernel_rfl) (fn := Try.f57) (c := bodyOf Try.f57) (by kernel_rfl) (by kernel_rfl) (by kernel_rfl) c_spec_IrreducibleArrows rfl an_spec_IrreducibleArrows (cutL [(10, 20)]) (by kernel_rfl) (by kernel_rfl) k_spec_IrreducibleArrows (by decide) (fun x K => W_spec_IrreducibleArrows x.1 K) w_spec_IrreducibleArrows (fun x h1 h2 => m_spec_IrreducibleArrows x.1 h1 h2)
def lastR (s : SchemaD) (p : PathD) : Int := if p.2.length = 0 then p.1 else s.2.2.1.getD (p.2.getD (p.2.length - 1) 0).toNat 0
def c_spec_l36End : Ct := ⟨[SchemaT, PathT], [true, true], fun x => [withinR x.2.1.2 x.1.2.2.1.length = true], [(false, (.fz (.int .i64)))], fun x => (lastR x.1 x.2.1, ()), false, none⟩
def W_spec_l36End (s : SchemaD) (p : PathD) (K : Int × Unit -> Prop) : Prop := (cnd (((p.2.length : Nat) : Int) == 0) (K (p.1, ())) ((inK .i64 (((p.2.length : Nat) : Int) - 1)) /\ ((0 <= (((p.2.length : Nat) : Int) - 1)) /\ (((((p.2.length : Nat) : Int) - 1) < ((p.2.length : Nat) : Int)) /\ ((0 <= (List.getD p.2 (Int.toNat (((p.2.length : Nat) : Int) - 1)) 0)) /\ (((List.getD p.2 (Int.toNat (((p.2.length : Nat) : Int) - 1)) 0) < ((s.2.2.1.length : Nat) : Int)) /\ (K ((List.getD s.2.2.1 (Int.toNat (List.getD p.2 (Int.toNat (((p.2.length : Nat) : Int) - 1)) 0)) 0), ()))))))))
theorem w_spec_l36End (x : denL c_spec_l36End.args) (K : Int × Unit -> Prop) : evF tab (lkp []) (cutL [(3, 13)]) Try.f117 (bodyOf Try.f117) .n c_spec_l36End x K = W_spec_l36End x.1 x.2.1 K := by kernel_rfl
theorem k_spec_l36End : okC Try.f117.ntmps (cutL [(3, 13)]) (bodyOf Try.f117) = true := by kernel_rfl
theorem m_spec_l36End (s : SchemaD) (p : PathD) (hok : allP (okL c_spec_l36End.args (s, p, ()))) (hpre : allP (c_spec_l36End.pre (s, p, ()))) : W_spec_l36End s p (fun r => r = c_spec_l36End.res (s, p, ())) := by
 simp only [c_spec_l36End, okL, T.oks, T.ok, ap, allP, true_and, and_true, implies_true] at hok hpre
 try dsimp only [T.den] at hok
 try dsimp only [T.den] at hpre
 unfold W_spec_l36End
 simp only [c_spec_l36End, lastR]
 refine cnd_of (fun hc => ?_) (fun hc => ?_)
 ·grind [cnd, nb_eq, inK64]
 ·simp at hc
  have hl : 0 < p.2.length := by grind [cnd, nb_eq, inK64]
  have hi : ((p.2.length : Int) - 1).toNat = p.2.length - 1 := by omega
  have hm : p.2.getD (p.2.length - 1) 0 ∈ p.2 := by rw [← hi]; exact getD_mem p.2 0 (by omega) (by omega)
  have := List.all_eq_true.1 hpre _ hm
  rw [hi]
  grind [cnd, nb_eq, inK64, inR]
theorem ct_spec_l36End : CtOk Try.prog 117 c_spec_l36End :=
 ct_by (Φ := lkp []) good_nil tab_ok (by kernel_rfl) (fn := Try.f117) (c := bodyOf Try.f117) (by kernel_rfl) (by kernel_rfl) (by kernel_rfl) c_spec_l36End rfl .n (cutL [(3, 13)]) (by kernel_rfl) (by kernel_rfl) k_spec_l36End (by decide) (fun x K => W_spec_l36End x.1 x.2.1 K) w_spec_l36End (fun x h1 h2 => m_spec_l36End x.1 x.2.1 h1 h2)
def c_spec_l36Path : Ct := ⟨[SchemaT, PathT], [true, true], fun x => [x.1.2.1.length <= x.1.2.2.1.length, inK .i64 (x.1.1 - 1)], [(false, (.fz .bool))], fun x => ((endR x.1 x.2.1).2, ()), false, none⟩
def an_spec_l36Path : Ann := (.s .n (.s .n (.s .n (.s (.s .n (.l [(5, (.d (.int .i64))), (6, (.d (.int .i64)))] [] [2, 3] .n)) .n))))
def ph_spec_l36Path : FuncId -> Option Ct := lkp [(91, c_spec_l01In), (42, c_spec_l01Map)]
def W_spec_l36Path (s : SchemaD) (p : PathD) (K : Bool × Unit -> Prop) : Prop := ((inK .i64 (s.1 - 1)) /\ (cnd (((!(inR p.1 0 (s.1 - 1))) || (decide (6 < ((p.2.length : Nat) : Int)))) || (!(withinR p.2 ((s.2.1.length : Nat) : Int)))) (K (false, ())) (loopW (S := ((Int × (Int × Unit)) × Unit)) (fun s1 => (fun next => ((inK .i64 s1.1.1) -> ((inK .i64 s1.1.2.1) -> (cnd (decide (s1.1.2.1 < ((p.2.length : Nat) : Int))) ((0 <= s1.1.2.1) /\ ((s1.1.2.1 < ((p.2.length : Nat) : Int)) /\ ((0 <= (List.getD p.2 s1.1.2.1.toNat 0)) /\ (((List.getD p.2 s1.1.2.1.toNat 0) < ((s.2.1.length : Nat) : Int)) /\ (cnd ((List.getD s.2.1 (Int.toNat (List.getD p.2 s1.1.2.1.toNat 0)) 0) != s1.1.1) (K (false, ())) ((0 <= s1.1.2.1) /\ ((s1.1.2.1 < ((p.2.length : Nat) : Int)) /\ ((0 <= (List.getD p.2 s1.1.2.1.toNat 0)) /\ (((List.getD p.2 s1.1.2.1.toNat 0) < ((s.2.2.1.length : Nat) : Int)) /\ ((inK .i64 (s1.1.2.1 + 1)) /\ (next (((List.getD s.2.2.1 (Int.toNat (List.getD p.2 s1.1.2.1.toNat 0)) 0), ((s1.1.2.1 + 1), ())), ())))))))))))) (K (true, ()))))))) ((p.1, (0, ())), ()))))
theorem w_spec_l36Path (x : denL c_spec_l36Path.args) (K : Bool × Unit -> Prop) : evF tab ph_spec_l36Path (cutL [(7, 11), (9, 10)]) Try.f116 (bodyOf Try.f116) an_spec_l36Path c_spec_l36Path x K = W_spec_l36Path x.1 x.2.1 K := by kernel_rfl
theorem k_spec_l36Path : okC Try.f116.ntmps (cutL [(7, 11), (9, 10)]) (bodyOf Try.f116) = true := by kernel_rfl
theorem m_spec_l36Path (s : SchemaD) (p : PathD) (hok : allP (okL c_spec_l36Path.args (s, p, ()))) (hpre : allP (c_spec_l36Path.pre (s, p, ()))) : W_spec_l36Path s p (fun r => r = c_spec_l36Path.res (s, p, ())) := by
 simp only [c_spec_l36Path, okL, T.oks, T.ok, ap, allP, true_and, and_true, implies_true] at hok hpre
 try dsimp only [T.den] at hok
 try dsimp only [T.den] at hpre
 unfold W_spec_l36Path
 simp only [c_spec_l36Path, endR]
 have key : ∀ (nd : Int) (l : List Int), (followR s nd l).2 = true -> withinR l s.2.1.length = true := by
  intro nd l
  induction l generalizing nd with
  | nil => intro _; rfl
  | cons e l ih =>
   simp only [followR]
   split
   ·rename_i h; intro hf; simp only [withinR, List.all_cons]; have := ih _ hf; simp only [withinR] at this; rw [this, h.1]; rfl
   ·intro h; cases h
 refine ⟨hpre.2, cnd_of (fun hc => ?_) (fun hc => ?_)⟩
 ·have := key p.1 p.2
  grind [cnd, nb_eq, inK64]
 ·simp only [inR, Bool.or_eq_false_iff, Bool.not_eq_false', Bool.and_eq_true, decide_eq_true_eq, decide_eq_false_iff_not] at hc
  rw [if_pos ⟨by simp [inR, hc.1.1], by omega⟩]
  refine loop_of (fun (s1 : ((Int × (Int × Unit)) × Unit)) => 0 <= s1.1.2.1 /\ s1.1.2.1 <= p.2.length /\ followR s p.1 p.2 = followR s s1.1.1 (p.2.drop s1.1.2.1.toNat)) (fun (s1 : ((Int × (Int × Unit)) × Unit)) => (p.2.length - s1.1.2.1).toNat) ?_ (by simp)
  rintro ⟨⟨nd, i, _⟩, _⟩ next ⟨h0, h1, h2⟩ hn ha hin
  simp only at h0 h1 h2 hn ⊢
  refine cnd_d (fun hx => ?_) (fun hx => ?_)
  ·have hm := List.all_eq_true.1 hc.2 _ (getD_mem p.2 0 h0 hx)
   rw [drop_c p.2 0 h0 hx] at h2
   simp only [followR, hm, true_and] at h2
   generalize p.2.getD i.toNat 0 = e at *
   simp only [inR, Bool.and_eq_true, decide_eq_true_eq] at hm
   grind [cnd, nb_eq, inK64]
  ·rw [drop_n p.2 (by omega)] at h2
   simp [followR, h2]
theorem ct_spec_l36Path : CtOk Try.prog 116 c_spec_l36Path :=
 ct_by (Φ := ph_spec_l36Path) (good_cons ct_spec_l01In (good_cons ct_spec_l01Map good_nil)) tab_ok (by kernel_rfl) (fn := Try.f116) (c := bodyOf Try.f116) (by kernel_rfl) (by kernel_rfl) (by kernel_rfl) c_spec_l36Path rfl an_spec_l36Path (cutL [(7, 11), (9, 10)]) (by kernel_rfl) (by kernel_rfl) k_spec_l36Path (by decide) (fun x K => W_spec_l36Path x.1 x.2.1 K) w_spec_l36Path (fun x h1 h2 => m_spec_l36Path x.1 x.2.1 h1 h2)
theorem follow_last (s : SchemaD) : ∀ (nd : Int) (l : List Int), (followR s nd l).2 = true -> (followR s nd l).1 = if l.length = 0 then nd else s.2.2.1.getD (l.getD (l.length - 1) 0).toNat 0
 | nd, [], _ => rfl
 | nd, e :: r, h => by
  simp only [followR] at h ⊢
  split at h
  ·rename_i hc
   rw [if_pos hc]
   rw [follow_last s _ r h]
   cases r with
   | nil => simp
   | cons e' r' => simp
  ·cases h
theorem follow_within (s : SchemaD) : ∀ (nd : Int) (l : List Int), (followR s nd l).2 = true -> withinR l s.2.1.length = true
 | nd, [], _ => rfl
 | nd, e :: r, h => by
  simp only [followR] at h
  split at h
  ·rename_i hc
   have := follow_within s _ r h
   simp only [withinR, List.all_cons] at this ⊢
   rw [this, hc.1]; rfl
  ·cases h
theorem end_last {s : SchemaD} {p : PathD} (h : (endR s p).2 = true) : lastR s p = (endR s p).1 /\ withinR p.2 s.2.1.length = true := by
 unfold endR at h ⊢
 split at h
 ·rename_i hc
  rw [if_pos hc]
  exact ⟨(follow_last s _ _ h).symm, follow_within s _ _ h⟩
 ·cases h
def c_spec_IsSchema : Ct := ⟨[SchemaT], [true], fun x => [], [(false, (.fz .bool))], fun x => (isSchemaR x.1, ()), false, none⟩
def an_spec_IsSchema : Ann := (.s .n (.s .n (.s (.s .n (.l [(3, (.d (.int .i64)))] [] [1] .n)) .n)))
def ph_spec_IsSchema : FuncId -> Option Ct := lkp [(91, c_spec_l01In), (42, c_spec_l01Map), (117, c_spec_l36End), (116, c_spec_l36Path)]
def W_spec_IsSchema (s : SchemaD) (K : Bool × Unit -> Prop) : Prop := (cnd (((((((!(inR s.1 0 8)) || (decide (8 < ((s.2.1.length : Nat) : Int)))) || (((s.2.2.1.length : Nat) : Int) != ((s.2.1.length : Nat) : Int))) || (!(withinR s.2.1 s.1))) || (!(withinR s.2.2.1 s.1))) || (decide (8 < ((s.2.2.2.1.length : Nat) : Int)))) || (((s.2.2.2.2.length : Nat) : Int) != ((s.2.2.2.1.length : Nat) : Int))) (K (false, ())) (loopW (S := ((Int × Unit) × Unit)) (fun s1 => (fun next => ((inK .i64 s1.1.1) -> (cnd (decide (s1.1.1 < ((s.2.2.2.1.length : Nat) : Int))) ((0 <= s1.1.1) /\ ((s1.1.1 < ((s.2.2.2.1.length : Nat) : Int)) /\ ((0 <= s1.1.1) /\ ((s1.1.1 < ((s.2.2.2.2.length : Nat) : Int)) /\ ((s.2.1.length <= s.2.2.1.length) /\ ((inK .i64 (s.1 - 1)) /\ ((((!(endR s (List.getD s.2.2.2.1 s1.1.1.toNat (0, []))).2) = false) -> ((inK .i64 (s.1 - 1)) /\ (s.2.1.length <= s.2.2.1.length))) /\ ((((((!(endR s (List.getD s.2.2.2.1 s1.1.1.toNat (0, []))).2) || (!(endR s (List.getD s.2.2.2.2 s1.1.1.toNat (0, []))).2)) || ((List.getD s.2.2.2.1 s1.1.1.toNat (0, [])).1 != (List.getD s.2.2.2.2 s1.1.1.toNat (0, [])).1)) = false) -> ((withinR (List.getD s.2.2.2.1 s1.1.1.toNat (0, [])).2 ((s.2.2.1.length : Nat) : Int)) = true)) /\ ((((((!(endR s (List.getD s.2.2.2.1 s1.1.1.toNat (0, []))).2) || (!(endR s (List.getD s.2.2.2.2 s1.1.1.toNat (0, []))).2)) || ((List.getD s.2.2.2.1 s1.1.1.toNat (0, [])).1 != (List.getD s.2.2.2.2 s1.1.1.toNat (0, [])).1)) = false) -> ((withinR (List.getD s.2.2.2.2 s1.1.1.toNat (0, [])).2 ((s.2.2.1.length : Nat) : Int)) = true)) /\ (cnd ((((!(endR s (List.getD s.2.2.2.1 s1.1.1.toNat (0, []))).2) || (!(endR s (List.getD s.2.2.2.2 s1.1.1.toNat (0, []))).2)) || ((List.getD s.2.2.2.1 s1.1.1.toNat (0, [])).1 != (List.getD s.2.2.2.2 s1.1.1.toNat (0, [])).1)) || ((lastR s (List.getD s.2.2.2.1 s1.1.1.toNat (0, []))) != (lastR s (List.getD s.2.2.2.2 s1.1.1.toNat (0, []))))) (K (false, ())) ((inK .i64 (s1.1.1 + 1)) /\ (next (((s1.1.1 + 1), ()), ()))))))))))))) (K (true, ())))))) ((0, ()), ())))
theorem w_spec_IsSchema (x : denL c_spec_IsSchema.args) (K : Bool × Unit -> Prop) : evF tab ph_spec_IsSchema (cutL [(6, 999999), (7, 26)]) Try.f63 (bodyOf Try.f63) an_spec_IsSchema c_spec_IsSchema x K = W_spec_IsSchema x.1 K := by kernel_rfl
theorem k_spec_IsSchema : okC Try.f63.ntmps (cutL [(6, 999999), (7, 26)]) (bodyOf Try.f63) = true := by kernel_rfl
theorem m_spec_IsSchema (s : SchemaD) (hok : allP (okL c_spec_IsSchema.args (s, ()))) (hpre : allP (c_spec_IsSchema.pre (s, ()))) : W_spec_IsSchema s (fun r => r = c_spec_IsSchema.res (s, ())) := by
 simp only [c_spec_IsSchema, okL, T.oks, T.ok, ap, allP, true_and, and_true, implies_true] at hok hpre
 try dsimp only [T.den] at hok
 try dsimp only [T.den] at hpre
 unfold W_spec_IsSchema
 refine cnd_of (fun hc => ?_) (fun hc => ?_)
 ·grind [cnd, nb_eq, inK64, c_spec_IsSchema, isSchemaR]
 have he : isSchemaR s = eqnsR s s.2.2.2.1 s.2.2.2.2 := by grind [cnd, nb_eq, inK64, isSchemaR]
 simp only [c_spec_IsSchema, he]
 simp only [inR, Bool.or_eq_false_iff, Bool.not_eq_false', Bool.and_eq_true, decide_eq_true_eq, decide_eq_false_iff_not, bne_eq_false_iff_eq] at hc
 refine loop_of (fun (s1 : ((Int × Unit) × Unit)) => 0 <= s1.1.1 /\ s1.1.1 <= s.2.2.2.1.length /\ eqnsR s s.2.2.2.1 s.2.2.2.2 = eqnsR s (s.2.2.2.1.drop s1.1.1.toNat) (s.2.2.2.2.drop s1.1.1.toNat)) (fun (s1 : ((Int × Unit) × Unit)) => (s.2.2.2.1.length - s1.1.1).toNat) ?_ (by simp)
 rintro ⟨⟨i, _⟩, _⟩ next ⟨h0, h1, h2⟩ hn hin
 simp only at h0 h1 h2 hn ⊢
 refine cnd_d (fun hx => ?_) (fun hx => ?_)
 ·rw [drop_c s.2.2.2.1 (0, []) h0 hx, drop_c s.2.2.2.2 (0, []) h0 (by omega)] at h2
  simp only [eqnsR, eqnR] at h2
  generalize s.2.2.2.1.getD i.toNat (0, []) = p at *
  generalize s.2.2.2.2.getD i.toNat (0, []) = q at *
  have ep := @end_last s p
  have eq := @end_last s q
  have hl : s.2.2.1.length = s.2.1.length := by omega
  rw [hl]
  refine ⟨by omega, by omega, by omega, by omega, by omega, by rw [inK64]; (try dsimp only); omega, fun _ => ⟨by rw [inK64]; (try dsimp only); omega, by omega⟩, fun hy => ?_, fun hy => ?_, cnd_of (fun hy => ?_) (fun hy => ?_)⟩
  ·grind [cnd, nb_eq, inK64]
  ·grind [cnd, nb_eq, inK64]
  ·grind [cnd, nb_eq, inK64]
  ·grind [cnd, nb_eq, inK64]
 ·rw [drop_n s.2.2.2.1 (by omega)] at h2
  simp [eqnsR, h2]
theorem ct_spec_IsSchema : CtOk Try.prog 63 c_spec_IsSchema :=
 ct_by (Φ := ph_spec_IsSchema) (good_cons ct_spec_l01In (good_cons ct_spec_l01Map (good_cons ct_spec_l36End (good_cons ct_spec_l36Path good_nil)))) tab_ok (by kernel_rfl) (fn := Try.f63) (c := bodyOf Try.f63) (by kernel_rfl) (by kernel_rfl) (by kernel_rfl) c_spec_IsSchema rfl an_spec_IsSchema (cutL [(6, 999999), (7, 26)]) (by kernel_rfl) (by kernel_rfl) k_spec_IsSchema (by decide) (fun x K => W_spec_IsSchema x.1 K) w_spec_IsSchema (fun x h1 h2 => m_spec_IsSchema x.1 h1 h2)
def c_spec_l01Own : Ct := ⟨[(.sl (.int .i64))], [false], fun x => [x.1.length <= 1099511627776], [(false, (.sl (.fz (.int .i64))))], fun x => (x.1, ()), false, none⟩
def W_spec_l01Own (list : List Int) (K : (List Int) × Unit -> Prop) : Prop := ((room 0 list.length 8) /\ (K (list, ())))
theorem w_spec_l01Own (x : denL c_spec_l01Own.args) (K : (List Int) × Unit -> Prop) : evF tab (lkp []) (cutL []) Try.f59 (bodyOf Try.f59) .n c_spec_l01Own x K = W_spec_l01Own x.1 K := by kernel_rfl
theorem k_spec_l01Own : okC Try.f59.ntmps (cutL []) (bodyOf Try.f59) = true := by kernel_rfl
theorem m_spec_l01Own (list : List Int) (hok : allP (okL c_spec_l01Own.args (list, ()))) (hpre : allP (c_spec_l01Own.pre (list, ()))) : W_spec_l01Own list (fun r => r = c_spec_l01Own.res (list, ())) := by
 simp only [c_spec_l01Own, okL, T.oks, T.ok, ap, allP, true_and, and_true, implies_true] at hok hpre
 try dsimp only [T.den] at hok
 try dsimp only [T.den] at hpre
 unfold W_spec_l01Own
 have hl : list.length <= 1099511627776 := hpre
 exact ⟨room_of (by omega), rfl⟩
theorem ct_spec_l01Own : CtOk Try.prog 59 c_spec_l01Own :=
 ct_by (Φ := lkp []) good_nil tab_ok (by kernel_rfl) (fn := Try.f59) (c := bodyOf Try.f59) (by kernel_rfl) (by kernel_rfl) (by kernel_rfl) c_spec_l01Own rfl .n (cutL []) (by kernel_rfl) (by kernel_rfl) k_spec_l01Own (by decide) (fun x K => W_spec_l01Own x.1 K) w_spec_l01Own (fun x h1 h2 => m_spec_l01Own x.1 h1 h2)
def wyR (c : CategoryD) (o : OutD) : List PathD := tabN c.2.1.length fun h => match o.getD h.toNat none with | some l => (c.2.1.getD h.toNat 0, l) | none => (0, [])
def knR (c : CategoryD) (o : OutD) : List Bool := tabN c.2.1.length fun h => (o.getD h.toNat none).isSome
def wayR (c : CategoryD) (gens : List Int) : List PathD := wyR c (lpF c gens)
theorem wy_len {c : CategoryD} {o : OutD} : (wyR c o).length = c.2.1.length := tabN_len _
theorem kn_len {c : CategoryD} {o : OutD} : (knR c o).length = c.2.1.length := tabN_len _
theorem wy_get {c : CategoryD} {o : OutD} {h : Int} {l : List Int} (h0 : 0 <= h) (h1 : h < c.2.1.length) (e : o.getD h.toNat none = some l) : (wyR c o).getD h.toNat (0, []) = (c.2.1.getD h.toNat 0, l) := by
 rw [wyR, tabN_get h0 h1, e]
theorem kn_get {c : CategoryD} {o : OutD} {h : Int} (h0 : 0 <= h) (h1 : h < c.2.1.length) : (knR c o).getD h.toNat false = (o.getD h.toNat none).isSome := by
 rw [knR, tabN_get h0 h1]
theorem wy_set {c : CategoryD} {o : OutD} {h : Int} {l : List Int} (ho : o.length = c.2.1.length) (h0 : 0 <= h) (h1 : h < c.2.1.length) : (wyR c o).set h.toNat (c.2.1.getD h.toNat 0, l) = wyR c (o.set h.toNat (some l)) := by
 unfold wyR
 rw [tab_set h0 h1]
 refine tabN_congr fun y y0 y1 => ?_
 rw [set_getD _ _ _ _ _ (by omega)]
 by_cases e : y = h
 ·rw [if_pos e, if_pos (by rw [e]), e]
 ·rw [if_neg e, if_neg (by omega)]
theorem kn_set {c : CategoryD} {o : OutD} {h : Int} {l : List Int} (ho : o.length = c.2.1.length) (h0 : 0 <= h) (h1 : h < c.2.1.length) : (knR c o).set h.toNat true = knR c (o.set h.toNat (some l)) := by
 unfold knR
 rw [tab_set h0 h1]
 refine tabN_congr fun y y0 y1 => ?_
 rw [set_getD _ _ _ _ _ (by omega)]
 by_cases e : y = h
 ·rw [if_pos e, if_pos (by rw [e])]; rfl
 ·rw [if_neg e, if_neg (by omega)]
theorem rep_none (n h : Nat) : (List.replicate n (none : Option (List Int))).getD h none = none := by
 rw [List.getD_eq_getElem?_getD, List.getElem?_replicate]; split <;> rfl
theorem nonC_rep : ∀ n : Nat, nonC (List.replicate n none) = n
 | 0 => rfl
 | n + 1 => by rw [List.replicate_succ, nonC, nonC_rep n]
theorem nonC_0 : ∀ o : OutD, (nonC o = 0) ↔ o.all Option.isSome = true
 | [] => by simp [nonC]
 | none :: r => by simp [nonC]
 | some _ :: r => by simp only [nonC, List.all_cons, Option.isSome_some, Bool.true_and]; exact nonC_0 r
theorem lpI_none {c : CategoryD} (S : ShapeP c) : ∀ k : Nat, k <= c.2.2.2.1.length -> ∀ h : Nat, (∀ x : Nat, x < k -> (c.2.2.2.1.getD x 0).toNat ≠ h) -> (lpI c k).getD h none = none
 | 0, _, h, _ => rep_none _ _
 | k + 1, hk, h, hn => by
  have hi := within_iff.1 S.ids (k : Int) (by omega) (by omega)
  rw [Int.toNat_natCast] at hi
  rw [lpI, set_getD _ _ _ _ _ (by rw [(lpI_v S k (by omega)).1]; omega), if_neg (hn k (by omega))]
  exact lpI_none S k (by omega) h fun x hx => hn x (by omega)
theorem lpI_n {c : CategoryD} (S : ShapeP c) : ∀ k : Nat, k <= c.2.2.2.1.length -> k + nonC (lpI c k) = c.2.1.length
 | 0, _ => by rw [lpI, nonC_rep]; omega
 | k + 1, hk => by
  have hi := within_iff.1 S.ids (k : Int) (by omega) (by omega)
  rw [Int.toNat_natCast] at hi
  have hli := S.li
  have h1 := lpI_n S k (by omega)
  have h2 := nonC_set (lpI c k) (c.2.2.2.1.getD k 0).toNat [] (by rw [(lpI_v S k (by omega)).1]; omega) (lpI_none S k (by omega) _ fun x hx e => by
   have hx1 := within_iff.1 S.ids (x : Int) (by omega) (by omega)
   rw [Int.toNat_natCast] at hx1
   have a := (S.idt x (by omega) (by omega)).1
   have b := (S.idt k (by omega) (by omega)).1
   rw [Int.toNat_natCast] at a b
   rw [e, b] at a
   omega)
  rw [lpI]
  omega
theorem lpE_n {c : CategoryD} (S : ShapeP c) {gens : List Int} (hg : withinR gens c.2.1.length = true) {f : Int} (f0 : 0 <= f) (f1 : f < c.2.1.length) {B : Nat} {s : OutD × List Int} (V : LpV c.2.1.length B s) (fk : (s.1.getD f.toNat none).isSome = true) :
  ∀ k : Nat, k <= gens.length -> (lpE c gens f k s).2.length + nonC (lpE c gens f k s).1 = s.2.length + nonC s.1
 | 0, _ => rfl
 | k + 1, hk => by
  obtain ⟨V1, K1⟩ := lpE_v S hg f0 f1 V fk k (by omega)
  have h1 := lpE_n S hg f0 f1 V fk k (by omega)
  rw [lpE]
  by_cases hc : compR c f (gens.getD k 0) < 0 ∨ ((lpE c gens f k s).1.getD (compR c f (gens.getD k 0)).toNat none).isSome = true
  ·rw [if_pos hc]; exact h1
  ·rw [if_neg hc]
   have hgk := within_iff.1 hg (k : Int) (by omega) (by omega)
   rw [Int.toNat_natCast] at hgk
   have h0 : 0 <= compR c f (gens.getD k 0) := by omega
   have h2 := (S.yes f0 f1 hgk.1 hgk.2 ((S.comp f0 f1 hgk.1 hgk.2).1 h0)).2.1
   have hn : (lpE c gens f k s).1.getD (compR c f (gens.getD k 0)).toNat none = none := by
    cases e : (lpE c gens f k s).1.getD (compR c f (gens.getD k 0)).toNat none with
    | none => rfl
    | some _ => rw [e] at hc; simp at hc
   have hl := V1.len
   have h3 := nonC_set (lpE c gens f k s).1 (compR c f (gens.getD k 0)).toNat (((lpE c gens f k s).1.getD f.toNat none).getD [] ++ [(k : Int)]) (by omega) hn
   dsimp only
   rw [List.length_append, List.length_singleton]
   omega
def c_spec_l36Ways : Ct := ⟨[CategoryT, (.sl (.int .i64))], [true, false], fun x => [ShapeP x.1, withinR x.2.1 x.1.2.1.length = true], [(false, (.fz (.sl PathT))), (false, (.fz .bool))], fun x => (wayR x.1 x.2.1, lpOkR x.1 x.2.1, ()), true, none⟩
def an_spec_l36Ways : Ann := (.s .n (.s .n (.s .n (.s (.s .n (.l [(6, (.ref 17 [])), (7, (.ref 21 [])), (8, (.ref 800008 [])), (9, (.d (.int .i64)))] [(17, (.sl (.p (.fz (.int .i64)) (.sl (.fz (.int .i64)))))), (21, (.sl (.fz .bool))), (800008, (.sl (.fz (.int .i64))))] [1, 2] .n)) (.s (.s .n (.l [(6, (.ref 17 [])), (7, (.ref 21 [])), (8, (.ref 800008 [])), (10, (.d (.int .i64)))] [(17, (.sl (.p (.fz (.int .i64)) (.sl (.fz (.int .i64)))))), (21, (.sl (.fz .bool))), (800008, (.sl (.fz (.int .i64))))] [1, 2] (.s .n (.s (.s .n (.s .n (.l [(6, (.ref 17 [])), (7, (.ref 21 [])), (8, (.ref 800008 [])), (12, (.d (.int .i64)))] [(17, (.sl (.p (.fz (.int .i64)) (.sl (.fz (.int .i64)))))), (21, (.sl (.fz .bool))), (800008, (.sl (.fz (.int .i64))))] [1, 2, 10, 11] (.s .n (.s (.j [(6, (.ref 17 [])), (7, (.ref 21 [])), (8, (.ref 800008 []))] [(17, (.sl (.p (.fz (.int .i64)) (.sl (.fz (.int .i64)))))), (21, (.sl (.fz .bool))), (800008, (.sl (.fz (.int .i64))))] [1, 2, 10, 11, 12] (.s .n (.s .n (.s .n (.j [(6, (.ref 17 [])), (7, (.ref 21 [])), (8, (.ref 800008 []))] [(17, (.sl (.p (.fz (.int .i64)) (.sl (.fz (.int .i64)))))), (21, (.sl (.fz .bool))), (800008, (.sl (.fz (.int .i64))))] [1, 2, 10, 11, 12] .n))))) .n))))) .n)))) .n)))))
def ph_spec_l36Ways : FuncId -> Option Ct := lkp [(59, c_spec_l01Own), (61, c_spec_l02Then)]
def W_spec_l36Ways (c : CategoryD) (gens : List Int) (K : (List PathD) × Bool × Unit -> Prop) : Prop := ((0 <= ((c.2.1.length : Nat) : Int)) /\ ((((c.2.1.length : Nat) : Int) <= ((c.2.1.length : Nat) : Int)) /\ ((((c.2.1.length : Nat) : Int) <= ((140737488355328 : Nat) : Int)) /\ (((((c.2.1.length : Nat) : Int) * ((32 : Nat) : Int)) <= ((140737488355328 : Nat) : Int)) /\ ((0 <= ((c.2.1.length : Nat) : Int)) /\ ((((c.2.1.length : Nat) : Int) <= ((c.2.1.length : Nat) : Int)) /\ ((((c.2.1.length : Nat) : Int) <= ((140737488355328 : Nat) : Int)) /\ (((((c.2.1.length : Nat) : Int) * ((1 : Nat) : Int)) <= ((140737488355328 : Nat) : Int)) /\ (loopW (S := ((Unit × (Unit × (Unit × (Int × Unit)))) × ((List (Int × (List Int))) × ((List Bool) × ((List Int) × Unit))))) (fun s => (fun next => ((inK .i64 s.1.2.2.2.1) -> ((T.ok (.sl PathT) s.2.1) -> ((T.ok (.sl T.bool) s.2.2.1) -> ((T.ok (.sl (.int .i64)) s.2.2.2.1) -> (cnd (decide (s.1.2.2.2.1 < c.1)) ((0 <= s.1.2.2.2.1) /\ ((s.1.2.2.2.1 < ((c.2.2.2.1.length : Nat) : Int)) /\ ((0 <= (List.getD c.2.2.2.1 s.1.2.2.2.1.toNat 0)) /\ (((List.getD c.2.2.2.1 s.1.2.2.2.1.toNat 0) < ((s.2.1.length : Nat) : Int)) /\ ((0 <= s.1.2.2.2.1) /\ ((s.1.2.2.2.1 < ((c.2.2.2.1.length : Nat) : Int)) /\ ((0 <= (List.getD c.2.2.2.1 s.1.2.2.2.1.toNat 0)) /\ (((List.getD c.2.2.2.1 s.1.2.2.2.1.toNat 0) < ((s.2.2.1.length : Nat) : Int)) /\ ((0 <= s.1.2.2.2.1) /\ ((s.1.2.2.2.1 < ((c.2.2.2.1.length : Nat) : Int)) /\ ((room s.2.2.2.1.length (List.length ((List.getD c.2.2.2.1 s.1.2.2.2.1.toNat 0) :: [])) 8) /\ ((inK .i64 (s.1.2.2.2.1 + 1)) /\ (next (((), ((), ((), ((s.1.2.2.2.1 + 1), ())))), ((List.set s.2.1 (Int.toNat (List.getD c.2.2.2.1 s.1.2.2.2.1.toNat 0)) (s.1.2.2.2.1, [])), ((List.set s.2.2.1 (Int.toNat (List.getD c.2.2.2.1 s.1.2.2.2.1.toNat 0)) true), ((s.2.2.2.1 ++ ((List.getD c.2.2.2.1 s.1.2.2.2.1.toNat 0) :: [])), ()))))))))))))))))) (loopW (S := ((Unit × (Unit × (Unit × (Int × Unit)))) × ((List (Int × (List Int))) × ((List Bool) × ((List Int) × Unit))))) (fun s1 => (fun next1 => ((inK .i64 s1.1.2.2.2.1) -> ((T.ok (.sl PathT) s1.2.1) -> ((T.ok (.sl T.bool) s1.2.2.1) -> ((T.ok (.sl (.int .i64)) s1.2.2.2.1) -> (cnd (decide (s1.1.2.2.2.1 < ((s1.2.2.2.1.length : Nat) : Int))) ((0 <= s1.1.2.2.2.1) /\ ((s1.1.2.2.2.1 < ((s1.2.2.2.1.length : Nat) : Int)) /\ (loopW (S := ((Unit × (Unit × (Unit × (Int × Unit)))) × ((List (Int × (List Int))) × ((List Bool) × ((List Int) × Unit))))) (fun s2 => (fun next2 => ((inK .i64 s2.1.2.2.2.1) -> ((T.ok (.sl PathT) s2.2.1) -> ((T.ok (.sl T.bool) s2.2.2.1) -> ((T.ok (.sl (.int .i64)) s2.2.2.2.1) -> (cnd (decide (s2.1.2.2.2.1 < ((gens.length : Nat) : Int))) (joinW (S := ((Unit × (Unit × (Unit × Unit))) × ((List (Int × (List Int))) × ((List Bool) × ((List Int) × Unit))))) (fun s3 => ((T.ok (.sl PathT) s3.2.1) -> ((T.ok (.sl T.bool) s3.2.2.1) -> ((T.ok (.sl (.int .i64)) s3.2.2.2.1) -> ((inK .i64 (s2.1.2.2.2.1 + 1)) /\ (next2 (((), ((), ((), ((s2.1.2.2.2.1 + 1), ())))), (s3.2.1, (s3.2.2.1, (s3.2.2.2.1, ())))))))))) (fun k => ((0 <= s2.1.2.2.2.1) /\ ((s2.1.2.2.2.1 < ((gens.length : Nat) : Int)) /\ ((0 <= (List.getD gens s2.1.2.2.2.1.toNat 0)) /\ (((List.getD gens s2.1.2.2.2.1.toNat 0) < ((c.2.1.length : Nat) : Int)) /\ ((0 <= (List.getD s1.2.2.2.1 s1.1.2.2.2.1.toNat 0)) /\ (((List.getD s1.2.2.2.1 s1.1.2.2.2.1.toNat 0) < ((c.2.2.1.length : Nat) : Int)) /\ (cnd ((List.getD c.2.1 (Int.toNat (List.getD gens s2.1.2.2.2.1.toNat 0)) 0) != (List.getD c.2.2.1 (Int.toNat (List.getD s1.2.2.2.1 s1.1.2.2.2.1.toNat 0)) 0)) (k (((), ((), ((), ()))), (s2.2.1, (s2.2.2.1, (s2.2.2.2.1, ()))))) ((0 <= s2.1.2.2.2.1) /\ ((s2.1.2.2.2.1 < ((gens.length : Nat) : Int)) /\ ((0 <= (List.getD s1.2.2.2.1 s1.1.2.2.2.1.toNat 0)) /\ (((List.getD s1.2.2.2.1 s1.1.2.2.2.1.toNat 0) < ((c.2.2.2.2.length : Nat) : Int)) /\ ((0 <= (List.getD gens s2.1.2.2.2.1.toNat 0)) /\ (((List.getD gens s2.1.2.2.2.1.toNat 0) < (((List.length (List.getD c.2.2.2.2 (Int.toNat (List.getD s1.2.2.2.1 s1.1.2.2.2.1.toNat 0)) [])) : Nat) : Int)) /\ ((0 <= (compR c (List.getD s1.2.2.2.1 s1.1.2.2.2.1.toNat 0) (List.getD gens s2.1.2.2.2.1.toNat 0))) /\ (((compR c (List.getD s1.2.2.2.1 s1.1.2.2.2.1.toNat 0) (List.getD gens s2.1.2.2.2.1.toNat 0)) < ((s2.2.2.1.length : Nat) : Int)) /\ (joinW (S := ((Unit × (Unit × (Unit × Unit))) × ((List (Int × (List Int))) × ((List Bool) × ((List Int) × Unit))))) (fun s3 => ((T.ok (.sl PathT) s3.2.1) -> ((T.ok (.sl T.bool) s3.2.2.1) -> ((T.ok (.sl (.int .i64)) s3.2.2.2.1) -> (k (((), ((), ((), ()))), (s3.2.1, (s3.2.2.1, (s3.2.2.2.1, ()))))))))) (fun k1 => (cnd (!(List.getD s2.2.2.1 (Int.toNat (compR c (List.getD s1.2.2.2.1 s1.1.2.2.2.1.toNat 0) (List.getD gens s2.1.2.2.2.1.toNat 0))) false)) ((0 <= (compR c (List.getD s1.2.2.2.1 s1.1.2.2.2.1.toNat 0) (List.getD gens s2.1.2.2.2.1.toNat 0))) /\ (((compR c (List.getD s1.2.2.2.1 s1.1.2.2.2.1.toNat 0) (List.getD gens s2.1.2.2.2.1.toNat 0)) < ((s2.2.2.1.length : Nat) : Int)) /\ ((0 <= (List.getD s1.2.2.2.1 s1.1.2.2.2.1.toNat 0)) /\ (((List.getD s1.2.2.2.1 s1.1.2.2.2.1.toNat 0) < ((s2.2.1.length : Nat) : Int)) /\ ((0 <= (List.getD s1.2.2.2.1 s1.1.2.2.2.1.toNat 0)) /\ (((List.getD s1.2.2.2.1 s1.1.2.2.2.1.toNat 0) < ((s2.2.1.length : Nat) : Int)) /\ (((List.length (List.getD s2.2.1 (Int.toNat (List.getD s1.2.2.2.1 s1.1.2.2.2.1.toNat 0)) (0, [])).2) <= 1099511627776) /\ ((room (List.length (List.getD s2.2.1 (Int.toNat (List.getD s1.2.2.2.1 s1.1.2.2.2.1.toNat 0)) (0, [])).2) (List.length (s2.1.2.2.2.1 :: [])) 8) /\ ((0 <= (compR c (List.getD s1.2.2.2.1 s1.1.2.2.2.1.toNat 0) (List.getD gens s2.1.2.2.2.1.toNat 0))) /\ (((compR c (List.getD s1.2.2.2.1 s1.1.2.2.2.1.toNat 0) (List.getD gens s2.1.2.2.2.1.toNat 0)) < ((s2.2.1.length : Nat) : Int)) /\ ((room s2.2.2.2.1.length (List.length ((compR c (List.getD s1.2.2.2.1 s1.1.2.2.2.1.toNat 0) (List.getD gens s2.1.2.2.2.1.toNat 0)) :: [])) 8) /\ (k1 (((), ((), ((), ()))), ((List.set s2.2.1 (Int.toNat (compR c (List.getD s1.2.2.2.1 s1.1.2.2.2.1.toNat 0) (List.getD gens s2.1.2.2.2.1.toNat 0))) ((List.getD s2.2.1 (Int.toNat (List.getD s1.2.2.2.1 s1.1.2.2.2.1.toNat 0)) (0, [])).1, ((List.getD s2.2.1 (Int.toNat (List.getD s1.2.2.2.1 s1.1.2.2.2.1.toNat 0)) (0, [])).2 ++ (s2.1.2.2.2.1 :: [])))), ((List.set s2.2.2.1 (Int.toNat (compR c (List.getD s1.2.2.2.1 s1.1.2.2.2.1.toNat 0) (List.getD gens s2.1.2.2.2.1.toNat 0))) true), ((s2.2.2.2.1 ++ ((compR c (List.getD s1.2.2.2.1 s1.1.2.2.2.1.toNat 0) (List.getD gens s2.1.2.2.2.1.toNat 0)) :: [])), ())))))))))))))))) (k1 (((), ((), ((), ()))), (s2.2.1, (s2.2.2.1, (s2.2.2.2.1, ()))))))))))))))))))))))))) ((inK .i64 (s1.1.2.2.2.1 + 1)) /\ (next1 (((), ((), ((), ((s1.1.2.2.2.1 + 1), ())))), (s2.2.1, (s2.2.2.1, (s2.2.2.2.1, ()))))))))))))) (((), ((), ((), (0, ())))), (s1.2.1, (s1.2.2.1, (s1.2.2.2.1, ()))))))) (K (s1.2.1, ((((s1.2.2.2.1.length : Nat) : Int) == ((c.2.1.length : Nat) : Int)), ())))))))))) (((), ((), ((), (0, ())))), (s.2.1, (s.2.2.1, (s.2.2.2.1, ())))))))))))) (((), ((), ((), (0, ())))), ((List.replicate (Int.toNat ((c.2.1.length : Nat) : Int)) (0, [])), ((List.replicate (Int.toNat ((c.2.1.length : Nat) : Int)) false), ([], ())))))))))))))
theorem w_spec_l36Ways (x : denL c_spec_l36Ways.args) (K : (List PathD) × Bool × Unit -> Prop) : evF tab ph_spec_l36Ways (cutL [(16, 13), (17, 506), (1, 509), (20, 185015), (22, 8)]) Try.f58 (bodyOf Try.f58) an_spec_l36Ways c_spec_l36Ways x K = W_spec_l36Ways x.1 x.2.1 K := by kernel_rfl
theorem k_spec_l36Ways : okC Try.f58.ntmps (cutL [(16, 13), (17, 506), (1, 509), (20, 185015), (22, 8)]) (bodyOf Try.f58) = true := by kernel_rfl
theorem m_spec_l36Ways (c : CategoryD) (gens : List Int) (hok : allP (okL c_spec_l36Ways.args (c, gens, ()))) (hpre : allP (c_spec_l36Ways.pre (c, gens, ()))) : W_spec_l36Ways c gens (fun r => r = c_spec_l36Ways.res (c, gens, ())) := by
 simp only [c_spec_l36Ways, okL, T.oks, T.ok, ap, allP, true_and, and_true, implies_true] at hok hpre
 try dsimp only [T.den] at hok
 try dsimp only [T.den] at hpre
 unfold W_spec_l36Ways
 obtain ⟨S, hg⟩ := hpre
 have hil := hok.2.2.2.2.2.1
 simp only [nb_eq] at hil
 clear hok
 have hm := S.m
 have hlc := S.lc
 have hob := S.ob
 have hli := S.li
 have hlt := S.lt
 refine ⟨by omega, by omega, by omega, by omega, by omega, by omega, by omega, by omega, ?_⟩
 refine loop_of (fun (s : ((Unit × (Unit × (Unit × (Int × Unit)))) × ((List (Int × (List Int))) × ((List Bool) × ((List Int) × Unit))))) => 0 <= s.1.2.2.2.1 /\ s.1.2.2.2.1 <= c.1 /\ s.2.1 = wyR c (lpI c s.1.2.2.2.1.toNat) /\ s.2.2.1 = knR c (lpI c s.1.2.2.2.1.toNat) /\ s.2.2.2.1 = c.2.2.2.1.take s.1.2.2.2.1.toNat) (fun (s : ((Unit × (Unit × (Unit × (Int × Unit)))) × ((List (Int × (List Int))) × ((List Bool) × ((List Int) × Unit))))) => (c.1 - s.1.2.2.2.1).toNat) ?_ ⟨by dsimp only; omega, by dsimp only; omega, ?_, ?_, rfl⟩
 rotate_left
 ·try dsimp only
  rw [Int.toNat_natCast, tab_rep]
  refine tabN_congr fun y _ _ => ?_
  rw [show lpI c (Int.toNat 0) = List.replicate c.2.1.length none from rfl, rep_none]
 ·try dsimp only
  rw [Int.toNat_natCast, tab_rep]
  refine tabN_congr fun y _ _ => ?_
  rw [show lpI c (Int.toNat 0) = List.replicate c.2.1.length none from rfl, rep_none]
  rfl
 rintro ⟨⟨_, _, _, i, _⟩, out, known, order, _⟩ next ⟨i0, i1, ho, hk, hd⟩ hnx hin hok1 hok2 hok3
 try dsimp only at i0 i1 ho hk hd hnx hin ⊢
 subst ho; subst hk; subst hd
 clear hok1 hok2 hok3
 obtain ⟨l1, l2, l3⟩ := lpI_v S i.toNat (by omega)
 refine cnd_d (fun hi => ?_) (fun hi => ?_)
 ·obtain ⟨ha, hb, hc, _⟩ := S.idn i0 hi
  refine ⟨i0, by omega, ha, by rw [wy_len]; exact hb, i0, by omega, ha, by rw [kn_len]; exact hb, i0, by omega, room_of (by rw [List.length_take]; simp only [List.length_cons, List.length_nil]; omega), by rw [inK64]; (try dsimp only); omega, hnx _ ⟨by dsimp only; omega, by dsimp only; omega, ?_, ?_, ?_⟩ (by dsimp only; omega)⟩
  ·try dsimp only
   rw [lpI_s i0, ← wy_set l1 ha hb, hc]
  ·try dsimp only
   rw [lpI_s i0, ← kn_set l1 ha hb]
  ·try dsimp only
   exact (take_c c.2.2.2.1 0 i0 (by omega)).symm
 have hie : i.toNat = c.2.2.2.1.length := by omega
 rw [hie, List.take_length]
 clear hi hnx next l1 l2 l3
 have V0 := lpV_0 S
 have N0 := lpI_n S _ (Nat.le_refl _)
 refine loop_of (fun (s : ((Unit × (Unit × (Unit × (Int × Unit)))) × ((List (Int × (List Int))) × ((List Bool) × ((List Int) × Unit))))) => 0 <= s.1.2.2.2.1 /\ s.1.2.2.2.1 <= s.2.2.2.1.length /\ ∃ o : OutD, s.2.1 = wyR c o /\ s.2.2.1 = knR c o /\ LpV c.2.1.length (c.2.1.length + c.2.2.2.1.length) (o, s.2.2.2.1.drop s.1.2.2.2.1.toNat) /\ s.2.2.2.1.length + nonC o = c.2.1.length /\ ∃ n, (s.2.2.2.1.drop s.1.2.2.2.1.toNat).length + nonC o < n /\ lpL c gens n o (s.2.2.2.1.drop s.1.2.2.2.1.toNat) = lpF c gens) (fun (s : ((Unit × (Unit × (Unit × (Int × Unit)))) × ((List (Int × (List Int))) × ((List Bool) × ((List Int) × Unit))))) => (c.2.1.length - s.1.2.2.2.1).toNat) ?_
  ⟨by dsimp only; omega, by dsimp only; omega, _, rfl, rfl, V0, N0, _, Nat.lt_succ_of_le (Nat.le_trans V0.mu (Nat.le_refl _)), rfl⟩
 rintro ⟨⟨_, _, _, i, _⟩, _, _, order, _⟩ next ⟨i0, i1, o, ho, hkn, V, hn, n, hf, hF⟩ hnx hin hok1 hok2 hok3
 try dsimp only at i0 i1 ho hkn V hn hf hF hnx hin ⊢
 subst ho; subst hkn
 clear hok1 hok2 hok3
 refine cnd_d (fun hi => ⟨i0, hi, ?_⟩) (fun hi => ?_)
 ·have hdc := drop_c order 0 i0 hi
  rw [hdc] at V hf hF
  have htd := List.take_append_drop (i + 1).toNat order
  have htl : (order.take (i + 1).toNat).length = i.toNat + 1 := by rw [List.length_take]; omega
  have hdl : (order.drop (i + 1).toNat).length = order.length - (i.toNat + 1) := by rw [List.length_drop]; omega
  generalize order.getD i.toNat 0 = f at *
  generalize hto : order.drop (i + 1).toNat = todo at *
  generalize hta : order.take (i + 1).toNat = tk at *
  obtain ⟨n, rfl⟩ : ∃ n', n = n' + 1 := ⟨n - 1, by omega⟩
  rw [lpL] at hF
  obtain ⟨f0, f1, fk⟩ := V.rng f (by simp)
  try dsimp only at fk
  have V1 : LpV c.2.1.length (todo.length + nonC o) (o, todo) := ⟨V.len, fun g hg => V.rng g (by simp only [List.mem_cons]; exact .inr hg), V.lnb, Nat.le_refl _⟩
  have VE := lpE_v S hg f0 f1 V1 fk
  have NE := lpE_n S hg f0 f1 V1 fk
  refine loop_of (fun (s : ((Unit × (Unit × (Unit × (Int × Unit)))) × ((List (Int × (List Int))) × ((List Bool) × ((List Int) × Unit))))) => 0 <= s.1.2.2.2.1 /\ s.1.2.2.2.1 <= gens.length /\ s.2.1 = wyR c (lpE c gens f s.1.2.2.2.1.toNat (o, todo)).1 /\ s.2.2.1 = knR c (lpE c gens f s.1.2.2.2.1.toNat (o, todo)).1 /\ s.2.2.2.1 = tk ++ (lpE c gens f s.1.2.2.2.1.toNat (o, todo)).2) (fun (s : ((Unit × (Unit × (Unit × (Int × Unit)))) × ((List (Int × (List Int))) × ((List Bool) × ((List Int) × Unit))))) => (gens.length - s.1.2.2.2.1).toNat) ?_ ⟨by dsimp only; omega, by dsimp only; omega, rfl, rfl, htd.symm⟩
  rintro ⟨⟨_, _, _, e, _⟩, _, _, _, _⟩ next2 ⟨e0, e1, h1, h2, h3⟩ hnx2 hin2 hok1 hok2 hok3
  try dsimp only at e0 e1 h1 h2 h3 hnx2 hin2 ⊢
  subst h1; subst h2; subst h3
  clear hok1 hok2 hok3
  obtain ⟨V2, K2⟩ := VE e.toNat (by omega)
  have N2 := NE e.toNat (by omega)
  refine cnd_d (fun he => ?_) (fun he => ?_)
  ·have hge := within_iff.1 hg e e0 he
   have hs : lpE c gens f (e + 1).toNat (o, todo) = if compR c f (gens.getD e.toNat 0) < 0 ∨ ((lpE c gens f e.toNat (o, todo)).1.getD (compR c f (gens.getD e.toNat 0)).toNat none).isSome = true then lpE c gens f e.toNat (o, todo)
     else ((lpE c gens f e.toNat (o, todo)).1.set (compR c f (gens.getD e.toNat 0)).toNat (some ((((lpE c gens f e.toNat (o, todo)).1.getD f.toNat none).getD []) ++ [e])), (lpE c gens f e.toNat (o, todo)).2 ++ [compR c f (gens.getD e.toNat 0)]) := by
    rw [show (e + 1).toNat = e.toNat + 1 from by omega, lpE, show ((e.toNat : Nat) : Int) = e from by omega]
   have hl2 := V2.len
   have hfk : ((lpE c gens f e.toNat (o, todo)).1.getD f.toNat none).isSome = true := by rw [K2 _ fk]; exact fk
   obtain ⟨pf, hpf⟩ := Option.isSome_iff_exists.1 hfk
   have hplen := V2.lnb _ _ hpf
   have hwf := wy_get f0 f1 hpf
   have hrow := S.row f f0 f1
   refine join_of (fun (q : ((Unit × (Unit × (Unit × Unit))) × ((List (Int × (List Int))) × ((List Bool) × ((List Int) × Unit))))) => q.2.1 = wyR c (lpE c gens f (e + 1).toNat (o, todo)).1 /\ q.2.2.1 = knR c (lpE c gens f (e + 1).toNat (o, todo)).1 /\ q.2.2.2.1 = tk ++ (lpE c gens f (e + 1).toNat (o, todo)).2) (fun q hq _ _ _ => ⟨by rw [inK64]; (try dsimp only); omega, hnx2 _ ⟨by dsimp only; omega, by dsimp only; omega, hq⟩ (by dsimp only; omega)⟩) (fun k hk => ?_)
   refine ⟨e0, he, hge.1, hge.2, f0, by omega, cnd_of (fun hx => hk _ ?_) (fun hx => ?_)⟩
   ·rw [bne_iff_ne] at hx
    rw [hs, if_pos (.inl (by rw [S.no f0 f1 hge.1 hge.2 (Ne.symm hx)]; omega))]
    exact ⟨rfl, rfl, rfl⟩
   ·rw [bne_eq_false_iff_eq] at hx
    obtain ⟨hh0, hh1, hh2, _⟩ := S.yes f0 f1 hge.1 hge.2 hx.symm
    generalize compR c f (gens.getD e.toNat 0) = h at *
    generalize lpE c gens f e.toNat (o, todo) = s2 at *
    refine ⟨e0, he, f0, by omega, hge.1, by rw [hrow]; exact hge.2, hh0, by rw [kn_len]; exact hh1, ?_⟩
    refine join_of (fun (q : ((Unit × (Unit × (Unit × Unit))) × ((List (Int × (List Int))) × ((List Bool) × ((List Int) × Unit))))) => q.2.1 = wyR c (lpE c gens f (e + 1).toNat (o, todo)).1 /\ q.2.2.1 = knR c (lpE c gens f (e + 1).toNat (o, todo)).1 /\ q.2.2.2.1 = tk ++ (lpE c gens f (e + 1).toNat (o, todo)).2) (fun q hq _ _ _ => hk _ hq) (fun k1 hk1 => cnd_of (fun hz => ?_) (fun hz => hk1 _ ?_))
    ·rw [kn_get hh0 hh1, Bool.not_eq_true'] at hz
     rw [if_neg (by rw [hz]; rintro (q | q); omega; cases q), hpf, Option.getD_some] at hs
     rw [hwf]
     refine ⟨hh0, by rw [kn_len]; exact hh1, f0, by rw [wy_len]; exact f1, f0, by rw [wy_len]; exact f1, by dsimp only; omega, room_of (by dsimp only; simp only [List.length_cons, List.length_nil]; omega), hh0, by rw [wy_len]; exact hh1, room_of (by rw [List.length_append]; simp only [List.length_cons, List.length_nil]; dsimp only at N2; omega), hk1 _ ?_⟩
     rw [hs]
     try dsimp only
     rw [← hh2, wy_set hl2 hh0 hh1, kn_set hl2 hh0 hh1, List.append_assoc]
     exact ⟨rfl, rfl, rfl⟩
    ·rw [kn_get hh0 hh1, Bool.not_eq_false'] at hz
     rw [hs, if_pos (.inr hz)]
     exact ⟨rfl, rfl, rfl⟩
  ·have hee : e.toNat = gens.length := by omega
   rw [hee] at V2 N2 ⊢
   have hmu := V2.mu
   have hvm := V.mu
   simp only [List.length_cons] at hvm hf
   generalize lpE c gens f gens.length (o, todo) = s2 at *
   have hdd : (tk ++ s2.2).drop (i + 1).toNat = s2.2 := List.drop_left' (by rw [htl]; omega)
   have htt : (tk ++ s2.2).length = i.toNat + 1 + s2.2.length := by rw [List.length_append, htl]
   try dsimp only at N2
   refine ⟨by rw [inK64]; (try dsimp only); omega, hnx _ ⟨by dsimp only; omega, by dsimp only; omega, s2.1, rfl, rfl, ?_, ?_, n, ?_, ?_⟩ (by dsimp only; omega)⟩
   ·try dsimp only; rw [hdd]; exact V2.le (by omega)
   ·try dsimp only; omega
   ·try dsimp only; rw [hdd]; omega
   ·try dsimp only; rw [hdd]; exact hF
 ·have hie2 : (order.length : Int) <= i := by omega
  rw [drop_n order hie2] at hF
  have hoF : o = lpF c gens := by
   rw [← hF]
   cases n <;> rfl
  subst hoF
  have hb : (((order.length : Nat) : Int) == ((c.2.1.length : Nat) : Int)) = lpOkR c gens := by
   rw [lpOkR, Bool.eq_iff_iff, beq_iff_eq, ← nonC_0]
   omega
  simp only [c_spec_l36Ways, hb]
  rfl
theorem ct_spec_l36Ways : CtOk Try.prog 58 c_spec_l36Ways :=
 ct_by (Φ := ph_spec_l36Ways) (good_cons ct_spec_l01Own (good_cons ct_spec_l02Then good_nil)) tab_ok (by kernel_rfl) (fn := Try.f58) (c := bodyOf Try.f58) (by kernel_rfl) (by kernel_rfl) (by kernel_rfl) c_spec_l36Ways rfl an_spec_l36Ways (cutL [(16, 13), (17, 506), (1, 509), (20, 185015), (22, 8)]) (by kernel_rfl) (by kernel_rfl) k_spec_l36Ways (by decide) (fun x K => W_spec_l36Ways x.1 x.2.1 K) w_spec_l36Ways (fun x h1 h2 => m_spec_l36Ways x.1 x.2.1 h1 h2)
theorem way_row {c : CategoryD} (S : ShapeP c) (ok : lpOkR c (irrR c) = true) {f : Int} (f0 : 0 <= f) (f1 : f < c.2.1.length) : ((wayR c (irrR c)).getD f.toNat (0, [])).2 = lpRow c f := by
 have hl := (lpL_v S irr_within (c.2.1.length + c.2.2.2.1.length + 1) _ _ _ (lpV_0 S)).1
 have hs : ((lpF c (irrR c)).getD f.toNat none).isSome = true := by
  have h := ok
  unfold lpOkR at h
  rw [List.all_eq_true] at h
  have hx : f.toNat < (lpF c (irrR c)).length := by unfold lpF; rw [hl]; omega
  rw [List.getD_eq_getElem?_getD, List.getElem?_eq_getElem hx, Option.getD_some]
  exact h _ (List.getElem_mem hx)
 obtain ⟨l, hl2⟩ := Option.isSome_iff_exists.1 hs
 rw [wayR, wy_get f0 f1 hl2, lpRow, lpPR, if_pos ok, cls_get, hl2]
 rfl
theorem soE_mono {c : CategoryD} {f : Int} {s : List PathD × List PathD} {k : Nat} : ∀ d : Nat, (soE c f s k).1.length <= (soE c f s (k + d)).1.length
 | 0 => Nat.le_refl _
 | d + 1 => by
  have := soE_mono (c := c) (f := f) (s := s) (k := k) d
  rw [show k + (d + 1) = (k + d) + 1 from rfl, soE]
  split
  ·exact this
  ·simp only [List.length_append, List.length_singleton]; omega
theorem soF_mono {c : CategoryD} {k : Nat} : ∀ d : Nat, (soF c k).1.length <= (soF c (k + d)).1.length
 | 0 => Nat.le_refl _
 | d + 1 => by
  have := soF_mono (c := c) (k := k) d
  have h := (soE_len (c := c) (f := ((k + d : Nat) : Int)) (soF_len (c := c) (k + d)).2 (irrR c).length).1
  rw [show k + (d + 1) = (k + d) + 1 from rfl, soF]
  omega
theorem so_many {c : CategoryD} {i e : Int} (i0 : 0 <= i) (hi : i < c.2.1.length) (e0 : 0 <= e) (he : e < (irrR c).length) (h8 : (soE c i (soF c i.toNat) e.toNat).1.length = 8) (hq : soQ c i e = false) : isSchemaR (soT c (soF c c.2.1.length)) = false := by
 have h9 : (soE c i (soF c i.toNat) (e.toNat + 1)).1.length = 9 := by
  have := soE_s (c := c) (f := i) (s := soF c i.toNat) e0
  rw [show (e + 1).toNat = e.toNat + 1 from by omega] at this
  rw [this, if_neg (by rw [hq]; simp)]
  simp only [List.length_append, List.length_singleton]; omega
 have h1 := soE_mono (c := c) (f := i) (s := soF c i.toNat) (k := e.toNat + 1) ((irrR c).length - (e.toNat + 1))
 rw [show e.toNat + 1 + ((irrR c).length - (e.toNat + 1)) = (irrR c).length from by omega] at h1
 have h2 := soF_s (c := c) i0
 rw [← h2, show (i + 1).toNat = i.toNat + 1 from by omega] at h1
 have h3 := soF_mono (c := c) (k := i.toNat + 1) (c.2.1.length - (i.toNat + 1))
 rw [show i.toNat + 1 + (c.2.1.length - (i.toNat + 1)) = c.2.1.length from by omega] at h3
 have h4 : ¬ (soT c (soF c c.2.1.length)).2.2.2.1.length <= 8 := by
  show ¬ (soF c c.2.1.length).1.length <= 8
  omega
 cases hz : isSchemaR (soT c (soF c c.2.1.length)) with
 | false => rfl
 | true =>
  unfold isSchemaR at hz
  simp only [Bool.and_eq_true, decide_eq_true_eq] at hz
  exact absurd hz.1.1.2 h4
def c_spec_SchemaOf : Ct := ⟨[CategoryT], [true], fun x => [], [(true, (.p (.fz (.int .i64)) (.p (.fz (.sl (.int .i64))) (.p (.fz (.sl (.int .i64))) (.p (.fz (.sl PathT)) (.fz (.sl PathT))))))), (false, (.fz (.int .i64)))], fun x => ((soR x.1).1, (soR x.1).2, ()), true, none⟩
def an_spec_SchemaOf : Ann := (.s .n (.s .n (.s .n (.s .n (.s .n (.s .n (.s (.s .n (.l [(2, (.ad 2 [.de])), (8, (.ad 8 [.de])), (9, (.d (.int .i64)))] [(2, (.pt (.p (.fz (.int .i64)) (.p (.sl (.fz (.int .i64))) (.p (.sl (.fz (.int .i64))) (.p (.sl (.p (.fz (.int .i64)) (.sl (.fz (.int .i64))))) (.sl (.p (.fz (.int .i64)) (.sl (.fz (.int .i64))))))))))), (8, (.pt (.p (.fz (.int .i64)) (.p (.sl (.fz (.int .i64))) (.p (.sl (.fz (.int .i64))) (.p (.sl (.p (.fz (.int .i64)) (.sl (.fz (.int .i64))))) (.sl (.p (.fz (.int .i64)) (.sl (.fz (.int .i64)))))))))))] [1, 4, 6] .n)) (.s (.s .n (.l [(2, (.ad 2 [.de])), (8, (.ad 8 [.de])), (10, (.d (.int .i64)))] [(2, (.pt (.p (.fz (.int .i64)) (.p (.sl (.fz (.int .i64))) (.p (.sl (.fz (.int .i64))) (.p (.sl (.p (.fz (.int .i64)) (.sl (.fz (.int .i64))))) (.sl (.p (.fz (.int .i64)) (.sl (.fz (.int .i64))))))))))), (8, (.pt (.p (.fz (.int .i64)) (.p (.sl (.fz (.int .i64))) (.p (.sl (.fz (.int .i64))) (.p (.sl (.fz (.p (.int .i64) (.sl (.int .i64))))) (.sl (.fz (.p (.int .i64) (.sl (.int .i64)))))))))))] [1, 4, 6] (.s .n (.s (.s .n (.l [(2, (.ad 2 [.de])), (8, (.ad 8 [.de])), (11, (.d (.int .i64)))] [(2, (.pt (.p (.fz (.int .i64)) (.p (.sl (.fz (.int .i64))) (.p (.sl (.fz (.int .i64))) (.p (.sl (.p (.fz (.int .i64)) (.sl (.fz (.int .i64))))) (.sl (.p (.fz (.int .i64)) (.sl (.fz (.int .i64))))))))))), (8, (.pt (.p (.fz (.int .i64)) (.p (.sl (.fz (.int .i64))) (.p (.sl (.fz (.int .i64))) (.p (.sl (.fz (.p (.int .i64) (.sl (.int .i64))))) (.sl (.fz (.p (.int .i64) (.sl (.int .i64)))))))))))] [1, 4, 6, 10] (.s .n (.s (.j [(2, (.ad 2 [.de])), (8, (.ad 8 [.de]))] [(2, (.pt (.p (.fz (.int .i64)) (.p (.sl (.fz (.int .i64))) (.p (.sl (.fz (.int .i64))) (.p (.sl (.p (.fz (.int .i64)) (.sl (.fz (.int .i64))))) (.sl (.p (.fz (.int .i64)) (.sl (.fz (.int .i64))))))))))), (8, (.pt (.p (.fz (.int .i64)) (.p (.sl (.fz (.int .i64))) (.p (.sl (.fz (.int .i64))) (.p (.sl (.fz (.p (.int .i64) (.sl (.int .i64))))) (.sl (.fz (.p (.int .i64) (.sl (.int .i64)))))))))))] [1, 4, 6, 10, 11] (.s .n (.s .n (.s .n (.s (.s .n (.j [(2, (.ad 2 [.de])), (8, (.ad 8 [.de])), (12, (.d (.sl (.int .i64))))] [(2, (.pt (.p (.fz (.int .i64)) (.p (.sl (.fz (.int .i64))) (.p (.sl (.fz (.int .i64))) (.p (.sl (.p (.fz (.int .i64)) (.sl (.fz (.int .i64))))) (.sl (.p (.fz (.int .i64)) (.sl (.fz (.int .i64))))))))))), (8, (.pt (.p (.fz (.int .i64)) (.p (.sl (.fz (.int .i64))) (.p (.sl (.fz (.int .i64))) (.p (.fz (.sl (.p (.int .i64) (.sl (.int .i64))))) (.fz (.sl (.p (.int .i64) (.sl (.int .i64)))))))))))] [1, 4, 6, 10, 11, 13] .n)) .n))))) .n)))) .n)))) .n))))))))
def ph_spec_SchemaOf : FuncId -> Option Ct := lkp [(57, c_spec_IrreducibleArrows), (63, c_spec_IsSchema), (59, c_spec_l01Own), (62, c_spec_l01Same), (56, c_spec_l02Is), (61, c_spec_l02Then), (60, c_spec_l02Unit), (58, c_spec_l36Ways)]
def W_spec_SchemaOf (c : CategoryD) (K : SchemaD × Int × Unit -> Prop) : Prop := (cnd (!(catR c)) (K ((0, ([], ([], (([] : List (Int × (List Int))), ([] : List (Int × (List Int))))))), (1, ()))) ((ShapeP c) /\ (((withinR (irrCR c).1 ((c.2.1.length : Nat) : Int)) = true) /\ (cnd (!(lpOkR c (irrCR c).1)) (K ((0, ([], ([], (([] : List (Int × (List Int))), ([] : List (Int × (List Int))))))), (4, ()))) (loopW (S := ((Unit × (Unit × (Int × Unit))) × ((Int × ((List Int) × ((List Int) × ((List (Int × (List Int))) × (List (Int × (List Int))))))) × ((Int × ((List Int) × ((List Int) × ((List (Int × (List Int))) × (List (Int × (List Int))))))) × Unit)))) (fun s => (fun next => ((inK .i64 s.1.2.2.1) -> ((inK .i64 s.2.1.1) -> ((T.ok (.sl (.int .i64)) s.2.1.2.1) -> ((T.ok (.sl (.int .i64)) s.2.1.2.2.1) -> ((T.ok (.sl PathT) s.2.1.2.2.2.1) -> ((T.ok (.sl PathT) s.2.1.2.2.2.2) -> ((inK .i64 s.2.2.1.1) -> ((T.ok (.sl (.int .i64)) s.2.2.1.2.1) -> ((T.ok (.sl (.int .i64)) s.2.2.1.2.2.1) -> ((T.ok (.sl PathT) s.2.2.1.2.2.2.1) -> ((T.ok (.sl PathT) s.2.2.1.2.2.2.2) -> (cnd (decide (s.1.2.2.1 < (((List.length (irrCR c).1) : Nat) : Int))) ((s.2.2.1.2.1.length <= 1099511627776) /\ ((0 <= s.1.2.2.1) /\ ((s.1.2.2.1 < (((List.length (irrCR c).1) : Nat) : Int)) /\ ((0 <= (List.getD (irrCR c).1 s.1.2.2.1.toNat 0)) /\ (((List.getD (irrCR c).1 s.1.2.2.1.toNat 0) < ((c.2.1.length : Nat) : Int)) /\ ((room s.2.2.1.2.1.length (List.length ((List.getD c.2.1 (Int.toNat (List.getD (irrCR c).1 s.1.2.2.1.toNat 0)) 0) :: [])) 8) /\ ((s.2.2.1.2.2.1.length <= 1099511627776) /\ ((0 <= s.1.2.2.1) /\ ((s.1.2.2.1 < (((List.length (irrCR c).1) : Nat) : Int)) /\ ((0 <= (List.getD (irrCR c).1 s.1.2.2.1.toNat 0)) /\ (((List.getD (irrCR c).1 s.1.2.2.1.toNat 0) < ((c.2.2.1.length : Nat) : Int)) /\ ((room s.2.2.1.2.2.1.length (List.length ((List.getD c.2.2.1 (Int.toNat (List.getD (irrCR c).1 s.1.2.2.1.toNat 0)) 0) :: [])) 8) /\ ((inK .i64 (s.1.2.2.1 + 1)) /\ (next (((), ((), ((s.1.2.2.1 + 1), ()))), (s.2.1, ((s.2.2.1.1, ((s.2.2.1.2.1 ++ ((List.getD c.2.1 (Int.toNat (List.getD (irrCR c).1 s.1.2.2.1.toNat 0)) 0) :: [])), ((s.2.2.1.2.2.1 ++ ((List.getD c.2.2.1 (Int.toNat (List.getD (irrCR c).1 s.1.2.2.1.toNat 0)) 0) :: [])), s.2.2.1.2.2.2))), ()))))))))))))))))) (loopW (S := ((Unit × (Unit × (Int × Unit))) × ((Int × ((List Int) × ((List Int) × ((List (Int × (List Int))) × (List (Int × (List Int))))))) × ((Int × ((List Int) × ((List Int) × ((List (Int × (List Int))) × (List (Int × (List Int))))))) × Unit)))) (fun s1 => (fun next1 => ((inK .i64 s1.1.2.2.1) -> ((inK .i64 s1.2.1.1) -> ((T.ok (.sl (.int .i64)) s1.2.1.2.1) -> ((T.ok (.sl (.int .i64)) s1.2.1.2.2.1) -> ((T.ok (.sl PathT) s1.2.1.2.2.2.1) -> ((T.ok (.sl PathT) s1.2.1.2.2.2.2) -> ((inK .i64 s1.2.2.1.1) -> ((T.ok (.sl (.int .i64)) s1.2.2.1.2.1) -> ((T.ok (.sl (.int .i64)) s1.2.2.1.2.2.1) -> ((T.ok (.sl PathT) s1.2.2.1.2.2.2.1) -> ((T.ok (.sl PathT) s1.2.2.1.2.2.2.2) -> (cnd (decide (s1.1.2.2.1 < ((c.2.1.length : Nat) : Int))) (loopW (S := ((Unit × (Unit × (Int × Unit))) × ((Int × ((List Int) × ((List Int) × ((List (Int × (List Int))) × (List (Int × (List Int))))))) × ((Int × ((List Int) × ((List Int) × ((List (Int × (List Int))) × (List (Int × (List Int))))))) × Unit)))) (fun s2 => (fun next2 => ((inK .i64 s2.1.2.2.1) -> ((inK .i64 s2.2.1.1) -> ((T.ok (.sl (.int .i64)) s2.2.1.2.1) -> ((T.ok (.sl (.int .i64)) s2.2.1.2.2.1) -> ((T.ok (.sl PathT) s2.2.1.2.2.2.1) -> ((T.ok (.sl PathT) s2.2.1.2.2.2.2) -> ((inK .i64 s2.2.2.1.1) -> ((T.ok (.sl (.int .i64)) s2.2.2.1.2.1) -> ((T.ok (.sl (.int .i64)) s2.2.2.1.2.2.1) -> ((T.ok (.sl PathT) s2.2.2.1.2.2.2.1) -> ((T.ok (.sl PathT) s2.2.2.1.2.2.2.2) -> (cnd (decide (s2.1.2.2.1 < (((List.length (irrCR c).1) : Nat) : Int))) (joinW (S := ((Unit × (Unit × Unit)) × ((Int × ((List Int) × ((List Int) × ((List (Int × (List Int))) × (List (Int × (List Int))))))) × ((Int × ((List Int) × ((List Int) × ((List (Int × (List Int))) × (List (Int × (List Int))))))) × Unit)))) (fun s3 => ((inK .i64 s3.2.1.1) -> ((T.ok (.sl (.int .i64)) s3.2.1.2.1) -> ((T.ok (.sl (.int .i64)) s3.2.1.2.2.1) -> ((T.ok (.sl PathT) s3.2.1.2.2.2.1) -> ((T.ok (.sl PathT) s3.2.1.2.2.2.2) -> ((inK .i64 s3.2.2.1.1) -> ((T.ok (.sl (.int .i64)) s3.2.2.1.2.1) -> ((T.ok (.sl (.int .i64)) s3.2.2.1.2.2.1) -> ((T.ok (.sl PathT) s3.2.2.1.2.2.2.1) -> ((T.ok (.sl PathT) s3.2.2.1.2.2.2.2) -> ((inK .i64 (s2.1.2.2.1 + 1)) /\ (next2 (((), ((), ((s2.1.2.2.1 + 1), ()))), (s3.2.1, (s3.2.2.1, ())))))))))))))))) (fun k => ((ShapeP c) /\ ((0 <= s1.1.2.2.1) /\ ((s1.1.2.2.1 < ((c.2.1.length : Nat) : Int)) /\ ((((idR c s1.1.2.2.1) = false) -> ((s2.1.2.2.1 < (((List.length (irrCR c).1) : Nat) : Int)) /\ (0 <= s2.1.2.2.1))) /\ ((((idR c s1.1.2.2.1) = false) -> (((List.getD (irrCR c).1 s2.1.2.2.1.toNat 0) < ((c.2.1.length : Nat) : Int)) /\ (0 <= (List.getD (irrCR c).1 s2.1.2.2.1.toNat 0)))) /\ ((((idR c s1.1.2.2.1) = false) -> ((s1.1.2.2.1 < ((c.2.2.1.length : Nat) : Int)) /\ (0 <= s1.1.2.2.1))) /\ (cnd ((idR c s1.1.2.2.1) || ((List.getD c.2.1 (Int.toNat (List.getD (irrCR c).1 s2.1.2.2.1.toNat 0)) 0) != (List.getD c.2.2.1 s1.1.2.2.1.toNat 0))) (k (((), ((), ())), (s2.2.1, (s2.2.2.1, ())))) ((0 <= s1.1.2.2.1) /\ ((s1.1.2.2.1 < (((List.length (wayR c (irrCR c).1)) : Nat) : Int)) /\ (((List.length (List.getD (wayR c (irrCR c).1) s1.1.2.2.1.toNat (0, [])).2) <= 1099511627776) /\ ((room (List.length (List.getD (wayR c (irrCR c).1) s1.1.2.2.1.toNat (0, [])).2) (List.length (s2.1.2.2.1 :: [])) 8) /\ ((0 <= s2.1.2.2.1) /\ ((s2.1.2.2.1 < (((List.length (irrCR c).1) : Nat) : Int)) /\ ((0 <= s1.1.2.2.1) /\ ((s1.1.2.2.1 < ((c.2.2.2.2.length : Nat) : Int)) /\ ((0 <= (List.getD (irrCR c).1 s2.1.2.2.1.toNat 0)) /\ (((List.getD (irrCR c).1 s2.1.2.2.1.toNat 0) < (((List.length (List.getD c.2.2.2.2 s1.1.2.2.1.toNat [])) : Nat) : Int)) /\ ((0 <= (compR c s1.1.2.2.1 (List.getD (irrCR c).1 s2.1.2.2.1.toNat 0))) /\ (((compR c s1.1.2.2.1 (List.getD (irrCR c).1 s2.1.2.2.1.toNat 0)) < (((List.length (wayR c (irrCR c).1)) : Nat) : Int)) /\ (joinW (S := ((Unit × (Unit × ((List Int) × Unit))) × ((Int × ((List Int) × ((List Int) × ((List (Int × (List Int))) × (List (Int × (List Int))))))) × ((Int × ((List Int) × ((List Int) × ((List (Int × (List Int))) × (List (Int × (List Int))))))) × Unit)))) (fun s3 => ((T.ok (.sl (.int .i64)) s3.1.2.2.1) -> ((inK .i64 s3.2.1.1) -> ((T.ok (.sl (.int .i64)) s3.2.1.2.1) -> ((T.ok (.sl (.int .i64)) s3.2.1.2.2.1) -> ((T.ok (.sl PathT) s3.2.1.2.2.2.1) -> ((T.ok (.sl PathT) s3.2.1.2.2.2.2) -> ((inK .i64 s3.2.2.1.1) -> ((T.ok (.sl (.int .i64)) s3.2.2.1.2.1) -> ((T.ok (.sl (.int .i64)) s3.2.2.1.2.2.1) -> ((T.ok (.sl PathT) s3.2.2.1.2.2.2.1) -> ((T.ok (.sl PathT) s3.2.2.1.2.2.2.2) -> (cnd (((s3.2.2.1.2.2.2.1.length : Nat) : Int) == 8) (K ((0, ([], ([], (([] : List (Int × (List Int))), ([] : List (Int × (List Int))))))), (3, ()))) ((room 0 s3.2.2.1.2.2.2.1.length 32) /\ ((0 <= s1.1.2.2.1) /\ ((s1.1.2.2.1 < ((c.2.1.length : Nat) : Int)) /\ ((room s3.2.2.1.2.2.2.1.length (List.length (((List.getD c.2.1 s1.1.2.2.1.toNat 0), s3.1.2.2.1) :: ([] : List (Int × (List Int))))) 32) /\ ((room 0 s3.2.2.1.2.2.2.2.length 32) /\ ((0 <= s1.1.2.2.1) /\ ((s1.1.2.2.1 < ((c.2.1.length : Nat) : Int)) /\ (((List.length (List.getD (wayR c (irrCR c).1) (Int.toNat (compR c s1.1.2.2.1 (List.getD (irrCR c).1 s2.1.2.2.1.toNat 0))) (0, [])).2) <= 1099511627776) /\ ((room s3.2.2.1.2.2.2.2.length (List.length (((List.getD c.2.1 s1.1.2.2.1.toNat 0), (List.getD (wayR c (irrCR c).1) (Int.toNat (compR c s1.1.2.2.1 (List.getD (irrCR c).1 s2.1.2.2.1.toNat 0))) (0, [])).2) :: ([] : List (Int × (List Int))))) 32) /\ (k (((), ((), ())), (s3.2.1, ((s3.2.2.1.1, (s3.2.2.1.2.1, (s3.2.2.1.2.2.1, ((s3.2.2.1.2.2.2.1 ++ (((List.getD c.2.1 s1.1.2.2.1.toNat 0), s3.1.2.2.1) :: ([] : List (Int × (List Int))))), (s3.2.2.1.2.2.2.2 ++ (((List.getD c.2.1 s1.1.2.2.1.toNat 0), (List.getD (wayR c (irrCR c).1) (Int.toNat (compR c s1.1.2.2.1 (List.getD (irrCR c).1 s2.1.2.2.1.toNat 0))) (0, [])).2) :: ([] : List (Int × (List Int))))))))), ())))))))))))))))))))))))))) (fun k1 => (cnd (eqR (.sl (.int .i64)) ((List.getD (wayR c (irrCR c).1) s1.1.2.2.1.toNat (0, [])).2 ++ (s2.1.2.2.1 :: [])) (List.getD (wayR c (irrCR c).1) (Int.toNat (compR c s1.1.2.2.1 (List.getD (irrCR c).1 s2.1.2.2.1.toNat 0))) (0, [])).2) (k (((), ((), ())), (s2.2.1, (s2.2.2.1, ())))) (k1 (((), ((), (((List.getD (wayR c (irrCR c).1) s1.1.2.2.1.toNat (0, [])).2 ++ (s2.1.2.2.1 :: [])), ()))), (s2.2.1, (s2.2.2.1, ())))))))))))))))))))))))))))) ((inK .i64 (s1.1.2.2.1 + 1)) /\ (next1 (((), ((), ((s1.1.2.2.1 + 1), ()))), (s2.2.1, (s2.2.2.1, ()))))))))))))))))))) (((), ((), (0, ()))), (s1.2.1, (s1.2.2.1, ())))) (cnd (!(isSchemaR s1.2.2.1)) (K ((0, ([], ([], (([] : List (Int × (List Int))), ([] : List (Int × (List Int))))))), (3, ()))) (K (s1.2.2.1, (0, ())))))))))))))))))) (((), ((), (0, ()))), (s.2.1, (s.2.2.1, ())))))))))))))))))) (((), ((), (0, ()))), ((0, ([], ([], (([] : List (Int × (List Int))), ([] : List (Int × (List Int))))))), ((c.1, ([], ([], (([] : List (Int × (List Int))), ([] : List (Int × (List Int))))))), ()))))))))
theorem w_spec_SchemaOf (x : denL c_spec_SchemaOf.args) (K : SchemaD × Int × Unit -> Prop) : evF tab ph_spec_SchemaOf (cutL [(19, 17), (21, 507), (25, 1012), (26, 1011), (11, 512), (12, 512)]) Try.f22 (bodyOf Try.f22) an_spec_SchemaOf c_spec_SchemaOf x K = W_spec_SchemaOf x.1 K := by kernel_rfl
theorem k_spec_SchemaOf : okC Try.f22.ntmps (cutL [(19, 17), (21, 507), (25, 1012), (26, 1011), (11, 512), (12, 512)]) (bodyOf Try.f22) = true := by kernel_rfl
theorem m_spec_SchemaOf (c : CategoryD) (hok : allP (okL c_spec_SchemaOf.args (c, ()))) (hpre : allP (c_spec_SchemaOf.pre (c, ()))) : W_spec_SchemaOf c (fun r => r = c_spec_SchemaOf.res (c, ())) := by
 simp only [c_spec_SchemaOf, okL, T.oks, T.ok, ap, allP, true_and, and_true, implies_true] at hok hpre
 try dsimp only [T.den] at hok
 try dsimp only [T.den] at hpre
 unfold W_spec_SchemaOf
 refine cnd_of (fun hx => ?_) (fun hx => ?_)
 ·have h : catR c = false := by rw [Bool.not_eq_true'] at hx; exact hx
  simp only [c_spec_SchemaOf, soR]; rw [if_neg (by rw [h]; simp)]; rfl
 have h : catR c = true := by rw [Bool.not_eq_false'] at hx; exact hx
 have hirr : (irrCR c).1 = irrR c := by unfold irrCR; rw [if_pos h]
 have S := cat_shp h
 have hw := irr_within (c := c)
 simp only [hirr]
 refine ⟨S, hw, cnd_of (fun hy => ?_) (fun hy => ?_)⟩
 ·have h2 : lpOkR c (irrR c) = false := by rw [Bool.not_eq_true'] at hy; exact hy
  simp only [c_spec_SchemaOf, soR]; rw [if_pos h, if_neg (by rw [h2]; simp)]; rfl
 have h2 : lpOkR c (irrR c) = true := by rw [Bool.not_eq_false'] at hy; exact hy
 clear hok hpre hx hy
 have hres : soR c = if isSchemaR (soT c (soF c c.2.1.length)) = true then (soT c (soF c c.2.1.length), 0) else (soZ, 3) := by rw [soR, if_pos h, if_pos h2]; rfl
 have hm := S.m
 have hlc := S.lc
 have hlt := S.lt
 have hil := irr_len (c := c)
 have hwl : (wayR c (irrR c)).length = c.2.1.length := wy_len
 have hwr : ∀ f : Int, 0 <= f -> f < c.2.1.length -> ((wayR c (irrR c)).getD f.toNat (0, [])).2 = lpRow c f := fun f f0 f1 => way_row S h2 f0 f1
 refine loop_of (fun (s : ((Unit × (Unit × (Int × Unit))) × ((Int × ((List Int) × ((List Int) × ((List (Int × (List Int))) × (List (Int × (List Int))))))) × ((Int × ((List Int) × ((List Int) × ((List (Int × (List Int))) × (List (Int × (List Int))))))) × Unit)))) => 0 <= s.1.2.2.1 /\ s.1.2.2.1 <= (irrR c).length /\ s.2.2.1 = (c.1, thenR ((irrR c).take s.1.2.2.1.toNat) c.2.1, thenR ((irrR c).take s.1.2.2.1.toNat) c.2.2.1, [], [])) (fun (s : ((Unit × (Unit × (Int × Unit))) × ((Int × ((List Int) × ((List Int) × ((List (Int × (List Int))) × (List (Int × (List Int))))))) × ((Int × ((List Int) × ((List Int) × ((List (Int × (List Int))) × (List (Int × (List Int))))))) × Unit)))) => ((irrR c).length - s.1.2.2.1).toNat) ?_ ⟨by dsimp only; omega, by dsimp only; omega, rfl⟩
 rintro ⟨⟨_, _, i, _⟩, z, s, _⟩ next ⟨i0, i1, hs⟩ hnx hin _ _ _ _ _ _ _ _ _ _
 try dsimp only at i0 i1 hs hnx hin ⊢
 subst hs
 refine cnd_d (fun hi => ?_) (fun hi => ?_)
 ·have hge := within_iff.1 hw i i0 hi
  have htc := take_c (irrR c) 0 i0 hi
  have hl1 : (thenR ((irrR c).take i.toNat) c.2.1).length <= 40 := by unfold thenR; rw [List.length_map, List.length_take]; omega
  have hl2 : (thenR ((irrR c).take i.toNat) c.2.2.1).length <= 40 := by unfold thenR; rw [List.length_map, List.length_take]; omega
  refine ⟨by dsimp only; omega, i0, hi, hge.1, hge.2, room_of (by dsimp only; simp only [List.length_cons, List.length_nil]; omega), by dsimp only; omega, i0, hi, hge.1, by omega, room_of (by dsimp only; simp only [List.length_cons, List.length_nil]; omega), by rw [inK64]; (try dsimp only); omega, hnx _ ⟨by dsimp only; omega, by dsimp only; omega, ?_⟩ (by dsimp only; omega)⟩
  try dsimp only
  rw [htc]
  simp only [thenR, List.map_append, List.map_cons, List.map_nil]
 have hie : i.toNat = (irrR c).length := by omega
 rw [hie, List.take_length]
 clear hi hnx next
 refine loop_of (fun (s : ((Unit × (Unit × (Int × Unit))) × ((Int × ((List Int) × ((List Int) × ((List (Int × (List Int))) × (List (Int × (List Int))))))) × ((Int × ((List Int) × ((List Int) × ((List (Int × (List Int))) × (List (Int × (List Int))))))) × Unit)))) => 0 <= s.1.2.2.1 /\ s.1.2.2.1 <= c.2.1.length /\ s.2.2.1 = soT c (soF c s.1.2.2.1.toNat)) (fun (s : ((Unit × (Unit × (Int × Unit))) × ((Int × ((List Int) × ((List Int) × ((List (Int × (List Int))) × (List (Int × (List Int))))))) × ((Int × ((List Int) × ((List Int) × ((List (Int × (List Int))) × (List (Int × (List Int))))))) × Unit)))) => (c.2.1.length - s.1.2.2.1).toNat) ?_ ⟨by dsimp only; omega, by dsimp only; omega, rfl⟩
 rintro ⟨⟨_, _, i, _⟩, z, s, _⟩ next ⟨i0, i1, hs⟩ hnx hin _ _ _ _ _ _ _ _ _ _
 try dsimp only at i0 i1 hs hnx hin ⊢
 subst hs
 have hF := soF_len (c := c) i.toNat
 have hF1 : (soF c i.toNat).1.length <= 40 * 40 := Nat.le_trans hF.1 (Nat.mul_le_mul (by omega) (by omega))
 refine cnd_d (fun hi => ?_) (fun hi => ?_)
 ·refine loop_of (fun (s : ((Unit × (Unit × (Int × Unit))) × ((Int × ((List Int) × ((List Int) × ((List (Int × (List Int))) × (List (Int × (List Int))))))) × ((Int × ((List Int) × ((List Int) × ((List (Int × (List Int))) × (List (Int × (List Int))))))) × Unit)))) => 0 <= s.1.2.2.1 /\ s.1.2.2.1 <= (irrR c).length /\ s.2.2.1 = soT c (soE c i (soF c i.toNat) s.1.2.2.1.toNat)) (fun (s : ((Unit × (Unit × (Int × Unit))) × ((Int × ((List Int) × ((List Int) × ((List (Int × (List Int))) × (List (Int × (List Int))))))) × ((Int × ((List Int) × ((List Int) × ((List (Int × (List Int))) × (List (Int × (List Int))))))) × Unit)))) => ((irrR c).length - s.1.2.2.1).toNat) ?_ ⟨by dsimp only; omega, by dsimp only; omega, rfl⟩
  rintro ⟨⟨_, _, e, _⟩, z2, s2, _⟩ next2 ⟨e0, e1, hs⟩ hnx2 hin2 _ _ _ _ _ _ _ _ _ _
  try dsimp only at e0 e1 hs hnx2 hin2 ⊢
  subst hs
  have hE := soE_len (c := c) (f := i) hF.2 e.toNat
  refine cnd_d (fun he => ?_) (fun he => ?_)
  ·have hge := within_iff.1 hw e e0 he
   have hrow := S.row i i0 hi
   have hst := soE_s (c := c) (f := i) (s := soF c i.toNat) e0
   refine join_of (fun (q : ((Unit × (Unit × Unit)) × ((Int × ((List Int) × ((List Int) × ((List (Int × (List Int))) × (List (Int × (List Int))))))) × ((Int × ((List Int) × ((List Int) × ((List (Int × (List Int))) × (List (Int × (List Int))))))) × Unit)))) => q.2.2.1 = soT c (soE c i (soF c i.toNat) (e + 1).toNat)) (fun q hq _ _ _ _ _ _ _ _ _ _ => ⟨by rw [inK64]; (try dsimp only); omega, hnx2 _ ⟨by dsimp only; omega, by dsimp only; omega, hq⟩ (by dsimp only; omega)⟩) (fun k hk => ?_)
   refine ⟨S, i0, hi, fun _ => ⟨he, e0⟩, fun _ => ⟨hge.2, hge.1⟩, fun _ => ⟨by omega, i0⟩, cnd_of (fun hc => hk _ ?_) (fun hc => ?_)⟩
   ·have hq : soQ c i e = true := by
     unfold soQ
     rw [Bool.or_eq_true] at hc
     rcases hc with hc | hc
     ·rw [hc]; simp
     ·rw [bne_iff_ne] at hc
      rw [S.no i0 hi hge.1 hge.2 (Ne.symm hc)]; rfl
    rw [hst, if_pos hq]
   ·rw [Bool.or_eq_false_iff, bne_eq_false_iff_eq] at hc
    obtain ⟨hc1, hc2⟩ := hc
    obtain ⟨hh0, hh1, _, _⟩ := S.yes i0 hi hge.1 hge.2 hc2.symm
    have hp1 := lp_row S i
    have hp2 := lp_row S (compR c i ((irrR c).getD e.toNat 0))
    have hqe : soQ c i e = eqR (.sl (.int .i64)) (lpRow c i ++ [e]) (lpRow c (compR c i ((irrR c).getD e.toNat 0))) := by
     unfold soQ
     rw [hc1, decide_eq_false (by omega)]; rfl
    rw [hwr i i0 hi, hwr _ hh0 hh1]
    refine ⟨i0, by omega, by omega, room_of (by simp only [List.length_cons, List.length_nil]; omega), e0, he, i0, by omega, hge.1, by rw [hrow]; exact hge.2, hh0, by omega, ?_⟩
    refine join_of (fun (q : ((Unit × (Unit × ((List Int) × Unit))) × ((Int × ((List Int) × ((List Int) × ((List (Int × (List Int))) × (List (Int × (List Int))))))) × ((Int × ((List Int) × ((List Int) × ((List (Int × (List Int))) × (List (Int × (List Int))))))) × Unit)))) => q.1.2.2.1 = lpRow c i ++ [e] /\ q.2.2.1 = soT c (soE c i (soF c i.toNat) e.toNat) /\ soQ c i e = false) ?_ (fun k1 hk1 => cnd_of (fun hz => hk _ ?_) (fun hz => hk1 _ ⟨rfl, rfl, by rw [hqe]; exact hz⟩))
    ·rintro ⟨⟨_, _, l, _⟩, z3, s3, _⟩ ⟨hl, hs3, hq⟩ _ _ _ _ _ _ _ _ _ _ _
     try dsimp only at hl hs3 ⊢
     subst hl; subst hs3
     refine cnd_of (fun h8 => ?_) (fun h8 => ?_)
     ·have h8' : (soE c i (soF c i.toNat) e.toNat).1.length = 8 := by
       rw [beq_iff_eq] at h8
       have : (soT c (soE c i (soF c i.toNat) e.toNat)).2.2.2.1 = (soE c i (soF c i.toNat) e.toNat).1 := rfl
       rw [this] at h8
       omega
      have hz2 := so_many i0 hi e0 he h8' hq
      simp only [c_spec_SchemaOf, hres]; rw [if_neg (by rw [hz2]; simp)]; rfl
     ·refine ⟨room_of (by dsimp only [soT]; omega), i0, hi, room_of (by dsimp only [soT]; simp only [List.length_cons, List.length_nil]; omega), room_of (by dsimp only [soT]; omega), i0, hi, by omega, room_of (by dsimp only [soT]; simp only [List.length_cons, List.length_nil]; omega), hk _ ?_⟩
      rw [hst, if_neg (by rw [hq]; simp)]
      rfl
    ·rw [hst, if_pos (by rw [hqe]; exact hz)]
  ·have hee : e.toNat = (irrR c).length := by omega
   rw [hee]
   refine ⟨by rw [inK64]; (try dsimp only); omega, hnx _ ⟨by dsimp only; omega, by dsimp only; omega, ?_⟩ (by dsimp only; omega)⟩
   try dsimp only
   rw [soF_s i0]
 ·have hie : i.toNat = c.2.1.length := by omega
  rw [hie]
  refine cnd_of (fun hz => ?_) (fun hz => ?_)
  ·have hz2 : isSchemaR (soT c (soF c c.2.1.length)) = false := by rw [Bool.not_eq_true'] at hz; exact hz
   simp only [c_spec_SchemaOf, hres]; rw [if_neg (by rw [hz2]; simp)]; rfl
  ·have hz2 : isSchemaR (soT c (soF c c.2.1.length)) = true := by rw [Bool.not_eq_false'] at hz; exact hz
   simp only [c_spec_SchemaOf, hres]; rw [if_pos hz2]
theorem ct_spec_SchemaOf : CtOk Try.prog 22 c_spec_SchemaOf :=
 ct_by (Φ := ph_spec_SchemaOf) (good_cons ct_spec_IrreducibleArrows (good_cons ct_spec_IsSchema (good_cons ct_spec_l01Own (good_cons ct_spec_l01Same (good_cons ct_spec_l02Is (good_cons ct_spec_l02Then (good_cons ct_spec_l02Unit (good_cons ct_spec_l36Ways good_nil)))))))) tab_ok (by kernel_rfl) (fn := Try.f22) (c := bodyOf Try.f22) (by kernel_rfl) (by kernel_rfl) (by kernel_rfl) c_spec_SchemaOf rfl an_spec_SchemaOf (cutL [(19, 17), (21, 507), (25, 1012), (26, 1011), (11, 512), (12, 512)]) (by kernel_rfl) (by kernel_rfl) k_spec_SchemaOf (by decide) (fun x K => W_spec_SchemaOf x.1 K) w_spec_SchemaOf (fun x h1 h2 => m_spec_SchemaOf x.1 h1 h2)
theorem ck_paths (B : Nat) : ∀ l : List PathD, (∀ p ∈ l, p.2.length <= B) -> ckR (.sl PathT) l <= l.length * (B + 1)
 | [], _ => Nat.zero_le _
 | p :: r, h => by
  have h1 := ck_paths B r fun q hq => h q (by simp [hq])
  have h2 := h p (by simp)
  have h3 : ckR (.sl PathT) (p :: r) = (1 + ckR (.sl (.int .i64)) p.2) + ckR (.sl PathT) r := rfl
  rw [h3, ck_ints, List.length_cons, Nat.add_mul]
  omega
theorem soE_rows {c : CategoryD} (S : ShapeP c) {f : Int} {s : List PathD × List PathD} (h1 : ∀ p ∈ s.1, p.2.length <= 41) (h2 : ∀ p ∈ s.2, p.2.length <= 41) : ∀ k : Nat, (∀ p ∈ (soE c f s k).1, p.2.length <= 41) /\ ∀ p ∈ (soE c f s k).2, p.2.length <= 41
 | 0 => ⟨h1, h2⟩
 | k + 1 => by
  obtain ⟨a, b⟩ := soE_rows S (f := f) h1 h2 k
  have hm := S.m
  rw [soE]
  split
  ·exact ⟨a, b⟩
  ·have r1 := lp_row S f
   have r2 := lp_row S (compR c f ((irrR c).getD k 0))
   refine ⟨fun p hp => ?_, fun p hp => ?_⟩
   ·simp only [List.mem_append, List.mem_singleton] at hp
    rcases hp with hp | rfl
    ·exact a p hp
    ·simp only [List.length_append, List.length_singleton]; omega
   ·simp only [List.mem_append, List.mem_singleton] at hp
    rcases hp with hp | rfl
    ·exact b p hp
    ·dsimp only; omega
theorem soF_rows {c : CategoryD} (S : ShapeP c) : ∀ k : Nat, (∀ p ∈ (soF c k).1, p.2.length <= 41) /\ ∀ p ∈ (soF c k).2, p.2.length <= 41
 | 0 => ⟨fun p hp => absurd hp (by simp [soF]), fun p hp => absurd hp (by simp [soF])⟩
 | k + 1 => by
  obtain ⟨a, b⟩ := soF_rows S k
  rw [soF]
  exact soE_rows S a b _
def c_laws_FnExactSchemaOf : Ct := ⟨[CategoryT], [true], fun x => [], [(false, (.fz .bool))], fun x => (true, ()), false, none⟩
def ph_laws_FnExactSchemaOf : FuncId -> Option Ct := lkp [(23, c_impl_SchemaOf), (19, c_laws_eqCategory), (24, c_laws_eqSchema), (26, c_laws_heldSchema), (20, c_laws_markCategory), (25, c_laws_markSchema), (15, c_laws_szCategory), (17, c_laws_toCategory), (22, c_spec_SchemaOf)]
def W_laws_FnExactSchemaOf (aC : CategoryD) (K : Bool × Unit -> Prop) : Prop := (((-4611404543450677248) <= 1048576) /\ (cnd (decide ((szR (wR CategoryT aC) 1048576) < 0)) (K (true, ())) (((wR CategoryT aC) <= 1099511627776) /\ (((wR CategoryT aC) <= 1099511627776) /\ (cnd ((!(eqR SchemaT (soR aC).1 (soR aC).1)) || ((soR aC).2 != (soR aC).2)) (K (false, ())) (((wR CategoryT aC) <= 1099511627776) /\ (cnd (!(eqR CategoryT aC aC)) (K (false, ())) (((0 : Int) <= 1) /\ (((1 + (((ctR CategoryT aC) : Nat) : Int)) <= 4611686018427387904) /\ (cnd (((decide ((mtR CategoryT aC 1).2 < 0)) || (!(eqR SchemaT (soR aC).1 (soR aC).1))) || ((soR aC).2 != (soR aC).2)) (K (false, ())) (((0 : Int) <= 1) /\ (((1 + (((ctR SchemaT (soR aC).1) : Nat) : Int)) <= 4611686018427387904) /\ (((0 : Int) <= 1) /\ (((1 + (((ctR SchemaT (mtR SchemaT (soR aC).1 1).1) : Nat) : Int)) <= 4611686018427387904) /\ (cnd (decide ((htR SchemaT (mtR SchemaT (soR aC).1 1).1 1) < 0)) (K (false, ())) (cnd ((htR SchemaT (mtR SchemaT (soR aC).1 1).1 1) != (mtR SchemaT (soR aC).1 1).2) (K (false, ())) (((wR CategoryT aC) <= 1099511627776) /\ (cnd ((!(eqR SchemaT (soR aC).1 (soR aC).1)) || ((soR aC).2 != (soR aC).2)) (K (false, ())) (((0 : Int) <= 1) /\ (((1 + (((ctR SchemaT (mtR SchemaT (soR aC).1 1).1) : Nat) : Int)) <= 4611686018427387904) /\ (cnd (decide ((htR SchemaT (mtR SchemaT (soR aC).1 1).1 1) < 0)) (K (false, ())) (cnd ((htR SchemaT (mtR SchemaT (soR aC).1 1).1 1) != (mtR SchemaT (soR aC).1 1).2) (K (false, ())) (K (true, ()))))))))))))))))))))))))
theorem w_laws_FnExactSchemaOf (x : denL c_laws_FnExactSchemaOf.args) (K : Bool × Unit -> Prop) : evF tab ph_laws_FnExactSchemaOf (cutL [(10, 503)]) Try.f5 (bodyOf Try.f5) .n c_laws_FnExactSchemaOf x K = W_laws_FnExactSchemaOf x.1 K := by kernel_rfl
theorem k_laws_FnExactSchemaOf : okC Try.f5.ntmps (cutL [(10, 503)]) (bodyOf Try.f5) = true := by kernel_rfl
theorem m_laws_FnExactSchemaOf (aC : CategoryD) (hok : allP (okL c_laws_FnExactSchemaOf.args (aC, ()))) (hpre : allP (c_laws_FnExactSchemaOf.pre (aC, ()))) : W_laws_FnExactSchemaOf aC (fun r => r = c_laws_FnExactSchemaOf.res (aC, ())) := by
 simp only [c_laws_FnExactSchemaOf, okL, T.oks, T.ok, ap, allP, true_and, and_true, implies_true] at hok hpre
 try dsimp only [T.den] at hok
 try dsimp only [T.den] at hpre
 unfold W_laws_FnExactSchemaOf
 have hg : ctR SchemaT (soR aC).1 <= 1728 := by
  unfold soR
  split
  ·rename_i h
   have S := cat_shp h
   split
   ·split
    ·rename_i hz
     have hm := S.m
     have hil := irr_len (c := aC)
     have h8 : (soF aC aC.2.1.length).1.length <= 8 := by
      unfold isSchemaR at hz
      simp only [Bool.and_eq_true, decide_eq_true_eq] at hz
      exact hz.1.1.2
     have h9 := (soF_len (c := aC) aC.2.1.length).2
     obtain ⟨r1, r2⟩ := soF_rows S aC.2.1.length
     have c1 := ck_paths 41 _ r1
     have c2 := ck_paths 41 _ r2
     have l1 : (thenR (irrR aC) aC.2.1).length = (irrR aC).length := by unfold thenR; rw [List.length_map]
     have l2 : (thenR (irrR aC) aC.2.2.1).length = (irrR aC).length := by unfold thenR; rw [List.length_map]
     show 0 + (ckR (.sl (.int .i64)) (thenR (irrR aC) aC.2.1) + (ckR (.sl (.int .i64)) (thenR (irrR aC) aC.2.2.1) + (ckR (.sl PathT) (soF aC aC.2.1.length).1 + ckR (.sl PathT) (soF aC aC.2.1.length).2))) <= 1728
     rw [ck_ints, ck_ints, l1, l2]
     omega
    ·exact Nat.zero_le _
   ·exact Nat.zero_le _
  ·exact Nat.zero_le _
 have e1 := ct_le CategoryT (by decide) aC
 have e3 := @ht_mt1 SchemaT (soR aC).1 1
 simp only [Int.ofNat_one, Int.natCast_one] at e3
 simp only [wR_ints]
 simp only [eqR_self, mk_num, mt_num, ck_mk, ct_mt, e3, ck_ints, szR_neg]
 generalize wR CategoryT aC = n1 at *
 generalize ctR CategoryT aC = n2 at *
 generalize ctR SchemaT (soR aC).1 = n3 at *
 generalize (soR aC) = g at *
 clear hok
 repeat' (first | rfl | (refine cnd_d (fun _ => rfl) (fun h => ?_)) | (refine cnd_of (fun h => absurd h (by first | (simp; done) | (simp; omega))) (fun _ => ?_)) | (refine ⟨by omega, ?_⟩))
theorem ct_laws_FnExactSchemaOf : CtOk Try.prog 5 c_laws_FnExactSchemaOf :=
 ct_by (Φ := ph_laws_FnExactSchemaOf) (good_cons ct_impl_SchemaOf (good_cons ct_laws_eqCategory (good_cons ct_laws_eqSchema (good_cons ct_laws_heldSchema (good_cons ct_laws_markCategory (good_cons ct_laws_markSchema (good_cons ct_laws_szCategory (good_cons ct_laws_toCategory (good_cons ct_spec_SchemaOf good_nil))))))))) tab_ok (by kernel_rfl) (fn := Try.f5) (c := bodyOf Try.f5) (by kernel_rfl) (by kernel_rfl) (by kernel_rfl) c_laws_FnExactSchemaOf rfl .n (cutL [(10, 503)]) (by kernel_rfl) (by kernel_rfl) k_laws_FnExactSchemaOf (by decide) (fun x K => W_laws_FnExactSchemaOf x.1 K) w_laws_FnExactSchemaOf (fun x h1 h2 => m_laws_FnExactSchemaOf x.1 h1 h2)
end Go.Bm
