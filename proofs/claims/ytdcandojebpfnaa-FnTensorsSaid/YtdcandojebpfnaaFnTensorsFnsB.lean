/- What the functions that FnTensors reaches give: for each its contract, what it asks, and the proof. No condition. -/
import Derived.Test.YtdcandojebpfnaaFnTensorsFnsA
namespace Go.Bm
open Go.Proofs
set_option maxRecDepth 100000
set_option maxHeartbeats 1000000
set_option linter.unusedVariables false
set_option linter.unusedSimpArgs false
noncomputable section
structure RowP (n : Int) (m : List (List Int)) : Prop where
 l : (m.length : Int) = n
 r : ∀ r ∈ m, (r.length : Int) = n
theorem RowP.row {n : Int} {m : List (List Int)} (h : RowP n m) {i : Int} (i0 : 0 <= i) (i1 : i < n) : ((m.getD i.toNat []).length : Int) = n := h.r _ (getD_mem m [] i0 (by have := h.l; omega))
theorem RowP.set {n : Int} {m : List (List Int)} (h : RowP n m) {i : Int} (i0 : 0 <= i) (i1 : i < n) {j : Nat} {x : Int} : RowP n (m.set i.toNat ((m.getD i.toNat []).set j x)) :=
 ⟨by rw [List.length_set]; exact h.l, fun r hr => by
  rcases List.mem_or_eq_of_mem_set hr with hr | hr
  ·exact h.r r hr
  ·rw [hr, List.length_set]; exact h.row i0 i1⟩
theorem RowP.tbl {n : Int} {m : List (List Int)} (h : RowP n m) (n0 : 1 <= n) (n1 : n <= 8) : TblR m :=
 ⟨by have := h.l; omega, by have := h.l; omega, fun r hr => by have := h.l; have := h.r r hr; omega⟩
def w1_spec_l02Relation : Wt := ⟨(.pt (.fz spec_l01SourceT)), [(.int .i64)], [false], fun x y => [SrcR x, 1 <= y.1, y.1 <= 8], fun x _ => x, [(false, (.sl (.sl (.fz (.int .i64)))))], fun _ _ => dfR _⟩
def Q_spec_l02Relation (s : spec_l01SourceD) (n : Int) (z : spec_l01SourceD) (r0 : List (List Int)) : Prop := SrcR z /\ TblR r0 /\ (r0.length : Int) = n
def an_spec_l02Relation : Ann := (.s .n (.s .n (.s (.s .n (.l [(0, (.ad 1000000 [.de])), (5, (.ref 800005 [])), (6, (.d (.int .i64)))] [(1000000, (.pt (.fz (.p (.sl (.int .u8)) (.p (.int .i64) (.int .u64)))))), (800005, (.sl (.sl (.fz (.int .i64)))))] [1] (.s .n (.s (.s .n (.s .n (.s (.s .n (.l [(0, (.ad 1000000 [.de])), (5, (.ref 800005 [])), (7, (.ref 19 [])), (8, (.d (.int .i64)))] [(1000000, (.pt (.fz (.p (.sl (.int .u8)) (.p (.int .i64) (.int .u64)))))), (800005, (.sl (.sl (.fz (.int .i64))))), (19, (.sl (.fz (.int .i64))))] [1, 6] .n)) .n))) .n)))) (.s (.s .n (.j [(0, (.ad 1000000 [.de])), (5, (.ref 800005 []))] [(1000000, (.pt (.fz (.p (.sl (.int .u8)) (.p (.int .i64) (.int .u64)))))), (800005, (.sl (.sl (.fz (.int .i64)))))] [1] .n)) (.s (.s .n (.l [(0, (.ad 1000000 [.de])), (5, (.ref 800005 [])), (9, (.d (.int .i64)))] [(1000000, (.pt (.fz (.p (.sl (.int .u8)) (.p (.int .i64) (.int .u64)))))), (800005, (.sl (.sl (.fz (.int .i64)))))] [1] (.s .n (.s (.s .n (.l [(0, (.ad 1000000 [.de])), (5, (.ref 800005 [])), (10, (.d (.int .i64)))] [(1000000, (.pt (.fz (.p (.sl (.int .u8)) (.p (.int .i64) (.int .u64)))))), (800005, (.sl (.sl (.fz (.int .i64)))))] [1, 9] (.s .n (.s (.s .n (.l [(0, (.ad 1000000 [.de])), (5, (.ref 800005 [])), (11, (.d (.int .i64)))] [(1000000, (.pt (.fz (.p (.sl (.int .u8)) (.p (.int .i64) (.int .u64)))))), (800005, (.sl (.sl (.fz (.int .i64)))))] [1, 9, 10] (.s .n (.s (.s .n (.j [(0, (.ad 1000000 [.de])), (5, (.ref 800005 []))] [(1000000, (.pt (.fz (.p (.sl (.int .u8)) (.p (.int .i64) (.int .u64)))))), (800005, (.sl (.sl (.fz (.int .i64)))))] [1, 9, 10, 11] .n)) .n)))) .n)))) .n)))) .n)))))
def W_spec_l02Relation (s : spec_l01SourceD) (n : Int) (K : spec_l01SourceD -> ((List (List Int)) × Unit) -> Prop) : Prop := (loopW (S := ((Unit × (Unit × (Int × Unit))) × (((List Int) × (Int × Int)) × ((List (List Int)) × Unit)))) (fun s1 => (fun next => ((inK .i64 s1.1.2.2.1) -> ((T.ok (.sl (.int .u8)) s1.2.1.1) -> ((inK .i64 s1.2.1.2.1) -> ((inK .u64 s1.2.1.2.2) -> ((T.ok (.sl (.sl (.int .i64))) s1.2.2.1) -> (cnd (decide (s1.1.2.2.1 < n)) ((0 <= n) /\ ((n <= n) /\ ((n <= ((140737488355328 : Nat) : Int)) /\ (((n * ((8 : Nat) : Int)) <= ((140737488355328 : Nat) : Int)) /\ ((0 <= s1.1.2.2.1) /\ ((s1.1.2.2.1 < (((List.length (List.replicate n.toNat (0 :Int))) : Nat) : Int)) /\ ((inK .i64 (s1.1.2.2.1 + 1)) /\ (loopW (S := ((Unit × (Unit × (Unit × (Int × Unit)))) × (((List Int) × (Int × Int)) × ((List (List Int)) × ((List Int) × Unit))))) (fun s2 => (fun next1 => ((inK .i64 s2.1.2.2.2.1) -> ((T.ok (.sl (.int .u8)) s2.2.1.1) -> ((inK .i64 s2.2.1.2.1) -> ((inK .u64 s2.2.1.2.2) -> ((T.ok (.sl (.sl (.int .i64))) s2.2.2.1) -> ((T.ok (.sl (.int .i64)) s2.2.2.2.1) -> (cnd (decide (s2.1.2.2.2.1 < n)) ((0 <= s2.2.1.2.1) /\ ((0 <= s2.1.2.2.2.1) /\ ((s2.1.2.2.2.1 < ((s2.2.2.2.1.length : Nat) : Int)) /\ ((inK .i64 (s2.1.2.2.2.1 + 1)) /\ (next1 (((), ((), ((), ((s2.1.2.2.2.1 + 1), ())))), ((spec_l01Next_zR s2.2.1 2), (s2.2.2.1, ((List.set s2.2.2.2.1 s2.1.2.2.2.1.toNat (spec_l01Next_r0R s2.2.1 2)), ()))))))))) ((room s2.2.2.1.length (List.length (s2.2.2.2.1 :: [])) 24) /\ ((inK .i64 (s1.1.2.2.1 + 1)) /\ (next (((), ((), ((s1.1.2.2.1 + 1), ()))), (s2.2.1, ((s2.2.2.1 ++ (s2.2.2.2.1 :: [])), ()))))))))))))))) (((), ((), ((), ((s1.1.2.2.1 + 1), ())))), (s1.2.1, (s1.2.2.1, ((List.set (List.replicate n.toNat (0 :Int)) s1.1.2.2.1.toNat 1), ())))))))))))) (ifP ((decide (1 < n)) = true) ((0 <= s1.2.1.2.1) /\ (joinW (S := ((Unit × (Unit × Unit)) × (((List Int) × (Int × Int)) × ((List (List Int)) × Unit)))) (fun s2 => ((T.ok (.sl (.int .u8)) s2.2.1.1) -> ((inK .i64 s2.2.1.2.1) -> ((inK .u64 s2.2.1.2.2) -> ((T.ok (.sl (.sl (.int .i64))) s2.2.2.1) -> (loopW (S := ((Unit × (Unit × (Int × Unit))) × (((List Int) × (Int × Int)) × ((List (List Int)) × Unit)))) (fun s3 => (fun next1 => ((inK .i64 s3.1.2.2.1) -> ((T.ok (.sl (.int .u8)) s3.2.1.1) -> ((inK .i64 s3.2.1.2.1) -> ((inK .u64 s3.2.1.2.2) -> ((T.ok (.sl (.sl (.int .i64))) s3.2.2.1) -> (cnd (decide (s3.1.2.2.1 < n)) (loopW (S := ((Unit × (Unit × (Int × Unit))) × (((List Int) × (Int × Int)) × ((List (List Int)) × Unit)))) (fun s4 => (fun next2 => ((inK .i64 s4.1.2.2.1) -> ((T.ok (.sl (.int .u8)) s4.2.1.1) -> ((inK .i64 s4.2.1.2.1) -> ((inK .u64 s4.2.1.2.2) -> ((T.ok (.sl (.sl (.int .i64))) s4.2.2.1) -> (cnd (decide (s4.1.2.2.1 < n)) (loopW (S := ((Unit × (Unit × (Int × Unit))) × (((List Int) × (Int × Int)) × ((List (List Int)) × Unit)))) (fun s5 => (fun next3 => ((inK .i64 s5.1.2.2.1) -> ((T.ok (.sl (.int .u8)) s5.2.1.1) -> ((inK .i64 s5.2.1.2.1) -> ((inK .u64 s5.2.1.2.2) -> ((T.ok (.sl (.sl (.int .i64))) s5.2.2.1) -> (cnd (decide (s5.1.2.2.1 < n)) ((0 <= s4.1.2.2.1) /\ ((s4.1.2.2.1 < ((s5.2.2.1.length : Nat) : Int)) /\ ((0 <= s3.1.2.2.1) /\ ((s3.1.2.2.1 < (((List.length (List.getD s5.2.2.1 s4.1.2.2.1.toNat [])) : Nat) : Int)) /\ (((((List.getD (List.getD s5.2.2.1 s4.1.2.2.1.toNat []) s3.1.2.2.1.toNat 0) == 1) = true) -> ((s3.1.2.2.1 < ((s5.2.2.1.length : Nat) : Int)) /\ (0 <= s3.1.2.2.1))) /\ (((((List.getD (List.getD s5.2.2.1 s4.1.2.2.1.toNat []) s3.1.2.2.1.toNat 0) == 1) = true) -> ((s5.1.2.2.1 < (((List.length (List.getD s5.2.2.1 s3.1.2.2.1.toNat [])) : Nat) : Int)) /\ (0 <= s5.1.2.2.1))) /\ (joinW (S := ((Unit × (Unit × Unit)) × (((List Int) × (Int × Int)) × ((List (List Int)) × Unit)))) (fun s6 => ((T.ok (.sl (.int .u8)) s6.2.1.1) -> ((inK .i64 s6.2.1.2.1) -> ((inK .u64 s6.2.1.2.2) -> ((T.ok (.sl (.sl (.int .i64))) s6.2.2.1) -> ((inK .i64 (s5.1.2.2.1 + 1)) /\ (next3 (((), ((), ((s5.1.2.2.1 + 1), ()))), (s6.2.1, (s6.2.2.1, ())))))))))) (fun k => (cnd (((List.getD (List.getD s5.2.2.1 s4.1.2.2.1.toNat []) s3.1.2.2.1.toNat 0) == 1) && ((List.getD (List.getD s5.2.2.1 s3.1.2.2.1.toNat []) s5.1.2.2.1.toNat 0) == 1)) ((0 <= s4.1.2.2.1) /\ ((s4.1.2.2.1 < ((s5.2.2.1.length : Nat) : Int)) /\ ((0 <= s5.1.2.2.1) /\ ((s5.1.2.2.1 < (((List.length (List.getD s5.2.2.1 s4.1.2.2.1.toNat [])) : Nat) : Int)) /\ (k (((), ((), ())), (s5.2.1, ((List.set s5.2.2.1 s4.1.2.2.1.toNat (List.set (List.getD s5.2.2.1 s4.1.2.2.1.toNat []) s5.1.2.2.1.toNat 1)), ())))))))) (k (((), ((), ())), (s5.2.1, (s5.2.2.1, ()))))))))))))) ((inK .i64 (s4.1.2.2.1 + 1)) /\ (next2 (((), ((), ((s4.1.2.2.1 + 1), ()))), (s5.2.1, (s5.2.2.1, ()))))))))))))) (((), ((), (0, ()))), (s4.2.1, (s4.2.2.1, ())))) ((inK .i64 (s3.1.2.2.1 + 1)) /\ (next1 (((), ((), ((s3.1.2.2.1 + 1), ()))), (s4.2.1, (s4.2.2.1, ()))))))))))))) (((), ((), (0, ()))), (s3.2.1, (s3.2.2.1, ())))) (K s3.2.1 (s3.2.2.1, ())))))))))) (((), ((), (0, ()))), (s2.2.1, (s2.2.2.1, ()))))))))) (fun k => (cnd ((decide (1 < n)) && ((spec_l01Next_r0R s1.2.1 4) == 0)) ((inK .i64 (n - 1)) /\ ((0 <= (n - 1)) /\ (((n - 1) < ((s1.2.2.1.length : Nat) : Int)) /\ ((0 <= (spec_l01Next_zR s1.2.1 4).2.1) /\ ((0 <= (spec_l01Next_r0R (spec_l01Next_zR s1.2.1 4) n)) /\ (((spec_l01Next_r0R (spec_l01Next_zR s1.2.1 4) n) < (((List.length (List.getD s1.2.2.1 (Int.toNat (n - 1)) [])) : Nat) : Int)) /\ (k (((), ((), ())), ((spec_l01Next_zR (spec_l01Next_zR s1.2.1 4) n), ((List.set s1.2.2.1 (Int.toNat (n - 1)) (List.set (List.getD s1.2.2.1 (Int.toNat (n - 1)) []) (Int.toNat (spec_l01Next_r0R (spec_l01Next_zR s1.2.1 4) n)) 1)), ())))))))))) (k (((), ((), ())), ((spec_l01Next_zR s1.2.1 4), (s1.2.2.1, ())))))))) (joinW (S := ((Unit × (Unit × Unit)) × (((List Int) × (Int × Int)) × ((List (List Int)) × Unit)))) (fun s2 => ((T.ok (.sl (.int .u8)) s2.2.1.1) -> ((inK .i64 s2.2.1.2.1) -> ((inK .u64 s2.2.1.2.2) -> ((T.ok (.sl (.sl (.int .i64))) s2.2.2.1) -> (loopW (S := ((Unit × (Unit × (Int × Unit))) × (((List Int) × (Int × Int)) × ((List (List Int)) × Unit)))) (fun s3 => (fun next1 => ((inK .i64 s3.1.2.2.1) -> ((T.ok (.sl (.int .u8)) s3.2.1.1) -> ((inK .i64 s3.2.1.2.1) -> ((inK .u64 s3.2.1.2.2) -> ((T.ok (.sl (.sl (.int .i64))) s3.2.2.1) -> (cnd (decide (s3.1.2.2.1 < n)) (loopW (S := ((Unit × (Unit × (Int × Unit))) × (((List Int) × (Int × Int)) × ((List (List Int)) × Unit)))) (fun s4 => (fun next2 => ((inK .i64 s4.1.2.2.1) -> ((T.ok (.sl (.int .u8)) s4.2.1.1) -> ((inK .i64 s4.2.1.2.1) -> ((inK .u64 s4.2.1.2.2) -> ((T.ok (.sl (.sl (.int .i64))) s4.2.2.1) -> (cnd (decide (s4.1.2.2.1 < n)) (loopW (S := ((Unit × (Unit × (Int × Unit))) × (((List Int) × (Int × Int)) × ((List (List Int)) × Unit)))) (fun s5 => (fun next3 => ((inK .i64 s5.1.2.2.1) -> ((T.ok (.sl (.int .u8)) s5.2.1.1) -> ((inK .i64 s5.2.1.2.1) -> ((inK .u64 s5.2.1.2.2) -> ((T.ok (.sl (.sl (.int .i64))) s5.2.2.1) -> (cnd (decide (s5.1.2.2.1 < n)) ((0 <= s4.1.2.2.1) /\ ((s4.1.2.2.1 < ((s5.2.2.1.length : Nat) : Int)) /\ ((0 <= s3.1.2.2.1) /\ ((s3.1.2.2.1 < (((List.length (List.getD s5.2.2.1 s4.1.2.2.1.toNat [])) : Nat) : Int)) /\ (((((List.getD (List.getD s5.2.2.1 s4.1.2.2.1.toNat []) s3.1.2.2.1.toNat 0) == 1) = true) -> ((s3.1.2.2.1 < ((s5.2.2.1.length : Nat) : Int)) /\ (0 <= s3.1.2.2.1))) /\ (((((List.getD (List.getD s5.2.2.1 s4.1.2.2.1.toNat []) s3.1.2.2.1.toNat 0) == 1) = true) -> ((s5.1.2.2.1 < (((List.length (List.getD s5.2.2.1 s3.1.2.2.1.toNat [])) : Nat) : Int)) /\ (0 <= s5.1.2.2.1))) /\ (joinW (S := ((Unit × (Unit × Unit)) × (((List Int) × (Int × Int)) × ((List (List Int)) × Unit)))) (fun s6 => ((T.ok (.sl (.int .u8)) s6.2.1.1) -> ((inK .i64 s6.2.1.2.1) -> ((inK .u64 s6.2.1.2.2) -> ((T.ok (.sl (.sl (.int .i64))) s6.2.2.1) -> ((inK .i64 (s5.1.2.2.1 + 1)) /\ (next3 (((), ((), ((s5.1.2.2.1 + 1), ()))), (s6.2.1, (s6.2.2.1, ())))))))))) (fun k => (cnd (((List.getD (List.getD s5.2.2.1 s4.1.2.2.1.toNat []) s3.1.2.2.1.toNat 0) == 1) && ((List.getD (List.getD s5.2.2.1 s3.1.2.2.1.toNat []) s5.1.2.2.1.toNat 0) == 1)) ((0 <= s4.1.2.2.1) /\ ((s4.1.2.2.1 < ((s5.2.2.1.length : Nat) : Int)) /\ ((0 <= s5.1.2.2.1) /\ ((s5.1.2.2.1 < (((List.length (List.getD s5.2.2.1 s4.1.2.2.1.toNat [])) : Nat) : Int)) /\ (k (((), ((), ())), (s5.2.1, ((List.set s5.2.2.1 s4.1.2.2.1.toNat (List.set (List.getD s5.2.2.1 s4.1.2.2.1.toNat []) s5.1.2.2.1.toNat 1)), ())))))))) (k (((), ((), ())), (s5.2.1, (s5.2.2.1, ()))))))))))))) ((inK .i64 (s4.1.2.2.1 + 1)) /\ (next2 (((), ((), ((s4.1.2.2.1 + 1), ()))), (s5.2.1, (s5.2.2.1, ()))))))))))))) (((), ((), (0, ()))), (s4.2.1, (s4.2.2.1, ())))) ((inK .i64 (s3.1.2.2.1 + 1)) /\ (next1 (((), ((), ((s3.1.2.2.1 + 1), ()))), (s4.2.1, (s4.2.2.1, ()))))))))))))) (((), ((), (0, ()))), (s3.2.1, (s3.2.2.1, ())))) (K s3.2.1 (s3.2.2.1, ())))))))))) (((), ((), (0, ()))), (s2.2.1, (s2.2.2.1, ()))))))))) (fun k => (cnd ((decide (1 < n)) && ((0 : Int) == 0)) ((inK .i64 (n - 1)) /\ ((0 <= (n - 1)) /\ (((n - 1) < ((s1.2.2.1.length : Nat) : Int)) /\ ((0 <= s1.2.1.2.1) /\ ((0 <= (spec_l01Next_r0R s1.2.1 n)) /\ (((spec_l01Next_r0R s1.2.1 n) < (((List.length (List.getD s1.2.2.1 (Int.toNat (n - 1)) [])) : Nat) : Int)) /\ (k (((), ((), ())), ((spec_l01Next_zR s1.2.1 n), ((List.set s1.2.2.1 (Int.toNat (n - 1)) (List.set (List.getD s1.2.2.1 (Int.toNat (n - 1)) []) (Int.toNat (spec_l01Next_r0R s1.2.1 n)) 1)), ())))))))))) (k (((), ((), ())), (s1.2.1, (s1.2.2.1, ())))))))))))))))) (((), ((), (0, ()))), (s, ([], ()))))
theorem w_spec_l02Relation (x : w1_spec_l02Relation.o.strip.den) (y : denL w1_spec_l02Relation.as) (K : spec_l01SourceD -> ((List (List Int)) × Unit) -> Prop) : evFw tab (lkp [(79, c_spec_l01Next)]) (cutL [(12, 1600), (13, 8000060007)]) Try.f149 (bodyOf Try.f149) an_spec_l02Relation w1_spec_l02Relation x y K = W_spec_l02Relation x y.1 K := by kernel_rfl
theorem k_spec_l02Relation : okC Try.f149.ntmps (cutL [(12, 1600), (13, 8000060007)]) (bodyOf Try.f149) = true := by kernel_rfl
theorem m_spec_l02Relation (s : spec_l01SourceD) (n : Int) (hok : allP (w1_spec_l02Relation.o.strip.oks s)) (hok2 : allP (okL w1_spec_l02Relation.as (n, ()))) (hpre : allP (w1_spec_l02Relation.pre s (n, ()))) : W_spec_l02Relation s n (fun z r => Q_spec_l02Relation s n z r.1) := by
 simp only [w1_spec_l02Relation, O.strip, okL, T.oks, T.ok, ap, allP, true_and, and_true, implies_true] at hok hok2 hpre
 try dsimp only [T.den] at hok
 try dsimp only [T.den] at hok2
 try dsimp only [T.den] at hpre
 unfold W_spec_l02Relation Q_spec_l02Relation
 obtain ⟨hs0, hn1, hn8⟩ := hpre
 refine loop_of (fun (s : ((Unit × (Unit × (Int × Unit))) × (((List Int) × (Int × Int)) × ((List (List Int)) × Unit)))) => 0 <= s.1.2.2.1 /\ s.1.2.2.1 <= n /\ SrcR s.2.1 /\ (s.2.2.1.length : Int) = s.1.2.2.1 /\ ∀ r ∈ s.2.2.1, (r.length : Int) = n) (fun (s : ((Unit × (Unit × (Int × Unit))) × (((List Int) × (Int × Int)) × ((List (List Int)) × Unit)))) => (n - s.1.2.2.1).toNat) ?_ ⟨by simp, by (try dsimp only); omega, hs0, by simp, by simp⟩
 rintro ⟨⟨_, _, i, _⟩, s1, m1, _⟩ next ⟨h0, h1, h2, h3, h4⟩ hn
 intros
 try dsimp only at h0 h1 h2 h3 h4 hn ⊢
 refine cnd_d (fun hc => ?_) (fun hc => ?_)
 ·refine ⟨by omega, Int.le_refl _, by omega, by omega, h0, by rw [List.length_replicate]; omega, by rw [inK64]; (try dsimp only); omega, ?_⟩
  refine loop_of (fun (s : ((Unit × (Unit × (Unit × (Int × Unit)))) × (((List Int) × (Int × Int)) × ((List (List Int)) × ((List Int) × Unit))))) => 0 <= s.1.2.2.2.1 /\ s.1.2.2.2.1 <= n /\ SrcR s.2.1 /\ s.2.2.1 = m1 /\ (s.2.2.2.1.length : Int) = n) (fun (s : ((Unit × (Unit × (Unit × (Int × Unit)))) × (((List Int) × (Int × Int)) × ((List (List Int)) × ((List Int) × Unit))))) => (n - s.1.2.2.2.1).toNat) ?_ ⟨by (try dsimp only); omega, by (try dsimp only); omega, h2, rfl, by (try dsimp only); rw [List.length_set, List.length_replicate]; omega⟩
  rintro ⟨⟨_, _, _, j, _⟩, s2, m2, row, _⟩ next1 ⟨g0, g1, g2, g3, g4⟩ hn1'
  intros
  try dsimp only at g0 g1 g2 g3 g4 hn1' ⊢
  subst g3
  refine cnd_d (fun hd => ?_) (fun hd => ?_)
  ·exact ⟨g2.2, g0, by omega, by rw [inK64]; (try dsimp only); omega, hn1' _ ⟨by dsimp only; omega, by dsimp only; omega, (next_p g2 (by rw [inK64]; (try dsimp only); omega)).1, rfl, by rw [List.length_set]; exact g4⟩ (by first | omega | (dsimp only; omega))⟩
  ·refine ⟨?_, by rw [inK64]; (try dsimp only); omega, hn _ ⟨by dsimp only; omega, by dsimp only; omega, g2, ?_, ?_⟩ (by first | omega | (dsimp only; omega))⟩
   ·unfold room; rw [nb_eq]; simp only [List.length_cons, List.length_nil]; omega
   ·simp only [List.length_append, List.length_cons, List.length_nil]; omega
   ·intro r hr
    rcases List.mem_append.1 hr with hr | hr
    ·exact h4 r hr
    ·simp only [List.mem_singleton] at hr; subst hr; exact g4
 have hR : RowP n m1 := ⟨by omega, h4⟩
 have hnx := next_p (n := 4) h2 (by rw [inK64]; (try dsimp only); omega)
 have lr := hR.row (i := n - 1) (by omega) (by omega)
 have lm := hR.l
 refine ⟨fun hg => ⟨h2.2, join_of (fun s2 => SrcR s2.2.1 /\ RowP n s2.2.2.1) (fun s2 hs _ _ _ _ => ?_) (fun k hk => cnd_of (fun _ => ?_) (fun _ => hk _ ⟨hnx.1, hR⟩))⟩, fun hg => join_of (fun s2 => SrcR s2.2.1 /\ RowP n s2.2.2.1) (fun s2 hs _ _ _ _ => ?_) (fun k hk => cnd_of (fun hx => ?_) (fun _ => hk _ ⟨h2, hR⟩))⟩
 ·skip
  refine loop_of (fun (s : ((Unit × (Unit × (Int × Unit))) × (((List Int) × (Int × Int)) × ((List (List Int)) × Unit)))) => 0 <= s.1.2.2.1 /\ s.1.2.2.1 <= n /\ SrcR s.2.1 /\ RowP n s.2.2.1) (fun (s : ((Unit × (Unit × (Int × Unit))) × (((List Int) × (Int × Int)) × ((List (List Int)) × Unit)))) => (n - s.1.2.2.1).toNat) ?_ ⟨by simp, by (try dsimp only); omega, hs⟩
  rintro ⟨⟨_, _, k, _⟩, s3, m3, _⟩ next3 ⟨k0, k1, k2, k3⟩ hn3
  intros
  try dsimp only at k0 k1 k2 k3 hn3 ⊢
  refine cnd_d (fun hkc => ?_) (fun _ => ⟨k2, k3.tbl (by omega) (by omega), k3.l⟩)
  refine loop_of (fun (s : ((Unit × (Unit × (Int × Unit))) × (((List Int) × (Int × Int)) × ((List (List Int)) × Unit)))) => 0 <= s.1.2.2.1 /\ s.1.2.2.1 <= n /\ SrcR s.2.1 /\ RowP n s.2.2.1) (fun (s : ((Unit × (Unit × (Int × Unit))) × (((List Int) × (Int × Int)) × ((List (List Int)) × Unit)))) => (n - s.1.2.2.1).toNat) ?_ ⟨by simp, by (try dsimp only); omega, k2, k3⟩
  rintro ⟨⟨_, _, i, _⟩, s4, m4, _⟩ next4 ⟨i0, i1, i2, i3⟩ hn4
  intros
  try dsimp only at i0 i1 i2 i3 hn4 ⊢
  refine cnd_d (fun hic => ?_) (fun _ => ⟨by rw [inK64]; (try dsimp only); omega, hn3 _ ⟨by dsimp only; omega, by dsimp only; omega, i2, i3⟩ (by first | omega | (dsimp only; omega))⟩)
  refine loop_of (fun (s : ((Unit × (Unit × (Int × Unit))) × (((List Int) × (Int × Int)) × ((List (List Int)) × Unit)))) => 0 <= s.1.2.2.1 /\ s.1.2.2.1 <= n /\ SrcR s.2.1 /\ RowP n s.2.2.1) (fun (s : ((Unit × (Unit × (Int × Unit))) × (((List Int) × (Int × Int)) × ((List (List Int)) × Unit)))) => (n - s.1.2.2.1).toNat) ?_ ⟨by simp, by (try dsimp only); omega, i2, i3⟩
  rintro ⟨⟨_, _, j, _⟩, s5, m5, _⟩ next5 ⟨j0, j1, j2, j3⟩ hn5
  intros
  try dsimp only at j0 j1 j2 j3 hn5 ⊢
  refine cnd_d (fun hjc => ?_) (fun _ => ⟨by rw [inK64]; (try dsimp only); omega, hn4 _ ⟨by dsimp only; omega, by dsimp only; omega, j2, j3⟩ (by first | omega | (dsimp only; omega))⟩)
  have l1 := j3.l
  have l2 := j3.row i0 hic
  have l3 := j3.row k0 hkc
  refine ⟨i0, by omega, k0, by omega, fun _ => ⟨by omega, k0⟩, fun _ => ⟨by omega, j0⟩, join_of (fun s6 => SrcR s6.2.1 /\ RowP n s6.2.2.1) (fun s6 hs6 => ?_) (fun kk hkk => cnd_of (fun _ => ⟨i0, by omega, j0, by omega, hkk _ ⟨j2, j3.set i0 hic⟩⟩) (fun _ => hkk _ ⟨j2, j3⟩))⟩
  intros
  exact ⟨by rw [inK64]; (try dsimp only); omega, hn5 _ ⟨by dsimp only; omega, by dsimp only; omega, hs6⟩ (by first | omega | (dsimp only; omega))⟩
 ·have hy := next_p (n := n) hnx.1 (by rw [inK64]; (try dsimp only); omega)
  have hy2 := hy.2.2.1 hn1
  exact ⟨by rw [inK64]; (try dsimp only); omega, by omega, by omega, hnx.1.2, hy.2.1, by omega, hk _ ⟨hy.1, hR.set (by omega) (by omega)⟩⟩
 ·skip
  refine loop_of (fun (s : ((Unit × (Unit × (Int × Unit))) × (((List Int) × (Int × Int)) × ((List (List Int)) × Unit)))) => 0 <= s.1.2.2.1 /\ s.1.2.2.1 <= n /\ SrcR s.2.1 /\ RowP n s.2.2.1) (fun (s : ((Unit × (Unit × (Int × Unit))) × (((List Int) × (Int × Int)) × ((List (List Int)) × Unit)))) => (n - s.1.2.2.1).toNat) ?_ ⟨by simp, by (try dsimp only); omega, hs⟩
  rintro ⟨⟨_, _, k, _⟩, s3, m3, _⟩ next3 ⟨k0, k1, k2, k3⟩ hn3
  intros
  try dsimp only at k0 k1 k2 k3 hn3 ⊢
  refine cnd_d (fun hkc => ?_) (fun _ => ⟨k2, k3.tbl (by omega) (by omega), k3.l⟩)
  refine loop_of (fun (s : ((Unit × (Unit × (Int × Unit))) × (((List Int) × (Int × Int)) × ((List (List Int)) × Unit)))) => 0 <= s.1.2.2.1 /\ s.1.2.2.1 <= n /\ SrcR s.2.1 /\ RowP n s.2.2.1) (fun (s : ((Unit × (Unit × (Int × Unit))) × (((List Int) × (Int × Int)) × ((List (List Int)) × Unit)))) => (n - s.1.2.2.1).toNat) ?_ ⟨by simp, by (try dsimp only); omega, k2, k3⟩
  rintro ⟨⟨_, _, i, _⟩, s4, m4, _⟩ next4 ⟨i0, i1, i2, i3⟩ hn4
  intros
  try dsimp only at i0 i1 i2 i3 hn4 ⊢
  refine cnd_d (fun hic => ?_) (fun _ => ⟨by rw [inK64]; (try dsimp only); omega, hn3 _ ⟨by dsimp only; omega, by dsimp only; omega, i2, i3⟩ (by first | omega | (dsimp only; omega))⟩)
  refine loop_of (fun (s : ((Unit × (Unit × (Int × Unit))) × (((List Int) × (Int × Int)) × ((List (List Int)) × Unit)))) => 0 <= s.1.2.2.1 /\ s.1.2.2.1 <= n /\ SrcR s.2.1 /\ RowP n s.2.2.1) (fun (s : ((Unit × (Unit × (Int × Unit))) × (((List Int) × (Int × Int)) × ((List (List Int)) × Unit)))) => (n - s.1.2.2.1).toNat) ?_ ⟨by simp, by (try dsimp only); omega, i2, i3⟩
  rintro ⟨⟨_, _, j, _⟩, s5, m5, _⟩ next5 ⟨j0, j1, j2, j3⟩ hn5
  intros
  try dsimp only at j0 j1 j2 j3 hn5 ⊢
  refine cnd_d (fun hjc => ?_) (fun _ => ⟨by rw [inK64]; (try dsimp only); omega, hn4 _ ⟨by dsimp only; omega, by dsimp only; omega, j2, j3⟩ (by first | omega | (dsimp only; omega))⟩)
  have l1 := j3.l
  have l2 := j3.row i0 hic
  have l3 := j3.row k0 hkc
  refine ⟨i0, by omega, k0, by omega, fun _ => ⟨by omega, k0⟩, fun _ => ⟨by omega, j0⟩, join_of (fun s6 => SrcR s6.2.1 /\ RowP n s6.2.2.1) (fun s6 hs6 => ?_) (fun kk hkk => cnd_of (fun _ => ⟨i0, by omega, j0, by omega, hkk _ ⟨j2, j3.set i0 hic⟩⟩) (fun _ => hkk _ ⟨j2, j3⟩))⟩
  intros
  exact ⟨by rw [inK64]; (try dsimp only); omega, hn5 _ ⟨by dsimp only; omega, by dsimp only; omega, hs6⟩ (by first | omega | (dsimp only; omega))⟩
 ·exfalso
  simp only [Bool.and_eq_true] at hx
  exact hg hx.1
theorem e_spec_l02Relation (s : spec_l01SourceD) (n : Int) : ∃ q : spec_l01SourceD × ((List (List Int)) × Unit), allP (w1_spec_l02Relation.o.strip.oks s) -> allP (okL w1_spec_l02Relation.as (n, ())) -> allP (w1_spec_l02Relation.pre s (n, ())) -> W_spec_l02Relation s n (fun z r => z = q.1 /\ r = q.2) /\ allP (w1_spec_l02Relation.o.strip.oks q.1) /\ allP (okR w1_spec_l02Relation.rt q.2) /\ Q_spec_l02Relation s n q.1 q.2.1 :=
 pick_wy (f := 149) (Φ := lkp [(79, c_spec_l01Next)]) (good_cons ct_spec_l01Next good_nil) tab_ok (by kernel_rfl) (fn := Try.f149) (c := bodyOf Try.f149) (by kernel_rfl) (by kernel_rfl) (by kernel_rfl) w1_spec_l02Relation an_spec_l02Relation (cutL [(12, 1600), (13, 8000060007)]) (by kernel_rfl) (by kernel_rfl) k_spec_l02Relation (by decide) (by kernel_rfl) (by kernel_rfl) spec_l01SourceT rfl (by kernel_rfl) (fun x y K => W_spec_l02Relation x y.1 K) w_spec_l02Relation (fun x y z r => Q_spec_l02Relation x y.1 z r.1) (fun x y h1 h2 h3 => m_spec_l02Relation x y.1 h1 h2 h3) s (n, ())
def spec_l02Relation_zR (s : spec_l01SourceD) (n : Int) : spec_l01SourceD := (e_spec_l02Relation s n).choose.1
def spec_l02Relation_r0R (s : spec_l01SourceD) (n : Int) : List (List Int) := (e_spec_l02Relation s n).choose.2.1
theorem q_spec_l02Relation (s : spec_l01SourceD) (n : Int) (hok : allP (w1_spec_l02Relation.o.strip.oks s)) (hok2 : allP (okL w1_spec_l02Relation.as (n, ()))) (hpre : allP (w1_spec_l02Relation.pre s (n, ()))) : allP (w1_spec_l02Relation.o.strip.oks (spec_l02Relation_zR s n)) /\ allP (okR w1_spec_l02Relation.rt (spec_l02Relation_r0R s n, ())) /\ Q_spec_l02Relation s n (spec_l02Relation_zR s n) (spec_l02Relation_r0R s n) := ((e_spec_l02Relation s n).choose_spec hok hok2 hpre).2
def w0_spec_l02Relation : Wt := ⟨(.pt (.fz spec_l01SourceT)), [(.int .i64)], [false], fun x y => [SrcR x, 1 <= y.1, y.1 <= 8], fun x y => (spec_l02Relation_zR x y.1), [(false, (.sl (.sl (.fz (.int .i64)))))], fun x y => ((spec_l02Relation_r0R x y.1), ())⟩
def c_spec_l02Relation : Ct := wtCt w0_spec_l02Relation
theorem w2_spec_l02Relation (x : w0_spec_l02Relation.o.strip.den) (y : denL w0_spec_l02Relation.as) (K : spec_l01SourceD -> ((List (List Int)) × Unit) -> Prop) : evFw tab (lkp [(79, c_spec_l01Next)]) (cutL [(12, 1600), (13, 8000060007)]) Try.f149 (bodyOf Try.f149) an_spec_l02Relation w0_spec_l02Relation x y K = W_spec_l02Relation x y.1 K := by kernel_rfl
theorem ct_spec_l02Relation : CtOk Try.prog 149 c_spec_l02Relation :=
 wt_of (Φ := lkp [(79, c_spec_l01Next)]) (good_cons ct_spec_l01Next good_nil) tab_ok (by kernel_rfl) (fn := Try.f149) (c := bodyOf Try.f149) (by kernel_rfl) (by kernel_rfl) (by kernel_rfl) w0_spec_l02Relation an_spec_l02Relation (cutL [(12, 1600), (13, 8000060007)]) (by kernel_rfl) (by kernel_rfl) k_spec_l02Relation (by decide) (by kernel_rfl) (fun x y h1 h2 h3 => (w2_spec_l02Relation x y _).mpr ((e_spec_l02Relation x y.1).choose_spec h1 h2 h3).1)
theorem relation_p {s : spec_l01SourceD} {n : Int} (h : SrcR s) (n1 : 1 <= n) (n8 : n <= 8) : SrcR (spec_l02Relation_zR s n) /\ TblR (spec_l02Relation_r0R s n) /\ (T.sl (.sl (.int .i64))).ok (spec_l02Relation_r0R s n) := by
 obtain ⟨_, h2, h3⟩ := q_spec_l02Relation s n h.1 (by simp only [w1_spec_l02Relation, okL, T.oks, ap, allP, and_true, inK64]; omega) ⟨h, n1, n8, trivial⟩
 exact ⟨h3.1, h3.2.1, h2.1⟩
def w1_spec_l35Some : Wt := ⟨(.pt (.fz spec_l01SourceT)), [], [], fun x y => [SrcR x], fun x _ => x, [(true, (.p (.fz CategoryT) (.p (.fz (.int .i64)) (.p (.sl (.sl (.fz (.int .i64)))) (.sl (.sl (.fz (.int .i64))))))))], fun _ _ => dfR _⟩
def Q_spec_l35Some (s : spec_l01SourceD) (z : spec_l01SourceD) (r0 : MonoidalD) : Prop := SrcR z /\ MgR r0
def an_spec_l35Some : Ann := (.s .n (.s (.s .n (.l [(0, (.ad 1000000 [.de])), (2, (.ad 2 [.de])), (3, (.d (.int .i64)))] [(1000000, (.pt (.fz (.p (.sl (.int .u8)) (.p (.int .i64) (.int .u64)))))), (2, (.pt (.p (.p (.fz (.int .i64)) (.p (.sl (.fz (.int .i64))) (.p (.sl (.fz (.int .i64))) (.p (.sl (.fz (.int .i64))) (.sl (.sl (.fz (.int .i64)))))))) (.p (.fz (.int .i64)) (.p (.sl (.sl (.fz (.int .i64)))) (.sl (.sl (.fz (.int .i64)))))))))] [] (.s .n (.s (.s .n (.s (.s .n (.s .n (.j [(0, (.ad 1000000 [.de])), (2, (.ad 2 [.de])), (4, (.ad 4 [.de])), (5, (.d (.int .i64)))] [(1000000, (.pt (.fz (.p (.sl (.int .u8)) (.p (.int .i64) (.int .u64)))))), (2, (.pt (.p (.p (.fz (.int .i64)) (.p (.sl (.fz (.int .i64))) (.p (.sl (.fz (.int .i64))) (.p (.sl (.fz (.int .i64))) (.sl (.sl (.fz (.int .i64)))))))) (.p (.fz (.int .i64)) (.p (.sl (.sl (.fz (.int .i64)))) (.sl (.sl (.fz (.int .i64))))))))), (4, (.pt (.p (.fz (.p (.int .i64) (.p (.sl (.int .i64)) (.p (.sl (.int .i64)) (.p (.sl (.int .i64)) (.sl (.sl (.int .i64)))))))) (.p (.fz (.int .i64)) (.p (.sl (.sl (.fz (.int .i64)))) (.sl (.sl (.fz (.int .i64)))))))))] [3] (.s .n (.s .n (.j [(0, (.ad 1000000 [.de])), (2, (.ad 2 [.de])), (4, (.ad 4 [.de])), (5, (.d (.int .i64)))] [(1000000, (.pt (.fz (.p (.sl (.int .u8)) (.p (.int .i64) (.int .u64)))))), (2, (.pt (.p (.p (.fz (.int .i64)) (.p (.sl (.fz (.int .i64))) (.p (.sl (.fz (.int .i64))) (.p (.sl (.fz (.int .i64))) (.sl (.sl (.fz (.int .i64)))))))) (.p (.fz (.int .i64)) (.p (.sl (.sl (.fz (.int .i64)))) (.sl (.sl (.fz (.int .i64))))))))), (4, (.pt (.p (.fz (.p (.int .i64) (.p (.sl (.int .i64)) (.p (.sl (.int .i64)) (.p (.sl (.int .i64)) (.sl (.sl (.int .i64)))))))) (.p (.fz (.int .i64)) (.p (.sl (.sl (.fz (.int .i64)))) (.sl (.sl (.fz (.int .i64)))))))))] [3] (.s .n (.s .n (.j [(0, (.ad 1000000 [.de])), (2, (.ad 2 [.de])), (4, (.ad 4 [.de])), (5, (.d (.int .i64)))] [(1000000, (.pt (.fz (.p (.sl (.int .u8)) (.p (.int .i64) (.int .u64)))))), (2, (.pt (.p (.p (.fz (.int .i64)) (.p (.sl (.fz (.int .i64))) (.p (.sl (.fz (.int .i64))) (.p (.sl (.fz (.int .i64))) (.sl (.sl (.fz (.int .i64)))))))) (.p (.fz (.int .i64)) (.p (.sl (.sl (.fz (.int .i64)))) (.sl (.sl (.fz (.int .i64))))))))), (4, (.pt (.p (.fz (.p (.int .i64) (.p (.sl (.int .i64)) (.p (.sl (.int .i64)) (.p (.sl (.int .i64)) (.sl (.sl (.int .i64)))))))) (.p (.fz (.int .i64)) (.p (.sl (.sl (.fz (.int .i64)))) (.sl (.sl (.fz (.int .i64)))))))))] [3] (.s (.s .n (.s .n (.s (.s .n (.l [(0, (.ad 1000000 [.de])), (2, (.ad 2 [.de])), (4, (.ad 4 [.de])), (7, (.ref 800007 [])), (8, (.ref 800008 [])), (9, (.d (.int .i64)))] [(1000000, (.pt (.fz (.p (.sl (.int .u8)) (.p (.int .i64) (.int .u64)))))), (2, (.pt (.p (.p (.fz (.int .i64)) (.p (.sl (.fz (.int .i64))) (.p (.sl (.fz (.int .i64))) (.p (.sl (.fz (.int .i64))) (.sl (.sl (.fz (.int .i64)))))))) (.p (.fz (.int .i64)) (.p (.sl (.sl (.fz (.int .i64)))) (.sl (.sl (.fz (.int .i64))))))))), (4, (.pt (.p (.p (.fz (.int .i64)) (.p (.sl (.fz (.int .i64))) (.p (.sl (.fz (.int .i64))) (.p (.sl (.fz (.int .i64))) (.sl (.sl (.fz (.int .i64)))))))) (.p (.fz (.int .i64)) (.p (.sl (.sl (.fz (.int .i64)))) (.sl (.sl (.fz (.int .i64))))))))), (800007, (.sl (.sl (.fz (.int .i64))))), (800008, (.sl (.sl (.fz (.int .i64)))))] [3, 6] (.s .n (.s (.s .n (.s (.s .n (.l [(0, (.ad 1000000 [.de])), (2, (.ad 2 [.de])), (4, (.ad 4 [.de])), (7, (.ref 800007 [])), (8, (.ref 800008 [])), (10, (.ref 800010 [])), (11, (.ref 800011 [])), (12, (.d (.int .i64)))] [(1000000, (.pt (.fz (.p (.sl (.int .u8)) (.p (.int .i64) (.int .u64)))))), (2, (.pt (.p (.p (.fz (.int .i64)) (.p (.sl (.fz (.int .i64))) (.p (.sl (.fz (.int .i64))) (.p (.sl (.fz (.int .i64))) (.sl (.sl (.fz (.int .i64)))))))) (.p (.fz (.int .i64)) (.p (.sl (.sl (.fz (.int .i64)))) (.sl (.sl (.fz (.int .i64))))))))), (4, (.pt (.p (.p (.fz (.int .i64)) (.p (.sl (.fz (.int .i64))) (.p (.sl (.fz (.int .i64))) (.p (.sl (.fz (.int .i64))) (.sl (.sl (.fz (.int .i64)))))))) (.p (.fz (.int .i64)) (.p (.sl (.sl (.fz (.int .i64)))) (.sl (.sl (.fz (.int .i64))))))))), (800007, (.sl (.sl (.fz (.int .i64))))), (800008, (.sl (.sl (.fz (.int .i64))))), (800010, (.sl (.fz (.int .i64)))), (800011, (.sl (.fz (.int .i64))))] [3, 6, 9] (.s .n (.s (.s .n (.s (.s .n (.j [(0, (.ad 1000000 [.de])), (2, (.ad 2 [.de])), (4, (.ad 4 [.de])), (7, (.ref 800007 [])), (8, (.ref 800008 [])), (10, (.ref 800010 [])), (11, (.ref 800011 [])), (13, (.d (.int .i64)))] [(1000000, (.pt (.fz (.p (.sl (.int .u8)) (.p (.int .i64) (.int .u64)))))), (2, (.pt (.p (.p (.fz (.int .i64)) (.p (.sl (.fz (.int .i64))) (.p (.sl (.fz (.int .i64))) (.p (.sl (.fz (.int .i64))) (.sl (.sl (.fz (.int .i64)))))))) (.p (.fz (.int .i64)) (.p (.sl (.sl (.fz (.int .i64)))) (.sl (.sl (.fz (.int .i64))))))))), (4, (.pt (.p (.p (.fz (.int .i64)) (.p (.sl (.fz (.int .i64))) (.p (.sl (.fz (.int .i64))) (.p (.sl (.fz (.int .i64))) (.sl (.sl (.fz (.int .i64)))))))) (.p (.fz (.int .i64)) (.p (.sl (.sl (.fz (.int .i64)))) (.sl (.sl (.fz (.int .i64))))))))), (800007, (.sl (.sl (.fz (.int .i64))))), (800008, (.sl (.sl (.fz (.int .i64))))), (800010, (.sl (.fz (.int .i64)))), (800011, (.sl (.fz (.int .i64))))] [3, 6, 9, 12] .n)) .n)) .n)))) .n)) .n)))) (.s (.s .n (.j [(0, (.ad 1000000 [.de])), (2, (.ad 2 [.de])), (4, (.ad 4 [.de])), (7, (.ref 800007 [])), (8, (.ref 800008 []))] [(1000000, (.pt (.fz (.p (.sl (.int .u8)) (.p (.int .i64) (.int .u64)))))), (2, (.pt (.p (.p (.fz (.int .i64)) (.p (.sl (.fz (.int .i64))) (.p (.sl (.fz (.int .i64))) (.p (.sl (.fz (.int .i64))) (.sl (.sl (.fz (.int .i64)))))))) (.p (.fz (.int .i64)) (.p (.sl (.sl (.fz (.int .i64)))) (.sl (.sl (.fz (.int .i64))))))))), (4, (.pt (.p (.p (.fz (.int .i64)) (.p (.sl (.fz (.int .i64))) (.p (.sl (.fz (.int .i64))) (.p (.sl (.fz (.int .i64))) (.sl (.sl (.fz (.int .i64)))))))) (.p (.fz (.int .i64)) (.p (.sl (.sl (.fz (.int .i64)))) (.sl (.sl (.fz (.int .i64))))))))), (800007, (.sl (.sl (.fz (.int .i64))))), (800008, (.sl (.sl (.fz (.int .i64)))))] [3] (.s (.s .n (.l [(0, (.ad 1000000 [.de])), (2, (.ad 2 [.de])), (4, (.ad 4 [.de])), (7, (.ref 800007 [])), (8, (.ref 800008 [])), (14, (.d (.int .i64)))] [(1000000, (.pt (.fz (.p (.sl (.int .u8)) (.p (.int .i64) (.int .u64)))))), (2, (.pt (.p (.p (.fz (.int .i64)) (.p (.sl (.fz (.int .i64))) (.p (.sl (.fz (.int .i64))) (.p (.sl (.fz (.int .i64))) (.sl (.sl (.fz (.int .i64)))))))) (.p (.fz (.int .i64)) (.p (.sl (.sl (.fz (.int .i64)))) (.sl (.sl (.fz (.int .i64))))))))), (4, (.pt (.p (.p (.fz (.int .i64)) (.p (.sl (.fz (.int .i64))) (.p (.sl (.fz (.int .i64))) (.p (.sl (.fz (.int .i64))) (.sl (.sl (.fz (.int .i64)))))))) (.p (.fz (.int .i64)) (.p (.sl (.sl (.fz (.int .i64)))) (.sl (.sl (.fz (.int .i64))))))))), (800007, (.sl (.sl (.fz (.int .i64))))), (800008, (.sl (.sl (.fz (.int .i64)))))] [3] (.s .n (.s (.s .n (.l [(0, (.ad 1000000 [.de])), (2, (.ad 2 [.de])), (4, (.ad 4 [.de])), (7, (.ref 800007 [])), (8, (.ref 800008 [])), (15, (.d (.int .i64)))] [(1000000, (.pt (.fz (.p (.sl (.int .u8)) (.p (.int .i64) (.int .u64)))))), (2, (.pt (.p (.p (.fz (.int .i64)) (.p (.sl (.fz (.int .i64))) (.p (.sl (.fz (.int .i64))) (.p (.sl (.fz (.int .i64))) (.sl (.sl (.fz (.int .i64)))))))) (.p (.fz (.int .i64)) (.p (.sl (.sl (.fz (.int .i64)))) (.sl (.sl (.fz (.int .i64))))))))), (4, (.pt (.p (.p (.fz (.int .i64)) (.p (.sl (.fz (.int .i64))) (.p (.sl (.fz (.int .i64))) (.p (.sl (.fz (.int .i64))) (.sl (.sl (.fz (.int .i64)))))))) (.p (.fz (.int .i64)) (.p (.sl (.sl (.fz (.int .i64)))) (.sl (.sl (.fz (.int .i64))))))))), (800007, (.sl (.sl (.fz (.int .i64))))), (800008, (.sl (.sl (.fz (.int .i64)))))] [3, 14] .n)) .n)))) .n))) .n)))) .n)))))))))) .n)) .n)))) .n))
def ph_spec_l35Some : FuncId -> Option Ct := lkp [(147, c_spec_CommutativeMonoidal), (145, c_spec_DiscreteMonoidal), (148, c_spec_OrderMonoidal), (79, c_spec_l01Next), (146, c_spec_l02Monoid), (149, c_spec_l02Relation)]
def W_spec_l35Some (s : spec_l01SourceD) (K : spec_l01SourceD -> (MonoidalD × Unit) -> Prop) : Prop := (loopW (S := ((Unit × (Unit × (Int × Unit))) × (((List Int) × (Int × Int)) × (((Int × ((List Int) × ((List Int) × ((List Int) × (List (List Int)))))) × (Int × ((List (List Int)) × (List (List Int))))) × Unit)))) (fun s1 => (fun next => ((inK .i64 s1.1.2.2.1) -> ((T.ok (.sl (.int .u8)) s1.2.1.1) -> ((inK .i64 s1.2.1.2.1) -> ((inK .u64 s1.2.1.2.2) -> ((inK .i64 s1.2.2.1.1.1) -> ((T.ok (.sl (.int .i64)) s1.2.2.1.1.2.1) -> ((T.ok (.sl (.int .i64)) s1.2.2.1.1.2.2.1) -> ((T.ok (.sl (.int .i64)) s1.2.2.1.1.2.2.2.1) -> ((T.ok (.sl (.sl (.int .i64))) s1.2.2.1.1.2.2.2.2) -> ((inK .i64 s1.2.2.1.2.1) -> ((T.ok (.sl (.sl (.int .i64))) s1.2.2.1.2.2.1) -> ((T.ok (.sl (.sl (.int .i64))) s1.2.2.1.2.2.2) -> (cnd (decide (s1.1.2.2.1 < 10)) ((0 <= s1.2.1.2.1) /\ (joinW (S := ((Unit × (Unit × (Unit × (Int × Unit)))) × (((List Int) × (Int × Int)) × (((Int × ((List Int) × ((List Int) × ((List Int) × (List (List Int)))))) × (Int × ((List (List Int)) × (List (List Int))))) × (((Int × ((List Int) × ((List Int) × ((List Int) × (List (List Int)))))) × (Int × ((List (List Int)) × (List (List Int))))) × Unit))))) (fun s2 => ((inK .i64 s2.1.2.2.2.1) -> ((T.ok (.sl (.int .u8)) s2.2.1.1) -> ((inK .i64 s2.2.1.2.1) -> ((inK .u64 s2.2.1.2.2) -> ((inK .i64 s2.2.2.1.1.1) -> ((T.ok (.sl (.int .i64)) s2.2.2.1.1.2.1) -> ((T.ok (.sl (.int .i64)) s2.2.2.1.1.2.2.1) -> ((T.ok (.sl (.int .i64)) s2.2.2.1.1.2.2.2.1) -> ((T.ok (.sl (.sl (.int .i64))) s2.2.2.1.1.2.2.2.2) -> ((inK .i64 s2.2.2.1.2.1) -> ((T.ok (.sl (.sl (.int .i64))) s2.2.2.1.2.2.1) -> ((T.ok (.sl (.sl (.int .i64))) s2.2.2.1.2.2.2) -> ((inK .i64 s2.2.2.2.1.1.1) -> ((T.ok (.sl (.int .i64)) s2.2.2.2.1.1.2.1) -> ((T.ok (.sl (.int .i64)) s2.2.2.2.1.1.2.2.1) -> ((T.ok (.sl (.int .i64)) s2.2.2.2.1.1.2.2.2.1) -> ((T.ok (.sl (.sl (.int .i64))) s2.2.2.2.1.1.2.2.2.2) -> ((inK .i64 s2.2.2.2.1.2.1) -> ((T.ok (.sl (.sl (.int .i64))) s2.2.2.2.1.2.2.1) -> ((T.ok (.sl (.sl (.int .i64))) s2.2.2.2.1.2.2.2) -> (cnd (s2.1.2.2.2.1 == 0) (K s2.2.1 (s2.2.2.2.1, ())) ((inK .i64 (s1.1.2.2.1 + 1)) /\ (next (((), ((), ((s1.1.2.2.1 + 1), ()))), (s2.2.1, (s2.2.2.1, ()))))))))))))))))))))))))))) (fun k => (cnd ((spec_l01Next_r0R s1.2.1 4) == 0) ((SrcR (spec_l01Next_zR s1.2.1 4)) /\ ((TblR (spec_l02Monoid_r0R (spec_l01Next_zR s1.2.1 4))) /\ (k (((), ((), ((), ((spec_DiscreteMonoidal_r1R (spec_l02Monoid_r0R (spec_l01Next_zR s1.2.1 4))), ())))), ((spec_l02Monoid_zR (spec_l01Next_zR s1.2.1 4)), (s1.2.2.1, ((spec_DiscreteMonoidal_r0R (spec_l02Monoid_r0R (spec_l01Next_zR s1.2.1 4))), ()))))))) (joinW (S := ((Unit × (Unit × (Unit × (Int × Unit)))) × (((List Int) × (Int × Int)) × (((Int × ((List Int) × ((List Int) × ((List Int) × (List (List Int)))))) × (Int × ((List (List Int)) × (List (List Int))))) × (((Int × ((List Int) × ((List Int) × ((List Int) × (List (List Int)))))) × (Int × ((List (List Int)) × (List (List Int))))) × Unit))))) (fun s2 => ((inK .i64 s2.1.2.2.2.1) -> ((T.ok (.sl (.int .u8)) s2.2.1.1) -> ((inK .i64 s2.2.1.2.1) -> ((inK .u64 s2.2.1.2.2) -> ((inK .i64 s2.2.2.1.1.1) -> ((T.ok (.sl (.int .i64)) s2.2.2.1.1.2.1) -> ((T.ok (.sl (.int .i64)) s2.2.2.1.1.2.2.1) -> ((T.ok (.sl (.int .i64)) s2.2.2.1.1.2.2.2.1) -> ((T.ok (.sl (.sl (.int .i64))) s2.2.2.1.1.2.2.2.2) -> ((inK .i64 s2.2.2.1.2.1) -> ((T.ok (.sl (.sl (.int .i64))) s2.2.2.1.2.2.1) -> ((T.ok (.sl (.sl (.int .i64))) s2.2.2.1.2.2.2) -> ((inK .i64 s2.2.2.2.1.1.1) -> ((T.ok (.sl (.int .i64)) s2.2.2.2.1.1.2.1) -> ((T.ok (.sl (.int .i64)) s2.2.2.2.1.1.2.2.1) -> ((T.ok (.sl (.int .i64)) s2.2.2.2.1.1.2.2.2.1) -> ((T.ok (.sl (.sl (.int .i64))) s2.2.2.2.1.1.2.2.2.2) -> ((inK .i64 s2.2.2.2.1.2.1) -> ((T.ok (.sl (.sl (.int .i64))) s2.2.2.2.1.2.2.1) -> ((T.ok (.sl (.sl (.int .i64))) s2.2.2.2.1.2.2.2) -> (k (((), ((), ((), (s2.1.2.2.2.1, ())))), (s2.2.1, (s2.2.2.1, (s2.2.2.2.1, ())))))))))))))))))))))))))) (fun k1 => (cnd ((spec_l01Next_r0R s1.2.1 4) == 1) ((SrcR (spec_l01Next_zR s1.2.1 4)) /\ ((TblR (spec_l02Monoid_r0R (spec_l01Next_zR s1.2.1 4))) /\ (k1 (((), ((), ((), ((spec_CommutativeMonoidal_r1R (spec_l02Monoid_r0R (spec_l01Next_zR s1.2.1 4))), ())))), ((spec_l02Monoid_zR (spec_l01Next_zR s1.2.1 4)), (s1.2.2.1, ((spec_CommutativeMonoidal_r0R (spec_l02Monoid_r0R (spec_l01Next_zR s1.2.1 4))), ()))))))) (joinW (S := ((Unit × (Unit × (Unit × (Int × Unit)))) × (((List Int) × (Int × Int)) × (((Int × ((List Int) × ((List Int) × ((List Int) × (List (List Int)))))) × (Int × ((List (List Int)) × (List (List Int))))) × (((Int × ((List Int) × ((List Int) × ((List Int) × (List (List Int)))))) × (Int × ((List (List Int)) × (List (List Int))))) × Unit))))) (fun s2 => ((inK .i64 s2.1.2.2.2.1) -> ((T.ok (.sl (.int .u8)) s2.2.1.1) -> ((inK .i64 s2.2.1.2.1) -> ((inK .u64 s2.2.1.2.2) -> ((inK .i64 s2.2.2.1.1.1) -> ((T.ok (.sl (.int .i64)) s2.2.2.1.1.2.1) -> ((T.ok (.sl (.int .i64)) s2.2.2.1.1.2.2.1) -> ((T.ok (.sl (.int .i64)) s2.2.2.1.1.2.2.2.1) -> ((T.ok (.sl (.sl (.int .i64))) s2.2.2.1.1.2.2.2.2) -> ((inK .i64 s2.2.2.1.2.1) -> ((T.ok (.sl (.sl (.int .i64))) s2.2.2.1.2.2.1) -> ((T.ok (.sl (.sl (.int .i64))) s2.2.2.1.2.2.2) -> ((inK .i64 s2.2.2.2.1.1.1) -> ((T.ok (.sl (.int .i64)) s2.2.2.2.1.1.2.1) -> ((T.ok (.sl (.int .i64)) s2.2.2.2.1.1.2.2.1) -> ((T.ok (.sl (.int .i64)) s2.2.2.2.1.1.2.2.2.1) -> ((T.ok (.sl (.sl (.int .i64))) s2.2.2.2.1.1.2.2.2.2) -> ((inK .i64 s2.2.2.2.1.2.1) -> ((T.ok (.sl (.sl (.int .i64))) s2.2.2.2.1.2.2.1) -> ((T.ok (.sl (.sl (.int .i64))) s2.2.2.2.1.2.2.2) -> (k1 (((), ((), ((), (s2.1.2.2.2.1, ())))), (s2.2.1, (s2.2.2.1, (s2.2.2.2.1, ())))))))))))))))))))))))))) (fun k2 => (cnd ((spec_l01Next_r0R s1.2.1 4) == 2) ((0 <= (spec_l01Next_zR s1.2.1 4).2.1) /\ ((inK .i64 (2 + (spec_l01Next_r0R (spec_l01Next_zR s1.2.1 4) 2))) /\ (loopW (S := ((Unit × (Unit × (Unit × (Unit × (Unit × (Int × Unit)))))) × (((List Int) × (Int × Int)) × (((Int × ((List Int) × ((List Int) × ((List Int) × (List (List Int)))))) × (Int × ((List (List Int)) × (List (List Int))))) × (((Int × ((List Int) × ((List Int) × ((List Int) × (List (List Int)))))) × (Int × ((List (List Int)) × (List (List Int))))) × ((List (List Int)) × ((List (List Int)) × Unit))))))) (fun s2 => (fun next1 => ((inK .i64 s2.1.2.2.2.2.2.1) -> ((T.ok (.sl (.int .u8)) s2.2.1.1) -> ((inK .i64 s2.2.1.2.1) -> ((inK .u64 s2.2.1.2.2) -> ((inK .i64 s2.2.2.1.1.1) -> ((T.ok (.sl (.int .i64)) s2.2.2.1.1.2.1) -> ((T.ok (.sl (.int .i64)) s2.2.2.1.1.2.2.1) -> ((T.ok (.sl (.int .i64)) s2.2.2.1.1.2.2.2.1) -> ((T.ok (.sl (.sl (.int .i64))) s2.2.2.1.1.2.2.2.2) -> ((inK .i64 s2.2.2.1.2.1) -> ((T.ok (.sl (.sl (.int .i64))) s2.2.2.1.2.2.1) -> ((T.ok (.sl (.sl (.int .i64))) s2.2.2.1.2.2.2) -> ((inK .i64 s2.2.2.2.1.1.1) -> ((T.ok (.sl (.int .i64)) s2.2.2.2.1.1.2.1) -> ((T.ok (.sl (.int .i64)) s2.2.2.2.1.1.2.2.1) -> ((T.ok (.sl (.int .i64)) s2.2.2.2.1.1.2.2.2.1) -> ((T.ok (.sl (.sl (.int .i64))) s2.2.2.2.1.1.2.2.2.2) -> ((inK .i64 s2.2.2.2.1.2.1) -> ((T.ok (.sl (.sl (.int .i64))) s2.2.2.2.1.2.2.1) -> ((T.ok (.sl (.sl (.int .i64))) s2.2.2.2.1.2.2.2) -> ((T.ok (.sl (.sl (.int .i64))) s2.2.2.2.2.1) -> ((T.ok (.sl (.sl (.int .i64))) s2.2.2.2.2.2.1) -> (cnd (decide (s2.1.2.2.2.2.2.1 < (2 + (spec_l01Next_r0R (spec_l01Next_zR s1.2.1 4) 2)))) (loopW (S := ((Unit × (Unit × (Unit × (Unit × (Unit × (Unit × (Unit × (Int × Unit)))))))) × (((List Int) × (Int × Int)) × (((Int × ((List Int) × ((List Int) × ((List Int) × (List (List Int)))))) × (Int × ((List (List Int)) × (List (List Int))))) × (((Int × ((List Int) × ((List Int) × ((List Int) × (List (List Int)))))) × (Int × ((List (List Int)) × (List (List Int))))) × ((List (List Int)) × ((List (List Int)) × ((List Int) × ((List Int) × Unit))))))))) (fun s3 => (fun next2 => ((inK .i64 s3.1.2.2.2.2.2.2.2.1) -> ((T.ok (.sl (.int .u8)) s3.2.1.1) -> ((inK .i64 s3.2.1.2.1) -> ((inK .u64 s3.2.1.2.2) -> ((inK .i64 s3.2.2.1.1.1) -> ((T.ok (.sl (.int .i64)) s3.2.2.1.1.2.1) -> ((T.ok (.sl (.int .i64)) s3.2.2.1.1.2.2.1) -> ((T.ok (.sl (.int .i64)) s3.2.2.1.1.2.2.2.1) -> ((T.ok (.sl (.sl (.int .i64))) s3.2.2.1.1.2.2.2.2) -> ((inK .i64 s3.2.2.1.2.1) -> ((T.ok (.sl (.sl (.int .i64))) s3.2.2.1.2.2.1) -> ((T.ok (.sl (.sl (.int .i64))) s3.2.2.1.2.2.2) -> ((inK .i64 s3.2.2.2.1.1.1) -> ((T.ok (.sl (.int .i64)) s3.2.2.2.1.1.2.1) -> ((T.ok (.sl (.int .i64)) s3.2.2.2.1.1.2.2.1) -> ((T.ok (.sl (.int .i64)) s3.2.2.2.1.1.2.2.2.1) -> ((T.ok (.sl (.sl (.int .i64))) s3.2.2.2.1.1.2.2.2.2) -> ((inK .i64 s3.2.2.2.1.2.1) -> ((T.ok (.sl (.sl (.int .i64))) s3.2.2.2.1.2.2.1) -> ((T.ok (.sl (.sl (.int .i64))) s3.2.2.2.1.2.2.2) -> ((T.ok (.sl (.sl (.int .i64))) s3.2.2.2.2.1) -> ((T.ok (.sl (.sl (.int .i64))) s3.2.2.2.2.2.1) -> ((T.ok (.sl (.int .i64)) s3.2.2.2.2.2.2.1) -> ((T.ok (.sl (.int .i64)) s3.2.2.2.2.2.2.2.1) -> (cnd (decide (s3.1.2.2.2.2.2.2.2.1 < (2 + (spec_l01Next_r0R (spec_l01Next_zR s1.2.1 4) 2)))) (joinW (S := ((Unit × (Unit × (Unit × (Unit × (Unit × (Unit × (Unit × (Int × Unit)))))))) × (((List Int) × (Int × Int)) × (((Int × ((List Int) × ((List Int) × ((List Int) × (List (List Int)))))) × (Int × ((List (List Int)) × (List (List Int))))) × (((Int × ((List Int) × ((List Int) × ((List Int) × (List (List Int)))))) × (Int × ((List (List Int)) × (List (List Int))))) × ((List (List Int)) × ((List (List Int)) × ((List Int) × ((List Int) × Unit))))))))) (fun s4 => ((inK .i64 s4.1.2.2.2.2.2.2.2.1) -> ((T.ok (.sl (.int .u8)) s4.2.1.1) -> ((inK .i64 s4.2.1.2.1) -> ((inK .u64 s4.2.1.2.2) -> ((inK .i64 s4.2.2.1.1.1) -> ((T.ok (.sl (.int .i64)) s4.2.2.1.1.2.1) -> ((T.ok (.sl (.int .i64)) s4.2.2.1.1.2.2.1) -> ((T.ok (.sl (.int .i64)) s4.2.2.1.1.2.2.2.1) -> ((T.ok (.sl (.sl (.int .i64))) s4.2.2.1.1.2.2.2.2) -> ((inK .i64 s4.2.2.1.2.1) -> ((T.ok (.sl (.sl (.int .i64))) s4.2.2.1.2.2.1) -> ((T.ok (.sl (.sl (.int .i64))) s4.2.2.1.2.2.2) -> ((inK .i64 s4.2.2.2.1.1.1) -> ((T.ok (.sl (.int .i64)) s4.2.2.2.1.1.2.1) -> ((T.ok (.sl (.int .i64)) s4.2.2.2.1.1.2.2.1) -> ((T.ok (.sl (.int .i64)) s4.2.2.2.1.1.2.2.2.1) -> ((T.ok (.sl (.sl (.int .i64))) s4.2.2.2.1.1.2.2.2.2) -> ((inK .i64 s4.2.2.2.1.2.1) -> ((T.ok (.sl (.sl (.int .i64))) s4.2.2.2.1.2.2.1) -> ((T.ok (.sl (.sl (.int .i64))) s4.2.2.2.1.2.2.2) -> ((T.ok (.sl (.sl (.int .i64))) s4.2.2.2.2.1) -> ((T.ok (.sl (.sl (.int .i64))) s4.2.2.2.2.2.1) -> ((T.ok (.sl (.int .i64)) s4.2.2.2.2.2.2.1) -> ((T.ok (.sl (.int .i64)) s4.2.2.2.2.2.2.2.1) -> ((room s4.2.2.2.2.2.2.1.length (List.length (s4.1.2.2.2.2.2.2.2.1 :: [])) 8) /\ ((room s4.2.2.2.2.2.2.2.1.length (List.length ((mxR s2.1.2.2.2.2.2.1 s3.1.2.2.2.2.2.2.2.1) :: [])) 8) /\ ((inK .i64 (s3.1.2.2.2.2.2.2.2.1 + 1)) /\ (next2 (((), ((), ((), ((), ((), ((), ((), ((s3.1.2.2.2.2.2.2.2.1 + 1), ())))))))), (s4.2.1, (s4.2.2.1, (s4.2.2.2.1, (s4.2.2.2.2.1, (s4.2.2.2.2.2.1, ((s4.2.2.2.2.2.2.1 ++ (s4.1.2.2.2.2.2.2.2.1 :: [])), ((s4.2.2.2.2.2.2.2.1 ++ ((mxR s2.1.2.2.2.2.2.1 s3.1.2.2.2.2.2.2.2.1) :: [])), ()))))))))))))))))))))))))))))))))))))) (fun k3 => (cnd (decide (s2.1.2.2.2.2.2.1 <= s3.1.2.2.2.2.2.2.2.1)) (k3 (((), ((), ((), ((), ((), ((), ((), (1, ())))))))), (s3.2.1, (s3.2.2.1, (s3.2.2.2.1, (s3.2.2.2.2.1, (s3.2.2.2.2.2.1, (s3.2.2.2.2.2.2.1, (s3.2.2.2.2.2.2.2.1, ()))))))))) (k3 (((), ((), ((), ((), ((), ((), ((), (0, ())))))))), (s3.2.1, (s3.2.2.1, (s3.2.2.2.1, (s3.2.2.2.2.1, (s3.2.2.2.2.2.1, (s3.2.2.2.2.2.2.1, (s3.2.2.2.2.2.2.2.1, ())))))))))))) ((room s3.2.2.2.2.1.length (List.length (s3.2.2.2.2.2.2.1 :: [])) 24) /\ ((room s3.2.2.2.2.2.1.length (List.length (s3.2.2.2.2.2.2.2.1 :: [])) 24) /\ ((inK .i64 (s2.1.2.2.2.2.2.1 + 1)) /\ (next1 (((), ((), ((), ((), ((), ((s2.1.2.2.2.2.2.1 + 1), ())))))), (s3.2.1, (s3.2.2.1, (s3.2.2.2.1, ((s3.2.2.2.2.1 ++ (s3.2.2.2.2.2.2.1 :: [])), ((s3.2.2.2.2.2.1 ++ (s3.2.2.2.2.2.2.2.1 :: [])), ()))))))))))))))))))))))))))))))))))))) (((), ((), ((), ((), ((), ((), ((), (0, ())))))))), (s2.2.1, (s2.2.2.1, (s2.2.2.2.1, (s2.2.2.2.2.1, (s2.2.2.2.2.2.1, ([], ([], ()))))))))) ((0 <= s2.2.1.2.1) /\ (joinW (S := ((Unit × (Unit × (Unit × (Unit × (Unit × Unit))))) × (((List Int) × (Int × Int)) × (((Int × ((List Int) × ((List Int) × ((List Int) × (List (List Int)))))) × (Int × ((List (List Int)) × (List (List Int))))) × (((Int × ((List Int) × ((List Int) × ((List Int) × (List (List Int)))))) × (Int × ((List (List Int)) × (List (List Int))))) × ((List (List Int)) × ((List (List Int)) × Unit))))))) (fun s3 => ((T.ok (.sl (.int .u8)) s3.2.1.1) -> ((inK .i64 s3.2.1.2.1) -> ((inK .u64 s3.2.1.2.2) -> ((inK .i64 s3.2.2.1.1.1) -> ((T.ok (.sl (.int .i64)) s3.2.2.1.1.2.1) -> ((T.ok (.sl (.int .i64)) s3.2.2.1.1.2.2.1) -> ((T.ok (.sl (.int .i64)) s3.2.2.1.1.2.2.2.1) -> ((T.ok (.sl (.sl (.int .i64))) s3.2.2.1.1.2.2.2.2) -> ((inK .i64 s3.2.2.1.2.1) -> ((T.ok (.sl (.sl (.int .i64))) s3.2.2.1.2.2.1) -> ((T.ok (.sl (.sl (.int .i64))) s3.2.2.1.2.2.2) -> ((inK .i64 s3.2.2.2.1.1.1) -> ((T.ok (.sl (.int .i64)) s3.2.2.2.1.1.2.1) -> ((T.ok (.sl (.int .i64)) s3.2.2.2.1.1.2.2.1) -> ((T.ok (.sl (.int .i64)) s3.2.2.2.1.1.2.2.2.1) -> ((T.ok (.sl (.sl (.int .i64))) s3.2.2.2.1.1.2.2.2.2) -> ((inK .i64 s3.2.2.2.1.2.1) -> ((T.ok (.sl (.sl (.int .i64))) s3.2.2.2.1.2.2.1) -> ((T.ok (.sl (.sl (.int .i64))) s3.2.2.2.1.2.2.2) -> ((T.ok (.sl (.sl (.int .i64))) s3.2.2.2.2.1) -> ((T.ok (.sl (.sl (.int .i64))) s3.2.2.2.2.2.1) -> ((TblR s3.2.2.2.2.1) /\ ((TblR s3.2.2.2.2.2.1) /\ (k2 (((), ((), ((), ((spec_OrderMonoidal_r1R s3.2.2.2.2.1 s3.2.2.2.2.2.1), ())))), (s3.2.1, (s3.2.2.1, ((spec_OrderMonoidal_r0R s3.2.2.2.2.1 s3.2.2.2.2.2.1), ()))))))))))))))))))))))))))))) (fun k3 => (cnd ((spec_l01Next_r0R s2.2.1 2) == 0) (loopW (S := ((Unit × (Unit × (Unit × (Unit × (Unit × (Int × Unit)))))) × (((List Int) × (Int × Int)) × (((Int × ((List Int) × ((List Int) × ((List Int) × (List (List Int)))))) × (Int × ((List (List Int)) × (List (List Int))))) × (((Int × ((List Int) × ((List Int) × ((List Int) × (List (List Int)))))) × (Int × ((List (List Int)) × (List (List Int))))) × ((List (List Int)) × ((List (List Int)) × Unit))))))) (fun s3 => (fun next2 => ((inK .i64 s3.1.2.2.2.2.2.1) -> ((T.ok (.sl (.int .u8)) s3.2.1.1) -> ((inK .i64 s3.2.1.2.1) -> ((inK .u64 s3.2.1.2.2) -> ((inK .i64 s3.2.2.1.1.1) -> ((T.ok (.sl (.int .i64)) s3.2.2.1.1.2.1) -> ((T.ok (.sl (.int .i64)) s3.2.2.1.1.2.2.1) -> ((T.ok (.sl (.int .i64)) s3.2.2.1.1.2.2.2.1) -> ((T.ok (.sl (.sl (.int .i64))) s3.2.2.1.1.2.2.2.2) -> ((inK .i64 s3.2.2.1.2.1) -> ((T.ok (.sl (.sl (.int .i64))) s3.2.2.1.2.2.1) -> ((T.ok (.sl (.sl (.int .i64))) s3.2.2.1.2.2.2) -> ((inK .i64 s3.2.2.2.1.1.1) -> ((T.ok (.sl (.int .i64)) s3.2.2.2.1.1.2.1) -> ((T.ok (.sl (.int .i64)) s3.2.2.2.1.1.2.2.1) -> ((T.ok (.sl (.int .i64)) s3.2.2.2.1.1.2.2.2.1) -> ((T.ok (.sl (.sl (.int .i64))) s3.2.2.2.1.1.2.2.2.2) -> ((inK .i64 s3.2.2.2.1.2.1) -> ((T.ok (.sl (.sl (.int .i64))) s3.2.2.2.1.2.2.1) -> ((T.ok (.sl (.sl (.int .i64))) s3.2.2.2.1.2.2.2) -> ((T.ok (.sl (.sl (.int .i64))) s3.2.2.2.2.1) -> ((T.ok (.sl (.sl (.int .i64))) s3.2.2.2.2.2.1) -> (cnd (decide (s3.1.2.2.2.2.2.1 < ((s3.2.2.2.2.1.length : Nat) : Int))) (loopW (S := ((Unit × (Unit × (Unit × (Unit × (Unit × (Int × Unit)))))) × (((List Int) × (Int × Int)) × (((Int × ((List Int) × ((List Int) × ((List Int) × (List (List Int)))))) × (Int × ((List (List Int)) × (List (List Int))))) × (((Int × ((List Int) × ((List Int) × ((List Int) × (List (List Int)))))) × (Int × ((List (List Int)) × (List (List Int))))) × ((List (List Int)) × ((List (List Int)) × Unit))))))) (fun s4 => (fun next3 => ((inK .i64 s4.1.2.2.2.2.2.1) -> ((T.ok (.sl (.int .u8)) s4.2.1.1) -> ((inK .i64 s4.2.1.2.1) -> ((inK .u64 s4.2.1.2.2) -> ((inK .i64 s4.2.2.1.1.1) -> ((T.ok (.sl (.int .i64)) s4.2.2.1.1.2.1) -> ((T.ok (.sl (.int .i64)) s4.2.2.1.1.2.2.1) -> ((T.ok (.sl (.int .i64)) s4.2.2.1.1.2.2.2.1) -> ((T.ok (.sl (.sl (.int .i64))) s4.2.2.1.1.2.2.2.2) -> ((inK .i64 s4.2.2.1.2.1) -> ((T.ok (.sl (.sl (.int .i64))) s4.2.2.1.2.2.1) -> ((T.ok (.sl (.sl (.int .i64))) s4.2.2.1.2.2.2) -> ((inK .i64 s4.2.2.2.1.1.1) -> ((T.ok (.sl (.int .i64)) s4.2.2.2.1.1.2.1) -> ((T.ok (.sl (.int .i64)) s4.2.2.2.1.1.2.2.1) -> ((T.ok (.sl (.int .i64)) s4.2.2.2.1.1.2.2.2.1) -> ((T.ok (.sl (.sl (.int .i64))) s4.2.2.2.1.1.2.2.2.2) -> ((inK .i64 s4.2.2.2.1.2.1) -> ((T.ok (.sl (.sl (.int .i64))) s4.2.2.2.1.2.2.1) -> ((T.ok (.sl (.sl (.int .i64))) s4.2.2.2.1.2.2.2) -> ((T.ok (.sl (.sl (.int .i64))) s4.2.2.2.2.1) -> ((T.ok (.sl (.sl (.int .i64))) s4.2.2.2.2.2.1) -> (cnd (decide (s4.1.2.2.2.2.2.1 < s3.1.2.2.2.2.2.1)) ((0 <= s3.1.2.2.2.2.2.1) /\ ((s3.1.2.2.2.2.2.1 < ((s4.2.2.2.2.1.length : Nat) : Int)) /\ ((0 <= s4.1.2.2.2.2.2.1) /\ ((s4.1.2.2.2.2.2.1 < (((List.length (List.getD s4.2.2.2.2.1 s3.1.2.2.2.2.2.1.toNat [])) : Nat) : Int)) /\ ((0 <= s3.1.2.2.2.2.2.1) /\ ((s3.1.2.2.2.2.2.1 < ((s4.2.2.2.2.1.length : Nat) : Int)) /\ ((0 <= s4.1.2.2.2.2.2.1) /\ ((s4.1.2.2.2.2.2.1 < ((s4.2.2.2.2.1.length : Nat) : Int)) /\ ((0 <= s3.1.2.2.2.2.2.1) /\ ((s3.1.2.2.2.2.2.1 < (((List.length (List.getD s4.2.2.2.2.1 s4.1.2.2.2.2.2.1.toNat [])) : Nat) : Int)) /\ ((0 <= s4.1.2.2.2.2.2.1) /\ ((s4.1.2.2.2.2.2.1 < (((List.length (List.getD s4.2.2.2.2.1 s3.1.2.2.2.2.2.1.toNat [])) : Nat) : Int)) /\ ((0 <= s4.1.2.2.2.2.2.1) /\ ((s4.1.2.2.2.2.2.1 < (((List.length (List.set s4.2.2.2.2.1 s3.1.2.2.2.2.2.1.toNat (List.set (List.getD s4.2.2.2.2.1 s3.1.2.2.2.2.2.1.toNat []) s4.1.2.2.2.2.2.1.toNat (List.getD (List.getD s4.2.2.2.2.1 s4.1.2.2.2.2.2.1.toNat []) s3.1.2.2.2.2.2.1.toNat 0)))) : Nat) : Int)) /\ ((0 <= s3.1.2.2.2.2.2.1) /\ ((s3.1.2.2.2.2.2.1 < (((List.length (List.getD (List.set s4.2.2.2.2.1 s3.1.2.2.2.2.2.1.toNat (List.set (List.getD s4.2.2.2.2.1 s3.1.2.2.2.2.2.1.toNat []) s4.1.2.2.2.2.2.1.toNat (List.getD (List.getD s4.2.2.2.2.1 s4.1.2.2.2.2.2.1.toNat []) s3.1.2.2.2.2.2.1.toNat 0))) s4.1.2.2.2.2.2.1.toNat [])) : Nat) : Int)) /\ ((inK .i64 (s4.1.2.2.2.2.2.1 + 1)) /\ (next3 (((), ((), ((), ((), ((), ((s4.1.2.2.2.2.2.1 + 1), ())))))), (s4.2.1, (s4.2.2.1, (s4.2.2.2.1, ((List.set (List.set s4.2.2.2.2.1 s3.1.2.2.2.2.2.1.toNat (List.set (List.getD s4.2.2.2.2.1 s3.1.2.2.2.2.2.1.toNat []) s4.1.2.2.2.2.2.1.toNat (List.getD (List.getD s4.2.2.2.2.1 s4.1.2.2.2.2.2.1.toNat []) s3.1.2.2.2.2.2.1.toNat 0))) s4.1.2.2.2.2.2.1.toNat (List.set (List.getD (List.set s4.2.2.2.2.1 s3.1.2.2.2.2.2.1.toNat (List.set (List.getD s4.2.2.2.2.1 s3.1.2.2.2.2.2.1.toNat []) s4.1.2.2.2.2.2.1.toNat (List.getD (List.getD s4.2.2.2.2.1 s4.1.2.2.2.2.2.1.toNat []) s3.1.2.2.2.2.2.1.toNat 0))) s4.1.2.2.2.2.2.1.toNat []) s3.1.2.2.2.2.2.1.toNat (List.getD (List.getD s4.2.2.2.2.1 s3.1.2.2.2.2.2.1.toNat []) s4.1.2.2.2.2.2.1.toNat 0))), (s4.2.2.2.2.2.1, ())))))))))))))))))))))))) ((inK .i64 (s3.1.2.2.2.2.2.1 + 1)) /\ (next2 (((), ((), ((), ((), ((), ((s3.1.2.2.2.2.2.1 + 1), ())))))), (s4.2.1, (s4.2.2.1, (s4.2.2.2.1, (s4.2.2.2.2.1, (s4.2.2.2.2.2.1, ()))))))))))))))))))))))))))))))))) (((), ((), ((), ((), ((), (0, ())))))), (s3.2.1, (s3.2.2.1, (s3.2.2.2.1, (s3.2.2.2.2.1, (s3.2.2.2.2.2.1, ()))))))) (k3 (((), ((), ((), ((), ((), ()))))), (s3.2.1, (s3.2.2.1, (s3.2.2.2.1, (s3.2.2.2.2.1, (s3.2.2.2.2.2.1, ())))))))))))))))))))))))))))))))) (((), ((), ((), ((), ((), (0, ())))))), ((spec_l01Next_zR s2.2.1 2), (s2.2.2.1, (s2.2.2.2.1, (s2.2.2.2.2.1, (s2.2.2.2.2.2.1, ()))))))) (k3 (((), ((), ((), ((), ((), ()))))), ((spec_l01Next_zR s2.2.1 2), (s2.2.2.1, (s2.2.2.2.1, (s2.2.2.2.2.1, (s2.2.2.2.2.2.1, ())))))))))))))))))))))))))))))))))))) (((), ((), ((), ((), ((), (0, ())))))), ((spec_l01Next_zR (spec_l01Next_zR s1.2.1 4) 2), (s1.2.2.1, (((0, ([], ([], ([], [])))), (0, ([], []))), ([], ([], ()))))))))) ((SrcR (spec_l01Next_zR s1.2.1 4)) /\ ((SrcR (spec_l02Monoid_zR (spec_l01Next_zR s1.2.1 4))) /\ ((1 <= (((List.length (spec_l02Monoid_r0R (spec_l01Next_zR s1.2.1 4))) : Nat) : Int)) /\ (((((List.length (spec_l02Monoid_r0R (spec_l01Next_zR s1.2.1 4))) : Nat) : Int) <= 8) /\ ((TblR (spec_l02Relation_r0R (spec_l02Monoid_zR (spec_l01Next_zR s1.2.1 4)) (((List.length (spec_l02Monoid_r0R (spec_l01Next_zR s1.2.1 4))) : Nat) : Int))) /\ ((TblR (spec_l02Monoid_r0R (spec_l01Next_zR s1.2.1 4))) /\ (k2 (((), ((), ((), ((spec_OrderMonoidal_r1R (spec_l02Relation_r0R (spec_l02Monoid_zR (spec_l01Next_zR s1.2.1 4)) (((List.length (spec_l02Monoid_r0R (spec_l01Next_zR s1.2.1 4))) : Nat) : Int)) (spec_l02Monoid_r0R (spec_l01Next_zR s1.2.1 4))), ())))), ((spec_l02Relation_zR (spec_l02Monoid_zR (spec_l01Next_zR s1.2.1 4)) (((List.length (spec_l02Monoid_r0R (spec_l01Next_zR s1.2.1 4))) : Nat) : Int)), (s1.2.2.1, ((spec_OrderMonoidal_r0R (spec_l02Relation_r0R (spec_l02Monoid_zR (spec_l01Next_zR s1.2.1 4)) (((List.length (spec_l02Monoid_r0R (spec_l01Next_zR s1.2.1 4))) : Nat) : Int)) (spec_l02Monoid_r0R (spec_l01Next_zR s1.2.1 4))), ()))))))))))))))))))))) ((TblR ((0 :: (1 :: [])) :: ((1 :: (0 :: [])) :: []))) /\ (K s1.2.1 ((spec_DiscreteMonoidal_r0R ((0 :: (1 :: [])) :: ((1 :: (0 :: [])) :: []))), ())))))))))))))))))) (((), ((), (0, ()))), (s, (((0, ([], ([], ([], [])))), (0, ([], []))), ()))))
theorem w_spec_l35Some (x : w1_spec_l35Some.o.strip.den) (y : denL w1_spec_l35Some.as) (K : spec_l01SourceD -> (MonoidalD × Unit) -> Prop) : evFw tab ph_spec_l35Some (cutL [(38, 12)]) Try.f127 (bodyOf Try.f127) an_spec_l35Some w1_spec_l35Some x y K = W_spec_l35Some x  K := by kernel_rfl
theorem k_spec_l35Some : okC Try.f127.ntmps (cutL [(38, 12)]) (bodyOf Try.f127) = true := by kernel_rfl
theorem m_spec_l35Some (s : spec_l01SourceD) (hok : allP (w1_spec_l35Some.o.strip.oks s)) (hok2 : allP (okL w1_spec_l35Some.as (()))) (hpre : allP (w1_spec_l35Some.pre s (()))) : W_spec_l35Some s (fun z r => Q_spec_l35Some s z r.1) := by
 simp only [w1_spec_l35Some, O.strip, okL, T.oks, T.ok, ap, allP, true_and, and_true, implies_true] at hok hok2 hpre
 try dsimp only [T.den] at hok
 try dsimp only [T.den] at hok2
 try dsimp only [T.den] at hpre
 unfold W_spec_l35Some Q_spec_l35Some
 refine loop_of (fun (s : ((Unit × (Unit × (Int × Unit))) × (((List Int) × (Int × Int)) × (((Int × ((List Int) × ((List Int) × ((List Int) × (List (List Int)))))) × (Int × ((List (List Int)) × (List (List Int))))) × Unit)))) => 0 <= s.1.2.2.1 /\ s.1.2.2.1 <= 10 /\ SrcR s.2.1) (fun (s : ((Unit × (Unit × (Int × Unit))) × (((List Int) × (Int × Int)) × (((Int × ((List Int) × ((List Int) × ((List Int) × (List (List Int)))))) × (Int × ((List (List Int)) × (List (List Int))))) × Unit)))) => (10 - s.1.2.2.1).toNat) ?_ ⟨by simp, by simp, hpre⟩
 rintro ⟨⟨_, _, i, _⟩, s1, m1, _⟩ next ⟨h0, h1, h2⟩ hn
 intros
 try dsimp only at h0 h1 h2 hn ⊢
 refine cnd_d (fun hc => ?_) (fun hc => ?_)
 ·have hx := next_p (n := 4) h2 (by rw [inK64]; (try dsimp only); omega)
  have hmo := monoid_p hx.1
  refine ⟨h2.2, join_of (fun s2 => SrcR s2.2.1 /\ (s2.1.2.2.2.1 = 0 -> MgR s2.2.2.2.1)) (fun s2 hs => ?_) (fun k hk => cnd_of (fun _ => ⟨hx.1, hmo.2.1, hk _ ⟨hmo.1, (discrete_p hmo.2.1 hmo.2.2).1⟩⟩) (fun _ => ?_))⟩
  ·intros
   refine cnd_of (fun he => ⟨hs.1, hs.2 (by simpa using he)⟩) (fun _ => ⟨by rw [inK64]; (try dsimp only); omega, hn _ ⟨by dsimp only; omega, by dsimp only; omega, hs.1⟩ (by first | omega | (dsimp only; omega))⟩)
  refine join_of (fun s2 => SrcR s2.2.1 /\ (s2.1.2.2.2.1 = 0 -> MgR s2.2.2.2.1)) (fun s2 hs => by intros; exact hk _ hs) (fun k1 hk1 => cnd_of (fun _ => ⟨hx.1, hmo.2.1, hk1 _ ⟨hmo.1, commutative_p hmo.2.1 hmo.2.2⟩⟩) (fun _ => ?_))
  refine join_of (fun s2 => SrcR s2.2.1 /\ (s2.1.2.2.2.1 = 0 -> MgR s2.2.2.2.1)) (fun s2 hs => by intros; exact hk1 _ hs) (fun k2 hk2 => cnd_of (fun _ => ?_) (fun _ => ?_))
  ·have hy := next_p (n := 2) hx.1 (by rw [inK64]; (try dsimp only); omega)
   have hy2 := hy.2.2.1 (by omega)
   have hy1 := hy.2.1
   refine ⟨hx.1.2, by rw [inK64]; (try dsimp only); omega, ?_⟩
   have hz := hy.1
   generalize hnn : 2 + spec_l01Next_r0R (spec_l01Next_zR s1 4) 2 = n at *
   have n0 : 2 <= n := by omega
   have n1 : n <= 4 := by omega
   refine loop_of (fun (s : ((Unit × (Unit × (Unit × (Unit × (Unit × (Int × Unit)))))) × (((List Int) × (Int × Int)) × (((Int × ((List Int) × ((List Int) × ((List Int) × (List (List Int)))))) × (Int × ((List (List Int)) × (List (List Int))))) × (((Int × ((List Int) × ((List Int) × ((List Int) × (List (List Int)))))) × (Int × ((List (List Int)) × (List (List Int))))) × ((List (List Int)) × ((List (List Int)) × Unit))))))) => 0 <= s.1.2.2.2.2.2.1 /\ s.1.2.2.2.2.2.1 <= n /\ SrcR s.2.1 /\ (s.2.2.2.2.1.length : Int) = s.1.2.2.2.2.2.1 /\ (∀ r ∈ s.2.2.2.2.1, (r.length : Int) = n) /\ (s.2.2.2.2.2.1.length : Int) = s.1.2.2.2.2.2.1 /\ (∀ r ∈ s.2.2.2.2.2.1, (r.length : Int) = n)) (fun (s : ((Unit × (Unit × (Unit × (Unit × (Unit × (Int × Unit)))))) × (((List Int) × (Int × Int)) × (((Int × ((List Int) × ((List Int) × ((List Int) × (List (List Int)))))) × (Int × ((List (List Int)) × (List (List Int))))) × (((Int × ((List Int) × ((List Int) × ((List Int) × (List (List Int)))))) × (Int × ((List (List Int)) × (List (List Int))))) × ((List (List Int)) × ((List (List Int)) × Unit))))))) => (n - s.1.2.2.2.2.2.1).toNat) ?_ ⟨by simp, by (try dsimp only); omega, hz, by simp, by simp, by simp, by simp⟩
   rintro ⟨⟨_, _, _, _, _, a, _⟩, s2, d1, d2, rel, tab, _⟩ nexta ⟨a0, a1, a2, a3, a4, a5, a6⟩ hna
   intros
   try dsimp only at a0 a1 a2 a3 a4 a5 a6 hna ⊢
   refine cnd_d (fun ha => ?_) (fun ha => ?_)
   ·refine loop_of (fun (s : ((Unit × (Unit × (Unit × (Unit × (Unit × (Unit × (Unit × (Int × Unit)))))))) × (((List Int) × (Int × Int)) × (((Int × ((List Int) × ((List Int) × ((List Int) × (List (List Int)))))) × (Int × ((List (List Int)) × (List (List Int))))) × (((Int × ((List Int) × ((List Int) × ((List Int) × (List (List Int)))))) × (Int × ((List (List Int)) × (List (List Int))))) × ((List (List Int)) × ((List (List Int)) × ((List Int) × ((List Int) × Unit))))))))) => 0 <= s.1.2.2.2.2.2.2.2.1 /\ s.1.2.2.2.2.2.2.2.1 <= n /\ SrcR s.2.1 /\ s.2.2.2.2.1 = rel /\ s.2.2.2.2.2.1 = tab /\ (s.2.2.2.2.2.2.1.length : Int) = s.1.2.2.2.2.2.2.2.1 /\ (s.2.2.2.2.2.2.2.1.length : Int) = s.1.2.2.2.2.2.2.2.1) (fun (s : ((Unit × (Unit × (Unit × (Unit × (Unit × (Unit × (Unit × (Int × Unit)))))))) × (((List Int) × (Int × Int)) × (((Int × ((List Int) × ((List Int) × ((List Int) × (List (List Int)))))) × (Int × ((List (List Int)) × (List (List Int))))) × (((Int × ((List Int) × ((List Int) × ((List Int) × (List (List Int)))))) × (Int × ((List (List Int)) × (List (List Int))))) × ((List (List Int)) × ((List (List Int)) × ((List Int) × ((List Int) × Unit))))))))) => (n - s.1.2.2.2.2.2.2.2.1).toNat) ?_ ⟨by simp, by (try dsimp only); omega, a2, rfl, rfl, by simp, by simp⟩
    rintro ⟨⟨_, _, _, _, _, _, _, b, _⟩, s3, d3, d4, rel2, tab2, row, line, _⟩ nextb ⟨b0, b1, b2, b3, b4, b5, b6⟩ hnb
    intros
    try dsimp only at b0 b1 b2 b3 b4 b5 b6 hnb ⊢
    subst b3; subst b4
    refine cnd_d (fun hb => ?_) (fun hb => ?_)
    ·refine join_of (fun s4 => SrcR s4.2.1 /\ s4.2.2.2.2.1 = rel2 /\ s4.2.2.2.2.2.1 = tab2 /\ (s4.2.2.2.2.2.2.1.length : Int) = b /\ (s4.2.2.2.2.2.2.2.1.length : Int) = b) (fun s4 hs => ?_) (fun k3 hk3 => cnd_d (fun _ => hk3 _ ⟨b2, rfl, rfl, b5, b6⟩) (fun _ => hk3 _ ⟨b2, rfl, rfl, b5, b6⟩))
     intros
     have q1 := hs.2.2.2.1
     have q2 := hs.2.2.2.2
     refine ⟨?_, ?_, by rw [inK64]; (try dsimp only); omega, hnb _ ⟨by dsimp only; omega, by dsimp only; omega, hs.1, hs.2.1, hs.2.2.1, ?_, ?_⟩ (by first | omega | (dsimp only; omega))⟩
     ·unfold room; rw [nb_eq]; simp only [List.length_cons, List.length_nil]; omega
     ·unfold room; rw [nb_eq]; simp only [List.length_cons, List.length_nil]; omega
     ·simp only [List.length_append, List.length_cons, List.length_nil]; omega
     ·simp only [List.length_append, List.length_cons, List.length_nil]; omega
    ·refine ⟨?_, ?_, by rw [inK64]; (try dsimp only); omega, hna _ ⟨by dsimp only; omega, by dsimp only; omega, b2, ?_, ?_, ?_, ?_⟩ (by first | omega | (dsimp only; omega))⟩
     ·unfold room; rw [nb_eq]; simp only [List.length_cons, List.length_nil]; omega
     ·unfold room; rw [nb_eq]; simp only [List.length_cons, List.length_nil]; omega
     ·simp only [List.length_append, List.length_cons, List.length_nil]; omega
     ·intro r hr
      rcases List.mem_append.1 hr with hr | hr
      ·exact a4 r hr
      ·simp only [List.mem_singleton] at hr; subst hr; omega
     ·simp only [List.length_append, List.length_cons, List.length_nil]; omega
     ·intro r hr
      rcases List.mem_append.1 hr with hr | hr
      ·exact a6 r hr
      ·simp only [List.mem_singleton] at hr; subst hr; omega
   ·have rr : RowP n rel := ⟨by omega, a4⟩
    have rt : RowP n tab := ⟨by omega, a6⟩
    have hw := next_p (n := 2) a2 (by rw [inK64]; (try dsimp only); omega)
    refine ⟨a2.2, join_of (fun s3 => SrcR s3.2.1 /\ RowP n s3.2.2.2.2.1 /\ RowP n s3.2.2.2.2.2.1) (fun s3 hs => ?_) (fun k3 hk3 => cnd_of (fun _ => ?_) (fun _ => hk3 _ ⟨hw.1, rr, rt⟩))⟩
    ·intro _ _ _ _ _ _ _ _ _ _ _ _ _ _ _ _ _ _ _ q1 q2
     exact ⟨hs.2.1.tbl (by omega) (by omega), hs.2.2.tbl (by omega) (by omega), hk2 _ ⟨hs.1, order_p (hs.2.1.tbl (by omega) (by omega)) (hs.2.2.tbl (by omega) (by omega)) q1 q2⟩⟩
    ·refine loop_of (fun (s : ((Unit × (Unit × (Unit × (Unit × (Unit × (Int × Unit)))))) × (((List Int) × (Int × Int)) × (((Int × ((List Int) × ((List Int) × ((List Int) × (List (List Int)))))) × (Int × ((List (List Int)) × (List (List Int))))) × (((Int × ((List Int) × ((List Int) × ((List Int) × (List (List Int)))))) × (Int × ((List (List Int)) × (List (List Int))))) × ((List (List Int)) × ((List (List Int)) × Unit))))))) => 0 <= s.1.2.2.2.2.2.1 /\ s.1.2.2.2.2.2.1 <= n /\ SrcR s.2.1 /\ RowP n s.2.2.2.2.1 /\ RowP n s.2.2.2.2.2.1) (fun (s : ((Unit × (Unit × (Unit × (Unit × (Unit × (Int × Unit)))))) × (((List Int) × (Int × Int)) × (((Int × ((List Int) × ((List Int) × ((List Int) × (List (List Int)))))) × (Int × ((List (List Int)) × (List (List Int))))) × (((Int × ((List Int) × ((List Int) × ((List Int) × (List (List Int)))))) × (Int × ((List (List Int)) × (List (List Int))))) × ((List (List Int)) × ((List (List Int)) × Unit))))))) => (n - s.1.2.2.2.2.2.1).toNat) ?_ ⟨by simp, by (try dsimp only); omega, hw.1, rr, rt⟩
     rintro ⟨⟨_, _, _, _, _, b, _⟩, s3, d3, d4, rel2, tab2, _⟩ nextb ⟨b0, b1, b2, b3, b4⟩ hnb
     intros
     try dsimp only at b0 b1 b2 b3 b4 hnb ⊢
     have lb := b3.l
     refine cnd_d (fun hb => ?_) (fun hb => hk3 _ ⟨b2, b3, b4⟩)
     refine loop_of (fun (s : ((Unit × (Unit × (Unit × (Unit × (Unit × (Int × Unit)))))) × (((List Int) × (Int × Int)) × (((Int × ((List Int) × ((List Int) × ((List Int) × (List (List Int)))))) × (Int × ((List (List Int)) × (List (List Int))))) × (((Int × ((List Int) × ((List Int) × ((List Int) × (List (List Int)))))) × (Int × ((List (List Int)) × (List (List Int))))) × ((List (List Int)) × ((List (List Int)) × Unit))))))) => 0 <= s.1.2.2.2.2.2.1 /\ s.1.2.2.2.2.2.1 <= b /\ SrcR s.2.1 /\ RowP n s.2.2.2.2.1 /\ RowP n s.2.2.2.2.2.1) (fun (s : ((Unit × (Unit × (Unit × (Unit × (Unit × (Int × Unit)))))) × (((List Int) × (Int × Int)) × (((Int × ((List Int) × ((List Int) × ((List Int) × (List (List Int)))))) × (Int × ((List (List Int)) × (List (List Int))))) × (((Int × ((List Int) × ((List Int) × ((List Int) × (List (List Int)))))) × (Int × ((List (List Int)) × (List (List Int))))) × ((List (List Int)) × ((List (List Int)) × Unit))))))) => (b - s.1.2.2.2.2.2.1).toNat) ?_ ⟨by simp, by (try dsimp only); omega, b2, b3, b4⟩
     rintro ⟨⟨_, _, _, _, _, c, _⟩, s4, d5, d6, rel3, tab3, _⟩ nextc ⟨c0, c1, c2, c3, c4⟩ hnc
     intros
     try dsimp only at c0 c1 c2 c3 c4 hnc ⊢
     refine cnd_d (fun hcc => ?_) (fun hcc => ⟨by rw [inK64]; (try dsimp only); omega, hnb _ ⟨by dsimp only; omega, by dsimp only; omega, c2, c3, c4⟩ (by first | omega | (dsimp only; omega))⟩)
     have lc := c3.l
     have l1 := c3.row (i := b) b0 (by omega)
     have l2 := c3.row (i := c) c0 (by omega)
     have e3 : ∀ x : Int, RowP n (rel3.set b.toNat ((rel3.getD b.toNat []).set c.toNat x)) := fun x => c3.set b0 (by omega)
     have l3 := fun x => (e3 x).l
     have l4 := fun x => (e3 x).row (i := c) c0 (by omega)
     exact ⟨b0, by omega, c0, by omega, b0, by omega, c0, by omega, b0, by omega, c0, by omega, c0, by rw [l3]; omega, b0, by rw [l4]; omega, by rw [inK64]; (try dsimp only); omega, hnc _ ⟨by dsimp only; omega, by dsimp only; omega, c2, (e3 _).set c0 (by omega), c4⟩ (by first | omega | (dsimp only; omega))⟩
  ·have hlo := hmo.2.1.lo
   have hhi := hmo.2.1.hi
   have hr := relation_p (n := ((spec_l02Monoid_r0R (spec_l01Next_zR s1 4)).length : Int)) hmo.1 (by omega) (by omega)
   exact ⟨hx.1, hmo.1, by omega, by omega, hr.2.1, hmo.2.1, hk2 _ ⟨hr.1, order_p hr.2.1 hmo.2.1 hr.2.2 hmo.2.2⟩⟩
 ·have ht : TblR [[0, 1], [1, 0]] := ⟨by simp, by simp, by simp⟩
  have hd := discrete_p ht (by simp [T.ok, inK64, nb_eq])
  exact ⟨ht, h2, hd.1 (hd.2 (by decide))⟩
theorem e_spec_l35Some (s : spec_l01SourceD) : ∃ q : spec_l01SourceD × (MonoidalD × Unit), allP (w1_spec_l35Some.o.strip.oks s) -> allP (okL w1_spec_l35Some.as (())) -> allP (w1_spec_l35Some.pre s (())) -> W_spec_l35Some s (fun z r => z = q.1 /\ r = q.2) /\ allP (w1_spec_l35Some.o.strip.oks q.1) /\ allP (okR w1_spec_l35Some.rt q.2) /\ Q_spec_l35Some s q.1 q.2.1 :=
 pick_wy (f := 127) (Φ := ph_spec_l35Some) (good_cons ct_spec_CommutativeMonoidal (good_cons ct_spec_DiscreteMonoidal (good_cons ct_spec_OrderMonoidal (good_cons ct_spec_l01Next (good_cons ct_spec_l02Monoid (good_cons ct_spec_l02Relation good_nil)))))) tab_ok (by kernel_rfl) (fn := Try.f127) (c := bodyOf Try.f127) (by kernel_rfl) (by kernel_rfl) (by kernel_rfl) w1_spec_l35Some an_spec_l35Some (cutL [(38, 12)]) (by kernel_rfl) (by kernel_rfl) k_spec_l35Some (by decide) (by kernel_rfl) (by kernel_rfl) spec_l01SourceT rfl (by kernel_rfl) (fun x y K => W_spec_l35Some x  K) w_spec_l35Some (fun x y z r => Q_spec_l35Some x  z r.1) (fun x y h1 h2 h3 => m_spec_l35Some x  h1 h2 h3) s (())
def spec_l35Some_zR (s : spec_l01SourceD) : spec_l01SourceD := (e_spec_l35Some s).choose.1
def spec_l35Some_r0R (s : spec_l01SourceD) : MonoidalD := (e_spec_l35Some s).choose.2.1
theorem q_spec_l35Some (s : spec_l01SourceD) (hok : allP (w1_spec_l35Some.o.strip.oks s)) (hok2 : allP (okL w1_spec_l35Some.as (()))) (hpre : allP (w1_spec_l35Some.pre s (()))) : allP (w1_spec_l35Some.o.strip.oks (spec_l35Some_zR s)) /\ allP (okR w1_spec_l35Some.rt (spec_l35Some_r0R s, ())) /\ Q_spec_l35Some s (spec_l35Some_zR s) (spec_l35Some_r0R s) := ((e_spec_l35Some s).choose_spec hok hok2 hpre).2
def w0_spec_l35Some : Wt := ⟨(.pt (.fz spec_l01SourceT)), [], [], fun x y => [SrcR x], fun x y => (spec_l35Some_zR x), [(true, (.p (.fz CategoryT) (.p (.fz (.int .i64)) (.p (.sl (.sl (.fz (.int .i64)))) (.sl (.sl (.fz (.int .i64))))))))], fun x y => ((spec_l35Some_r0R x), ())⟩
def c_spec_l35Some : Ct := wtCt w0_spec_l35Some
theorem w2_spec_l35Some (x : w0_spec_l35Some.o.strip.den) (y : denL w0_spec_l35Some.as) (K : spec_l01SourceD -> (MonoidalD × Unit) -> Prop) : evFw tab ph_spec_l35Some (cutL [(38, 12)]) Try.f127 (bodyOf Try.f127) an_spec_l35Some w0_spec_l35Some x y K = W_spec_l35Some x  K := by kernel_rfl
theorem ct_spec_l35Some : CtOk Try.prog 127 c_spec_l35Some :=
 wt_of (Φ := ph_spec_l35Some) (good_cons ct_spec_CommutativeMonoidal (good_cons ct_spec_DiscreteMonoidal (good_cons ct_spec_OrderMonoidal (good_cons ct_spec_l01Next (good_cons ct_spec_l02Monoid (good_cons ct_spec_l02Relation good_nil)))))) tab_ok (by kernel_rfl) (fn := Try.f127) (c := bodyOf Try.f127) (by kernel_rfl) (by kernel_rfl) (by kernel_rfl) w0_spec_l35Some an_spec_l35Some (cutL [(38, 12)]) (by kernel_rfl) (by kernel_rfl) k_spec_l35Some (by decide) (by kernel_rfl) (fun x y h1 h2 h3 => (w2_spec_l35Some x y _).mpr ((e_spec_l35Some x ).choose_spec h1 h2 h3).1)
theorem some_p {s : spec_l01SourceD} (h : SrcR s) : SrcR (spec_l35Some_zR s) /\ MgR (spec_l35Some_r0R s) /\ allP (T.oks MonoidalT (spec_l35Some_r0R s)) := by
 obtain ⟨_, h2, h3⟩ := q_spec_l35Some s h.1 trivial ⟨h, trivial⟩
 simp only [w1_spec_l35Some, okR, allP_ap] at h2
 exact ⟨h3.1, h3.2, h2.1⟩
def w1_spec_l35Draw : Wt := ⟨(.pt (.fz spec_l01SourceT)), [], [], fun x y => [SrcR x], fun x _ => x, [(true, (.p (.fz CategoryT) (.p (.fz (.int .i64)) (.p (.fz (.sl (.sl (.int .i64)))) (.sl (.sl (.fz (.int .i64))))))))], fun _ _ => dfR _⟩
def Q_spec_l35Draw (s : spec_l01SourceD) (z : spec_l01SourceD) (r0 : MonoidalD) : Prop := SrcR z
def an_spec_l35Draw : Ann := (.s .n (.s .n (.s (.s .n (.s .n (.j [(0, (.ad 1000000 [.de])), (2, (.ad 2 [.de])), (3, (.ad 3 [.de]))] [(1000000, (.pt (.fz (.p (.sl (.int .u8)) (.p (.int .i64) (.int .u64)))))), (2, (.pt (.p (.p (.fz (.int .i64)) (.p (.sl (.fz (.int .i64))) (.p (.sl (.fz (.int .i64))) (.p (.sl (.fz (.int .i64))) (.sl (.sl (.fz (.int .i64)))))))) (.p (.fz (.int .i64)) (.p (.sl (.sl (.fz (.int .i64)))) (.sl (.sl (.fz (.int .i64))))))))), (3, (.pt (.p (.fz (.p (.int .i64) (.p (.sl (.int .i64)) (.p (.sl (.int .i64)) (.p (.sl (.int .i64)) (.sl (.sl (.int .i64)))))))) (.p (.fz (.int .i64)) (.p (.fz (.sl (.sl (.int .i64)))) (.sl (.sl (.fz (.int .i64)))))))))] [] (.s .n (.s .n (.j [(0, (.ad 1000000 [.de])), (2, (.ad 2 [.de])), (3, (.ad 3 [.de]))] [(1000000, (.pt (.fz (.p (.sl (.int .u8)) (.p (.int .i64) (.int .u64)))))), (2, (.pt (.p (.p (.fz (.int .i64)) (.p (.sl (.fz (.int .i64))) (.p (.sl (.fz (.int .i64))) (.p (.sl (.fz (.int .i64))) (.sl (.sl (.fz (.int .i64)))))))) (.p (.fz (.int .i64)) (.p (.sl (.sl (.fz (.int .i64)))) (.sl (.sl (.fz (.int .i64))))))))), (3, (.pt (.p (.fz (.p (.int .i64) (.p (.sl (.int .i64)) (.p (.sl (.int .i64)) (.p (.sl (.int .i64)) (.sl (.sl (.int .i64)))))))) (.p (.fz (.int .i64)) (.p (.fz (.sl (.sl (.int .i64)))) (.sl (.sl (.fz (.int .i64)))))))))] [] (.s .n (.s .n (.j [(0, (.ad 1000000 [.de])), (2, (.ad 2 [.de])), (3, (.ad 3 [.de]))] [(1000000, (.pt (.fz (.p (.sl (.int .u8)) (.p (.int .i64) (.int .u64)))))), (2, (.pt (.p (.p (.fz (.int .i64)) (.p (.sl (.fz (.int .i64))) (.p (.sl (.fz (.int .i64))) (.p (.sl (.fz (.int .i64))) (.sl (.sl (.fz (.int .i64)))))))) (.p (.fz (.int .i64)) (.p (.sl (.sl (.fz (.int .i64)))) (.sl (.sl (.fz (.int .i64))))))))), (3, (.pt (.p (.fz (.p (.int .i64) (.p (.sl (.int .i64)) (.p (.sl (.int .i64)) (.p (.sl (.int .i64)) (.sl (.sl (.int .i64)))))))) (.p (.fz (.int .i64)) (.p (.fz (.sl (.sl (.int .i64)))) (.sl (.sl (.fz (.int .i64)))))))))] [] .n))))))))) .n)))
def ph_spec_l35Draw : FuncId -> Option Ct := lkp [(79, c_spec_l01Next), (77, c_spec_l02Number), (127, c_spec_l35Some)]
def W_spec_l35Draw (s : spec_l01SourceD) (K : spec_l01SourceD -> (MonoidalD × Unit) -> Prop) : Prop := ((SrcR s) /\ ((0 <= (spec_l35Some_zR s).2.1) /\ (joinW (S := ((Unit × (Unit × (Unit × Unit))) × (((List Int) × (Int × Int)) × (((Int × ((List Int) × ((List Int) × ((List Int) × (List (List Int)))))) × (Int × ((List (List Int)) × (List (List Int))))) × (((Int × ((List Int) × ((List Int) × ((List Int) × (List (List Int)))))) × (Int × ((List (List Int)) × (List (List Int))))) × Unit))))) (fun s1 => ((T.ok (.sl (.int .u8)) s1.2.1.1) -> ((inK .i64 s1.2.1.2.1) -> ((inK .u64 s1.2.1.2.2) -> ((inK .i64 s1.2.2.1.1.1) -> ((T.ok (.sl (.int .i64)) s1.2.2.1.1.2.1) -> ((T.ok (.sl (.int .i64)) s1.2.2.1.1.2.2.1) -> ((T.ok (.sl (.int .i64)) s1.2.2.1.1.2.2.2.1) -> ((T.ok (.sl (.sl (.int .i64))) s1.2.2.1.1.2.2.2.2) -> ((inK .i64 s1.2.2.1.2.1) -> ((T.ok (.sl (.sl (.int .i64))) s1.2.2.1.2.2.1) -> ((T.ok (.sl (.sl (.int .i64))) s1.2.2.1.2.2.2) -> ((inK .i64 s1.2.2.2.1.1.1) -> ((T.ok (.sl (.int .i64)) s1.2.2.2.1.1.2.1) -> ((T.ok (.sl (.int .i64)) s1.2.2.2.1.1.2.2.1) -> ((T.ok (.sl (.int .i64)) s1.2.2.2.1.1.2.2.2.1) -> ((T.ok (.sl (.sl (.int .i64))) s1.2.2.2.1.1.2.2.2.2) -> ((inK .i64 s1.2.2.2.1.2.1) -> ((T.ok (.sl (.sl (.int .i64))) s1.2.2.2.1.2.2.1) -> ((T.ok (.sl (.sl (.int .i64))) s1.2.2.2.1.2.2.2) -> (K s1.2.1 (s1.2.2.2.1, ())))))))))))))))))))))) (fun k => (cnd ((spec_l01Next_r0R (spec_l35Some_zR s) 24) == 0) (((0 : Int) <= 0) /\ ((0 < (((List.length (spec_l35Some_r0R s).2.2.2) : Nat) : Int)) /\ ((inK .i64 ((((List.length (spec_l35Some_r0R s).1.2.1) : Nat) : Int) + 1)) /\ ((SrcR (spec_l01Next_zR (spec_l35Some_zR s) 24)) /\ (((0 : Int) <= 0) /\ ((0 < (((List.length (List.getD (spec_l35Some_r0R s).2.2.2 (Int.toNat 0) [])) : Nat) : Int)) /\ (k (((), ((), ((), ()))), ((spec_l02Number_zR (spec_l01Next_zR (spec_l35Some_zR s) 24) ((((List.length (spec_l35Some_r0R s).1.2.1) : Nat) : Int) + 1)), (((0, ([], ([], ([], [])))), (0, ([], []))), (((spec_l35Some_r0R s).1, ((spec_l35Some_r0R s).2.1, ((spec_l35Some_r0R s).2.2.1, (List.set (spec_l35Some_r0R s).2.2.2 (Int.toNat 0) (List.set (List.getD (spec_l35Some_r0R s).2.2.2 (Int.toNat 0) []) (Int.toNat 0) (spec_l02Number_r0R (spec_l01Next_zR (spec_l35Some_zR s) 24) ((((List.length (spec_l35Some_r0R s).1.2.1) : Nat) : Int) + 1))))))), ()))))))))))) (joinW (S := ((Unit × (Unit × (Unit × Unit))) × (((List Int) × (Int × Int)) × (((Int × ((List Int) × ((List Int) × ((List Int) × (List (List Int)))))) × (Int × ((List (List Int)) × (List (List Int))))) × (((Int × ((List Int) × ((List Int) × ((List Int) × (List (List Int)))))) × (Int × ((List (List Int)) × (List (List Int))))) × Unit))))) (fun s1 => ((T.ok (.sl (.int .u8)) s1.2.1.1) -> ((inK .i64 s1.2.1.2.1) -> ((inK .u64 s1.2.1.2.2) -> ((inK .i64 s1.2.2.1.1.1) -> ((T.ok (.sl (.int .i64)) s1.2.2.1.1.2.1) -> ((T.ok (.sl (.int .i64)) s1.2.2.1.1.2.2.1) -> ((T.ok (.sl (.int .i64)) s1.2.2.1.1.2.2.2.1) -> ((T.ok (.sl (.sl (.int .i64))) s1.2.2.1.1.2.2.2.2) -> ((inK .i64 s1.2.2.1.2.1) -> ((T.ok (.sl (.sl (.int .i64))) s1.2.2.1.2.2.1) -> ((T.ok (.sl (.sl (.int .i64))) s1.2.2.1.2.2.2) -> ((inK .i64 s1.2.2.2.1.1.1) -> ((T.ok (.sl (.int .i64)) s1.2.2.2.1.1.2.1) -> ((T.ok (.sl (.int .i64)) s1.2.2.2.1.1.2.2.1) -> ((T.ok (.sl (.int .i64)) s1.2.2.2.1.1.2.2.2.1) -> ((T.ok (.sl (.sl (.int .i64))) s1.2.2.2.1.1.2.2.2.2) -> ((inK .i64 s1.2.2.2.1.2.1) -> ((T.ok (.sl (.sl (.int .i64))) s1.2.2.2.1.2.2.1) -> ((T.ok (.sl (.sl (.int .i64))) s1.2.2.2.1.2.2.2) -> (k (((), ((), ((), ()))), (s1.2.1, (s1.2.2.1, (s1.2.2.2.1, ()))))))))))))))))))))))))) (fun k1 => (cnd ((spec_l01Next_r0R (spec_l35Some_zR s) 24) == 1) ((SrcR (spec_l01Next_zR (spec_l35Some_zR s) 24)) /\ (k1 (((), ((), ((), ()))), ((spec_l02Number_zR (spec_l01Next_zR (spec_l35Some_zR s) 24) (spec_l35Some_r0R s).1.1), (((0, ([], ([], ([], [])))), (0, ([], []))), (((spec_l35Some_r0R s).1, ((spec_l02Number_r0R (spec_l01Next_zR (spec_l35Some_zR s) 24) (spec_l35Some_r0R s).1.1), (spec_l35Some_r0R s).2.2)), ())))))) (joinW (S := ((Unit × (Unit × (Unit × Unit))) × (((List Int) × (Int × Int)) × (((Int × ((List Int) × ((List Int) × ((List Int) × (List (List Int)))))) × (Int × ((List (List Int)) × (List (List Int))))) × (((Int × ((List Int) × ((List Int) × ((List Int) × (List (List Int)))))) × (Int × ((List (List Int)) × (List (List Int))))) × Unit))))) (fun s1 => ((T.ok (.sl (.int .u8)) s1.2.1.1) -> ((inK .i64 s1.2.1.2.1) -> ((inK .u64 s1.2.1.2.2) -> ((inK .i64 s1.2.2.1.1.1) -> ((T.ok (.sl (.int .i64)) s1.2.2.1.1.2.1) -> ((T.ok (.sl (.int .i64)) s1.2.2.1.1.2.2.1) -> ((T.ok (.sl (.int .i64)) s1.2.2.1.1.2.2.2.1) -> ((T.ok (.sl (.sl (.int .i64))) s1.2.2.1.1.2.2.2.2) -> ((inK .i64 s1.2.2.1.2.1) -> ((T.ok (.sl (.sl (.int .i64))) s1.2.2.1.2.2.1) -> ((T.ok (.sl (.sl (.int .i64))) s1.2.2.1.2.2.2) -> ((inK .i64 s1.2.2.2.1.1.1) -> ((T.ok (.sl (.int .i64)) s1.2.2.2.1.1.2.1) -> ((T.ok (.sl (.int .i64)) s1.2.2.2.1.1.2.2.1) -> ((T.ok (.sl (.int .i64)) s1.2.2.2.1.1.2.2.2.1) -> ((T.ok (.sl (.sl (.int .i64))) s1.2.2.2.1.1.2.2.2.2) -> ((inK .i64 s1.2.2.2.1.2.1) -> ((T.ok (.sl (.sl (.int .i64))) s1.2.2.2.1.2.2.1) -> ((T.ok (.sl (.sl (.int .i64))) s1.2.2.2.1.2.2.2) -> (k1 (((), ((), ((), ()))), (s1.2.1, (s1.2.2.1, (s1.2.2.2.1, ()))))))))))))))))))))))))) (fun k2 => (cnd ((spec_l01Next_r0R (spec_l35Some_zR s) 24) == 2) (((0 : Int) <= 1) /\ ((1 <= (((List.length (spec_l35Some_r0R s).2.2.1) : Nat) : Int)) /\ (k2 (((), ((), ((), ()))), ((spec_l01Next_zR (spec_l35Some_zR s) 24), (((0, ([], ([], ([], [])))), (0, ([], []))), (((spec_l35Some_r0R s).1, ((spec_l35Some_r0R s).2.1, ((List.drop (Int.toNat 1) (spec_l35Some_r0R s).2.2.1), (spec_l35Some_r0R s).2.2.2))), ()))))))) (k2 (((), ((), ((), ()))), ((spec_l01Next_zR (spec_l35Some_zR s) 24), (((0, ([], ([], ([], [])))), (0, ([], []))), ((spec_l35Some_r0R s), ()))))))))))))))))
theorem w_spec_l35Draw (x : w1_spec_l35Draw.o.strip.den) (y : denL w1_spec_l35Draw.as) (K : spec_l01SourceD -> (MonoidalD × Unit) -> Prop) : evFw tab ph_spec_l35Draw (cutL [(4, 40010)]) Try.f97 (bodyOf Try.f97) an_spec_l35Draw w1_spec_l35Draw x y K = W_spec_l35Draw x  K := by kernel_rfl
theorem k_spec_l35Draw : okC Try.f97.ntmps (cutL [(4, 40010)]) (bodyOf Try.f97) = true := by kernel_rfl
theorem m_spec_l35Draw (s : spec_l01SourceD) (hok : allP (w1_spec_l35Draw.o.strip.oks s)) (hok2 : allP (okL w1_spec_l35Draw.as (()))) (hpre : allP (w1_spec_l35Draw.pre s (()))) : W_spec_l35Draw s (fun z r => Q_spec_l35Draw s z r.1) := by
 simp only [w1_spec_l35Draw, O.strip, okL, T.oks, T.ok, ap, allP, true_and, and_true, implies_true] at hok hok2 hpre
 try dsimp only [T.den] at hok
 try dsimp only [T.den] at hok2
 try dsimp only [T.den] at hpre
 unfold W_spec_l35Draw Q_spec_l35Draw
 have hs := some_p hpre
 have hx := next_p (n := 24) hs.1 (by rw [inK64]; (try dsimp only); omega)
 have hm := hs.2.1
 have hq := hs.2.2
 simp only [T.oks, ap, allP, T.ok] at hq
 have l1 : (spec_l35Some_r0R s).1.2.1.length <= nb := by
  have := hq.2.1.1
  exact this
 rw [nb_eq] at l1
 have ho := hm.ob
 have ha := hm.ar
 have ha0 := hm.a0
 refine ⟨hpre, hs.1.2, join_of (fun s1 => SrcR s1.2.1) (fun s1 h => ?_) (fun k hk => cnd_of (fun _ => ?_) (fun _ => join_of (fun s1 => SrcR s1.2.1) (fun s1 h => ?_) (fun k1 hk1 => cnd_of (fun _ => ⟨hx.1, hk1 _ (number_p hx.1 hq.1).1⟩) (fun _ => join_of (fun s1 => SrcR s1.2.1) (fun s1 h => ?_) (fun k2 hk2 => cnd_of (fun _ => ⟨by omega, by omega, hk2 _ hx.1⟩) (fun _ => hk2 _ hx.1))))))⟩
 ·intros; exact h
 ·have hi : inK .i64 (((spec_l35Some_r0R s).1.2.1.length : Int) + 1) := by rw [inK64]; (try dsimp only); omega
  exact ⟨Int.le_refl _, by omega, hi, hx.1, Int.le_refl _, by have := ha0; (show (0 : Int) < (((spec_l35Some_r0R s).2.2.2.getD 0 []).length : Int)); omega, hk _ (number_p hx.1 hi).1⟩
 ·intros; exact hk _ h
 ·intros; exact hk1 _ h
theorem e_spec_l35Draw (s : spec_l01SourceD) : ∃ q : spec_l01SourceD × (MonoidalD × Unit), allP (w1_spec_l35Draw.o.strip.oks s) -> allP (okL w1_spec_l35Draw.as (())) -> allP (w1_spec_l35Draw.pre s (())) -> W_spec_l35Draw s (fun z r => z = q.1 /\ r = q.2) /\ allP (w1_spec_l35Draw.o.strip.oks q.1) /\ allP (okR w1_spec_l35Draw.rt q.2) /\ Q_spec_l35Draw s q.1 q.2.1 :=
 pick_wy (f := 97) (Φ := ph_spec_l35Draw) (good_cons ct_spec_l01Next (good_cons ct_spec_l02Number (good_cons ct_spec_l35Some good_nil))) tab_ok (by kernel_rfl) (fn := Try.f97) (c := bodyOf Try.f97) (by kernel_rfl) (by kernel_rfl) (by kernel_rfl) w1_spec_l35Draw an_spec_l35Draw (cutL [(4, 40010)]) (by kernel_rfl) (by kernel_rfl) k_spec_l35Draw (by decide) (by kernel_rfl) (by kernel_rfl) spec_l01SourceT rfl (by kernel_rfl) (fun x y K => W_spec_l35Draw x  K) w_spec_l35Draw (fun x y z r => Q_spec_l35Draw x  z r.1) (fun x y h1 h2 h3 => m_spec_l35Draw x  h1 h2 h3) s (())
def spec_l35Draw_zR (s : spec_l01SourceD) : spec_l01SourceD := (e_spec_l35Draw s).choose.1
def spec_l35Draw_r0R (s : spec_l01SourceD) : MonoidalD := (e_spec_l35Draw s).choose.2.1
theorem q_spec_l35Draw (s : spec_l01SourceD) (hok : allP (w1_spec_l35Draw.o.strip.oks s)) (hok2 : allP (okL w1_spec_l35Draw.as (()))) (hpre : allP (w1_spec_l35Draw.pre s (()))) : allP (w1_spec_l35Draw.o.strip.oks (spec_l35Draw_zR s)) /\ allP (okR w1_spec_l35Draw.rt (spec_l35Draw_r0R s, ())) /\ Q_spec_l35Draw s (spec_l35Draw_zR s) (spec_l35Draw_r0R s) := ((e_spec_l35Draw s).choose_spec hok hok2 hpre).2
def w0_spec_l35Draw : Wt := ⟨(.pt (.fz spec_l01SourceT)), [], [], fun x y => [SrcR x], fun x y => (spec_l35Draw_zR x), [(true, (.p (.fz CategoryT) (.p (.fz (.int .i64)) (.p (.fz (.sl (.sl (.int .i64)))) (.sl (.sl (.fz (.int .i64))))))))], fun x y => ((spec_l35Draw_r0R x), ())⟩
def c_spec_l35Draw : Ct := wtCt w0_spec_l35Draw
theorem w2_spec_l35Draw (x : w0_spec_l35Draw.o.strip.den) (y : denL w0_spec_l35Draw.as) (K : spec_l01SourceD -> (MonoidalD × Unit) -> Prop) : evFw tab ph_spec_l35Draw (cutL [(4, 40010)]) Try.f97 (bodyOf Try.f97) an_spec_l35Draw w0_spec_l35Draw x y K = W_spec_l35Draw x  K := by kernel_rfl
theorem ct_spec_l35Draw : CtOk Try.prog 97 c_spec_l35Draw :=
 wt_of (Φ := ph_spec_l35Draw) (good_cons ct_spec_l01Next (good_cons ct_spec_l02Number (good_cons ct_spec_l35Some good_nil))) tab_ok (by kernel_rfl) (fn := Try.f97) (c := bodyOf Try.f97) (by kernel_rfl) (by kernel_rfl) (by kernel_rfl) w0_spec_l35Draw an_spec_l35Draw (cutL [(4, 40010)]) (by kernel_rfl) (by kernel_rfl) k_spec_l35Draw (by decide) (by kernel_rfl) (fun x y h1 h2 h3 => (w2_spec_l35Draw x y _).mpr ((e_spec_l35Draw x ).choose_spec h1 h2 h3).1)
theorem draw_p {s : spec_l01SourceD} (h : SrcR s) : SrcR (spec_l35Draw_zR s) /\ allP (T.oks MonoidalT (spec_l35Draw_r0R s)) := by
 obtain ⟨_, h2, h3⟩ := q_spec_l35Draw s h.1 trivial ⟨h, trivial⟩
 simp only [w1_spec_l35Draw, okR, allP_ap] at h2
 exact ⟨h3, h2.1⟩
def c1_spec_l35List : Ct := ⟨[(.sl (.int .u8)), .bool], [false, false], fun x => [], [(true, (.p (.fz CategoryT) (.p (.fz (.int .i64)) (.p (.fz (.sl (.sl (.int .i64)))) (.sl (.sl (.fz (.int .i64)))))))), (false, (.sl (.fz (.int .i64))))], fun _ => dfR _, true, none⟩
def Q_spec_l35List (code : List Int) (arrows : Bool) (r0 : MonoidalD) (r1 : List Int) : Prop := r1.length <= 5
def an_spec_l35List : Ann := (.s .n (.s .n (.s .n (.s .n (.s (.s .n (.j [(4, (.ad 4 [.de])), (6, (.ad 101200 [.de])), (7, (.ad 7 [.de])), (8, (.d (.int .i64)))] [(4, (.pt (.p (.p (.fz (.int .i64)) (.p (.sl (.fz (.int .i64))) (.p (.sl (.fz (.int .i64))) (.p (.sl (.fz (.int .i64))) (.sl (.sl (.fz (.int .i64)))))))) (.p (.fz (.int .i64)) (.p (.sl (.sl (.fz (.int .i64)))) (.sl (.sl (.fz (.int .i64))))))))), (101200, (.pt (.fz (.p (.sl (.int .u8)) (.p (.int .i64) (.int .u64)))))), (7, (.pt (.p (.fz (.p (.int .i64) (.p (.sl (.int .i64)) (.p (.sl (.int .i64)) (.p (.sl (.int .i64)) (.sl (.sl (.int .i64)))))))) (.p (.fz (.int .i64)) (.p (.fz (.sl (.sl (.int .i64)))) (.sl (.sl (.fz (.int .i64)))))))))] [] .n)) (.s .n (.s (.s .n (.l [(4, (.ad 4 [.de])), (6, (.ad 101200 [.de])), (7, (.ad 7 [.de])), (9, (.ref 800009 [])), (10, (.d (.int .i64)))] [(4, (.pt (.p (.p (.fz (.int .i64)) (.p (.sl (.fz (.int .i64))) (.p (.sl (.fz (.int .i64))) (.p (.sl (.fz (.int .i64))) (.sl (.sl (.fz (.int .i64)))))))) (.p (.fz (.int .i64)) (.p (.sl (.sl (.fz (.int .i64)))) (.sl (.sl (.fz (.int .i64))))))))), (101200, (.pt (.fz (.p (.sl (.int .u8)) (.p (.int .i64) (.int .u64)))))), (7, (.pt (.p (.fz (.p (.int .i64) (.p (.sl (.int .i64)) (.p (.sl (.int .i64)) (.p (.sl (.int .i64)) (.sl (.sl (.int .i64)))))))) (.p (.fz (.int .i64)) (.p (.fz (.sl (.sl (.int .i64)))) (.sl (.sl (.fz (.int .i64))))))))), (800009, (.sl (.fz (.int .i64))))] [8] .n)) .n)))))))
def ph_spec_l35List : FuncId -> Option Ct := lkp [(75, c_spec_l01From), (79, c_spec_l01Next), (77, c_spec_l02Number), (97, c_spec_l35Draw)]
def W_spec_l35List (code : List Int) (arrows : Bool) (K : MonoidalD × (List Int) × Unit -> Prop) : Prop := ((SrcR (spec_l01From_r0R code)) /\ (joinW (S := ((Unit × (Unit × (Unit × (Int × Unit)))) × (((Int × ((List Int) × ((List Int) × ((List Int) × (List (List Int)))))) × (Int × ((List (List Int)) × (List (List Int))))) × (((List Int) × (Int × Int)) × (((Int × ((List Int) × ((List Int) × ((List Int) × (List (List Int)))))) × (Int × ((List (List Int)) × (List (List Int))))) × Unit))))) (fun s => ((inK .i64 s.1.2.2.2.1) -> ((inK .i64 s.2.1.1.1) -> ((T.ok (.sl (.int .i64)) s.2.1.1.2.1) -> ((T.ok (.sl (.int .i64)) s.2.1.1.2.2.1) -> ((T.ok (.sl (.int .i64)) s.2.1.1.2.2.2.1) -> ((T.ok (.sl (.sl (.int .i64))) s.2.1.1.2.2.2.2) -> ((inK .i64 s.2.1.2.1) -> ((T.ok (.sl (.sl (.int .i64))) s.2.1.2.2.1) -> ((T.ok (.sl (.sl (.int .i64))) s.2.1.2.2.2) -> ((T.ok (.sl (.int .u8)) s.2.2.1.1) -> ((inK .i64 s.2.2.1.2.1) -> ((inK .u64 s.2.2.1.2.2) -> ((inK .i64 s.2.2.2.1.1.1) -> ((T.ok (.sl (.int .i64)) s.2.2.2.1.1.2.1) -> ((T.ok (.sl (.int .i64)) s.2.2.2.1.1.2.2.1) -> ((T.ok (.sl (.int .i64)) s.2.2.2.1.1.2.2.2.1) -> ((T.ok (.sl (.sl (.int .i64))) s.2.2.2.1.1.2.2.2.2) -> ((inK .i64 s.2.2.2.1.2.1) -> ((T.ok (.sl (.sl (.int .i64))) s.2.2.2.1.2.2.1) -> ((T.ok (.sl (.sl (.int .i64))) s.2.2.2.1.2.2.2) -> ((0 <= s.2.2.1.2.1) /\ (loopW (S := ((Unit × (Unit × (Unit × (Unit × (Int × Unit))))) × (((Int × ((List Int) × ((List Int) × ((List Int) × (List (List Int)))))) × (Int × ((List (List Int)) × (List (List Int))))) × (((List Int) × (Int × Int)) × (((Int × ((List Int) × ((List Int) × ((List Int) × (List (List Int)))))) × (Int × ((List (List Int)) × (List (List Int))))) × ((List Int) × Unit)))))) (fun s1 => (fun next => ((inK .i64 s1.1.2.2.2.2.1) -> ((inK .i64 s1.2.1.1.1) -> ((T.ok (.sl (.int .i64)) s1.2.1.1.2.1) -> ((T.ok (.sl (.int .i64)) s1.2.1.1.2.2.1) -> ((T.ok (.sl (.int .i64)) s1.2.1.1.2.2.2.1) -> ((T.ok (.sl (.sl (.int .i64))) s1.2.1.1.2.2.2.2) -> ((inK .i64 s1.2.1.2.1) -> ((T.ok (.sl (.sl (.int .i64))) s1.2.1.2.2.1) -> ((T.ok (.sl (.sl (.int .i64))) s1.2.1.2.2.2) -> ((T.ok (.sl (.int .u8)) s1.2.2.1.1) -> ((inK .i64 s1.2.2.1.2.1) -> ((inK .u64 s1.2.2.1.2.2) -> ((inK .i64 s1.2.2.2.1.1.1) -> ((T.ok (.sl (.int .i64)) s1.2.2.2.1.1.2.1) -> ((T.ok (.sl (.int .i64)) s1.2.2.2.1.1.2.2.1) -> ((T.ok (.sl (.int .i64)) s1.2.2.2.1.1.2.2.2.1) -> ((T.ok (.sl (.sl (.int .i64))) s1.2.2.2.1.1.2.2.2.2) -> ((inK .i64 s1.2.2.2.1.2.1) -> ((T.ok (.sl (.sl (.int .i64))) s1.2.2.2.1.2.2.1) -> ((T.ok (.sl (.sl (.int .i64))) s1.2.2.2.1.2.2.2) -> ((T.ok (.sl (.int .i64)) s1.2.2.2.2.1) -> (cnd (decide (0 < s1.1.2.2.2.2.1)) ((SrcR s1.2.2.1) /\ ((room s1.2.2.2.2.1.length (List.length ((spec_l02Number_r0R s1.2.2.1 s.1.2.2.2.1) :: [])) 8) /\ ((inK .i64 (s1.1.2.2.2.2.1 - 1)) /\ (next (((), ((), ((), ((), ((s1.1.2.2.2.2.1 - 1), ()))))), (s1.2.1, ((spec_l02Number_zR s1.2.2.1 s.1.2.2.2.1), (s1.2.2.2.1, ((s1.2.2.2.2.1 ++ ((spec_l02Number_r0R s1.2.2.1 s.1.2.2.2.1) :: [])), ()))))))))) (K (s1.2.2.2.1, (s1.2.2.2.2.1, ()))))))))))))))))))))))))))) (((), ((), ((), ((), ((spec_l01Next_r0R s.2.2.1 5), ()))))), (s.2.1, ((spec_l01Next_zR s.2.2.1 5), (s.2.2.2.1, ([], ())))))))))))))))))))))))))))) (fun k => (cnd arrows (k (((), ((), ((), ((((List.length (spec_l35Draw_r0R (spec_l01From_r0R code)).1.2.1) : Nat) : Int), ())))), (((0, ([], ([], ([], [])))), (0, ([], []))), ((spec_l35Draw_zR (spec_l01From_r0R code)), ((spec_l35Draw_r0R (spec_l01From_r0R code)), ()))))) (k (((), ((), ((), ((spec_l35Draw_r0R (spec_l01From_r0R code)).1.1, ())))), (((0, ([], ([], ([], [])))), (0, ([], []))), ((spec_l35Draw_zR (spec_l01From_r0R code)), ((spec_l35Draw_r0R (spec_l01From_r0R code)), ())))))))))
theorem w_spec_l35List (x : denL c1_spec_l35List.args) (K : MonoidalD × (List Int) × Unit -> Prop) : evF tab ph_spec_l35List (cutL []) Try.f37 (bodyOf Try.f37) an_spec_l35List c1_spec_l35List x K = W_spec_l35List x.1 x.2.1 K := by kernel_rfl
theorem k_spec_l35List : okC Try.f37.ntmps (cutL []) (bodyOf Try.f37) = true := by kernel_rfl
theorem m_spec_l35List (code : List Int) (arrows : Bool) (hok : allP (okL c1_spec_l35List.args (code, arrows, ()))) (hpre : allP (c1_spec_l35List.pre (code, arrows, ()))) : W_spec_l35List code arrows (fun r => Q_spec_l35List code arrows r.1 r.2.1) := by
 simp only [c1_spec_l35List, okL, T.oks, T.ok, ap, allP, true_and, and_true, implies_true] at hok hpre
 try dsimp only [T.den] at hok
 try dsimp only [T.den] at hpre
 unfold W_spec_l35List Q_spec_l35List
 have h0 := from_p (code := code) ⟨hok, trivial⟩
 have hd := draw_p h0
 refine ⟨h0, join_of (fun s1 => SrcR s1.2.2.1) (fun s1 h => ?_) (fun k hk => cnd_of (fun _ => hk _ hd.1) (fun _ => hk _ hd.1))⟩
 intro hn0
 intros
 have h5 := next_p (n := 5) h (by rw [inK64]; (try dsimp only); omega)
 have h52 := h5.2.2.1 (by omega)
 refine ⟨h.2, ?_⟩
 refine loop_of (fun (s : ((Unit × (Unit × (Unit × (Unit × (Int × Unit))))) × (((Int × ((List Int) × ((List Int) × ((List Int) × (List (List Int)))))) × (Int × ((List (List Int)) × (List (List Int))))) × (((List Int) × (Int × Int)) × (((Int × ((List Int) × ((List Int) × ((List Int) × (List (List Int)))))) × (Int × ((List (List Int)) × (List (List Int))))) × ((List Int) × Unit)))))) => SrcR s.2.2.1 /\ 0 <= s.1.2.2.2.2.1 /\ (s.2.2.2.2.1.length : Int) + s.1.2.2.2.2.1 <= 5) (fun (s : ((Unit × (Unit × (Unit × (Unit × (Int × Unit))))) × (((Int × ((List Int) × ((List Int) × ((List Int) × (List (List Int)))))) × (Int × ((List (List Int)) × (List (List Int))))) × (((List Int) × (Int × Int)) × (((Int × ((List Int) × ((List Int) × ((List Int) × (List (List Int)))))) × (Int × ((List (List Int)) × (List (List Int))))) × ((List Int) × Unit)))))) => s.1.2.2.2.2.1.toNat) ?_ ⟨h5.1, by (try dsimp only); omega, by (try dsimp only); simp only [List.length_nil]; omega⟩
 rintro ⟨⟨_, _, _, _, i, _⟩, m1, s2, m2, l, _⟩ next ⟨g0, g1, g2⟩ hn
 intros
 try dsimp only at g0 g1 g2 hn ⊢
 have hp := number_p g0 hn0
 refine cnd_d (fun hi => ⟨g0, ?_, by rw [inK64]; (try dsimp only); omega, hn _ ⟨hp.1, by dsimp only; omega, ?_⟩ (by first | omega | (dsimp only; omega))⟩) (fun hi => (by omega : l.length <= 5))
 ·unfold room; rw [nb_eq]; simp only [List.length_cons, List.length_nil]; omega
 ·simp only [List.length_append, List.length_cons, List.length_nil]; omega
theorem e_spec_l35List (code : List Int) (arrows : Bool) : ∃ q : MonoidalD × (List Int) × Unit, allP (okL c1_spec_l35List.args (code, arrows, ())) -> allP (c1_spec_l35List.pre (code, arrows, ())) -> W_spec_l35List code arrows (fun r => r = q) /\ allP (okR c1_spec_l35List.rt q) /\ Q_spec_l35List code arrows q.1 q.2.1 :=
 pick_by (f := 37) (Φ := ph_spec_l35List) (good_cons ct_spec_l01From (good_cons ct_spec_l01Next (good_cons ct_spec_l02Number (good_cons ct_spec_l35Draw good_nil)))) tab_ok (by kernel_rfl) (fn := Try.f37) (c := bodyOf Try.f37) (by kernel_rfl) (by kernel_rfl) (by kernel_rfl) c1_spec_l35List an_spec_l35List (cutL []) (by kernel_rfl) (by kernel_rfl) k_spec_l35List (by decide) (by kernel_rfl) (fun x K => W_spec_l35List x.1 x.2.1 K) w_spec_l35List (fun x r => Q_spec_l35List x.1 x.2.1 r.1 r.2.1) (fun x h1 h2 => m_spec_l35List x.1 x.2.1 h1 h2) (code, arrows, ())
def spec_l35List_r0R (code : List Int) (arrows : Bool) : MonoidalD := (e_spec_l35List code arrows).choose.1
def spec_l35List_r1R (code : List Int) (arrows : Bool) : List Int := (e_spec_l35List code arrows).choose.2.1
theorem q_spec_l35List (code : List Int) (arrows : Bool) (hok : allP (okL c1_spec_l35List.args (code, arrows, ()))) (hpre : allP (c1_spec_l35List.pre (code, arrows, ()))) : allP (okR c1_spec_l35List.rt (spec_l35List_r0R code arrows, spec_l35List_r1R code arrows, ())) /\ Q_spec_l35List code arrows (spec_l35List_r0R code arrows) (spec_l35List_r1R code arrows) := ((e_spec_l35List code arrows).choose_spec hok hpre).2
def c_spec_l35List : Ct := ⟨[(.sl (.int .u8)), .bool], [false, false], fun x => [], [(true, (.p (.fz CategoryT) (.p (.fz (.int .i64)) (.p (.fz (.sl (.sl (.int .i64)))) (.sl (.sl (.fz (.int .i64)))))))), (false, (.sl (.fz (.int .i64))))], fun x => ((spec_l35List_r0R x.1 x.2.1), (spec_l35List_r1R x.1 x.2.1), ()), true, none⟩
theorem w2_spec_l35List (x : denL c_spec_l35List.args) (K : MonoidalD × (List Int) × Unit -> Prop) : evF tab ph_spec_l35List (cutL []) Try.f37 (bodyOf Try.f37) an_spec_l35List c_spec_l35List x K = W_spec_l35List x.1 x.2.1 K := by kernel_rfl
theorem ct_spec_l35List : CtOk Try.prog 37 c_spec_l35List :=
 ct_by (Φ := ph_spec_l35List) (good_cons ct_spec_l01From (good_cons ct_spec_l01Next (good_cons ct_spec_l02Number (good_cons ct_spec_l35Draw good_nil)))) tab_ok (by kernel_rfl) (fn := Try.f37) (c := bodyOf Try.f37) (by kernel_rfl) (by kernel_rfl) (by kernel_rfl) c_spec_l35List rfl an_spec_l35List (cutL []) (by kernel_rfl) (by kernel_rfl) k_spec_l35List (by decide) (fun x K => W_spec_l35List x.1 x.2.1 K) w2_spec_l35List (fun x h1 h2 => ((e_spec_l35List x.1 x.2.1).choose_spec h1 h2).1)
theorem list_p {code : List Int} (h : (T.sl (.int .u8)).ok code) (b : Bool) : (spec_l35List_r1R code b).length <= 5 /\ allP (T.oks MonoidalT (spec_l35List_r0R code b)) /\ (T.sl (.int .i64)).ok (spec_l35List_r1R code b) := by
 obtain ⟨h2, h3⟩ := q_spec_l35List code b (by simp only [c1_spec_l35List, okL, allP_ap]; exact ⟨⟨h, trivial⟩, trivial, trivial⟩) trivial
 simp only [c1_spec_l35List, okR, allP_ap] at h2
 exact ⟨h3, h2.1, h2.2.1.1⟩
def c_spec_DrawTensorArrows : Ct := ⟨[(.sl (.int .u8))], [false], fun x => [], [(true, (.p (.fz CategoryT) (.p (.fz (.int .i64)) (.p (.fz (.sl (.sl (.int .i64)))) (.sl (.sl (.fz (.int .i64)))))))), (false, (.sl (.fz (.int .i64))))], fun x => ((spec_l35List_r0R x.1 true), (spec_l35List_r1R x.1 true), ()), true, none⟩
def W_spec_DrawTensorArrows (code : List Int) (K : MonoidalD × (List Int) × Unit -> Prop) : Prop := (K ((spec_l35List_r0R code true), ((spec_l35List_r1R code true), ())))
theorem w_spec_DrawTensorArrows (x : denL c_spec_DrawTensorArrows.args) (K : MonoidalD × (List Int) × Unit -> Prop) : evF tab (lkp [(37, c_spec_l35List)]) (cutL []) Try.f8 (bodyOf Try.f8) .n c_spec_DrawTensorArrows x K = W_spec_DrawTensorArrows x.1 K := by kernel_rfl
theorem k_spec_DrawTensorArrows : okC Try.f8.ntmps (cutL []) (bodyOf Try.f8) = true := by kernel_rfl
theorem m_spec_DrawTensorArrows (code : List Int) (hok : allP (okL c_spec_DrawTensorArrows.args (code, ()))) (hpre : allP (c_spec_DrawTensorArrows.pre (code, ()))) : W_spec_DrawTensorArrows code (fun r => r = c_spec_DrawTensorArrows.res (code, ())) := by
 simp only [c_spec_DrawTensorArrows, okL, T.oks, T.ok, ap, allP, true_and, and_true, implies_true] at hok hpre
 try dsimp only [T.den] at hok
 try dsimp only [T.den] at hpre
 unfold W_spec_DrawTensorArrows
 rfl
theorem ct_spec_DrawTensorArrows : CtOk Try.prog 8 c_spec_DrawTensorArrows :=
 ct_by (Φ := lkp [(37, c_spec_l35List)]) (good_cons ct_spec_l35List good_nil) tab_ok (by kernel_rfl) (fn := Try.f8) (c := bodyOf Try.f8) (by kernel_rfl) (by kernel_rfl) (by kernel_rfl) c_spec_DrawTensorArrows rfl .n (cutL []) (by kernel_rfl) (by kernel_rfl) k_spec_DrawTensorArrows (by decide) (fun x K => W_spec_DrawTensorArrows x.1 K) w_spec_DrawTensorArrows (fun x h1 h2 => m_spec_DrawTensorArrows x.1 h1 h2)
def c_spec_l01In : Ct := ⟨[(.int .i64), (.int .i64), (.int .i64)], [false, false, false], fun x => [], [(false, (.fz .bool))], fun x => (inR x.1 x.2.1 x.2.2.1, ()), false, none⟩
def W_spec_l01In (n : Int) (low : Int) (high : Int) (K : Bool × Unit -> Prop) : Prop := (K (((decide (low <= n)) && (decide (n <= high))), ()))
theorem w_spec_l01In (x : denL c_spec_l01In.args) (K : Bool × Unit -> Prop) : evF tab (lkp []) (cutL []) Try.f91 (bodyOf Try.f91) .n c_spec_l01In x K = W_spec_l01In x.1 x.2.1 x.2.2.1 K := by kernel_rfl
theorem k_spec_l01In : okC Try.f91.ntmps (cutL []) (bodyOf Try.f91) = true := by kernel_rfl
theorem m_spec_l01In (n : Int) (low : Int) (high : Int) (hok : allP (okL c_spec_l01In.args (n, low, high, ()))) (hpre : allP (c_spec_l01In.pre (n, low, high, ()))) : W_spec_l01In n low high (fun r => r = c_spec_l01In.res (n, low, high, ())) := by
 simp only [c_spec_l01In, okL, T.oks, T.ok, ap, allP, true_and, and_true, implies_true] at hok hpre
 try dsimp only [T.den] at hok
 try dsimp only [T.den] at hpre
 unfold W_spec_l01In
 grind [cnd, nb_eq, inK64, c_spec_l01In, inR]
theorem ct_spec_l01In : CtOk Try.prog 91 c_spec_l01In :=
 ct_by (Φ := lkp []) good_nil tab_ok (by kernel_rfl) (fn := Try.f91) (c := bodyOf Try.f91) (by kernel_rfl) (by kernel_rfl) (by kernel_rfl) c_spec_l01In rfl .n (cutL []) (by kernel_rfl) (by kernel_rfl) k_spec_l01In (by decide) (fun x K => W_spec_l01In x.1 x.2.1 x.2.2.1 K) w_spec_l01In (fun x h1 h2 => m_spec_l01In x.1 x.2.1 x.2.2.1 h1 h2)
def c_spec_l02Ends : Ct := ⟨[(.sl (.int .i64)), (.int .i64), (.int .i64)], [false, false, false], fun x => [], [(false, (.fz .bool))], fun x => ((decide ((x.1.length : Int) = x.2.1) && withinR x.1 x.2.2.1), ()), false, none⟩
def W_spec_l02Ends (list : List Int) (length : Int) (objects : Int) (K : Bool × Unit -> Prop) : Prop := (K (((((list.length : Nat) : Int) == length) && (withinR list objects)), ()))
theorem w_spec_l02Ends (x : denL c_spec_l02Ends.args) (K : Bool × Unit -> Prop) : evF tab (lkp [(42, c_spec_l01Map)]) (cutL []) Try.f135 (bodyOf Try.f135) .n c_spec_l02Ends x K = W_spec_l02Ends x.1 x.2.1 x.2.2.1 K := by kernel_rfl
theorem k_spec_l02Ends : okC Try.f135.ntmps (cutL []) (bodyOf Try.f135) = true := by kernel_rfl
theorem m_spec_l02Ends (list : List Int) (length : Int) (objects : Int) (hok : allP (okL c_spec_l02Ends.args (list, length, objects, ()))) (hpre : allP (c_spec_l02Ends.pre (list, length, objects, ()))) : W_spec_l02Ends list length objects (fun r => r = c_spec_l02Ends.res (list, length, objects, ())) := by
 simp only [c_spec_l02Ends, okL, T.oks, T.ok, ap, allP, true_and, and_true, implies_true] at hok hpre
 try dsimp only [T.den] at hok
 try dsimp only [T.den] at hpre
 unfold W_spec_l02Ends
 have : ((list.length : Int) == length) = decide ((list.length : Int) = length) := rfl
 simp only [c_spec_l02Ends, this]
theorem ct_spec_l02Ends : CtOk Try.prog 135 c_spec_l02Ends :=
 ct_by (Φ := lkp [(42, c_spec_l01Map)]) (good_cons ct_spec_l01Map good_nil) tab_ok (by kernel_rfl) (fn := Try.f135) (c := bodyOf Try.f135) (by kernel_rfl) (by kernel_rfl) (by kernel_rfl) c_spec_l02Ends rfl .n (cutL []) (by kernel_rfl) (by kernel_rfl) k_spec_l02Ends (by decide) (fun x K => W_spec_l02Ends x.1 x.2.1 x.2.2.1 K) w_spec_l02Ends (fun x h1 h2 => m_spec_l02Ends x.1 x.2.1 x.2.2.1 h1 h2)
def c_spec_IsShape : Ct := ⟨[CategoryT], [true], fun x => [], [(false, (.fz .bool))], fun x => (shapeR x.1, ()), false, none⟩
def an_spec_IsShape : Ann := (.s .n (.s .n (.s .n (.s .n (.s (.s .n (.l [(4, (.d (.int .i64)))] [] [1, 3] .n)) (.s (.s .n (.l [(5, (.d (.int .i64)))] [] [1, 3] (.s .n (.s (.s .n (.s .n (.l [(6, (.d (.int .i64)))] [] [1, 3, 5] (.s .n (.s (.j [] [] [1, 3, 5, 6] .n) .n))))) .n)))) .n))))))
def ph_spec_IsShape : FuncId -> Option Ct := lkp [(91, c_spec_l01In), (42, c_spec_l01Map), (135, c_spec_l02Ends)]
def W_spec_IsShape (c : CategoryD) (K : Bool × Unit -> Prop) : Prop := (cnd (((((!(inR c.1 0 8)) || (decide (40 < ((c.2.1.length : Nat) : Int)))) || (!((decide (((c.2.1.length : Nat) : Int) = ((c.2.1.length : Nat) : Int))) && (withinR c.2.1 c.1)))) || (!((decide (((c.2.2.1.length : Nat) : Int) = ((c.2.1.length : Nat) : Int))) && (withinR c.2.2.1 c.1)))) || (((c.2.2.2.2.length : Nat) : Int) != ((c.2.1.length : Nat) : Int))) (K (false, ())) (cnd ((((c.2.2.2.1.length : Nat) : Int) != c.1) || (!(withinR c.2.2.2.1 ((c.2.1.length : Nat) : Int)))) (K (false, ())) (loopW (S := ((Int × Unit) × Unit)) (fun s => (fun next => ((inK .i64 s.1.1) -> (cnd (decide (s.1.1 < c.1)) ((0 <= s.1.1) /\ ((s.1.1 < ((c.2.2.2.1.length : Nat) : Int)) /\ ((0 <= (List.getD c.2.2.2.1 s.1.1.toNat 0)) /\ (((List.getD c.2.2.2.1 s.1.1.toNat 0) < ((c.2.1.length : Nat) : Int)) /\ (((((List.getD c.2.1 (Int.toNat (List.getD c.2.2.2.1 s.1.1.toNat 0)) 0) != s.1.1) = false) -> ((s.1.1 < ((c.2.2.2.1.length : Nat) : Int)) /\ (0 <= s.1.1))) /\ (((((List.getD c.2.1 (Int.toNat (List.getD c.2.2.2.1 s.1.1.toNat 0)) 0) != s.1.1) = false) -> (((List.getD c.2.2.2.1 s.1.1.toNat 0) < ((c.2.2.1.length : Nat) : Int)) /\ (0 <= (List.getD c.2.2.2.1 s.1.1.toNat 0)))) /\ (cnd (((List.getD c.2.1 (Int.toNat (List.getD c.2.2.2.1 s.1.1.toNat 0)) 0) != s.1.1) || ((List.getD c.2.2.1 (Int.toNat (List.getD c.2.2.2.1 s.1.1.toNat 0)) 0) != s.1.1)) (K (false, ())) ((inK .i64 (s.1.1 + 1)) /\ (next (((s.1.1 + 1), ()), ())))))))))) (loopW (S := ((Int × Unit) × Unit)) (fun s1 => (fun next1 => ((inK .i64 s1.1.1) -> (cnd (decide (s1.1.1 < ((c.2.1.length : Nat) : Int))) ((0 <= s1.1.1) /\ ((s1.1.1 < ((c.2.2.2.2.length : Nat) : Int)) /\ (cnd ((((List.length (List.getD c.2.2.2.2 s1.1.1.toNat [])) : Nat) : Int) != ((c.2.1.length : Nat) : Int)) (K (false, ())) (loopW (S := ((Int × Unit) × Unit)) (fun s2 => (fun next2 => ((inK .i64 s2.1.1) -> (cnd (decide (s2.1.1 < ((c.2.1.length : Nat) : Int))) (joinW (S := (Unit × Unit)) (fun s3 => ((inK .i64 (s2.1.1 + 1)) /\ (next2 (((s2.1.1 + 1), ()), ())))) (fun k => ((0 <= s1.1.1) /\ ((s1.1.1 < ((c.2.2.2.2.length : Nat) : Int)) /\ ((0 <= s2.1.1) /\ ((s2.1.1 < (((List.length (List.getD c.2.2.2.2 s1.1.1.toNat [])) : Nat) : Int)) /\ ((0 <= s1.1.1) /\ ((s1.1.1 < ((c.2.2.1.length : Nat) : Int)) /\ ((0 <= s2.1.1) /\ ((s2.1.1 < ((c.2.1.length : Nat) : Int)) /\ (cnd ((List.getD c.2.2.1 s1.1.1.toNat 0) != (List.getD c.2.1 s2.1.1.toNat 0)) (cnd ((List.getD (List.getD c.2.2.2.2 s1.1.1.toNat []) s2.1.1.toNat 0) != (-1)) (K (false, ())) (k ((), ()))) (((((decide ((List.getD (List.getD c.2.2.2.2 s1.1.1.toNat []) s2.1.1.toNat 0) < 0)) || (decide (((c.2.1.length : Nat) : Int) <= (List.getD (List.getD c.2.2.2.2 s1.1.1.toNat []) s2.1.1.toNat 0)))) = false) -> (((List.getD (List.getD c.2.2.2.2 s1.1.1.toNat []) s2.1.1.toNat 0) < ((c.2.1.length : Nat) : Int)) /\ (0 <= (List.getD (List.getD c.2.2.2.2 s1.1.1.toNat []) s2.1.1.toNat 0)))) /\ (((((decide ((List.getD (List.getD c.2.2.2.2 s1.1.1.toNat []) s2.1.1.toNat 0) < 0)) || (decide (((c.2.1.length : Nat) : Int) <= (List.getD (List.getD c.2.2.2.2 s1.1.1.toNat []) s2.1.1.toNat 0)))) = false) -> ((s1.1.1 < ((c.2.1.length : Nat) : Int)) /\ (0 <= s1.1.1))) /\ ((((((decide ((List.getD (List.getD c.2.2.2.2 s1.1.1.toNat []) s2.1.1.toNat 0) < 0)) || (decide (((c.2.1.length : Nat) : Int) <= (List.getD (List.getD c.2.2.2.2 s1.1.1.toNat []) s2.1.1.toNat 0)))) || ((List.getD c.2.1 (Int.toNat (List.getD (List.getD c.2.2.2.2 s1.1.1.toNat []) s2.1.1.toNat 0)) 0) != (List.getD c.2.1 s1.1.1.toNat 0))) = false) -> (((List.getD (List.getD c.2.2.2.2 s1.1.1.toNat []) s2.1.1.toNat 0) < ((c.2.2.1.length : Nat) : Int)) /\ (0 <= (List.getD (List.getD c.2.2.2.2 s1.1.1.toNat []) s2.1.1.toNat 0)))) /\ ((((((decide ((List.getD (List.getD c.2.2.2.2 s1.1.1.toNat []) s2.1.1.toNat 0) < 0)) || (decide (((c.2.1.length : Nat) : Int) <= (List.getD (List.getD c.2.2.2.2 s1.1.1.toNat []) s2.1.1.toNat 0)))) || ((List.getD c.2.1 (Int.toNat (List.getD (List.getD c.2.2.2.2 s1.1.1.toNat []) s2.1.1.toNat 0)) 0) != (List.getD c.2.1 s1.1.1.toNat 0))) = false) -> ((s2.1.1 < ((c.2.2.1.length : Nat) : Int)) /\ (0 <= s2.1.1))) /\ (cnd ((((decide ((List.getD (List.getD c.2.2.2.2 s1.1.1.toNat []) s2.1.1.toNat 0) < 0)) || (decide (((c.2.1.length : Nat) : Int) <= (List.getD (List.getD c.2.2.2.2 s1.1.1.toNat []) s2.1.1.toNat 0)))) || ((List.getD c.2.1 (Int.toNat (List.getD (List.getD c.2.2.2.2 s1.1.1.toNat []) s2.1.1.toNat 0)) 0) != (List.getD c.2.1 s1.1.1.toNat 0))) || ((List.getD c.2.2.1 (Int.toNat (List.getD (List.getD c.2.2.2.2 s1.1.1.toNat []) s2.1.1.toNat 0)) 0) != (List.getD c.2.2.1 s2.1.1.toNat 0))) (K (false, ())) (k ((), ())))))))))))))))))) ((inK .i64 (s1.1.1 + 1)) /\ (next1 (((s1.1.1 + 1), ()), ()))))))) ((0, ()), ()))))) (K (true, ())))))) ((0, ()), ())))))) ((0, ()), ()))))
theorem w_spec_IsShape (x : denL c_spec_IsShape.args) (K : Bool × Unit -> Prop) : evF tab ph_spec_IsShape (cutL [(20, 11), (23, 33), (9, 24)]) Try.f114 (bodyOf Try.f114) an_spec_IsShape c_spec_IsShape x K = W_spec_IsShape x.1 K := by kernel_rfl
theorem k_spec_IsShape : okC Try.f114.ntmps (cutL [(20, 11), (23, 33), (9, 24)]) (bodyOf Try.f114) = true := by kernel_rfl
theorem m_spec_IsShape (c : CategoryD) (hok : allP (okL c_spec_IsShape.args (c, ()))) (hpre : allP (c_spec_IsShape.pre (c, ()))) : W_spec_IsShape c (fun r => r = c_spec_IsShape.res (c, ())) := by
 simp only [c_spec_IsShape, okL, T.oks, T.ok, ap, allP, true_and, and_true, implies_true] at hok hpre
 try dsimp only [T.den] at hok
 try dsimp only [T.den] at hpre
 unfold W_spec_IsShape
 have bad : ¬ ShapeP c -> (false, ()) = c_spec_IsShape.res (c, ()) := fun h => by simp only [c_spec_IsShape]; rw [shape_f h]
 refine cnd_of (fun hc => bad fun h => ?_) (fun hc => cnd_of (fun hd => bad fun h => ?_) (fun hd => ?_))
 ·have h1 := h.ob; have h2 := h.m; have h3 := h.lt; have h4 := h.fr; have h5 := h.to; have h6 := h.lc; simp only [inR] at hc; grind [cnd, nb_eq, inK64]
 ·have h1 := h.li; have h2 := h.ids; grind [cnd, nb_eq, inK64]
 simp only [inR, Bool.or_eq_false_iff, Bool.not_eq_false', Bool.and_eq_true, decide_eq_true_eq, decide_eq_false_iff_not, bne_eq_false_iff_eq] at hc hd
 obtain ⟨⟨⟨⟨hob, hm⟩, _, hfr⟩, hlt, hto⟩, hlc⟩ := hc
 obtain ⟨hli, hids⟩ := hd
 refine loop_ix (n := c.1) (fun x => ∀ y : Int, 0 <= y -> y < x -> c.2.1.getD (c.2.2.2.1.getD y.toNat 0).toNat 0 = y /\ c.2.2.1.getD (c.2.2.2.1.getD y.toNat 0).toNat 0 = y) (by omega) (by intro y h0 h1; omega) ?_ ?_
 ·intro x next h0 h1 hP hn hin
  have hb := within_iff.1 hids x h0 (by omega)
  try dsimp only
  refine cnd_d (fun _ => ⟨h0, by omega, hb.1, hb.2, fun _ => by omega, fun _ => by omega, cnd_of (fun hx => bad fun h => ?_) (fun hx => ?_)⟩) (fun h => absurd h1 h)
  ·have := h.idt x h0 (by omega)
   rw [this.1, this.2] at hx
   simp at hx
  ·simp only [Bool.or_eq_false_iff, bne_eq_false_iff_eq] at hx
   refine ⟨by rw [inK64]; (try dsimp only); omega, hn fun y y0 y1 => ?_⟩
   by_cases e : y = x
   ·rw [e]; exact hx
   ·exact hP y y0 (by omega)
 intro next hidt hin
 refine cnd_d (fun h => absurd h (by dsimp only; omega)) (fun _ => ?_)
 refine loop_ix (n := c.2.1.length) (fun f => ∀ f' : Int, 0 <= f' -> f' < f -> (c.2.2.2.2.getD f'.toNat []).length = c.2.1.length /\ ∀ g : Int, 0 <= g -> g < c.2.1.length -> cellR c f' g = true) (by omega) (by intro y h0 h1; omega) ?_ ?_
 ·intro f next h0 h1 hP hn hin
  try dsimp only
  refine cnd_d (fun _ => ⟨h0, by omega, cnd_of (fun hx => bad fun h => ?_) (fun hx => ?_)⟩) (fun h => absurd h1 h)
  ·have := h.row f h0 (by omega)
   rw [this] at hx
   simp at hx
  simp only [bne_eq_false_iff_eq] at hx
  refine loop_ix (n := c.2.1.length) (fun g => ∀ g' : Int, 0 <= g' -> g' < g -> cellR c f g' = true) (by omega) (by intro y h0 h1; omega) ?_ ?_
  ·intro g next3 g0 g1 hP3 hn3 hin3
   try dsimp only
   refine cnd_d (fun _ => ?_) (fun h => absurd g1 h)
   refine join_of (fun _ => cellR c f g = true) (fun _ hcell => ⟨by rw [inK64]; (try dsimp only); omega, hn3 fun g' y0 y1 => ?_⟩) (fun k hk => ?_)
   ·by_cases e : g' = g
    ·rw [e]; exact hcell
    ·exact hP3 g' y0 (by omega)
   have hcell : ∀ b, cellR c f g = b -> b = false -> ¬ ShapeP c := fun b h1 h2 h => by
    have := h.cell f g h0 (by omega) g0 (by omega)
    rw [h1, h2] at this; cases this
   have hk' := hk ((), ())
   obtain ⟨v, hv⟩ : ∃ v, (c.2.2.2.2.getD f.toNat []).getD g.toNat 0 = v := ⟨_, rfl⟩
   have hR : cellR c f g = cellQ c f g v := by unfold cellR compR; rw [hv]
   rw [hR] at hk'
   rw [hR] at hcell
   rw [hv]
   clear hP3 hn3 hP hn hk hR hv hidt hok
   refine ⟨h0, by omega, g0, by omega, h0, by omega, g0, by omega, cnd_of (fun ha => cnd_of (fun hb => bad ?_) (fun hb => hk' ?_)) (fun ha => ⟨fun hv => ?_, fun _ => ⟨by omega, h0⟩, fun hv => ?_, fun _ => ⟨by omega, g0⟩, cnd_of (fun hb => bad ?_) (fun hb => hk' ?_)⟩)⟩
   ·exact hcell _ rfl (by grind [cnd, nb_eq, inK64, cellQ])
   ·grind [cnd, nb_eq, inK64, cellQ]
   ·simp only [Bool.or_eq_false_iff, decide_eq_false_iff_not] at hv; omega
   ·simp only [Bool.or_eq_false_iff, decide_eq_false_iff_not] at hv; omega
   ·exact hcell _ rfl (by grind [cnd, nb_eq, inK64, cellQ])
   ·grind [cnd, nb_eq, inK64, cellQ]
  ·intro next3 hP3 hin3
   refine cnd_d (fun h => absurd h (by dsimp only; omega)) (fun _ => ⟨by rw [inK64]; (try dsimp only); omega, hn fun f' y0 y1 => ?_⟩)
   by_cases e : f' = f
   ·rw [e]; exact ⟨by omega, fun g g0 g1 => hP3 g g0 (by omega)⟩
   ·exact hP f' y0 (by omega)
 ·intro next2 hP2 hin2
  refine cnd_d (fun h => absurd h (by dsimp only; omega)) (fun _ => ?_)
  simp only [c_spec_IsShape]
  rw [shape_t ⟨hob, by omega, by omega, hfr, hto, by omega, hids, by omega, fun x a b => hidt x a (by omega), fun f a b => (hP2 f a (by omega)).1, fun f g a b d e => (hP2 f a (by omega)).2 g d e⟩]
theorem ct_spec_IsShape : CtOk Try.prog 114 c_spec_IsShape :=
 ct_by (Φ := ph_spec_IsShape) (good_cons ct_spec_l01In (good_cons ct_spec_l01Map (good_cons ct_spec_l02Ends good_nil))) tab_ok (by kernel_rfl) (fn := Try.f114) (c := bodyOf Try.f114) (by kernel_rfl) (by kernel_rfl) (by kernel_rfl) c_spec_IsShape rfl an_spec_IsShape (cutL [(20, 11), (23, 33), (9, 24)]) (by kernel_rfl) (by kernel_rfl) k_spec_IsShape (by decide) (fun x K => W_spec_IsShape x.1 K) w_spec_IsShape (fun x h1 h2 => m_spec_IsShape x.1 h1 h2)
def c_spec_l02Fault : Ct := ⟨[CategoryT], [true], fun x => [ShapeP x.1], [(false, (.fz (.int .i64))), (false, (.fz (.int .i64))), (false, (.fz (.int .i64))), (false, (.fz (.int .i64)))], fun x => ((faultR x.1).1, (faultR x.1).2.1, (faultR x.1).2.2.1, (faultR x.1).2.2.2, ()), false, none⟩
def an_spec_l02Fault : Ann := (.s .n (.s .n (.s (.s .n (.l [(7, (.d (.int .i64)))] [] [1, 6] .n)) (.s (.s .n (.l [(8, (.d (.int .i64)))] [] [1, 6] (.s .n (.s (.s .n (.l [(9, (.d (.int .i64)))] [] [1, 6, 8] (.s .n (.s (.j [] [] [1, 6, 8, 9] (.s .n (.s .n (.l [(10, (.d (.int .i64)))] [] [1, 6, 8, 9] .n)))) .n)))) .n)))) .n))))
def W_spec_l02Fault (c : CategoryD) (K : Int × Int × Int × Int × Unit -> Prop) : Prop := (loopW (S := ((Int × Unit) × Unit)) (fun s => (fun next => ((inK .i64 s.1.1) -> (cnd (decide (s.1.1 < ((c.2.1.length : Nat) : Int))) ((0 <= s.1.1) /\ ((s.1.1 < ((c.2.1.length : Nat) : Int)) /\ ((0 <= (List.getD c.2.1 s.1.1.toNat 0)) /\ (((List.getD c.2.1 s.1.1.toNat 0) < ((c.2.2.2.1.length : Nat) : Int)) /\ ((0 <= (List.getD c.2.2.2.1 (Int.toNat (List.getD c.2.1 s.1.1.toNat 0)) 0)) /\ (((List.getD c.2.2.2.1 (Int.toNat (List.getD c.2.1 s.1.1.toNat 0)) 0) < ((c.2.2.2.2.length : Nat) : Int)) /\ ((0 <= s.1.1) /\ ((s.1.1 < (((List.length (List.getD c.2.2.2.2 (Int.toNat (List.getD c.2.2.2.1 (Int.toNat (List.getD c.2.1 s.1.1.toNat 0)) 0)) [])) : Nat) : Int)) /\ (((((List.getD (List.getD c.2.2.2.2 (Int.toNat (List.getD c.2.2.2.1 (Int.toNat (List.getD c.2.1 s.1.1.toNat 0)) 0)) []) s.1.1.toNat 0) != s.1.1) = false) -> ((s.1.1 < ((c.2.2.2.2.length : Nat) : Int)) /\ (0 <= s.1.1))) /\ (((((List.getD (List.getD c.2.2.2.2 (Int.toNat (List.getD c.2.2.2.1 (Int.toNat (List.getD c.2.1 s.1.1.toNat 0)) 0)) []) s.1.1.toNat 0) != s.1.1) = false) -> ((s.1.1 < ((c.2.2.1.length : Nat) : Int)) /\ (0 <= s.1.1))) /\ (((((List.getD (List.getD c.2.2.2.2 (Int.toNat (List.getD c.2.2.2.1 (Int.toNat (List.getD c.2.1 s.1.1.toNat 0)) 0)) []) s.1.1.toNat 0) != s.1.1) = false) -> (((List.getD c.2.2.1 s.1.1.toNat 0) < ((c.2.2.2.1.length : Nat) : Int)) /\ (0 <= (List.getD c.2.2.1 s.1.1.toNat 0)))) /\ (((((List.getD (List.getD c.2.2.2.2 (Int.toNat (List.getD c.2.2.2.1 (Int.toNat (List.getD c.2.1 s.1.1.toNat 0)) 0)) []) s.1.1.toNat 0) != s.1.1) = false) -> (((List.getD c.2.2.2.1 (Int.toNat (List.getD c.2.2.1 s.1.1.toNat 0)) 0) < (((List.length (List.getD c.2.2.2.2 s.1.1.toNat [])) : Nat) : Int)) /\ (0 <= (List.getD c.2.2.2.1 (Int.toNat (List.getD c.2.2.1 s.1.1.toNat 0)) 0)))) /\ (cnd (((List.getD (List.getD c.2.2.2.2 (Int.toNat (List.getD c.2.2.2.1 (Int.toNat (List.getD c.2.1 s.1.1.toNat 0)) 0)) []) s.1.1.toNat 0) != s.1.1) || ((List.getD (List.getD c.2.2.2.2 s.1.1.toNat []) (Int.toNat (List.getD c.2.2.2.1 (Int.toNat (List.getD c.2.2.1 s.1.1.toNat 0)) 0)) 0) != s.1.1)) (K (1, (s.1.1, (0, (0, ()))))) ((inK .i64 (s.1.1 + 1)) /\ (next (((s.1.1 + 1), ()), ())))))))))))))))) (loopW (S := ((Int × Unit) × Unit)) (fun s1 => (fun next1 => ((inK .i64 s1.1.1) -> (cnd (decide (s1.1.1 < ((c.2.1.length : Nat) : Int))) (loopW (S := ((Int × Unit) × Unit)) (fun s2 => (fun next2 => ((inK .i64 s2.1.1) -> (cnd (decide (s2.1.1 < ((c.2.1.length : Nat) : Int))) (joinW (S := (Unit × Unit)) (fun s3 => ((inK .i64 (s2.1.1 + 1)) /\ (next2 (((s2.1.1 + 1), ()), ())))) (fun k => ((0 <= s1.1.1) /\ ((s1.1.1 < ((c.2.2.1.length : Nat) : Int)) /\ ((0 <= s2.1.1) /\ ((s2.1.1 < ((c.2.1.length : Nat) : Int)) /\ (cnd ((List.getD c.2.2.1 s1.1.1.toNat 0) != (List.getD c.2.1 s2.1.1.toNat 0)) (k ((), ())) (loopW (S := ((Int × Unit) × Unit)) (fun s3 => (fun next3 => ((inK .i64 s3.1.1) -> (cnd (decide (s3.1.1 < ((c.2.1.length : Nat) : Int))) ((0 <= s2.1.1) /\ ((s2.1.1 < ((c.2.2.1.length : Nat) : Int)) /\ ((0 <= s3.1.1) /\ ((s3.1.1 < ((c.2.1.length : Nat) : Int)) /\ (((((List.getD c.2.2.1 s2.1.1.toNat 0) == (List.getD c.2.1 s3.1.1.toNat 0)) = true) -> ((s1.1.1 < ((c.2.2.2.2.length : Nat) : Int)) /\ (0 <= s1.1.1))) /\ (((((List.getD c.2.2.1 s2.1.1.toNat 0) == (List.getD c.2.1 s3.1.1.toNat 0)) = true) -> ((s2.1.1 < (((List.length (List.getD c.2.2.2.2 s1.1.1.toNat [])) : Nat) : Int)) /\ (0 <= s2.1.1))) /\ (((((List.getD c.2.2.1 s2.1.1.toNat 0) == (List.getD c.2.1 s3.1.1.toNat 0)) = true) -> (((List.getD (List.getD c.2.2.2.2 s1.1.1.toNat []) s2.1.1.toNat 0) < ((c.2.2.2.2.length : Nat) : Int)) /\ (0 <= (List.getD (List.getD c.2.2.2.2 s1.1.1.toNat []) s2.1.1.toNat 0)))) /\ (((((List.getD c.2.2.1 s2.1.1.toNat 0) == (List.getD c.2.1 s3.1.1.toNat 0)) = true) -> ((s3.1.1 < (((List.length (List.getD c.2.2.2.2 (Int.toNat (List.getD (List.getD c.2.2.2.2 s1.1.1.toNat []) s2.1.1.toNat 0)) [])) : Nat) : Int)) /\ (0 <= s3.1.1))) /\ (((((List.getD c.2.2.1 s2.1.1.toNat 0) == (List.getD c.2.1 s3.1.1.toNat 0)) = true) -> ((s1.1.1 < ((c.2.2.2.2.length : Nat) : Int)) /\ (0 <= s1.1.1))) /\ (((((List.getD c.2.2.1 s2.1.1.toNat 0) == (List.getD c.2.1 s3.1.1.toNat 0)) = true) -> ((s2.1.1 < ((c.2.2.2.2.length : Nat) : Int)) /\ (0 <= s2.1.1))) /\ (((((List.getD c.2.2.1 s2.1.1.toNat 0) == (List.getD c.2.1 s3.1.1.toNat 0)) = true) -> ((s3.1.1 < (((List.length (List.getD c.2.2.2.2 s2.1.1.toNat [])) : Nat) : Int)) /\ (0 <= s3.1.1))) /\ (((((List.getD c.2.2.1 s2.1.1.toNat 0) == (List.getD c.2.1 s3.1.1.toNat 0)) = true) -> (((List.getD (List.getD c.2.2.2.2 s2.1.1.toNat []) s3.1.1.toNat 0) < (((List.length (List.getD c.2.2.2.2 s1.1.1.toNat [])) : Nat) : Int)) /\ (0 <= (List.getD (List.getD c.2.2.2.2 s2.1.1.toNat []) s3.1.1.toNat 0)))) /\ (cnd (((List.getD c.2.2.1 s2.1.1.toNat 0) == (List.getD c.2.1 s3.1.1.toNat 0)) && ((List.getD (List.getD c.2.2.2.2 (Int.toNat (List.getD (List.getD c.2.2.2.2 s1.1.1.toNat []) s2.1.1.toNat 0)) []) s3.1.1.toNat 0) != (List.getD (List.getD c.2.2.2.2 s1.1.1.toNat []) (Int.toNat (List.getD (List.getD c.2.2.2.2 s2.1.1.toNat []) s3.1.1.toNat 0)) 0))) (K (2, (s1.1.1, (s2.1.1, (s3.1.1, ()))))) ((inK .i64 (s3.1.1 + 1)) /\ (next3 (((s3.1.1 + 1), ()), ())))))))))))))))) (k ((), ())))))) ((0, ()), ()))))))))) ((inK .i64 (s1.1.1 + 1)) /\ (next1 (((s1.1.1 + 1), ()), ()))))))) ((0, ()), ())) (K (0, (0, (0, (0, ()))))))))) ((0, ()), ())))))) ((0, ()), ()))
theorem w_spec_l02Fault (x : denL c_spec_l02Fault.args) (K : Int × Int × Int × Int × Unit -> Prop) : evF tab (lkp []) (cutL [(17, 44), (5, 38), (13, 11)]) Try.f115 (bodyOf Try.f115) an_spec_l02Fault c_spec_l02Fault x K = W_spec_l02Fault x.1 K := by kernel_rfl
theorem k_spec_l02Fault : okC Try.f115.ntmps (cutL [(17, 44), (5, 38), (13, 11)]) (bodyOf Try.f115) = true := by kernel_rfl
theorem m_spec_l02Fault (c : CategoryD) (hok : allP (okL c_spec_l02Fault.args (c, ()))) (hpre : allP (c_spec_l02Fault.pre (c, ()))) : W_spec_l02Fault c (fun r => r = c_spec_l02Fault.res (c, ())) := by
 simp only [c_spec_l02Fault, okL, T.oks, T.ok, ap, allP, true_and, and_true, implies_true] at hok hpre
 try dsimp only [T.den] at hok
 try dsimp only [T.den] at hpre
 unfold W_spec_l02Fault
 have S : ShapeP c := hpre
 have hlt := S.lt
 have hli := S.li
 have hlc := S.lc
 have hmm := S.m
 have resq : ∀ a b d e, faultR c = (a, b, d, e) -> (a, b, d, e, ()) = c_spec_l02Fault.res (c, ()) := fun a b d e h => by simp only [c_spec_l02Fault, h]
 have hcr : ∀ f g : Int, (c.2.2.2.2.getD f.toNat []).getD g.toNat 0 = compR c f g := fun _ _ => rfl
 simp only [hcr]
 refine loop_ix (n := c.2.1.length) (fun f => scanR (faultI c) c.2.1.length 0 = scanR (faultI c) ((c.2.1.length : Int) - f).toNat f) (by omega) scan_0 ?_ ?_
 ·intro f next h0 h1 hP hn hin
  try dsimp only
  obtain ⟨a1, a2, a3, a4⟩ := S.frm h0 h1
  obtain ⟨b1, b2, _, _⟩ := S.idn a1 a2
  obtain ⟨d1, d2, _, _⟩ := S.idn a3 a4
  have r1 := S.row _ b1 b2
  have r2 := S.row f h0 h1
  refine cnd_d (fun _ => ⟨h0, h1, by omega, by omega, by omega, by omega, h0, by omega, fun _ => by omega, fun _ => by omega, fun _ => by omega, fun _ => by omega, cnd_of (fun hx => resq _ _ _ _ ?_) (fun hx => ⟨by rw [inK64]; (try dsimp only); omega, hn ?_⟩)⟩) (fun h => absurd h1 h)
  ·have : faultI c f = some (1, f, 0, 0) := by unfold faultI; rw [if_pos]; simpa using hx
   unfold faultR; rw [hP, scan_s h1 this]; rfl
  ·have : faultI c f = none := by unfold faultI; rw [if_neg]; simpa using hx
   rw [hP, scan_c h1 this]
 intro next hI hin
 rw [scan_n] at hI
 refine cnd_d (fun h => absurd h (by dsimp only; omega)) (fun _ => ?_)
 have hF : faultR c = orR (scanR (faultF c) c.2.1.length 0) (0, 0, 0, 0) := by unfold faultR; rw [hI]; rfl
 refine loop_ix (n := c.2.1.length) (fun f => scanR (faultF c) c.2.1.length 0 = scanR (faultF c) ((c.2.1.length : Int) - f).toNat f) (by omega) scan_0 ?_ ?_
 ·intro f next h0 h1 hP hn hin
  try dsimp only
  refine cnd_d (fun _ => ?_) (fun h => absurd h1 h)
  have r1 := S.row f h0 h1
  refine loop_ix (n := c.2.1.length) (fun g => faultF c f = scanR (faultG c f) ((c.2.1.length : Int) - g).toNat g) (by omega) scan_0 ?_ ?_
  ·intro g next3 g0 g1 hP3 hn3 hin3
   try dsimp only
   refine cnd_d (fun _ => ?_) (fun h => absurd g1 h)
   have r2 := S.row g g0 g1
   refine join_of (fun _ => faultG c f g = none) (fun _ hG => ⟨by rw [inK64]; (try dsimp only); omega, hn3 (by rw [hP3, scan_c g1 hG])⟩) (fun k hk => ?_)
   have hk' := hk ((), ())
   refine ⟨by omega, by omega, by omega, by omega, cnd_of (fun hx => hk' ?_) (fun hx => ?_)⟩
   ·unfold faultG; rw [if_neg]; simpa using hx
   have hfg : c.2.2.1.getD f.toNat 0 = c.2.1.getD g.toNat 0 := by rw [bne_eq_false_iff_eq] at hx; exact hx
   obtain ⟨y1, y2, _, _⟩ := S.yes h0 h1 g0 g1 hfg
   refine loop_ix (n := c.2.1.length) (fun h => faultG c f g = scanR (faultH c f g) ((c.2.1.length : Int) - h).toNat h) (by omega) (by unfold faultG; rw [if_pos hfg]; exact scan_0) ?_ ?_
   ·intro h next4 i0 i1 hP4 hn4 hin4
    try dsimp only
    refine cnd_d (fun _ => ?_) (fun h => absurd i1 h)
    have r3 := S.row _ y1 y2
    have cgh := S.comp g0 g1 i0 i1
    have ygh := @ShapeP.yes c S g h g0 g1 i0 i1
    refine ⟨by omega, by omega, by omega, by omega, fun _ => by omega, fun _ => by omega, fun _ => by omega, fun _ => by omega, fun _ => by omega, fun _ => by omega, fun _ => by omega, fun he => ?_, cnd_of (fun hx => resq _ _ _ _ ?_) (fun hx => ⟨by rw [inK64]; (try dsimp only); omega, hn4 ?_⟩)⟩
    ·have := ygh (by simpa only [beq_iff_eq] using he); omega
    ·have : faultH c f g h = some (2, f, g, h) := by unfold faultH; rw [if_pos]; simpa using hx
     have e1 : faultG c f g = some (2, f, g, h) := by rw [hP4, scan_s i1 this]
     have e2 : faultF c f = some (2, f, g, h) := by rw [hP3, scan_s g1 e1]
     rw [hF, hP, scan_s h1 e2]; rfl
    ·have : faultH c f g h = none := by unfold faultH; rw [if_neg]; simpa using hx
     rw [hP4, scan_c i1 this]
   ·intro next4 hP4 hin4
    rw [scan_n] at hP4
    exact cnd_d (fun h => absurd h (by dsimp only; omega)) (fun _ => hk' hP4)
  ·intro next3 hP3 hin3
   rw [scan_n] at hP3
   exact cnd_d (fun h => absurd h (by dsimp only; omega)) (fun _ => ⟨by rw [inK64]; (try dsimp only); omega, hn (by rw [hP, scan_c h1 hP3])⟩)
 ·intro next2 hP2 hin2
  rw [scan_n] at hP2
  refine cnd_d (fun h => absurd h (by dsimp only; omega)) (fun _ => resq _ _ _ _ ?_)
  rw [hF, hP2]; rfl
theorem ct_spec_l02Fault : CtOk Try.prog 115 c_spec_l02Fault :=
 ct_by (Φ := lkp []) good_nil tab_ok (by kernel_rfl) (fn := Try.f115) (c := bodyOf Try.f115) (by kernel_rfl) (by kernel_rfl) (by kernel_rfl) c_spec_l02Fault rfl an_spec_l02Fault (cutL [(17, 44), (5, 38), (13, 11)]) (by kernel_rfl) (by kernel_rfl) k_spec_l02Fault (by decide) (fun x K => W_spec_l02Fault x.1 K) w_spec_l02Fault (fun x h1 h2 => m_spec_l02Fault x.1 h1 h2)
def c_spec_l02Is : Ct := ⟨[CategoryT], [true], fun x => [], [(false, (.fz .bool))], fun x => (catR x.1, ()), false, none⟩
def ph_spec_l02Is : FuncId -> Option Ct := lkp [(114, c_spec_IsShape), (115, c_spec_l02Fault)]
def W_spec_l02Is (c : CategoryD) (K : Bool × Unit -> Prop) : Prop := (cnd (!(shapeR c)) (K (false, ())) ((ShapeP c) /\ (K (((faultR c).1 == 0), ()))))
theorem w_spec_l02Is (x : denL c_spec_l02Is.args) (K : Bool × Unit -> Prop) : evF tab ph_spec_l02Is (cutL []) Try.f56 (bodyOf Try.f56) .n c_spec_l02Is x K = W_spec_l02Is x.1 K := by kernel_rfl
theorem k_spec_l02Is : okC Try.f56.ntmps (cutL []) (bodyOf Try.f56) = true := by kernel_rfl
theorem m_spec_l02Is (c : CategoryD) (hok : allP (okL c_spec_l02Is.args (c, ()))) (hpre : allP (c_spec_l02Is.pre (c, ()))) : W_spec_l02Is c (fun r => r = c_spec_l02Is.res (c, ())) := by
 simp only [c_spec_l02Is, okL, T.oks, T.ok, ap, allP, true_and, and_true, implies_true] at hok hpre
 try dsimp only [T.den] at hok
 try dsimp only [T.den] at hpre
 unfold W_spec_l02Is
 simp only [c_spec_l02Is, catR]
 have := @shape_iff c
 grind [cnd, nb_eq, inK64]
theorem ct_spec_l02Is : CtOk Try.prog 56 c_spec_l02Is :=
 ct_by (Φ := ph_spec_l02Is) (good_cons ct_spec_IsShape (good_cons ct_spec_l02Fault good_nil)) tab_ok (by kernel_rfl) (fn := Try.f56) (c := bodyOf Try.f56) (by kernel_rfl) (by kernel_rfl) (by kernel_rfl) c_spec_l02Is rfl .n (cutL []) (by kernel_rfl) (by kernel_rfl) k_spec_l02Is (by decide) (fun x K => W_spec_l02Is x.1 K) w_spec_l02Is (fun x h1 h2 => m_spec_l02Is x.1 h1 h2)
def c_spec_l02Object : Ct := ⟨[CategoryT, (.int .i64)], [true, false], fun x => [], [(false, (.fz .bool))], fun x => ((decide (0 <= x.2.1) && decide (x.2.1 < x.1.1)), ()), false, none⟩
def W_spec_l02Object (c : CategoryD) (x : Int) (K : Bool × Unit -> Prop) : Prop := (K (((decide (0 <= x)) && (decide (x < c.1))), ()))
theorem w_spec_l02Object (x : denL c_spec_l02Object.args) (K : Bool × Unit -> Prop) : evF tab (lkp []) (cutL []) Try.f102 (bodyOf Try.f102) .n c_spec_l02Object x K = W_spec_l02Object x.1 x.2.1 K := by kernel_rfl
theorem k_spec_l02Object : okC Try.f102.ntmps (cutL []) (bodyOf Try.f102) = true := by kernel_rfl
theorem m_spec_l02Object (c : CategoryD) (x : Int) (hok : allP (okL c_spec_l02Object.args (c, x, ()))) (hpre : allP (c_spec_l02Object.pre (c, x, ()))) : W_spec_l02Object c x (fun r => r = c_spec_l02Object.res (c, x, ())) := by
 simp only [c_spec_l02Object, okL, T.oks, T.ok, ap, allP, true_and, and_true, implies_true] at hok hpre
 try dsimp only [T.den] at hok
 try dsimp only [T.den] at hpre
 unfold W_spec_l02Object
 grind [cnd, nb_eq, inK64, c_spec_l02Object]
theorem ct_spec_l02Object : CtOk Try.prog 102 c_spec_l02Object :=
 ct_by (Φ := lkp []) good_nil tab_ok (by kernel_rfl) (fn := Try.f102) (c := bodyOf Try.f102) (by kernel_rfl) (by kernel_rfl) (by kernel_rfl) c_spec_l02Object rfl .n (cutL []) (by kernel_rfl) (by kernel_rfl) k_spec_l02Object (by decide) (fun x K => W_spec_l02Object x.1 x.2.1 K) w_spec_l02Object (fun x h1 h2 => m_spec_l02Object x.1 x.2.1 h1 h2)
def c_spec_l35Table : Ct := ⟨[(.sl (.sl (.int .i64))), (.int .i64), (.int .i64)], [false, false, false], fun x => [], [(false, (.fz .bool))], fun x => ((decide ((x.1.length : Int) = x.2.1) && squareR x.1 x.2.2.1), ()), false, none⟩
def W_spec_l35Table (table : List (List Int)) (n : Int) (bound : Int) (K : Bool × Unit -> Prop) : Prop := (K (((((table.length : Nat) : Int) == n) && (squareR table bound)), ()))
theorem w_spec_l35Table (x : denL c_spec_l35Table.args) (K : Bool × Unit -> Prop) : evF tab (lkp [(129, c_spec_l03Square)]) (cutL []) Try.f103 (bodyOf Try.f103) .n c_spec_l35Table x K = W_spec_l35Table x.1 x.2.1 x.2.2.1 K := by kernel_rfl
theorem k_spec_l35Table : okC Try.f103.ntmps (cutL []) (bodyOf Try.f103) = true := by kernel_rfl
theorem m_spec_l35Table (table : List (List Int)) (n : Int) (bound : Int) (hok : allP (okL c_spec_l35Table.args (table, n, bound, ()))) (hpre : allP (c_spec_l35Table.pre (table, n, bound, ()))) : W_spec_l35Table table n bound (fun r => r = c_spec_l35Table.res (table, n, bound, ())) := by
 simp only [c_spec_l35Table, okL, T.oks, T.ok, ap, allP, true_and, and_true, implies_true] at hok hpre
 try dsimp only [T.den] at hok
 try dsimp only [T.den] at hpre
 unfold W_spec_l35Table
 have : ((table.length : Int) == n) = decide ((table.length : Int) = n) := rfl
 simp only [c_spec_l35Table, this]
theorem ct_spec_l35Table : CtOk Try.prog 103 c_spec_l35Table :=
 ct_by (Φ := lkp [(129, c_spec_l03Square)]) (good_cons ct_spec_l03Square good_nil) tab_ok (by kernel_rfl) (fn := Try.f103) (c := bodyOf Try.f103) (by kernel_rfl) (by kernel_rfl) (by kernel_rfl) c_spec_l35Table rfl .n (cutL []) (by kernel_rfl) (by kernel_rfl) k_spec_l35Table (by decide) (fun x K => W_spec_l35Table x.1 x.2.1 x.2.2.1 K) w_spec_l35Table (fun x h1 h2 => m_spec_l35Table x.1 x.2.1 x.2.2.1 h1 h2)
def c_spec_l35Is : Ct := ⟨[MonoidalT], [true], fun x => [], [(false, (.fz .bool))], fun x => (monR x.1, ()), false, none⟩
def an_spec_l35Is : Ann := (.s .n (.s .n (.s .n (.s .n (.s (.s .n (.l [(3, (.ad 3 [.de])), (4, (.d (.int .i64)))] [(3, (.pt (.fz (.p (.int .i64) (.p (.sl (.int .i64)) (.p (.sl (.int .i64)) (.p (.sl (.int .i64)) (.sl (.sl (.int .i64))))))))))] [1] (.s .n (.s (.s .n (.l [(3, (.ad 3 [.de])), (5, (.d (.int .i64)))] [(3, (.pt (.fz (.p (.int .i64) (.p (.sl (.int .i64)) (.p (.sl (.int .i64)) (.p (.sl (.int .i64)) (.sl (.sl (.int .i64))))))))))] [1, 4] .n)) .n)))) (.s (.s .n (.l [(3, (.ad 3 [.de])), (6, (.d (.int .i64)))] [(3, (.pt (.fz (.p (.int .i64) (.p (.sl (.int .i64)) (.p (.sl (.int .i64)) (.p (.sl (.int .i64)) (.sl (.sl (.int .i64))))))))))] [1] (.s .n (.s (.s .n (.l [(3, (.ad 3 [.de])), (7, (.d (.int .i64)))] [(3, (.pt (.fz (.p (.int .i64) (.p (.sl (.int .i64)) (.p (.sl (.int .i64)) (.p (.sl (.int .i64)) (.sl (.sl (.int .i64))))))))))] [1, 6] (.s .n (.s (.j [(3, (.ad 3 [.de]))] [(3, (.pt (.fz (.p (.int .i64) (.p (.sl (.int .i64)) (.p (.sl (.int .i64)) (.p (.sl (.int .i64)) (.sl (.sl (.int .i64))))))))))] [1, 6, 7] (.s .n (.s .n (.l [(3, (.ad 3 [.de])), (8, (.d (.int .i64)))] [(3, (.pt (.fz (.p (.int .i64) (.p (.sl (.int .i64)) (.p (.sl (.int .i64)) (.p (.sl (.int .i64)) (.sl (.sl (.int .i64))))))))))] [1, 6, 7] (.s .n (.s (.s .n (.l [(3, (.ad 3 [.de])), (9, (.d (.int .i64)))] [(3, (.pt (.fz (.p (.int .i64) (.p (.sl (.int .i64)) (.p (.sl (.int .i64)) (.p (.sl (.int .i64)) (.sl (.sl (.int .i64))))))))))] [1, 6, 7, 8] .n)) .n)))))) .n)))) .n)))) .n))))))
def ph_spec_l35Is : FuncId -> Option Ct := lkp [(56, c_spec_l02Is), (102, c_spec_l02Object), (104, c_spec_l35Ends), (103, c_spec_l35Table), (105, c_spec_l35Whole)]
def W_spec_l35Is (m : MonoidalD) (K : Bool × Unit -> Prop) : Prop := (cnd ((((!(catR m.1)) || (!((decide (0 <= m.2.1)) && (decide (m.2.1 < m.1.1))))) || (!((decide (((m.2.2.1.length : Nat) : Int) = m.1.1)) && (squareR m.2.2.1 m.1.1)))) || (!((decide (((m.2.2.2.length : Nat) : Int) = ((m.1.2.1.length : Nat) : Int))) && (squareR m.2.2.2 ((m.1.2.1.length : Nat) : Int))))) (K (false, ())) ((ShapeP m.1) /\ (((tabR m.2.2.1 m.1.1) = true) /\ (((tabR m.2.2.2 ((m.1.2.1.length : Nat) : Int)) = true) /\ ((((!(endsR m)) = false) -> ((m.2.2.1.length <= 40) /\ ((0 <= m.2.1) /\ ((m.2.1 < ((m.2.2.1.length : Nat) : Int)) /\ ((tabR m.2.2.1 ((m.2.2.1.length : Nat) : Int)) = true))))) /\ (((((!(endsR m)) || (!(assocR m.2.2.1 m.2.1))) = false) -> ((m.2.1 < ((m.1.2.2.2.1.length : Nat) : Int)) /\ (0 <= m.2.1))) /\ (((((!(endsR m)) || (!(assocR m.2.2.1 m.2.1))) = false) -> ((m.2.2.2.length <= 40) /\ ((0 <= (List.getD m.1.2.2.2.1 m.2.1.toNat 0)) /\ (((List.getD m.1.2.2.2.1 m.2.1.toNat 0) < ((m.2.2.2.length : Nat) : Int)) /\ ((tabR m.2.2.2 ((m.2.2.2.length : Nat) : Int)) = true))))) /\ (cnd (((!(endsR m)) || (!(assocR m.2.2.1 m.2.1))) || (!(assocR m.2.2.2 (List.getD m.1.2.2.2.1 m.2.1.toNat 0)))) (K (false, ())) (loopW (S := ((Unit × (Int × Unit)) × ((Int × ((List Int) × ((List Int) × ((List Int) × (List (List Int)))))) × Unit))) (fun s => (fun next => ((inK .i64 s.1.2.1) -> ((inK .i64 s.2.1.1) -> ((T.ok (.sl (.int .i64)) s.2.1.2.1) -> ((T.ok (.sl (.int .i64)) s.2.1.2.2.1) -> ((T.ok (.sl (.int .i64)) s.2.1.2.2.2.1) -> ((T.ok (.sl (.sl (.int .i64))) s.2.1.2.2.2.2) -> (cnd (decide (s.1.2.1 < s.2.1.1)) (loopW (S := ((Unit × (Int × Unit)) × ((Int × ((List Int) × ((List Int) × ((List Int) × (List (List Int)))))) × Unit))) (fun s1 => (fun next1 => ((inK .i64 s1.1.2.1) -> ((inK .i64 s1.2.1.1) -> ((T.ok (.sl (.int .i64)) s1.2.1.2.1) -> ((T.ok (.sl (.int .i64)) s1.2.1.2.2.1) -> ((T.ok (.sl (.int .i64)) s1.2.1.2.2.2.1) -> ((T.ok (.sl (.sl (.int .i64))) s1.2.1.2.2.2.2) -> (cnd (decide (s1.1.2.1 < s1.2.1.1)) ((0 <= s.1.2.1) /\ ((s.1.2.1 < ((s1.2.1.2.2.2.1.length : Nat) : Int)) /\ ((0 <= (List.getD s1.2.1.2.2.2.1 s.1.2.1.toNat 0)) /\ (((List.getD s1.2.1.2.2.2.1 s.1.2.1.toNat 0) < ((m.2.2.2.length : Nat) : Int)) /\ ((0 <= s1.1.2.1) /\ ((s1.1.2.1 < ((s1.2.1.2.2.2.1.length : Nat) : Int)) /\ ((0 <= (List.getD s1.2.1.2.2.2.1 s1.1.2.1.toNat 0)) /\ (((List.getD s1.2.1.2.2.2.1 s1.1.2.1.toNat 0) < (((List.length (List.getD m.2.2.2 (Int.toNat (List.getD s1.2.1.2.2.2.1 s.1.2.1.toNat 0)) [])) : Nat) : Int)) /\ ((0 <= s.1.2.1) /\ ((s.1.2.1 < ((m.2.2.1.length : Nat) : Int)) /\ ((0 <= s1.1.2.1) /\ ((s1.1.2.1 < (((List.length (List.getD m.2.2.1 s.1.2.1.toNat [])) : Nat) : Int)) /\ ((0 <= (List.getD (List.getD m.2.2.1 s.1.2.1.toNat []) s1.1.2.1.toNat 0)) /\ (((List.getD (List.getD m.2.2.1 s.1.2.1.toNat []) s1.1.2.1.toNat 0) < ((s1.2.1.2.2.2.1.length : Nat) : Int)) /\ (cnd ((List.getD (List.getD m.2.2.2 (Int.toNat (List.getD s1.2.1.2.2.2.1 s.1.2.1.toNat 0)) []) (Int.toNat (List.getD s1.2.1.2.2.2.1 s1.1.2.1.toNat 0)) 0) != (List.getD s1.2.1.2.2.2.1 (Int.toNat (List.getD (List.getD m.2.2.1 s.1.2.1.toNat []) s1.1.2.1.toNat 0)) 0)) (K (false, ())) ((inK .i64 (s1.1.2.1 + 1)) /\ (next1 (((), ((s1.1.2.1 + 1), ())), (s1.2.1, ()))))))))))))))))))) ((inK .i64 (s.1.2.1 + 1)) /\ (next (((), ((s.1.2.1 + 1), ())), (s1.2.1, ()))))))))))))) (((), (0, ())), (s.2.1, ()))) (loopW (S := ((Unit × (Int × Unit)) × ((Int × ((List Int) × ((List Int) × ((List Int) × (List (List Int)))))) × Unit))) (fun s1 => (fun next1 => ((inK .i64 s1.1.2.1) -> ((inK .i64 s1.2.1.1) -> ((T.ok (.sl (.int .i64)) s1.2.1.2.1) -> ((T.ok (.sl (.int .i64)) s1.2.1.2.2.1) -> ((T.ok (.sl (.int .i64)) s1.2.1.2.2.2.1) -> ((T.ok (.sl (.sl (.int .i64))) s1.2.1.2.2.2.2) -> (cnd (decide (s1.1.2.1 < ((s1.2.1.2.1.length : Nat) : Int))) (loopW (S := ((Unit × (Int × Unit)) × ((Int × ((List Int) × ((List Int) × ((List Int) × (List (List Int)))))) × Unit))) (fun s2 => (fun next2 => ((inK .i64 s2.1.2.1) -> ((inK .i64 s2.2.1.1) -> ((T.ok (.sl (.int .i64)) s2.2.1.2.1) -> ((T.ok (.sl (.int .i64)) s2.2.1.2.2.1) -> ((T.ok (.sl (.int .i64)) s2.2.1.2.2.2.1) -> ((T.ok (.sl (.sl (.int .i64))) s2.2.1.2.2.2.2) -> (cnd (decide (s2.1.2.1 < ((s2.2.1.2.1.length : Nat) : Int))) (joinW (S := ((Unit × Unit) × ((Int × ((List Int) × ((List Int) × ((List Int) × (List (List Int)))))) × Unit))) (fun s3 => ((inK .i64 s3.2.1.1) -> ((T.ok (.sl (.int .i64)) s3.2.1.2.1) -> ((T.ok (.sl (.int .i64)) s3.2.1.2.2.1) -> ((T.ok (.sl (.int .i64)) s3.2.1.2.2.2.1) -> ((T.ok (.sl (.sl (.int .i64))) s3.2.1.2.2.2.2) -> ((inK .i64 (s2.1.2.1 + 1)) /\ (next2 (((), ((s2.1.2.1 + 1), ())), (s3.2.1, ())))))))))) (fun k => ((0 <= s1.1.2.1) /\ ((s1.1.2.1 < ((s2.2.1.2.2.2.2.length : Nat) : Int)) /\ ((0 <= s2.1.2.1) /\ ((s2.1.2.1 < (((List.length (List.getD s2.2.1.2.2.2.2 s1.1.2.1.toNat [])) : Nat) : Int)) /\ (cnd (decide ((List.getD (List.getD s2.2.1.2.2.2.2 s1.1.2.1.toNat []) s2.1.2.1.toNat 0) < 0)) (k (((), ()), (s2.2.1, ()))) (loopW (S := ((Unit × (Int × Unit)) × ((Int × ((List Int) × ((List Int) × ((List Int) × (List (List Int)))))) × Unit))) (fun s3 => (fun next3 => ((inK .i64 s3.1.2.1) -> ((inK .i64 s3.2.1.1) -> ((T.ok (.sl (.int .i64)) s3.2.1.2.1) -> ((T.ok (.sl (.int .i64)) s3.2.1.2.2.1) -> ((T.ok (.sl (.int .i64)) s3.2.1.2.2.2.1) -> ((T.ok (.sl (.sl (.int .i64))) s3.2.1.2.2.2.2) -> (cnd (decide (s3.1.2.1 < ((s3.2.1.2.1.length : Nat) : Int))) (loopW (S := ((Unit × (Int × Unit)) × ((Int × ((List Int) × ((List Int) × ((List Int) × (List (List Int)))))) × Unit))) (fun s4 => (fun next4 => ((inK .i64 s4.1.2.1) -> ((inK .i64 s4.2.1.1) -> ((T.ok (.sl (.int .i64)) s4.2.1.2.1) -> ((T.ok (.sl (.int .i64)) s4.2.1.2.2.1) -> ((T.ok (.sl (.int .i64)) s4.2.1.2.2.2.1) -> ((T.ok (.sl (.sl (.int .i64))) s4.2.1.2.2.2.2) -> (cnd (decide (s4.1.2.1 < ((s4.2.1.2.1.length : Nat) : Int))) ((0 <= s3.1.2.1) /\ ((s3.1.2.1 < ((s4.2.1.2.2.2.2.length : Nat) : Int)) /\ ((0 <= s4.1.2.1) /\ ((s4.1.2.1 < (((List.length (List.getD s4.2.1.2.2.2.2 s3.1.2.1.toNat [])) : Nat) : Int)) /\ ((((decide (0 <= (List.getD (List.getD s4.2.1.2.2.2.2 s3.1.2.1.toNat []) s4.1.2.1.toNat 0))) = true) -> ((s1.1.2.1 < ((s4.2.1.2.2.2.2.length : Nat) : Int)) /\ (0 <= s1.1.2.1))) /\ ((((decide (0 <= (List.getD (List.getD s4.2.1.2.2.2.2 s3.1.2.1.toNat []) s4.1.2.1.toNat 0))) = true) -> ((s2.1.2.1 < (((List.length (List.getD s4.2.1.2.2.2.2 s1.1.2.1.toNat [])) : Nat) : Int)) /\ (0 <= s2.1.2.1))) /\ ((((decide (0 <= (List.getD (List.getD s4.2.1.2.2.2.2 s3.1.2.1.toNat []) s4.1.2.1.toNat 0))) = true) -> (((List.getD (List.getD s4.2.1.2.2.2.2 s1.1.2.1.toNat []) s2.1.2.1.toNat 0) < ((m.2.2.2.length : Nat) : Int)) /\ (0 <= (List.getD (List.getD s4.2.1.2.2.2.2 s1.1.2.1.toNat []) s2.1.2.1.toNat 0)))) /\ ((((decide (0 <= (List.getD (List.getD s4.2.1.2.2.2.2 s3.1.2.1.toNat []) s4.1.2.1.toNat 0))) = true) -> ((s3.1.2.1 < ((s4.2.1.2.2.2.2.length : Nat) : Int)) /\ (0 <= s3.1.2.1))) /\ ((((decide (0 <= (List.getD (List.getD s4.2.1.2.2.2.2 s3.1.2.1.toNat []) s4.1.2.1.toNat 0))) = true) -> ((s4.1.2.1 < (((List.length (List.getD s4.2.1.2.2.2.2 s3.1.2.1.toNat [])) : Nat) : Int)) /\ (0 <= s4.1.2.1))) /\ ((((decide (0 <= (List.getD (List.getD s4.2.1.2.2.2.2 s3.1.2.1.toNat []) s4.1.2.1.toNat 0))) = true) -> (((List.getD (List.getD s4.2.1.2.2.2.2 s3.1.2.1.toNat []) s4.1.2.1.toNat 0) < (((List.length (List.getD m.2.2.2 (Int.toNat (List.getD (List.getD s4.2.1.2.2.2.2 s1.1.2.1.toNat []) s2.1.2.1.toNat 0)) [])) : Nat) : Int)) /\ (0 <= (List.getD (List.getD s4.2.1.2.2.2.2 s3.1.2.1.toNat []) s4.1.2.1.toNat 0)))) /\ ((((decide (0 <= (List.getD (List.getD s4.2.1.2.2.2.2 s3.1.2.1.toNat []) s4.1.2.1.toNat 0))) = true) -> ((s1.1.2.1 < ((m.2.2.2.length : Nat) : Int)) /\ (0 <= s1.1.2.1))) /\ ((((decide (0 <= (List.getD (List.getD s4.2.1.2.2.2.2 s3.1.2.1.toNat []) s4.1.2.1.toNat 0))) = true) -> ((s3.1.2.1 < (((List.length (List.getD m.2.2.2 s1.1.2.1.toNat [])) : Nat) : Int)) /\ (0 <= s3.1.2.1))) /\ ((((decide (0 <= (List.getD (List.getD s4.2.1.2.2.2.2 s3.1.2.1.toNat []) s4.1.2.1.toNat 0))) = true) -> (((List.getD (List.getD m.2.2.2 s1.1.2.1.toNat []) s3.1.2.1.toNat 0) < ((s4.2.1.2.2.2.2.length : Nat) : Int)) /\ (0 <= (List.getD (List.getD m.2.2.2 s1.1.2.1.toNat []) s3.1.2.1.toNat 0)))) /\ ((((decide (0 <= (List.getD (List.getD s4.2.1.2.2.2.2 s3.1.2.1.toNat []) s4.1.2.1.toNat 0))) = true) -> ((s2.1.2.1 < ((m.2.2.2.length : Nat) : Int)) /\ (0 <= s2.1.2.1))) /\ ((((decide (0 <= (List.getD (List.getD s4.2.1.2.2.2.2 s3.1.2.1.toNat []) s4.1.2.1.toNat 0))) = true) -> ((s4.1.2.1 < (((List.length (List.getD m.2.2.2 s2.1.2.1.toNat [])) : Nat) : Int)) /\ (0 <= s4.1.2.1))) /\ ((((decide (0 <= (List.getD (List.getD s4.2.1.2.2.2.2 s3.1.2.1.toNat []) s4.1.2.1.toNat 0))) = true) -> (((List.getD (List.getD m.2.2.2 s2.1.2.1.toNat []) s4.1.2.1.toNat 0) < (((List.length (List.getD s4.2.1.2.2.2.2 (Int.toNat (List.getD (List.getD m.2.2.2 s1.1.2.1.toNat []) s3.1.2.1.toNat 0)) [])) : Nat) : Int)) /\ (0 <= (List.getD (List.getD m.2.2.2 s2.1.2.1.toNat []) s4.1.2.1.toNat 0)))) /\ (cnd ((decide (0 <= (List.getD (List.getD s4.2.1.2.2.2.2 s3.1.2.1.toNat []) s4.1.2.1.toNat 0))) && ((List.getD (List.getD m.2.2.2 (Int.toNat (List.getD (List.getD s4.2.1.2.2.2.2 s1.1.2.1.toNat []) s2.1.2.1.toNat 0)) []) (Int.toNat (List.getD (List.getD s4.2.1.2.2.2.2 s3.1.2.1.toNat []) s4.1.2.1.toNat 0)) 0) != (List.getD (List.getD s4.2.1.2.2.2.2 (Int.toNat (List.getD (List.getD m.2.2.2 s1.1.2.1.toNat []) s3.1.2.1.toNat 0)) []) (Int.toNat (List.getD (List.getD m.2.2.2 s2.1.2.1.toNat []) s4.1.2.1.toNat 0)) 0))) (K (false, ())) ((inK .i64 (s4.1.2.1 + 1)) /\ (next4 (((), ((s4.1.2.1 + 1), ())), (s4.2.1, ()))))))))))))))))))))) ((inK .i64 (s3.1.2.1 + 1)) /\ (next3 (((), ((s3.1.2.1 + 1), ())), (s4.2.1, ()))))))))))))) (((), (0, ())), (s3.2.1, ()))) (k (((), ()), (s3.2.1, ())))))))))))) (((), (0, ())), (s2.2.1, ())))))))))) ((inK .i64 (s1.1.2.1 + 1)) /\ (next1 (((), ((s1.1.2.1 + 1), ())), (s2.2.1, ()))))))))))))) (((), (0, ())), (s1.2.1, ()))) (K (true, ()))))))))))) (((), (0, ())), (s.2.1, ())))))))))))) (((), (0, ())), (m.1, ())))))))))))
theorem w_spec_l35Is (x : denL c_spec_l35Is.args) (K : Bool × Unit -> Prop) : evF tab ph_spec_l35Is (cutL [(4, 23), (27, 56), (12, 29)]) Try.f41 (bodyOf Try.f41) an_spec_l35Is c_spec_l35Is x K = W_spec_l35Is x.1 K := by kernel_rfl
theorem k_spec_l35Is : okC Try.f41.ntmps (cutL [(4, 23), (27, 56), (12, 29)]) (bodyOf Try.f41) = true := by kernel_rfl
theorem m_spec_l35Is (m : MonoidalD) (hok : allP (okL c_spec_l35Is.args (m, ()))) (hpre : allP (c_spec_l35Is.pre (m, ()))) : W_spec_l35Is m (fun r => r = c_spec_l35Is.res (m, ())) := by
 simp only [c_spec_l35Is, okL, T.oks, T.ok, ap, allP, true_and, and_true, implies_true] at hok hpre
 try dsimp only [T.den] at hok
 try dsimp only [T.den] at hpre
 unfold W_spec_l35Is
 have bad : ¬ MonP m -> (false, ()) = c_spec_l35Is.res (m, ()) := fun h => by
  simp only [c_spec_l35Is]
  cases hs : monR m with
  | false => rfl
  | true => exact absurd (mon_iff.1 hs) h
 refine cnd_of (fun hc => bad fun h => ?_) (fun hc => ?_)
 ·have h1 := h.cat; have h2 := h.u; have h3 := h.ot; have h4 := h.at_
  simp only [tabR] at h3 h4
  simp only [h1, h3, h4] at hc
  grind [cnd, nb_eq, inK64]
 simp only [Bool.or_eq_false_iff, Bool.not_eq_false'] at hc
 obtain ⟨⟨⟨hcat, hu⟩, hot⟩, hat⟩ := hc
 simp only [Bool.and_eq_true, decide_eq_true_eq] at hu
 have hot : tabR m.2.2.1 m.1.1 = true := hot
 have hat : tabR m.2.2.2 m.1.2.1.length = true := hat
 have S := cat_shape hcat
 have O := tab_at hot
 have A := tab_at hat
 have hlt := S.lt
 have hli := S.li
 have hlc := S.lc
 have hmm := S.m
 have hob := S.ob
 have iu := S.idn hu.1 hu.2
 have e1 : (m.2.2.1.length : Int) = m.1.1 := O.1
 have e2 : (m.2.2.2.length : Int) = m.1.2.1.length := A.1
 refine ⟨S, hot, hat, fun _ => ⟨by omega, hu.1, by omega, by rw [e1]; exact hot⟩, fun _ => ⟨by omega, hu.1⟩, fun _ => ⟨by omega, iu.1, by omega, by rw [e2]; exact hat⟩, cnd_of (fun hd => bad fun h => ?_) (fun hd => ?_)⟩
 ·rw [h.ends, h.oa, h.aa] at hd; cases hd
 simp only [Bool.or_eq_false_iff, Bool.not_eq_false'] at hd
 obtain ⟨⟨hE, hoa⟩, haa⟩ := hd
 have at1 : ∀ i j : Int, (m.2.2.2.getD i.toNat []).getD j.toNat 0 = atR m.2.2.2 i j := fun _ _ => rfl
 have at2 : ∀ i j : Int, (m.2.2.1.getD i.toNat []).getD j.toNat 0 = atR m.2.2.1 i j := fun _ _ => rfl
 have at3 : ∀ i j : Int, (m.1.2.2.2.2.getD i.toNat []).getD j.toNat 0 = compR m.1 i j := fun _ _ => rfl
 refine loop_ix1 (n := m.1.1) (fun x => ∀ x' : Int, 0 <= x' -> x' < x -> ∀ y : Int, 0 <= y -> y < m.1.1 ->
  atR m.2.2.2 (m.1.2.2.2.1.getD x'.toNat 0) (m.1.2.2.2.1.getD y.toNat 0) = m.1.2.2.2.1.getD (atR m.2.2.1 x' y).toNat 0) (by omega) (by intro y h0 h1; omega) ?_ ?_
 ·intro x next x0 x1 hP hn _ _ _ _ _ _
  try dsimp only
  refine cnd_d (fun _ => ?_) (fun h => absurd x1 h)
  have ix := S.idn x0 x1
  have r1 := A.2.1 _ ix.1 ix.2.1
  have r2 := O.2.1 x x0 x1
  refine loop_ix1 (n := m.1.1) (fun y => ∀ y' : Int, 0 <= y' -> y' < y ->
   atR m.2.2.2 (m.1.2.2.2.1.getD x.toNat 0) (m.1.2.2.2.1.getD y'.toNat 0) = m.1.2.2.2.1.getD (atR m.2.2.1 x y').toNat 0) (by omega) (by intro y h0 h1; omega) ?_ ?_
  ·intro y next2 y0 y1 hP2 hn2 _ _ _ _ _ _
   try dsimp only
   simp only [at1, at2]
   have iy := S.idn y0 y1
   have oxy := O.2.2 x y x0 x1 y0 y1
   refine cnd_d (fun _ => ⟨x0, by omega, ix.1, by omega, y0, by omega, iy.1, by omega, x0, by omega, y0, by omega, oxy.1, by omega, cnd_of (fun hx => bad fun h => ?_) (fun hx => ⟨by rw [inK64]; (try dsimp only); omega, hn2 fun y' a0 a1 => ?_⟩)⟩) (fun h => absurd y1 h)
   ·rw [(ids_iff S).1 h.ids x x0 x1 y y0 y1] at hx; simp at hx
   ·by_cases e : y' = y
    ·rw [e]; simpa using hx
    ·exact hP2 y' a0 (by omega)
  ·intro next2 hP2 _ _ _ _ _ _
   refine cnd_d (fun h => absurd h (by dsimp only; omega)) (fun _ => ⟨by rw [inK64]; (try dsimp only); omega, hn fun x' a0 a1 => ?_⟩)
   by_cases e : x' = x
   ·rw [e]; exact hP2
   ·exact hP x' a0 (by omega)
 intro next hI _ _ _ _ _ _
 refine cnd_d (fun h => absurd h (by dsimp only; omega)) (fun _ => ?_)
 have hI : monIds m = true := (ids_iff S).2 hI
 clear next
 refine loop_ix1 (n := m.1.2.1.length) (fun f => ∀ f' : Int, 0 <= f' -> f' < f -> ∀ h : Int, 0 <= h -> h < m.1.2.1.length -> m.1.2.2.1.getD f'.toNat 0 = m.1.2.1.getD h.toNat 0 -> ∀ g : Int, 0 <= g -> g < m.1.2.1.length -> ∀ k : Int, 0 <= k -> k < m.1.2.1.length -> m.1.2.2.1.getD g.toNat 0 = m.1.2.1.getD k.toNat 0 ->
  atR m.2.2.2 (compR m.1 f' h) (compR m.1 g k) = compR m.1 (atR m.2.2.2 f' g) (atR m.2.2.2 h k)) (by omega) (by intro y h0 h1; omega) ?_ ?_
 ·intro f next f0 f1 hP hn _ _ _ _ _ _
  try dsimp only
  refine cnd_d (fun _ => ?_) (fun h => absurd f1 h)
  have rf := S.row f f0 f1
  have af := A.2.1 f f0 f1
  refine loop_ix1 (n := m.1.2.1.length) (fun h => ∀ h' : Int, 0 <= h' -> h' < h -> m.1.2.2.1.getD f.toNat 0 = m.1.2.1.getD h'.toNat 0 -> ∀ g : Int, 0 <= g -> g < m.1.2.1.length -> ∀ k : Int, 0 <= k -> k < m.1.2.1.length -> m.1.2.2.1.getD g.toNat 0 = m.1.2.1.getD k.toNat 0 ->
   atR m.2.2.2 (compR m.1 f h') (compR m.1 g k) = compR m.1 (atR m.2.2.2 f g) (atR m.2.2.2 h' k)) (by omega) (by intro y h0 h1; omega) ?_ ?_
  ·intro h next2 h0 h1 hP2 hn2 _ _ _ _ _ _
   try dsimp only
   refine cnd_d (fun _ => ?_) (fun q => absurd h1 q)
   have cfh := S.comp f0 f1 h0 h1
   have yfh := @ShapeP.yes m.1 S f h f0 f1 h0 h1
   have ah := A.2.1 h h0 h1
   refine join_of (fun s3 => s3.2.1 = m.1 /\ (m.1.2.2.1.getD f.toNat 0 = m.1.2.1.getD h.toNat 0 -> ∀ g : Int, 0 <= g -> g < m.1.2.1.length -> ∀ k : Int, 0 <= k -> k < m.1.2.1.length -> m.1.2.2.1.getD g.toNat 0 = m.1.2.1.getD k.toNat 0 ->
    atR m.2.2.2 (compR m.1 f h) (compR m.1 g k) = compR m.1 (atR m.2.2.2 f g) (atR m.2.2.2 h k))) ?_ ?_
   ·rintro ⟨⟨_, _⟩, y, _⟩ ⟨hy, hq⟩ _ _ _ _ _
    try dsimp only at hy hq ⊢
    subst hy
    refine ⟨by rw [inK64]; (try dsimp only); omega, hn2 fun h' a0 a1 => ?_⟩
    by_cases e : h' = h
    ·rw [e]; exact hq
    ·exact hP2 h' a0 (by omega)
   intro kk hkk
   simp only [at1, at3]
   refine ⟨f0, by omega, h0, by omega, cnd_d (fun hx => hkk _ ⟨rfl, fun e => ?_⟩) (fun hx => ?_)⟩
   ·have := cfh.2 e; omega
   have efh := cfh.1 (by omega)
   have yfh := yfh efh
   have ra := A.2.1 _ yfh.1 yfh.2.1
   refine loop_ix1 (n := m.1.2.1.length) (fun g => ∀ g' : Int, 0 <= g' -> g' < g -> ∀ k : Int, 0 <= k -> k < m.1.2.1.length -> m.1.2.2.1.getD g'.toNat 0 = m.1.2.1.getD k.toNat 0 ->
    atR m.2.2.2 (compR m.1 f h) (compR m.1 g' k) = compR m.1 (atR m.2.2.2 f g') (atR m.2.2.2 h k)) (by omega) (by intro y h0 h1; omega) ?_ ?_
   ·intro g next3 g0 g1 hP3 hn3 _ _ _ _ _ _
    try dsimp only
    refine cnd_d (fun _ => ?_) (fun q => absurd g1 q)
    have rg := S.row g g0 g1
    have afg := A.2.2 f g f0 f1 g0 g1
    have rfg := S.row _ afg.1 afg.2
    refine loop_ix1 (n := m.1.2.1.length) (fun k => ∀ k' : Int, 0 <= k' -> k' < k -> m.1.2.2.1.getD g.toNat 0 = m.1.2.1.getD k'.toNat 0 ->
     atR m.2.2.2 (compR m.1 f h) (compR m.1 g k') = compR m.1 (atR m.2.2.2 f g) (atR m.2.2.2 h k')) (by omega) (by intro y h0 h1; omega) ?_ ?_
    ·intro k next4 k0 k1 hP4 hn4 _ _ _ _ _ _
     try dsimp only
     simp only [at1, at3]
     have cgk := S.comp g0 g1 k0 k1
     have ygk := @ShapeP.yes m.1 S g k g0 g1 k0 k1
     have ahk := A.2.2 h k h0 h1 k0 k1
     refine cnd_d (fun _ => ⟨g0, by omega, k0, by omega, fun _ => by omega, fun _ => by omega, fun _ => by omega, fun _ => by omega, fun _ => by omega, fun q => ?_, fun _ => by omega, fun _ => by omega, fun _ => by omega, fun _ => by omega, fun _ => by omega, fun _ => by omega, cnd_of (fun hy => bad fun q => ?_) (fun hy => ⟨by rw [inK64]; (try dsimp only); omega, hn4 fun k' a0 a1 e => ?_⟩)⟩) (fun q => absurd k1 q)
     ·have := ygk (cgk.1 (of_decide_eq_true q)); omega
     ·simp only [Bool.and_eq_true, decide_eq_true_eq, bne_iff_ne] at hy
      exact hy.2 (inter_iff.1 q.inter f f0 f1 h h0 h1 efh g g0 g1 k k0 k1 (cgk.1 hy.1))
     ·by_cases e2 : k' = k
      ·rw [e2] at e ⊢
       have := cgk.2 e
       simpa [this] using hy
      ·exact hP4 k' a0 (by omega) e
    ·intro next4 hP4 _ _ _ _ _ _
     refine cnd_d (fun q => absurd q (by dsimp only; omega)) (fun _ => ⟨by rw [inK64]; (try dsimp only); omega, hn3 fun g' a0 a1 => ?_⟩)
     by_cases e : g' = g
     ·rw [e]; exact hP4
     ·exact hP3 g' a0 (by omega)
   ·intro next3 hP3 _ _ _ _ _ _
    exact cnd_d (fun q => absurd q (by dsimp only; omega)) (fun _ => hkk _ ⟨rfl, fun _ => hP3⟩)
  ·intro next2 hP2 _ _ _ _ _ _
   refine cnd_d (fun q => absurd q (by dsimp only; omega)) (fun _ => ⟨by rw [inK64]; (try dsimp only); omega, hn fun f' a0 a1 => ?_⟩)
   by_cases e : f' = f
   ·rw [e]; exact hP2
   ·exact hP f' a0 (by omega)
 ·intro next hP _ _ _ _ _ _
  refine cnd_d (fun q => absurd q (by dsimp only; omega)) (fun _ => ?_)
  simp only [c_spec_l35Is]
  rw [mon_iff.2 ⟨hcat, hu, hot, hat, hE, hI, hoa, haa, inter_iff.2 hP⟩]
theorem ct_spec_l35Is : CtOk Try.prog 41 c_spec_l35Is :=
 ct_by (Φ := ph_spec_l35Is) (good_cons ct_spec_l02Is (good_cons ct_spec_l02Object (good_cons ct_spec_l35Ends (good_cons ct_spec_l35Table (good_cons ct_spec_l35Whole good_nil))))) tab_ok (by kernel_rfl) (fn := Try.f41) (c := bodyOf Try.f41) (by kernel_rfl) (by kernel_rfl) (by kernel_rfl) c_spec_l35Is rfl an_spec_l35Is (cutL [(4, 23), (27, 56), (12, 29)]) (by kernel_rfl) (by kernel_rfl) k_spec_l35Is (by decide) (fun x K => W_spec_l35Is x.1 K) w_spec_l35Is (fun x h1 h2 => m_spec_l35Is x.1 h1 h2)
def c_spec_TensorArrows : Ct := ⟨[MonoidalT, (.sl (.int .i64))], [true, false], fun x => [], [(false, (.fz (.int .i64))), (false, (.fz (.int .i64)))], fun x => ((tensAR x.1 x.2.1).1, (tensAR x.1 x.2.1).2, ()), false, none⟩
def an_spec_TensorArrows : Ann := (.s .n (.s .n (.s .n (.s .n (.s (.s .n (.l [(6, (.d (.int .i64))), (7, (.d (.int .i64)))] [] [1, 2] .n)) .n)))))
def ph_spec_TensorArrows : FuncId -> Option Ct := lkp [(42, c_spec_l01Map), (41, c_spec_l35Is)]
def W_spec_TensorArrows (m : MonoidalD) (list : List Int) (K : Int × Int × Unit -> Prop) : Prop := (cnd (!(monR m)) (K (0, (1, ()))) (cnd (!(withinR list ((m.1.2.1.length : Nat) : Int))) (K (0, (2, ()))) ((0 <= m.2.1) /\ ((m.2.1 < ((m.1.2.2.2.1.length : Nat) : Int)) /\ (loopW (S := ((Int × (Int × Unit)) × Unit)) (fun s => (fun next => ((inK .i64 s.1.1) -> ((inK .i64 s.1.2.1) -> (cnd (decide (s.1.2.1 < ((list.length : Nat) : Int))) ((0 <= s.1.1) /\ ((s.1.1 < ((m.2.2.2.length : Nat) : Int)) /\ ((0 <= s.1.2.1) /\ ((s.1.2.1 < ((list.length : Nat) : Int)) /\ ((0 <= (List.getD list s.1.2.1.toNat 0)) /\ (((List.getD list s.1.2.1.toNat 0) < (((List.length (List.getD m.2.2.2 s.1.1.toNat [])) : Nat) : Int)) /\ ((inK .i64 (s.1.2.1 + 1)) /\ (next (((List.getD (List.getD m.2.2.2 s.1.1.toNat []) (Int.toNat (List.getD list s.1.2.1.toNat 0)) 0), ((s.1.2.1 + 1), ())), ()))))))))) (K (s.1.1, (0, ())))))))) (((List.getD m.1.2.2.2.1 m.2.1.toNat 0), (0, ())), ()))))))
theorem w_spec_TensorArrows (x : denL c_spec_TensorArrows.args) (K : Int × Int × Unit -> Prop) : evF tab ph_spec_TensorArrows (cutL [(9, 12)]) Try.f10 (bodyOf Try.f10) an_spec_TensorArrows c_spec_TensorArrows x K = W_spec_TensorArrows x.1 x.2.1 K := by kernel_rfl
theorem k_spec_TensorArrows : okC Try.f10.ntmps (cutL [(9, 12)]) (bodyOf Try.f10) = true := by kernel_rfl
theorem m_spec_TensorArrows (m : MonoidalD) (list : List Int) (hok : allP (okL c_spec_TensorArrows.args (m, list, ()))) (hpre : allP (c_spec_TensorArrows.pre (m, list, ()))) : W_spec_TensorArrows m list (fun r => r = c_spec_TensorArrows.res (m, list, ())) := by
 simp only [c_spec_TensorArrows, okL, T.oks, T.ok, ap, allP, true_and, and_true, implies_true] at hok hpre
 try dsimp only [T.den] at hok
 try dsimp only [T.den] at hpre
 unfold W_spec_TensorArrows
 have resq : ∀ a b, tensAR m list = (a, b) -> (a, b, ()) = c_spec_TensorArrows.res (m, list, ()) := fun a b h => by simp only [c_spec_TensorArrows, h]
 have hl : list.length <= 140737488355328 := by simp only [nb_eq] at hok; omega
 refine cnd_of (fun hc => resq _ _ ?_) (fun hc => cnd_of (fun hd => resq _ _ ?_) (fun hd => ?_))
 ·unfold tensAR; rw [if_neg (by simpa using hc)]
 ·unfold tensAR; rw [if_pos (by simpa using hc), if_neg (by simpa using hd)]
 simp only [Bool.not_eq_false'] at hc hd
 have A := tab_at (mon_iff.1 hc).at_
 have at1 : ∀ i j : Int, (m.2.2.2.getD i.toNat []).getD j.toNat 0 = atR m.2.2.2 i j := fun _ _ => rfl
 have hR : tensAR m list = (tfR m.2.2.2 (m.1.2.2.2.1.getD m.2.1.toNat 0) list, 0) := by unfold tensAR; rw [if_pos hc, if_pos hd]
 have hu := (mon_iff.1 hc).u
 have S := cat_shape (mon_iff.1 hc).cat
 have iu := S.idn hu.1 hu.2
 have hli := S.li
 refine ⟨hu.1, by omega, ?_⟩
 refine loop_of (fun (s : ((Int × (Int × Unit)) × Unit)) => 0 <= s.1.2.1 /\ s.1.2.1 <= list.length /\ 0 <= s.1.1 /\ s.1.1 < m.1.2.1.length /\ tfR m.2.2.2 (m.1.2.2.2.1.getD m.2.1.toNat 0) list = tfR m.2.2.2 s.1.1 (list.drop s.1.2.1.toNat)) (fun (s : ((Int × (Int × Unit)) × Unit)) => (list.length - s.1.2.1).toNat) ?_ ⟨by simp, by simp, iu.1, iu.2.1, by simp⟩
 rintro ⟨⟨x, i, _⟩, _⟩ next ⟨h0, h1, h2, h3, h4⟩ hn hx hin
 try dsimp only at h0 h1 h2 h3 h4 hn ⊢
 simp only [at1]
 refine cnd_d (fun hi => ?_) (fun hi => resq _ _ ?_)
 ·have li := within_iff.1 hd i h0 hi
  have rx := A.2.1 x h2 h3
  have ax := A.2.2 x _ h2 h3 li.1 li.2
  rw [drop_c list 0 h0 hi] at h4
  refine ⟨h2, by omega, h0, hi, li.1, by omega, by rw [inK64]; (try dsimp only); omega, hn _ ⟨(by first | omega | (dsimp only; omega)), (by first | omega | (dsimp only; omega)), ax.1, ax.2, h4⟩ (by first | omega | (dsimp only; omega))⟩
 ·rw [drop_n list (by omega)] at h4
  rw [hR, h4]; rfl
theorem ct_spec_TensorArrows : CtOk Try.prog 10 c_spec_TensorArrows :=
 ct_by (Φ := ph_spec_TensorArrows) (good_cons ct_spec_l01Map (good_cons ct_spec_l35Is good_nil)) tab_ok (by kernel_rfl) (fn := Try.f10) (c := bodyOf Try.f10) (by kernel_rfl) (by kernel_rfl) (by kernel_rfl) c_spec_TensorArrows rfl an_spec_TensorArrows (cutL [(9, 12)]) (by kernel_rfl) (by kernel_rfl) k_spec_TensorArrows (by decide) (fun x K => W_spec_TensorArrows x.1 x.2.1 K) w_spec_TensorArrows (fun x h1 h2 => m_spec_TensorArrows x.1 x.2.1 h1 h2)
theorem tf_app (t : List (List Int)) : ∀ (l r : List Int) (x : Int), tfR t x (l ++ r) = tfR t (tfR t x l) r
 | [], _, _ => rfl
 | _ :: l, r, _ => tf_app t l r _
theorem tf_in {t : List (List Int)} {n : Int} (hA : ∀ i j : Int, 0 <= i -> i < n -> 0 <= j -> j < n -> 0 <= atR t i j /\ atR t i j < n) : ∀ (l : List Int) (x : Int), (∀ y ∈ l, 0 <= y /\ y < n) -> 0 <= x -> x < n -> 0 <= tfR t x l /\ tfR t x l < n
 | [], _, _, h0, h1 => ⟨h0, h1⟩
 | y :: l, x, h, h0, h1 => by
  have hy := h y (List.mem_cons_self ..)
  have ha := hA x y h0 h1 hy.1 hy.2
  exact tf_in hA l _ (fun z hz => h z (List.mem_cons_of_mem _ hz)) ha.1 ha.2
theorem tf_map {t s : List (List Int)} {n : Int} (φ : Int -> Int) (hA : ∀ i j : Int, 0 <= i -> i < n -> 0 <= j -> j < n -> (0 <= atR t i j /\ atR t i j < n) /\ φ (atR t i j) = atR s (φ i) (φ j)) : ∀ (l : List Int) (x : Int), (∀ y ∈ l, 0 <= y /\ y < n) -> 0 <= x -> x < n -> φ (tfR t x l) = tfR s (φ x) (l.map φ)
 | [], _, _, _, _ => rfl
 | y :: l, x, h, h0, h1 => by
  have hy := h y (List.mem_cons_self ..)
  have ha := hA x y h0 h1 hy.1 hy.2
  rw [List.map_cons, tfR, tfR, tf_map φ hA l _ (fun z hz => h z (List.mem_cons_of_mem _ hz)) ha.1.1 ha.1.2, ha.2]
theorem tf_assoc {t : List (List Int)} {n u : Int} (hu : 0 <= u /\ u < n) (hA : ∀ i j : Int, 0 <= i -> i < n -> 0 <= j -> j < n -> 0 <= atR t i j /\ atR t i j < n)
  (h1 : ∀ x : Int, 0 <= x -> x < n -> (atR t x u = x /\ atR t u x = x) /\ ∀ y : Int, 0 <= y -> y < n -> ∀ z : Int, 0 <= z -> z < n -> atR t (atR t x y) z = atR t x (atR t y z)) :
  ∀ (l : List Int) (x : Int), (∀ y ∈ l, 0 <= y /\ y < n) -> 0 <= x -> x < n -> tfR t x l = atR t x (tfR t u l)
 | [], x, _, h0, hx => by rw [tfR, tfR, (h1 x h0 hx).1.1]
 | y :: l, x, h, h0, hx => by
  have hy := h y (List.mem_cons_self ..)
  have hl : ∀ z ∈ l, 0 <= z /\ z < n := fun z hz => h z (List.mem_cons_of_mem _ hz)
  have ha := hA x y h0 hx hy.1 hy.2
  have hw := tf_in hA l u hl hu.1 hu.2
  rw [tfR, tfR, tf_assoc hu hA h1 l _ hl ha.1 ha.2, (h1 y hy.1 hy.2).1.2, tf_assoc hu hA h1 l y hl hy.1 hy.2, (h1 x h0 hx).2 y hy.1 hy.2 _ hw.1 hw.2]
theorem within_mem {l : List Int} {n : Int} : withinR l n = true ↔ ∀ y ∈ l, 0 <= y /\ y < n := by
 simp only [withinR, List.all_eq_true, inR, Bool.and_eq_true, decide_eq_true_eq]
 exact ⟨fun h y hy => by have := h y hy; omega, fun h y hy => by have := h y hy; omega⟩
def c_laws_FnTensors : Ct := ⟨[(.sl (.int .u8))], [false], fun x => [], [(false, (.fz .bool))], fun x => (true, ()), false, none⟩
def an_laws_FnTensors : Ann := (.s .n (.s .n (.s .n (.s .n (.s .n (.s .n (.s .n (.s .n (.s (.s .n (.l [(9, (.ref 800009 [])), (10, (.ref 800010 [])), (11, (.d (.int .i64)))] [(800009, (.sl (.fz (.int .i64)))), (800010, (.sl (.fz (.int .i64))))] [0, 3, 4, 7] .n)) .n)))))))))
def ph_laws_FnTensors : FuncId -> Option Ct := lkp [(13, c_laws_dice_below), (14, c_impl_IsMonoidal), (9, c_impl_TensorArrows), (11, c_impl_TensorObjects), (7, c_laws_big), (12, c_laws_roll), (8, c_spec_DrawTensorArrows), (10, c_spec_TensorArrows)]
def W_laws_FnTensors (code : List Int) (K : Bool × Unit -> Prop) : Prop := (cnd (decide (4096 < ((code.length : Nat) : Int))) (K (true, ())) (cnd (((tensAR (spec_l35List_r0R code true) (spec_l35List_r1R code true)).2 != (tensAR (spec_l35List_r0R code true) (spec_l35List_r1R code true)).2) || ((tensAR (spec_l35List_r0R code true) (spec_l35List_r1R code true)).1 != (tensAR (spec_l35List_r0R code true) (spec_l35List_r1R code true)).1)) (K (false, ())) (cnd ((tensAR (spec_l35List_r0R code true) (spec_l35List_r1R code true)).2 != 0) (K (true, ())) (loopW (S := ((Unit × (Unit × (Int × Unit))) × ((List Int) × ((List Int) × Unit)))) (fun s => (fun next => ((inK .i64 s.1.2.2.1) -> ((T.ok (.sl (.int .i64)) s.2.1) -> ((T.ok (.sl (.int .i64)) s.2.2.1) -> (cnd (decide (s.1.2.2.1 < (((List.length (spec_l35List_r1R code true)) : Nat) : Int))) ((0 <= s.1.2.2.1) /\ ((s.1.2.2.1 < (((List.length (spec_l35List_r1R code true)) : Nat) : Int)) /\ ((0 <= (List.getD (spec_l35List_r1R code true) s.1.2.2.1.toNat 0)) /\ (((List.getD (spec_l35List_r1R code true) s.1.2.2.1.toNat 0) < (((List.length (spec_l35List_r0R code true).1.2.1) : Nat) : Int)) /\ ((room s.2.1.length (List.length ((List.getD (spec_l35List_r0R code true).1.2.1 (Int.toNat (List.getD (spec_l35List_r1R code true) s.1.2.2.1.toNat 0)) 0) :: [])) 8) /\ ((0 <= s.1.2.2.1) /\ ((s.1.2.2.1 < (((List.length (spec_l35List_r1R code true)) : Nat) : Int)) /\ ((0 <= (List.getD (spec_l35List_r1R code true) s.1.2.2.1.toNat 0)) /\ (((List.getD (spec_l35List_r1R code true) s.1.2.2.1.toNat 0) < (((List.length (spec_l35List_r0R code true).1.2.2.1) : Nat) : Int)) /\ ((room s.2.2.1.length (List.length ((List.getD (spec_l35List_r0R code true).1.2.2.1 (Int.toNat (List.getD (spec_l35List_r1R code true) s.1.2.2.1.toNat 0)) 0) :: [])) 8) /\ ((inK .i64 (s.1.2.2.1 + 1)) /\ (next (((), ((), ((s.1.2.2.1 + 1), ()))), ((s.2.1 ++ ((List.getD (spec_l35List_r0R code true).1.2.1 (Int.toNat (List.getD (spec_l35List_r1R code true) s.1.2.2.1.toNat 0)) 0) :: [])), ((s.2.2.1 ++ ((List.getD (spec_l35List_r0R code true).1.2.2.1 (Int.toNat (List.getD (spec_l35List_r1R code true) s.1.2.2.1.toNat 0)) 0) :: [])), ()))))))))))))))) ((inK .i64 ((((List.length (spec_l35List_r1R code true)) : Nat) : Int) + 1)) /\ ((0 <= (laws_roll_r0R code 3505).2.1) /\ ((0 <= (laws_dice_below_r0R (laws_roll_r0R code 3505) ((((List.length (spec_l35List_r1R code true)) : Nat) : Int) + 1))) /\ (((laws_dice_below_r0R (laws_roll_r0R code 3505) ((((List.length (spec_l35List_r1R code true)) : Nat) : Int) + 1)) <= (((List.length (spec_l35List_r1R code true)) : Nat) : Int)) /\ ((0 <= (laws_dice_below_r0R (laws_roll_r0R code 3505) ((((List.length (spec_l35List_r1R code true)) : Nat) : Int) + 1))) /\ (((laws_dice_below_r0R (laws_roll_r0R code 3505) ((((List.length (spec_l35List_r1R code true)) : Nat) : Int) + 1)) <= (((List.length (spec_l35List_r1R code true)) : Nat) : Int)) /\ ((0 <= (laws_dice_below_r0R (laws_roll_r0R code 3505) ((((List.length (spec_l35List_r1R code true)) : Nat) : Int) + 1))) /\ (((laws_dice_below_r0R (laws_roll_r0R code 3505) ((((List.length (spec_l35List_r1R code true)) : Nat) : Int) + 1)) <= (((List.length (spec_l35List_r1R code true)) : Nat) : Int)) /\ ((0 <= (laws_dice_below_r0R (laws_roll_r0R code 3505) ((((List.length (spec_l35List_r1R code true)) : Nat) : Int) + 1))) /\ (((laws_dice_below_r0R (laws_roll_r0R code 3505) ((((List.length (spec_l35List_r1R code true)) : Nat) : Int) + 1)) <= (((List.length (spec_l35List_r1R code true)) : Nat) : Int)) /\ ((((((monR (spec_l35List_r0R code true)) && ((tensOR (spec_l35List_r0R code true) s.2.1).2 == 0)) && ((tensOR (spec_l35List_r0R code true) s.2.2.1).2 == 0)) = true) -> (((tensAR (spec_l35List_r0R code true) (spec_l35List_r1R code true)).1 < (((List.length (spec_l35List_r0R code true).1.2.1) : Nat) : Int)) /\ (0 <= (tensAR (spec_l35List_r0R code true) (spec_l35List_r1R code true)).1))) /\ (((((((monR (spec_l35List_r0R code true)) && ((tensOR (spec_l35List_r0R code true) s.2.1).2 == 0)) && ((tensOR (spec_l35List_r0R code true) s.2.2.1).2 == 0)) && ((tensOR (spec_l35List_r0R code true) s.2.1).1 == (List.getD (spec_l35List_r0R code true).1.2.1 (Int.toNat (tensAR (spec_l35List_r0R code true) (spec_l35List_r1R code true)).1) 0))) = true) -> (((tensAR (spec_l35List_r0R code true) (spec_l35List_r1R code true)).1 < (((List.length (spec_l35List_r0R code true).1.2.2.1) : Nat) : Int)) /\ (0 <= (tensAR (spec_l35List_r0R code true) (spec_l35List_r1R code true)).1))) /\ ((((((((((((monR (spec_l35List_r0R code true)) && ((tensOR (spec_l35List_r0R code true) s.2.1).2 == 0)) && ((tensOR (spec_l35List_r0R code true) s.2.2.1).2 == 0)) && ((tensOR (spec_l35List_r0R code true) s.2.1).1 == (List.getD (spec_l35List_r0R code true).1.2.1 (Int.toNat (tensAR (spec_l35List_r0R code true) (spec_l35List_r1R code true)).1) 0))) && ((tensOR (spec_l35List_r0R code true) s.2.2.1).1 == (List.getD (spec_l35List_r0R code true).1.2.2.1 (Int.toNat (tensAR (spec_l35List_r0R code true) (spec_l35List_r1R code true)).1) 0))) && ((tensAR (spec_l35List_r0R code true) (List.take (Int.toNat (laws_dice_below_r0R (laws_roll_r0R code 3505) ((((List.length (spec_l35List_r1R code true)) : Nat) : Int) + 1))) (spec_l35List_r1R code true))).2 == 0)) && ((tensAR (spec_l35List_r0R code true) (List.drop (Int.toNat (laws_dice_below_r0R (laws_roll_r0R code 3505) ((((List.length (spec_l35List_r1R code true)) : Nat) : Int) + 1))) (spec_l35List_r1R code true))).2 == 0)) && ((tensAR (spec_l35List_r0R code true) (List.take (Int.toNat (laws_dice_below_r0R (laws_roll_r0R code 3505) ((((List.length (spec_l35List_r1R code true)) : Nat) : Int) + 1))) (spec_l35List_r1R code true))).1 == (tensAR (spec_l35List_r0R code true) (List.take (Int.toNat (laws_dice_below_r0R (laws_roll_r0R code 3505) ((((List.length (spec_l35List_r1R code true)) : Nat) : Int) + 1))) (spec_l35List_r1R code true))).1)) && ((tensAR (spec_l35List_r0R code true) (List.drop (Int.toNat (laws_dice_below_r0R (laws_roll_r0R code 3505) ((((List.length (spec_l35List_r1R code true)) : Nat) : Int) + 1))) (spec_l35List_r1R code true))).1 == (tensAR (spec_l35List_r0R code true) (List.drop (Int.toNat (laws_dice_below_r0R (laws_roll_r0R code 3505) ((((List.length (spec_l35List_r1R code true)) : Nat) : Int) + 1))) (spec_l35List_r1R code true))).1)) = true) -> (((tensAR (spec_l35List_r0R code true) (List.take (Int.toNat (laws_dice_below_r0R (laws_roll_r0R code 3505) ((((List.length (spec_l35List_r1R code true)) : Nat) : Int) + 1))) (spec_l35List_r1R code true))).1 < (((List.length (spec_l35List_r0R code true).2.2.2) : Nat) : Int)) /\ (0 <= (tensAR (spec_l35List_r0R code true) (List.take (Int.toNat (laws_dice_below_r0R (laws_roll_r0R code 3505) ((((List.length (spec_l35List_r1R code true)) : Nat) : Int) + 1))) (spec_l35List_r1R code true))).1))) /\ ((((((((((((monR (spec_l35List_r0R code true)) && ((tensOR (spec_l35List_r0R code true) s.2.1).2 == 0)) && ((tensOR (spec_l35List_r0R code true) s.2.2.1).2 == 0)) && ((tensOR (spec_l35List_r0R code true) s.2.1).1 == (List.getD (spec_l35List_r0R code true).1.2.1 (Int.toNat (tensAR (spec_l35List_r0R code true) (spec_l35List_r1R code true)).1) 0))) && ((tensOR (spec_l35List_r0R code true) s.2.2.1).1 == (List.getD (spec_l35List_r0R code true).1.2.2.1 (Int.toNat (tensAR (spec_l35List_r0R code true) (spec_l35List_r1R code true)).1) 0))) && ((tensAR (spec_l35List_r0R code true) (List.take (Int.toNat (laws_dice_below_r0R (laws_roll_r0R code 3505) ((((List.length (spec_l35List_r1R code true)) : Nat) : Int) + 1))) (spec_l35List_r1R code true))).2 == 0)) && ((tensAR (spec_l35List_r0R code true) (List.drop (Int.toNat (laws_dice_below_r0R (laws_roll_r0R code 3505) ((((List.length (spec_l35List_r1R code true)) : Nat) : Int) + 1))) (spec_l35List_r1R code true))).2 == 0)) && ((tensAR (spec_l35List_r0R code true) (List.take (Int.toNat (laws_dice_below_r0R (laws_roll_r0R code 3505) ((((List.length (spec_l35List_r1R code true)) : Nat) : Int) + 1))) (spec_l35List_r1R code true))).1 == (tensAR (spec_l35List_r0R code true) (List.take (Int.toNat (laws_dice_below_r0R (laws_roll_r0R code 3505) ((((List.length (spec_l35List_r1R code true)) : Nat) : Int) + 1))) (spec_l35List_r1R code true))).1)) && ((tensAR (spec_l35List_r0R code true) (List.drop (Int.toNat (laws_dice_below_r0R (laws_roll_r0R code 3505) ((((List.length (spec_l35List_r1R code true)) : Nat) : Int) + 1))) (spec_l35List_r1R code true))).1 == (tensAR (spec_l35List_r0R code true) (List.drop (Int.toNat (laws_dice_below_r0R (laws_roll_r0R code 3505) ((((List.length (spec_l35List_r1R code true)) : Nat) : Int) + 1))) (spec_l35List_r1R code true))).1)) = true) -> (((tensAR (spec_l35List_r0R code true) (List.drop (Int.toNat (laws_dice_below_r0R (laws_roll_r0R code 3505) ((((List.length (spec_l35List_r1R code true)) : Nat) : Int) + 1))) (spec_l35List_r1R code true))).1 < (((List.length (List.getD (spec_l35List_r0R code true).2.2.2 (Int.toNat (tensAR (spec_l35List_r0R code true) (List.take (Int.toNat (laws_dice_below_r0R (laws_roll_r0R code 3505) ((((List.length (spec_l35List_r1R code true)) : Nat) : Int) + 1))) (spec_l35List_r1R code true))).1) [])) : Nat) : Int)) /\ (0 <= (tensAR (spec_l35List_r0R code true) (List.drop (Int.toNat (laws_dice_below_r0R (laws_roll_r0R code 3505) ((((List.length (spec_l35List_r1R code true)) : Nat) : Int) + 1))) (spec_l35List_r1R code true))).1))) /\ (K (((((((((((monR (spec_l35List_r0R code true)) && ((tensOR (spec_l35List_r0R code true) s.2.1).2 == 0)) && ((tensOR (spec_l35List_r0R code true) s.2.2.1).2 == 0)) && ((tensOR (spec_l35List_r0R code true) s.2.1).1 == (List.getD (spec_l35List_r0R code true).1.2.1 (Int.toNat (tensAR (spec_l35List_r0R code true) (spec_l35List_r1R code true)).1) 0))) && ((tensOR (spec_l35List_r0R code true) s.2.2.1).1 == (List.getD (spec_l35List_r0R code true).1.2.2.1 (Int.toNat (tensAR (spec_l35List_r0R code true) (spec_l35List_r1R code true)).1) 0))) && ((tensAR (spec_l35List_r0R code true) (List.take (Int.toNat (laws_dice_below_r0R (laws_roll_r0R code 3505) ((((List.length (spec_l35List_r1R code true)) : Nat) : Int) + 1))) (spec_l35List_r1R code true))).2 == 0)) && ((tensAR (spec_l35List_r0R code true) (List.drop (Int.toNat (laws_dice_below_r0R (laws_roll_r0R code 3505) ((((List.length (spec_l35List_r1R code true)) : Nat) : Int) + 1))) (spec_l35List_r1R code true))).2 == 0)) && ((tensAR (spec_l35List_r0R code true) (List.take (Int.toNat (laws_dice_below_r0R (laws_roll_r0R code 3505) ((((List.length (spec_l35List_r1R code true)) : Nat) : Int) + 1))) (spec_l35List_r1R code true))).1 == (tensAR (spec_l35List_r0R code true) (List.take (Int.toNat (laws_dice_below_r0R (laws_roll_r0R code 3505) ((((List.length (spec_l35List_r1R code true)) : Nat) : Int) + 1))) (spec_l35List_r1R code true))).1)) && ((tensAR (spec_l35List_r0R code true) (List.drop (Int.toNat (laws_dice_below_r0R (laws_roll_r0R code 3505) ((((List.length (spec_l35List_r1R code true)) : Nat) : Int) + 1))) (spec_l35List_r1R code true))).1 == (tensAR (spec_l35List_r0R code true) (List.drop (Int.toNat (laws_dice_below_r0R (laws_roll_r0R code 3505) ((((List.length (spec_l35List_r1R code true)) : Nat) : Int) + 1))) (spec_l35List_r1R code true))).1)) && ((List.getD (List.getD (spec_l35List_r0R code true).2.2.2 (Int.toNat (tensAR (spec_l35List_r0R code true) (List.take (Int.toNat (laws_dice_below_r0R (laws_roll_r0R code 3505) ((((List.length (spec_l35List_r1R code true)) : Nat) : Int) + 1))) (spec_l35List_r1R code true))).1) []) (Int.toNat (tensAR (spec_l35List_r0R code true) (List.drop (Int.toNat (laws_dice_below_r0R (laws_roll_r0R code 3505) ((((List.length (spec_l35List_r1R code true)) : Nat) : Int) + 1))) (spec_l35List_r1R code true))).1) 0) == (tensAR (spec_l35List_r0R code true) (spec_l35List_r1R code true)).1)), ())))))))))))))))))))))) (((), ((), (0, ()))), ([], ([], ())))))))
theorem w_laws_FnTensors (x : denL c_laws_FnTensors.args) (K : Bool × Unit -> Prop) : evF tab ph_laws_FnTensors (cutL [(20, 9), (21, 9), (22, 9), (23, 9), (14, 508), (15, 508)]) Try.f3 (bodyOf Try.f3) an_laws_FnTensors c_laws_FnTensors x K = W_laws_FnTensors x.1 K := by kernel_rfl
theorem k_laws_FnTensors : okC Try.f3.ntmps (cutL [(20, 9), (21, 9), (22, 9), (23, 9), (14, 508), (15, 508)]) (bodyOf Try.f3) = true := by kernel_rfl
theorem m_laws_FnTensors (code : List Int) (hok : allP (okL c_laws_FnTensors.args (code, ()))) (hpre : allP (c_laws_FnTensors.pre (code, ()))) : W_laws_FnTensors code (fun r => r = c_laws_FnTensors.res (code, ())) := by
 simp only [c_laws_FnTensors, okL, T.oks, T.ok, ap, allP, true_and, and_true, implies_true] at hok hpre
 try dsimp only [T.den] at hok
 try dsimp only [T.den] at hpre
 unfold W_laws_FnTensors
 have hl := list_p (code := code) hok true
 have hr := roll_p (code := code) (seed := 3505) ⟨hok, trivial⟩ (by rw [inKu]; omega)
 generalize laws_roll_r0R code 3505 = d at hr
 generalize spec_l35List_r0R code true = m at hl
 generalize spec_l35List_r1R code true = l at hl
 have hk := below_p (n := (l.length : Int) + 1) hr (by rw [inK64]; (try dsimp only); omega)
 have hk2 := hk.2.2 (by omega)
 have hk1 := hk.2.1
 generalize laws_dice_below_r0R d ((l.length : Int) + 1) = k at hk1 hk2
 refine cnd_d (fun _ => rfl) (fun _ => cnd_of (fun h => by simp at h) (fun _ => cnd_of (fun _ => rfl) (fun h => ?_)))
 have hz : (tensAR m l).2 = 0 := by simpa using h
 have hm : monR m = true := by
  unfold tensAR at hz
  split at hz
  ·assumption
  ·simp at hz
 have hw : withinR l m.1.2.1.length = true := by
  unfold tensAR at hz
  rw [if_pos hm] at hz
  split at hz
  ·assumption
  ·simp at hz
 have P := mon_iff.1 hm
 have S := cat_shape P.cat
 have A := tab_at P.at_
 have O := tab_at P.ot
 have hlt := S.lt
 have hu := P.u
 have hli := S.li
 have iu := S.idn hu.1 hu.2
 have ht := S.idt m.2.1 hu.1 hu.2
 have hwm := within_mem.1 hw
 have E := ends_iff.1 P.ends
 generalize he : m.1.2.2.2.1.getD m.2.1.toNat 0 = e at iu ht
 have T : ∀ r : List Int, (∀ y ∈ r, y ∈ l) -> tensAR m r = (tfR m.2.2.2 e r, 0) := fun r hr => by
  unfold tensAR
  rw [if_pos hm, if_pos (within_mem.2 fun y hy => hwm y (hr y hy)), he]
 have T0 := T l (fun _ h => h)
 have T1 := T (l.take k.toNat) (fun _ h => List.mem_of_mem_take h)
 have T2 := T (l.drop k.toNat) (fun _ h => List.mem_of_mem_drop h)
 have I0 := tf_in A.2.2 l e hwm iu.1 iu.2.1
 have I1 := tf_in A.2.2 (l.take k.toNat) e (fun y h => hwm y (List.mem_of_mem_take h)) iu.1 iu.2.1
 have I2 := tf_in A.2.2 (l.drop k.toNat) e (fun y h => hwm y (List.mem_of_mem_drop h)) iu.1 iu.2.1
 have hsp : atR m.2.2.2 (tfR m.2.2.2 e (l.take k.toNat)) (tfR m.2.2.2 e (l.drop k.toNat)) = tfR m.2.2.2 e l := by
  have hax := assoc_iff.1 P.aa
  rw [he] at hax
  rw [← tf_assoc ⟨iu.1, iu.2.1⟩ A.2.2 (fun x x0 x1 => ⟨(hax x x0 (by omega)).1, fun y y0 y1 z z0 z1 => (hax x x0 (by omega)).2 y y0 (by omega) z z0 (by omega)⟩) (l.drop k.toNat) _ (fun y h => hwm y (List.mem_of_mem_drop h)) I1.1 I1.2, ← tf_app, List.take_append_drop]
 have EF := tf_map (s := m.2.2.1) (n := m.1.2.1.length) (fun f => m.1.2.1.getD f.toNat 0) (fun i j i0 i1 j0 j1 => ⟨A.2.2 i j i0 i1 j0 j1, (E i i0 i1 j j0 j1).1⟩) l e hwm iu.1 iu.2.1
 have ET := tf_map (s := m.2.2.1) (n := m.1.2.1.length) (fun f => m.1.2.2.1.getD f.toNat 0) (fun i j i0 i1 j0 j1 => ⟨A.2.2 i j i0 i1 j0 j1, (E i i0 i1 j j0 j1).2⟩) l e hwm iu.1 iu.2.1
 have wf : withinR (l.map fun f => m.1.2.1.getD f.toNat 0) m.1.1 = true := within_mem.2 fun y hy => by
  obtain ⟨f, hf, rfl⟩ := List.mem_map.1 hy
  have hff := hwm f hf
  exact within_iff.1 S.fr f hff.1 hff.2
 have wt : withinR (l.map fun f => m.1.2.2.1.getD f.toNat 0) m.1.1 = true := within_mem.2 fun y hy => by
  obtain ⟨f, hf, rfl⟩ := List.mem_map.1 hy
  have hff := hwm f hf
  exact within_iff.1 S.to f hff.1 (by omega)
 refine loop_of (fun (s : ((Unit × (Unit × (Int × Unit))) × ((List Int) × ((List Int) × Unit)))) => 0 <= s.1.2.2.1 /\ s.1.2.2.1 <= l.length /\ (s.2.1.length : Int) = s.1.2.2.1 /\ (s.2.2.1.length : Int) = s.1.2.2.1 /\ s.2.1 ++ (l.drop s.1.2.2.1.toNat).map (fun f => m.1.2.1.getD f.toNat 0) = l.map (fun f => m.1.2.1.getD f.toNat 0) /\ s.2.2.1 ++ (l.drop s.1.2.2.1.toNat).map (fun f => m.1.2.2.1.getD f.toNat 0) = l.map (fun f => m.1.2.2.1.getD f.toNat 0)) (fun (s : ((Unit × (Unit × (Int × Unit))) × ((List Int) × ((List Int) × Unit)))) => (l.length - s.1.2.2.1).toNat) ?_ ⟨by simp, by simp, by simp, by simp, by simp, by simp⟩
 rintro ⟨⟨_, _, i, _⟩, a, b, _⟩ next ⟨h0, h1, h2, h3, h4, h5⟩ hn hi1 _ _
 try dsimp only at h0 h1 h2 h3 h4 h5 hn ⊢
 refine cnd_d (fun hc => ?_) (fun hc => ?_)
 ·have hy := hwm _ (getD_mem l 0 h0 hc)
  rw [drop_c l 0 h0 hc] at h4 h5
  refine ⟨h0, hc, hy.1, hy.2, ?_, h0, hc, hy.1, by omega, ?_, by rw [inK64]; (try dsimp only); omega, hn _ ⟨by dsimp only; omega, by dsimp only; omega, ?_, ?_, ?_, ?_⟩ (by first | omega | (dsimp only; omega))⟩
  ·unfold room; rw [nb_eq]; simp only [List.length_cons, List.length_nil]; omega
  ·unfold room; rw [nb_eq]; simp only [List.length_cons, List.length_nil]; omega
  ·simp only [List.length_append, List.length_cons, List.length_nil]; omega
  ·simp only [List.length_append, List.length_cons, List.length_nil]; omega
  ·try dsimp only; rw [← h4]; simp
  ·try dsimp only; rw [← h5]; simp
 ·rw [drop_n l (by omega), List.map_nil, List.append_nil] at h4 h5
  subst h4; subst h5
  have TF : tensOR m (l.map fun f => m.1.2.1.getD f.toNat 0) = (m.1.2.1.getD (tfR m.2.2.2 e l).toNat 0, 0) := by
   unfold tensOR; rw [if_pos hm, if_pos wf, EF, ht.1]
  have TT : tensOR m (l.map fun f => m.1.2.2.1.getD f.toNat 0) = (m.1.2.2.1.getD (tfR m.2.2.2 e l).toNat 0, 0) := by
   unfold tensOR; rw [if_pos hm, if_pos wt, ET, ht.2]
  rw [TF, TT, T0, T1, T2, hm]
  have hrow := A.2.1 _ I1.1 I1.2
  have hA1 := A.1
  have hsp' : (m.2.2.2.getD (tfR m.2.2.2 e (l.take k.toNat)).toNat []).getD (tfR m.2.2.2 e (l.drop k.toNat)).toNat 0 = tfR m.2.2.2 e l := hsp
  try dsimp only
  rw [hsp']
  refine ⟨by rw [inK64]; (try dsimp only); omega, hr.2, by omega, by omega, by omega, by omega, by omega, by omega, by omega, by omega, fun _ => ⟨by omega, I0.1⟩, fun _ => ⟨by omega, I0.1⟩, fun _ => ⟨by omega, I1.1⟩, fun _ => ⟨by omega, I2.1⟩, ?_⟩
  simp
  rfl
theorem ct_laws_FnTensors : CtOk Try.prog 3 c_laws_FnTensors :=
 ct_by (Φ := ph_laws_FnTensors) (good_cons ct_laws_dice_below (good_cons ct_impl_IsMonoidal (good_cons ct_impl_TensorArrows (good_cons ct_impl_TensorObjects (good_cons ct_laws_big (good_cons ct_laws_roll (good_cons ct_spec_DrawTensorArrows (good_cons ct_spec_TensorArrows good_nil)))))))) tab_ok (by kernel_rfl) (fn := Try.f3) (c := bodyOf Try.f3) (by kernel_rfl) (by kernel_rfl) (by kernel_rfl) c_laws_FnTensors rfl an_laws_FnTensors (cutL [(20, 9), (21, 9), (22, 9), (23, 9), (14, 508), (15, 508)]) (by kernel_rfl) (by kernel_rfl) k_laws_FnTensors (by decide) (fun x K => W_laws_FnTensors x.1 K) w_laws_FnTensors (fun x h1 h2 => m_laws_FnTensors x.1 h1 h2)
end
end Go.Bm
