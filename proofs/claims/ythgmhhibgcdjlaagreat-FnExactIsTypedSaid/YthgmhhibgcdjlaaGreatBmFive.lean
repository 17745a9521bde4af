/- The typed machine that the walks of this claim go by: its data, its operations and the proof that each is sound. No condition. -/
import Derived.Test.YthgmhhibgcdjlaaGreatBmFour
import Derived.OpenShut
import Derived.ChangeSlices
import Derived.SizedLaws
import Derived.Below
import Derived.ProofKit
import Derived.ShutString
import Derived.ChangeOld
import Derived.ScopeJumps
set_option linter.unusedVariables false
set_option linter.unusedSimpArgs false
set_option linter.unusedSectionVars false
/- The typed machine: a contract out of a walk. -/
namespace Go.Bm
open Go.RowKit
theorem flat_res {Im Im' : Nat → Prop} {w : World} : (rs : List (Bool × O)) → flatL rs = true → (x : denR rs) → (S : Nat → Prop) → (us : List Value) → ResR Im w rs x S us → ResR Im' w rs x S us
  | [], _, x, S, us, r => by simpa only [ResR] using r
  | q :: rs, h, x, S, us, r => by
    simp only [flatL, nob_eq, Bool.and_eq_true] at h
    simp only [ResR] at r ⊢
    obtain ⟨u, us', vs, S1, S2, e1, e2, e3, e4, e5, e6, e7, e8⟩ := r
    exact ⟨u, us', vs, S1, S2, e1, e2, e3, e4, e5, e6, flat_rel _ h.1 _ _ _ e7, flat_res rs h.2 _ _ _ e8⟩
section
variable {F : Fr} {p p' p'' : Ow} {env env' : Env} {M M' M'' : Mem} {a a' : Act} {w w' w'' : World} {P : Program} {B : Tab} {Φ : FuncId → Option Ct}
theorem load_as {t : TypeId} {u r : Value} (h : (Instr.loadAt t u).run P w = .ok r w) : (do loadVar t (← asAddr u) : Sem Value).run P w = .ok r w := by
  cases u <;> simp [Instr.loadAt, Instr.sureAddr] at h
  case pointer o =>
    cases o with
    | none => simp at h
    | some ad => simpa [asAddr] using h
def resM (tmps : Array Value) : ResultVar → Sem Value
  | .tmp t => pure (tmps.getD t undef)
  | .cell t ty' => do loadVar ty' (← asAddr (tmps.getD t undef))
theorem results_eq (fn : Func) (tmps : Array Value) : results fn tmps = (do let vs ← fn.results.mapM (resM tmps); pure (if h : vs.size = 1 then vs[0] else .tuple vs) : Sem Value) := by
  unfold results
  congr
theorem resV_ok (hB : TabOk P B) (hp : Hp F p M w) (hs : ∀ t, RelS p.β M (Imm F p M w) w (gt env t) (a.tmps.getD t undef)) (rv : ResultVar) (v : V) (hv : resV B env M rv = some v) :
    ∃ r, (resM a.tmps rv).run P w = .ok r w ∧ RelS p.β M (Imm F p M w) w v r := by
  cases rv with
  | tmp t => simp only [resV, Option.some.injEq] at hv; subst hv; exact ⟨_, by simp [resM], hs t⟩
  | cell t ty' =>
    simp only [resV] at hv
    split at hv
    · rename_i v' he
      cases hv
      obtain ⟨r, h1, h2⟩ := evLoad_ok (P := P) hB hp _ _ (hs t) (by rw [he]; trivial)
      rw [he] at h2
      exact ⟨r, load_as h1, h2⟩
    · cases hv
theorem resG_ok {v : V} {u : Value} {g : Bool} (hp : Hp F p M w) (h : RelS p.β M (Imm F p M w) w v u) (hc : cellV (resG g v) = true) : ∃ vs : List Value, (g = true → u = .agg vs.toArray) ∧ (g = false → vs = [u]) ∧ RelC p.β M (Imm F p M w) w (resG g v) vs := by
  cases v with
  | ag y =>
    cases g with
    | false => simp [resG, cellV] at hc
    | true =>
      simp only [RelS] at h
      obtain ⟨vs, h1, h2⟩ := h
      exact ⟨vs, fun _ => h1, (fun h => nomatch h), by simpa only [resG, cond_true] using h2⟩
  | any => cases g <;> simp [resG, cellV] at hc
  | tup _ => cases g <;> simp [resG, cellV] at hc
  | gd _ _ _ _ => cases g <;> simp [resG, cellV] at hc
  | ifc t x => cases g with
    | true => simp [resG, cellV] at hc
    | false => exact ⟨[u], (fun h => nomatch h), fun _ => rfl, by simpa only [resG, cond_false, RelS] using h⟩
  | p x y => cases g with
    | true => simp [resG, cellV] at hc
    | false => exact ⟨[u], (fun h => nomatch h), fun _ => rfl, by simpa only [resG, cond_false, RelS] using h⟩
  | u => cases g with
    | true => simp [resG, cellV] at hc
    | false => exact ⟨[u], (fun h => nomatch h), fun _ => rfl, by simpa only [resG, cond_false, RelS] using h⟩
  | ref k π => cases g with
    | true => simp [resG, cellV] at hc
    | false => exact ⟨[u], (fun h => nomatch h), fun _ => rfl, by simpa only [resG, cond_false, RelS] using h⟩
  | ad k π => cases g with
    | true => simp [resG, cellV] at hc
    | false => exact ⟨[u], (fun h => nomatch h), fun _ => rfl, by simpa only [resG, cond_false, RelS] using h⟩
  | d t x => cases g with
    | true => simp [resG, cellV] at hc
    | false => exact ⟨[u], (fun h => nomatch h), fun _ => rfl, by simpa only [resG, cond_false, RelS] using h⟩
  | nl => cases g with
    | true => simp [resG, cellV] at hc
    | false => exact ⟨[u], (fun h => nomatch h), fun _ => rfl, by simpa only [resG, cond_false, RelS] using h⟩
  | np => cases g with
    | true => simp [resG, cellV] at hc
    | false => exact ⟨[u], (fun h => nomatch h), fun _ => rfl, by simpa only [resG, cond_false, RelS] using h⟩
  | fn f x => cases g with
    | true => simp [resG, cellV] at hc
    | false => exact ⟨[u], (fun h => nomatch h), fun _ => rfl, by simpa only [resG, cond_false, RelS] using h⟩
  | bx x => cases g with
    | true => simp [resG, cellV] at hc
    | false => exact ⟨[u], (fun h => nomatch h), fun _ => rfl, by simpa only [resG, cond_false, RelS] using h⟩
theorem resO_ok (hp : Hp F p M w) (o : O) (v : V) (vs : List Value) (x : o.strip.den) (e : List Ev) (r : RelC p.β M (Imm F p M w) w v vs) (h : resO M o v = some (x, e, M')) :
    ∃ p', ∃ S : Nat → Prop, Tr F p M w e p' M' w ∧ (∀ b, p'.L b ↔ p.L b ∨ S b) ∧ (∀ b, S b → ¬ p.L b) ∧ Rel (Imm F p' M' w) w o x S vs := by
  have key : (match conv gid o.strip v M with
    | some (q, e, M') => (match wkO q o with | some x => some (x, e, M') | none => none)
    | none => none) = some (x, e, M') → ∃ p', ∃ S : Nat → Prop, Tr F p M w e p' M' w ∧ (∀ b, p'.L b ↔ p.L b ∨ S b) ∧ (∀ b, S b → ¬ p.L b) ∧ Rel (Imm F p' M' w) w o x S vs := fun h => by
    split at h
    · rename_i q e1 M1 hc
      split at h
      · rename_i y hy
        cases h
        obtain ⟨_, p1, S, cv⟩ := conv_ok gid o.strip v M p vs q e M' hp r hc
        obtain ⟨w1, w2⟩ := wkO_some hy
        obtain ⟨S', s1, s2⟩ := wk_rel q.o o w1 q.x x S vs w2 cv.rel
        have hd := Tr.drop cv.tr.hp (fun b => p.L b ∨ S' b) (fun b hb => (cv.L b).2 (hb.imp id (s1 b)))
        refine ⟨⟨p1.β, p1.σ, fun b => p.L b ∨ S' b⟩, S', by have := cv.tr.trans hd; rwa [ap_nil] at this, fun b => Iff.rfl, fun b hb => cv.sp b (s1 b hb), s2 _ (fun b hb => (hd.keep b hb).1) (fun b hb hn => ?_)⟩
        have hl := cv.tr.hp.lim b ((cv.L b).2 (.inr hb))
        exact ⟨hl.1, .inr (.inr hl.2.1), fun h => h.elim (cv.sp b hb) hn, hl.2.2⟩
      · cases h
    · cases h
  cases o with
  | fz t =>
    simp only [resO] at h
    have hf := frzV_ok v M hp
    generalize frzV M v = z at h hf
    obtain ⟨e1, M1⟩ := z
    simp only at h hf
    split at h
    · rename_i y hy
      cases h
      exact ⟨p, fun _ => False, hf, fun b => by simp, fun b hb => hb.elim, by simp only [Rel]; exact as_ok _ t vs x (hf.c _ _ r) hy⟩
    · cases h
  | p a b => exact key h
  | sl a => exact key h
  | pt a => exact key h
  | mp _ _ => exact key h
  | op _ => exact key h
theorem resL_ok (hB : TabOk P B) : (rs : List ResultVar) → (qs : List (Bool × O)) → (p : Ow) → (env : Env) → (M : Mem) → (y : denR qs) → Hp F p M w → (∀ t, RelS p.β M (Imm F p M w) w (gt env t) (a.tmps.getD t undef)) → resL B env M rs qs = some y →
    ∃ us p' M', ∃ S : Nat → Prop, (rs.mapM (resM a.tmps)).run P w = .ok us w ∧ Hp F p' M' w ∧ Keep (Imm F p M w) (Imm F p' M' w) w w ∧ (∀ b, p.L b → p'.L b) ∧ (∀ b, S b → p'.L b) ∧ (∀ b, S b → ¬ p.L b) ∧ ResR (Imm F p' M' w) w qs y S us
  | [], [], p, env, M, y, hp, hs, h => by
    exact ⟨[], p, M, fun _ => False, rfl, hp, Keep.refl _ _, fun b hb => hb, fun b hb => hb.elim, fun b hb => hb.elim, by simp only [ResR]⟩
  | [], _ :: _, p, env, M, y, hp, hs, h => by simp [resL] at h
  | _ :: _, [], p, env, M, y, hp, hs, h => by simp [resL] at h
  | r :: rs, q :: qs, p, env, M, y, hp, hs, h => by
    simp only [resL] at h
    split at h
    · rename_i v hv
      cases hc : cellV (resG q.1 v) with
      | false => rw [hc] at h; cases h
      | true =>
        rw [hc] at h
        simp only [cond_true] at h
        split at h
        · rename_i x e M1 ho
          split at h
          · rename_i z hz
            cases h
            obtain ⟨u, u1, u2⟩ := resV_ok (P := P) (a := a) hB hp hs r v hv
            obtain ⟨vs, g1, g2, g3⟩ := resG_ok hp u2 hc
            obtain ⟨p1, S, t1, t2, t3, t4⟩ := resO_ok hp q.2 (resG q.1 v) vs x e g3 ho
            obtain ⟨us, p2, M2, S2, k1, k2, k3, k4, k5, k6, k7⟩ := resL_ok hB rs qs p1 (evEs env e) M1 z t1.hp (fun t => by rw [gt_evEs]; exact t1.s _ _ (hs t)) hz
            refine ⟨u :: us, p2, M2, fun b => S b ∨ S2 b, ?_, k2, t1.keep.trans k3, fun b hb => k4 b ((t2 b).2 (.inl hb)), fun b hb => hb.elim (fun h => k4 b ((t2 b).2 (.inr h))) (k5 b), fun b hb => hb.elim (t3 b) (fun h hL => k6 b h ((t2 b).2 (.inl hL))), ?_⟩
            · simp only [List.mapM_cons, Sem.run_bind, u1, Result.andThen_ok, k1, Sem.run_pure]
            · simp only [ResR]
              exact ⟨u, us, vs, S, S2, rfl, g1, g2, fun b hb => .inl hb, fun b hb => .inr hb, fun b hb hb' => k6 b hb' ((t2 b).2 (.inr hb)), Rel.keep k3 _ _ _ _ (fun _ _ => rfl) t4, k7⟩
          · cases h
        · cases h
    · cases h
theorem idxE_gt : ∀ (l : List V) (i t : Nat), gt (idxE i l) t = if i ≤ t then (l[t - i]?).getD .any else .any
  | [], i, t => by simp [idxE, gt]
  | x :: r, i, t => by
    simp only [idxE]
    rw [gt_cons]
    by_cases h : i = t
    · subst h; simp
    · rw [if_neg h, idxE_gt r (Nat.succ i) t]
      by_cases h1 : Nat.succ i ≤ t
      · rw [if_pos h1, if_pos (by omega), show t - i = (t - Nat.succ i) + 1 by omega]; simp
      · rw [if_neg h1, if_neg (by omega)]
theorem argR_get {A Im : Nat → Prop} {β : Nat → Value} {M : Mem} (hA : ∀ b, A b → Im b) : (gs : List Bool) → (ts : List T) → (x : denL ts) → (us : List Value) → ArgR A w gs ts x us → (qs : List TypeId) → (m : Nat) → gs = ap (qs.map (fun q => (B.τ q).agg)) (repL false m) → us.length = gs.length ∧ (argV B qs ts x).length = gs.length ∧ allP (okL ts x) ∧
    ∀ (i : Nat) (v : V) (u : Value), (argV B qs ts x)[i]? = some v → us[i]? = some u → RelS β M Im w v u
  | [], [], x, us, h, qs, _, _ => by simp only [ArgR] at h; subst h; exact ⟨rfl, by cases qs <;> rfl, trivial, fun i v u hv => by cases qs <;> simp [argV] at hv⟩
  | [], _ :: _, x, us, h, _, _, _ => by simp [ArgR] at h
  | _ :: _, [], x, us, h, _, _, _ => by simp [ArgR] at h
  | g :: gs, t :: ts, x, us, h, [], m, e => by
    simp only [ArgR] at h
    obtain ⟨u, us', vs, rfl, h1, h2, h3, h4⟩ := h
    cases m with
    | zero => simp [ap, repL] at e
    | succ m =>
      simp only [List.map_nil, ap, repL, List.cons.injEq] at e
      obtain ⟨i1, i2, i3, i4⟩ := argR_get (β := β) (M := M) hA gs ts x.2 us' h4 [] m (by simpa only [List.map_nil, ap] using e.2)
      refine ⟨by simp [i1], by simp [argV, i2], by simp only [okL, allP_ap]; exact ⟨oks_of_ok _ _ (RelF.ok _ _ _ h3), i3⟩, fun i v u' hv hu => ?_⟩
      cases i with
      | zero =>
        simp only [argV, List.getElem?_cons_zero, Option.some.injEq] at hv hu
        subst hv; subst hu
        have r : RelC β M Im w (expl t x.1) vs := expl_rel t x.1 vs (RelF.keep (fun b hb => ⟨hA b hb, rfl⟩) _ _ _ h3)
        have := h2 e.1
        subst this
        exact relS_of_relC r
      | succ i => exact i4 i v u' (by simpa [argV] using hv) (by simpa using hu)
  | g :: gs, t :: ts, x, us, h, q :: qs, m, e => by
    simp only [ArgR] at h
    obtain ⟨u, us', vs, rfl, h1, h2, h3, h4⟩ := h
    simp only [List.map_cons, ap, List.cons.injEq] at e
    obtain ⟨i1, i2, i3, i4⟩ := argR_get (β := β) (M := M) hA gs ts x.2 us' h4 qs m e.2
    refine ⟨by simp [i1], by simp [argV, i2], by simp only [okL, allP_ap]; exact ⟨oks_of_ok _ _ (RelF.ok _ _ _ h3), i3⟩, fun i v u' hv hu => ?_⟩
    cases i with
    | zero =>
      simp only [argV, List.getElem?_cons_zero, Option.some.injEq] at hv hu
      subst hv; subst hu
      have r : RelC β M Im w (expl t x.1) vs := expl_rel t x.1 vs (RelF.keep (fun b hb => ⟨hA b hb, rfl⟩) _ _ _ h3)
      rw [← e.1]
      cases g with
      | true => simp only [aggV, cond_true, RelS]; exact ⟨vs, h1 rfl, r⟩
      | false =>
        have := h2 rfl
        subst this
        simp only [aggV, cond_false]
        exact relS_of_relC r
    | succ i => exact i4 i v u' (by simpa [argV] using hv) (by simpa using hu)
theorem ct_wp (hB : TabOk P B) {f : FuncId} {fn : Func} {c : Code} (hf : P.funcs[f]? = some fn) (hb : fn.body = some c) (hn : (fn.name == "runtime.NumGoroutine") = false) (ct : Ct) (hmu : ct.mu = none)
    (hga : ct.ga = agL B fn) (hfl : orb ct.sh (flatL ct.rt) = true) (hlen : ct.ga.length ≤ fn.ntmps)
    (h : ∀ x, allP (okL ct.args x) → allP (ct.pre x) → ∀ (F : Fr) (p : Ow) (a : Act) (w : World), F.nt = fn.ntmps → F.fv = (fun _ => none) → St F p (idxE 0 (argV B (toL fn.params) ct.args x)) [] a w → c.wp P (lift F (endK B (toL fn.results) ct.rt (fun r => r = ct.res x))) a w) : CtOk P f ct := by
  refine ⟨callable_of hf hb hn, ?_⟩
  simp only [hmu, PlOk]
  intro Ab w us x hA hrel hpre
  let F : Fr := ⟨w, w, Ab, fun _ => False, fun _ => False, fn.ntmps, fun _ => none⟩
  let p0 : Ow := ⟨fun _ => undef, fun _ _ => False, fun _ => False⟩
  have himm : ∀ b, Ab b → Imm F p0 [] w b := fun b hb => ⟨hA b hb, .inl hb, fun h => h, fun k hk => by simp [Live, go] at hk⟩
  obtain ⟨l1, l2, l3, l4⟩ := argR_get (B := B) (β := p0.β) (M := []) himm ct.ga ct.args x us hrel (toL fn.params) fn.nfree hga
  have hst : St F p0 (idxE 0 (argV B (toL fn.params) ct.args x)) [] { tmps := us.toArray ++ Array.replicate (fn.ntmps - us.toArray.size) undef, defers := [] } w := by
    refine ⟨rfl, by simp [F]; omega, fun t v ht => by simp [F] at ht, fun b hb => hb.elim, fun b hb => hb, fun t => ?_, ⟨fun k o hk => by simp [go] at hk, fun k k' b _ hk => by simp [Live, go] at hk, fun k b hk => by simp [Live, go] at hk, fun b hb => hb.elim, rfl, rfl, rfl, Nat.le_refl _, fun b _ _ => rfl⟩⟩
    rw [idxE_gt]
    simp only [Nat.zero_le, if_true, Nat.sub_zero]
    cases hx : (argV B (toL fn.params) ct.args x)[t]? with
    | none => simp only [Option.getD_none, RelS]
    | some v =>
      have ht := (List.getElem?_eq_some_iff.1 hx).1
      have hu : us[t]? = some us[t] := List.getElem?_eq_getElem (by omega)
      simp only [Option.getD_some]
      have : (us.toArray ++ Array.replicate (fn.ntmps - us.toArray.size) undef).getD t undef = us[t] := by
        rw [Array.getD_eq_getD_getElem?, Array.getElem?_append_left (by
          have := (List.getElem?_eq_some_iff.1 hu).1
          simpa using this)]
        simp [hu]
      rw [this]
      exact l4 t v _ hx hu
  refine calls_of_wp hf hb (Code.wp_mono (fun e a' w' he => ?_) (h x l3 hpre F p0 _ w rfl rfl hst))
  have key : ∀ p env M, St F p env M a' w' → endL (resL B env M (toL fn.results) ct.rt) (fun r => r = ct.res x) → (e = .normal ∨ e = .ret) → bodyPost P fn (fun e w' => ∃ rs S, e = .returned (oneT rs) ∧ Ext w w' ∧ (∀ b, S b → w.heap.size ≤ b ∧ b < w'.heap.size) ∧
      ResR (fun b => b < w'.heap.size ∧ (ct.sh = true ∧ Ab b ∨ w.heap.size ≤ b) ∧ ¬ S b) w' ct.rt (ct.res x) S rs) e a' w' := by
    intro p env M hs hr hee
    unfold endL at hr
    split at hr
    · rename_i r hres
      subst hr
      obtain ⟨rs, p', M', S, k1, k2, k3, k4, k5, k6, k7⟩ := resL_ok (P := P) (a := a') hB (toL fn.results) ct.rt p env M _ hs.hp hs.slots hres
      rw [toL_eq] at k1
      have hrun : (results fn a'.tmps).run P w' = .ok (oneT rs) w' := by
        rw [results_eq, Array.mapM_eq_mapM_toList]
        simp only [Sem.run_bind, Sem.run_map, k1, Result.andThen_ok, Sem.run_pure]
        match rs with
        | [] => rfl
        | [u] => rfl
        | u :: u' :: r => simp [oneT]
      have hpost : ∃ rs' S, Ending.returned (oneT rs) = .returned (oneT rs') ∧ Ext w w' ∧ (∀ b, S b → w.heap.size ≤ b ∧ b < w'.heap.size) ∧ ResR (fun b => b < w'.heap.size ∧ (ct.sh = true ∧ Ab b ∨ w.heap.size ≤ b) ∧ ¬ S b) w' ct.rt (ct.res x) S rs' := by
        refine ⟨rs, S, rfl, ⟨k2.os, k2.tape, k2.output, k2.size, fun b hb => k2.old b hb (fun h => h)⟩, fun b hb => ⟨(k2.lim b (k5 b hb)).2.1, (k2.lim b (k5 b hb)).1⟩, ?_⟩
        rw [orb_eq, Bool.or_eq_true] at hfl
        rcases hfl with hsh | hfl
        · refine ResR.keep (fun b hb => ⟨hb.1, ?_, fun hS => hb.2.2.1 (k5 b hS)⟩) _ _ _ _ k7
          rcases hb.2.1 with h1 | h1 | h1
          · exact .inl ⟨hsh, h1⟩
          · exact h1.elim
          · exact .inr h1
        · exact flat_res _ hfl _ _ _ k7
      rcases hee with rfl | rfl
      · exact ⟨hs.defers, _, hrun, hpost⟩
      · exact ⟨hs.defers, _, hrun, hpost⟩
    · exact hr.elim
  cases e with
  | normal => obtain ⟨p, env, M, h1, h2⟩ := he; exact key p env M h1 h2 (.inl rfl)
  | ret => obtain ⟨p, env, M, h1, h2⟩ := he; exact key p env M h1 h2 (.inr rfl)
  | exit id => obtain ⟨p, env, M, h1, h2⟩ := he; exact h2.elim
  | goto l => obtain ⟨p, env, M, h1, h2⟩ := he; exact h2.elim
  | panic ch => exact he.elim
  | outgrown => exact he.elim
theorem ct_of (hΦ : Good P Φ) (hB : TabOk P B) (hmix : P.follows .mixedOrders = true) {f : FuncId} {fn : Func} {c : Code} (hf : P.funcs[f]? = some fn) (hb : fn.body = some c) (hn : (fn.name == "runtime.NumGoroutine") = false) (ct : Ct) (hmu : ct.mu = none) (A : Ann) (cut : Nat → Nat)
    (hga : ct.ga = agL B fn) (hfl : orb ct.sh (flatL ct.rt) = true) (hck : okC fn.ntmps cut c = true) (hlen : ct.ga.length ≤ fn.ntmps)
    (h : ∀ x, allP (okL ct.args x) → allP (ct.pre x) → evF B Φ cut fn c A ct x (fun r => r = ct.res x)) : CtOk P f ct :=
  ct_wp hB hf hb hn ct hmu hga hfl hlen fun x h1 h2 F p a w e1 e2 hst => ev_ok hΦ hB hmix cut c F A _ _ _ (by rw [e1]; exact hck) (by rw [e2]; exact free_none c) (h x h1 h2) p a w hst
end
end Go.Bm
/- The typed machine: what comes in, as data. -/
namespace Go.Bm
open Go.RowKit
def typedF (P : Program) (r : TypeId → T → Bool) : List Field → Nat → T → Bool
  | [], _, .u => true
  | [f], off, d => allT [Nat.beq f.offset off, Nat.beq (P.cellsOf f.type) d.size, r f.type d]
  | f :: g :: l, off, .p a b => nob (allT [Nat.beq f.offset off, Nat.beq (P.cellsOf f.type) a.size, r f.type a]) (typedF P r (g :: l) (off + a.size) b)
  | _, _, _ => false
def typed (P : Program) : Nat → TypeId → T → Bool
  | 0, _, _ => false
  | n + 1, t, d => match P.underlying t, d with
    | some (.int k), .int k' => kbeq k k'
    | some .bool, .bool => true
    | some .string, .str => true
    | some (.slice e), .sl d => allT [typed P n e d, Nat.beq (P.cellsOf e) d.size, neg (Nat.beq (P.bytesOf e) 0), neg (isZ d.size)]
    | some (.struct fs), d => nob (Nat.beq (P.cellsOf t) d.size) (typedF P (typed P n) fs.toList 0 d)
    | _, _ => false
section
variable {H : Type} {enc : TypeId × Value → H} {P : Program} {w : World} {base : Nat} {spare : Nat → Bool} {held : Bool}
theorem open_F {Im : Nat → Prop} {r : TypeId → T → Bool} {cs : List Value} : (l : List Field) → (off : Nat) → (d : T) → typedF P r l off d = true → (cs.drop off).length = d.size →
    (∀ f ∈ l, ∀ d', r f.type d' = true → ∃ y, RelF Im w d' y ((cs.drop f.offset).take (P.cellsOf f.type))) → ∃ y, RelF Im w d y (cs.drop off)
  | [], off, .u, _, hl, _ => ⟨(), by simp only [RelF]; exact List.eq_nil_of_length_eq_zero hl⟩
  | [f], off, d, h, hl, hf => by
    have h' : allT [Nat.beq f.offset off, Nat.beq (P.cellsOf f.type) d.size, r f.type d] = true := by cases d <;> simpa only [typedF] using h
    simp only [allT_cons, allT_nil, Bool.and_true, Bool.and_eq_true] at h'
    obtain ⟨y, hy⟩ := hf f (by simp) d h'.2.2
    have e1 := Nat.eq_of_beq_eq_true h'.1
    have e2 := Nat.eq_of_beq_eq_true h'.2.1
    rw [e1, e2, List.take_of_length_le (by omega)] at hy
    exact ⟨y, hy⟩
  | f :: g :: l, off, .p a b, h, hl, hf => by
    simp only [typedF, nob_eq, Bool.and_eq_true, allT_cons, allT_nil, Bool.and_true] at h
    obtain ⟨⟨h1, h2, h3⟩, h4⟩ := h
    have e1 := Nat.eq_of_beq_eq_true h1
    have e2 := Nat.eq_of_beq_eq_true h2
    obtain ⟨y, hy⟩ := hf f (by simp) a h3
    simp only [T.size, addN_eq] at hl
    obtain ⟨z, hz⟩ := open_F (g :: l) (off + a.size) b h4 (by rw [List.length_drop] at hl ⊢; omega) (fun f' hf' => hf f' (by simp [List.mem_cons] at hf' ⊢; exact .inr hf'))
    rw [e1, e2] at hy
    refine ⟨(y, z), ?_⟩
    simp only [RelF]
    refine ⟨_, _, ?_, hy, hz⟩
    rw [← List.drop_drop, List.take_append_drop]
  | [], _, .int _, h, _, _ => by simp [typedF] at h
  | [], _, .bool, h, _, _ => by simp [typedF] at h
  | [], _, .str, h, _, _ => by simp [typedF] at h
  | [], _, .p _ _, h, _, _ => by simp [typedF] at h
  | [], _, .sl _, h, _, _ => by simp [typedF] at h
  | [], _, .pt _, h, _, _ => by simp [typedF] at h
  | [], _, .fn _ _, h, _, _ => by simp [typedF] at h
  | [], _, .any, h, _, _ => by simp [typedF] at h
  | _ :: _ :: _, _, .int _, h, _, _ => by simp [typedF] at h
  | _ :: _ :: _, _, .bool, h, _, _ => by simp [typedF] at h
  | _ :: _ :: _, _, .str, h, _, _ => by simp [typedF] at h
  | _ :: _ :: _, _, .u, h, _, _ => by simp [typedF] at h
  | _ :: _ :: _, _, .sl _, h, _, _ => by simp [typedF] at h
  | _ :: _ :: _, _, .pt _, h, _, _ => by simp [typedF] at h
  | _ :: _ :: _, _, .fn _ _, h, _, _ => by simp [typedF] at h
  | _ :: _ :: _, _, .any, h, _, _ => by simp [typedF] at h
theorem weights_all {e : TypeId} : ∀ (l : List (DataW H)) (q : Nat → Bool), (DataW.weightsAll P e l).all q = true → ∀ d ∈ l, (d.weights P e).all q = true
  | [], q, _, d, hd => by cases hd
  | x :: l, q, h, d, hd => by
    simp only [DataW.weightsAll, List.all_append, Bool.and_eq_true] at h
    rcases List.mem_cons.1 hd with rfl | hd
    · exact h.1
    · exact weights_all l q h.2 d hd
theorem weights_each : ∀ (ts : List TypeId) (l : List (DataW H)) (q : Nat → Bool), (DataW.weightsEach P ts l).all q = true → ∀ (i : Nat) t d, ts[i]? = some t → l[i]? = some d → (d.weights P t).all q = true
  | [], _, q, _, i, t, d, ht, _ => by simp at ht
  | _ :: _, [], q, _, i, t, d, _, hd => by simp at hd
  | t0 :: ts, x :: l, q, h, i, t, d, ht, hd => by
    simp only [DataW.weightsEach, List.all_append, Bool.and_eq_true] at h
    cases i with
    | zero => simp at ht hd; subst ht; subst hd; exact h.1
    | succ i => exact weights_each ts l q h.2 i t d (by simpa using ht) (by simpa using hd)
theorem open_T : ∀ (n : Nat) (t : TypeId) (d : T), typed P n t d = true → ∀ (fuel : Nat) (cs : List Value) (x : DataW H × List MemPlace), DataW.trod enc P w base spare held fuel t cs = some x → (x.1.weights P t).all (· ≤ reachBytes) = true →
    ∃ y : d.den, RelF (fun b => b < w.heap.size) w d y cs := by
  intro n
  induction n with
  | zero => intro t d h; simp [typed] at h
  | succ n ih =>
    intro t d h fuel cs x hx hw
    unfold typed at h
    split at h
    · rename_i k k' hu
      have := kbeq_eq h
      subst this
      obtain ⟨m, rfl, rfl, hwf⟩ := DataW.trod_int hu hx
      exact ⟨m, by simp only [RelF, true_and]; simpa [Lit.wf, inK] using hwf⟩
    · rename_i hu
      obtain ⟨b, rfl, rfl⟩ := DataW.trod_bool hu hx
      exact ⟨b, by simp only [RelF]⟩
    · rename_i hu
      obtain ⟨s, rfl, rfl, hs⟩ := DataW.trod_string hu hx
      have hsz : s.size ≤ reachBytes := by simpa [DataW.weights] using hw
      exact ⟨s, by simp only [RelF, true_and]; exact Nat.le_trans hsz (by decide)⟩
    · rename_i e d' hu
      simp only [allT_cons, allT_nil, Bool.and_true, Bool.and_eq_true] at h
      obtain ⟨h1, h2, h3, h4⟩ := h
      have e2 := Nat.eq_of_beq_eq_true h2
      rcases DataW.trod_slice hu hx with ⟨rfl, rfl⟩ | ⟨a, len, cap, elems, rest, m, _, rfl, rfl, hb, hl, hm, hlen, hel, _, _⟩
      · exact ⟨[], by simp only [RelF]; exact ⟨none, 0, rfl, ⟨Nat.zero_le _, Nat.le_refl _⟩, fun _ => ⟨rfl, rfl⟩, fun a ha => by cases ha⟩⟩
      · have hpos : 0 < d'.size := by
          cases hz : d'.size with
          | zero => rw [hz] at h4; simp [isZ] at h4
          | succ _ => omega
        have hbpos : 0 < P.bytesOf e := by
          cases hz : P.bytesOf e with
          | zero => rw [hz] at h3; simp at h3
          | succ _ => omega
        simp only [DataW.weights, hu, List.all_cons, List.all_append, Bool.and_eq_true, decide_eq_true_eq, List.length_map] at hw
        obtain ⟨w1, w2, w3⟩ := hw
        have hnb : len ≤ nb := by
          have h5 : elems.length + rest.length ≤ (elems.length + rest.length) * P.bytesOf e := Nat.le_mul_of_pos_right _ hbpos
          simp only [reachBytes] at w1
          unfold nb; omega
        have hall : ∀ i, i < len → ∃ y : d'.den, ∃ csi, w.cells? base (a.add (i * d'.size)) d'.size = some csi ∧ RelF (fun b => b < w.heap.size) w d' y csi := fun i hi => by
          have hq := hel i hi
          rw [e2] at hq
          have hei : elems[i]? = some elems[i] := List.getElem?_eq_getElem (by omega)
          rw [hei] at hq
          obtain ⟨csi, q1, q2⟩ := Option.bind_eq_some_iff.1 hq
          obtain ⟨y, hy⟩ := ih e d' h1 m csi _ q2 (weights_all _ _ w2 _ (List.mem_map_of_mem (List.getElem_mem (by omega))))
          exact ⟨y, csi, q1, hy⟩
        classical
        let f : Nat → d'.den := fun i => if hi : i < len then (hall i hi).choose else d'.dflt
        refine ⟨(List.range len).map f, ?_⟩
        have hlen' : ((List.range len).map f).length = len := by simp
        simp only [RelF]
        refine ⟨some a, cap, by rw [hlen'], ⟨by rw [hlen']; exact hnb, by rw [hlen']; exact hl⟩, (fun h => nomatch h), fun a' ha' hp => ?_⟩
        cases ha'
        rw [hlen'] at hp
        obtain ⟨y0, cs0, c1, c2⟩ := hall 0 hp
        obtain ⟨g1, g2, g3⟩ := World.cells?_some c1
        have hc0 := g3 0 hpos
        have hl0 : 0 < cs0.length := by omega
        rw [List.getElem?_eq_getElem hl0] at hc0
        have hadd0 : (a.add (0 * d'.size)).add 0 = a := by rw [Nat.zero_mul]; unfold Addr.add; simp
        rw [hadd0] at hc0
        have hspot : a.spot = none := by
          unfold World.cell? at hc0
          split at hc0
          · split at hc0
            · cases hc0
            · rename_i hs; simpa using hs
          · cases hc0
        have hblk : a.block < w.heap.size := by
          unfold World.cell? at hc0
          split at hc0
          · rename_i hb; exact (Array.getElem?_eq_some_iff.1 hb).1
          · cases hc0
        refine ⟨hspot, hblk, fun i y hy => ?_⟩
        rw [List.getElem?_map] at hy
        by_cases hi : i < len
        · rw [List.getElem?_range hi] at hy
          simp only [Option.map_some, Option.some.injEq] at hy
          have hf : f i = (hall i hi).choose := by simp only [f, dif_pos hi]
          rw [hf] at hy
          obtain ⟨csi, q1, q2⟩ := (hall i hi).choose_spec
          rw [hy] at q2
          obtain ⟨r1, r2, r3⟩ := World.cells?_some q1
          refine ⟨csi, fun j u hu' => ?_, q2⟩
          have hj : j < d'.size := by have := (List.getElem?_eq_some_iff.1 hu').1; omega
          have := r3 j hj
          obtain ⟨b, o, sp⟩ := a
          simp only at hspot
          subst hspot
          rw [Addr.add_lit, Addr.add_lit] at this
          rw [this]; exact hu'
        · rw [List.getElem?_eq_none (by simpa using hi)] at hy; cases hy
    · rename_i _ fs hu
      simp only [nob_eq, Bool.and_eq_true] at h
      have e1 := Nat.eq_of_beq_eq_true h.1
      obtain ⟨xs, m, _, rfl, hl, hxl, hf⟩ := DataW.trod_struct hu hx
      simp only [DataW.weights, hu] at hw
      have := open_F (w := w) (Im := fun b => b < w.heap.size) (cs := cs) fs.toList 0 _ h.2 (by simp only [List.drop_zero]; omega) (fun f hfm d' hd' => by
        obtain ⟨i, hi, rfl⟩ := List.getElem_of_mem hfm
        have hfi : fs[i]? = some fs[i] := by simp at hi; simp [hi]
        have hq := hf i _ hfi
        have hi' : i < xs.length := by simp at hi; omega
        rw [List.getElem?_eq_getElem hi'] at hq
        have hww := weights_each _ _ _ hw i fs[i].type xs[i].1 (by simp at hi; simp [hi]) (by simp [hi'])
        simpa using ih _ d' (by simpa using hd') m _ _ hq hww)
      simpa only [List.drop_zero] using this
    · cases h
end
end Go.Bm
/- The typed machine: what a statement asks of a law. -/
namespace Go.Bm
open Go.RowKit
def lawCt (args : List T) (ga : List Bool) : Ct := ⟨args, ga, fun _ => [], [(false, .fz .bool)], fun _ => (true, ()), false, none⟩
theorem law_of_ct {P : Program} {f : FuncId} {args : List T} {ga : List Bool} (h : CtOk P f (lawCt args ga)) {vs : List Value} {w : World} {x : denL args} (hr : ArgR (fun b => b < w.heap.size) w ga args x vs) :
    Calls P f vs.toArray w fun e w' => e = .returned (.bool true) ∧ Below w.heap.size w w' :=
  (h.2 (fun b => b < w.heap.size) w vs x (fun _ hb => hb) hr trivial).mono fun e w' ⟨rs, S, he, hx, _, hres⟩ => by
    simp only [lawCt, ResR] at hres
    obtain ⟨u, us', us, S1, S2, rfl, _, g2, _, _, _, hrel, rfl⟩ := hres
    have := g2 trivial
    subst this
    simp only [Rel, RelF, List.cons.injEq, and_true] at hrel
    subst hrel
    exact ⟨he, hx.os, hx.tape, hx.output, hx.size, fun k hk => hx.old k hk⟩
end Go.Bm
/- The typed machine: what a function's law is made of: loops, tables of contracts, measures of data. -/
namespace Go.Bm
open Go.RowKit
def bodyOf (f : Func) : Code := match f.body with | some c => c | none => .skip
def lkp : List (Nat × Ct) → FuncId → Option Ct
  | [], _ => none
  | (k, c) :: r, f => bif Nat.beq k f then some c else lkp r f
theorem good_nil {P : Program} : Good P (lkp []) := fun f ct h => by cases h
theorem good_cons {P : Program} {k : Nat} {c : Ct} {r : List (Nat × Ct)} (h : CtOk P k c) (hr : Good P (lkp r)) : Good P (lkp ((k, c) :: r)) := by
  intro f ct hf
  simp only [lkp] at hf
  cases hb : Nat.beq k f with
  | true =>
    rw [hb] at hf
    have := Nat.eq_of_beq_eq_true hb
    subst this
    cases hf
    exact h
  | false => rw [hb] at hf; exact hr f ct hf
def cutL : List (Nat × Nat) → Nat → Nat
  | [], _ => 0
  | (k, c) :: r, f => bif Nat.beq k f then c else cutL r f
theorem loop_of {S : Type} {body : S → (S → Prop) → Prop} (R : S → Prop) (μ : S → Nat)
    (h : ∀ s next, R s → (∀ s', R s' → μ s' < μ s → next s') → body s next) {s : S} (hs : R s) : loopW body s := by
  have key : ∀ n s, R s → μ s < n → iterW body n s := by
    intro n
    induction n with
    | zero => intro s _ h; omega
    | succ n ih => intro s hs hn; exact h s _ hs fun s' hs' hl => ih s' hs' (by omega)
  exact ⟨μ s + 1, key _ s hs (Nat.lt_succ_self _)⟩
theorem loop_ix {n i0 : Int} {body : (Int × Unit) × Unit → ((Int × Unit) × Unit → Prop) → Prop} (P : Int → Prop) (hn : i0 ≤ n) (h0 : P i0)
    (hs : ∀ i next, i0 ≤ i → i < n → P i → (P (i + 1) → next ((i + 1, ()), ())) → body ((i, ()), ()) next) (he : ∀ next, P n → body ((n, ()), ()) next) : loopW body ((i0, ()), ()) := by
  refine loop_of (fun s => i0 ≤ s.1.1 ∧ s.1.1 ≤ n ∧ P s.1.1) (fun s => (n - s.1.1).toNat) ?_ ⟨Int.le_refl _, hn, h0⟩
  rintro ⟨⟨i, _⟩, _⟩ next ⟨h1, h2, h3⟩ hnx
  dsimp only at h1 h2 h3 hnx
  by_cases e : i = n
  · subst e; exact he next h3
  · exact hs i next h1 (by omega) h3 fun h4 => hnx _ ⟨by dsimp only; omega, by dsimp only; omega, h4⟩ (by dsimp only; omega)
theorem drop_c {α : Type} (l : List α) (d : α) {i : Int} (h0 : 0 ≤ i) (h1 : i < l.length) : l.drop i.toNat = l.getD i.toNat d :: l.drop (i + 1).toNat := by
  have h : i.toNat < l.length := by omega
  rw [List.drop_eq_getElem_cons h, show (i + 1).toNat = i.toNat + 1 from by omega, List.getD_eq_getElem?_getD, List.getElem?_eq_getElem h]
  rfl
theorem drop_n {α : Type} (l : List α) {i : Int} (h1 : (l.length : Int) ≤ i) : l.drop i.toNat = [] := List.drop_eq_nil_of_le (by omega)
theorem take_c {α : Type} (l : List α) (d : α) {i : Int} (h0 : 0 ≤ i) (h1 : i < l.length) : l.take (i + 1).toNat = l.take i.toNat ++ [l.getD i.toNat d] := by
  have h : i.toNat < l.length := by omega
  rw [show (i + 1).toNat = i.toNat + 1 from by omega, List.take_succ_eq_append_getElem h, List.getD_eq_getElem?_getD, List.getElem?_eq_getElem h]
  rfl
theorem take_n {α : Type} (l : List α) {i : Int} (h1 : (l.length : Int) ≤ i) : l.take i.toNat = l := List.take_of_length_le (by omega)
theorem take_set {α : Type} (l : List α) {i : Int} (h0 : 0 ≤ i) (h1 : i < l.length) (x : α) : (l.set i.toNat x).take (i + 1).toNat = l.take i.toNat ++ [x] := by
  have h : i.toNat < l.length := by omega
  rw [show (i + 1).toNat = i.toNat + 1 from by omega, List.take_succ_eq_append_getElem (by simpa using h)]
  rw [List.take_set_of_le (by omega)]; simp
theorem getD_mem {α : Type} (l : List α) (d : α) {i : Int} (h0 : 0 ≤ i) (h1 : i < l.length) : l.getD i.toNat d ∈ l := by
  have h : i.toNat < l.length := by omega
  rw [List.getD_eq_getElem?_getD, List.getElem?_eq_getElem h]
  exact List.getElem_mem h
theorem inK64 {n : Int} : inK .i64 n ↔ -9223372036854775808 ≤ n ∧ n ≤ 9223372036854775807 := by
  simp [inK, IntKind.min, IntKind.max, IntKind.signed, IntKind.bits]
theorem nb_eq : nb = 140737488355328 := rfl
theorem cnd_of {b : Bool} {x y : Prop} (h1 : b = true → x) (h2 : b = false → y) : cnd b x y := ⟨h1, h2⟩
theorem cnd_d {p : Prop} [Decidable p] {x y : Prop} (h1 : p → x) (h2 : ¬ p → y) : cnd (decide p) x y := ⟨fun h => h1 (of_decide_eq_true h), fun h => h2 (of_decide_eq_false h)⟩
theorem join_of {S : Type} {k : S → Prop} {f : (S → Prop) → Prop} (R : S → Prop) (hk : ∀ s, R s → k s) (hf : ∀ k', (∀ s, R s → k' s) → f k') : joinW k f := hf k hk
theorem ct_by {P : Program} {B : Tab} {Φ : FuncId → Option Ct} (hΦ : Good P Φ) (hB : TabOk P B) (hmix : P.follows .mixedOrders = true) {f : FuncId} {fn : Func} {c : Code} (hf : P.funcs[f]? = some fn) (hb : fn.body = some c) (hn : (fn.name == "runtime.NumGoroutine") = false) (ct : Ct) (hmu : ct.mu = none) (A : Ann) (cut : Nat → Nat)
    (hga : ct.ga = agL B fn) (hfl : orb ct.sh (flatL ct.rt) = true) (hck : okC fn.ntmps cut c = true) (hlen : ct.ga.length ≤ fn.ntmps)
    (W : denL ct.args → (denR ct.rt → Prop) → Prop) (hw : ∀ x K, evF B Φ cut fn c A ct x K = W x K) (hm : ∀ x, allP (okL ct.args x) → allP (ct.pre x) → W x (fun r => r = ct.res x)) : CtOk P f ct :=
  ct_of hΦ hB hmix hf hb hn ct hmu A cut hga hfl hck hlen fun x h1 h2 => (hw x _).mpr (hm x h1 h2)
theorem ct_rec {P : Program} {f : FuncId} {args : List T} {ga : List Bool} {rt : List (Bool × O)} {pre : denL args → List Prop} {q : Nat → denL args → List Prop} {res : denL args → denR rt} {sh : Bool} (hc : Callable P f)
    (h0 : ∀ x, ¬ allP (q 0 x)) (hp : ∀ x, allP (pre x) → ∃ n, allP (q n x)) (hs : ∀ n, CtOk P f ⟨args, ga, q n, rt, res, sh, none⟩ → CtOk P f ⟨args, ga, q (n + 1), rt, res, sh, none⟩) : CtOk P f ⟨args, ga, pre, rt, res, sh, none⟩ := by
  have key : ∀ n, CtOk P f ⟨args, ga, q n, rt, res, sh, none⟩ := by
    intro n
    induction n with
    | zero => exact ⟨hc, fun A w us x _ _ h => absurd h (h0 x)⟩
    | succ n ih => exact hs n ih
  refine ⟨hc, fun A w us x hA hr h => ?_⟩
  obtain ⟨n, hn⟩ := hp x h
  exact (key n).2 A w us x hA hr hn
def wR : (t : T) → t.den → Nat
  | .int _, _ => 0
  | .bool, _ => 0
  | .str, s => s.size
  | .u, _ => 0
  | .p a b, x => wR a x.1 + wR b x.2
  | .sl e, l => l.length + (l.map (wR e)).sum
  | .pt t, x => wR t x
  | .fn _ t, x => wR t x
  | .ifc _ t, x => wR t x
  | .mp _ _, _ => 0
  | .op _, _ => 0
  | .any, _ => 0
theorem wR_sl {e : T} (l : List e.den) : wR (.sl e) l = l.length + (l.map (wR e)).sum := rfl
theorem wR_p {a b : T} (x : a.den × b.den) : wR (.p a b) x = wR a x.1 + wR b x.2 := rfl
theorem wR_int {k : IntKind} (x : Int) : wR (.int k) x = 0 := rfl
theorem wR_bool (x : Bool) : wR .bool x = 0 := rfl
theorem wR_mem {e : T} {l : List e.den} {x : e.den} (h : x ∈ l) : wR e x ≤ (l.map (wR e)).sum := by
  induction l with
  | nil => cases h
  | cons y l ih =>
    simp only [List.map_cons, List.sum_cons]
    cases h with
    | head => omega
    | tail _ h => have := ih h; omega
theorem sum_wint {k : IntKind} (l : List Int) : (l.map (wR (.int k))).sum = 0 := by
  induction l with
  | nil => rfl
  | cons x l ih => rw [List.map_cons, List.sum_cons, ih]; rfl
theorem wR_ints {k : IntKind} (l : List Int) : wR (.sl (.int k)) l = l.length := by rw [wR, sum_wint]; rfl
def szR (n : Nat) (left : Int) : Int := if left < n then -1 else left - n
theorem szR_neg {n : Nat} {l : Int} : szR n l < 0 ↔ l < n := by unfold szR; split <;> omega
theorem szR_lt {x r : Nat} {l : Int} (h : l < x) : szR (x + r) l = -1 := by unfold szR; rw [if_pos (by omega)]
theorem szR_ge {x r : Nat} {l : Int} (h : ¬ l < x) : szR (x + r) l = szR r (szR x l) := by unfold szR; rw [if_neg h]; split <;> split <;> omega
theorem szR_val {x : Nat} {l : Int} (h : ¬ l < x) : szR x l = l - x := by unfold szR; rw [if_neg h]
theorem szR_zero {l : Int} (h : 0 ≤ l) : szR 0 l = l := by unfold szR; split <;> omega
theorem eqR_p {a b : T} (x y : a.den × b.den) : eqR (.p a b) x y = (eqR a x.1 y.1 && eqR b x.2 y.2) := by
  rw [Bool.eq_iff_iff]
  simp only [eqR_iff, Bool.and_eq_true]
  exact Prod.ext_iff
theorem eqR_int {k : IntKind} (x y : Int) : eqR (.int k) x y = (x == y) := by
  rw [Bool.eq_iff_iff]; simp only [eqR_iff, beq_iff_eq]
theorem eqR_bool (x y : Bool) : eqR .bool x y = (x == y) := by
  rw [Bool.eq_iff_iff]; simp only [eqR_iff, beq_iff_eq]
end Go.Bm
/- The typed machine: an argument of a law, as it comes in. -/
namespace Go.Bm
open Go.RowKit Go.WideShapes
def aggB (P : Program) (t : TypeId) : Bool := match P.underlying t with | some (.struct _) => true | _ => false
theorem open_arg {H : Type} {enc : TypeId × Value → H} {P : Program} {W : World} {base b1 : Nat} {spare : Nat → Bool} {held : Bool} {t : TypeId} {v : Value} {dd : DataW H} {ps : List MemPlace} (n : Nat) (d : T) (g : Bool)
    (hty : typed P n t d = true) (hg : aggB P t = g) (hv : Value.okWide P W .any b1 t v) (hk : DataW.Trod enc P W base spare held t v dd ps) (hw : (dd.weights P t).all (· ≤ reachBytes) = true) :
    ∃ (y : d.den) (vs : List Value), (g = true → v = .agg vs.toArray) ∧ (g = false → vs = [v]) ∧ RelF (fun b => b < W.heap.size) W d y vs := by
  obtain ⟨fuel, hf⟩ := hk
  obtain ⟨y, hy⟩ := open_T n t d hty fuel _ _ hf hw
  refine ⟨y, v.cells.toList, fun h => ?_, fun h => ?_, hy⟩
  · subst hg
    simp only [aggB] at h
    split at h
    · rename_i fs hu
      obtain ⟨cs, rfl, _⟩ := okWide_struct hu hv
      simp [Value.cells]
    · cases h
  · subst hg
    cases n with
    | zero => simp [typed] at hty
    | succ n =>
      unfold typed at hty
      split at hty
      · rename_i k k' hu; obtain ⟨m, rfl⟩ := okWide_int hu hv; rfl
      · rename_i hu; obtain ⟨m, rfl⟩ := okWide_bool hu hv; rfl
      · rename_i hu; obtain ⟨m, rfl⟩ := okWide_string hu hv; rfl
      · rename_i e d' hu; obtain ⟨a, l, c, rfl⟩ := okWide_slice hu hv; rfl
      · rename_i fs hu; simp [aggB, hu] at h
      · cases hty
end Go.Bm
/- The typed machine: a function that writes what it is handed. -/
namespace Go.Bm
open Go.RowKit
section
variable {w : World}
structure Inn (w : World) (j j' : Nat) (N : Mem) (v : V) (vs : List Value) (S : Nat → Prop) (β : Nat → Value) (σ : Nat → Nat → Prop) : Prop where
  le : j ≤ j'
  keys : ∀ k, Live N k → ∃ i, j ≤ i ∧ i < j' ∧ k = cid 9000 i
  objs : ∀ (Im : Nat → Prop) k ob, go N k = some ob → Rel Im w ob.o ob.x (σ k) [β k]
  sub : ∀ k b, Live N k → σ k b → S b
  dis : ∀ k k' b, k ≠ k' → Live N k → Live N k' → σ k b → ¬ σ k' b
  val : ∀ (Im : Nat → Prop) (β' : Nat → Value) (M' : Mem), (∀ k, Live N k → β' k = β k ∧ go M' k = go N k) → RelC β' M' Im w v vs
variable {P : Program} {B : Tab} {Φ : FuncId → Option Ct}
end
end Go.Bm
/- The typed machine: a function that writes what lies in the box that it is handed. -/
namespace Go.Bm
open Go.RowKit
section
variable {F : Fr} {a : Act} {w : World} {P : Program} {B : Tab} {Φ : FuncId → Option Ct}
end
end Go.Bm
/- The typed machine: a function whose code jumps back to labels. -/
namespace Go.Bm
open Go.RowKit
section
variable {F : Fr} {p : Ow} {env : Env} {M : Mem} {a : Act} {w : World} {P : Program} {B : Tab} {Φ : FuncId → Option Ct}
end
end Go.Bm
/- Numbers written into data one after the other, and read back. No condition. -/
namespace Go.Bm
end Go.Bm
/- The data of the types of the program. No condition. -/
namespace Go.Bm
abbrev CategoryT : T := (.p (.int .i64) (.p (.sl (.int .i64)) (.p (.sl (.int .i64)) (.p (.sl (.int .i64)) (.sl (.sl (.int .i64)))))))
abbrev CategoryD : Type := Int × ((List Int) × ((List Int) × ((List Int) × (List (List Int)))))
abbrev CategoryO : O := (.p (.fz (.int .i64)) (.p (.sl (.fz (.int .i64))) (.p (.sl (.fz (.int .i64))) (.p (.sl (.fz (.int .i64))) (.sl (.sl (.fz (.int .i64))))))))
abbrev SetFunctorT : T := (.p CategoryT (.p (.sl (.int .i64)) (.sl (.sl (.int .i64)))))
abbrev SetFunctorD : Type := CategoryD × ((List Int) × (List (List Int)))
abbrev SetFunctorO : O := (.p CategoryO (.p (.sl (.fz (.int .i64))) (.sl (.sl (.fz (.int .i64))))))
abbrev ruleT : T := (.p (.int .i64) (.p (.int .i64) (.sl (.int .i64))))
abbrev ruleD : Type := Int × (Int × (List Int))
abbrev ruleO : O := (.p (.fz (.int .i64)) (.p (.fz (.int .i64)) (.sl (.fz (.int .i64)))))
abbrev endsT : T := (.p (.int .i64) (.int .i64))
abbrev endsD : Type := Int × Int
abbrev dataT : T := (.p (.sl (.int .i64)) (.sl (.sl (.int .i64))))
abbrev dataD : Type := (List Int) × (List (List Int))
abbrev dataO : O := (.p (.sl (.fz (.int .i64))) (.sl (.sl (.fz (.int .i64)))))
abbrev StructureT : T := (.p (.sl SetFunctorT) (.sl dataT))
abbrev StructureD : Type := (List SetFunctorD) × (List dataD)
abbrev StructureO : O := (.p (.sl SetFunctorO) (.sl dataO))
end Go.Bm
/- Small facts about lists, for the walks. No condition. -/
namespace Go.Bm
def inR (n lo hi : Int) : Bool := decide (lo ≤ n) && decide (n ≤ hi)
theorem inR_iff {n lo hi : Int} : inR n lo hi = true ↔ lo ≤ n ∧ n ≤ hi := by simp [inR]
def withinR (l : List Int) (n : Int) : Bool := l.all fun y => inR y 0 (n - 1)
theorem within_iff {l : List Int} {n : Int} : withinR l n = true ↔ ∀ i : Int, 0 ≤ i → i < l.length → 0 ≤ l.getD i.toNat 0 ∧ l.getD i.toNat 0 < n := by
  simp only [withinR, List.all_eq_true, inR, Bool.and_eq_true, decide_eq_true_eq]
  constructor
  · intro h i h0 h1
    have := h _ (getD_mem l 0 h0 h1)
    omega
  · intro h x hx
    obtain ⟨k, hk, rfl⟩ := List.getElem_of_mem hx
    have := h k (by omega) (by omega)
    rw [Int.toNat_natCast, List.getD_eq_getElem?_getD, List.getElem?_eq_getElem hk] at this
    simp only [Option.getD_some] at this
    omega
def allB : Nat → (Int → Bool) → Bool
  | 0, _ => true
  | n + 1, p => allB n p && p n
theorem allB_iff {p : Int → Bool} : ∀ {n : Nat}, allB n p = true ↔ ∀ i : Int, 0 ≤ i → i < n → p i = true
  | 0 => by simp only [allB, true_iff]; intro i h0 h1; omega
  | n + 1 => by
    simp only [allB, Bool.and_eq_true, allB_iff (n := n)]
    constructor
    · rintro ⟨h1, h2⟩ i h0 hi
      by_cases e : i = n
      · rw [e]; exact h2
      · exact h1 i h0 (by omega)
    · intro h
      exact ⟨fun i h0 h1 => h i h0 (by omega), h n (by omega) (by omega)⟩
def scanR {α : Type} (p : Int → Option α) : Nat → Int → Option α
  | 0, _ => none
  | k + 1, i => match p i with | some r => some r | none => scanR p k (i + 1)
theorem scan_s {α : Type} {p : Int → Option α} {n i : Int} {r : α} (h : i < n) (hp : p i = some r) : scanR p (n - i).toNat i = some r := by
  rw [show (n - i).toNat = (n - (i + 1)).toNat + 1 from by omega, scanR, hp]
theorem scan_c {α : Type} {p : Int → Option α} {n i : Int} (h : i < n) (hp : p i = none) : scanR p (n - i).toNat i = scanR p (n - (i + 1)).toNat (i + 1) := by
  rw [show (n - i).toNat = (n - (i + 1)).toNat + 1 from by omega, scanR, hp]
theorem scan_n {α : Type} {p : Int → Option α} {n : Int} : scanR p (n - n).toNat n = none := by
  rw [show (n - n).toNat = 0 from by omega, scanR]
theorem scan_0 {α : Type} {p : Int → Option α} {n : Nat} : scanR p n 0 = scanR p ((n : Int) - 0).toNat 0 := by rw [show ((n : Int) - 0).toNat = n from by omega]
def orR {α : Type} : Option α → α → α
  | some x, _ => x
  | none, y => y
def tabN {α : Type} : Nat → (Int → α) → List α
  | 0, _ => []
  | n + 1, f => tabN n f ++ [f n]
theorem tabN_len {α : Type} {f : Int → α} : ∀ n : Nat, (tabN n f).length = n
  | 0 => rfl
  | n + 1 => by simp [tabN, tabN_len n]
theorem tabN_get {α : Type} {f : Int → α} {d : α} {i : Int} : ∀ {n : Nat}, 0 ≤ i → i < n → (tabN n f).getD i.toNat d = f i
  | 0, h0, h1 => by omega
  | n + 1, h0, h1 => by
    unfold tabN
    by_cases e : i = n
    · subst e
      rw [List.getD_eq_getElem?_getD, List.getElem?_append_right (by rw [tabN_len]; omega), tabN_len]
      simp
    · rw [List.getD_eq_getElem?_getD, List.getElem?_append_left (by rw [tabN_len]; omega), ← List.getD_eq_getElem?_getD]
      exact tabN_get h0 (by omega)
theorem tabN_congr {α : Type} {f g : Int → α} : ∀ {n : Nat}, (∀ i : Int, 0 ≤ i → i < n → f i = g i) → tabN n f = tabN n g
  | 0, _ => rfl
  | n + 1, h => by
    unfold tabN
    rw [h n (by omega) (by omega), tabN_congr fun i h0 h1 => h i h0 (by omega)]
theorem tab_rep {α : Type} (x : α) : ∀ n : Nat, List.replicate n x = tabN n fun _ => x
  | 0 => rfl
  | n + 1 => by rw [List.replicate_succ', tabN, tab_rep x n]
theorem tab_set {α : Type} {f : Int → α} {x : α} {k : Int} : ∀ {n : Nat}, 0 ≤ k → k < n → (tabN n f).set k.toNat x = tabN n fun y => if y = k then x else f y
  | 0, h0, h1 => by omega
  | n + 1, h0, h1 => by
    unfold tabN
    by_cases e : k = n
    · subst e
      rw [List.set_append, if_neg (by rw [tabN_len]; omega), tabN_len]
      simp only [Int.toNat_natCast, Nat.sub_self, List.set_cons_zero, if_true]
      rw [tabN_congr (g := fun y => if y = (n : Int) then x else f y) fun i i0 i1 => by rw [if_neg (by omega)]]
    · rw [List.set_append, if_pos (by rw [tabN_len]; omega), tab_set h0 (by omega)]; dsimp only; rw [if_neg (Ne.symm e)]
theorem all_take {α : Type} {p : α → Bool} (l : List α) (d : α) {i : Int} (h0 : 0 ≤ i) (h1 : i < l.length) : (l.take (i + 1).toNat).all p = ((l.take i.toNat).all p && p (l.getD i.toNat d)) := by
  rw [take_c l d h0 h1, List.all_append]; simp
theorem room_of {n m b : Nat} (h : (n + m) * b ≤ 140737488355328) : room n m b := by unfold room; rw [nb_eq]; exact h
theorem allB_s {p : Int → Bool} {i : Int} (h0 : 0 ≤ i) : allB (i + 1).toNat p = (allB i.toNat p && p i) := by
  rw [show (i + 1).toNat = i.toNat + 1 from by omega, allB, show ((i.toNat : Nat) : Int) = i from by omega]
theorem loop_ixa {α : Type} (F : Int → α) {n i0 : Int} {a0 : α} {body : (Unit × (Int × Unit)) × (α × Unit) → ((Unit × (Int × Unit)) × (α × Unit) → Prop) → Prop} (hn : i0 ≤ n) (h0 : a0 = F i0)
    (hs : ∀ i next, i0 ≤ i → i < n → next (((), (i + 1, ())), (F (i + 1), ())) → body (((), (i, ())), (F i, ())) next) (he : ∀ next, body (((), (n, ())), (F n, ())) next) : loopW body (((), (i0, ())), (a0, ())) := by
  refine loop_of (fun s => s.2.1 = F s.1.2.1 ∧ i0 ≤ s.1.2.1 ∧ s.1.2.1 ≤ n) (fun s => (n - s.1.2.1).toNat) ?_ ⟨h0, Int.le_refl _, hn⟩
  rintro ⟨⟨_, i, _⟩, y, _⟩ next ⟨hy, h1, h2⟩ hnx
  dsimp only at hy h1 h2 hnx
  subst hy
  by_cases e : i = n
  · subst e; exact he next
  · exact hs i next h1 (by omega) (hnx _ ⟨rfl, by dsimp only; omega, by dsimp only; omega⟩ (by dsimp only; omega))
theorem loop_all {α : Type} (l : List α) (d : α) (p : α → Bool) {body : (Int × Unit) × Unit → ((Int × Unit) × Unit → Prop) → Prop}
    (hs : ∀ (i : Int) next, 0 ≤ i → i < l.length → (p (l.getD i.toNat d) = false → l.all p = false) → (p (l.getD i.toNat d) = true → next ((i + 1, ()), ())) → body ((i, ()), ()) next)
    (he : ∀ next, l.all p = true → body (((l.length : Int), ()), ()) next) : loopW body ((0, ()), ()) := by
  refine loop_ix (n := l.length) (fun i => (l.take i.toNat).all p = true) (by omega) (by simp) ?_ ?_
  · intro i next i0 i1 hP hn
    have ht := all_take (p := p) l d i0 i1
    rw [hP, Bool.true_and] at ht
    rw [ht] at hn
    exact hs i next i0 i1 (fun h => by rw [List.all_eq_false]; exact ⟨_, getD_mem l d i0 i1, by rw [h]; simp⟩) hn
  · intro next hP
    rw [take_n _ (Int.le_refl _)] at hP
    exact he next hP
theorem loop_allB (n : Nat) (p : Int → Bool) {body : (Int × Unit) × Unit → ((Int × Unit) × Unit → Prop) → Prop}
    (hs : ∀ (i : Int) next, 0 ≤ i → i < n → (p i = false → allB n p = false) → (p i = true → next ((i + 1, ()), ())) → body ((i, ()), ()) next)
    (he : ∀ next, allB n p = true → body (((n : Int), ()), ()) next) : loopW body ((0, ()), ()) := by
  refine loop_ix (n := n) (fun i => allB i.toNat p = true) (by omega) rfl ?_ ?_
  · intro i next i0 i1 hP hn
    rw [allB_s i0, hP, Bool.true_and] at hn
    refine hs i next i0 i1 (fun h => ?_) hn
    cases hb : allB n p with
    | false => rfl
    | true => rw [allB_iff.1 hb i i0 i1] at h; cases h
  · intro next hP
    exact he next hP
theorem map_getD {α β : Type} {f : α → β} {l : List α} {d : α} {d' : β} {i : Nat} (h : i < l.length) : (l.map f).getD i d' = f (l.getD i d) := by
  simp [List.getD_eq_getElem?_getD, h]
theorem tab_self {α : Type} (d : α) : ∀ l : List α, tabN l.length (fun i => l.getD i.toNat d) = l := by
  intro l
  refine List.ext_getElem (tabN_len _) fun k h1 h2 => ?_
  rw [tabN_len] at h1
  have := @tabN_get α (fun i => l.getD i.toNat d) d (k : Int) l.length (by omega) (by omega)
  rw [Int.toNat_natCast, List.getD_eq_getElem?_getD, List.getElem?_eq_getElem (by rw [tabN_len]; exact h1), List.getD_eq_getElem?_getD, List.getElem?_eq_getElem h1] at this
  exact this
theorem map_tab {α β : Type} (h : α → β) (d : α) (l : List α) : tabN l.length (fun i => h (l.getD i.toNat d)) = l.map h := by
  have h1 : ∀ n : Nat, (tabN n fun i => l.getD i.toNat d).map h = tabN n fun i => h (l.getD i.toNat d) := by
    intro n
    induction n with
    | zero => rfl
    | succ n ih => simp only [tabN, List.map_append, ih, List.map_cons, List.map_nil]
  rw [← h1, tab_self]
theorem fill_s {α : Type} {g h : Int → α} {n : Nat} {i : Int} (h0 : 0 ≤ i) (h1 : i < n) : (tabN n fun y => if y < i then g y else h y).set i.toNat (g i) = tabN n fun y => if y < i + 1 then g y else h y := by
  rw [tab_set h0 h1]
  refine tabN_congr fun y _ _ => ?_
  by_cases e : y = i
  · subst e; rw [if_pos rfl, if_pos (by omega)]
  · rw [if_neg e]
    by_cases e2 : y < i
    · rw [if_pos e2, if_pos (by omega)]
    · rw [if_neg e2, if_neg (by omega)]
theorem fill_0 {α : Type} {g h : Int → α} {n : Nat} : (tabN n fun y => if y < 0 then g y else h y) = tabN n h := tabN_congr fun y h0 _ => by rw [if_neg (by omega)]
theorem fill_n {α : Type} {g h : Int → α} {n : Nat} : (tabN n fun y => if y < (n : Int) then g y else h y) = tabN n g := tabN_congr fun y _ h1 => by rw [if_pos h1]
theorem loop_st {S : Type} {body : S → (S → Prop) → Prop} {s : S} (n : Nat) (h : body s (iterW body n)) : loopW body s := ⟨n + 1, h⟩
theorem iter_st {S : Type} {body : S → (S → Prop) → Prop} {s : S} {n : Nat} (h : body s (iterW body n)) : iterW body (n + 1) s := h
end Go.Bm
