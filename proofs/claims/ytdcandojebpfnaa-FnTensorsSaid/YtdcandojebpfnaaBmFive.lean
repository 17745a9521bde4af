/- The typed machine that the walks of this claim go by: its data, its operations and the proof that each is sound. No condition. -/
import Derived.Test.YtdcandojebpfnaaBmFour
import Derived.OpenShut
import Derived.ChangeSlices
import Derived.SizedLaws
import Derived.Below
import Derived.ProofKit
import Derived.ShutString
import Derived.ChangeOld
import Derived.ScopeJumps
set_option linter.unusedVariables false
set_option linter.unusedSimpArgs false
set_option linter.unusedSectionVars false
/- The typed machine: a contract out of a walk. -/
namespace Go.Bm
open Go.RowKit
theorem flat_res {Im Im' : Nat -> Prop} {w : World} : (rs : List (Bool × O)) -> flatL rs = true -> (x : denR rs) -> (S : Nat -> Prop) -> (us : List Value) -> ResR Im w rs x S us -> ResR Im' w rs x S us
 | [], _, x, S, us, r => by simpa only [ResR] using r
 | q :: rs, h, x, S, us, r => by
  simp only [flatL, nob_eq, Bool.and_eq_true] at h
  simp only [ResR] at r ⊢
  obtain ⟨u, us', vs, S1, S2, e1, e2, e3, e4, e5, e6, e7, e8⟩ := r
  exact ⟨u, us', vs, S1, S2, e1, e2, e3, e4, e5, e6, flat_rel _ h.1 _ _ _ e7, flat_res rs h.2 _ _ _ e8⟩
section
variable {F : Fr} {p p' p'' : Ow} {env env' : Env} {M M' M'' : Mem} {a a' : Act} {w w' w'' : World} {P : Program} {B : Tab} {Φ : FuncId -> Option Ct}
theorem load_as {t : TypeId} {u r : Value} (h : (Instr.loadAt t u).run P w = .ok r w) : (do loadVar t (← asAddr u) : Sem Value).run P w = .ok r w := by
 cases u <;> simp [Instr.loadAt, Instr.sureAddr] at h
 case pointer o =>
  cases o with
  | none => simp at h
  | some ad => simpa [asAddr] using h
def resM (tmps : Array Value) : ResultVar -> Sem Value
 | .tmp t => pure (tmps.getD t undef)
 | .cell t ty' => do loadVar ty' (← asAddr (tmps.getD t undef))
theorem results_eq (fn : Func) (tmps : Array Value) : results fn tmps = (do let vs ← fn.results.mapM (resM tmps); pure (if h : vs.size = 1 then vs[0] else .tuple vs) : Sem Value) := by
 unfold results
 congr
theorem resV_ok (hB : TabOk P B) (hp : Hp F p M w) (hs : ∀ t, RelS p.β M (Imm F p M w) w (gt env t) (a.tmps.getD t undef)) (rv : ResultVar) (v : V) (hv : resV B env M rv = some v) :
  ∃ r, (resM a.tmps rv).run P w = .ok r w /\ RelS p.β M (Imm F p M w) w v r := by
 cases rv with
 | tmp t => simp only [resV, Option.some.injEq] at hv; subst hv; exact ⟨_, by simp [resM], hs t⟩
 | cell t ty' =>
  simp only [resV] at hv
  split at hv
  ·rename_i v' he
   cases hv
   obtain ⟨r, h1, h2⟩ := evLoad_ok (P := P) hB hp _ _ (hs t) (by rw [he]; trivial)
   rw [he] at h2
   exact ⟨r, load_as h1, h2⟩
  ·cases hv
theorem resG_ok {v : V} {u : Value} {g : Bool} (hp : Hp F p M w) (h : RelS p.β M (Imm F p M w) w v u) (hc : cellV (resG g v) = true) : ∃ vs : List Value, (g = true -> u = .agg vs.toArray) /\ (g = false -> vs = [u]) /\ RelC p.β M (Imm F p M w) w (resG g v) vs := by
 cases v with
 | ag y =>
  cases g with
  | false => simp [resG, cellV] at hc
  | true =>
   simp only [RelS] at h
   obtain ⟨vs, h1, h2⟩ := h
   exact ⟨vs, fun _ => h1, (fun h => nomatch h), by simpa only [resG, cond_true] using h2⟩
 | any => cases g <;> simp [resG, cellV] at hc
 | tup _ => cases g <;> simp [resG, cellV] at hc
 | gd _ _ _ _ => cases g <;> simp [resG, cellV] at hc
 | ifc t x => cases g with
  | true => simp [resG, cellV] at hc
  | false => exact ⟨[u], (fun h => nomatch h), fun _ => rfl, by simpa only [resG, cond_false, RelS] using h⟩
 | p x y => cases g with
  | true => simp [resG, cellV] at hc
  | false => exact ⟨[u], (fun h => nomatch h), fun _ => rfl, by simpa only [resG, cond_false, RelS] using h⟩
 | u => cases g with
  | true => simp [resG, cellV] at hc
  | false => exact ⟨[u], (fun h => nomatch h), fun _ => rfl, by simpa only [resG, cond_false, RelS] using h⟩
 | ref k π => cases g with
  | true => simp [resG, cellV] at hc
  | false => exact ⟨[u], (fun h => nomatch h), fun _ => rfl, by simpa only [resG, cond_false, RelS] using h⟩
 | ad k π => cases g with
  | true => simp [resG, cellV] at hc
  | false => exact ⟨[u], (fun h => nomatch h), fun _ => rfl, by simpa only [resG, cond_false, RelS] using h⟩
 | d t x => cases g with
  | true => simp [resG, cellV] at hc
  | false => exact ⟨[u], (fun h => nomatch h), fun _ => rfl, by simpa only [resG, cond_false, RelS] using h⟩
 | nl => cases g with
  | true => simp [resG, cellV] at hc
  | false => exact ⟨[u], (fun h => nomatch h), fun _ => rfl, by simpa only [resG, cond_false, RelS] using h⟩
 | np => cases g with
  | true => simp [resG, cellV] at hc
  | false => exact ⟨[u], (fun h => nomatch h), fun _ => rfl, by simpa only [resG, cond_false, RelS] using h⟩
 | fn f x => cases g with
  | true => simp [resG, cellV] at hc
  | false => exact ⟨[u], (fun h => nomatch h), fun _ => rfl, by simpa only [resG, cond_false, RelS] using h⟩
 | bx x => cases g with
  | true => simp [resG, cellV] at hc
  | false => exact ⟨[u], (fun h => nomatch h), fun _ => rfl, by simpa only [resG, cond_false, RelS] using h⟩
theorem resO_ok (hp : Hp F p M w) (o : O) (v : V) (vs : List Value) (x : o.strip.den) (e : List Ev) (r : RelC p.β M (Imm F p M w) w v vs) (h : resO M o v = some (x, e, M')) :
  ∃ p', ∃ S : Nat -> Prop, Tr F p M w e p' M' w /\ (∀ b, p'.L b ↔ p.L b ∨ S b) /\ (∀ b, S b -> ¬ p.L b) /\ Rel (Imm F p' M' w) w o x S vs := by
 have key : (match conv gid o.strip v M with
  | some (q, e, M') => (match wkO q o with | some x => some (x, e, M') | none => none)
  | none => none) = some (x, e, M') -> ∃ p', ∃ S : Nat -> Prop, Tr F p M w e p' M' w /\ (∀ b, p'.L b ↔ p.L b ∨ S b) /\ (∀ b, S b -> ¬ p.L b) /\ Rel (Imm F p' M' w) w o x S vs := fun h => by
  split at h
  ·rename_i q e1 M1 hc
   split at h
   ·rename_i y hy
    cases h
    obtain ⟨_, p1, S, cv⟩ := conv_ok gid o.strip v M p vs q e M' hp r hc
    obtain ⟨w1, w2⟩ := wkO_some hy
    obtain ⟨S', s1, s2⟩ := wk_rel q.o o w1 q.x x S vs w2 cv.rel
    have hd := Tr.drop cv.tr.hp (fun b => p.L b ∨ S' b) (fun b hb => (cv.L b).2 (hb.imp id (s1 b)))
    refine ⟨⟨p1.β, p1.σ, fun b => p.L b ∨ S' b⟩, S', by have := cv.tr.trans hd; rwa [ap_nil] at this, fun b => Iff.rfl, fun b hb => cv.sp b (s1 b hb), s2 _ (fun b hb => (hd.keep b hb).1) (fun b hb hn => ?_)⟩
    have hl := cv.tr.hp.lim b ((cv.L b).2 (.inr hb))
    exact ⟨hl.1, .inr (.inr hl.2.1), fun h => h.elim (cv.sp b hb) hn, hl.2.2⟩
   ·cases h
  ·cases h
 cases o with
 | fz t =>
  simp only [resO] at h
  have hf := frzV_ok v M hp
  generalize frzV M v = z at h hf
  obtain ⟨e1, M1⟩ := z
  simp only at h hf
  split at h
  ·rename_i y hy
   cases h
   exact ⟨p, fun _ => False, hf, fun b => by simp, fun b hb => hb.elim, by simp only [Rel]; exact as_ok _ t vs x (hf.c _ _ r) hy⟩
  ·cases h
 | p a b => exact key h
 | sl a => exact key h
 | pt a => exact key h
 | mp _ _ => exact key h
 | op _ => exact key h
theorem resL_ok (hB : TabOk P B) : (rs : List ResultVar) -> (qs : List (Bool × O)) -> (p : Ow) -> (env : Env) -> (M : Mem) -> (y : denR qs) -> Hp F p M w -> (∀ t, RelS p.β M (Imm F p M w) w (gt env t) (a.tmps.getD t undef)) -> resL B env M rs qs = some y ->
  ∃ us p' M', ∃ S : Nat -> Prop, (rs.mapM (resM a.tmps)).run P w = .ok us w /\ Hp F p' M' w /\ Keep (Imm F p M w) (Imm F p' M' w) w w /\ (∀ b, p.L b -> p'.L b) /\ (∀ b, S b -> p'.L b) /\ (∀ b, S b -> ¬ p.L b) /\ ResR (Imm F p' M' w) w qs y S us
 | [], [], p, env, M, y, hp, hs, h => by
  exact ⟨[], p, M, fun _ => False, rfl, hp, Keep.refl _ _, fun b hb => hb, fun b hb => hb.elim, fun b hb => hb.elim, by simp only [ResR]⟩
 | [], _ :: _, p, env, M, y, hp, hs, h => by simp [resL] at h
 | _ :: _, [], p, env, M, y, hp, hs, h => by simp [resL] at h
 | r :: rs, q :: qs, p, env, M, y, hp, hs, h => by
  simp only [resL] at h
  split at h
  ·rename_i v hv
   cases hc : cellV (resG q.1 v) with
   | false => rw [hc] at h; cases h
   | true =>
    rw [hc] at h
    simp only [cond_true] at h
    split at h
    ·rename_i x e M1 ho
     split at h
     ·rename_i z hz
      cases h
      obtain ⟨u, u1, u2⟩ := resV_ok (P := P) (a := a) hB hp hs r v hv
      obtain ⟨vs, g1, g2, g3⟩ := resG_ok hp u2 hc
      obtain ⟨p1, S, t1, t2, t3, t4⟩ := resO_ok hp q.2 (resG q.1 v) vs x e g3 ho
      obtain ⟨us, p2, M2, S2, k1, k2, k3, k4, k5, k6, k7⟩ := resL_ok hB rs qs p1 (evEs env e) M1 z t1.hp (fun t => by rw [gt_evEs]; exact t1.s _ _ (hs t)) hz
      refine ⟨u :: us, p2, M2, fun b => S b ∨ S2 b, ?_, k2, t1.keep.trans k3, fun b hb => k4 b ((t2 b).2 (.inl hb)), fun b hb => hb.elim (fun h => k4 b ((t2 b).2 (.inr h))) (k5 b), fun b hb => hb.elim (t3 b) (fun h hL => k6 b h ((t2 b).2 (.inl hL))), ?_⟩
      ·simp only [List.mapM_cons, Sem.run_bind, u1, Result.andThen_ok, k1, Sem.run_pure]
      ·simp only [ResR]
       exact ⟨u, us, vs, S, S2, rfl, g1, g2, fun b hb => .inl hb, fun b hb => .inr hb, fun b hb hb' => k6 b hb' ((t2 b).2 (.inr hb)), Rel.keep k3 _ _ _ _ (fun _ _ => rfl) t4, k7⟩
     ·cases h
    ·cases h
  ·cases h
theorem idxE_gt : ∀ (l : List V) (i t : Nat), gt (idxE i l) t = if i <= t then (l[t - i]?).getD .any else .any
 | [], i, t => by simp [idxE, gt]
 | x :: r, i, t => by
  simp only [idxE]
  rw [gt_cons]
  by_cases h : i = t
  ·subst h; simp
  ·rw [if_neg h, idxE_gt r (Nat.succ i) t]
   by_cases h1 : Nat.succ i <= t
   ·rw [if_pos h1, if_pos (by omega), show t - i = (t - Nat.succ i) + 1 by omega]; simp
   ·rw [if_neg h1, if_neg (by omega)]
theorem argR_get {A Im : Nat -> Prop} {β : Nat -> Value} {M : Mem} (hA : ∀ b, A b -> Im b) : (gs : List Bool) -> (ts : List T) -> (x : denL ts) -> (us : List Value) -> ArgR A w gs ts x us -> (qs : List TypeId) -> (m : Nat) -> gs = ap (qs.map (fun q => (B.τ q).agg)) (repL false m) -> us.length = gs.length /\ (argV B qs ts x).length = gs.length /\ allP (okL ts x) /\
  ∀ (i : Nat) (v : V) (u : Value), (argV B qs ts x)[i]? = some v -> us[i]? = some u -> RelS β M Im w v u
 | [], [], x, us, h, qs, _, _ => by simp only [ArgR] at h; subst h; exact ⟨rfl, by cases qs <;> rfl, trivial, fun i v u hv => by cases qs <;> simp [argV] at hv⟩
 | [], _ :: _, x, us, h, _, _, _ => by simp [ArgR] at h
 | _ :: _, [], x, us, h, _, _, _ => by simp [ArgR] at h
 | g :: gs, t :: ts, x, us, h, [], m, e => by
  simp only [ArgR] at h
  obtain ⟨u, us', vs, rfl, h1, h2, h3, h4⟩ := h
  cases m with
  | zero => simp [ap, repL] at e
  | succ m =>
   simp only [List.map_nil, ap, repL, List.cons.injEq] at e
   obtain ⟨i1, i2, i3, i4⟩ := argR_get (β := β) (M := M) hA gs ts x.2 us' h4 [] m (by simpa only [List.map_nil, ap] using e.2)
   refine ⟨by simp [i1], by simp [argV, i2], by simp only [okL, allP_ap]; exact ⟨oks_of_ok _ _ (RelF.ok _ _ _ h3), i3⟩, fun i v u' hv hu => ?_⟩
   cases i with
   | zero =>
    simp only [argV, List.getElem?_cons_zero, Option.some.injEq] at hv hu
    subst hv; subst hu
    have r : RelC β M Im w (expl t x.1) vs := expl_rel t x.1 vs (RelF.keep (fun b hb => ⟨hA b hb, rfl⟩) _ _ _ h3)
    have := h2 e.1
    subst this
    exact relS_of_relC r
   | succ i => exact i4 i v u' (by simpa [argV] using hv) (by simpa using hu)
 | g :: gs, t :: ts, x, us, h, q :: qs, m, e => by
  simp only [ArgR] at h
  obtain ⟨u, us', vs, rfl, h1, h2, h3, h4⟩ := h
  simp only [List.map_cons, ap, List.cons.injEq] at e
  obtain ⟨i1, i2, i3, i4⟩ := argR_get (β := β) (M := M) hA gs ts x.2 us' h4 qs m e.2
  refine ⟨by simp [i1], by simp [argV, i2], by simp only [okL, allP_ap]; exact ⟨oks_of_ok _ _ (RelF.ok _ _ _ h3), i3⟩, fun i v u' hv hu => ?_⟩
  cases i with
  | zero =>
   simp only [argV, List.getElem?_cons_zero, Option.some.injEq] at hv hu
   subst hv; subst hu
   have r : RelC β M Im w (expl t x.1) vs := expl_rel t x.1 vs (RelF.keep (fun b hb => ⟨hA b hb, rfl⟩) _ _ _ h3)
   rw [← e.1]
   cases g with
   | true => simp only [aggV, cond_true, RelS]; exact ⟨vs, h1 rfl, r⟩
   | false =>
    have := h2 rfl
    subst this
    simp only [aggV, cond_false]
    exact relS_of_relC r
  | succ i => exact i4 i v u' (by simpa [argV] using hv) (by simpa using hu)
theorem pl_wp (hB : TabOk P B) {f : FuncId} {fn : Func} {c : Code} (hf : P.funcs[f]? = some fn) (hb : fn.body = some c) (hn : (fn.name == "runtime.NumGoroutine") = false) (ct : Ct) (Q : denL ct.args -> denR ct.rt -> Prop)
  (hga : ct.ga = agL B fn) (hfl : orb ct.sh (flatL ct.rt) = true) (hlen : ct.ga.length <= fn.ntmps)
  (h : ∀ x, allP (okL ct.args x) -> allP (ct.pre x) -> ∀ (F : Fr) (p : Ow) (a : Act) (w : World), F.nt = fn.ntmps -> F.fv = (fun _ => none) -> St F p (idxE 0 (argV B (toL fn.params) ct.args x)) [] a w -> c.wp P (lift F (endK B (toL fn.results) ct.rt (Q x))) a w) : ∀ (A : Nat -> Prop) (w : World) (us : List Value) (x : denL ct.args), (∀ b, A b -> b < w.heap.size) -> ArgR A w ct.ga ct.args x us -> allP (ct.pre x) ->
  Calls P f us.toArray w fun e w' => ∃ r rs S, Q x r /\ e = .returned (oneT rs) /\ Ext w w' /\ (∀ b, S b -> w.heap.size <= b /\ b < w'.heap.size) /\
   ResR (fun b => b < w'.heap.size /\ (ct.sh = true /\ A b ∨ w.heap.size <= b) /\ ¬ S b) w' ct.rt r S rs := by
 intro Ab w us x hA hrel hpre
 let F : Fr := ⟨w, w, Ab, fun _ => False, fun _ => False, fn.ntmps, fun _ => none⟩
 let p0 : Ow := ⟨fun _ => undef, fun _ _ => False, fun _ => False⟩
 have himm : ∀ b, Ab b -> Imm F p0 [] w b := fun b hb => ⟨hA b hb, .inl hb, fun h => h, fun k hk => by simp [Live, go] at hk⟩
 obtain ⟨l1, l2, l3, l4⟩ := argR_get (B := B) (β := p0.β) (M := []) himm ct.ga ct.args x us hrel (toL fn.params) fn.nfree hga
 have hst : St F p0 (idxE 0 (argV B (toL fn.params) ct.args x)) [] { tmps := us.toArray ++ Array.replicate (fn.ntmps - us.toArray.size) undef, defers := [] } w := by
  refine ⟨rfl, by simp [F]; omega, fun t v ht => by simp [F] at ht, fun b hb => hb.elim, fun b hb => hb, fun t => ?_, ⟨fun k o hk => by simp [go] at hk, fun k k' b _ hk => by simp [Live, go] at hk, fun k b hk => by simp [Live, go] at hk, fun b hb => hb.elim, rfl, rfl, rfl, Nat.le_refl _, fun b _ _ => rfl⟩⟩
  rw [idxE_gt]
  simp only [Nat.zero_le, if_true, Nat.sub_zero]
  cases hx : (argV B (toL fn.params) ct.args x)[t]? with
  | none => simp only [Option.getD_none, RelS]
  | some v =>
   have ht := (List.getElem?_eq_some_iff.1 hx).1
   have hu : us[t]? = some us[t] := List.getElem?_eq_getElem (by omega)
   simp only [Option.getD_some]
   have : (us.toArray ++ Array.replicate (fn.ntmps - us.toArray.size) undef).getD t undef = us[t] := by
    rw [Array.getD_eq_getD_getElem?, Array.getElem?_append_left (by
     have := (List.getElem?_eq_some_iff.1 hu).1
     simpa using this)]
    simp [hu]
   rw [this]
   exact l4 t v _ hx hu
 refine calls_of_wp hf hb (Code.wp_mono (fun e a' w' he => ?_) (h x l3 hpre F p0 _ w rfl rfl hst))
 have key : ∀ p env M, St F p env M a' w' -> endL (resL B env M (toL fn.results) ct.rt) (Q x) -> (e = .normal ∨ e = .ret) -> bodyPost P fn (fun e w' => ∃ r rs S, Q x r /\ e = .returned (oneT rs) /\ Ext w w' /\ (∀ b, S b -> w.heap.size <= b /\ b < w'.heap.size) /\
   ResR (fun b => b < w'.heap.size /\ (ct.sh = true /\ Ab b ∨ w.heap.size <= b) /\ ¬ S b) w' ct.rt r S rs) e a' w' := by
  intro p env M hs hr hee
  unfold endL at hr
  split at hr
  ·rename_i r hres
   obtain ⟨rs, p', M', S, k1, k2, k3, k4, k5, k6, k7⟩ := resL_ok (P := P) (a := a') hB (toL fn.results) ct.rt p env M _ hs.hp hs.slots hres
   rw [toL_eq] at k1
   have hrun : (results fn a'.tmps).run P w' = .ok (oneT rs) w' := by
    rw [results_eq, Array.mapM_eq_mapM_toList]
    simp only [Sem.run_bind, Sem.run_map, k1, Result.andThen_ok, Sem.run_pure]
    match rs with
    | [] => rfl
    | [u] => rfl
    | u :: u' :: r => simp [oneT]
   have hpost : ∃ r' rs' S, Q x r' /\ Ending.returned (oneT rs) = .returned (oneT rs') /\ Ext w w' /\ (∀ b, S b -> w.heap.size <= b /\ b < w'.heap.size) /\ ResR (fun b => b < w'.heap.size /\ (ct.sh = true /\ Ab b ∨ w.heap.size <= b) /\ ¬ S b) w' ct.rt r' S rs' := by
    refine ⟨r, rs, S, hr, rfl, ⟨k2.os, k2.tape, k2.output, k2.size, fun b hb => k2.old b hb (fun h => h)⟩, fun b hb => ⟨(k2.lim b (k5 b hb)).2.1, (k2.lim b (k5 b hb)).1⟩, ?_⟩
    rw [orb_eq, Bool.or_eq_true] at hfl
    rcases hfl with hsh | hfl
    ·refine ResR.keep (fun b hb => ⟨hb.1, ?_, fun hS => hb.2.2.1 (k5 b hS)⟩) _ _ _ _ k7
     rcases hb.2.1 with h1 | h1 | h1
     ·exact .inl ⟨hsh, h1⟩
     ·exact h1.elim
     ·exact .inr h1
    ·exact flat_res _ hfl _ _ _ k7
   rcases hee with rfl | rfl
   ·exact ⟨hs.defers, _, hrun, hpost⟩
   ·exact ⟨hs.defers, _, hrun, hpost⟩
  ·exact hr.elim
 cases e with
 | normal => obtain ⟨p, env, M, h1, h2⟩ := he; exact key p env M h1 h2 (.inl rfl)
 | ret => obtain ⟨p, env, M, h1, h2⟩ := he; exact key p env M h1 h2 (.inr rfl)
 | exit id => obtain ⟨p, env, M, h1, h2⟩ := he; exact h2.elim
 | goto l => obtain ⟨p, env, M, h1, h2⟩ := he; exact h2.elim
 | panic ch => exact he.elim
 | outgrown => exact he.elim
theorem ct_wp (hB : TabOk P B) {f : FuncId} {fn : Func} {c : Code} (hf : P.funcs[f]? = some fn) (hb : fn.body = some c) (hn : (fn.name == "runtime.NumGoroutine") = false) (ct : Ct) (hmu : ct.mu = none)
  (hga : ct.ga = agL B fn) (hfl : orb ct.sh (flatL ct.rt) = true) (hlen : ct.ga.length <= fn.ntmps)
  (h : ∀ x, allP (okL ct.args x) -> allP (ct.pre x) -> ∀ (F : Fr) (p : Ow) (a : Act) (w : World), F.nt = fn.ntmps -> F.fv = (fun _ => none) -> St F p (idxE 0 (argV B (toL fn.params) ct.args x)) [] a w -> c.wp P (lift F (endK B (toL fn.results) ct.rt (fun r => r = ct.res x))) a w) : CtOk P f ct := by
 refine ⟨callable_of hf hb hn, ?_⟩
 simp only [hmu, PlOk]
 intro Ab w us x hA hrel hpre cs
 obtain ⟨e, w', fr, ⟨r, rs, S, hr, h1⟩, h2⟩ := pl_wp hB hf hb hn ct (fun x r => r = ct.res x) hga hfl hlen h Ab w us x hA hrel hpre cs
 subst hr
 exact ⟨e, w', fr, ⟨rs, S, h1⟩, h2⟩
theorem ct_of (hΦ : Good P Φ) (hB : TabOk P B) (hmix : P.follows .mixedOrders = true) {f : FuncId} {fn : Func} {c : Code} (hf : P.funcs[f]? = some fn) (hb : fn.body = some c) (hn : (fn.name == "runtime.NumGoroutine") = false) (ct : Ct) (hmu : ct.mu = none) (A : Ann) (cut : Nat -> Nat)
  (hga : ct.ga = agL B fn) (hfl : orb ct.sh (flatL ct.rt) = true) (hck : okC fn.ntmps cut c = true) (hlen : ct.ga.length <= fn.ntmps)
  (h : ∀ x, allP (okL ct.args x) -> allP (ct.pre x) -> evF B Φ cut fn c A ct x (fun r => r = ct.res x)) : CtOk P f ct :=
 ct_wp hB hf hb hn ct hmu hga hfl hlen fun x h1 h2 F p a w e1 e2 hst => ev_ok hΦ hB hmix cut c F A _ _ _ (by rw [e1]; exact hck) (by rw [e2]; exact free_none c) (h x h1 h2) p a w hst
end
end Go.Bm
/- The typed machine: what comes in, as data. -/
namespace Go.Bm
open Go.RowKit
def typedF (P : Program) (r : TypeId -> T -> Bool) : List Field -> Nat -> T -> Bool
 | [], _, .u => true
 | [f], off, d => allT [Nat.beq f.offset off, Nat.beq (P.cellsOf f.type) d.size, r f.type d]
 | f :: g :: l, off, .p a b => nob (allT [Nat.beq f.offset off, Nat.beq (P.cellsOf f.type) a.size, r f.type a]) (typedF P r (g :: l) (off + a.size) b)
 | _, _, _ => false
def typed (P : Program) : Nat -> TypeId -> T -> Bool
 | 0, _, _ => false
 | n + 1, t, d => match P.underlying t, d with
  | some (.int k), .int k' => kbeq k k'
  | some .bool, .bool => true
  | some .string, .str => true
  | some (.slice e), .sl d => allT [typed P n e d, Nat.beq (P.cellsOf e) d.size, neg (Nat.beq (P.bytesOf e) 0), neg (isZ d.size)]
  | some (.struct fs), d => nob (Nat.beq (P.cellsOf t) d.size) (typedF P (typed P n) fs.toList 0 d)
  | _, _ => false
section
variable {H : Type} {enc : TypeId × Value -> H} {P : Program} {w : World} {base : Nat} {spare : Nat -> Bool} {held : Bool}
theorem open_F {Im : Nat -> Prop} {r : TypeId -> T -> Bool} {cs : List Value} : (l : List Field) -> (off : Nat) -> (d : T) -> typedF P r l off d = true -> (cs.drop off).length = d.size ->
  (∀ f ∈ l, ∀ d', r f.type d' = true -> ∃ y, RelF Im w d' y ((cs.drop f.offset).take (P.cellsOf f.type))) -> ∃ y, RelF Im w d y (cs.drop off)
 | [], off, .u, _, hl, _ => ⟨(), by simp only [RelF]; exact List.eq_nil_of_length_eq_zero hl⟩
 | [f], off, d, h, hl, hf => by
  have h' : allT [Nat.beq f.offset off, Nat.beq (P.cellsOf f.type) d.size, r f.type d] = true := by cases d <;> simpa only [typedF] using h
  simp only [allT_cons, allT_nil, Bool.and_true, Bool.and_eq_true] at h'
  obtain ⟨y, hy⟩ := hf f (by simp) d h'.2.2
  have e1 := Nat.eq_of_beq_eq_true h'.1
  have e2 := Nat.eq_of_beq_eq_true h'.2.1
  rw [e1, e2, List.take_of_length_le (by omega)] at hy
  exact ⟨y, hy⟩
 | f :: g :: l, off, .p a b, h, hl, hf => by
  simp only [typedF, nob_eq, Bool.and_eq_true, allT_cons, allT_nil, Bool.and_true] at h
  obtain ⟨⟨h1, h2, h3⟩, h4⟩ := h
  have e1 := Nat.eq_of_beq_eq_true h1
  have e2 := Nat.eq_of_beq_eq_true h2
  obtain ⟨y, hy⟩ := hf f (by simp) a h3
  simp only [T.size, addN_eq] at hl
  obtain ⟨z, hz⟩ := open_F (g :: l) (off + a.size) b h4 (by rw [List.length_drop] at hl ⊢; omega) (fun f' hf' => hf f' (by simp [List.mem_cons] at hf' ⊢; exact .inr hf'))
  rw [e1, e2] at hy
  refine ⟨(y, z), ?_⟩
  simp only [RelF]
  refine ⟨_, _, ?_, hy, hz⟩
  rw [← List.drop_drop, List.take_append_drop]
 | [], _, .int _, h, _, _ => by simp [typedF] at h
 | [], _, .bool, h, _, _ => by simp [typedF] at h
 | [], _, .str, h, _, _ => by simp [typedF] at h
 | [], _, .p _ _, h, _, _ => by simp [typedF] at h
 | [], _, .sl _, h, _, _ => by simp [typedF] at h
 | [], _, .pt _, h, _, _ => by simp [typedF] at h
 | [], _, .fn _ _, h, _, _ => by simp [typedF] at h
 | [], _, .any, h, _, _ => by simp [typedF] at h
 | _ :: _ :: _, _, .int _, h, _, _ => by simp [typedF] at h
 | _ :: _ :: _, _, .bool, h, _, _ => by simp [typedF] at h
 | _ :: _ :: _, _, .str, h, _, _ => by simp [typedF] at h
 | _ :: _ :: _, _, .u, h, _, _ => by simp [typedF] at h
 | _ :: _ :: _, _, .sl _, h, _, _ => by simp [typedF] at h
 | _ :: _ :: _, _, .pt _, h, _, _ => by simp [typedF] at h
 | _ :: _ :: _, _, .fn _ _, h, _, _ => by simp [typedF] at h
 | _ :: _ :: _, _, .any, h, _, _ => by simp [typedF] at h
theorem weights_all {e : TypeId} : ∀ (l : List (DataW H)) (q : Nat -> Bool), (DataW.weightsAll P e l).all q = true -> ∀ d ∈ l, (d.weights P e).all q = true
 | [], q, _, d, hd => by cases hd
 | x :: l, q, h, d, hd => by
  simp only [DataW.weightsAll, List.all_append, Bool.and_eq_true] at h
  rcases List.mem_cons.1 hd with rfl | hd
  ·exact h.1
  ·exact weights_all l q h.2 d hd
theorem weights_each : ∀ (ts : List TypeId) (l : List (DataW H)) (q : Nat -> Bool), (DataW.weightsEach P ts l).all q = true -> ∀ (i : Nat) t d, ts[i]? = some t -> l[i]? = some d -> (d.weights P t).all q = true
 | [], _, q, _, i, t, d, ht, _ => by simp at ht
 | _ :: _, [], q, _, i, t, d, _, hd => by simp at hd
 | t0 :: ts, x :: l, q, h, i, t, d, ht, hd => by
  simp only [DataW.weightsEach, List.all_append, Bool.and_eq_true] at h
  cases i with
  | zero => simp at ht hd; subst ht; subst hd; exact h.1
  | succ i => exact weights_each ts l q h.2 i t d (by simpa using ht) (by simpa using hd)
theorem open_T : ∀ (n : Nat) (t : TypeId) (d : T), typed P n t d = true -> ∀ (fuel : Nat) (cs : List Value) (x : DataW H × List MemPlace), DataW.trod enc P w base spare held fuel t cs = some x -> (x.1.weights P t).all (· <= reachBytes) = true ->
  ∃ y : d.den, RelF (fun b => b < w.heap.size) w d y cs := by
 intro n
 induction n with
 | zero => intro t d h; simp [typed] at h
 | succ n ih =>
  intro t d h fuel cs x hx hw
  unfold typed at h
  split at h
  ·rename_i k k' hu
   have := kbeq_eq h
   subst this
   obtain ⟨m, rfl, rfl, hwf⟩ := DataW.trod_int hu hx
   exact ⟨m, by simp only [RelF, true_and]; simpa [Lit.wf, inK] using hwf⟩
  ·rename_i hu
   obtain ⟨b, rfl, rfl⟩ := DataW.trod_bool hu hx
   exact ⟨b, by simp only [RelF]⟩
  ·rename_i hu
   obtain ⟨s, rfl, rfl, hs⟩ := DataW.trod_string hu hx
   have hsz : s.size <= reachBytes := by simpa [DataW.weights] using hw
   exact ⟨s, by simp only [RelF, true_and]; exact Nat.le_trans hsz (by decide)⟩
  ·rename_i e d' hu
   simp only [allT_cons, allT_nil, Bool.and_true, Bool.and_eq_true] at h
   obtain ⟨h1, h2, h3, h4⟩ := h
   have e2 := Nat.eq_of_beq_eq_true h2
   rcases DataW.trod_slice hu hx with ⟨rfl, rfl⟩ | ⟨a, len, cap, elems, rest, m, _, rfl, rfl, hb, hl, hm, hlen, hel, _, _⟩
   ·exact ⟨[], by simp only [RelF]; exact ⟨none, 0, rfl, ⟨Nat.zero_le _, Nat.le_refl _⟩, fun _ => ⟨rfl, rfl⟩, fun a ha => by cases ha⟩⟩
   ·have hpos : 0 < d'.size := by
     cases hz : d'.size with
     | zero => rw [hz] at h4; simp [isZ] at h4
     | succ _ => omega
    have hbpos : 0 < P.bytesOf e := by
     cases hz : P.bytesOf e with
     | zero => rw [hz] at h3; simp at h3
     | succ _ => omega
    simp only [DataW.weights, hu, List.all_cons, List.all_append, Bool.and_eq_true, decide_eq_true_eq, List.length_map] at hw
    obtain ⟨w1, w2, w3⟩ := hw
    have hnb : len <= nb := by
     have h5 : elems.length + rest.length <= (elems.length + rest.length) * P.bytesOf e := Nat.le_mul_of_pos_right _ hbpos
     simp only [reachBytes] at w1
     unfold nb; omega
    have hall : ∀ i, i < len -> ∃ y : d'.den, ∃ csi, w.cells? base (a.add (i * d'.size)) d'.size = some csi /\ RelF (fun b => b < w.heap.size) w d' y csi := fun i hi => by
     have hq := hel i hi
     rw [e2] at hq
     have hei : elems[i]? = some elems[i] := List.getElem?_eq_getElem (by omega)
     rw [hei] at hq
     obtain ⟨csi, q1, q2⟩ := Option.bind_eq_some_iff.1 hq
     obtain ⟨y, hy⟩ := ih e d' h1 m csi _ q2 (weights_all _ _ w2 _ (List.mem_map_of_mem (List.getElem_mem (by omega))))
     exact ⟨y, csi, q1, hy⟩
    classical
    let f : Nat -> d'.den := fun i => if hi : i < len then (hall i hi).choose else d'.dflt
    refine ⟨(List.range len).map f, ?_⟩
    have hlen' : ((List.range len).map f).length = len := by simp
    simp only [RelF]
    refine ⟨some a, cap, by rw [hlen'], ⟨by rw [hlen']; exact hnb, by rw [hlen']; exact hl⟩, (fun h => nomatch h), fun a' ha' hp => ?_⟩
    cases ha'
    rw [hlen'] at hp
    obtain ⟨y0, cs0, c1, c2⟩ := hall 0 hp
    obtain ⟨g1, g2, g3⟩ := World.cells?_some c1
    have hc0 := g3 0 hpos
    have hl0 : 0 < cs0.length := by omega
    rw [List.getElem?_eq_getElem hl0] at hc0
    have hadd0 : (a.add (0 * d'.size)).add 0 = a := by rw [Nat.zero_mul]; unfold Addr.add; simp
    rw [hadd0] at hc0
    have hspot : a.spot = none := by
     unfold World.cell? at hc0
     split at hc0
     ·split at hc0
      ·cases hc0
      ·rename_i hs; simpa using hs
     ·cases hc0
    have hblk : a.block < w.heap.size := by
     unfold World.cell? at hc0
     split at hc0
     ·rename_i hb; exact (Array.getElem?_eq_some_iff.1 hb).1
     ·cases hc0
    refine ⟨hspot, hblk, fun i y hy => ?_⟩
    rw [List.getElem?_map] at hy
    by_cases hi : i < len
    ·rw [List.getElem?_range hi] at hy
     simp only [Option.map_some, Option.some.injEq] at hy
     have hf : f i = (hall i hi).choose := by simp only [f, dif_pos hi]
     rw [hf] at hy
     obtain ⟨csi, q1, q2⟩ := (hall i hi).choose_spec
     rw [hy] at q2
     obtain ⟨r1, r2, r3⟩ := World.cells?_some q1
     refine ⟨csi, fun j u hu' => ?_, q2⟩
     have hj : j < d'.size := by have := (List.getElem?_eq_some_iff.1 hu').1; omega
     have := r3 j hj
     obtain ⟨b, o, sp⟩ := a
     simp only at hspot
     subst hspot
     rw [Addr.add_lit, Addr.add_lit] at this
     rw [this]; exact hu'
    ·rw [List.getElem?_eq_none (by simpa using hi)] at hy; cases hy
  ·rename_i _ fs hu
   simp only [nob_eq, Bool.and_eq_true] at h
   have e1 := Nat.eq_of_beq_eq_true h.1
   obtain ⟨xs, m, _, rfl, hl, hxl, hf⟩ := DataW.trod_struct hu hx
   simp only [DataW.weights, hu] at hw
   have := open_F (w := w) (Im := fun b => b < w.heap.size) (cs := cs) fs.toList 0 _ h.2 (by simp only [List.drop_zero]; omega) (fun f hfm d' hd' => by
    obtain ⟨i, hi, rfl⟩ := List.getElem_of_mem hfm
    have hfi : fs[i]? = some fs[i] := by simp at hi; simp [hi]
    have hq := hf i _ hfi
    have hi' : i < xs.length := by simp at hi; omega
    rw [List.getElem?_eq_getElem hi'] at hq
    have hww := weights_each _ _ _ hw i fs[i].type xs[i].1 (by simp at hi; simp [hi]) (by simp [hi'])
    simpa using ih _ d' (by simpa using hd') m _ _ hq hww)
   simpa only [List.drop_zero] using this
  ·cases h
end
end Go.Bm
/- The typed machine: what a statement asks of a law. -/
namespace Go.Bm
open Go.RowKit
def lawCt (args : List T) (ga : List Bool) : Ct := ⟨args, ga, fun _ => [], [(false, .fz .bool)], fun _ => (true, ()), false, none⟩
theorem law_of_ct {P : Program} {f : FuncId} {args : List T} {ga : List Bool} (h : CtOk P f (lawCt args ga)) {vs : List Value} {w : World} {x : denL args} (hr : ArgR (fun b => b < w.heap.size) w ga args x vs) :
  Calls P f vs.toArray w fun e w' => e = .returned (.bool true) /\ Below w.heap.size w w' :=
 (h.2 (fun b => b < w.heap.size) w vs x (fun _ hb => hb) hr trivial).mono fun e w' ⟨rs, S, he, hx, _, hres⟩ => by
  simp only [lawCt, ResR] at hres
  obtain ⟨u, us', us, S1, S2, rfl, _, g2, _, _, _, hrel, rfl⟩ := hres
  have := g2 trivial
  subst this
  simp only [Rel, RelF, List.cons.injEq, and_true] at hrel
  subst hrel
  exact ⟨he, hx.os, hx.tape, hx.output, hx.size, fun k hk => hx.old k hk⟩
end Go.Bm
/- The typed machine: what a function's law is made of: loops, tables of contracts, measures of data. -/
namespace Go.Bm
open Go.RowKit
def bodyOf (f : Func) : Code := match f.body with | some c => c | none => .skip
def lkp : List (Nat × Ct) -> FuncId -> Option Ct
 | [], _ => none
 | (k, c) :: r, f => bif Nat.beq k f then some c else lkp r f
theorem good_nil {P : Program} : Good P (lkp []) := fun f ct h => by cases h
theorem good_cons {P : Program} {k : Nat} {c : Ct} {r : List (Nat × Ct)} (h : CtOk P k c) (hr : Good P (lkp r)) : Good P (lkp ((k, c) :: r)) := by
 intro f ct hf
 simp only [lkp] at hf
 cases hb : Nat.beq k f with
 | true =>
  rw [hb] at hf
  have := Nat.eq_of_beq_eq_true hb
  subst this
  cases hf
  exact h
 | false => rw [hb] at hf; exact hr f ct hf
def cutL : List (Nat × Nat) -> Nat -> Nat
 | [], _ => 0
 | (k, c) :: r, f => bif Nat.beq k f then c else cutL r f
theorem loop_of {S : Type} {body : S -> (S -> Prop) -> Prop} (R : S -> Prop) (μ : S -> Nat)
  (h : ∀ s next, R s -> (∀ s', R s' -> μ s' < μ s -> next s') -> body s next) {s : S} (hs : R s) : loopW body s := by
 have key : ∀ n s, R s -> μ s < n -> iterW body n s := by
  intro n
  induction n with
  | zero => intro s _ h; omega
  | succ n ih => intro s hs hn; exact h s _ hs fun s' hs' hl => ih s' hs' (by omega)
 exact ⟨μ s + 1, key _ s hs (Nat.lt_succ_self _)⟩
theorem loop_ix {n i0 : Int} {body : (Int × Unit) × Unit -> ((Int × Unit) × Unit -> Prop) -> Prop} (P : Int -> Prop) (hn : i0 <= n) (h0 : P i0)
  (hs : ∀ i next, i0 <= i -> i < n -> P i -> (P (i + 1) -> next ((i + 1, ()), ())) -> body ((i, ()), ()) next) (he : ∀ next, P n -> body ((n, ()), ()) next) : loopW body ((i0, ()), ()) := by
 refine loop_of (fun s => i0 <= s.1.1 /\ s.1.1 <= n /\ P s.1.1) (fun s => (n - s.1.1).toNat) ?_ ⟨Int.le_refl _, hn, h0⟩
 rintro ⟨⟨i, _⟩, _⟩ next ⟨h1, h2, h3⟩ hnx
 dsimp only at h1 h2 h3 hnx
 by_cases e : i = n
 ·subst e; exact he next h3
 ·exact hs i next h1 (by omega) h3 fun h4 => hnx _ ⟨by dsimp only; omega, by dsimp only; omega, h4⟩ (by dsimp only; omega)
theorem loop_ix1 {α : Type} {x : α} {n i0 : Int} {body : (Unit × (Int × Unit)) × (α × Unit) -> ((Unit × (Int × Unit)) × (α × Unit) -> Prop) -> Prop} (P : Int -> Prop) (hn : i0 <= n) (h0 : P i0)
  (hs : ∀ i next, i0 <= i -> i < n -> P i -> (P (i + 1) -> next (((), (i + 1, ())), (x, ()))) -> body (((), (i, ())), (x, ())) next) (he : ∀ next, P n -> body (((), (n, ())), (x, ())) next) : loopW body (((), (i0, ())), (x, ())) := by
 refine loop_of (fun s => s.2.1 = x /\ i0 <= s.1.2.1 /\ s.1.2.1 <= n /\ P s.1.2.1) (fun s => (n - s.1.2.1).toNat) ?_ ⟨rfl, Int.le_refl _, hn, h0⟩
 rintro ⟨⟨_, i, _⟩, y, _⟩ next ⟨hy, h1, h2, h3⟩ hnx
 dsimp only at hy h1 h2 h3 hnx
 subst hy
 by_cases e : i = n
 ·subst e; exact he next h3
 ·exact hs i next h1 (by omega) h3 fun h4 => hnx _ ⟨rfl, by dsimp only; omega, by dsimp only; omega, h4⟩ (by dsimp only; omega)
theorem drop_c {α : Type} (l : List α) (d : α) {i : Int} (h0 : 0 <= i) (h1 : i < l.length) : l.drop i.toNat = l.getD i.toNat d :: l.drop (i + 1).toNat := by
 have h : i.toNat < l.length := by omega
 rw [List.drop_eq_getElem_cons h, show (i + 1).toNat = i.toNat + 1 from by omega, List.getD_eq_getElem?_getD, List.getElem?_eq_getElem h]
 rfl
theorem drop_n {α : Type} (l : List α) {i : Int} (h1 : (l.length : Int) <= i) : l.drop i.toNat = [] := List.drop_eq_nil_of_le (by omega)
theorem take_c {α : Type} (l : List α) (d : α) {i : Int} (h0 : 0 <= i) (h1 : i < l.length) : l.take (i + 1).toNat = l.take i.toNat ++ [l.getD i.toNat d] := by
 have h : i.toNat < l.length := by omega
 rw [show (i + 1).toNat = i.toNat + 1 from by omega, List.take_succ_eq_append_getElem h, List.getD_eq_getElem?_getD, List.getElem?_eq_getElem h]
 rfl
theorem take_n {α : Type} (l : List α) {i : Int} (h1 : (l.length : Int) <= i) : l.take i.toNat = l := List.take_of_length_le (by omega)
theorem getD_mem {α : Type} (l : List α) (d : α) {i : Int} (h0 : 0 <= i) (h1 : i < l.length) : l.getD i.toNat d ∈ l := by
 have h : i.toNat < l.length := by omega
 rw [List.getD_eq_getElem?_getD, List.getElem?_eq_getElem h]
 exact List.getElem_mem h
theorem inK64 {n : Int} : inK .i64 n ↔ -9223372036854775808 <= n /\ n <= 9223372036854775807 := by
 simp [inK, IntKind.min, IntKind.max, IntKind.signed, IntKind.bits]
theorem nb_eq : nb = 140737488355328 := rfl
theorem cnd_of {b : Bool} {x y : Prop} (h1 : b = true -> x) (h2 : b = false -> y) : cnd b x y := ⟨h1, h2⟩
theorem cnd_d {p : Prop} [Decidable p] {x y : Prop} (h1 : p -> x) (h2 : ¬ p -> y) : cnd (decide p) x y := ⟨fun h => h1 (of_decide_eq_true h), fun h => h2 (of_decide_eq_false h)⟩
theorem join_of {S : Type} {k : S -> Prop} {f : (S -> Prop) -> Prop} (R : S -> Prop) (hk : ∀ s, R s -> k s) (hf : ∀ k', (∀ s, R s -> k' s) -> f k') : joinW k f := hf k hk
theorem ct_by {P : Program} {B : Tab} {Φ : FuncId -> Option Ct} (hΦ : Good P Φ) (hB : TabOk P B) (hmix : P.follows .mixedOrders = true) {f : FuncId} {fn : Func} {c : Code} (hf : P.funcs[f]? = some fn) (hb : fn.body = some c) (hn : (fn.name == "runtime.NumGoroutine") = false) (ct : Ct) (hmu : ct.mu = none) (A : Ann) (cut : Nat -> Nat)
  (hga : ct.ga = agL B fn) (hfl : orb ct.sh (flatL ct.rt) = true) (hck : okC fn.ntmps cut c = true) (hlen : ct.ga.length <= fn.ntmps)
  (W : denL ct.args -> (denR ct.rt -> Prop) -> Prop) (hw : ∀ x K, evF B Φ cut fn c A ct x K = W x K) (hm : ∀ x, allP (okL ct.args x) -> allP (ct.pre x) -> W x (fun r => r = ct.res x)) : CtOk P f ct :=
 ct_of hΦ hB hmix hf hb hn ct hmu A cut hga hfl hck hlen fun x h1 h2 => (hw x _).mpr (hm x h1 h2)
end Go.Bm
/- The typed machine: an argument of a law, as it comes in. -/
namespace Go.Bm
open Go.RowKit Go.WideShapes
def aggB (P : Program) (t : TypeId) : Bool := match P.underlying t with | some (.struct _) => true | _ => false
theorem open_arg {H : Type} {enc : TypeId × Value -> H} {P : Program} {W : World} {base b1 : Nat} {spare : Nat -> Bool} {held : Bool} {t : TypeId} {v : Value} {dd : DataW H} {ps : List MemPlace} (n : Nat) (d : T) (g : Bool)
  (hty : typed P n t d = true) (hg : aggB P t = g) (hv : Value.okWide P W .any b1 t v) (hk : DataW.Trod enc P W base spare held t v dd ps) (hw : (dd.weights P t).all (· <= reachBytes) = true) :
  ∃ (y : d.den) (vs : List Value), (g = true -> v = .agg vs.toArray) /\ (g = false -> vs = [v]) /\ RelF (fun b => b < W.heap.size) W d y vs := by
 obtain ⟨fuel, hf⟩ := hk
 obtain ⟨y, hy⟩ := open_T n t d hty fuel _ _ hf hw
 refine ⟨y, v.cells.toList, fun h => ?_, fun h => ?_, hy⟩
 ·subst hg
  simp only [aggB] at h
  split at h
  ·rename_i fs hu
   obtain ⟨cs, rfl, _⟩ := okWide_struct hu hv
   simp [Value.cells]
  ·cases h
 ·subst hg
  cases n with
  | zero => simp [typed] at hty
  | succ n =>
   unfold typed at hty
   split at hty
   ·rename_i k k' hu; obtain ⟨m, rfl⟩ := okWide_int hu hv; rfl
   ·rename_i hu; obtain ⟨m, rfl⟩ := okWide_bool hu hv; rfl
   ·rename_i hu; obtain ⟨m, rfl⟩ := okWide_string hu hv; rfl
   ·rename_i e d' hu; obtain ⟨a, l, c, rfl⟩ := okWide_slice hu hv; rfl
   ·rename_i fs hu; simp [aggB, hu] at h
   ·cases hty
end Go.Bm
/- The typed machine: a function that writes what it is handed. -/
namespace Go.Bm
open Go.RowKit
section
variable {w : World}
structure Inn (w : World) (j j' : Nat) (N : Mem) (v : V) (vs : List Value) (S : Nat -> Prop) (β : Nat -> Value) (σ : Nat -> Nat -> Prop) : Prop where
 le : j <= j'
 keys : ∀ k, Live N k -> ∃ i, j <= i /\ i < j' /\ k = cid 9000 i
 objs : ∀ (Im : Nat -> Prop) k ob, go N k = some ob -> Rel Im w ob.o ob.x (σ k) [β k]
 sub : ∀ k b, Live N k -> σ k b -> S b
 dis : ∀ k k' b, k ≠ k' -> Live N k -> Live N k' -> σ k b -> ¬ σ k' b
 val : ∀ (Im : Nat -> Prop) (β' : Nat -> Value) (M' : Mem), (∀ k, Live N k -> β' k = β k /\ go M' k = go N k) -> RelC β' M' Im w v vs
variable {P : Program} {B : Tab} {Φ : FuncId -> Option Ct}
end
end Go.Bm
/- The typed machine: a function that writes what lies in the box that it is handed. -/
namespace Go.Bm
open Go.RowKit
def wtCt (W : Wt) : Ct := ⟨[], [], fun _ => [], [], fun _ => (), false, some (.w W)⟩
def tailL {α : Type} : List α -> List α
 | [] => []
 | _ :: r => r
def rootV : O -> Nat -> V
 | .pt _, k => .ad k [.de]
 | _, k => .ref k []
def resLM (B : Tab) (env : Env) (M : Mem) : List ResultVar -> (rs : List (Bool × O)) -> Option (denR rs × List Ev × Mem)
 | [], [] => some ((), [], M)
 | r :: rs, q :: qs => (match resV B env M r with
  | some v => bif cellV (resG q.1 v) then (match resO M q.2 (resG q.1 v) with
   | some (x, e, M') => (match resLM B (evEs env e) M' rs qs with
    | some (y, e', M'') => some ((x, y), ap e e', M'')
    | none => none)
   | none => none) else none
  | none => none)
 | _, _ => none
def endWv (B : Tab) (rs : List ResultVar) (W : Wt) (K : W.o.strip.den -> denR W.rt -> Prop) (env : Env) (M : Mem) : Prop :=
 match resLM B env M rs W.rt with
 | some (r, e, M') => (match rootK ((gt env 0).evs e) with
  | some k => (match go M' k with
   | some ob => (match wkO ob W.o with
    | some z => K z r
    | none => False)
   | none => False)
  | none => False)
 | none => False
def endW (B : Tab) (rs : List ResultVar) (W : Wt) (K : W.o.strip.den -> denR W.rt -> Prop) : Ex -> Env -> Mem -> Prop
 | .ex _, _, _ => False
 | .go _, _, _ => False
 | .nm, env, M => endWv B rs W K env M
 | .rt, env, M => endWv B rs W K env M
def evFw (B : Tab) (Φ : FuncId -> Option Ct) (cut : Nat -> Nat) (fn : Func) (c : Code) (A : Ann) (W : Wt) (x : W.o.strip.den) (y : denL W.as) (K : W.o.strip.den -> denR W.rt -> Prop) : Prop :=
 ev B Φ cut c A (endW B (toL fn.results) W K) (idxE 0 (rootV W.o (cid 9000 0) :: argV B (tailL (toL fn.params)) W.as y)) [(cid 9000 0, ⟨W.o, x⟩)]
section
variable {F : Fr} {a : Act} {w : World} {P : Program} {B : Tab} {Φ : FuncId -> Option Ct}
theorem resLM_ok (hB : TabOk P B) : (rs : List ResultVar) -> (qs : List (Bool × O)) -> (p : Ow) -> (env : Env) -> (M : Mem) -> (y : denR qs) -> (e : List Ev) -> (M' : Mem) -> Hp F p M w -> (∀ t, RelS p.β M (Imm F p M w) w (gt env t) (a.tmps.getD t undef)) -> resLM B env M rs qs = some (y, e, M') ->
  ∃ us p', ∃ S : Nat -> Prop, (rs.mapM (resM a.tmps)).run P w = .ok us w /\ Tr F p M w e p' M' w /\ (∀ b, p.L b -> p'.L b) /\ (∀ b, S b -> p'.L b) /\ (∀ b, S b -> ¬ p.L b) /\ ResR (Imm F p' M' w) w qs y S us
 | [], [], p, env, M, y, e, M', hp, hs, h => by
  simp only [resLM, Option.some.injEq, Prod.mk.injEq] at h
  obtain ⟨_, rfl, rfl⟩ := h
  exact ⟨[], p, fun _ => False, rfl, Tr.refl hp, fun b hb => hb, fun b hb => hb.elim, fun b hb => hb.elim, by simp only [ResR]⟩
 | [], _ :: _, p, env, M, y, e, M', hp, hs, h => by simp [resLM] at h
 | _ :: _, [], p, env, M, y, e, M', hp, hs, h => by simp [resLM] at h
 | r :: rs, q :: qs, p, env, M, y, e, M', hp, hs, h => by
  simp only [resLM] at h
  split at h
  ·rename_i v hv
   cases hc : cellV (resG q.1 v) with
   | false => rw [hc] at h; cases h
   | true =>
    rw [hc] at h
    simp only [cond_true] at h
    split at h
    ·rename_i x e1 M1 ho
     split at h
     ·rename_i z e2 M2 hz
      cases h
      obtain ⟨u, u1, u2⟩ := resV_ok (P := P) (a := a) hB hp hs r v hv
      obtain ⟨vs, g1, g2, g3⟩ := resG_ok hp u2 hc
      obtain ⟨p1, S, t1, t2, t3, t4⟩ := resO_ok hp q.2 (resG q.1 v) vs x e1 g3 ho
      obtain ⟨us, p2, S2, k1, k3, k4, k5, k6, k7⟩ := resLM_ok hB rs qs p1 (evEs env e1) M1 z e2 M' t1.hp (fun t => by rw [gt_evEs]; exact t1.s _ _ (hs t)) hz
      refine ⟨u :: us, p2, fun b => S b ∨ S2 b, ?_, t1.trans k3, fun b hb => k4 b ((t2 b).2 (.inl hb)), fun b hb => hb.elim (fun h => k4 b ((t2 b).2 (.inr h))) (k5 b), fun b hb => hb.elim (t3 b) (fun h hL => k6 b h ((t2 b).2 (.inl hL))), ?_⟩
      ·simp only [List.mapM_cons, Sem.run_bind, u1, Result.andThen_ok, k1, Sem.run_pure]
      ·simp only [ResR]
       exact ⟨u, us, vs, S, S2, rfl, g1, g2, fun b hb => .inl hb, fun b hb => .inr hb, fun b hb hb' => k6 b hb' ((t2 b).2 (.inr hb)), Rel.keep k3.keep _ _ _ _ (fun _ _ => rfl) t4, k7⟩
     ·cases h
    ·cases h
  ·cases h
theorem wt_q (hΦ : Good P Φ) (hB : TabOk P B) (hmix : P.follows .mixedOrders = true) {f : FuncId} {fn : Func} {c : Code} (hf : P.funcs[f]? = some fn) (hb : fn.body = some c) (hn : (fn.name == "runtime.NumGoroutine") = false) (W : Wt) (pr : W.o.strip.den -> denL W.as -> Prop) (Q : W.o.strip.den -> denL W.as -> W.o.strip.den -> denR W.rt -> Prop) (A : Ann) (cut : Nat -> Nat)
  (hro : rootO W.o = true) (hga : false :: W.ag = agL B fn) (hck : okC fn.ntmps cut c = true) (hlen : W.ag.length + 1 <= fn.ntmps) (hnw : noW [0] c = true)
  (h : ∀ x y, allP (W.o.strip.oks x) -> allP (okL W.as y) -> pr x y -> evFw B Φ cut fn c A W x y (Q x y)) :
  ∀ (A : Nat -> Prop) (w : World) (u : Value) (x : W.o.strip.den) (us : List Value) (y : denL W.as) (S : Nat -> Prop), (∀ b, A b -> b < w.heap.size) -> (∀ b, S b -> b < w.heap.size /\ ¬ A b) ->
  Rel (fun b => A b) w W.o x S [u] -> ArgR A w W.ag W.as y us -> pr x y ->
  Calls P f (u :: us).toArray w fun e w' => ∃ z r rs R S', Q x y z r /\ e = .returned (oneT rs) /\ ExtS w w' S /\ (∀ b, R b -> w.heap.size <= b /\ b < w'.heap.size) /\ (∀ b, S' b -> (S b ∨ w.heap.size <= b /\ b < w'.heap.size) /\ ¬ R b) /\
   Rel (fun b => b < w'.heap.size /\ (A b ∨ S b ∨ w.heap.size <= b) /\ ¬ S' b /\ ¬ R b) w' W.o z S' [u] /\
   ResR (fun b => b < w'.heap.size /\ (A b ∨ S b ∨ w.heap.size <= b) /\ ¬ S' b /\ ¬ R b) w' W.rt r R rs := by
 intro Ab w u x us y S hAlt hSlt hr hargs hpre
 let a0 : Act := { tmps := (u :: us).toArray ++ Array.replicate (fn.ntmps - (u :: us).toArray.size) undef, defers := [] }
 have hoks : allP (W.o.strip.oks x) := by
  have h1 := Rel.frz (Im' := fun _ => True) (fun _ _ => trivial) W.o x S [u] (fun _ _ => trivial) hr
  have h2 := oks_of_ok _ _ (RelF.ok _ _ _ h1)
  exact h2
 let F : Fr := ⟨w, w, Ab, S, fun _ => False, fn.ntmps, mkFv (fun _ => none) [0] a0⟩
 let p0 : Ow := ⟨fun _ => u, fun _ => S, fun _ => False⟩
 have hkk : gid = cid 9000 0 := by decide
 replace h := fun h1 h2 => h x y h1 h2 hpre
 unfold evFw at h
 generalize cid 9000 0 = kk at hkk h
 generalize hM0 : ([(kk, ⟨W.o, x⟩)] : Mem) = M0
 have hg0 : go M0 kk = some ⟨W.o, x⟩ := by rw [← hM0, go_cons, if_pos rfl]
 have hlive : ∀ k, Live M0 k -> k = kk := fun k hk => by
  unfold Live at hk
  rw [← hM0, go_cons] at hk
  split at hk
  ·rename_i e; exact e.symm
  ·simp [go] at hk
 have himm : ∀ b, Ab b -> Imm F p0 M0 w b := fun b hb => ⟨hAlt b hb, .inl hb, fun h => h, fun k hk hs => (hSlt b hs).2 hb⟩
 obtain ⟨m, e⟩ : ∃ m, W.ag = ap ((tailL (toL fn.params)).map (fun q => (B.τ q).agg)) (repL false m) := by
  unfold agL at hga
  cases hq : toL fn.params with
  | nil =>
   rw [hq] at hga
   simp only [List.map_nil, ap] at hga
   cases hm : fn.nfree with
   | zero => rw [hm] at hga; cases hga
   | succ m =>
    rw [hm] at hga
    simp only [repL, List.cons.injEq] at hga
    exact ⟨m, by simp only [tailL, List.map_nil, ap]; exact hga.2⟩
  | cons q qs =>
   rw [hq] at hga
   simp only [List.map_cons, ap, List.cons.injEq] at hga
   exact ⟨fn.nfree, hga.2⟩
 obtain ⟨l1, l2, l3, l4⟩ := argR_get (B := B) (β := p0.β) (M := M0) himm W.ag W.as y us hargs (tailL (toL fn.params)) m e
 have he := h hoks l3
 rw [hM0] at he
 have hsz : a0.tmps.size = fn.ntmps := by simp [a0]; omega
 have hget : ∀ t, t < (u :: us).length -> a0.tmps.getD t undef = (u :: us).getD t undef := fun t ht => by
  simp only [a0]
  rw [Array.getD_eq_getD_getElem?, Array.getElem?_append_left (by simpa using ht)]
  simp [List.getD_eq_getElem?_getD]
 have hrel0 : Rel (Imm F p0 M0 w) w W.o x S [u] := Rel.keep (fun b hb => ⟨himm b hb, rfl⟩) _ _ _ _ (fun _ _ => rfl) hr
 have hp0 : Hp F p0 M0 w := ⟨fun k ob hk => by
   have := hlive k (go_live hk)
   subst this
   rw [hg0] at hk; cases hk
   exact hrel0, fun k k' b hne hk hk' => absurd ((hlive k hk).trans (hlive k' hk').symm) hne,
  fun k b hk hs => ⟨(hSlt b hs).1, .inl ⟨by rw [hlive k hk, hkk]; exact Nat.le_refl _, hs⟩⟩, fun b hb => hb.elim, rfl, rfl, rfl, Nat.le_refl _, fun b _ _ => rfl⟩
 have hst : St F p0 (idxE 0 (rootV W.o kk :: argV B (tailL (toL fn.params)) W.as y)) M0 a0 w := by
  refine ⟨rfl, hsz, fun t v ht => ?_, fun b hb => hb.elim, fun b hb => hb, fun t => ?_, hp0⟩
  ·simp only [F, mkFv] at ht
   cases hm : memN t [0] with
   | true => rw [hm] at ht; simpa using ht
   | false => rw [hm] at ht; cases ht
  ·rw [idxE_gt]
   simp only [Nat.zero_le, if_true, Nat.sub_zero]
   cases t with
   | zero =>
    rw [hget 0 (by simp)]
    simp only [List.getElem?_cons_zero, Option.getD_some, List.getD_cons_zero]
    have key : ∀ (o : O) (z : o.strip.den), rootO o = true -> go M0 kk = some ⟨o, z⟩ -> Rel (Imm F p0 M0 w) w o z S [u] -> RelS p0.β M0 (Imm F p0 M0 w) w (rootV o kk) u := fun o z ho hgo hrl => by
     cases o with
     | pt o1 =>
      simp only [rootV, RelS, RelC]
      refine ⟨u, rfl, ?_⟩
      simp only [Rel] at hrl
      obtain ⟨bb, us1, ty', S1, r1, _⟩ := hrl
      simp only [List.cons.injEq, and_true] at r1
      exact ⟨_, cellsOf w bb 0 o1.size, bb, 0, hgo, by simp only [gok], by simp only [get]; exact ⟨_, rfl⟩, by simp only [heapy], by simp only [p0, r1, res], r1⟩
     | sl e =>
      simp only [rootV, RelS, RelC]
      exact ⟨_, none, hgo, by simp only [gok], ⟨_, by simp only [get]; rfl⟩, by simp only [res, p0]⟩
     | fz t => cases ho
     | p a b => cases ho
     | mp e e' => cases ho
     | op e => cases ho
    exact key W.o x hro hg0 hrel0
   | succ t =>
    simp only [List.getElem?_cons_succ]
    cases hx : (argV B (tailL (toL fn.params)) W.as y)[t]? with
    | none => simp only [Option.getD_none, RelS]
    | some v =>
     have ht := (List.getElem?_eq_some_iff.1 hx).1
     have hu : us[t]? = some us[t] := List.getElem?_eq_getElem (by omega)
     simp only [Option.getD_some]
     rw [hget (t + 1) (by simp; omega)]
     have : (u :: us).getD (t + 1) undef = us[t] := by simp [List.getD_eq_getElem?_getD, hu]
     rw [this]
     exact l4 t v _ hx hu
 refine calls_of_wp hf hb (Code.wp_mono (fun e a' w' he => ?_) (ev_ok hΦ hB hmix cut c F A _ _ _ hck (free_mk c hnw (free_none c)) he p0 _ w hst))
 have key : ∀ p env M, St F p env M a' w' -> endWv B (toL fn.results) W (Q x y) env M -> (e = .normal ∨ e = .ret) -> bodyPost P fn (fun e w' => ∃ z r rs R S', Q x y z r /\ e = .returned (oneT rs) /\ ExtS w w' S /\ (∀ b, R b -> w.heap.size <= b /\ b < w'.heap.size) /\ (∀ b, S' b -> (S b ∨ w.heap.size <= b /\ b < w'.heap.size) /\ ¬ R b) /\
   Rel (fun b => b < w'.heap.size /\ (Ab b ∨ S b ∨ w.heap.size <= b) /\ ¬ S' b /\ ¬ R b) w' W.o z S' [u] /\
   ResR (fun b => b < w'.heap.size /\ (Ab b ∨ S b ∨ w.heap.size <= b) /\ ¬ S' b /\ ¬ R b) w' W.rt r R rs) e a' w' := by
  intro p env M hs hr hee
  unfold endWv at hr
  split at hr
  ·rename_i r e1 M1 hres
   split at hr
   ·rename_i k hroot
    split at hr
    ·rename_i ob hob
     split at hr
     ·rename_i z hz
      obtain ⟨rs, p', R, k1, t, k4, k5, k6, k7⟩ := resLM_ok (P := P) (a := a') hB (toL fn.results) W.rt p env M _ e1 M1 hs.hp hs.slots hres
      rw [toL_eq] at k1
      have hrun : (results fn a'.tmps).run P w' = .ok (oneT rs) w' := by
       rw [results_eq, Array.mapM_eq_mapM_toList]
       simp only [Sem.run_bind, Sem.run_map, k1, Result.andThen_ok, Sem.run_pure]
       match rs with
       | [] => rfl
       | [u] => rfl
       | u :: u' :: r => simp [oneT]
      have hu0 : a'.tmps.getD 0 undef = u := by
       have := hs.fix 0 (a0.tmps.getD 0 undef) (by simp [F, mkFv, memN])
       rw [this, hget 0 (by simp)]; rfl
      have hs0 := t.s _ _ (hs.slots 0)
      rw [hu0] at hs0
      obtain ⟨w1, w2⟩ := wkO_some hz
      have hrk := t.hp.objs k _ hob
      have hbox : u = p'.β k := root_val t.hp hob hroot (e := []) rfl hs0
      rw [← hbox] at hrk
      obtain ⟨S', s1, s2⟩ := wk_rel ob.o W.o w1 ob.x _ (p'.σ k) [u] w2 hrk
      have hlk := go_live hob
      have hRl : ∀ b, R b -> w.heap.size <= b /\ b < w'.heap.size := fun b hb => ⟨(t.hp.lim b (k5 b hb)).2.1, (t.hp.lim b (k5 b hb)).1⟩
      have hSR : ∀ b, p'.σ k b -> ¬ R b := fun b hb hR => (t.hp.lim b (k5 b hR)).2.2 k hlk hb
      have hIm : ∀ b, Imm F p' M1 w' b -> (b < w'.heap.size /\ (Ab b ∨ S b ∨ w.heap.size <= b) /\ ¬ S' b /\ ¬ R b) := fun b hb => ⟨hb.1, hb.2.1, fun h => hb.2.2.2 k hlk (s1 b h), fun h => hb.2.2.1 (k5 b h)⟩
      have hpost : ∃ z r rs' R S', Q x y z r /\ Ending.returned (oneT rs) = .returned (oneT rs') /\ ExtS w w' S /\ (∀ b, R b -> w.heap.size <= b /\ b < w'.heap.size) /\ (∀ b, S' b -> (S b ∨ w.heap.size <= b /\ b < w'.heap.size) /\ ¬ R b) /\
        Rel (fun b => b < w'.heap.size /\ (Ab b ∨ S b ∨ w.heap.size <= b) /\ ¬ S' b /\ ¬ R b) w' W.o z S' [u] /\
        ResR (fun b => b < w'.heap.size /\ (Ab b ∨ S b ∨ w.heap.size <= b) /\ ¬ S' b /\ ¬ R b) w' W.rt r R rs' := by
       refine ⟨z, r, rs, R, S', hr, rfl, ⟨t.hp.os, t.hp.tape, t.hp.output, t.hp.size, fun b hb hn => t.hp.old b hb hn⟩, hRl, fun b hb => ⟨?_, hSR b (s1 b hb)⟩, s2 _ hIm (fun b hb hnb => ?_), ResR.keep hIm _ _ _ _ k7⟩
       ·have := t.hp.own k b hlk (s1 b hb)
        rcases this.2 with ⟨_, h1⟩ | h1
        ·exact .inl h1
        ·exact .inr ⟨h1, this.1⟩
       ·have := t.hp.own k b hlk hb
        refine ⟨this.1, ?_, hnb, hSR b hb⟩
        rcases this.2 with ⟨_, h1⟩ | h1
        ·exact .inr (.inl h1)
        ·exact .inr (.inr h1)
      rcases hee with rfl | rfl
      ·exact ⟨hs.defers, _, hrun, hpost⟩
      ·exact ⟨hs.defers, _, hrun, hpost⟩
     ·exact hr.elim
    ·exact hr.elim
   ·exact hr.elim
  ·exact hr.elim
 cases e with
 | normal => obtain ⟨p, env, M, h1, h2⟩ := he; exact key p env M h1 h2 (.inl rfl)
 | ret => obtain ⟨p, env, M, h1, h2⟩ := he; exact key p env M h1 h2 (.inr rfl)
 | exit id => obtain ⟨p, env, M, h1, h2⟩ := he; exact h2.elim
 | goto l => obtain ⟨p, env, M, h1, h2⟩ := he; exact h2.elim
 | panic ch => exact he.elim
 | outgrown => exact he.elim
theorem wt_of (hΦ : Good P Φ) (hB : TabOk P B) (hmix : P.follows .mixedOrders = true) {f : FuncId} {fn : Func} {c : Code} (hf : P.funcs[f]? = some fn) (hb : fn.body = some c) (hn : (fn.name == "runtime.NumGoroutine") = false) (W : Wt) (A : Ann) (cut : Nat -> Nat)
  (hro : rootO W.o = true) (hga : false :: W.ag = agL B fn) (hck : okC fn.ntmps cut c = true) (hlen : W.ag.length + 1 <= fn.ntmps) (hnw : noW [0] c = true)
  (h : ∀ x y, allP (W.o.strip.oks x) -> allP (okL W.as y) -> allP (W.pre x y) -> evFw B Φ cut fn c A W x y (fun z r => z = W.new x y /\ r = W.res x y)) : CtOk P f (wtCt W) := by
 refine ⟨callable_of hf hb hn, fun Ab w u x us y S hAlt hSlt hr hargs hpre cs => ?_⟩
 obtain ⟨e, w', fr, ⟨z, r, rs, R, S', hq, h1⟩, h2⟩   := wt_q hΦ hB hmix hf hb hn W (fun x y => allP (W.pre x y)) (fun x y z r => z = W.new x y /\ r = W.res x y) A cut hro hga hck hlen hnw h Ab w u x us y S hAlt hSlt hr hargs hpre cs
 obtain ⟨rfl, rfl⟩ := hq
 exact ⟨e, w', fr, ⟨rs, R, S', h1⟩, h2⟩
end
end Go.Bm
/- The typed machine: a function that writes what lies in a box, handed an address within it. -/
namespace Go.Bm
open Go.RowKit
section
variable {F : Fr} {a : Act} {w : World} {P : Program} {B : Tab} {Φ : FuncId -> Option Ct}
end
end Go.Bm
/- The typed machine: what a walk asks picks one end: so a law that bounds the results names them. -/
namespace Go.Bm
open Go.RowKit
def Tri {R : Type} (X : (R -> Prop) -> Prop) : Prop := (∀ K, ¬ X K) ∨ (∀ K, X K) ∨ ∃ r, ∀ K, X K ↔ K r
section
variable {R R' : Type}
theorem Tri.no : Tri (fun _ : R -> Prop => False) := .inl fun _ h => h
theorem Tri.sel (r : R) : Tri (fun K : R -> Prop => K r) := .inr (.inr ⟨r, fun _ => Iff.rfl⟩)
theorem Tri.bind {X : (R -> Prop) -> Prop} (h : Tri X) {F : (R' -> Prop) -> R -> Prop} (hF : ∀ r, Tri (fun K => F K r)) : Tri (fun K => X (F K)) := by
 rcases h with h | h | ⟨r, h⟩
 ·exact .inl fun K => h _
 ·exact .inr (.inl fun K => h _)
 ·have : (fun K => X (F K)) = (fun K => F K r) := funext fun K => propext (h _)
  rw [this]; exact hF r
theorem Tri.mono {X : (R -> Prop) -> Prop} (h : Tri X) {K K' : R -> Prop} (hk : ∀ r, K r -> K' r) (hx : X K) : X K' := by
 rcases h with h | h | ⟨r, h⟩
 ·exact (h _ hx).elim
 ·exact h _
 ·exact (h _).2 (hk _ ((h _).1 hx))
theorem Tri.conj {X : (R -> Prop) -> Prop} (h : Tri X) : (l : List Prop) -> Tri (fun K => conj l (X K))
 | [] => h
 | p :: l => by
  by_cases hp : p
  ·have : (fun K => Bm.conj (p :: l) (X K)) = (fun K => Bm.conj l (X K)) := funext fun K => propext ⟨fun h => h.2, fun h => ⟨hp, h⟩⟩
   rw [this]; exact Tri.conj h l
  ·exact .inl fun K hk => hp hk.1
theorem Tri.imp {X : (R -> Prop) -> Prop} (h : Tri X) (g : Prop) (l : List Prop) : Tri (fun K => imp g l (X K)) := by
 cases l with
 | nil => exact h
 | cons p l =>
  by_cases hp : g -> Bm.conj l p
  ·have : (fun K => Bm.imp g (p :: l) (X K)) = X := funext fun K => propext ⟨fun h => h.2, fun h => ⟨hp, h⟩⟩
   rw [this]; exact h
  ·exact .inl fun K hk => hp hk.1
theorem Tri.imps {X : (R -> Prop) -> Prop} (h : Tri X) : (l : List Prop) -> Tri (fun K => imps l (X K))
 | [] => h
 | p :: l => by
  by_cases hp : p
  ·have : (fun K => Bm.imps (p :: l) (X K)) = (fun K => Bm.imps l (X K)) := funext fun K => propext ⟨fun h => h hp, fun h _ => h⟩
   rw [this]; exact Tri.imps h l
  ·exact .inr (.inl fun K hk => absurd hk hp)
theorem Tri.cnd {X Y : (R -> Prop) -> Prop} (hx : Tri X) (hy : Tri Y) (b : Bool) : Tri (fun K => cnd b (X K) (Y K)) := by
 cases b with
 | true =>
  have : (fun K => Bm.cnd true (X K) (Y K)) = X := funext fun K => propext ⟨fun h => h.1 rfl, fun h => ⟨fun _ => h, fun h => nomatch h⟩⟩
  rw [this]; exact hx
 | false =>
  have : (fun K => Bm.cnd false (X K) (Y K)) = Y := funext fun K => propext ⟨fun h => h.2 rfl, fun h => ⟨fun h => (nomatch h), fun _ => h⟩⟩
  rw [this]; exact hy
theorem Tri.bif {X Y : (R -> Prop) -> Prop} (hx : Tri X) (hy : Tri Y) (b : Bool) : Tri (fun K => bif b then X K else Y K) := by
 cases b with
 | true => exact hx
 | false => exact hy
theorem iter_tri {S : Type} (body : (R -> Prop) -> S -> (S -> Prop) -> Prop) (h : ∀ s, Tri (fun P : (S ⊕ R) -> Prop => body (fun r => P (.inr r)) s (fun s' => P (.inl s')))) : ∀ (n : Nat) (s : S), Tri (fun K => iterW (body K) n s)
 | 0, s => Tri.no
 | n + 1, s => (h s).bind (F := fun K p => match p with | .inl s' => iterW (body K) n s' | .inr r => K r) (fun p => by
   cases p with
   | inl s' => exact iter_tri body h n s'
   | inr r => exact Tri.sel r)
theorem iter_up {S : Type} (body : (R -> Prop) -> S -> (S -> Prop) -> Prop) (h : ∀ s, Tri (fun P : (S ⊕ R) -> Prop => body (fun r => P (.inr r)) s (fun s' => P (.inl s')))) (K : R -> Prop) : ∀ (n : Nat) (s : S), iterW (body K) n s -> iterW (body K) (n + 1) s
 | 0, s, hi => hi.elim
 | n + 1, s, hi => (h s).mono (K := fun p => match p with | .inl s' => iterW (body K) n s' | .inr r => K r) (K' := fun p => match p with | .inl s' => iterW (body K) (n + 1) s' | .inr r => K r) (fun p hp => by
   cases p with
   | inl s' => exact iter_up body h K n s' hp
   | inr r => exact hp) hi
theorem iter_le {S : Type} (body : (R -> Prop) -> S -> (S -> Prop) -> Prop) (h : ∀ s, Tri (fun P : (S ⊕ R) -> Prop => body (fun r => P (.inr r)) s (fun s' => P (.inl s')))) (K : R -> Prop) (s : S) {n m : Nat} (hnm : n <= m) (hi : iterW (body K) n s) : iterW (body K) m s := by
 induction hnm with
 | refl => exact hi
 | step _ ih => exact iter_up body h K _ s ih
theorem loop_tri {S : Type} (body : (R -> Prop) -> S -> (S -> Prop) -> Prop) (h : ∀ s, Tri (fun P : (S ⊕ R) -> Prop => body (fun r => P (.inr r)) s (fun s' => P (.inl s')))) (s : S) : Tri (fun K => loopW (body K) s) := by
 by_cases hv : ∃ n, ∀ K, iterW (body K) n s
 ·obtain ⟨n, hn⟩ := hv
  exact .inr (.inl fun K => ⟨n, hn K⟩)
 by_cases hs : ∃ n r, ∀ K, iterW (body K) n s ↔ K r
 ·obtain ⟨n, r, hn⟩ := hs
  refine .inr (.inr ⟨r, fun K => ⟨fun ⟨m, hm⟩ => ?_, fun hk => ⟨n, (hn K).2 hk⟩⟩⟩)
  have h1 := iter_le body h K s (Nat.le_max_left m n) hm
  have h2 := iter_le body h (fun x => x = r) s (Nat.le_max_right m n) ((hn _).2 rfl)
  rcases iter_tri body h (max m n) s with h3 | h3 | ⟨r', h3⟩
  ·exact (h3 _ h1).elim
  ·exact (hv ⟨_, h3⟩).elim
  ·have : r' = r := (h3 (fun x => x = r)).1 h2
   subst this
   exact (h3 K).1 h1
 ·refine .inl fun K ⟨m, hm⟩ => ?_
  rcases iter_tri body h m s with h3 | h3 | ⟨r', h3⟩
  ·exact h3 _ hm
  ·exact hv ⟨_, h3⟩
  ·exact hs ⟨m, r', h3⟩
end
section
variable {B : Tab} {Φ : FuncId -> Option Ct} {R : Type}
abbrev EM := Env × Mem
abbrev EX := Ex × Env × Mem
theorem tri_twG (all : List Oper) : (ops : List Oper) -> (Φ : FuncId -> Option Ct) -> (env : Env) -> (M : Mem) -> Tri (fun K : EM -> Prop => twG B Φ all ops env M (fun env M => K (env, M)))
 | [], Φ, env, M => Tri.sel (env, M)
 | o :: rest, Φ, env, M => by
  simp only [twG]
  split
  ·exact Tri.bif Tri.no ((tri_twG all rest Φ _ _).conj _) _
  ·split
   ·exact Tri.bif ((tri_twG all rest Φ _ _).imp _ _) Tri.no _
   ·exact Tri.no
theorem tri_dwG (all tl : List Oper) : (ops : List Oper) -> (env : Env) -> (M : Mem) -> Tri (fun K : Env -> Prop => dwG B Φ all tl ops env M K)
 | [], env, M => Tri.sel env
 | o :: rest, env, M => by
  simp only [dwG]
  split
  ·exact Tri.bif ((tri_dwG all tl rest _ _).conj _) Tri.no _
  ·split
   ·exact Tri.bif ((tri_dwG all tl rest _ _).imp _ _) Tri.no _
   ·exact Tri.no
theorem tri_twS (all : List Oper) : (ops : List Oper) -> (env : Env) -> (M : Mem) -> Tri (fun K : EM -> Prop => twS B Φ all ops env M (fun env M => K (env, M)))
 | [], env, M => Tri.sel (env, M)
 | o :: rest, env, M => by
  have key : ∀ Φ' : FuncId -> Option Ct, Tri (fun K : EM -> Prop => twG B Φ' all [o] env M (fun env M => twS B Φ all rest env M (fun env M => K (env, M)))) := fun Φ' =>
   (tri_twG all [o] Φ' env M).bind (F := fun K p => twS B Φ all rest p.1 p.2 (fun env M => K (env, M))) (fun p => tri_twS all rest p.1 p.2)
  simp only [twS]
  refine Tri.bif ?_ Tri.no _
  split
  ·exact Tri.cnd (key _) (key _) _
  ·exact key _
theorem Tri.ifP {X Y : (R -> Prop) -> Prop} (hx : Tri X) (hy : Tri Y) (p : Prop) : Tri (fun K => ifP p (X K) (Y K)) := by
 by_cases hp : p
 ·have : (fun K => Bm.ifP p (X K) (Y K)) = X := funext fun K => propext ⟨fun h => h.1 hp, fun h => ⟨fun _ => h, fun h => absurd hp h⟩⟩
  rw [this]; exact hx
 ·have : (fun K => Bm.ifP p (X K) (Y K)) = Y := funext fun K => propext ⟨fun h => h.2 hp, fun h => ⟨fun h => absurd h hp, fun _ => h⟩⟩
  rw [this]; exact hy
theorem tri_twQ (all : List Oper) : (ops : List Oper) -> (env : Env) -> (M : Mem) -> Tri (fun K : EM -> Prop => twQ B Φ all ops env M (fun env M => K (env, M)))
 | [], env, M => Tri.sel (env, M)
 | o :: rest, env, M => by
  simp only [twQ]
  split
  ·exact Tri.bif Tri.no ((tri_twQ all rest _ _).conj _) _
  ·split
   ·exact Tri.bif (Tri.bif ((tri_twQ all rest _ _).imp _ _) (Tri.bif Tri.no (Tri.ifP ((tri_twQ all rest _ _).conj _) (tri_twQ all rest _ _) _) _) _) Tri.no _
   ·exact Tri.no
theorem tri_bx : (ops : List Oper) -> (env : Env) -> (X : Mem) -> Tri (fun K : EM -> Prop => bx B Φ ops env X (fun env M => K (env, M)))
 | [], env, X => Tri.sel (env, X)
 | o :: r, env, X => by
  simp only [bx]
  split
  ·unfold bxA; exact Tri.bif (tri_bx r _ _) Tri.no _
  ·unfold bxS
   split
   ·refine Tri.bif ?_ Tri.no _
    split
    ·exact tri_bx r _ _
    ·exact Tri.no
   ·exact Tri.no
  ·unfold bxP
   refine Tri.bif ?_ Tri.no _
   split
   ·exact (tri_bx r _ _).conj _
   ·exact Tri.no
  ·exact Tri.no
theorem tri_hx (D : Bool) (ks : List Nat) (M0 : Mem) : (ops : List Oper) -> (env : Env) -> (X : Mem) -> Tri (fun K : EM -> Prop => hx D ks B Φ M0 ops env X (fun env M => K (env, M)))
 | [], env, X => Tri.sel (env, X)
 | o :: r, env, X => by
  simp only [hx]
  split
  ·refine Tri.bif ?_ Tri.no _
   exact Tri.bif ((tri_hx D ks M0 r _ _).conj _) Tri.no _
  ·exact Tri.no
theorem tri_on (ss : Shs) (os : Obs) (ks : List Nat) (env : Env) (s : denS ss × denO os) : Tri (fun K : EX -> Prop => onK ss os ks env (fun e env M => K (e, env, M)) s) :=
 Tri.imps (Tri.imps (Tri.sel (Ex.nm, _, _)) _) _
theorem tri_read {R : Type} (ss : Shs) (os : Obs) (env : Env) (M : Mem) (F : (R -> Prop) -> denS ss × denO os -> Prop) (hF : ∀ s, Tri (fun K => F K s)) : Tri (fun K => readK ss os env M (F K)) := by
 unfold readK
 split
 ·exact hF _
 ·exact Tri.no
theorem tri_join {R : Type} (ss : Shs) (os : Obs) (F : (R -> Prop) -> denS ss × denO os -> Prop) (hF : ∀ s, Tri (fun K => F K s)) (G : (R -> Prop) -> EX -> Prop) (hG : ∀ p, Tri (fun K => G K p)) : (p : EX) -> Tri (fun K => joinK ss os (F K) (fun e env M => G K (e, env, M)) p.1 p.2.1 p.2.2)
 | (.nm, env, M) => tri_read ss os env M F hF
 | (.ex id, env, M) => hG (.ex id, env, M)
 | (.rt, env, M) => hG (.rt, env, M)
 | (.go l, env, M) => hG (.go l, env, M)
theorem tri_ev (cut : Nat -> Nat) : (c : Code) -> (A : Ann) -> (env : Env) -> (M : Mem) -> Tri (fun K : EX -> Prop => ev B Φ cut c A (fun e env M => K (e, env, M)) env M)
 | .skip, _, env, M => Tri.sel (Ex.nm, env, M)
 | .ret, _, env, M => Tri.sel (Ex.rt, env, M)
 | .exit id, _, env, M => Tri.sel (Ex.ex id, env, M)
 | .goto l, _, env, M => Tri.sel (Ex.go l, env, M)
 | .label _, _, env, M => Tri.sel (Ex.nm, env, M)
 | .scope c, A, env, M => by
  simp only [ev]
  refine (tri_ev cut c A env M).bind (F := fun K p => scpK (fun e env M => K (e, env, M)) p.1 p.2.1 p.2.2) (fun p => ?_)
  obtain ⟨e, env', M'⟩ := p
  cases e with
  | nm => exact Tri.sel _
  | ex _ => exact Tri.sel _
  | rt => exact Tri.sel _
  | go _ => exact Tri.no
 | .seq x y, A, env, M => by
  simp only [ev]
  refine (tri_ev cut x A.fst env M).bind (F := fun K p => seqK (fun env M => ev B Φ cut y A.snd (fun e env M => K (e, env, M)) env M) (fun e env M => K (e, env, M)) p.1 p.2.1 p.2.2) (fun p => ?_)
  obtain ⟨e, env', M'⟩ := p
  cases e with
  | nm => exact tri_ev cut y A.snd env' M'
  | ex _ => exact Tri.sel _
  | rt => exact Tri.sel _
  | go _ => exact Tri.sel _
 | .region id ops draw, _, env, M => by
  have hK : ∀ p : EM, Tri (fun K : EX -> Prop => K (Ex.nm, clr p.1, p.2)) := fun p => Tri.sel _
  have hT : ∀ (all : List Oper) (l : List Oper) (env : Env) (M : Mem), Tri (fun K : EX -> Prop => twG B Φ all l env M (fun env M => K (Ex.nm, clr env, M))) := fun all l env M =>
   (tri_twG all l Φ env M).bind (F := fun K p => K (Ex.nm, clr p.1, p.2)) hK
  have hH : ∀ (D : Bool) (M : Mem) (all l1 l2 : List Oper) (env : Env), Tri (fun K : EX -> Prop => hx D [] B Φ M l1 env [] (fun env X => bif nogd env then twG B Φ all l2 env (ap X M) (fun env M => K (Ex.nm, clr env, M)) else False)) := fun D M all l1 l2 env =>
   (tri_hx D [] M l1 env []).bind (F := fun K p => bif nogd p.1 then twG B Φ all l2 p.1 (ap p.2 M) (fun env M => K (Ex.nm, clr env, M)) else False) (fun p => Tri.bif (hT _ _ _ _) Tri.no _)
  simp only [ev]
  cases draw with
  | false =>
   refine Tri.bif (Tri.bif ((tri_twQ (toL ops) (toL ops) env M).bind (F := fun K p => K (.nm, clr p.1, p.2)) hK) Tri.no _) (Tri.bif ?_ (Tri.bif (hT _ _ _ _) Tri.no _) _) _
   exact (tri_twS (toL ops) (toL ops) env M).bind (F := fun K p => K (Ex.nm, clr p.1, p.2)) hK
  | true =>
   refine Tri.bif ?_ (Tri.bif ?_ (Tri.bif ?_ (Tri.bif ?_ ?_ _) _) _) _
   ·exact (tri_bx (toL ops) _ []).bind (F := fun K p => K (Ex.nm, clr p.1, ap p.2 _)) (fun p => Tri.sel _)
   ·exact Tri.bif ((tri_hx true (decK (cut id)) M _ env []).bind (F := fun K p => bif nob (nogd p.1) (chkT (decK (cut id)) B Φ (dropL (Nat.mod (cut id) 10000) (hoistL true (toL ops))) p.1 (ap p.2 M)) then twG B Φ (hoistL true (toL ops)) (dropL (Nat.mod (cut id) 10000) (hoistL true (toL ops))) p.1 (ap p.2 M) (fun env M => K (Ex.nm, clr env, M)) else False) (fun p => Tri.bif (hT _ _ _ _) Tri.no _)) Tri.no _
   ·exact Tri.bif (hH _ _ _ _ _ _) Tri.no _
   ·exact Tri.bif (hH _ _ _ _ _ _) Tri.no _
   ·exact Tri.bif ((tri_dwG _ _ _ env M).bind (F := fun K env => twG B Φ (toL ops) (dropL (cut id) (toL ops)) env M (fun env M => K (Ex.nm, clr env, M))) (fun env => hT _ _ _ _)) Tri.no _
 | .cond (.tmp t) x y, .j ss os ks A, env, M => by
  simp only [ev]
  refine Tri.bif ?_ Tri.no _
  have hj := fun p => tri_join (R := EX) ss os (fun K => onK ss os ks env (fun e env M => K (e, env, M))) (tri_on ss os ks env) (fun K p => K p) (fun p => Tri.sel p) p
  exact Tri.cnd ((tri_ev cut x A.fst env M).bind (F := fun K p => joinK ss os (onK ss os ks env (fun e env M => K (e, env, M))) (fun e env M => K (e, env, M)) p.1 p.2.1 p.2.2) hj)
   ((tri_ev cut y A.snd env M).bind (F := fun K p => joinK ss os (onK ss os ks env (fun e env M => K (e, env, M))) (fun e env M => K (e, env, M)) p.1 p.2.1 p.2.2) hj) _
 | .cond (.tmp t) x y, .n, env, M => by
  simp only [ev]
  exact Tri.bif (Tri.cnd (tri_ev cut x _ env M) (tri_ev cut y _ env M) _) Tri.no _
 | .cond (.tmp t) x y, .s _ _, env, M => by
  simp only [ev]
  exact Tri.bif (Tri.cnd (tri_ev cut x _ env M) (tri_ev cut y _ env M) _) Tri.no _
 | .cond (.tmp t) x y, .l _ _ _ _, env, M => by
  simp only [ev]
  exact Tri.bif (Tri.cnd (tri_ev cut x _ env M) (tri_ev cut y _ env M) _) Tri.no _
 | .block id c, .j ss os ks A, env, M => by
  simp only [ev]
  refine Tri.bif ?_ Tri.no _
  refine (tri_ev cut c A env M).bind (F := fun K p => blkK id (joinK ss os (onK ss os ks env (fun e env M => K (e, env, M))) (fun e env M => K (e, env, M))) p.1 p.2.1 p.2.2) (fun p => ?_)
  have hj := fun p => tri_join (R := EX) ss os (fun K => onK ss os ks env (fun e env M => K (e, env, M))) (tri_on ss os ks env) (fun K p => K p) (fun p => Tri.sel p) p
  obtain ⟨e, env', M'⟩ := p
  cases e with
  | nm => exact hj (Ex.nm, env', M')
  | ex i => simp only [blkK]; exact Tri.bif (hj (Ex.nm, env', M')) (hj (Ex.ex i, env', M')) _
  | rt => exact hj (Ex.rt, env', M')
  | go l => exact hj (Ex.go l, env', M')
 | .block id c, .n, env, M => tri_blk cut id c .n env M (tri_ev cut c .n env M)
 | .block id c, .s a b, env, M => tri_blk cut id c (.s a b) env M (tri_ev cut c (.s a b) env M)
 | .block id c, .l a b d e, env, M => tri_blk cut id c (.l a b d e) env M (tri_ev cut c (.l a b d e) env M)
 | .loop c, .l ss os ks A, env, M => by
  simp only [ev]
  refine Tri.bif ?_ Tri.no _
  split
  ·rename_i q hq
   refine loop_tri (fun (K : EX -> Prop) (s : denS ss × denO os) next => imps (okS ss s.1) (imps (okO os s.2) (ev B Φ cut c A (joinK ss os next (fun e env M => K (e, env, M))) (ap (putS ss s.1) (kept q.2 ks)) (putO os s.2)))) (fun s => ?_) q.1
   refine Tri.imps (Tri.imps ?_ _) _
   exact (tri_ev cut c A _ _).bind (F := fun (P : ((denS ss × denO os) ⊕ EX) -> Prop) p => joinK ss os (fun s' => P (.inl s')) (fun e env M => P (.inr (e, env, M))) p.1 p.2.1 p.2.2)
    (tri_join (R := (denS ss × denO os) ⊕ EX) ss os (fun P s' => P (Sum.inl s')) (fun s' => Tri.sel _) (fun P p => P (Sum.inr p)) (fun p => Tri.sel _))
  ·exact Tri.no
 | .loop c, .n, env, M => by simp only [ev]; exact Tri.no
 | .loop c, .s _ _, env, M => by simp only [ev]; exact Tri.no
 | .loop c, .j _ _ _ _, env, M => by simp only [ev]; exact Tri.no
 | .cond (.const _) _ _, _, _, _ => by simp only [ev]; exact Tri.no
 | .cond (.func _) _ _, _, _, _ => by simp only [ev]; exact Tri.no
 | .cond (.global _) _ _, _, _, _ => by simp only [ev]; exact Tri.no
 | .rangeFunc _ _ _ _, _, _, _ => by simp only [ev]; exact Tri.no
 | .refuse _, _, _, _ => by simp only [ev]; exact Tri.no
where
 tri_blk (cut : Nat -> Nat) (id : Nat) (c : Code) (A : Ann) (env : Env) (M : Mem) (h : Tri (fun K : EX -> Prop => ev B Φ cut c A (fun e env M => K (e, env, M)) env M)) : Tri (fun K : EX -> Prop => ev B Φ cut c A (blkK id (fun e env M => K (e, env, M))) env M) := by
  refine h.bind (F := fun K p => blkK id (fun e env M => K (e, env, M)) p.1 p.2.1 p.2.2) (fun p => ?_)
  obtain ⟨e, env', M'⟩ := p
  cases e with
  | nm => exact Tri.sel _
  | ex i => simp only [blkK]; exact Tri.bif (Tri.sel (Ex.nm, env', M')) (Tri.sel (Ex.ex i, env', M')) _
  | rt => exact Tri.sel _
  | go _ => exact Tri.sel _
end
end Go.Bm
/- The typed machine: data has a world; a law that bounds the results names them. -/
namespace Go.Bm
open Go.RowKit
def reT : T -> Bool
 | .int _ => true
 | .bool => true
 | .str => true
 | .u => true
 | .p a b => nob (reT a) (reT b)
 | .sl e => reT e
 | .pt t => reT t
 | _ => false
def World.put (w : World) (us : List Value) : World := { w with heap := w.heap.push (.cells us.toArray 0 (0, 0)) }
theorem put_size (w : World) (us : List Value) : (World.put w us).heap.size = w.heap.size + 1 := by simp [World.put]
theorem put_old (w : World) (us : List Value) (b : Nat) (h : b < w.heap.size) : (World.put w us).heap[b]? = w.heap[b]? := by
 simp only [World.put]
 rw [Array.getElem?_push, if_neg (by omega)]
theorem put_new (w : World) (us : List Value) : (World.put w us).heap[w.heap.size]? = some (.cells us.toArray 0 (0, 0)) := by
 simp only [World.put]
 rw [Array.getElem?_push, if_pos rfl]
theorem put_cells (w : World) (us : List Value) (o : Nat) (vs : List Value) (h : ∀ (j : Nat) (u : Value), vs[j]? = some u -> us[o + j]? = some u) : CellsAt (World.put w us) w.heap.size o vs := by
 intro j u hu
 simp only [World.cell?, put_new]
 simpa using h j u hu
theorem flat_get {n : Nat} : ∀ (vss : List (List Value)), (∀ us ∈ vss, us.length = n) -> ∀ (i : Nat) (us : List Value), vss[i]? = some us -> ∀ (j : Nat) (u : Value), us[j]? = some u -> vss.flatten[i * n + j]? = some u
 | [], _, i, us, h, _, _, _ => by simp at h
 | vs :: vss, hl, 0, us, h, j, u, hj => by
  simp only [List.getElem?_cons_zero, Option.some.injEq] at h
  subst h
  rw [List.flatten_cons, Nat.zero_mul, Nat.zero_add, List.getElem?_append_left (List.getElem?_eq_some_iff.1 hj).1]
  exact hj
 | vs :: vss, hl, i + 1, us, h, j, u, hj => by
  simp only [List.getElem?_cons_succ] at h
  have := flat_get vss (fun us hu => hl us (List.mem_cons_of_mem _ hu)) i us h j u hj
  have hv := hl vs (List.mem_cons_self ..)
  rw [List.flatten_cons, List.getElem?_append_right (by rw [hv, Nat.succ_mul]; omega), hv, show (i + 1) * n + j - n = i * n + j by rw [Nat.succ_mul]; omega]
  exact this
abbrev lt (w : World) : Nat -> Prop := fun b => b < w.heap.size
theorem grow_keep {w w' : World} (h1 : w.heap.size <= w'.heap.size) (h2 : ∀ b, b < w.heap.size -> w'.heap[b]? = w.heap[b]?) : Keep (lt w) (lt w') w w' :=
 fun b hb => ⟨Nat.lt_of_lt_of_le hb h1, h2 b hb⟩
theorem rep_l {e : T} (ih : ∀ (x : e.den), e.ok x -> ∀ w : World, ∃ w' vs, w.heap.size <= w'.heap.size /\ (∀ b, b < w.heap.size -> w'.heap[b]? = w.heap[b]?) /\ RelF (lt w') w' e x vs) :
  (l : List e.den) -> (∀ y ∈ l, e.ok y) -> ∀ w : World, ∃ w', ∃ vss : List (List Value), w.heap.size <= w'.heap.size /\ (∀ b, b < w.heap.size -> w'.heap[b]? = w.heap[b]?) /\ vss.length = l.length /\ ∀ (i : Nat) (x : e.den) (us : List Value), l[i]? = some x -> vss[i]? = some us -> RelF (lt w') w' e x us
 | [], _, w => ⟨w, [], Nat.le_refl _, fun _ _ => rfl, rfl, fun i x us h => by simp at h⟩
 | x :: l, h, w => by
  obtain ⟨w1, vs, a1, a2, a3⟩ := ih x (h x (List.mem_cons_self ..)) w
  obtain ⟨w2, vss, b1, b2, b3, b4⟩ := rep_l ih l (fun y hy => h y (List.mem_cons_of_mem _ hy)) w1
  refine ⟨w2, vs :: vss, Nat.le_trans a1 b1, fun b hb => (b2 b (Nat.lt_of_lt_of_le hb a1)).trans (a2 b hb), by simp [b3], fun i y us hi hu => ?_⟩
  cases i with
  | zero =>
   simp only [List.getElem?_cons_zero, Option.some.injEq] at hi hu
   subst hi; subst hu
   exact RelF.keep (grow_keep b1 b2) _ _ _ a3
  | succ i => exact b4 i y us (by simpa using hi) (by simpa using hu)
theorem rep : (t : T) -> reT t = true -> (x : t.den) -> t.ok x -> ∀ w : World, ∃ w' vs, w.heap.size <= w'.heap.size /\ (∀ b, b < w.heap.size -> w'.heap[b]? = w.heap[b]?) /\ RelF (lt w') w' t x vs
 | .int k, _, x, h, w => ⟨w, [.int k x], Nat.le_refl _, fun _ _ => rfl, by simp only [RelF, true_and]; exact h⟩
 | .bool, _, x, h, w => ⟨w, [.bool x], Nat.le_refl _, fun _ _ => rfl, by simp only [RelF]⟩
 | .str, _, x, h, w => ⟨w, [.string x], Nat.le_refl _, fun _ _ => rfl, by simp only [RelF, true_and]; exact h⟩
 | .u, _, x, h, w => ⟨w, [], Nat.le_refl _, fun _ _ => rfl, by simp only [RelF]⟩
 | .p a b, hr, x, h, w => by
  simp only [reT, nob_eq, Bool.and_eq_true] at hr
  obtain ⟨w1, va, a1, a2, a3⟩ := rep a hr.1 x.1 h.1 w
  obtain ⟨w2, vb, b1, b2, b3⟩ := rep b hr.2 x.2 h.2 w1
  refine ⟨w2, va ++ vb, Nat.le_trans a1 b1, fun c hc => (b2 c (Nat.lt_of_lt_of_le hc a1)).trans (a2 c hc), ?_⟩
  simp only [RelF]
  exact ⟨va, vb, rfl, RelF.keep (grow_keep b1 b2) _ _ _ a3, b3⟩
 | .pt t, hr, x, h, w => by
  obtain ⟨w1, vs, a1, a2, a3⟩ := rep t hr x h w
  refine ⟨World.put w1 vs, [.pointer (some ⟨w1.heap.size, 0, none⟩)], by rw [put_size]; omega, fun b hb => by rw [put_old _ _ _ (by omega)]; exact a2 b hb, ?_⟩
  simp only [RelF]
  refine ⟨w1.heap.size, 0, vs, rfl, by simp only [lt, put_size]; omega, put_cells _ _ _ _ (fun j u hu => by rw [Nat.zero_add]; exact hu), ?_⟩
  exact RelF.keep (grow_keep (by rw [put_size]; omega) (fun b hb => put_old _ _ b hb)) _ _ _ a3
 | .sl e, hr, l, h, w => by
  have h' : l.length <= nb /\ ∀ y ∈ l, e.ok y := h
  obtain ⟨w1, vss, a1, a2, a3, a4⟩ := rep_l (rep e hr) l h'.2 w
  have hlen : ∀ us ∈ vss, us.length = e.size := fun us hu => by
   obtain ⟨i, hi, rfl⟩ := List.getElem_of_mem hu
   exact RelF.len _ _ _ (a4 i (l[i]'(by omega)) _ (List.getElem?_eq_getElem (by omega)) (List.getElem?_eq_getElem hi))
  refine ⟨World.put w1 vss.flatten, [.slice (some ⟨w1.heap.size, 0, none⟩) l.length l.length], by rw [put_size]; omega, fun b hb => by rw [put_old _ _ _ (by omega)]; exact a2 b hb, ?_⟩
  simp only [RelF]
  refine ⟨some ⟨w1.heap.size, 0, none⟩, l.length, rfl, ⟨h'.1, Nat.le_refl _⟩, (fun h => nomatch h), fun a ha hp => ?_⟩
  cases ha
  refine ⟨rfl, by simp only [lt, put_size]; omega, fun i x hx => ?_⟩
  have hi := (List.getElem?_eq_some_iff.1 hx).1
  have hv : vss[i]? = some (vss[i]'(by omega)) := List.getElem?_eq_getElem (by omega)
  refine ⟨_, put_cells _ _ _ (vss[i]'(by omega)) (fun j u hu => ?_), RelF.keep (grow_keep (by rw [put_size]; omega) (fun b hb => put_old _ _ b hb)) _ _ _ (a4 i x _ hx hv)⟩
  rw [Nat.zero_add]
  exact flat_get vss hlen i _ hv j u hu
 | .fn _ _, hr, _, _, _ => by simp [reT] at hr
 | .ifc _ _, hr, _, _, _ => by simp [reT] at hr
 | .mp _ _, hr, _, _, _ => by simp [reT] at hr
 | .op _, hr, _, _, _ => by simp [reT] at hr
 | .any, hr, _, _, _ => by simp [reT] at hr
theorem ok_of_oks : (t : T) -> (x : t.den) -> allP (t.oks x) -> t.ok x
 | .int _, x, h => h.1
 | .bool, _, _ => trivial
 | .str, x, h => h.1
 | .u, _, _ => trivial
 | .any, _, _ => trivial
 | .p a b, x, h => by
  simp only [T.oks, allP_ap] at h
  exact ⟨ok_of_oks a x.1 h.1, ok_of_oks b x.2 h.2⟩
 | .sl _, x, h => h.1
 | .pt t, x, h => ok_of_oks t x h
 | .fn _ t, x, h => ok_of_oks t x h
 | .ifc _ t, x, h => ok_of_oks t x h
 | .mp _ _, x, h => h.1
 | .op _, x, h => h.1
def reL : List Bool -> List T -> Bool
 | [], [] => true
 | g :: gs, t :: ts => allT [reT t, orb g (Nat.beq t.size 1), reL gs ts]
 | _, _ => false
theorem argR_keep {A A' : Nat -> Prop} {w w' : World} (h : Keep A A' w w') : (gs : List Bool) -> (ts : List T) -> (x : denL ts) -> (us : List Value) -> ArgR A w gs ts x us -> ArgR A' w' gs ts x us
 | [], [], _, us, r => by simpa only [ArgR] using r
 | [], _ :: _, _, _, r => by simp [ArgR] at r
 | _ :: _, [], _, _, r => by simp [ArgR] at r
 | g :: gs, t :: ts, x, us, r => by
  simp only [ArgR] at r ⊢
  obtain ⟨u, us', vs, h1, h2, h3, h4, h5⟩ := r
  exact ⟨u, us', vs, h1, h2, h3, RelF.keep h _ _ _ h4, argR_keep h gs ts x.2 us' h5⟩
theorem rep_args : (gs : List Bool) -> (ts : List T) -> reL gs ts = true -> (x : denL ts) -> allP (okL ts x) -> ∀ w : World, ∃ w' us, w.heap.size <= w'.heap.size /\ (∀ b, b < w.heap.size -> w'.heap[b]? = w.heap[b]?) /\ ArgR (lt w') w' gs ts x us
 | [], [], _, _, _, w => ⟨w, [], Nat.le_refl _, fun _ _ => rfl, by simp only [ArgR]⟩
 | [], _ :: _, h, _, _, _ => by simp [reL] at h
 | _ :: _, [], h, _, _, _ => by simp [reL] at h
 | g :: gs, t :: ts, h, x, hx, w => by
  simp only [reL, allT_cons, allT_nil, Bool.and_true, Bool.and_eq_true] at h
  obtain ⟨h1, h2, h3⟩ := h
  simp only [okL, allP_ap] at hx
  obtain ⟨w1, vs, a1, a2, a3⟩ := rep t h1 x.1 (ok_of_oks _ _ hx.1) w
  obtain ⟨w2, us, b1, b2, b3⟩ := rep_args gs ts h3 x.2 hx.2 w1
  have k := grow_keep b1 b2
  have hk := RelF.keep k _ _ _ a3
  cases g with
  | true =>
   refine ⟨w2, .agg vs.toArray :: us, Nat.le_trans a1 b1, fun c hc => (b2 c (Nat.lt_of_lt_of_le hc a1)).trans (a2 c hc), ?_⟩
   simp only [ArgR]
   exact ⟨_, us, vs, rfl, fun _ => rfl, (fun h => nomatch h), hk, b3⟩
  | false =>
   simp only [orb_eq, Bool.false_or] at h2
   have hl := (RelF.len _ _ _ a3).trans (Nat.eq_of_beq_eq_true h2)
   match vs, hl with
   | [u], _ =>
    refine ⟨w2, u :: us, Nat.le_trans a1 b1, fun c hc => (b2 c (Nat.lt_of_lt_of_le hc a1)).trans (a2 c hc), ?_⟩
    simp only [ArgR]
    exact ⟨u, us, [u], rfl, (fun h => nomatch h), fun _ => rfl, hk, b3⟩
def okR : (rs : List (Bool × O)) -> denR rs -> List Prop
 | [], _ => []
 | q :: rs, x => ap (q.2.strip.oks x.1) (okR rs x.2)
theorem rel_oks {Im : Nat -> Prop} {w : World} (o : O) (x : o.strip.den) (S : Nat -> Prop) (vs : List Value) (h : Rel Im w o x S vs) : allP (o.strip.oks x) :=
 oks_of_ok _ _ (RelF.ok _ _ _ (Rel.frz (Im' := fun _ => True) (fun _ _ => trivial) o x S vs (fun _ _ => trivial) h))
theorem resR_oks {Im : Nat -> Prop} {w : World} : (rs : List (Bool × O)) -> (x : denR rs) -> (S : Nat -> Prop) -> (us : List Value) -> ResR Im w rs x S us -> allP (okR rs x)
 | [], _, _, _, _ => trivial
 | q :: rs, x, S, us, h => by
  simp only [ResR] at h
  obtain ⟨u, us', vs, S1, S2, _, _, _, _, _, _, h7, h8⟩ := h
  simp only [okR, allP_ap]
  exact ⟨rel_oks _ _ _ _ h7, resR_oks rs _ _ _ h8⟩
def dfR : (rs : List (Bool × O)) -> denR rs
 | [] => ()
 | q :: rs => (q.2.strip.dflt, dfR rs)
theorem tri_end (B : Tab) (rs : List ResultVar) (rt : List (Bool × O)) : (p : EX) -> Tri (fun K : denR rt -> Prop => endK B rs rt K p.1 p.2.1 p.2.2)
 | (.nm, env, M) => by
  simp only [endK, endL]
  split
  ·exact Tri.sel _
  ·exact Tri.no
 | (.rt, env, M) => by
  simp only [endK, endL]
  split
  ·exact Tri.sel _
  ·exact Tri.no
 | (.ex _, env, M) => Tri.no
 | (.go _, env, M) => Tri.no
theorem tri_evF (B : Tab) (Φ : FuncId -> Option Ct) (cut : Nat -> Nat) (fn : Func) (c : Code) (A : Ann) (ct : Ct) (x : denL ct.args) : Tri (evF B Φ cut fn c A ct x) :=
 (tri_ev (B := B) (Φ := Φ) cut c A (idxE 0 (argV B (toL fn.params) ct.args x)) []).bind (F := fun K p => endK B (toL fn.results) ct.rt K p.1 p.2.1 p.2.2) (tri_end B (toL fn.results) ct.rt)
theorem tri_endW (B : Tab) (rs : List ResultVar) (W : Wt) : (p : EX) -> Tri (fun K : W.o.strip.den × denR W.rt -> Prop => endW B rs W (fun z r => K (z, r)) p.1 p.2.1 p.2.2)
 | (.nm, env, M) => by
  simp only [endW, endWv]
  split
  ·split
   ·split
    ·split
     ·exact Tri.sel _
     ·exact Tri.no
    ·exact Tri.no
   ·exact Tri.no
  ·exact Tri.no
 | (.rt, env, M) => by
  simp only [endW, endWv]
  split
  ·split
   ·split
    ·split
     ·exact Tri.sel _
     ·exact Tri.no
    ·exact Tri.no
   ·exact Tri.no
  ·exact Tri.no
 | (.ex _, env, M) => Tri.no
 | (.go _, env, M) => Tri.no
theorem tri_evFw (B : Tab) (Φ : FuncId -> Option Ct) (cut : Nat -> Nat) (fn : Func) (c : Code) (A : Ann) (W : Wt) (x : W.o.strip.den) (y : denL W.as) : Tri (fun K : W.o.strip.den × denR W.rt -> Prop => evFw B Φ cut fn c A W x y (fun z r => K (z, r))) :=
 (tri_ev (B := B) (Φ := Φ) cut c A _ _).bind (F := fun K p => endW B (toL fn.results) W (fun z r => K (z, r)) p.1 p.2.1 p.2.2) (tri_endW B (toL fn.results) W)
section
variable {P : Program} {B : Tab} {Φ : FuncId -> Option Ct}
theorem pick_ct (hΦ : Good P Φ) (hB : TabOk P B) (hmix : P.follows .mixedOrders = true) {f : FuncId} {fn : Func} {c : Code} (hf : P.funcs[f]? = some fn) (hb : fn.body = some c) (hn : (fn.name == "runtime.NumGoroutine") = false) (ct : Ct) (A : Ann) (cut : Nat -> Nat)
  (hga : ct.ga = agL B fn) (hfl : orb ct.sh (flatL ct.rt) = true) (hck : okC fn.ntmps cut c = true) (hlen : ct.ga.length <= fn.ntmps) (hre : reL ct.ga ct.args = true) (Q : denL ct.args -> denR ct.rt -> Prop)
  (h : ∀ x, allP (okL ct.args x) -> allP (ct.pre x) -> evF B Φ cut fn c A ct x (Q x)) (x : denL ct.args) :
  ∃ r, allP (okL ct.args x) -> allP (ct.pre x) -> evF B Φ cut fn c A ct x (fun r' => r' = r) /\ allP (okR ct.rt r) /\ Q x r := by
 by_cases h1 : allP (okL ct.args x)
 case neg => exact ⟨ct.res x, fun h => absurd h h1⟩
 by_cases h2 : allP (ct.pre x)
 case neg => exact ⟨ct.res x, fun _ h => absurd h h2⟩
 have go : ∀ Q : denR ct.rt -> Prop, evF B Φ cut fn c A ct x Q -> ∃ r, Q r /\ allP (okR ct.rt r) := fun Q hq => by
  obtain ⟨w, us, _, _, k3⟩ := rep_args ct.ga ct.args hre x h1 default
  obtain ⟨e, w', fr, ⟨r, rs, S, q1, _, _, _, q2⟩, _⟩ := pl_wp hB hf hb hn { ct with pre := fun y => [y = x] } (fun y r => y = x -> Q r) hga hfl hlen
   (fun y _ hy F p a w e1 e2 hst => ev_ok hΦ hB hmix cut c F A _ _ _ (by rw [e1]; exact hck) (by rw [e2]; exact free_none c) (by
    have hyx : y = x := hy.1
    rw [hyx]
    exact (tri_evF B Φ cut fn c A ct x).mono (fun r h _ => h) hq) p a w hst) (lt w) w us x (fun b hb => hb) k3 ⟨rfl, trivial⟩ []
  exact ⟨r, q1 rfl, resR_oks _ _ _ _ q2⟩
 rcases tri_evF B Φ cut fn c A ct x with h3 | h3 | ⟨r, h3⟩
 ·exact (h3 _ (h x h1 h2)).elim
 ·obtain ⟨r, hr, _⟩ := go (fun _ => False) (h3 _)
  exact hr.elim
 ·refine ⟨r, fun _ _ => ⟨(h3 _).2 rfl, ?_, (h3 _).1 (h x h1 h2)⟩⟩
  obtain ⟨r', e, ho⟩ := go (fun r' => r' = r) ((h3 _).2 rfl)
  subst e; exact ho
theorem pick_wt (hΦ : Good P Φ) (hB : TabOk P B) (hmix : P.follows .mixedOrders = true) {f : FuncId} {fn : Func} {c : Code} (hf : P.funcs[f]? = some fn) (hb : fn.body = some c) (hn : (fn.name == "runtime.NumGoroutine") = false) (W : Wt) (A : Ann) (cut : Nat -> Nat)
  (hro : rootO W.o = true) (hga : false :: W.ag = agL B fn) (hck : okC fn.ntmps cut c = true) (hlen : W.ag.length + 1 <= fn.ntmps) (hnw : noW [0] c = true) (hre : reL W.ag W.as = true) (t : T) (hot : W.o = .pt (.fz t)) (hrt : reT t = true)
  (Q : W.o.strip.den -> denL W.as -> W.o.strip.den -> denR W.rt -> Prop)
  (h : ∀ x y, allP (W.o.strip.oks x) -> allP (okL W.as y) -> allP (W.pre x y) -> evFw B Φ cut fn c A W x y (Q x y)) (x : W.o.strip.den) (y : denL W.as) :
  ∃ q : W.o.strip.den × denR W.rt, allP (W.o.strip.oks x) -> allP (okL W.as y) -> allP (W.pre x y) -> evFw B Φ cut fn c A W x y (fun z r => z = q.1 /\ r = q.2) /\ allP (W.o.strip.oks q.1) /\ allP (okR W.rt q.2) /\ Q x y q.1 q.2 := by
 by_cases h1 : allP (W.o.strip.oks x)
 case neg => exact ⟨(W.new x y, W.res x y), fun h => absurd h h1⟩
 by_cases h2 : allP (okL W.as y)
 case neg => exact ⟨(W.new x y, W.res x y), fun _ h => absurd h h2⟩
 by_cases h3 : allP (W.pre x y)
 case neg => exact ⟨(W.new x y, W.res x y), fun _ _ h => absurd h h3⟩
 have go : ∀ Q : W.o.strip.den -> denR W.rt -> Prop, evFw B Φ cut fn c A W x y Q -> ∃ z r, Q z r /\ allP (W.o.strip.oks z) /\ allP (okR W.rt r) := fun Q hq => by
  obtain ⟨w1, us, _, _, k3⟩ := rep_args W.ag W.as hre y h2 default
  have hroot : ∀ (o : O) (x : o.strip.den), o = .pt (.fz t) -> allP (o.strip.oks x) -> ∃ w2 u, w1.heap.size <= w2.heap.size /\ (∀ b, b < w1.heap.size -> w2.heap[b]? = w1.heap[b]?) /\ ∃ S A : Nat -> Prop, (∀ b, b < w1.heap.size -> A b) /\ (∀ b, A b -> b < w2.heap.size) /\ (∀ b, S b -> b < w2.heap.size /\ ¬ A b) /\ Rel A w2 o x S [u] := by
   rintro o x rfl h1
   obtain ⟨w2, vs, a1, a2, a3⟩ := rep t hrt x (ok_of_oks _ _ h1) w1
   refine ⟨World.put w2 vs, .pointer (some ⟨w2.heap.size, 0, none⟩), by rw [put_size]; omega, fun b hb => by rw [put_old _ _ _ (by omega)]; exact a2 b hb, fun b => b = w2.heap.size, lt w2, fun b hb => by simp only [lt]; omega, fun b hb => by rw [put_size]; simp only [lt] at hb; omega, fun b hb => by subst hb; rw [put_size]; simp only [lt]; omega, ?_⟩
   simp only [Rel]
   exact ⟨w2.heap.size, vs, 0, fun _ => False, rfl, rfl, put_new _ _, fun c h => h.elim, RelF.keep (fun b hb => ⟨hb, put_old _ _ b hb⟩) _ _ _ a3⟩
  obtain ⟨w2, u, b1, b2, S, A', c1, c2, c3, c4⟩ := hroot W.o x hot h1
  obtain ⟨e, w', fr, ⟨z, r, rs, R, S', q1, _, _, _, _, q2, q3⟩, _⟩ := wt_q hΦ hB hmix hf hb hn W (fun x' y' => x' = x /\ y' = y) (fun x' y' z r => x' = x -> y' = y -> Q z r) A cut hro hga hck hlen hnw
   (fun x' y' _ _ hy => by
    have e1 : x' = x := hy.1
    have e2 : y' = y := hy.2
    rw [e1, e2]
    exact (tri_evFw B Φ cut fn c A W x y).mono (K := fun p => Q p.1 p.2) (K' := fun p => x = x -> y = y -> Q p.1 p.2) (fun r h _ _ => h) hq) A' w2 u x us y S c2 c3 c4 (argR_keep (fun b hb => ⟨c1 b hb, b2 b hb⟩) _ _ _ _ k3) ⟨rfl, rfl⟩ []
  exact ⟨z, r, q1 rfl rfl, rel_oks _ _ _ _ q2, resR_oks _ _ _ _ q3⟩
 rcases tri_evFw B Φ cut fn c A W x y with h4 | h4 | ⟨q, h4⟩
 ·exact (h4 (fun p => Q x y p.1 p.2) (h x y h1 h2 h3)).elim
 ·obtain ⟨z, r, hr, _⟩ := go (fun _ _ => False) (h4 (fun _ => False))
  exact hr.elim
 ·have e1 := (h4 (fun p => p.1 = q.1 /\ p.2 = q.2)).2 ⟨rfl, rfl⟩
  refine ⟨q, fun _ _ _ => ⟨e1, ?_⟩⟩
  obtain ⟨z, r, ⟨rfl, rfl⟩, o1, o2⟩ := go (fun z r => z = q.1 /\ r = q.2) e1
  exact ⟨o1, o2, (h4 (fun p => Q x y p.1 p.2)).1 (h x y h1 h2 h3)⟩
theorem pick_by (hΦ : Good P Φ) (hB : TabOk P B) (hmix : P.follows .mixedOrders = true) {f : FuncId} {fn : Func} {c : Code} (hf : P.funcs[f]? = some fn) (hb : fn.body = some c) (hn : (fn.name == "runtime.NumGoroutine") = false) (ct : Ct) (A : Ann) (cut : Nat -> Nat)
  (hga : ct.ga = agL B fn) (hfl : orb ct.sh (flatL ct.rt) = true) (hck : okC fn.ntmps cut c = true) (hlen : ct.ga.length <= fn.ntmps) (hre : reL ct.ga ct.args = true)
  (W : denL ct.args -> (denR ct.rt -> Prop) -> Prop) (hw : ∀ x K, evF B Φ cut fn c A ct x K = W x K) (Q : denL ct.args -> denR ct.rt -> Prop)
  (hm : ∀ x, allP (okL ct.args x) -> allP (ct.pre x) -> W x (Q x)) (x : denL ct.args) :
  ∃ r, allP (okL ct.args x) -> allP (ct.pre x) -> W x (fun r' => r' = r) /\ allP (okR ct.rt r) /\ Q x r := by
 obtain ⟨r, h⟩ := pick_ct hΦ hB hmix hf hb hn ct A cut hga hfl hck hlen hre Q (fun x h1 h2 => (hw x _).mpr (hm x h1 h2)) x
 exact ⟨r, fun h1 h2 => ⟨(hw x _).mp (h h1 h2).1, (h h1 h2).2⟩⟩
theorem pick_wy (hΦ : Good P Φ) (hB : TabOk P B) (hmix : P.follows .mixedOrders = true) {f : FuncId} {fn : Func} {c : Code} (hf : P.funcs[f]? = some fn) (hb : fn.body = some c) (hn : (fn.name == "runtime.NumGoroutine") = false) (W : Wt) (A : Ann) (cut : Nat -> Nat)
  (hro : rootO W.o = true) (hga : false :: W.ag = agL B fn) (hck : okC fn.ntmps cut c = true) (hlen : W.ag.length + 1 <= fn.ntmps) (hnw : noW [0] c = true) (hre : reL W.ag W.as = true) (t : T) (hot : W.o = .pt (.fz t)) (hrt : reT t = true)
  (V : W.o.strip.den -> denL W.as -> (W.o.strip.den -> denR W.rt -> Prop) -> Prop) (hw : ∀ x y K, evFw B Φ cut fn c A W x y K = V x y K)
  (Q : W.o.strip.den -> denL W.as -> W.o.strip.den -> denR W.rt -> Prop)
  (hm : ∀ x y, allP (W.o.strip.oks x) -> allP (okL W.as y) -> allP (W.pre x y) -> V x y (Q x y)) (x : W.o.strip.den) (y : denL W.as) :
  ∃ q : W.o.strip.den × denR W.rt, allP (W.o.strip.oks x) -> allP (okL W.as y) -> allP (W.pre x y) -> V x y (fun z r => z = q.1 /\ r = q.2) /\ allP (W.o.strip.oks q.1) /\ allP (okR W.rt q.2) /\ Q x y q.1 q.2 := by
 obtain ⟨q, h⟩ := pick_wt hΦ hB hmix hf hb hn W A cut hro hga hck hlen hnw hre t hot hrt Q (fun x y h1 h2 h3 => (hw x y _).mpr (hm x y h1 h2 h3)) x y
 exact ⟨q, fun h1 h2 h3 => ⟨(hw x y _).mp (h h1 h2 h3).1, (h h1 h2 h3).2⟩⟩
end
end Go.Bm
/- The typed machine: a function whose code jumps back to labels. -/
namespace Go.Bm
open Go.RowKit
section
variable {F : Fr} {p : Ow} {env : Env} {M : Mem} {a : Act} {w : World} {P : Program} {B : Tab} {Φ : FuncId -> Option Ct}
end
end Go.Bm
/- Numbers written into data one after the other, and read back. No condition. -/
namespace Go.Bm
end Go.Bm
/- The data of the types of the program. No condition. -/
namespace Go.Bm
abbrev CategoryT : T := (.p (.int .i64) (.p (.sl (.int .i64)) (.p (.sl (.int .i64)) (.p (.sl (.int .i64)) (.sl (.sl (.int .i64)))))))
abbrev CategoryD : Type := Int × ((List Int) × ((List Int) × ((List Int) × (List (List Int)))))
abbrev CategoryO : O := (.p (.fz (.int .i64)) (.p (.sl (.fz (.int .i64))) (.p (.sl (.fz (.int .i64))) (.p (.sl (.fz (.int .i64))) (.sl (.sl (.fz (.int .i64))))))))
abbrev endsT : T := (.p (.int .i64) (.int .i64))
abbrev endsD : Type := Int × Int
abbrev MonoidalT : T := (.p CategoryT (.p (.int .i64) (.p (.sl (.sl (.int .i64))) (.sl (.sl (.int .i64))))))
abbrev MonoidalD : Type := CategoryD × (Int × ((List (List Int)) × (List (List Int))))
abbrev spec_l01SourceT : T := (.p (.sl (.int .u8)) (.p (.int .i64) (.int .u64)))
abbrev spec_l01SourceD : Type := (List Int) × (Int × Int)
end Go.Bm
/- Small facts about lists, for the walks. No condition. -/
namespace Go.Bm
def inR (n lo hi : Int) : Bool := decide (lo <= n) && decide (n <= hi)
theorem inR_iff {n lo hi : Int} : inR n lo hi = true ↔ lo <= n /\ n <= hi := by simp [inR]
def withinR (l : List Int) (n : Int) : Bool := l.all fun y => inR y 0 (n - 1)
theorem within_iff {l : List Int} {n : Int} : withinR l n = true ↔ ∀ i : Int, 0 <= i -> i < l.length -> 0 <= l.getD i.toNat 0 /\ l.getD i.toNat 0 < n := by
 simp only [withinR, List.all_eq_true, inR, Bool.and_eq_true, decide_eq_true_eq]
 constructor
 ·intro h i h0 h1
  have := h _ (getD_mem l 0 h0 h1)
  omega
 ·intro h x hx
  obtain ⟨k, hk, rfl⟩ := List.getElem_of_mem hx
  have := h k (by omega) (by omega)
  rw [Int.toNat_natCast, List.getD_eq_getElem?_getD, List.getElem?_eq_getElem hk] at this
  simp only [Option.getD_some] at this
  omega
def allB : Nat -> (Int -> Bool) -> Bool
 | 0, _ => true
 | n + 1, p => allB n p && p n
theorem allB_iff {p : Int -> Bool} : ∀ {n : Nat}, allB n p = true ↔ ∀ i : Int, 0 <= i -> i < n -> p i = true
 | 0 => by simp only [allB, true_iff]; intro i h0 h1; omega
 | n + 1 => by
  simp only [allB, Bool.and_eq_true, allB_iff (n := n)]
  constructor
  ·rintro ⟨h1, h2⟩ i h0 hi
   by_cases e : i = n
   ·rw [e]; exact h2
   ·exact h1 i h0 (by omega)
  ·intro h
   exact ⟨fun i h0 h1 => h i h0 (by omega), h n (by omega) (by omega)⟩
def scanR {α : Type} (p : Int -> Option α) : Nat -> Int -> Option α
 | 0, _ => none
 | k + 1, i => match p i with | some r => some r | none => scanR p k (i + 1)
theorem scan_s {α : Type} {p : Int -> Option α} {n i : Int} {r : α} (h : i < n) (hp : p i = some r) : scanR p (n - i).toNat i = some r := by
 rw [show (n - i).toNat = (n - (i + 1)).toNat + 1 from by omega, scanR, hp]
theorem scan_c {α : Type} {p : Int -> Option α} {n i : Int} (h : i < n) (hp : p i = none) : scanR p (n - i).toNat i = scanR p (n - (i + 1)).toNat (i + 1) := by
 rw [show (n - i).toNat = (n - (i + 1)).toNat + 1 from by omega, scanR, hp]
theorem scan_n {α : Type} {p : Int -> Option α} {n : Int} : scanR p (n - n).toNat n = none := by
 rw [show (n - n).toNat = 0 from by omega, scanR]
theorem scan_0 {α : Type} {p : Int -> Option α} {n : Nat} : scanR p n 0 = scanR p ((n : Int) - 0).toNat 0 := by rw [show ((n : Int) - 0).toNat = n from by omega]
def orR {α : Type} : Option α -> α -> α
 | some x, _ => x
 | none, y => y
def selR : Nat -> (Int -> Bool) -> List Int
 | 0, _ => []
 | n + 1, p => if p n = true then selR n p ++ [(n : Int)] else selR n p
theorem sel_t {p : Int -> Bool} {i : Int} (h0 : 0 <= i) (h : p i = true) : selR (i + 1).toNat p = selR i.toNat p ++ [i] := by
 rw [show (i + 1).toNat = i.toNat + 1 from by omega, selR, show ((i.toNat : Nat) : Int) = i from by omega, if_pos h]
theorem sel_f {p : Int -> Bool} {i : Int} (h0 : 0 <= i) (h : p i = false) : selR (i + 1).toNat p = selR i.toNat p := by
 rw [show (i + 1).toNat = i.toNat + 1 from by omega, selR, show ((i.toNat : Nat) : Int) = i from by omega, if_neg (by rw [h]; simp)]
theorem sel_len {p : Int -> Bool} : ∀ n : Nat, (selR n p).length <= n
 | 0 => Nat.le_refl _
 | n + 1 => by
  have := sel_len (p := p) n
  unfold selR
  split
  ·rw [List.length_append]; simp; omega
  ·omega
theorem sel_mem {p : Int -> Bool} {x : Int} : ∀ {n : Nat}, x ∈ selR n p ↔ 0 <= x /\ x < n /\ p x = true
 | 0 => by simp only [selR, List.not_mem_nil, false_iff]; omega
 | n + 1 => by
  unfold selR
  split
  ·rename_i h
   rw [List.mem_append, sel_mem, List.mem_singleton]
   constructor
   ·rintro (⟨a, b, c⟩ | rfl)
    ·exact ⟨a, by omega, c⟩
    ·exact ⟨by omega, by omega, h⟩
   ·rintro ⟨a, b, c⟩
    by_cases e : x = n
    ·exact .inr e
    ·exact .inl ⟨a, by omega, c⟩
  ·rename_i h
   rw [sel_mem]
   constructor
   ·rintro ⟨a, b, c⟩; exact ⟨a, by omega, c⟩
   ·rintro ⟨a, b, c⟩
    by_cases e : x = n
    ·subst e; exact absurd c h
    ·exact ⟨a, by omega, c⟩
theorem room_of {n m b : Nat} (h : (n + m) * b <= 140737488355328) : room n m b := by unfold room; rw [nb_eq]; exact h
theorem allB_s {p : Int -> Bool} {i : Int} (h0 : 0 <= i) : allB (i + 1).toNat p = (allB i.toNat p && p i) := by
 rw [show (i + 1).toNat = i.toNat + 1 from by omega, allB, show ((i.toNat : Nat) : Int) = i from by omega]
theorem all_ix {α : Type} {d : α} {l : List α} {p : α -> Prop} : (∀ a ∈ l, p a) ↔ ∀ i : Int, 0 <= i -> i < l.length -> p (l.getD i.toNat d) := by
 constructor
 ·intro h i h0 h1; exact h _ (getD_mem l d h0 h1)
 ·intro h a ha
  obtain ⟨k, hk, rfl⟩ := List.getElem_of_mem ha
  have := h k (by omega) (by omega)
  rw [Int.toNat_natCast, List.getD_eq_getElem?_getD, List.getElem?_eq_getElem hk] at this
  exact this
theorem loop_ixa {α : Type} (F : Int -> α) {n i0 : Int} {a0 : α} {body : (Unit × (Int × Unit)) × (α × Unit) -> ((Unit × (Int × Unit)) × (α × Unit) -> Prop) -> Prop} (hn : i0 <= n) (h0 : a0 = F i0)
  (hs : ∀ i next, i0 <= i -> i < n -> next (((), (i + 1, ())), (F (i + 1), ())) -> body (((), (i, ())), (F i, ())) next) (he : ∀ next, body (((), (n, ())), (F n, ())) next) : loopW body (((), (i0, ())), (a0, ())) := by
 refine loop_of (fun s => s.2.1 = F s.1.2.1 /\ i0 <= s.1.2.1 /\ s.1.2.1 <= n) (fun s => (n - s.1.2.1).toNat) ?_ ⟨h0, Int.le_refl _, hn⟩
 rintro ⟨⟨_, i, _⟩, y, _⟩ next ⟨hy, h1, h2⟩ hnx
 dsimp only at hy h1 h2 hnx
 subst hy
 by_cases e : i = n
 ·subst e; exact he next
 ·exact hs i next h1 (by omega) (hnx _ ⟨rfl, by dsimp only; omega, by dsimp only; omega⟩ (by dsimp only; omega))
theorem loop_allB (n : Nat) (p : Int -> Bool) {body : (Int × Unit) × Unit -> ((Int × Unit) × Unit -> Prop) -> Prop}
  (hs : ∀ (i : Int) next, 0 <= i -> i < n -> (p i = false -> allB n p = false) -> (p i = true -> next ((i + 1, ()), ())) -> body ((i, ()), ()) next)
  (he : ∀ next, allB n p = true -> body (((n : Int), ()), ()) next) : loopW body ((0, ()), ()) := by
 refine loop_ix (n := n) (fun i => allB i.toNat p = true) (by omega) rfl ?_ ?_
 ·intro i next i0 i1 hP hn
  rw [allB_s i0, hP, Bool.true_and] at hn
  refine hs i next i0 i1 (fun h => ?_) hn
  cases hb : allB n p with
  | false => rfl
  | true => rw [allB_iff.1 hb i i0 i1] at h; cases h
 ·intro next hP
  exact he next hP
end Go.Bm
