/- The typed machine that the walks of this claim go by: its data, its operations and the proof that each is sound. No condition. -/
import Derived.Test.YtdcandojebpfnaaBmThree
set_option linter.unusedVariables false
set_option linter.unusedSimpArgs false
set_option linter.unusedSectionVars false
/- The typed machine: the state is read back. -/
namespace Go.Bm
open Go.RowKit
section
variable {F : Fr} {p p' p'' : Ow} {env : Env} {M M' M'' : Mem} {a : Act} {w w' w'' : World}
theorem Tr.mv (h : Hp F p M w) {j k : Nat} {ob : Ob} (hj : go M j = some ob) (hk : go M k = none) (hg : j < gid) :
  Tr F p M w [.mv j k] ⟨fun i => if i = k then p.β j else p.β i, fun i => if i = k then p.σ j else p.σ i, p.L⟩ ((k, ob) :: del j M) w := by
 generalize hp' : (⟨fun i => if i = k then p.β j else p.β i, fun i => if i = k then p.σ j else p.σ i, p.L⟩ : Ow) = p'
 have hjk : j ≠ k := by rintro rfl; rw [hj] at hk; cases hk
 have hβk : p'.β k = p.β j := by rw [← hp']; simp
 have hσk : p'.σ k = p.σ j := by rw [← hp']; simp
 have hβ : ∀ i, i ≠ k -> p'.β i = p.β i := fun i hi => by rw [← hp']; simp [hi]
 have hσ : ∀ i, i ≠ k -> p'.σ i = p.σ i := fun i hi => by rw [← hp']; simp [hi]
 have hL : p'.L = p.L := by rw [← hp']
 have hgk : go ((k, ob) :: Bm.del j M) k = some ob := go_new_self _ _ _
 have hgi : ∀ i, i ≠ k -> i ≠ j -> go ((k, ob) :: Bm.del j M) i = go M i := fun i h1 h2 => by rw [go_cons, if_neg (Ne.symm h1), go_del_ne h2]
 have hgj : go ((k, ob) :: Bm.del j M) j = none := by rw [go_cons, if_neg (Ne.symm hjk), go_del_self]
 have hlive : ∀ i, Live ((k, ob) :: Bm.del j M) i -> i = k ∨ (i ≠ k /\ i ≠ j /\ Live M i) := fun i hi => by
  by_cases e : i = k
  ·exact .inl e
  ·by_cases e' : i = j
   ·subst e'; unfold Live at hi; rw [hgj] at hi; cases hi
   ·refine .inr ⟨e, e', ?_⟩
    unfold Live at hi ⊢; rwa [hgi i e e'] at hi
 have hlj := go_live hj
 have hkeep : Keep (Imm F p M w) (Imm F p' ((k, ob) :: Bm.del j M) w) w w := fun b hb => by
  refine ⟨⟨hb.1, hb.2.1, by rw [hL]; exact hb.2.2.1, fun i hi => ?_⟩, rfl⟩
  rcases hlive i hi with rfl | ⟨h1, h2, h3⟩
  ·rw [hσk]; exact hb.2.2.2 j hlj
  ·rw [hσ i h1]; exact hb.2.2.2 i h3
 have hne : ∀ i, Live M i -> i ≠ k := fun i hi e => by subst e; unfold Live at hi; rw [hk] at hi; cases hi
 refine Tr.one _ hkeep (fun i π vs r => ?_) (fun i π v r => ?_) ⟨fun i o hi => ?_, fun i i' b hne' hi hi' hb => ?_, fun i b hi hb => ?_, fun b hb => ?_, h.os, h.tape, h.output, h.size, h.old⟩
 ·simp only [Ev.ref, beq_cond]
  have hik : i ≠ k := by obtain ⟨o, _, h1, _⟩ := r; exact hne i (go_live h1)
  split
  ·rename_i e
   subst e
   simp only [RelC]
   obtain ⟨o, pl, h1, h2, h3, h4⟩ := r
   rw [hj] at h1; cases h1
   exact ⟨ob, pl, hgk, h2, h3, by rw [hβk]; exact h4⟩
  ·rename_i e
   simp only [RelC]
   exact r.same h (hgi i hik e) (hβ i hik) (fun _ _ _ => rfl)
 ·simp only [Ev.ad, beq_cond]
  have hik : i ≠ k := by obtain ⟨o, _, _, _, h1, _⟩ := r; exact hne i (go_live h1)
  split
  ·rename_i e
   subst e
   simp only [RelC]
   obtain ⟨o, us, b, off, h1, h2, h3, h4, h5, h6⟩ := r
   rw [hj] at h1; cases h1
   exact ⟨v, rfl, ob, us, b, off, hgk, h2, h3, h4, by rw [hβk]; exact h5, h6⟩
  ·rename_i e
   simp only [RelC]
   exact ⟨v, rfl, r.same h (hgi i hik e) (hβ i hik) (fun _ _ _ => rfl)⟩
 ·rcases hlive i (go_live hi) with rfl | ⟨h1, h2, h3⟩
  ·rw [hgk] at hi; cases hi
   rw [hβk, hσk]
   exact Rel.keep hkeep _ _ _ _ (fun _ _ => rfl) (h.objs j ob hj)
  ·rw [hgi i h1 h2] at hi
   rw [hβ i h1, hσ i h1]
   exact Rel.keep hkeep _ _ _ _ (fun _ _ => rfl) (h.objs i o hi)
 ·rcases hlive i hi with e | ⟨h1, h2, h3⟩
  ·rcases hlive i' hi' with e' | ⟨h1', h2', h3'⟩
   ·exact absurd (e.trans e'.symm) hne'
   ·rw [e, hσk] at hb
    rw [hσ i' h1']; exact h.sep j i' b (Ne.symm h2') hlj h3' hb
  ·rw [hσ i h1] at hb
   rcases hlive i' hi' with e' | ⟨h1', h2', h3'⟩
   ·rw [e', hσk]; exact h.sep i j b h2 h3 hlj hb
   ·rw [hσ i' h1']; exact h.sep i i' b hne' h3 h3' hb
 ·rcases hlive i hi with e | ⟨h1, h2, h3⟩
  ·rw [e, hσk] at hb
   obtain ⟨o1, o2⟩ := h.own j b hlj hb
   exact ⟨o1, o2.elim (fun h => by have := h.1; omega) .inr⟩
  ·rw [hσ i h1] at hb; exact h.own i b h3 hb
 ·rw [hL] at hb
  obtain ⟨l1, l2, l3⟩ := h.lim b hb
  refine ⟨l1, l2, fun i hi => ?_⟩
  rcases hlive i hi with e | ⟨h1, h2, h3⟩
  ·rw [e, hσk]; exact l3 j hlj
  ·rw [hσ i h1]; exact l3 i h3
theorem St.desc (h : St F p env M a w) (t : Nat) (x : V) (hx : RelS p.β M (Imm F p M w) w x (a.tmps.getD t undef)) : St F p ((t, x) :: env) M a w := by
 refine ⟨h.defers, h.nt, h.fix, h.ik, h.lz, fun t' => ?_, h.hp⟩
 rw [gt_cons]
 by_cases e : t = t'
 ·subst e; rw [if_pos rfl]; exact hx
 ·rw [if_neg e]; exact h.slots t'
theorem adopt_ok (os : Obs) : (ss : Shs) -> (p : Ow) -> (env : Env) -> (M : Mem) -> St F p env M a w -> ∃ p', St F p' (adopt os ss env M).1 (adopt os ss env M).2 a w
 | [], p, env, M, h => ⟨p, h⟩
 | (t, .d _) :: r, p, env, M, h => by simp only [adopt]; exact adopt_ok os r p env M h
 | (t, .ad _ _) :: r, p, env, M, h => by simp only [adopt]; exact adopt_ok os r p env M h
 | (t, .fn _) :: r, p, env, M, h => by simp only [adopt]; exact adopt_ok os r p env M h
 | (t, .bx _) :: r, p, env, M, h => by simp only [adopt]; exact adopt_ok os r p env M h
 | (t, .fc _ _) :: r, p, env, M, h => by simp only [adopt]; exact adopt_ok os r p env M h
 | (t, .pr _ _) :: r, p, env, M, h => by simp only [adopt]; exact adopt_ok os r p env M h
 | (t, .u) :: r, p, env, M, h => by simp only [adopt]; exact adopt_ok os r p env M h
 | (t, .ref _ (_ :: _)) :: r, p, env, M, h => by simp only [adopt]; exact adopt_ok os r p env M h
 | (t, .ref k []) :: r, p, env, M, h => by
  simp only [adopt]
  split
  ·rename_i o hnl _
   have hs := h.slots t
   rw [hnl] at hs
   simp only [RelS, RelC, List.cons.injEq, and_true] at hs
   have h1 : St F p (evE (.kl k) env) (del k M) a w := h.tr (Tr.kl h.hp k) h.lz
   obtain ⟨oa, hs⟩ := hs
   have h2 := Tr.new h1.hp k (go_del_self k M) (.slice oa 0 0) (fun _ => False) ⟨.sl o, []⟩ ⟨rfl, ⟨rfl, Nat.le_refl _⟩, rfl, Nat.le_refl _, fun _ _ _ => rfl⟩ (fun b hb => hb.elim) (fun _ => nil_rel o oa)
   have h3 : St F _ (evE (.kl k) env) ((k, ⟨.sl o, []⟩) :: del k M) a w := h1.tr h2 (fun b hb => hb)
   refine adopt_ok os r _ _ _ (h3.desc t (.ref k []) ?_)
   simp only [RelS, RelC]
   refine ⟨⟨.sl o, []⟩, none, go_new_self _ _ _, by simp only [gok], ⟨⟨.sl o, []⟩, by simp only [get]⟩, ?_⟩
   rw [upd_same, hs]
   simp only [res]
  ·rename_i j x
   cases hb : orb (Nat.beq j k) (neg (Nat.ble (Nat.succ j) gid)) with
   | true => simp only [cond_true]; exact adopt_ok os r p env M h
   | false =>
    simp only [cond_false]
    simp only [orb_eq, neg_eq, Bool.or_eq_false_iff, Bool.not_eq_false'] at hb
    split
    ·rename_i ob hj
     have hjk : j ≠ k := by rintro rfl; simp at hb
     have h1 : St F p (evE (.kl k) env) (del k M) a w := h.tr (Tr.kl h.hp k) h.lz
     have h2 := Tr.mv h1.hp (j := j) (k := k) (ob := ob) (by rw [go_del_ne hjk]; exact hj) (go_del_self k M) (Nat.le_of_ble_eq_true hb.2)
     have h3 : St F _ (evE (.mv j k) (evE (.kl k) env)) ((k, ob) :: del j (del k M)) a w := h1.tr h2 h1.lz
     exact adopt_ok os r _ _ _ h3
    ·exact adopt_ok os r p env M h
  ·exact adopt_ok os r p env M h
theorem openA_ok : (os : Obs) -> (p : Ow) -> (env : Env) -> (M : Mem) -> St F p env M a w -> ∃ p', St F p' (openA os env M).1 (openA os env M).2 a w
 | [], p, env, M, h => ⟨p, h⟩
 | (k, o) :: r, p, env, M, h => by
  unfold openA
  split
  ·exact ⟨p, h⟩
  ·rename_i k' e r' heq
   cases heq
   split
   ·rename_i e' l hg
    split
    ·rename_i l' hl'
     have hq := castO_some hl'
     simp only [Ob.mk.injEq, O.sl.injEq] at hq
     obtain ⟨rfl, hq⟩ := hq
     cases hq
     have t1 := Tr.relab (ob' := ⟨.sl (.op e'), opnR l⟩) h.hp hg (fun ρ => by cases ρ with | nil => rfl | cons s _ => cases s <;> rfl) (fun Im r => opn_rel r)
     exact openA_ok r _ _ _ (h.tr t1 h.lz)
    ·exact openA_ok r _ _ _ h
   ·exact openA_ok r _ _ _ h
  ·rename_i heq
   cases heq
   exact openA_ok r _ _ _ h
theorem frzRest_ok (os : Obs) : (ks : List Nat) -> (M : Mem) -> (env : Env) -> St F p env M a w -> St F p (frzRest os ks M env).1 (frzRest os ks M env).2 a w
 | [], M, env, h => h
 | k :: r, M, env, h => by
  simp only [frzRest]
  cases inO k os with
  | true => simp only [cond_true]; exact frzRest_ok os r M env h
  | false =>
   simp only [cond_false]
   split
   ·rename_i ob hk
    have h1 : St F p (evE (.fz k ob) env) (del k M) a w := h.tr (Tr.frz h.hp k ob hk) h.lz
    exact frzRest_ok os r _ _ h1
   ·exact frzRest_ok os r M env h
theorem readO_get (M : Mem) : (os : Obs) -> (x : denO os) -> readO M os = some x -> ∀ k ob, go (putO os x) k = some ob -> oOf k os = some ob.o /\ ∃ q, go M k = some q /\ wkO q ob.o = some ob.x
 | [], x, h, k, ob, hk => by simp [putO, go] at hk
 | (j, o) :: r, x, h, k, ob, hk => by
  simp only [readO] at h
  split at h
  ·rename_i q hq
   split at h
   ·rename_i y z hy hz
    cases h
    simp only [putO] at hk
    rw [go_cons] at hk
    simp only [oOf, beq_cond]
    by_cases e : j = k
    ·subst e
     rw [if_pos rfl] at hk ⊢
     cases hk
     exact ⟨rfl, q, hq, hy⟩
    ·rw [if_neg e] at hk ⊢
     exact readO_get M r z hz k ob hk
   ·cases h
  ·cases h
theorem readO_has (M : Mem) : (os : Obs) -> (x : denO os) -> readO M os = some x -> ∀ k o, oOf k os = some o -> ∃ y, go (putO os x) k = some ⟨o, y⟩
 | [], x, h, k, o, hk => by simp [oOf] at hk
 | (j, o') :: r, x, h, k, o, hk => by
  simp only [readO] at h
  split at h
  ·rename_i q hq
   split at h
   ·rename_i y z hy hz
    cases h
    simp only [oOf, beq_cond] at hk
    simp only [putO]
    rw [go_cons]
    by_cases e : j = k
    ·subst e
     rw [if_pos rfl] at hk ⊢
     cases hk
     exact ⟨y, rfl⟩
    ·rw [if_neg e] at hk ⊢
     exact readO_has M r z hz k o hk
   ·cases h
  ·cases h
theorem wkO_some {q : Ob} {o : O} {x : o.strip.den} (h : wkO q o = some x) : q.o.wk o = true /\ castT o.strip q.x = some x := by
 unfold wkO at h
 cases hw : q.o.wk o with
 | false => rw [hw] at h; cases h
 | true => rw [hw] at h; exact ⟨rfl, h⟩
theorem weaken (h : Hp F p M w) (hL : ∀ b, ¬ p.L b) (os : Obs) (x : denO os) (hx : readO M os = some x) : ∃ p', p'.β = p.β /\ (∀ b, ¬ p'.L b) /\ Keep (Imm F p M w) (Imm F p' (putO os x) w) w w /\ Hp F p' (putO os x) w := by
 classical
 have hall : ∀ k ob, go (putO os x) k = some ob -> Live M k /\ Wk (Imm F p M w) w ob.o ob.x (p.σ k) [p.β k] := fun k ob hk => by
  obtain ⟨_, q, h1, h2⟩ := readO_get M os x hx k ob hk
  obtain ⟨h3, h4⟩ := wkO_some h2
  exact ⟨go_live h1, wk_rel q.o ob.o h3 q.x ob.x _ _ h4 (h.objs k q h1)⟩
 let σ' : Nat -> Nat -> Prop := fun k => if hk : ∃ ob, go (putO os x) k = some ob then (hall k hk.choose hk.choose_spec).2.choose else fun _ => False
 have hσ : ∀ k ob, go (putO os x) k = some ob -> (∀ b, σ' k b -> p.σ k b) /\ ∀ Im' : Nat -> Prop, (∀ b, Imm F p M w b -> Im' b) -> (∀ b, p.σ k b -> ¬ σ' k b -> Im' b) -> Rel Im' w ob.o ob.x (σ' k) [p.β k] := fun k ob hk => by
  have hex : ∃ ob, go (putO os x) k = some ob := ⟨ob, hk⟩
  have e1 : σ' k = (hall k hex.choose hex.choose_spec).2.choose := by simp only [σ', dif_pos hex]
  have h2 := (hall k hex.choose hex.choose_spec).2.choose_spec
  have e2 : ob = hex.choose := Option.some.inj (hk.symm.trans hex.choose_spec)
  rw [e1, e2]
  exact h2
 have hlv : ∀ k, Live (putO os x) k -> Live M k /\ ∀ b, σ' k b -> p.σ k b := fun k hk => by
  obtain ⟨ob, ho⟩ := live_go hk
  exact ⟨(hall k ob ho).1, (hσ k ob ho).1⟩
 have hkeep : Keep (Imm F p M w) (Imm F ⟨p.β, σ', fun _ => False⟩ (putO os x) w) w w := fun b hb => ⟨⟨hb.1, hb.2.1, fun h => h, fun k hk hs => hb.2.2.2 k (hlv k hk).1 ((hlv k hk).2 b hs)⟩, rfl⟩
 refine ⟨⟨p.β, σ', fun _ => False⟩, rfl, fun b hb => hb, hkeep, ⟨fun k ob hk => ?_, fun k k' b hne hk hk' hb hb' => ?_, fun k b hk hb => ?_, fun b hb => hb.elim, h.os, h.tape, h.output, h.size, h.old⟩⟩
 ·refine (hσ k ob hk).2 _ (fun b hb => (hkeep b hb).1) (fun b hb hn => ?_)
  have hlk := (hall k ob hk).1
  obtain ⟨o1, o2⟩ := h.own k b hlk hb
  refine ⟨o1, o2.elim (fun h => .inr (.inl h.2)) (fun h => .inr (.inr h)), fun h => h, fun j hj hs => ?_⟩
  by_cases e : j = k
  ·subst e; exact hn hs
  ·exact h.sep k j b (Ne.symm e) hlk (hlv j hj).1 hb ((hlv j hj).2 b hs)
 ·exact h.sep k k' b hne (hlv k hk).1 (hlv k' hk').1 ((hlv k hk).2 b hb) ((hlv k' hk').2 b hb')
 ·exact h.own k b (hlv k hk).1 ((hlv k hk).2 b hb)
theorem peq_eq : (a b : Path) -> peq a b = true -> a = b
 | [], [], _ => rfl
 | .l :: a, .l :: b, h => by simp only [peq] at h; rw [peq_eq a b h]
 | .r :: a, .r :: b, h => by simp only [peq] at h; rw [peq_eq a b h]
 | .de :: a, .de :: b, h => by simp only [peq] at h; rw [peq_eq a b h]
 | [], _ :: _, h => by simp [peq] at h
 | .ix _ :: _, [], h => by simp [peq] at h
 | .l :: _, [], h => by simp [peq] at h
 | .r :: _, [], h => by simp [peq] at h
 | .de :: _, [], h => by simp [peq] at h
 | .ix _ :: _, _ :: _, h => by simp [peq] at h
 | .l :: _, .r :: _, h => by simp [peq] at h
 | .l :: _, .de :: _, h => by simp [peq] at h
 | .l :: _, .ix _ :: _, h => by simp [peq] at h
 | .r :: _, .l :: _, h => by simp [peq] at h
 | .r :: _, .de :: _, h => by simp [peq] at h
 | .r :: _, .ix _ :: _, h => by simp [peq] at h
 | .de :: _, .l :: _, h => by simp [peq] at h
 | .de :: _, .r :: _, h => by simp [peq] at h
 | .de :: _, .ix _ :: _, h => by simp [peq] at h
theorem same_form {os : Obs} {x : denO os} (hx : readO M os = some x) {k : Nat} {q : Ob} {o : O} (hq : go M k = some q) (ho : oOf k os = some o) (he : q.o.beq o = true) : go (putO os x) k = some q := by
 obtain ⟨y, hy⟩ := readO_has M os x hx k o ho
 obtain ⟨_, q', h1, h2⟩ := readO_get M os x hx k _ hy
 rw [hq] at h1; cases h1
 have := (wkO_some h2).2
 have e := O.beq_eq he
 obtain ⟨qo, qx⟩ := q
 simp only at e this
 subst e
 rw [castT_self] at this
 cases this
 exact hy
theorem ref_weak (hβ : p'.β = p.β) {os : Obs} {x : denO os} (hx : readO M os = some x) {k : Nat} {π : Path} {vs : List Value} (h : Ref p.β M w k π vs) (hok : refOk M os k π = true) : Ref p'.β (putO os x) w k π vs := by
 unfold refOk at hok
 split at hok
 ·rename_i q o hq ho
  simp only [orb_eq, Bool.or_eq_true] at hok
  rcases hok with hn | he
  ·cases π with
   | cons _ _ => simp [nilP] at hn
   | nil =>
    obtain ⟨y, hy⟩ := readO_has M os x hx k o ho
    obtain ⟨ob, pl, h1, h2, h3, h4⟩ := h
    simp only [res, Option.some.injEq, Prod.mk.injEq] at h4
    exact ⟨⟨o, y⟩, none, hy, by simp only [gok], ⟨⟨o, y⟩, by simp only [get]⟩, by simp only [res, hβ, h4.1]⟩
  ·have := same_form hx hq ho he
   obtain ⟨ob, pl, h1, h2, h3, h4⟩ := h
   rw [hq] at h1; cases h1
   exact ⟨q, pl, this, h2, h3, by rw [hβ]; exact h4⟩
 ·cases hok
theorem ad_weak (hp : Hp F p M w) (hβ : p'.β = p.β) {os : Obs} {x : denO os} (hx : readO M os = some x) {k : Nat} {π : Path} {v : Value} (h : Adr p.β M w k π v) (hok : adOk M os k π = true) : Adr p'.β (putO os x) w k π v := by
 unfold adOk at hok
 split at hok
 ·rename_i q o hq ho
  simp only [orb_eq, Bool.or_eq_true] at hok
  rcases hok with hn | he
  ·obtain ⟨y, hy⟩ := readO_has M os x hx k o ho
   obtain ⟨m, s1, s2⟩ := sameO_eq hn
   obtain ⟨ob, us0, b0, off0, k1, k2, k3, k4, k5, rfl⟩ := h
   rw [hq] at k1; cases k1
   obtain ⟨ρ1, o1, rfl, e1, f1⟩ := stat_some s1
   obtain ⟨ρ2, o2, e2', e2, f2⟩ := stat_some s2
   simp only [List.cons.injEq, true_and] at e2'
   subst e2'
   subst e2
   obtain ⟨qo, qx⟩ := q
   simp only at e1
   subst e1
   have hr := hp.objs k _ hq
   simp only [Rel] at hr
   obtain ⟨bb, us1, ty', S1, r1, r2, r3, r4, r5⟩ := hr
   simp only [List.cons.injEq, and_true] at r1
   rw [r1] at k5
   simp only [res] at k5
   obtain ⟨_, _, us2, q3⟩ := off_res w ρ1 o1 m f1 qx (cellsOf w bb 0 o1.size) (some (bb, 0))
   rw [q3] at k5
   simp only [Option.some.injEq, Prod.mk.injEq] at k5
   obtain ⟨q1, q2, us3, q3'⟩ := off_res w ρ1 o2 m f2 y (cellsOf w bb 0 o2.size) (some (bb, 0))
   refine ⟨_, us3, b0, off0, hy, by simpa only [gok] using q2, by simpa only [get] using q1, by simp only [heapy], ?_, rfl⟩
   rw [hβ, r1]
   simp only [res]
   rw [q3', k5.2]
  ·have := same_form hx hq ho he
   obtain ⟨ob, us, b, off, h1, h2, h3, h4, h5, h6⟩ := h
   rw [hq] at h1; cases h1
   exact ⟨q, us, b, off, this, h2, h3, h4, by rw [hβ]; exact h5, h6⟩
 ·cases hok
theorem readC_ok (hp : Hp F p M w) (hβ : p'.β = p.β) {os : Obs} {x : denO os} (hx : readO M os = some x) (hk : Keep (Imm F p M w) (Imm F p' (putO os x) w) w w) : (s : Sh) -> (v : V) -> (vs : List Value) -> (y : s.den) -> RelC p.β M (Imm F p M w) w v vs -> s.read M os v = some y -> RelC p'.β (putO os x) (Imm F p' (putO os x) w) w (s.put y) vs
 | .d t, v, vs, y, r, h => by
  simp only [Sh.read] at h
  simp only [Sh.put]
  exact expl_rel t y vs (RelF.keep hk _ _ _ (as_ok v t vs y r h))
 | .ref k π, v, vs, y, r, h => by
  cases v <;> simp only [Sh.read] at h <;> try (cases h; done)
  rename_i k' π'
  cases hb : nob (refOk M os k π) (nob (Nat.beq k k') (peq π π')) with
  | false => rw [hb] at h; cases h
  | true =>
   simp only [nob_eq, Bool.and_eq_true] at hb
   have e1 := Nat.eq_of_beq_eq_true hb.2.1
   have e2 := peq_eq _ _ hb.2.2
   subst e1; subst e2
   simp only [RelC] at r
   simp only [Sh.put, RelC]
   exact ref_weak hβ hx r hb.1
 | .ad k π, v, vs, y, r, h => by
  cases v <;> simp only [Sh.read] at h <;> try (cases h; done)
  rename_i k' π'
  cases hb : nob (adOk M os k π) (nob (Nat.beq k k') (peq π π')) with
  | false => rw [hb] at h; cases h
  | true =>
   simp only [nob_eq, Bool.and_eq_true] at hb
   have e1 := Nat.eq_of_beq_eq_true hb.2.1
   have e2 := peq_eq _ _ hb.2.2
   subst e1; subst e2
   simp only [RelC] at r
   obtain ⟨z, rfl, r⟩ := r
   simp only [Sh.put, RelC]
   exact ⟨z, rfl, ad_weak hp hβ hx r hb.1⟩
 | .fn f, v, vs, y, r, h => by
  cases v <;> (try simp only [Sh.read] at h) <;> try (cases h; done)
  rename_i f' v'
  cases v' <;> (try simp only [Sh.read] at h) <;> try (cases h; done)
  simp only [beq_cond] at h
  split at h
  ·rename_i e
   subst e
   simp only [RelC] at r
   simp only [Sh.put, RelC]
   exact r
  ·cases h
 | .bx s, v, vs, y, r, h => by
  cases v <;> simp only [Sh.read] at h <;> try (cases h; done)
  simp only [RelC] at r
  obtain ⟨b, o, us, h1, h2, h3, h4⟩ := r
  simp only [Sh.put, RelC]
  exact ⟨b, o, us, h1, (hk b h2).1, h3, readC_ok hp hβ hx hk s _ _ y h4 h⟩
 | .fc f s, v, vs, y, r, h => by
  cases v <;> simp only [Sh.read] at h <;> try (cases h; done)
  simp only [beq_cond] at h
  split at h
  ·rename_i e
   subst e
   simp only [RelC] at r
   obtain ⟨us, h1, h2⟩ := r
   simp only [Sh.put, RelC]
   exact ⟨us, h1, readC_ok hp hβ hx hk s _ _ y h2 h⟩
  ·cases h
 | .pr a b, v, vs, y, r, h => by
  cases v <;> simp only [Sh.read] at h <;> try (cases h; done)
  split at h
  ·rename_i z1 z2 h1 h2
   simp only [RelC] at r
   obtain ⟨va, vb, e, ra, rb⟩ := r
   cases h
   simp only [Sh.put, RelC]
   exact ⟨va, vb, e, readC_ok hp hβ hx hk a _ _ _ ra h1, readC_ok hp hβ hx hk b _ _ _ rb h2⟩
  ·cases h
 | .u, v, vs, y, r, h => by
  cases v <;> simp only [Sh.read] at h <;> try (cases h; done)
  simp only [Sh.put]
  simpa only [RelC] using r
theorem read_ok (hp : Hp F p M w) (hβ : p'.β = p.β) {os : Obs} {x : denO os} (hx : readO M os = some x) (hk : Keep (Imm F p M w) (Imm F p' (putO os x) w) w w) (s : Sh) (v : V) (u : Value) (y : s.den) (r : RelS p.β M (Imm F p M w) w v u) (h : s.read M os v = some y) : RelS p'.β (putO os x) (Imm F p' (putO os x) w) w (s.put y) u := by
 have key : RelC p.β M (Imm F p M w) w v [u] -> RelS p'.β (putO os x) (Imm F p' (putO os x) w) w (s.put y) u := fun r => relS_of_relC (readC_ok hp hβ hx hk s v [u] y r h)
 cases v with
 | any => cases s with
  | d t => cases t <;> simp [Sh.read, V.as] at h
  | _ => simp [Sh.read] at h
 | ag z => cases s with
  | d t => cases t <;> simp [Sh.read, V.as] at h
  | _ => simp [Sh.read] at h
 | tup z => cases s with
  | d t => cases t <;> simp [Sh.read, V.as] at h
  | _ => simp [Sh.read] at h
 | gd _ _ _ z => cases s with
  | d t => cases t <;> simp [Sh.read, V.as] at h
  | _ => simp [Sh.read] at h
 | _ => exact key (by simpa only [RelS] using r)
theorem readS_ok (hp : Hp F p M w) (hβ : p'.β = p.β) {os : Obs} {x : denO os} (hx : readO M os = some x) (hk : Keep (Imm F p M w) (Imm F p' (putO os x) w) w w) (hs : ∀ t, RelS p.β M (Imm F p M w) w (gt env t) (a.tmps.getD t undef)) :
  (ss : Shs) -> (y : denS ss) -> readS M os env ss = some y -> ∀ t, RelS p'.β (putO os x) (Imm F p' (putO os x) w) w (gt (putS ss y) t) (a.tmps.getD t undef)
 | [], y, h, t => by simp only [putS, gt, RelS]
 | (t', s) :: r, y, h, t => by
  simp only [readS] at h
  split at h
  ·rename_i z1 z2 h1 h2
   cases h
   simp only [putS]
   rw [gt_cons]
   split
   ·rename_i e
    subst e
    exact read_ok hp hβ hx hk s _ _ z1 (hs t') h1
   ·exact readS_ok hp hβ hx hk hs r z2 h2 t
  ·cases h
theorem isDat_keep {β β' : Nat -> Value} {Im Im' : Nat -> Prop} (hk : Keep Im Im' w w') : (v : V) -> isDat v = true -> (∀ vs, RelC β M Im w v vs -> RelC β' M' Im' w' v vs) /\ ∀ u, RelS β M Im w v u -> RelS β' M' Im' w' v u
 | .d t x, _ => ⟨fun vs r => by simp only [RelC] at r ⊢; exact RelF.keep hk t x vs r, fun u r => by rw [relS_d] at r ⊢; exact RelF.keep hk t x _ r⟩
 | .nl, _ => ⟨fun vs r => by simpa only [RelC] using r, fun u r => by simpa only [RelS, RelC] using r⟩
 | .np, _ => ⟨fun vs r => by simpa only [RelC] using r, fun u r => by simpa only [RelS, RelC] using r⟩
 | .u, _ => ⟨fun vs r => by simpa only [RelC] using r, fun u r => by simpa only [RelS, RelC] using r⟩
 | .p a b, h => by
  simp only [isDat, nob_eq, Bool.and_eq_true] at h
  have key : ∀ vs, RelC β M Im w (.p a b) vs -> RelC β' M' Im' w' (.p a b) vs := fun vs r => by
   simp only [RelC] at r ⊢
   obtain ⟨va, vb, e, h1, h2⟩ := r
   exact ⟨va, vb, e, (isDat_keep hk a h.1).1 va h1, (isDat_keep hk b h.2).1 vb h2⟩
  exact ⟨key, fun u r => by simp only [RelS] at r ⊢; exact key _ r⟩
 | .ag v, h => by
  simp only [isDat] at h
  refine ⟨fun vs r => by simp only [RelC] at r, fun u r => ?_⟩
  simp only [RelS] at r ⊢
  obtain ⟨vs, e, h1⟩ := r
  exact ⟨vs, e, (isDat_keep hk v h).1 vs h1⟩
 | .fn f v, h => by
  simp only [isDat] at h
  have key : ∀ vs, RelC β M Im w (.fn f v) vs -> RelC β' M' Im' w' (.fn f v) vs := fun vs r => by
   simp only [RelC] at r ⊢
   obtain ⟨us, e, h1⟩ := r
   exact ⟨us, e, (isDat_keep hk v h).1 us h1⟩
  exact ⟨key, fun u r => by simp only [RelS] at r ⊢; exact key _ r⟩
 | .bx v, h => by
  simp only [isDat] at h
  have key : ∀ vs, RelC β M Im w (.bx v) vs -> RelC β' M' Im' w' (.bx v) vs := fun vs r => by
   simp only [RelC] at r ⊢
   obtain ⟨b, o, us, e, h1, h2, h3⟩ := r
   exact ⟨b, o, us, e, (hk b h1).1, h2.keep (hk b h1).2, (isDat_keep hk v h).1 us h3⟩
  exact ⟨key, fun u r => by simp only [RelS] at r ⊢; exact key _ r⟩
 | .any, h => by simp [isDat] at h
 | .ref _ _, h => by simp [isDat] at h
 | .ad _ _, h => by simp [isDat] at h
 | .tup _, h => by simp [isDat] at h
 | .gd _ _ _ _, h => by simp [isDat] at h
 | .ifc _ _, h => by simp [isDat] at h
theorem readA_ok (h : St F p env M a w) {ss : Shs} {os : Obs} {q : (denS ss × denO os) × Env} (hr : readA ss os env M = some q) :
  ∃ p', St F p' (putS ss q.1.1) (putO os q.1.2) a w /\ ∀ t, isDat (gt q.2 t) = true -> RelS p'.β (putO os q.1.2) (Imm F p' (putO os q.1.2) w) w (gt q.2 t) (a.tmps.getD t undef) := by
 unfold readA at hr
 obtain ⟨p0, h0⟩ := adopt_ok os ss p env M h
 generalize adopt os ss env M = z0 at hr h0
 obtain ⟨env0, M0⟩ := z0
 simp only at hr h0
 obtain ⟨p1, h1⟩ := openA_ok os p0 env0 M0 h0
 generalize openA os env0 M0 = z1 at hr h1
 obtain ⟨env1, M1⟩ := z1
 simp only at hr h1
 have h2 := frzRest_ok os (keysM M1) M1 env1 h1
 generalize frzRest os (keysM M1) M1 env1 = z2 at hr h2
 obtain ⟨env2, M2⟩ := z2
 simp only at hr h2
 split at hr
 ·rename_i y x hy hx
  cases hr
  obtain ⟨p', e1, e2, e3, e4⟩ := weaken h2.hp h2.lz os x hx
  refine ⟨p', ⟨h2.defers, h2.nt, h2.fix, fun b hb => ⟨(e3 b (h2.ik b hb).1).1, (h2.ik b hb).2⟩, e2, readS_ok h2.hp e1 hx e3 h2.slots ss y hy, e4⟩, fun t ht => (isDat_keep e3 _ ht).2 _ (h2.slots t)⟩
 ·cases hr
end
end Go.Bm
/- The typed machine: code keeps the law that is read off it. -/
namespace Go.Bm
open Go.RowKit
theorem oks_of_ok : (t : T) -> (x : t.den) -> t.ok x -> allP (t.oks x)
 | .int k, x, h => by simp only [T.oks, allP_cons, allP_nil, and_true]; simpa only [T.ok] using h
 | .p a b, x, h => by simp only [T.ok] at h; simp only [T.oks, allP_ap]; exact ⟨oks_of_ok a _ h.1, oks_of_ok b _ h.2⟩
 | .sl e, x, h => by simp only [T.oks, allP_cons, allP_nil, and_true]; exact h
 | .pt t, x, h => by simp only [T.ok] at h; simp only [T.oks]; exact oks_of_ok t x h
 | .fn _ t, x, h => by simp only [T.ok] at h; simp only [T.oks]; exact oks_of_ok t x h
 | .ifc _ t, x, h => by simp only [T.ok] at h; simp only [T.oks]; exact oks_of_ok t x h
 | .mp k v, x, h => by simp only [T.oks, allP_cons, allP_nil, and_true]; exact h
 | .op t, x, h => by simp only [T.oks, allP_cons, allP_nil, and_true]; exact h
 | .ns t, x, h => by simp only [T.oks, allP_cons, allP_nil, and_true]; exact h
 | .str, x, h => by simp only [T.oks, allP_cons, allP_nil, and_true]; simpa only [T.ok] using h
 | .bool, x, h => by simp only [T.oks, allP_nil]
 | .u, x, h => by simp only [T.oks, allP_nil]
 | .any, x, h => by simp only [T.oks, allP_nil]
def okC (nt : Nat) (cut : Nat -> Nat) : Code -> Bool
 | .region id ops draw => nob (opsOk nt (toL ops)) (bif draw then (bif Nat.beq (cut id) 999999 then okBox (toL ops) else bif Nat.ble 10000 (cut id) then nob (opsOk nt (hoistL (hrC (cut id)) (toL ops))) (okPm (hrC (cut id)) true (toL ops) (mC (cut id))) else bif Nat.ble 2000 (cut id) then nob (opsOk nt (hoistL false (toL ops))) (okPm false false (toL ops) (Nat.sub (cut id) (offC (cut id)))) else bif Nat.ble 1000 (cut id) then okHx false false (toL ops) (Nat.sub (cut id) 1000) else bif Nat.ble 500 (cut id) then okHx false false (toL ops) (Nat.sub (cut id) 500) else okReg (toL ops) (cut id)) else true)
 | .seq a b => nob (okC nt cut a) (okC nt cut b)
 | .cond _ a b => nob (okC nt cut a) (okC nt cut b)
 | .block _ c => okC nt cut c
 | .loop c => okC nt cut c
 | .scope c => okC nt cut c
 | _ => true
def Free (fv : Nat -> Option Value) : Code -> Prop
 | .region _ ops _ => ∀ o ∈ toL ops, ∀ k, o.dst = some k -> fv k = none
 | .seq a b => Free fv a /\ Free fv b
 | .cond _ a b => Free fv a /\ Free fv b
 | .block _ c => Free fv c
 | .loop c => Free fv c
 | .scope c => Free fv c
 | _ => True
theorem free_none : (c : Code) -> Free (fun _ => none) c
 | .region _ _ _ => fun _ _ _ _ => rfl
 | .seq a b => ⟨free_none a, free_none b⟩
 | .cond _ a b => ⟨free_none a, free_none b⟩
 | .block _ c => free_none c
 | .loop c => free_none c
 | .scope c => free_none c
 | .skip => trivial
 | .ret => trivial
 | .exit _ => trivial
 | .goto _ => trivial
 | .label _ => trivial
 | .rangeFunc _ _ _ _ => trivial
 | .refuse _ => trivial
def mkFv (fv : Nat -> Option Value) (ks : List Nat) (a : Act) : Nat -> Option Value := fun t => bif memN t ks then some (a.tmps.getD t undef) else fv t
def mkF (F : Fr) (I : Nat -> Prop) (w : World) (ks : List Nat) (a : Act) : Fr := ⟨F.w0, w, F.A, F.R, I, F.nt, mkFv F.fv ks a⟩
theorem noWo_mem {ks : List Nat} : {l : List Oper} -> noWo ks l = true -> ∀ o ∈ l, ∀ k, o.dst = some k -> memN k ks = false
 | [], _, o, ho, _, _ => by cases ho
 | x :: r, h, o, ho, k, hk => by
  simp only [noWo] at h
  rcases List.mem_cons.1 ho with rfl | ho
  ·rw [hk] at h
   simp only at h
   cases hm : memN k ks with
   | false => rfl
   | true => rw [hm] at h; cases h
  ·refine noWo_mem ?_ o ho k hk
   split at h
   ·rename_i d _
    cases hm : memN d ks with
    | false => rw [hm] at h; exact h
    | true => rw [hm] at h; cases h
   ·exact h
theorem free_mk {fv : Nat -> Option Value} {ks : List Nat} {a : Act} : (c : Code) -> noW ks c = true -> Free fv c -> Free (mkFv fv ks a) c
 | .region id ops draw, h, hf => fun o ho k hk => by
  simp only [noW] at h
  unfold mkFv
  rw [noWo_mem h o ho k hk]
  exact hf o ho k hk
 | .seq x y, h, hf => by simp only [noW, nob_eq, Bool.and_eq_true] at h; exact ⟨free_mk x h.1 hf.1, free_mk y h.2 hf.2⟩
 | .cond _ x y, h, hf => by simp only [noW, nob_eq, Bool.and_eq_true] at h; exact ⟨free_mk x h.1 hf.1, free_mk y h.2 hf.2⟩
 | .block _ c, h, hf => by simp only [noW] at h; exact free_mk c h hf
 | .loop c, h, hf => by simp only [noW] at h; exact free_mk c h hf
 | .scope c, h, hf => by simp only [noW] at h; exact free_mk c h hf
 | .skip, _, _ => trivial
 | .ret, _, _ => trivial
 | .exit _, _, _ => trivial
 | .goto _, _, _ => trivial
 | .label _, _, _ => trivial
 | .rangeFunc _ _ _ _, _, _ => trivial
 | .refuse _, _, _ => trivial
def lift (F : Fr) (K : Ex -> Env -> Mem -> Prop) : Exit -> Act -> World -> Prop
 | .normal, a, w => ∃ p env M, St F p env M a w /\ K .nm env M
 | .exit id, a, w => ∃ p env M, St F p env M a w /\ K (.ex id) env M
 | .ret, a, w => ∃ p env M, St F p env M a w /\ K .rt env M
 | .goto l, a, w => ∃ p env M, St F p env M a w /\ K (.go l) env M
 | _, _, _ => False
section
variable {F : Fr} {p p' p'' : Ow} {env env' : Env} {M M' M'' : Mem} {a a' : Act} {w w' w'' : World} {P : Program} {B : Tab} {Φ : FuncId -> Option Ct}
theorem gt_clr : ∀ (env : Env) (t : Nat), gt (clr env) t = .any ∨ gt (clr env) t = gt env t
 | [], t => .inl rfl
 | (k, v) :: r, t => by
  simp only [clr]
  split
  ·rw [gt_cons, gt_cons]
   split
   ·exact .inl rfl
   ·exact gt_clr r t
  ·rw [gt_cons, gt_cons]
   split
   ·exact .inr rfl
   ·exact gt_clr r t
theorem gt_ap : ∀ (x y : Env) (t : Nat), gt (ap x y) t = gt x t ∨ gt (ap x y) t = gt y t
 | [], y, t => .inr rfl
 | (k, v) :: r, y, t => by
  simp only [ap]
  rw [gt_cons, gt_cons]
  split
  ·exact .inl rfl
  ·exact gt_ap r y t
theorem gt_kept (env : Env) : ∀ (ks : List Nat) (t : Nat), gt (kept env ks) t = .any ∨ (memN t ks = true /\ isDat (gt env t) = true /\ gt (kept env ks) t = gt env t)
 | [], t => .inl rfl
 | k :: r, t => by
  simp only [kept]
  have ih := gt_kept env r t
  have hm : memN t r = true -> memN t (k :: r) = true := fun h => by simp only [memN, orb_eq, h, Bool.or_true]
  cases hd : isDat (gt env k) with
  | false =>
   simp only [cond_false]
   rcases ih with h | ⟨h1, h2, h3⟩
   ·exact .inl h
   ·exact .inr ⟨hm h1, h2, h3⟩
  | true =>
   simp only [cond_true]
   rw [gt_cons]
   split
   ·rename_i e
    subst e
    exact .inr ⟨by simp [memN], hd, rfl⟩
   ·rcases ih with h | ⟨h1, h2, h3⟩
    ·exact .inl h
    ·exact .inr ⟨hm h1, h2, h3⟩
theorem St.fwd (h : St F p env M a w) (ks : List Nat) : St (mkF F (Imm F p M w) w ks a) p env M a w := by
 refine ⟨h.defers, h.nt, fun t v ht => ?_, fun b hb => ⟨hb, rfl⟩, h.lz, h.slots, ⟨h.hp.objs, h.hp.sep, h.hp.own, h.hp.lim, h.hp.os, h.hp.tape, h.hp.output, h.hp.size, h.hp.old⟩⟩
 simp only [mkF, mkFv] at ht
 cases hm : memN t ks with
 | true => rw [hm] at ht; simpa using ht
 | false => rw [hm] at ht; exact h.fix t v ht
theorem St.back (h : St F p env M a w) {ks : List Nat} (h' : St (mkF F (Imm F p M w) w ks a) p' env' M' a' w') : St F p' env' M' a' w' := by
 refine ⟨h'.defers, h'.nt, fun t v ht => ?_, fun b hb => ?_, h'.lz, h'.slots, ⟨h'.hp.objs, h'.hp.sep, h'.hp.own, h'.hp.lim, h'.hp.os, h'.hp.tape, h'.hp.output, h'.hp.size, h'.hp.old⟩⟩
 ·cases hm : memN t ks with
  | true =>
   rw [h'.fix t (a.tmps.getD t undef) (by simp only [mkF, mkFv, hm, cond_true])]
   exact h.fix t v ht
  | false => exact h'.fix t v (by simp only [mkF, mkFv, hm, cond_false]; exact ht)
 ·obtain ⟨h1, h2⟩ := h.ik b hb
  obtain ⟨h3, h4⟩ := h'.ik b h1
  exact ⟨h3, h4.trans h2⟩
theorem St.add {ks : List Nat} {envK : Env} (hK : ∀ t, isDat (gt envK t) = true -> RelS p.β M (Imm F p M w) w (gt envK t) (a.tmps.getD t undef)) (h' : St (mkF F (Imm F p M w) w ks a) p' env' M' a' w') : St (mkF F (Imm F p M w) w ks a) p' (ap env' (kept envK ks)) M' a' w' := by
 refine ⟨h'.defers, h'.nt, h'.fix, h'.ik, h'.lz, fun t => ?_, h'.hp⟩
 rcases gt_ap env' (kept envK ks) t with e | e
 ·rw [e]; exact h'.slots t
 ·rw [e]
  rcases gt_kept envK ks t with e' | ⟨h1, h2, h3⟩
  ·rw [e']; simp only [RelS]
  ·rw [h3, h'.fix t (a.tmps.getD t undef) (by simp only [mkF, mkFv, h1, cond_true])]
   exact (isDat_keep (fun b hb => h'.ik b hb) _ h2).2 _ (hK t h2)
theorem readC_oks {os : Obs} : (s : Sh) -> (v : V) -> (vs : List Value) -> (y : s.den) -> RelC p.β M (Imm F p M w) w v vs -> s.read M os v = some y -> allP (s.oks y)
 | .d t, v, vs, y, r, h => by
  simp only [Sh.read] at h
  simp only [Sh.oks]
  exact oks_of_ok _ _ (RelF.ok _ _ _ (as_ok v t vs y r h))
 | .ref _ _, _, _, _, _, _ => by simp only [Sh.oks, allP_nil]
 | .ad _ _, _, _, _, _, _ => by simp only [Sh.oks, allP_nil]
 | .fn _, _, _, _, _, _ => by simp only [Sh.oks, allP_nil]
 | .u, _, _, _, _, _ => by simp only [Sh.oks, allP_nil]
 | .bx s, v, vs, y, r, h => by
  cases v <;> simp only [Sh.read] at h <;> try (cases h; done)
  simp only [RelC] at r
  obtain ⟨b, o, us, h1, h2, h3, h4⟩ := r
  simp only [Sh.oks]
  exact readC_oks s _ _ y h4 h
 | .fc f s, v, vs, y, r, h => by
  cases v <;> simp only [Sh.read] at h <;> try (cases h; done)
  simp only [beq_cond] at h
  split at h
  ·simp only [RelC] at r
   obtain ⟨us, h1, h2⟩ := r
   simp only [Sh.oks]
   exact readC_oks s _ _ y h2 h
  ·cases h
 | .pr a b, v, vs, y, r, h => by
  cases v <;> simp only [Sh.read] at h <;> try (cases h; done)
  split at h
  ·rename_i z1 z2 h1 h2
   simp only [RelC] at r
   obtain ⟨va, vb, e, ra, rb⟩ := r
   cases h
   simp only [Sh.oks, allP_ap]
   exact ⟨readC_oks a _ _ _ ra h1, readC_oks b _ _ _ rb h2⟩
  ·cases h
theorem readS_oks {os : Obs} (hs : ∀ t, RelS p.β M (Imm F p M w) w (gt env t) (a.tmps.getD t undef)) : (ss : Shs) -> (y : denS ss) -> readS M os env ss = some y -> allP (okS ss y)
 | [], y, h => by simp only [okS, allP_nil]
 | (t, s) :: r, y, h => by
  simp only [readS] at h
  split at h
  ·rename_i z1 z2 h1 h2
   cases h
   have ih := readS_oks hs r z2 h2
   simp only [okS, allP_ap]
   refine ⟨?_, ih⟩
   have key : ∀ v : V, s.read M os v = some z1 -> RelS p.β M (Imm F p M w) w v (a.tmps.getD t undef) -> allP (s.oks z1) := fun v h1 r => by
    cases v with
    | any => cases s with
     | d t => cases t <;> simp [Sh.read, V.as] at h1
     | _ => simp [Sh.read] at h1
    | ag z => cases s with
     | d t => cases t <;> simp [Sh.read, V.as] at h1
     | _ => simp [Sh.read] at h1
    | tup z => cases s with
     | d t => cases t <;> simp [Sh.read, V.as] at h1
     | _ => simp [Sh.read] at h1
    | gd _ _ _ z => cases s with
     | d t => cases t <;> simp [Sh.read, V.as] at h1
     | _ => simp [Sh.read] at h1
    | _ => exact readC_oks s _ _ _ (by simpa only [RelS] using r) h1
   exact key _ h1 (hs t)
  ·cases h
theorem readO_oks (hp : Hp F p M w) : (os : Obs) -> (x : denO os) -> readO M os = some x -> allP (okO os x)
 | [], x, h => by simp only [okO, allP_nil]
 | (k, o) :: r, x, h => by
  simp only [readO] at h
  split at h
  ·rename_i q hq
   split at h
   ·rename_i y z hy hz
    cases h
    simp only [okO, allP_ap]
    refine ⟨oks_of_ok _ _ ?_, readO_oks hp r z hz⟩
    obtain ⟨e, h1⟩ := castT_some (wkO_some hy).2
    have hok := (hp.objs k q hq).ok
    subst h1
    exact cast_ok e hok
   ·cases h
  ·cases h
where
 cast_ok : ∀ {s t : T} {x : s.den} (e : s = t), s.ok x -> t.ok (e ▸ x) := fun e h => by subst e; exact h
theorem readA_oks (h : St F p env M a w) {ss : Shs} {os : Obs} {q : (denS ss × denO os) × Env} (hr : readA ss os env M = some q) : allP (okS ss q.1.1) /\ allP (okO os q.1.2) := by
 unfold readA at hr
 obtain ⟨p0, h0⟩ := adopt_ok os ss p env M h
 generalize adopt os ss env M = z0 at hr h0
 obtain ⟨env0, M0⟩ := z0
 simp only at hr h0
 obtain ⟨p1, h1⟩ := openA_ok os p0 env0 M0 h0
 generalize openA os env0 M0 = z1 at hr h1
 obtain ⟨env1, M1⟩ := z1
 simp only at hr h1
 have h2 := frzRest_ok os (keysM M1) M1 env1 h1
 generalize frzRest os (keysM M1) M1 env1 = z2 at hr h2
 obtain ⟨env2, M2⟩ := z2
 simp only at hr h2
 split at hr
 ·rename_i y x hy hx
  cases hr
  exact ⟨readS_oks h2.slots ss y hy, readO_oks h2.hp os x hx⟩
 ·cases hr
theorem join_ok (h : St F p env M a w) {ss : Shs} {os : Obs} {ks : List Nat} {c : Code} {K : Ex -> Env -> Mem -> Prop}
  (hc : c.wp P (lift (mkF F (Imm F p M w) w ks a) (joinK ss os (onK ss os ks env K) K)) a w) : c.wp P (lift F K) a w := by
 refine Code.wp_mono (fun e a' w' hl => ?_) hc
 cases e with
 | normal =>
  obtain ⟨p1, env1, M1, h1, h2⟩ := hl
  simp only [joinK, readK] at h2
  split at h2
  ·rename_i s hs
   obtain ⟨p2, h4, _⟩ := readA_ok h1 hs
   obtain ⟨o1, o2⟩ := readA_oks h1 hs
   simp only [onK, imps_iff] at h2
   exact ⟨p2, _, _, h.back (St.add (fun t _ => h.slots t) h4), h2 o1 o2⟩
  ·exact h2.elim
 | exit id => obtain ⟨p1, env1, M1, h1, h2⟩ := hl; exact ⟨p1, env1, M1, h.back h1, h2⟩
 | ret => obtain ⟨p1, env1, M1, h1, h2⟩ := hl; exact ⟨p1, env1, M1, h.back h1, h2⟩
 | goto l => obtain ⟨p1, env1, M1, h1, h2⟩ := hl; exact ⟨p1, env1, M1, h.back h1, h2⟩
 | panic ch => exact hl.elim
 | outgrown => exact hl.elim
theorem draw_ok (hΦ : Good P Φ) (hB : TabOk P B) (hmix : P.follows .mixedOrders = true) {id : Nat} {ops : Array Oper} {cut : Nat} (hco : opsOk F.nt (toL ops) = true) (hfv : ∀ o ∈ toL ops, ∀ k, o.dst = some k -> F.fv k = none) (hr : okReg (toL ops) cut = true) {K : Env -> Mem -> Prop} {Q : Exit -> Act -> World -> Prop}
  (hQ : ∀ p env M a w, St F p env M a w -> K env M -> Q .normal a w) (h : St F p env M a w) (hk : dw B Φ (toL ops) (takeL cut (toL ops)) env M (fun env => tw B Φ (toL ops) (dropL cut (toL ops)) env M K)) : (Code.region id ops true).wp P Q a w := by
 rw [toL_eq] at hco hfv hr
 rw [takeL_eq, dropL_eq] at hk
 simp only [okReg, Bool.and_eq_true] at hr
 obtain ⟨h1, h2, h3, h4⟩ := hr
 obtain ⟨E, V, e0, e1, e2⟩ := adw_steps _ _ _ _ hk
 have hm : cut <= ops.toList.length := Nat.le_of_ble_eq_true h2
 rw [toL_eq, List.length_take, Nat.min_eq_left hm] at e2
 refine wp_region_any hmix ?_
 have := draw_head (F := F) (M := M) (p := p) (all := ops) hΦ hB Q K hQ h1 cut (by simpa using hm) (by simpa using h3) (by simpa using h4) hco hfv E V (by simpa only [toL_eq] using e1) (by simpa only [toL_eq] using e2)
 exact this _ _ env a _ (by simp) (fun i _ hi => absurd hi isL_rep) (unl_le _ _) (fun j o _ hi => absurd hi isL_rep) (fun t => ⟨fun _ => by rw [e0], fun i o _ hi => absurd hi isL_rep⟩) h.drew
theorem wp_loop_ghost {c : Code} {Q' : Exit -> Act -> World -> Prop} {ι : Type} (I : ι -> Act -> World -> Prop) (μ : ι -> Nat)
  (round : ∀ i a w, I i a w -> c.wp P (Exit.then (fun a' w' => ∃ i', μ i' < μ i /\ I i' a' w') Q') a w) : ∀ i a w, I i a w -> (Code.loop c).wp P Q' a w := by
 intro i a w h0 b k cs
 have key : ∀ n i a w, μ i = n -> I i a w -> ∃ e a' w', Q' e a' w' /\ Arrives P (lone (b.at a (.code c :: .inLoop c :: k)) cs w) b k cs e a' w' := by
  intro n
  induction n using Nat.strongRecOn with
  | _ n ih =>
   intro i a w hn hI
   obtain ⟨e, a1, w1, hq, harr⟩ := round i a w hI b (.inLoop c :: k) cs
   cases e with
   | normal =>
    obtain ⟨i', hlt, hI'⟩ := hq
    obtain ⟨e2, a2, w2, hq2, harr2⟩ := ih (μ i') (hn ▸ hlt) i' a1 w1 rfl hI'
    exact ⟨e2, a2, w2, hq2, .of_steps (Steps.trans harr (.one step_inLoop)) harr2⟩
   | exit id => exact ⟨_, a1, w1, hq, .pass (x := .inLoop c) rfl (fun _ _ => .inl (by simp)) harr⟩
   | goto l => exact ⟨_, a1, w1, hq, .pass (x := .inLoop c) rfl (fun _ _ => .inl (by simp)) harr⟩
   | ret => exact ⟨_, a1, w1, hq, .pass (x := .inLoop c) rfl (fun _ _ => .inl (by simp)) harr⟩
   | panic ch => exact ⟨_, a1, w1, hq, .pass (x := .inLoop c) rfl (fun _ _ => .inl (by simp)) harr⟩
   | outgrown => exact ⟨_, a1, w1, hq, .pass (x := .inLoop c) rfl (fun _ _ => .inl (by simp)) harr⟩
 obtain ⟨e, a', w', hq, harr⟩ := key _ i a w rfl h0
 exact ⟨e, a', w', hq, .of_steps (.one step_loop) harr⟩
end
end Go.Bm
/- The typed machine: guards known where they hold. -/
namespace Go.Bm
open Go.RowKit
def InvG (all rest : List Oper) (env : Env) : Prop :=
 ∀ t j w P v, gt env t = .gd j w P v -> ∃ d, dstOf all j = some d /\ P = gc (gt env d) w /\ gokB (gt env d) = true /\ wIn d rest = false
def Fs (all : List Oper) (env : Env) (fs : List (Nat × Bool)) : Prop :=
 ∀ j w, memF fs j w = true -> ∀ d, dstOf all j = some d -> gc (gt env d) w
theorem beqB_eq {a b : Bool} (h : beqB a b = true) : a = b := by cases a <;> cases b <;> simp [beqB, neg] at h <;> rfl
theorem sameS_eq {t : Nat} {o : Option Nat} (h : sameS t o = true) : o = some t := by
 cases o with
 | none => cases h
 | some d => rw [Nat.eq_of_beq_eq_true h]
theorem sameS_self (t : Nat) : sameS t (some t) = true := Nat.beq_refl t
theorem chain_ok {all rest : List Oper} {env : Env} (hI : InvG all rest env) : ∀ (n j : Nat) (w : Bool) (d : Nat), dstOf all j = some d -> gc (gt env d) w -> Fs all env (chainG all env n j w)
 | 0, _, _, _, _, _ => fun _ _ h => by cases h
 | n + 1, j, w, d, hd, hg => by
  intro i w' hm d' hd'
  simp only [chainG, memF] at hm
  cases hb : nob (Nat.beq j i) (beqB w w') with
  | true =>
   simp only [nob_eq, Bool.and_eq_true] at hb
   have h1 := Nat.eq_of_beq_eq_true hb.1
   have h2 := beqB_eq hb.2
   subst h1 h2
   rw [hd] at hd'; cases hd'; exact hg
  | false =>
   rw [hb] at hm
   simp only [cond_false, hd] at hm
   cases hv : gt env d with
   | gd i2 w2 P2 v2 =>
    rw [hv] at hm
    obtain ⟨d2, h1, h2, _, _⟩ := hI _ _ _ _ _ hv
    rw [hv] at hg
    simp only [gc] at hg
    exact chain_ok hI n i2 w2 d2 h1 (h2 ▸ hg.1) i w' hm d' hd'
   | _ => rw [hv] at hm; simp [memF] at hm
theorem rd_gd {env : Env} {x : Operand} {j : Nat} {w : Bool} {P : Prop} {v : V} (h : rd env x = .gd j w P v) : ∃ t, gt env t = .gd j w P v := by
 cases x with
 | tmp t => exact ⟨t, h⟩
 | const v =>
  simp only [rd] at h
  unfold rdV at h
  split at h <;> try cases h
  ·cases hb : nob (Nat.beq _ 0) (Nat.beq _ 0) <;> rw [hb] at h <;> cases h
 | func f => cases h
 | global _ => cases h
theorem needsG {all rest : List Oper} {env : Env} {fs : List (Nat × Bool)} (hI : InvG all rest env) (hf : Fs all env fs) : ∀ (l : List Operand), allP (needs (fun x => unG fs (rd env x)) l) -> allP (needs (rd env) l)
 | [], _ => trivial
 | x :: r, h => by
  simp only [needs] at h ⊢
  cases hv : rd env x with
  | gd j w P v =>
   rw [hv] at h
   simp only [unG] at h
   cases hm : memF fs j w with
   | true =>
    rw [hm] at h
    obtain ⟨t, ht⟩ := rd_gd hv
    obtain ⟨d, h1, h2, _, _⟩ := hI _ _ _ _ _ ht
    refine ⟨h2 ▸ hf j w hm d h1, needsG hI hf r ?_⟩
    simp only [cond_true] at h
    split at h
    ·exact h.2
    ·exact h
   | false => rw [hm] at h; exact ⟨h.1, needsG hI hf r h.2⟩
  | _ => rw [hv] at h; exact needsG hI hf r h
theorem pickG_side {all rest : List Oper} {env : Env} {fs : List (Nat × Bool)} (hI : InvG all rest env) (hf : Fs all env fs) {c a : Operand} {side : Bool} (hb : (rd env c).strip.isB = true) (hc : allP (needs (rd env) [c]))
  (h : allP (pickN (rd env c).strip.boolV side (pickS all c side (unG fs (rd env a))))) : allP (pickN (rd env c).strip.boolV side (rd env a)) := by
 cases hv : rd env a with
 | gd j w P v =>
  obtain ⟨t, ht⟩ := rd_gd hv
  obtain ⟨d, h1, h2, h3, _⟩ := hI _ _ _ _ _ ht
  simp only [pickN, allP_cons, allP_nil, and_true]
  rw [hv] at h
  simp only [unG] at h
  cases hm : memF fs j w with
  | true => exact fun _ => h2 ▸ hf j w hm d h1
  | false =>
   rw [hm] at h
   simp only [cond_false] at h
   unfold pickS at h
   split at h
   ·rename_i t' j' w' P' x' heq
    cases heq
    cases hs : nob (sameS t' (dstOf all j)) (beqB w side) with
    | false => rw [hs] at h; exact h.1
    | true =>
     simp only [nob_eq, Bool.and_eq_true] at hs
     have e1 := sameS_eq hs.1
     have e2 := beqB_eq hs.2
     rw [h1] at e1
     cases e1
     subst e2
     intro hcb
     subst h2
     simp only [rd] at hb hcb hc
     simp only [needs] at hc
     cases hg : gt env d with
     | gd i w' P' v' =>
      simp only [rd, hg] at hc
      rw [hg] at hb hcb
      simp only [V.strip] at hb hcb
      refine ⟨hc.1, ?_⟩
      cases v' <;> simp only [V.isB, Bool.false_eq_true] at hb
      rename_i tt x
      cases tt <;> simp only [Bool.false_eq_true] at hb
      exact hcb
     | d tt x =>
      rw [hg] at hb hcb
      cases tt <;> simp only [V.strip, V.isB, Bool.false_eq_true] at hb
      exact hcb
     | _ => rw [hg] at hb; simp [V.strip, V.isB] at hb
   ·exact h.1
 | _ => simp only [pickN, allP_nil]
variable {B : Tab} {Φ : FuncId -> Option Ct}
theorem evG_ok {all rest : List Oper} {env : Env} {fs : List (Nat × Bool)} (hI : InvG all rest env) (hf : Fs all env fs) (o : Oper) (M : Mem) :
  ∃ vc, evR B Φ o env M = ⟨vc, (evG B Φ all fs o env M).av, (evG B Φ all fs o env M).ev, (evG B Φ all fs o env M).M⟩ /\ (allP (evG B Φ all fs o env M).vc -> allP vc) := by
 unfold evR evG
 split
 ·rename_i c a b _
  simp only [evPick, pickG, pureR]
  cases hb : allT [(rd env c).strip.isB, (rd env a).strip.isB, (rd env b).strip.isB] with
  | false => exact ⟨_, rfl, id⟩
  | true =>
   refine ⟨_, rfl, fun h => ?_⟩
   have hcB : (rd env c).strip.isB = true := by
    simp only [allT] at hb
    cases hc : (rd env c).strip.isB with
    | true => rfl
    | false => rw [hc] at hb; cases hb
   simp only [cond_true, allP_ap] at h ⊢
   have hc := needsG hI hf [c] h.1
   exact ⟨hc, pickG_side hI hf hcB hc h.2.1, pickG_side hI hf hcB hc h.2.2⟩
 ·generalize evOp B Φ o (fun x => (rd env x).strip) M = q
  obtain ⟨vc, v, e, M'⟩ := q
  refine ⟨_, rfl, fun h => ?_⟩
  simp only [allP_ap] at h ⊢
  exact ⟨needsG hI hf _ h.1, h.2⟩
theorem gok_evs : ∀ (e : List Ev) (v : V), gokB v = true -> v.evs e = v := by
 intro e
 induction e with
 | nil => intro v _; rfl
 | cons x e ih =>
  intro v h
  have key : ∀ v : V, gokB v = true -> v.ev x = v := by
   intro v
   induction v with
   | gd j w P v ihv => intro h; simp only [gokB] at h; simp only [V.ev, ihv h]
   | d t y => intro _; rfl
   | _ => intro h; simp [gokB] at h
  simp only [V.evs, key v h]
  exact ih v h
theorem wIn_cons {d : Nat} {o : Oper} {r : List Oper} (h : wIn d (o :: r) = false) : o.dst ≠ some d /\ wIn d r = false := by
 simp only [wIn] at h
 cases hs : sameS d o.dst with
 | true => rw [hs] at h; cases h
 | false =>
  rw [hs] at h
  refine ⟨fun he => ?_, h⟩
  rw [he, sameS_self] at hs
  cases hs
theorem wIn_app {d : Nat} : ∀ {a b : List Oper}, wIn d (a ++ b) = false ↔ wIn d a = false /\ wIn d b = false
 | [], b => by simp [wIn]
 | o :: a, b => by
  simp only [List.cons_append, wIn]
  cases sameS d o.dst with
  | true => simp
  | false => simpa using wIn_app
theorem gt_wr' (d : Option Nat) (v : V) (env : Env) (t : Nat) : gt (wr d v env) t = if d = some t then v else gt env t := gt_wr d v env t
theorem isGd_expl : ∀ (t : T) (x : t.den), isGd (expl t x) = false := by intro t x; cases t <;> rfl
theorem isGd_ref (k : Nat) (π : Path) (e : Ev) : isGd (e.ref k π) = false := by
 cases e with
 | fz r ob =>
  simp only [Ev.ref]
  cases Nat.beq k r with
  | false => rfl
  | true =>
   simp only [cond_true]
   split
   ·exact isGd_expl _ _
   ·rfl
 | cut r o o' => simp only [Ev.ref]; cases Nat.beq k r <;> cases nilP π <;> rfl
 | mv r k' => simp only [Ev.ref]; cases Nat.beq k r <;> rfl
 | kl r => simp only [Ev.ref]; cases Nat.beq k r <;> rfl
 | un r j => simp only [Ev.ref]; cases Nat.beq k r <;> rfl
theorem isGd_ad (k : Nat) (π : Path) (e : Ev) : isGd (e.ad k π) = false := by
 cases e with
 | fz r ob =>
  simp only [Ev.ad]
  cases Nat.beq k r with
  | false => rfl
  | true =>
   simp only [cond_true]
   split <;> rfl
 | cut r o o' => simp only [Ev.ad]; cases Nat.beq k r <;> cases sameO (stat π o) (stat π o') <;> rfl
 | mv r k' => simp only [Ev.ad]; cases Nat.beq k r <;> rfl
 | kl r => simp only [Ev.ad]; cases Nat.beq k r <;> rfl
 | un r j =>
  simp only [Ev.ad]
  cases Nat.beq k r with
  | false => rfl
  | true =>
   simp only [cond_true]
   split <;> rfl
theorem inv_plain {all : List Oper} {o : Oper} {rest : List Oper} {env env' : Env} {v : V} (hI : InvG all (o :: rest) env) (hv : isGd v = false)
  (he : ∃ e, ∀ t, gt env' t = (gt env t).evs e) : InvG all rest (wr o.dst v env') := by
 obtain ⟨e, he⟩ := he
 intro t j w P x hx
 rw [gt_wr'] at hx
 split at hx
 ·subst hx; cases hv
 ·rw [he] at hx
  have hsh : ∃ y, gt env t = .gd j w P y := by
   clear he
   generalize gt env t = q at hx
   induction e generalizing q with
   | nil => exact ⟨x, hx⟩
   | cons z e ih =>
    simp only [V.evs] at hx
    obtain ⟨y, hy⟩ := ih _ hx
    cases q with
    | gd j' w' P' v' => simp only [V.ev, V.gd.injEq] at hy; obtain ⟨rfl, rfl, rfl, _⟩ := hy; exact ⟨v', rfl⟩
    | ref k π =>
     have := isGd_ref k π z
     simp only [V.ev] at hy
     rw [hy] at this; cases this
    | ad k π =>
     have := isGd_ad k π z
     simp only [V.ev] at hy
     rw [hy] at this; cases this
    | _ => simp [V.ev] at hy
  obtain ⟨y, hy⟩ := hsh
  obtain ⟨d, h1, h2, h3, h4⟩ := hI t j w P y hy
  obtain ⟨h5, h6⟩ := wIn_cons h4
  have h7 : gt (wr o.dst v env') d = gt env d := by rw [gt_wr', if_neg h5, he, gok_evs e _ h3]
  exact ⟨d, h1, h7 ▸ h2, h7 ▸ h3, h6⟩
theorem inv_guard {all : List Oper} {o : Oper} {rest : List Oper} {env : Env} {j dj : Nat} {w : Bool} {v : V} (hI : InvG all (o :: rest) env) (hd : dstOf all j = some dj) (hg : gokB (gt env dj) = true) (hw : wIn dj (o :: rest) = false) :
  InvG all rest (wr o.dst (.gd j w (gc (gt env dj) w) v) env) := by
 intro t i w' P x hx
 rw [gt_wr'] at hx
 split at hx
 ·cases hx
  obtain ⟨h5, h6⟩ := wIn_cons hw
  have h7 : ∀ q, gt (wr o.dst q env) dj = gt env dj := fun q => by rw [gt_wr', if_neg h5]
  exact ⟨dj, hd, by rw [h7], by rw [h7]; exact hg, h6⟩
 ·obtain ⟨d, h1, h2, h3, h4⟩ := hI t i w' P x hx
  obtain ⟨h5, h6⟩ := wIn_cons h4
  have h7 : ∀ q, gt (wr o.dst q env) d = gt env d := fun q => by rw [gt_wr', if_neg h5]
  exact ⟨d, h1, by rw [h7]; exact h2, by rw [h7]; exact h3, h6⟩
theorem fs_nil {all : List Oper} {env : Env} : Fs all env [] := fun _ _ h => by cases h
theorem twG_tw {all : List Oper} {K : Env -> Mem -> Prop} : ∀ (ops : List Oper) (env : Env) (M : Mem), InvG all ops env -> twG B Φ all ops env M K -> tw B Φ all ops env M K
 | [], _, _, _, h => h
 | o :: rest, env, M, hI, h => by
  simp only [twG] at h
  simp only [tw]
  cases hgd : o.guard with
  | none =>
   rw [hgd] at h
   obtain ⟨vc, he, hvc⟩ := evG_ok (B := B) (Φ := Φ) hI fs_nil o M
   rw [he]
   generalize evG B Φ all [] o env M = q at h hvc ⊢
   obtain ⟨vc', v, e, M'⟩ := q
   simp only at h hvc ⊢
   cases hv : isGd v with
   | true => rw [hv] at h; exact h.elim
   | false =>
    rw [hv] at h
    simp only [cond_false, conj_iff] at h
    rw [conj_iff]
    exact ⟨hvc h.1, twG_tw rest _ _ (inv_plain hI hv ⟨e, fun t => gt_evEs t e env⟩) h.2⟩
  | some g =>
   obtain ⟨j, want⟩ := g
   rw [hgd] at h
   simp only at h ⊢
   cases hd : dstOf all j with
   | none => rw [hd] at h; exact h.elim
   | some dj =>
    rw [hd] at h
    simp only at h ⊢
    by_cases hG : gc (gt env dj) want
    ·obtain ⟨vc, he, hvc⟩ := evG_ok (B := B) (Φ := Φ) hI (chain_ok hI 8 j want dj hd hG) o M
     rw [he]
     generalize evG B Φ all (chainG all env 8 j want) o env M = q at h hvc ⊢
     obtain ⟨vc', v, e, M'⟩ := q
     simp only [allT] at h hvc ⊢
     cases h1 : gokB (gt env dj) <;> rw [h1] at h <;> try exact h.elim
     cases h2 : quiet o <;> rw [h2] at h <;> try exact h.elim
     cases h3 : fresh M e <;> rw [h3] at h <;> try exact h.elim
     cases h4 : wIn dj (o :: rest) <;> rw [h4] at h <;> try exact h.elim
     simp only [neg, cond_true, cond_false, imp_iff] at h ⊢
     exact ⟨fun g => hvc (h.1 g), twG_tw rest _ _ (inv_guard hI hd h1 h4) h.2⟩
    ·have hev : (evR B Φ o env M).av = (evG B Φ all (chainG all env 8 j want) o env M).av /\ (evR B Φ o env M).ev = (evG B Φ all (chainG all env 8 j want) o env M).ev /\ (evR B Φ o env M).M = (evG B Φ all (chainG all env 8 j want) o env M).M := by
      unfold evR evG
      split
      ·simp only [evPick, pickG, pureR]
       cases allT [_, _, _] <;> simp [bad]
      ·exact ⟨rfl, rfl, rfl⟩
     generalize evG B Φ all (chainG all env 8 j want) o env M = q at h hev ⊢
     generalize evR B Φ o env M = q2 at hev ⊢
     obtain ⟨vc', v, e, M'⟩ := q
     obtain ⟨vc2, v2, e2, M2⟩ := q2
     simp only at hev
     obtain ⟨rfl, rfl, rfl⟩ := hev
     simp only [allT] at h ⊢
     cases h1 : gokB (gt env dj) <;> rw [h1] at h <;> try exact h.elim
     cases h2 : quiet o <;> rw [h2] at h <;> try exact h.elim
     cases h3 : fresh M e2 <;> rw [h3] at h <;> try exact h.elim
     cases h4 : wIn dj (o :: rest) <;> rw [h4] at h <;> try exact h.elim
     simp only [neg, cond_true, cond_false, imp_iff] at h ⊢
     exact ⟨fun g => absurd g hG, twG_tw rest _ _ (inv_guard hI hd h1 h4) h.2⟩
theorem avF_gd {M M' : Mem} (v : V) : isGd (avF M M' v) = false := by
 cases v with
 | ref k π =>
  simp only [avF]
  split
  ·rfl
  ·split
   ·exact isGd_expl _ _
   ·rfl
 | ad k π =>
  simp only [avF]
  split
  ·rfl
  ·split <;> rfl
 | _ => rfl
theorem dwG_dw {all tl : List Oper} {K K' : Env -> Prop} (hK : ∀ env, InvG all tl env -> K' env -> K env) : ∀ (ops : List Oper) (env : Env) (M : Mem), InvG all (ops ++ tl) env -> dwG B Φ all tl ops env M K' -> dw B Φ all ops env M K
 | [], env, _, hI, h => hK env hI h
 | o :: rest, env, M, hI, h => by
  simp only [dwG] at h
  simp only [dw]
  cases hgd : o.guard with
  | none =>
   rw [hgd] at h
   obtain ⟨vc, he, hvc⟩ := evG_ok (B := B) (Φ := Φ) hI fs_nil o M
   rw [he]
   generalize evG B Φ all [] o env M = q at h hvc ⊢
   obtain ⟨vc', v, e, M'⟩ := q
   simp only [allT] at h hvc ⊢
   cases h2 : quiet o <;> rw [h2] at h <;> try exact h.elim
   cases h3 : fresh M e <;> rw [h3] at h <;> try exact h.elim
   simp only [cond_true, conj_iff] at h
   simp only [cond_true]
   rw [conj_iff]
   exact ⟨hvc h.1, dwG_dw hK rest _ _ (inv_plain hI (avF_gd v) ⟨[], fun t => rfl⟩) h.2⟩
  | some g =>
   obtain ⟨j, want⟩ := g
   rw [hgd] at h
   simp only at h ⊢
   cases hd : dstOf all j with
   | none => rw [hd] at h; exact h.elim
   | some dj =>
    rw [hd] at h
    simp only at h ⊢
    have hev : (evR B Φ o env M).av = (evG B Φ all (chainG all env 8 j want) o env M).av /\ (evR B Φ o env M).ev = (evG B Φ all (chainG all env 8 j want) o env M).ev /\ (evR B Φ o env M).M = (evG B Φ all (chainG all env 8 j want) o env M).M /\
      (gc (gt env dj) want -> allP (evG B Φ all (chainG all env 8 j want) o env M).vc -> allP (evR B Φ o env M).vc) := by
     refine ⟨?_, ?_, ?_, fun hG => ?_⟩
     ·unfold evR evG
      split
      ·simp only [evPick, pickG, pureR]
       cases allT [_, _, _] <;> rfl
      ·rfl
     ·unfold evR evG
      split <;> rfl
     ·unfold evR evG
      split <;> rfl
     ·obtain ⟨vc, he, hvc⟩ := evG_ok (B := B) (Φ := Φ) hI (chain_ok hI 8 j want dj hd hG) o M
      rw [he]; exact hvc
    generalize evG B Φ all (chainG all env 8 j want) o env M = q at h hev ⊢
    generalize evR B Φ o env M = q2 at hev ⊢
    obtain ⟨vc', v, e, M'⟩ := q
    obtain ⟨vc2, v2, e2, M2⟩ := q2
    simp only at hev
    obtain ⟨rfl, rfl, rfl, hvc⟩ := hev
    simp only [allT] at h ⊢
    cases h1 : gokB (gt env dj) <;> rw [h1] at h <;> try exact h.elim
    cases h2 : quiet o <;> rw [h2] at h <;> try exact h.elim
    cases h3 : fresh M e2 <;> rw [h3] at h <;> try exact h.elim
    cases h4 : wIn dj (o :: rest) <;> rw [h4] at h <;> try exact h.elim
    cases h5 : wIn dj tl <;> rw [h5] at h <;> try exact h.elim
    simp only [neg, cond_true, cond_false, imp_iff] at h ⊢
    have h6 : wIn dj (o :: (rest ++ tl)) = false := by
     have := (wIn_app (a := o :: rest) (b := tl)).2 ⟨h4, h5⟩
     simpa using this
    exact ⟨fun g => hvc g (h.1 g), dwG_dw hK rest _ _ (inv_guard hI hd h1 h6) h.2⟩
theorem nogd_inv {all rest : List Oper} : ∀ {env : Env}, nogd env = true -> InvG all rest env := by
 intro env h t j w P v hx
 exfalso
 induction env with
 | nil => simp [gt] at hx
 | cons p env ih =>
  obtain ⟨k, u0⟩ := p
  simp only [nogd] at h
  cases hu : isGd u0 with
  | true => rw [hu] at h; cases h
  | false =>
   rw [hu] at h
   simp only [gt] at hx
   cases hb : Nat.beq k t with
   | true => rw [hb] at hx; simp only [cond_true] at hx; subst hx; cases hu
   | false => rw [hb] at hx; exact ih h hx
end Go.Bm
/- The typed machine: drawn regions that make boxes and fill them. -/
namespace Go.Bm
open Go.RowKit
variable {B : Tab} {Φ : FuncId -> Option Ct}
theorem dat_ev (e : Ev) : ∀ v : V, isDat v = true -> v.ev e = v
 | .d _ _, _ => rfl
 | .nl, _ => rfl
 | .np, _ => rfl
 | .u, _ => rfl
 | .p a b, h => by
  simp only [isDat, nob_eq, Bool.and_eq_true] at h
  simp only [V.ev, dat_ev e a h.1, dat_ev e b h.2]
 | .ag v, h => by simp only [isDat] at h; simp only [V.ev, dat_ev e v h]
 | .fn f v, h => by simp only [isDat] at h; simp only [V.ev, dat_ev e v h]
 | .bx v, h => by simp only [isDat] at h; simp only [V.ev, dat_ev e v h]
 | .any, h => by cases h
 | .ref _ _, h => by cases h
 | .ad _ _, h => by cases h
 | .tup _, h => by cases h
 | .gd _ _ _ _, h => by cases h
 | .ifc _ _, h => by cases h
theorem size_dat (M : Mem) : ∀ v : V, isDat v = true -> v.size M = v.size []
 | .d _ _, _ => rfl
 | .nl, _ => rfl
 | .np, _ => rfl
 | .u, _ => rfl
 | .p a b, h => by
  simp only [isDat, nob_eq, Bool.and_eq_true] at h
  simp only [V.size, size_dat M a h.1, size_dat M b h.2]
 | .ag v, h => rfl
 | .fn f v, h => rfl
 | .bx v, h => rfl
 | .any, h => by cases h
 | .ref _ _, h => by cases h
 | .ad _ _, h => by cases h
 | .tup _, h => by cases h
 | .gd _ _ _ _, h => by cases h
 | .ifc _ _, h => by cases h
theorem sizeIs_dat (M : Mem) (v : V) (n : Nat) (h : isDat v = true) : sizeIs M v n = sizeIs [] v n := by simp only [sizeIs, size_dat M v h]
theorem subV_dat (M : Mem) : ∀ (π : Path) (v : V), isDat v = true -> subV M π v = subV [] π v /\ ∀ n x, subV [] π v = some (n, x) -> isDat x = true
 | [], v, h => by
  simp only [subV, Option.some.injEq, Prod.mk.injEq]
  exact ⟨trivial, fun n x e => e.2 ▸ h⟩
 | .l :: π, .p a b, h => by
  simp only [isDat, nob_eq, Bool.and_eq_true] at h
  simp only [subV]
  exact subV_dat M π a h.1
 | .r :: π, .p a b, h => by
  simp only [isDat, nob_eq, Bool.and_eq_true] at h
  obtain ⟨e1, e2⟩ := subV_dat M π b h.2
  simp only [subV, e1, size_dat M a h.1]
  refine ⟨trivial, fun n x hx => ?_⟩
  split at hx
  ·rename_i m n' x' _ h2; cases hx; exact e2 _ _ h2
  ·cases hx
 | .de :: π, .p a b, _ => by simp [subV]
 | .ix _ :: π, .p a b, _ => by simp [subV]
 | .l :: π, .d _ _, _ => by simp [subV]
 | .r :: π, .d _ _, _ => by simp [subV]
 | .de :: π, .d _ _, _ => by simp [subV]
 | .ix _ :: π, .d _ _, _ => by simp [subV]
 | _ :: π, .nl, _ => by simp [subV]
 | _ :: π, .np, _ => by simp [subV]
 | _ :: π, .u, _ => by simp [subV]
 | _ :: π, .ag _, _ => by simp [subV]
 | _ :: π, .fn _ _, _ => by simp [subV]
 | _ :: π, .bx _, _ => by simp [subV]
 | _ :: _, .any, h => by cases h
 | _ :: _, .ref _ _, h => by cases h
 | _ :: _, .ad _ _, h => by cases h
 | _ :: _, .tup _, h => by cases h
 | _ :: _, .gd _ _ _ _, h => by cases h
 | _ :: _, .ifc _ _, h => by cases h
theorem subA_dat (M : Mem) (x : V) (π : Path) (off : Nat) (h : isDat x = true) : subA M x π off = subA [] x π off := by
 cases x <;> first | rfl | (simp only [isDat] at h; simp only [subA, (subV_dat M π _ h).1]; done) | (cases h; done) | (rename_i t x; cases t <;> rfl)
theorem evFldA_dat (τ : Ty) (M : Mem) (x : V) (i : Nat) (h : isDat x = true) : evFldA τ M x i = evFldA τ [] x i := by
 simp only [evFldA, subA_dat M x _ _ h]
theorem evFld_dat (τ : Ty) (M : Mem) (x : V) (i : Nat) (h : isDat x = true) : evFld B τ M x i = evFld B τ [] x i := by
 unfold evFld
 split
 ·rename_i off ft _ v _
  simp only [isDat] at h
  obtain ⟨e1, e2⟩ := subV_dat M (fpath (len τ.fld) i) v h
  rw [e1]
  cases hs : subV [] (fpath (len τ.fld) i) v with
  | none => rfl
  | some q => obtain ⟨n, w⟩ := q; simp only [sizeIs_dat M w _ (e2 _ _ hs)]
 ·rfl
theorem evIxS_dat (τ : Ty) (M : Mem) (x i : V) (h : isDat x = true) : evIxS B τ M x i = evIxS B τ [] x i := by
 unfold evIxS
 split
 ·cases x <;> first | rfl | (cases h; done) | (rename_i t x; cases t <;> rfl)
 ·rfl
theorem evIxA_dat (τ : Ty) (M : Mem) (x i : V) (h : isDat x = true) : evIxA B τ M x i = evIxA B τ [] x i := by
 unfold evIxA
 split
 ·simp only [evIxQ, subA_dat M x _ _ h]
 ·exact evIxS_dat τ M x i h
theorem evLoad_dat (τ : Ty) (M : Mem) (x : V) (h : isDat x = true) : evLoad τ M x = evLoad τ [] x := by
 cases x <;> first | rfl | (simp only [isDat] at h; simp only [evLoad, sizeIs_dat M _ _ h]; done) | (cases h; done) | (rename_i t x; cases t <;> rfl)
theorem dat_strip {v : V} (h : isDat v = true) : v.strip = v := by cases v <;> first | rfl | cases h
theorem datOps_mem {env : Env} : ∀ {l : List Operand}, datOps env l = true -> ∀ x ∈ l, isDat (rd env x) = true
 | [], _, x, h => by cases h
 | y :: l, hd, x, h => by
  simp only [datOps, nob_eq, Bool.and_eq_true] at hd
  cases h with
  | head => exact hd.1
  | tail _ h => exact datOps_mem hd.2 x h
theorem needs_dat {f : Operand -> V} : ∀ (l : List Operand), (∀ x ∈ l, isDat (f x) = true) -> needs f l = []
 | [], _ => rfl
 | x :: r, h => by
  have hx := h x (by simp)
  simp only [needs]
  split
  ·rename_i e; rw [e] at hx; cases hx
  ·exact needs_dat r fun y hy => h y (by simp [hy])
theorem pure_dat {o : Oper} {env : Env} (M : Mem) (hk : pureK o.op = true) (hd : datOps env (opds o.op) = true) {vc : List Prop} {v : V} (h : evR B Φ o env [] = ⟨vc, v, [], []⟩) :
  evR B Φ o env M = ⟨vc, v, [], M⟩ := by
 have hm := datOps_mem hd
 obtain ⟨dst, op, ty', pos, after, guard⟩ := o
 cases op <;> simp only [pureK, Bool.false_eq_true] at hk <;> simp only [opds] at hm <;> simp only [evR, evOp] at h ⊢ <;> (try simp only [pureR] at h ⊢; cases h)
 case load t x =>
  have hx := hm x (by simp)
  have hn : ∀ N : Mem, takL (B.τ t) N dst (rd env x) = none := fun N => by
   generalize rd env x = v at hx
   cases v <;> first | rfl | (simp [isDat] at hx)
  simp only [dat_strip hx, evLoadT, hn, pureR] at h ⊢
  simp only [evLoad_dat _ M _ hx]
  simp only [Rs.mk.injEq] at h ⊢
  exact ⟨h.1, h.2.1, trivial, trivial⟩
 case fieldAddr t x i =>
  have hx := hm x (by simp)
  simp only [dat_strip hx, evFldA_dat _ M _ _ hx]
 case field t x i =>
  have hx := hm x (by simp)
  simp only [dat_strip hx, evFld_dat _ M _ _ hx]
 case indexAddr t x i =>
  have hx := hm x (by simp)
  simp only [dat_strip hx, evIxA_dat _ M _ _ hx]
 all_goals rfl
theorem conv_dat (k : Nat) (M M' : Mem) : ∀ (t : T) (v : V), isDat v = true -> ∀ q e X, conv k t v M' = some (q, e, X) -> e = [] /\ X = M' /\ conv k t v M = some (q, [], M) := by
 intro t v
 induction v generalizing t with
 | p a b iha ihb =>
  intro h q e X hc
  simp only [isDat, nob_eq, Bool.and_eq_true] at h
  cases t <;> simp only [conv] at hc <;> try cases hc
  rename_i t1 t2
  cases h1 : conv k t1 a M' with
  | none => rw [h1] at hc; cases hc
  | some r =>
   obtain ⟨q1, e1, X1⟩ := r
   rw [h1] at hc
   obtain ⟨rfl, hX1, i1⟩ := iha _ h.1 _ _ _ h1
   rw [hX1] at hc
   simp only [V.evs] at hc
   cases h2 : conv k t2 b M' with
   | none => rw [h2] at hc; cases hc
   | some r2 =>
    obtain ⟨q2, e2, X2⟩ := r2
    rw [h2] at hc
    obtain ⟨rfl, hX2, i2⟩ := ihb _ h.2 _ _ _ h2
    cases hc
    refine ⟨rfl, hX2, ?_⟩
    simp only [conv, i1, V.evs, i2, ap]
 | u => intro _ q e X hc; cases t <;> simp only [conv] at hc ⊢ <;> cases hc <;> exact ⟨rfl, rfl, rfl⟩
 | d t' x => intro _ q e X hc; cases t <;> simp only [conv] at hc ⊢ <;> cases hc <;> exact ⟨rfl, rfl, rfl⟩
 | nl => intro _ q e X hc; cases t <;> simp only [conv] at hc ⊢ <;> cases hc <;> exact ⟨rfl, rfl, rfl⟩
 | np => intro _ q e X hc; cases t <;> simp only [conv] at hc ⊢ <;> cases hc <;> exact ⟨rfl, rfl, rfl⟩
 | fn f v ih =>
  intro h q e X hc
  cases v <;> cases t <;> simp only [conv] at hc ⊢ <;> cases hc <;> exact ⟨rfl, rfl, rfl⟩
 | ag v ih => intro _ q e X hc; cases t <;> simp only [conv] at hc <;> cases hc
 | bx v ih => intro _ q e X hc; cases t <;> simp only [conv] at hc <;> cases hc
 | _ => intro h; cases h
theorem cells_dat {v : V} (h : isDat v = true) : isDat v.cells = true := by cases v <;> exact h
theorem go_one (d : Nat) (ob : Ob) : go [(d, ob)] d = some ob := by rw [go_cons, if_pos rfl]
theorem unnest_dat {x y : V} {M : Mem} {r : Rs} (h : isDat y = true) : unnest x y M r = r := by
 unfold unnest
 split
 ·cases h
 ·rfl
theorem storeN_dat {t : TypeId} {x y : V} {M : Mem} (h : isDat y = true) : evStoreN B t x y M = evStore B t x y M := by
 unfold evStoreN tellV
 split
 ·rename_i c y' e M1 hq
  split at hq
  ·cases h
  ·cases hq
 ·rfl
theorem store_dat {t : TypeId} {d : Nat} {y : V} {ob ob' : Ob} {M : Mem} (hy : isDat y = true) (hg : go M d = some ob) (h : one1 d (evStore B t (.ad d [.de]) y [(d, ob)]) = some ob') :
  ∃ v e, evStore B t (.ad d [.de]) y M = ⟨[], v, [e], put d ob' M⟩ /\ ∃ o o', e = .cut d o o' /\ sameO (stat [.de] o) (stat [.de] o') = true := by
 have hcy := cells_dat hy
 simp only [evStore, go_one, hg, getM] at h ⊢
 cases hq : get [.de] ob.o ob.x with
 | none => rw [hq] at h; cases h
 | some q =>
  rw [hq] at h
  simp only [sizeIs_dat M y.cells _ hcy, sizeIs_dat [(d, ob)] y.cells _ hcy] at h ⊢
  cases hb : allT [(B.τ t).ok, sizeIs [] y.cells (B.τ t).size, beqN q.o.strip.size (B.τ t).size, neg (isZ (B.τ t).size)] with
  | false => rw [hb] at h; cases h
  | true =>
   rw [hb] at h
   simp only [cond_true, hasIx, cond_false] at h ⊢
   cases hc : conv d (B.σ t) y.cells [] with
   | none =>
    exfalso
    cases hc' : conv d (B.σ t) y.cells [(d, ob)] with
    | none => rw [hc'] at h; cases h
    | some r =>
     obtain ⟨q', e', X'⟩ := r
     obtain ⟨_, _, c3⟩ := conv_dat d [] [(d, ob)] _ _ hcy _ _ _ hc'
     rw [c3] at hc; cases hc
   | some r =>
    obtain ⟨z, e, X⟩ := r
    obtain ⟨rfl, rfl, c1⟩ := conv_dat d M [] _ _ hcy _ _ _ hc
    obtain ⟨_, _, c2⟩ := conv_dat d [(d, ob)] [] _ _ hcy _ _ _ hc
    rw [c2] at h
    rw [c1]
    simp only [go_one, hg] at h ⊢
    cases hs : set [.de] ob.o ob.x z with
    | none => rw [hs] at h; cases h
    | some ob2 =>
     rw [hs] at h
     simp only at h ⊢
     cases hz : beqN z.o.strip.size (B.τ t).size with
     | false => rw [hz] at h; cases h
     | true =>
      rw [hz] at h
      simp only [cond_true, ap] at h ⊢
      have hcl : clsA [.de] ob2 = none := rfl
      simp only [hcl] at h ⊢
      have hp : put d ob2 [(d, ob)] = [(d, ob2)] := by simp only [put, beq_cond, if_true]
      rw [hp] at h
      simp only [one1, Nat.beq_refl, cond_true, Option.some.injEq] at h
      subst h
      refine ⟨_, _, rfl, _, _, rfl, ?_⟩
      obtain ⟨oo, xx⟩ := ob
      cases oo <;> simp only [set] at hs <;> cases hs
      rfl
def bstep (B : Tab) (Φ : FuncId -> Option Ct) (o : Oper) (e : Env) (x : Mem) (e' : Env) (x' : Mem) : Prop :=
 o.guard = none /\ (
  (∃ ty d, o.op = .alloc ty /\ o.dst = some d /\ allT [(B.τ ty).ok, B.z ty] = true /\ go x d = none /\ e' = (d, .ad d [.de]) :: e /\ x' = (d, zeroB B ty) :: x) ∨
  (∃ t d y ob ob', o.op = .store t (.tmp d) y /\ o.dst = none /\ go x d = some ob /\ isDat (rd e y) = true /\ isAdd d (gt e d) = true /\ one1 d (evStore B t (.ad d [.de]) (rd e y) [(d, ob)]) = some ob' /\ e' = e /\ x' = put d ob' x) ∨
  (∃ d vc v, o.dst = some d /\ pureK o.op = true /\ datOps e (opds o.op) = true /\ evR B Φ o e [] = ⟨vc, v, [], []⟩ /\ isDat v = true /\ allP vc /\ e' = (d, v) :: e /\ x' = x))
theorem bx_pure {o : Oper} {env : Env} {k : List Prop -> V -> Prop} (h : bxP B Φ o env k) : ∃ vc v, pureK o.op = true /\ datOps env (opds o.op) = true /\ evR B Φ o env [] = ⟨vc, v, [], []⟩ /\ isDat v = true /\ k vc v := by
 unfold bxP at h
 cases hb : nob (pureK o.op) (datOps env (opds o.op)) with
 | false => rw [hb] at h; exact h.elim
 | true =>
  rw [hb] at h
  simp only [nob_eq, Bool.and_eq_true] at hb
  simp only [cond_true] at h
  split at h
  ·rename_i vc v hp
   refine ⟨vc, v, hb.1, hb.2, ?_⟩
   generalize evR B Φ o env [] = q at hp
   unfold pure1 at hp
   split at hp
   ·rename_i vc' v'
    cases hd : isDat v' with
    | false => rw [hd] at hp; cases hp
    | true => rw [hd] at hp; cases hp; exact ⟨rfl, hd, h⟩
   ·cases hp
  ·exact h.elim
theorem bx_steps : ∀ (ops : List Oper) (e : Env) (x : Mem) (K : Env -> Mem -> Prop), bx B Φ ops e x K ->
  ∃ (E : Nat -> Env) (X : Nat -> Mem), E 0 = e /\ X 0 = x /\ (∀ j o, ops[j]? = some o -> bstep B Φ o (E j) (X j) (E (j + 1)) (X (j + 1))) /\ K (E ops.length) (X ops.length)
 | [], e, x, K, h => ⟨fun _ => e, fun _ => x, rfl, rfl, fun j o h => by simp at h, h⟩
 | o :: r, e, x, K, h => by
  have key : ∃ e' x', bstep B Φ o e x e' x' /\ bx B Φ r e' x' K := by
   simp only [bx] at h
   split at h
   ·rename_i ty d hg ho hd
    unfold bxA at h
    cases hb : allT [(B.τ ty).ok, B.z ty, isN (go x d)] with
    | false => rw [hb] at h; exact h.elim
    | true =>
     rw [hb] at h
     simp only [allT_cons, allT_nil, Bool.and_true, Bool.and_eq_true] at hb
     refine ⟨_, _, ⟨hg, .inl ⟨ty, d, ho, hd, by simp only [allT_cons, allT_nil, hb.1, hb.2.1, Bool.and_self], ?_, rfl, rfl⟩⟩, h⟩
     cases hx : go x d with
     | none => rfl
     | some _ => rw [hx] at hb; exact absurd hb.2.2 (by simp [isN])
   ·rename_i t d y hg ho hd
    unfold bxS at h
    split at h
    ·rename_i ob hx
     cases hb : nob (isDat (rd e y)) (isAdd d (gt e d)) with
     | false => rw [hb] at h; exact h.elim
     | true =>
      rw [hb] at h
      simp only [nob_eq, Bool.and_eq_true] at hb
      simp only [cond_true] at h
      split at h
      ·rename_i ob' h1
       exact ⟨_, _, ⟨hg, .inr (.inl ⟨t, d, y, ob, ob', ho, hd, hx, hb.1, hb.2, h1, rfl, rfl⟩)⟩, h⟩
      ·exact h.elim
    ·exact h.elim
   ·rename_i d hg hd _
    obtain ⟨vc, v, h1, h2, h3, h4, h5⟩ := bx_pure h
    rw [conj_iff] at h5
    exact ⟨_, _, ⟨hg, .inr (.inr ⟨d, vc, v, hd, h1, h2, h3, h4, h5.1, rfl, rfl⟩)⟩, h5.2⟩
   ·exact h.elim
  obtain ⟨e', x', h1, h2⟩ := key
  obtain ⟨E, X, i1, i2, i3, i4⟩ := bx_steps r e' x' K h2
  refine ⟨fun j => match j with | 0 => e | j + 1 => E j, fun j => match j with | 0 => x | j + 1 => X j, rfl, rfl, fun j o' hj => ?_, by simpa using i4⟩
  cases j with
  | zero =>
   simp only [List.getElem?_cons_zero, Option.some.injEq] at hj
   subst hj
   simp only
   rw [i1, i2]
   exact h1
  | succ j =>
   simp only [List.getElem?_cons_succ] at hj
   exact i3 j o' hj
theorem inN_mem {k : Nat} : ∀ {l : List Nat}, k ∈ l -> inN k l = true
 | j :: r, h => by
  simp only [inN]
  cases h with
  | head => rw [Nat.beq_refl]; rfl
  | tail _ h => cases Nat.beq j k <;> simp [inN_mem h]
theorem tgts_mem {k : Nat} : ∀ {l : List Oper} {s : Nat} {o : Oper}, l[s]? = some o -> tgt o = some k -> k ∈ tgts l
 | [], s, o, h, _ => by simp at h
 | x :: r, 0, o, h, ht => by
  simp only [List.getElem?_cons_zero, Option.some.injEq] at h
  subst h
  simp [tgts, ht]
 | x :: r, s + 1, o, h, ht => by
  simp only [List.getElem?_cons_succ] at h
  have := tgts_mem h ht
  simp only [tgts]
  split
  ·exact List.mem_cons_of_mem _ this
  ·exact this
theorem tgts_uniq {k : Nat} : ∀ {l : List Oper}, nodupN (tgts l) = true -> ∀ {s s' : Nat} {o o' : Oper}, l[s]? = some o -> l[s']? = some o' -> tgt o = some k -> tgt o' = some k -> s = s'
 | [], _, s, _, o, _, h, _, _, _ => by simp at h
 | x :: r, hn, s, s', o, o', h, h', ht, ht' => by
  have hr : nodupN (tgts r) = true := by
   simp only [tgts] at hn
   split at hn
   ·rename_i d0 _
    simp only [nodupN] at hn
    cases hi : inN d0 (tgts r) with
    | true => rw [hi] at hn; cases hn
    | false => rw [hi] at hn; exact hn
   ·exact hn
  have hx : tgt x = some k -> ∀ (s : Nat) (o : Oper), r[s]? = some o -> tgt o = some k -> False := fun hx s o ho hto => by
   have := inN_mem (tgts_mem ho hto)
   simp only [tgts, hx, nodupN, this, cond_true] at hn
   cases hn
  cases s with
  | zero =>
   simp only [List.getElem?_cons_zero, Option.some.injEq] at h
   subst h
   cases s' with
   | zero => rfl
   | succ s' => exact (hx ht s' o' (by simpa using h') ht').elim
  | succ s =>
   simp only [List.getElem?_cons_succ] at h
   cases s' with
   | zero =>
    simp only [List.getElem?_cons_zero, Option.some.injEq] at h'
    subst h'
    exact (hx ht' s o h ht).elim
   | succ s' => rw [tgts_uniq hr h (by simpa using h') ht ht']
theorem alloc_mem {k : Nat} {ty : TypeId} : ∀ {l : List Oper} {s : Nat} {o : Oper}, l[s]? = some o -> o.op = .alloc ty -> o.dst = some k -> k ∈ allocIds l
 | [], s, o, h, _, _ => by simp at h
 | x :: r, 0, o, h, h1, h2 => by
  simp only [List.getElem?_cons_zero, Option.some.injEq] at h
  subst h
  simp [allocIds, h1, h2]
 | x :: r, s + 1, o, h, h1, h2 => by
  simp only [List.getElem?_cons_succ] at h
  have := alloc_mem h h1 h2
  simp only [allocIds]
  split
  ·exact List.mem_cons_of_mem _ this
  ·exact this
theorem kl_idem (k : Nat) : ∀ v : V, (v.ev (.kl k)).ev (.kl k) = v.ev (.kl k)
 | .ref r π => by
  simp only [V.ev, Ev.ref]
  cases h : Nat.beq r k with
  | true => rfl
  | false => simp only [cond_false, V.ev, Ev.ref, h]
 | .ad r π => by
  simp only [V.ev, Ev.ad]
  cases h : Nat.beq r k with
  | true => rfl
  | false => simp only [cond_false, V.ev, Ev.ad, h]
 | .p a b => by simp only [V.ev, kl_idem k a, kl_idem k b]
 | .ag v => by simp only [V.ev, kl_idem k v]
 | .tup v => by simp only [V.ev, kl_idem k v]
 | .gd _ _ _ v => by simp only [V.ev, kl_idem k v]
 | .fn _ v => by simp only [V.ev, kl_idem k v]
 | .ifc _ v => by simp only [V.ev, kl_idem k v]
 | .bx v => by simp only [V.ev, kl_idem k v]
 | .any => rfl
 | .nl => rfl
 | .np => rfl
 | .u => rfl
 | .d _ _ => rfl
theorem kl_comm (k j : Nat) : ∀ v : V, (v.ev (.kl k)).ev (.kl j) = (v.ev (.kl j)).ev (.kl k)
 | .ref r π => by
  simp only [V.ev, Ev.ref]
  cases h : Nat.beq r k <;> cases h' : Nat.beq r j <;> simp only [cond_false, cond_true, V.ev, Ev.ref, h, h']
 | .ad r π => by
  simp only [V.ev, Ev.ad]
  cases h : Nat.beq r k <;> cases h' : Nat.beq r j <;> simp only [cond_false, cond_true, V.ev, Ev.ad, h, h']
 | .p a b => by simp only [V.ev, kl_comm k j a, kl_comm k j b]
 | .ag v => by simp only [V.ev, kl_comm k j v]
 | .tup v => by simp only [V.ev, kl_comm k j v]
 | .gd _ _ _ v => by simp only [V.ev, kl_comm k j v]
 | .fn _ v => by simp only [V.ev, kl_comm k j v]
 | .ifc _ v => by simp only [V.ev, kl_comm k j v]
 | .bx v => by simp only [V.ev, kl_comm k j v]
 | .any => rfl
 | .nl => rfl
 | .np => rfl
 | .u => rfl
 | .d _ _ => rfl
theorem kl_cut {k : Nat} {o o' : O} : ∀ v : V, v.ev (.kl k) = v -> v.ev (.cut k o o') = v
 | .ref r π, h => by
  simp only [V.ev, Ev.ref] at h ⊢
  cases hb : Nat.beq r k with
  | true => rw [hb] at h; cases h
  | false => rfl
 | .ad r π, h => by
  simp only [V.ev, Ev.ad] at h ⊢
  cases hb : Nat.beq r k with
  | true => rw [hb] at h; cases h
  | false => rfl
 | .p a b, h => by
  simp only [V.ev, V.p.injEq] at h ⊢
  exact ⟨kl_cut a h.1, kl_cut b h.2⟩
 | .ag v, h => by simp only [V.ev, V.ag.injEq] at h ⊢; exact kl_cut v h
 | .tup v, h => by simp only [V.ev, V.tup.injEq] at h ⊢; exact kl_cut v h
 | .gd _ _ _ v, h => by simp only [V.ev, V.gd.injEq, true_and] at h ⊢; exact kl_cut v h
 | .fn _ v, h => by simp only [V.ev, V.fn.injEq, true_and] at h ⊢; exact kl_cut v h
 | .ifc _ v, h => by simp only [V.ev, V.ifc.injEq, true_and] at h ⊢; exact kl_cut v h
 | .bx v, h => by simp only [V.ev, V.bx.injEq] at h ⊢; exact kl_cut v h
 | .any, _ => rfl
 | .nl, _ => rfl
 | .np, _ => rfl
 | .u, _ => rfl
 | .d _ _, _ => rfl
theorem klE_gt : ∀ (ids : List Nat) (env : Env) (t k : Nat), k ∈ ids -> (gt (klE ids env) t).ev (.kl k) = gt (klE ids env) t
 | i :: r, env, t, k, h => by
  simp only [klE]
  by_cases hr : k ∈ r
  ·exact klE_gt r _ t k hr
  ·have hk : k = i := by
    cases h with
    | head => rfl
    | tail _ h => exact absurd h hr
   subst hk
   have key : ∀ (r : List Nat) (env : Env), (∀ t, (gt env t).ev (.kl k) = gt env t) -> ∀ t, (gt (klE r env) t).ev (.kl k) = gt (klE r env) t := by
    intro r
    induction r with
    | nil => intro env h t; exact h t
    | cons j r ih =>
     intro env h t
     simp only [klE]
     refine ih _ (fun t => ?_) t
     rw [gt_evE, kl_comm, h]
   exact key r _ (fun t => by rw [gt_evE, kl_idem]) t
theorem klM_go : ∀ (ids : List Nat) (M : Mem) (k : Nat), k ∈ ids -> go (klM ids M) k = none
 | i :: r, M, k, h => by
  simp only [klM]
  by_cases hr : k ∈ r
  ·exact klM_go r _ k hr
  ·have hk : k = i := by
    cases h with
    | head => rfl
    | tail _ h => exact absurd h hr
   subst hk
   have key : ∀ (r : List Nat) (M : Mem), go M k = none -> go (klM r M) k = none := by
    intro r
    induction r with
    | nil => intro M h; exact h
    | cons j r ih =>
     intro M h
     simp only [klM]
     refine ih _ ?_
     by_cases e : k = j
     ·subst e; exact go_del_self _ _
     ·rw [go_del_ne e, h]
   exact key r _ (go_del_self _ _)
theorem St.kls {F : Fr} {a : Act} {w : World} : ∀ (ids : List Nat) {p : Ow} {env : Env} {M : Mem}, St F p env M a w -> St F p (klE ids env) (klM ids M) a w
 | [], _, _, _, h => h
 | k :: r, p, env, M, h => by
  have := h.tr (Tr.kl h.hp k) h.lz
  exact St.kls r (by simpa only [evEs] using this)
theorem St.same {F : Fr} {p : Ow} {env env' : Env} {M M' : Mem} {a : Act} {w : World} (h : St F p env M a w) (hM : ∀ k, go M' k = go M k) (he : ∀ t, gt env' t = gt env t) : St F p env' M' a w := by
 have hl : ∀ k, Live M' k ↔ Live M k := fun k => by simp only [Live, hM]
 have hi : Imm F p M' w = Imm F p M w := by
  funext b
  simp only [Imm, hl]
 have hp : Hp F p M' w := by
  refine ⟨fun k ob hk => ?_, fun k k' b h1 h2 h3 => h.hp.sep k k' b h1 ((hl k).1 h2) ((hl k').1 h3), fun k b h1 => h.hp.own k b ((hl k).1 h1), fun b hb => ⟨(h.hp.lim b hb).1, (h.hp.lim b hb).2.1, fun k hk => (h.hp.lim b hb).2.2 k ((hl k).1 hk)⟩, h.hp.os, h.hp.tape, h.hp.output, h.hp.size, h.hp.old⟩
  rw [hi]
  exact h.hp.objs k ob (by rw [← hM]; exact hk)
 have ht : Tr F p M w [] p M' w := Tr.zero (by rw [hi]; exact Keep.refl _ _) (fun k π vs r => r.same h.hp (hM k) rfl fun _ _ _ => rfl) (fun k π v r => r.same h.hp (hM k) rfl fun _ _ _ => rfl) hp
 exact (h.tr ht h.lz).weak fun t => .inr (by rw [he]; rfl)
section
variable {F : Fr} {P : Program} {all : Array Oper} {E : Nat -> Env} {X : Nat -> Mem} {M0 : Mem}
structure Sta (B : Tab) (all : Array Oper) (E : Nat -> Env) (X : Nat -> Mem) (M0 : Mem) (listed : Array Bool) (env : Env) (M : Mem) : Prop where
 a : ∀ t, (∀ (i : Nat) (o : Oper), all[i]? = some o -> isL listed i -> o.dst ≠ some t) -> gt env t = gt (E 0) t
 b : ∀ (i : Nat) (o : Oper) (t : Nat), all[i]? = some o -> isL listed i -> o.dst = some t -> gt env t = gt (E (i + 1)) t
 c : ∀ k, (∀ (i : Nat) (o : Oper) (ty : TypeId), all[i]? = some o -> isL listed i -> o.op = .alloc ty -> o.dst ≠ some k) -> go M k = go M0 k
 d : ∀ (i : Nat) (o : Oper) (k : Nat) (ty : TypeId), all[i]? = some o -> isL listed i -> o.op = .alloc ty -> o.dst = some k -> (∀ (s : Nat) (o' : Oper), all[s]? = some o' -> isL listed s -> tgt o' ≠ some k) -> go M k = some (zeroB B ty)
 s : ∀ (s : Nat) (o : Oper) (k : Nat), all[s]? = some o -> isL listed s -> tgt o = some k -> go M k = go (X (s + 1)) k
structure Ctx (B : Tab) (Φ : FuncId -> Option Ct) (all : Array Oper) (E : Nat -> Env) (X : Nat -> Mem) (M0 : Mem) : Prop where
 hb : backs 0 all.toList = true
 hdr : okDraw all (masks [] all.toList) all.size = true
 hnd : nodupN (tgts all.toList) = true
 hE : ∀ (j : Nat) (o : Oper), all[j]? = some o -> bstep B Φ o (E j) (X j) (E (j + 1)) (X (j + 1))
 hX : X 0 = []
 h0 : ∀ t (i : Nat) (o : Oper) (ty : TypeId) (k : Nat), all[i]? = some o -> o.op = .alloc ty -> o.dst = some k -> (gt (E 0) t).ev (.kl k) = gt (E 0) t
 hM : ∀ (i : Nat) (o : Oper) (ty : TypeId) (k : Nat), all[i]? = some o -> o.op = .alloc ty -> o.dst = some k -> go M0 k = none
theorem Ctx.uniq (C : Ctx B Φ all E X M0) {i j : Nat} {x y : Oper} {t : Nat} (hx : all[i]? = some x) (hy : all[j]? = some y) (h1 : x.dst = some t) (h2 : y.dst = some t) : i = j := by
 rcases Nat.decEq i j with h | h
 ·exact absurd h2 (okPair_dst (okDraw_spec C.hdr (Array.getElem?_eq_some_iff.1 hx).1 (Array.getElem?_eq_some_iff.1 hy).1 h hx hy) h1)
 ·exact h
theorem Ctx.tuniq (C : Ctx B Φ all E X M0) {i j : Nat} {x y : Oper} {t : Nat} (hx : all[i]? = some x) (hy : all[j]? = some y) (h1 : tgt x = some t) (h2 : tgt y = some t) : i = j :=
 tgts_uniq C.hnd (by rw [toList_get]; exact hx) (by rw [toList_get]; exact hy) h1 h2
theorem bstep_wr {o : Oper} {e e' : Env} {x x' : Mem} (h : bstep B Φ o e x e' x') : e' = wr o.dst (match o.dst with | some d => gt e' d | none => .any) e := by
 obtain ⟨_, ⟨ty, d, _, hd, _, _, rfl, _⟩ | ⟨t, d, y, ob, ob', _, hd, _, _, _, _, rfl, _⟩ | ⟨d, vc, v, hd, _, _, _, _, _, rfl, _⟩⟩ := h
 ·rw [hd]; simp only [wr, gt_cons, if_true]
 ·rw [hd]; rfl
 ·rw [hd]; simp only [wr, gt_cons, if_true]
theorem bstep_val {o : Oper} {e e' : Env} {x x' : Mem} {t : Nat} (h : bstep B Φ o e x e' x') (ht : o.dst = some t) : isDat (gt e' t) = true ∨ gt e' t = .ad t [.de] := by
 obtain ⟨_, ⟨ty, d, _, hd, _, _, rfl, _⟩ | ⟨_, d, y, ob, ob', _, hd, _, _, _, _, rfl, _⟩ | ⟨d, vc, v, hd, _, _, _, hv, _, rfl, _⟩⟩ := h
 ·rw [hd] at ht; cases ht; right; simp only [gt_cons, if_true]
 ·rw [hd] at ht; cases ht
 ·rw [hd] at ht; cases ht; left; simp only [gt_cons, if_true]; exact hv
theorem Ctx.spec (C : Ctx B Φ all E X M0) : ∀ (j : Nat), j <= all.size -> ∀ k ob, go (X j) k = some ob ->
  ∃ (i : Nat) (o : Oper) (ty : TypeId), i < j /\ all[i]? = some o /\ o.op = .alloc ty /\ o.dst = some k /\ ((∀ (s : Nat) (o' : Oper), s < j -> all[s]? = some o' -> tgt o' ≠ some k) -> ob = zeroB B ty)
 | 0, _, k, ob, h => by rw [C.hX] at h; cases h
 | j + 1, hj, k, ob, h => by
  have ho : all[j]? = some all[j] := Array.getElem?_eq_getElem (by omega)
  have up : ∀ {ob2}, go (X j) k = some ob2 -> (ob2 = ob ∨ tgt all[j] = some k) -> ∃ (i : Nat) (o : Oper) (ty : TypeId), i < j + 1 /\ all[i]? = some o /\ o.op = .alloc ty /\ o.dst = some k /\ ((∀ (s : Nat) (o' : Oper), s < j + 1 -> all[s]? = some o' -> tgt o' ≠ some k) -> ob = zeroB B ty) := by
   intro ob2 h2 h3
   obtain ⟨i, o, ty, i1, i2, i3, i4, i5⟩ := C.spec j (by omega) k ob2 h2
   refine ⟨i, o, ty, by omega, i2, i3, i4, fun hs => ?_⟩
   rcases h3 with h3 | h3
   ·rw [← h3]; exact i5 fun s o' hs' => hs s o' (by omega)
   ·exact absurd h3 (hs j _ (by omega) ho)
  obtain ⟨_, ⟨ty, d, hop, hd, _, hx, _, e⟩ | ⟨t, d, y, ob1, ob', hop, hd, hx, _, _, _, _, e⟩ | ⟨d, vc, v, hd, _, _, _, hv, _, _, e⟩⟩ := C.hE j _ ho
  ·rw [e, go_cons] at h
   split at h
   ·rename_i hk; subst hk; cases h
    exact ⟨j, _, ty, by omega, ho, hop, hd, fun _ => rfl⟩
   ·exact up h (.inl rfl)
  ·rw [e] at h
   by_cases hk : k = d
   ·subst hk; exact up hx (.inr (by simp only [tgt, hop]))
   ·rw [go_put_ne _ hk] at h; exact up h (.inl rfl)
  ·rw [e] at h; exact up h (.inl rfl)
theorem Ctx.fresh (C : Ctx B Φ all E X M0) {i : Nat} {o : Oper} {k : Nat} {ty : TypeId} (hi : all[i]? = some o) (h1 : o.op = .alloc ty) (h2 : o.dst = some k) : ∀ (j : Nat), j <= all.size -> i < j -> (∀ (s : Nat) (o' : Oper), s < j -> all[s]? = some o' -> tgt o' ≠ some k) -> go (X j) k = some (zeroB B ty)
 | 0, _, h, _ => by omega
 | j + 1, hj, h, hs => by
  have ho : all[j]? = some all[j] := Array.getElem?_eq_getElem (by omega)
  obtain ⟨_, ⟨ty', d, hop, hd, _, hx, _, e⟩ | ⟨t, d, y, ob1, ob', hop, hd, hx, _, _, _, _, e⟩ | ⟨d, vc, v, hd, hpk, _, _, hv, _, _, e⟩⟩ := C.hE j _ ho
  ·rw [e, go_cons]
   by_cases hk : d = k
   ·subst hk
    have := C.uniq hi ho h2 hd
    subst this
    rw [hi] at ho; cases ho
    rw [if_pos rfl]
    rw [h1] at hop; cases hop; rfl
   ·rw [if_neg hk]
    have hij : i ≠ j := fun hij => by subst hij; rw [hi] at ho; cases ho; rw [h2] at hd; cases hd; exact hk rfl
    exact C.fresh hi h1 h2 j (by omega) (by omega) fun s o' hs' => hs s o' (by omega)
  ·have hij : i ≠ j := fun hij => by subst hij; rw [hi] at ho; cases ho; rw [h2] at hd; cases hd
   have hk : k ≠ d := fun hk => hs j _ (by omega) ho (by subst hk; simp only [tgt, hop])
   rw [e, go_put_ne _ hk]
   exact C.fresh hi h1 h2 j (by omega) (by omega) fun s o' hs' => hs s o' (by omega)
  ·have hij : i ≠ j := fun hij => by
    subst hij; rw [hi] at ho; cases ho
    rw [h1] at hpk; cases hpk
   rw [e]
   exact C.fresh hi h1 h2 j (by omega) (by omega) fun s o' hs' => hs s o' (by omega)
theorem Ctx.alloc_of (C : Ctx B Φ all E X M0) {s : Nat} {o : Oper} {k : Nat} (hs : all[s]? = some o) (ht : tgt o = some k) :
  ∃ (i : Nat) (x : Oper) (ty : TypeId), i < s /\ all[i]? = some x /\ x.op = .alloc ty /\ x.dst = some k /\ go (X s) k = some (zeroB B ty) := by
 have hlt := (Array.getElem?_eq_some_iff.1 hs).1
 obtain ⟨_, ⟨ty, d, hop, hd, _, hx, _, e⟩ | ⟨t, d, y, ob1, ob', hop, hd, hx, _, _, _, _, e⟩ | ⟨d, vc, v, hd, hpk, _, _, hv, _, _, e⟩⟩ := C.hE s _ hs
 ·simp only [tgt, hop] at ht; cases ht
 ·simp only [tgt, hop, Option.some.injEq] at ht
  subst ht
  obtain ⟨i, x, ty, i1, i2, i3, i4, i5⟩ := C.spec s (by omega) d ob1 hx
  refine ⟨i, x, ty, i1, i2, i3, i4, ?_⟩
  rw [hx, i5 fun s' o' h1 h2 h3 => ?_]
  have := C.tuniq h2 hs h3 (by simp only [tgt, hop])
  omega
 ·exfalso
  unfold tgt at ht
  split at ht
  ·rename_i hop; rw [hop] at hpk; cases hpk
  ·cases ht
theorem Ctx.kept (C : Ctx B Φ all E X M0) {s : Nat} {o : Oper} {k : Nat} (hs : all[s]? = some o) (ht : tgt o = some k) : ∀ (j : Nat), j <= all.size -> s < j -> go (X j) k = go (X (s + 1)) k
 | 0, _, h => by omega
 | j + 1, hj, h => by
  by_cases e : s = j
  ·rw [e]
  ·have ho : all[j]? = some all[j] := Array.getElem?_eq_getElem (by omega)
   rw [← C.kept hs ht j (by omega) (by omega)]
   obtain ⟨i, x, ty0, i1, i2, i3, i4, _⟩ := C.alloc_of hs ht
   obtain ⟨_, ⟨ty', d, hop, hd, _, hx, _, e⟩ | ⟨t, d, y, ob1, ob', hop, hd, hx, _, _, _, _, e⟩ | ⟨d, vc, v, hd, hpk, _, _, hv, _, _, e⟩⟩ := C.hE j _ ho
   ·rw [e, go_cons, if_neg]
    intro hk; subst hk
    have := C.uniq i2 ho i4 hd
    omega
   ·rw [e, go_put_ne]
    intro hk; subst hk
    have := C.tuniq hs ho ht (by simp only [tgt, hop])
    omega
   ·rw [e]
theorem Ctx.gts (C : Ctx B Φ all E X M0) (j t : Nat) (hj : j <= all.size) :
  ((∀ (i : Nat) (o : Oper), all[i]? = some o -> i < j -> o.dst ≠ some t) -> gt (E j) t = gt (E 0) t) /\
  (∀ (i : Nat) (o : Oper), all[i]? = some o -> i < j -> o.dst = some t -> gt (E j) t = gt (E (i + 1)) t) := by
 have hw : ∀ (j : Nat) (o : Oper), all.toList[j]? = some o -> E (j + 1) = wr o.dst (match all[j]? with | some o => (match o.dst with | some d => gt (E (j + 1)) d | none => .any) | none => .any) (E j) := fun j o hj => by
  rw [toList_get] at hj
  rw [hj]
  exact bstep_wr (C.hE j o hj)
 obtain ⟨a1, a2⟩ := steps_gt hw j t (by simpa using hj)
 refine ⟨fun h => a1 fun i o hi => h i o (by rwa [toList_get] at hi), fun i o hi hlt hd => ?_⟩
 rw [a2 i o (by rw [toList_get]; exact hi) hlt hd fun i' o' hi' _ hd' => C.uniq (by rwa [toList_get] at hi') hi hd' hd]
 simp only [hi, hd]
theorem isL_set {listed : Array Bool} {i j : Nat} (hj : j < listed.size) : isL (listed.setIfInBounds j true) i ↔ i = j ∨ isL listed i := by
 by_cases e : i = j
 ·subst e; simp [isL, hj]
 ·unfold isL
  rw [getD_set_ne false (Ne.symm e)]
  simp [e]
theorem Ctx.step (C : Ctx B Φ all E X M0) {listed : Array Bool} (hs : listed.size = all.size) (hdn : Down all listed) {env : Env} {M : Mem} (S : Sta B all E X M0 listed env M) {j : Nat} {o : Oper} (ho : all[j]? = some o) (hnl : ¬ isL listed j)
  (hrd : ∀ e ∈ o.after, Region.binds .any e = true -> isL listed e.on) : tw B Φ (toL all) [o] env M (fun env' M' => Sta B all E X M0 (listed.setIfInBounds j true) env' M') := by
 have hjs := (Array.getElem?_eq_some_iff.1 ho).1
 have hset : ∀ i, isL (listed.setIfInBounds j true) i ↔ i = j ∨ isL listed i := fun i => isL_set (by rw [hs]; exact hjs)
 have hlook : ∀ t ∈ o.looksAt all, gt env t = gt (E j) t := fun t htl => by
  by_cases hw : ∃ (i : Nat) (x : Oper), all[i]? = some x /\ x.dst = some t
  ·obtain ⟨i, x, e1, e3⟩ := hw
   have e2 := (Array.getElem?_eq_some_iff.1 e1).1
   by_cases hij : i < j
   ·have hpair := okPair_look (okDraw_spec C.hdr e2 hjs (by omega) e1 ho) e3 htl
    rw [if_pos hij] at hpair
    have hli := mask_listed hdn C.hb j o ho hrd i hpair
    rw [S.b i x t e1 hli e3, (C.gts j t (by omega)).2 i x e1 hij e3]
   ·have hnli : ¬ isL listed i := fun hli => by
     by_cases e : i = j
     ·subst e; exact hnl hli
     ·have hpair := okPair_look (okDraw_spec C.hdr e2 hjs e e1 ho) e3 htl
      rw [if_neg hij] at hpair
      exact hnl (mask_listed hdn C.hb i x e1 (fun e' he' hb' => hdn i x e1 hli e' he' hb') j hpair)
    rw [S.a t fun i' o' h1' h2' h3' => hnli (C.uniq h1' e1 h3' e3 ▸ h2')]
    exact ((C.gts j t (by omega)).1 fun i' o' h1' h2' h3' => hij (C.uniq h1' e1 h3' e3 ▸ h2')).symm
  ·rw [S.a t fun i x h1 h2 h3 => hw ⟨i, x, h1, h3⟩]
   exact ((C.gts j t (by omega)).1 fun i x h1 h2 h3 => hw ⟨i, x, h1, h3⟩).symm
 have hrdE : ∀ x ∈ o.op.operands, rd env x = rd (E j) x := fun x hx => by
  cases x with
  | tmp t => exact hlook t (List.mem_append_left _ (List.mem_filterMap.2 ⟨.tmp t, by simpa using hx, rfl⟩))
  | const c => rfl
  | global g => rfl
  | func f => rfl
 obtain ⟨hg, hk⟩ := C.hE j o ho
 simp only [tw, hg]
 rcases hk with ⟨ty, d, hop, hd, hty, hx, he, hxe⟩ | ⟨t, d, y, ob, ob', hop, hd, hx, hy, hadd, hst, he, hxe⟩ | ⟨d, vc, v, hd, hpk, hdat, hev, hv, hvc, he, hxe⟩
 ·have hr : evR B Φ o env M = ⟨[], .ad d [.de], [.kl d], (d, zeroB B ty) :: del d M⟩ := by
   simp only [evR, hop, evOp, opds, needs, ap, hd, newB, hty, cond_true, zeroB]
  rw [hr]
  simp only [conj, hd, wr, evEs]
  have stab : ∀ t, t ≠ d -> (gt env t).ev (.kl d) = gt env t := fun t htd => by
   by_cases hw : ∃ (i : Nat) (x : Oper), all[i]? = some x /\ isL listed i /\ x.dst = some t
   ·obtain ⟨i, x, e1, e2, e3⟩ := hw
    rw [S.b i x t e1 e2 e3]
    rcases bstep_val (C.hE i x e1) e3 with h | h
    ·exact dat_ev _ _ h
    ·rw [h]; simp only [V.ev, Ev.ad, beq_cond, if_neg htd]
   ·rw [S.a t fun i x h1 h2 h3 => hw ⟨i, x, h1, h2, h3⟩]
    exact C.h0 t j o ty d ho hop hd
  have nst : ∀ (s : Nat) (o' : Oper), all[s]? = some o' -> isL listed s -> tgt o' ≠ some d := fun s o' h1 h2 h3 => by
   obtain ⟨i, x, ty', i1, i2, i3, i4, _⟩ := C.alloc_of h1 h3
   have := C.uniq i2 ho i4 hd
   subst this
   have hmm : Operand.tmp d ∈ o'.op.operands := by
    unfold tgt at h3
    split at h3
    ·rename_i hop'; cases h3; simp [hop', Op.operands]
    ·cases h3
   have hlk : d ∈ o'.looksAt all := List.mem_append_left _ (List.mem_filterMap.2 ⟨.tmp d, by simpa using hmm, rfl⟩)
   have hpair := okPair_look (okDraw_spec C.hdr hjs (Array.getElem?_eq_some_iff.1 h1).1 (by omega) ho h1) hd hlk
   rw [if_pos i1] at hpair
   exact hnl (mask_listed hdn C.hb s o' h1 (fun e' he' hb' => hdn s o' h1 h2 e' he' hb') i hpair)
  refine ⟨fun t ht => ?_, fun i x t hi hl hdx => ?_, fun k hk => ?_, fun i x k ty' hi hl h1 h2 hns => ?_, fun s x k hi hl htk => ?_⟩
  ·have htd : d ≠ t := fun h => ht j o ho ((hset j).2 (.inl rfl)) (by rw [hd, h])
   rw [gt_cons, if_neg htd, gt_evE, stab t (Ne.symm htd)]
   exact S.a t fun i x hi hl => ht i x hi ((hset i).2 (.inr hl))
  ·rw [gt_cons]
   by_cases hij : i = j
   ·subst hij; rw [ho] at hi; cases hi; rw [hd] at hdx; cases hdx
    rw [if_pos rfl, he, gt_cons, if_pos rfl]
   ·have htd : d ≠ t := fun h => hij (C.uniq hi ho hdx (by rw [hd, h]))
    rw [if_neg htd, gt_evE, stab t (Ne.symm htd)]
    exact S.b i x t hi (((hset i).1 hl).resolve_left hij) hdx
  ·have hkd : d ≠ k := fun h => hk j o ty ho ((hset j).2 (.inl rfl)) hop (by rw [hd, h])
   rw [go_cons, if_neg hkd, go_del_ne (Ne.symm hkd)]
   exact S.c k fun i x ty' hi hl => hk i x ty' hi ((hset i).2 (.inr hl))
  ·rw [go_cons]
   by_cases hij : i = j
   ·subst hij; rw [ho] at hi; cases hi; rw [hd] at h2; cases h2
    rw [if_pos rfl]; rw [hop] at h1; cases h1; rfl
   ·have hkd : d ≠ k := fun h => hij (C.uniq hi ho h2 (by rw [hd, h]))
    rw [if_neg hkd, go_del_ne (Ne.symm hkd)]
    exact S.d i x k ty' hi (((hset i).1 hl).resolve_left hij) h1 h2 fun s o' hs' hl' => hns s o' hs' ((hset s).2 (.inr hl'))
  ·have hsl : isL listed s := by
    rcases (hset s).1 hl with h | h
    ·subst h; rw [ho] at hi; cases hi; simp only [tgt, hop] at htk; cases htk
    ·exact h
   have hkd : d ≠ k := fun h => nst s x hi hsl (by rw [htk, h])
   rw [go_cons, if_neg hkd, go_del_ne (Ne.symm hkd)]
   exact S.s s x k hi hsl htk
 ·have htg : tgt o = some d := by simp only [tgt, hop]
  have hyr : rd env y = rd (E j) y := hrdE y (by simp [hop, Op.operands])
  have hdr : gt env d = .ad d [.de] := by
   have h1 : gt env d = gt (E j) d := by simpa only [rd] using hrdE (.tmp d) (by simp [hop, Op.operands])
   rw [h1]
   unfold isAdd at hadd
   split at hadd
   ·rename_i k e; rw [e, Nat.eq_of_beq_eq_true hadd]
   ·cases hadd
  obtain ⟨ia, xa, tya, i1, i2, i3, i4, i5⟩ := C.alloc_of ho htg
  have hlk : d ∈ o.looksAt all := List.mem_append_left _ (List.mem_filterMap.2 ⟨.tmp d, by simp [hop, Op.operands], rfl⟩)
  have hla : isL listed ia := by
   have hpair := okPair_look (okDraw_spec C.hdr (Array.getElem?_eq_some_iff.1 i2).1 hjs (by omega) i2 ho) i4 hlk
   rw [if_pos i1] at hpair
   exact mask_listed hdn C.hb j o ho hrd ia hpair
  have nst : ∀ (s : Nat) (o' : Oper), all[s]? = some o' -> isL listed s -> tgt o' ≠ some d := fun s o' h1 h2 h3 => by
   have := C.tuniq h1 ho h3 htg
   subst this; exact hnl h2
  have hgo : go M d = some ob := by rw [S.d ia xa d tya i2 hla i3 i4 nst, ← i5, hx]
  obtain ⟨v, e, hs1, oo, oo', hs2, hs3⟩ := store_dat (M := M) hy hgo hst
  have hr : evR B Φ o env M = ⟨[], v, [e], put d ob' M⟩ := by
   have e1 : rd env (.tmp d) = .ad d [.de] := hdr
   have e4 : (rd env (.tmp d)).strip = .ad d [.de] := by rw [e1]; rfl
   have e3 : (rd env y).strip = rd (E j) y := by rw [hyr, dat_strip hy]
   have e2 : needs (rd env) [y] = [] := needs_dat [y] fun z hz => by simp only [List.mem_singleton] at hz; subst hz; rw [hyr]; exact hy
   have e5 : needs (rd env) [.tmp d, y] = [] := by rw [needs, e1]; exact e2
   simp only [evR, hop, evOp, opds, e4, e3, hs1, e5, ap, unnest_dat hy, storeN_dat hy]
  rw [hr]
  simp only [conj, hd, wr, evEs]
  have stab : ∀ t, (gt env t).ev e = gt env t := fun t => by
   subst hs2
   by_cases hw : ∃ (i : Nat) (x : Oper), all[i]? = some x /\ isL listed i /\ x.dst = some t
   ·obtain ⟨i, x, e1, e2, e3⟩ := hw
    rw [S.b i x t e1 e2 e3]
    rcases bstep_val (C.hE i x e1) e3 with h | h
    ·exact dat_ev _ _ h
    ·rw [h]
     simp only [V.ev, Ev.ad, hs3, cond_true]
     cases Nat.beq t d <;> rfl
   ·rw [S.a t fun i x h1 h2 h3 => hw ⟨i, x, h1, h2, h3⟩]
    exact kl_cut _ (C.h0 t ia xa tya d i2 i3 i4)
  have hnja : ∀ (i : Nat) (x : Oper) (ty : TypeId), all[i]? = some x -> isL (listed.setIfInBounds j true) i -> x.op = .alloc ty -> isL listed i := fun i x ty hi hl hxo => by
   rcases (hset i).1 hl with h | h
   ·subst h; rw [ho] at hi; cases hi; rw [hop] at hxo; cases hxo
   ·exact h
  refine ⟨fun t ht => ?_, fun i x t hi hl hdx => ?_, fun k hk => ?_, fun i x k ty' hi hl h1 h2 hns => ?_, fun s x k hi hl htk => ?_⟩
  ·rw [gt_evE, stab]
   exact S.a t fun i x hi hl => ht i x hi ((hset i).2 (.inr hl))
  ·rw [gt_evE, stab]
   rcases (hset i).1 hl with h | h
   ·subst h; rw [ho] at hi; cases hi; rw [hd] at hdx; cases hdx
   ·exact S.b i x t hi h hdx
  ·have hkd : k ≠ d := fun h => hk ia xa tya i2 ((hset ia).2 (.inr hla)) i3 (by rw [i4, h])
   rw [go_put_ne _ hkd]
   exact S.c k fun i x ty' hi hl => hk i x ty' hi ((hset i).2 (.inr hl))
  ·have hkd : k ≠ d := fun h => hns j o ho ((hset j).2 (.inl rfl)) (by rw [htg, h])
   rw [go_put_ne _ hkd]
   exact S.d i x k ty' hi (hnja i x ty' hi hl h1) h1 h2 fun s o' hs' hl' => hns s o' hs' ((hset s).2 (.inr hl'))
  ·rcases (hset s).1 hl with h | h
   ·subst h; rw [ho] at hi; cases hi; rw [htg] at htk; cases htk
    rw [go_put_self _ _ (go_live hgo), hxe, go_put_self _ _ (go_live hx)]
   ·have hkd : k ≠ d := fun hk => nst s x hi h (by rw [htk, hk])
    rw [go_put_ne _ hkd]
    exact S.s s x k hi h htk
 ·have hr : evR B Φ o env M = ⟨vc, v, [], M⟩ := by
   rw [evR_congr o hrdE]
   exact pure_dat M hpk hdat hev
  rw [hr]
  simp only [conj_iff, hd, wr, evEs]
  have hna : ∀ ty, o.op ≠ .alloc ty := fun ty h => by rw [h] at hpk; cases hpk
  have hnt : tgt o = none := by
   unfold tgt
   split
   ·rename_i h; rw [h] at hpk; cases hpk
   ·rfl
  have hnja : ∀ (i : Nat) (x : Oper) (ty : TypeId), all[i]? = some x -> isL (listed.setIfInBounds j true) i -> x.op = .alloc ty -> isL listed i := fun i x ty hi hl hxo => by
   rcases (hset i).1 hl with h | h
   ·subst h; rw [ho] at hi; cases hi; exact absurd hxo (hna ty)
   ·exact h
  refine ⟨hvc, fun t ht => ?_, fun i x t hi hl hdx => ?_, fun k hk => ?_, fun i x k ty' hi hl h1 h2 hns => ?_, fun s x k hi hl htk => ?_⟩
  ·have htd : d ≠ t := fun h => ht j o ho ((hset j).2 (.inl rfl)) (by rw [hd, h])
   rw [gt_cons, if_neg htd]
   exact S.a t fun i x hi hl => ht i x hi ((hset i).2 (.inr hl))
  ·rw [gt_cons]
   by_cases hij : i = j
   ·subst hij; rw [ho] at hi; cases hi; rw [hd] at hdx; cases hdx
    rw [if_pos rfl, he, gt_cons, if_pos rfl]
   ·have htd : d ≠ t := fun h => hij (C.uniq hi ho hdx (by rw [hd, h]))
    rw [if_neg htd]
    exact S.b i x t hi (((hset i).1 hl).resolve_left hij) hdx
  ·exact S.c k fun i x ty' hi hl => hk i x ty' hi ((hset i).2 (.inr hl))
  ·exact S.d i x k ty' hi (hnja i x ty' hi hl h1) h1 h2 fun s o' hs' hl' => hns s o' hs' ((hset s).2 (.inr hl'))
  ·rcases (hset s).1 hl with h | h
   ·subst h; rw [ho] at hi; cases hi; rw [hnt] at htk; cases htk
   ·exact S.s s x k hi h htk
theorem go_ap (X M : Mem) (k : Nat) : go (ap X M) k = match go X k with | some ob => some ob | none => go M k := by
 induction X with
 | nil => rfl
 | cons x X ih =>
  obtain ⟨j, ob⟩ := x
  simp only [ap, go_cons]
  split
  ·rfl
  ·exact ih
theorem Ctx.fin (C : Ctx B Φ all E X M0) {listed : Array Bool} {env : Env} {M : Mem} (S : Sta B all E X M0 listed env M) (hall : ∀ i, i < all.size -> isL listed i) :
  (∀ t, gt (E all.size) t = gt env t) /\ ∀ k, go (ap (X all.size) M0) k = go M k := by
 have hal : ∀ {i : Nat} {o : Oper}, all[i]? = some o -> isL listed i := fun h => hall _ (Array.getElem?_eq_some_iff.1 h).1
 constructor
 ·intro t
  obtain ⟨g1, g2⟩ := C.gts all.size t (Nat.le_refl _)
  by_cases hw : ∃ (i : Nat) (x : Oper), all[i]? = some x /\ x.dst = some t
  ·obtain ⟨i, x, e1, e3⟩ := hw
   rw [g2 i x e1 (Array.getElem?_eq_some_iff.1 e1).1 e3, S.b i x t e1 (hal e1) e3]
  ·rw [g1 fun i o h1 _ h3 => hw ⟨i, o, h1, h3⟩, S.a t fun i o h1 _ h3 => hw ⟨i, o, h1, h3⟩]
 ·intro k
  rw [go_ap]
  cases hx : go (X all.size) k with
  | none =>
   simp only
   refine (S.c k fun i o ty hi _ h1 h2 => ?_).symm
   by_cases hst : ∃ (s : Nat) (o' : Oper), all[s]? = some o' /\ tgt o' = some k
   ·obtain ⟨s, o', s1, s2⟩ := hst
    have h3 := C.kept s1 s2 all.size (Nat.le_refl _) (Array.getElem?_eq_some_iff.1 s1).1
    obtain ⟨_, ⟨ty', d, hop, hd, _, hx', _, e⟩ | ⟨t, d, y, ob1, ob', hop, hd, hx', _, _, _, _, e⟩ | ⟨d, vc, v, hd, hpk, _, _, hv, _, _, e⟩⟩ := C.hE s _ s1
    ·simp only [tgt, hop] at s2; cases s2
    ·simp only [tgt, hop, Option.some.injEq] at s2
     subst s2
     rw [hx, e, go_put_self _ _ (go_live hx')] at h3; cases h3
    ·unfold tgt at s2
     split at s2
     ·rename_i hop; rw [hop] at hpk; cases hpk
     ·cases s2
   ·rw [C.fresh hi h1 h2 all.size (Nat.le_refl _) (Array.getElem?_eq_some_iff.1 hi).1 fun s o' _ s1 s2 => hst ⟨s, o', s1, s2⟩] at hx
    cases hx
  | some ob =>
   simp only
   obtain ⟨i, o, ty, i1, i2, i3, i4, i5⟩ := C.spec all.size (Nat.le_refl _) k ob hx
   by_cases hst : ∃ (s : Nat) (o' : Oper), all[s]? = some o' /\ tgt o' = some k
   ·obtain ⟨s, o', s1, s2⟩ := hst
    rw [S.s s o' k s1 (hal s1) s2, ← C.kept s1 s2 all.size (Nat.le_refl _) (Array.getElem?_eq_some_iff.1 s1).1, hx]
   ·rw [S.d i o k ty i2 (hal i2) i3 i4 fun s o' s1 _ s2 => hst ⟨s, o', s1, s2⟩, i5 fun s o' _ s1 s2 => hst ⟨s, o', s1, s2⟩]
theorem Ctx.any (hΦ : Good P Φ) (hB : TabOk P B) (C : Ctx B Φ all E X M0) (Q : Exit -> Act -> World -> Prop) (hco : opsOk F.nt all.toList = true) (hfv : ∀ o ∈ all.toList, ∀ k, o.dst = some k -> F.fv k = none)
  (hQ : ∀ p a w, St F p (E all.size) (ap (X all.size) M0) a w -> Q .normal a w) :
  ∀ (fuel : Nat) (listed : Array Bool) (p : Ow) (env : Env) (M : Mem) (a : Act) (w : World), listed.size = all.size -> unl listed all.size <= fuel -> Down all listed -> Sta B all E X M0 listed env M -> St F p env M a w -> wpAny P .any all Q fuel listed a w := by
 intro fuel
 have done : ∀ (listed : Array Bool) (p : Ow) (env : Env) (M : Mem) (a : Act) (w : World), listed.size = all.size -> Region.ready .any all listed = [] -> Sta B all E X M0 listed env M -> St F p env M a w -> Q .normal a w := by
  intro listed p env M a w hs hr S hst
  obtain ⟨f1, f2⟩ := C.fin S (ready_some hs C.hb hr)
  exact hQ p a w (hst.same f2 f1)
 have noready : ∀ (listed : Array Bool), listed.size = all.size -> unl listed all.size = 0 -> Region.ready .any all listed = [] := by
  intro listed hs hu
  cases hr : Region.ready .any all listed with
  | nil => rfl
  | cons i r =>
   obtain ⟨o, h1, h2, _⟩ := ready_edges (j := i) (by rw [hr]; simp)
   have hi := (Array.getElem?_eq_some_iff.1 h1).1
   have := unl_zero hu i hi
   unfold isL at this
   simp [hs, hi] at this h2
   rw [this] at h2; cases h2
 induction fuel with
 | zero =>
  intro listed p env M a w hs hu _ S hst
  have hr := noready listed hs (by omega)
  exact ⟨hr, done listed p env M a w hs hr S hst⟩
 | succ fuel ih =>
  intro listed p env M a w hs hu hdn S hst
  refine ⟨fun hr => done listed p env M a w hs hr S hst, fun j hj => ?_⟩
  obtain ⟨o, h1, h2, h3⟩ := ready_edges hj
  have hjs := (Array.getElem?_eq_some_iff.1 h1).1
  have hnl : ¬ isL listed j := by
   unfold isL; simp [hs, hjs] at h2 ⊢; exact h2
  have hm : o ∈ all.toList := by rw [Array.mem_toList_iff]; exact Array.mem_of_getElem? h1
  refine wpOp_mono (fun a' w' ⟨p', env', M', e1, e2⟩ => ih _ p' env' M' a' w' (by simpa using hs) ?_ (hdn.set hj) e2 e1) (aw_step hΦ hB hst (C.step hs hdn S h1 hnl h3) (opsOk_mem hco hm) (hfv o hm) h1 Q)
  have := unl_set (by rw [hs]; exact hjs) hnl all.size hjs
  omega
theorem box_ok (hΦ : Good P Φ) (hB : TabOk P B) (hmix : P.follows .mixedOrders = true) {id : Nat} {ops : Array Oper} (hco : opsOk F.nt (toL ops) = true) (hfv : ∀ o ∈ toL ops, ∀ k, o.dst = some k -> F.fv k = none) (hr : okBox (toL ops) = true) {K : Env -> Mem -> Prop} {Q : Exit -> Act -> World -> Prop}
  (hQ : ∀ p env M a w, St F p env M a w -> K env M -> Q .normal a w) {p : Ow} {env : Env} {M : Mem} {a : Act} {w : World} (h : St F p env M a w)
  (hk : bx B Φ (toL ops) (klE (allocIds (toL ops)) env) [] (fun env X => K env (ap X (klM (allocIds (toL ops)) M)))) : (Code.region id ops true).wp P Q a w := by
 rw [toL_eq] at hco hfv hr hk
 simp only [okBox, Bool.and_eq_true] at hr
 obtain ⟨h1, h2, h3⟩ := hr
 obtain ⟨E, X, e0, x0, e1, e2⟩ := bx_steps _ _ _ _ hk
 have hlen : ops.toList.length = ops.size := by simp
 rw [hlen] at e2 h2
 have C : Ctx B Φ ops E X (klM (allocIds ops.toList) M) := {
  hb := h1
  hdr := by simpa using h2
  hnd := h3
  hE := fun j o ho => e1 j o (by rw [toList_get]; exact ho)
  hX := x0
  h0 := fun t i o ty k hi ho hd => by rw [e0]; exact klE_gt _ _ t k (alloc_mem (by rw [toList_get]; exact hi) ho hd)
  hM := fun i o ty k hi ho hd => klM_go _ _ k (alloc_mem (by rw [toList_get]; exact hi) ho hd) }
 refine wp_region_any hmix ?_
 have hst := h.kls (allocIds ops.toList)
 exact C.any hΦ hB Q hco hfv (fun p a w hs => hQ p _ _ a w hs e2) _ _ p (klE (allocIds ops.toList) env) (klM (allocIds ops.toList) M) a _ (by simp) (unl_le _ _) (fun j o _ hi => absurd hi isL_rep)
  ⟨fun t _ => by rw [e0], fun i o t _ hi => absurd hi isL_rep, fun k _ => rfl, fun i o k ty _ hi => absurd hi isL_rep, fun s o k _ hi => absurd hi isL_rep⟩ hst.drew
end
end Go.Bm
/- The typed machine: drawn regions whose calls give own trees. -/
namespace Go.Bm
open Go.RowKit
section
variable {P : Program} {B : Tab} {Φ : FuncId -> Option Ct}
def agK (M M0 : Mem) (k : Nat) : Prop := go M k = go M0 k /\ go M0 k ≠ none
def agV (M M0 : Mem) : V -> Prop
 | .p a b => agV M M0 a /\ agV M M0 b
 | .ag v => agV M M0 v
 | .fn _ v => agV M M0 v
 | .bx v => agV M M0 v
 | .ref k _ => agK M M0 k
 | .ad k _ => agK M M0 k
 | .gd _ _ _ _ => False
 | .ifc _ _ => False
 | .tup _ => False
 | _ => True
section
variable {M0 M : Mem}
theorem go_liv {k : Nat} (h : agK M M0 k) : go M k = go M0 k := h.1
theorem getM_liv {k : Nat} (h : agK M M0 k) (π : Path) : getM M k π = getM M0 k π := by
 unfold getM; rw [go_liv h]
theorem size_liv : ∀ v : V, agV M M0 v -> v.size M = v.size M0
 | .d _ _, _ => rfl
 | .nl, _ => rfl
 | .np, _ => rfl
 | .u, _ => rfl
 | .p a b, h => by
  simp only [agV] at h
  simp only [V.size, size_liv a h.1, size_liv b h.2]
 | .ag v, h => rfl
 | .fn f v, h => rfl
 | .bx v, h => rfl
 | .any, h => rfl
 | .ref k π, h => by simp only [V.size, getM_liv h]
 | .ad _ _, h => rfl
 | .tup _, h => by cases h
 | .gd _ _ _ _, h => by cases h
 | .ifc _ _, h => by cases h
theorem sizeIs_liv (v : V) (n : Nat) (h : agV M M0 v) : sizeIs M v n = sizeIs M0 v n := by simp only [sizeIs, size_liv v h]
theorem liv_dat : ∀ v : V, isDat v = true -> agV M M0 v
 | .p a b, h => by
  simp only [isDat, nob_eq, Bool.and_eq_true] at h
  simp only [agV]
  exact ⟨liv_dat a h.1, liv_dat b h.2⟩
 | .ag v, h => liv_dat v h
 | .fn f v, h => liv_dat v h
 | .bx v, h => liv_dat v h
 | .d _ _, _ => trivial
 | .nl, _ => trivial
 | .np, _ => trivial
 | .u, _ => trivial
 | .any, h => by cases h
 | .ref _ _, h => by cases h
 | .ad _ _, h => by cases h
 | .tup _, h => by cases h
 | .gd _ _ _ _, h => by cases h
 | .ifc _ _, h => by cases h
theorem dat_expl : ∀ (t : T) (x : t.den), isDat (expl t x) = true := by
 intro t
 induction t with
 | p a b iha ihb => intro x; simp only [expl, isDat, nob_eq, Bool.and_eq_true]; exact ⟨iha x.1, ihb x.2⟩
 | _ => intro x; rfl
theorem liv_toV {k : Nat} (h : agK M M0 k) : ∀ (π : Path) (o : O) (x : o.strip.den), agV M M0 (toV k π o x) := by
 intro π o x
 cases o with
 | fz t => simp only [toV]; exact liv_dat _ (dat_expl _ _)
 | _ => exact h
theorem subV_liv : ∀ (π : Path) (v : V), agV M M0 v -> subV M π v = subV M0 π v /\ ∀ n x, subV M0 π v = some (n, x) -> agV M M0 x
 | [], v, h => by
  simp only [subV, Option.some.injEq, Prod.mk.injEq]
  exact ⟨trivial, fun n x e => e.2 ▸ h⟩
 | .l :: π, .p a b, h => by
  simp only [agV] at h
  simp only [subV]
  exact subV_liv π a h.1
 | .r :: π, .p a b, h => by
  simp only [agV] at h
  obtain ⟨e1, e2⟩ := subV_liv π b h.2
  simp only [subV, e1, size_liv a h.1]
  refine ⟨trivial, fun n x hx => ?_⟩
  split at hx
  ·rename_i m n' x' _ h2; cases hx; exact e2 _ _ h2
  ·cases hx
 | s :: π, .ref k ρ, h => by
  have hk : agK M M0 k := h
  have e : ∀ M : Mem, subV M (s :: π) (.ref k ρ) = (match getM M k ρ, getM M k (ap ρ (s :: π)) with
   | some q, some q' => (match offAt (s :: π) q.o.strip with | some n => some (n, toV k (ap ρ (s :: π)) q'.o q'.x) | none => none)
   | _, _ => none) := fun M => by cases s <;> rfl
  rw [e, e, getM_liv hk, getM_liv hk]
  refine ⟨rfl, fun n x hx => ?_⟩
  split at hx
  ·split at hx
   ·cases hx; exact liv_toV hk _ _ _
   ·cases hx
  ·cases hx
 | .de :: π, .p a b, _ => by simp [subV]
 | .ix _ :: π, .p a b, _ => by simp [subV]
 | .l :: π, .d _ _, _ => by simp [subV]
 | .r :: π, .d _ _, _ => by simp [subV]
 | .de :: π, .d _ _, _ => by simp [subV]
 | .ix _ :: π, .d _ _, _ => by simp [subV]
 | _ :: π, .nl, _ => by simp [subV]
 | _ :: π, .np, _ => by simp [subV]
 | _ :: π, .u, _ => by simp [subV]
 | _ :: π, .ag _, _ => by simp [subV]
 | _ :: π, .fn _ _, _ => by simp [subV]
 | _ :: π, .bx _, _ => by simp [subV]
 | _ :: _, .any, h => by simp [subV]
 | _ :: _, .ad _ _, h => by simp [subV]
 | _ :: _, .tup _, h => by cases h
 | _ :: _, .gd _ _ _ _, h => by cases h
 | _ :: _, .ifc _ _, h => by cases h
theorem subA_liv (x : V) (π : Path) (off : Nat) (h : agV M M0 x) : subA M x π off = subA M0 x π off := by
 cases x with
 | ad k ρ => simp only [subA, getM_liv h]
 | bx v => simp only [agV] at h; simp only [subA, (subV_liv π v h).1]
 | d t y => cases t <;> rfl
 | _ => rfl
theorem evFldA_liv (τ : Ty) (x : V) (i : Nat) (h : agV M M0 x) : evFldA τ M x i = evFldA τ M0 x i := by
 simp only [evFldA, subA_liv x _ _ h]
theorem evFld_liv {B : Tab} (τ : Ty) (x : V) (i : Nat) (h : agV M M0 x) : evFld B τ M x i = evFld B τ M0 x i := by
 unfold evFld
 split
 ·rename_i off ft _ v _
  simp only [agV] at h
  obtain ⟨e1, e2⟩ := subV_liv (fpath (len τ.fld) i) v h
  rw [e1]
  cases hs : subV M0 (fpath (len τ.fld) i) v with
  | none => rfl
  | some q => obtain ⟨n, w⟩ := q; simp only [sizeIs_liv w _ (e2 _ _ hs)]
 ·rfl
theorem evIxS_liv {B : Tab} (τ : Ty) (x i : V) (h : agV M M0 x) : evIxS B τ M x i = evIxS B τ M0 x i := by
 unfold evIxS
 split
 ·cases x with
  | ref k π => simp only [getM_liv h]
  | d t x => cases t <;> rfl
  | _ => rfl
 ·rfl
theorem evIxA_liv {B : Tab} (τ : Ty) (x i : V) (h : agV M M0 x) : evIxA B τ M x i = evIxA B τ M0 x i := by
 unfold evIxA
 split
 ·simp only [evIxQ, subA_liv x _ _ h]
 ·exact evIxS_liv τ x i h
theorem takL_liv (τ : Ty) (d : Option Nat) {x : V} (h : agV M M0 x) : (takL τ M d x = none) = (takL τ M0 d x = none) := by
 cases x <;> try rfl
 rename_i k π
 have hg := h
 simp only [agV] at hg
 cases π with
 | nil => rfl
 | cons s π =>
  cases s <;> try rfl
  cases π with
  | nil =>
   cases d with
   | none => rfl
   | some d => simp only [takL, go_liv hg]; generalize go M0 k = z; split <;> simp
  | cons _ _ => rfl
theorem evLoad_liv (τ : Ty) (x : V) (h : agV M M0 x) : evLoad τ M x = evLoad τ M0 x := by
 cases x with
 | ad k π => simp only [evLoad, getM_liv h]
 | bx v => simp only [agV] at h; simp only [evLoad, sizeIs_liv _ _ h]
 | d t x => cases t <;> rfl
 | _ => rfl
theorem evLen_liv {τ : Ty} {x : V} (h : agV M M0 x) : evLen τ M x = evLen τ M0 x := by
 cases x with
 | ref k π => simp only [evLen, getM_liv h]
 | d t y => cases t <;> rfl
 | _ => rfl
theorem refV_liv {k : Nat} (h : agK M M0 k) (π : Path) (t : T) : refV M k π t = refV M0 k π t := by
 unfold refV; rw [getM_liv h]
theorem view_liv : ∀ (v : V) (t : T), agV M M0 v -> v.view M t = v.view M0 t := by
 intro v
 induction v with
 | p a b iha ihb =>
  intro t h
  simp only [agV] at h
  cases t <;> first | rfl | (simp only [V.view]; rw [iha _ h.1, ihb _ h.2])
 | fn f v ih => intro t h; cases t <;> first | rfl | (simp only [V.view]; rw [ih _ h])
 | bx v ih => intro t h; cases t <;> first | rfl | (simp only [V.view]; rw [ih _ h])
 | ref k π => intro t h; cases t <;> simp only [V.view] <;> exact refV_liv h _ _
 | ad k π => intro t h; cases t <;> first | rfl | (simp only [V.view]; exact refV_liv h _ _)
 | gd _ _ _ _ => intro t h; cases h
 | any => intro t h; cases t <;> rfl
 | tup _ => intro t h; cases h
 | ifc _ _ => intro t h; cases h
 | ag v => intro t h; cases t <;> rfl
 | d t' x => intro t h; cases t <;> rfl
 | nl => intro t h; cases t <;> rfl
 | np => intro t h; cases t <;> rfl
 | u => intro t h; cases t <;> rfl
theorem cells_liv {v : V} (h : agV M M0 v) : agV M M0 v.cells := by cases v <;> exact h
theorem viewL_liv : ∀ (vs : List V) (ts : List T), (∀ v ∈ vs, agV M M0 v) -> viewL M vs ts = viewL M0 vs ts
 | [], [], _ => rfl
 | [], _ :: _, _ => rfl
 | _ :: _, [], _ => rfl
 | v :: r, t :: ts, h => by
  simp only [viewL]
  rw [view_liv v.cells t (cells_liv (h v (by simp))), viewL_liv r ts fun x hx => h x (by simp [hx])]
theorem frz_head : ∀ (v : V) (M : Mem), (frzV M v).1 = [] ∨ ∃ k ob r, (frzV M v).1 = .fz k ob :: r := by
 intro v
 induction v with
 | p a b iha ihb =>
  intro M
  simp only [frzV]
  rcases iha M with h | ⟨k, ob, r, h⟩
  ·rw [h]
   rcases ihb (frzV M a).2 with h2 | ⟨k, ob, r, h2⟩
   ·rw [h2]; exact .inl rfl
   ·rw [h2]; exact .inr ⟨k, ob, r, rfl⟩
  ·rw [h]; exact .inr ⟨k, ob, _, rfl⟩
 | ref k π => intro M; simp only [frzV]; cases go M k <;> simp
 | ad k π => intro M; simp only [frzV]; cases go M k <;> simp
 | ag v ih => intro M; simp only [frzV]; exact ih M
 | fn f v ih => intro M; simp only [frzV]; exact ih M
 | ifc f v ih => intro M; simp only [frzV]; exact ih M
 | bx v ih => intro M; simp only [frzV]; exact ih M
 | tup v ih => intro M; simp only [frzV]; exact ih M
 | gd _ _ _ v ih => intro M; simp only [frzV]; exact ih M
 | _ => intro M; exact .inl rfl
theorem frzL_head : ∀ (vs : List V) (M : Mem), (frzL M vs).1 = [] ∨ ∃ k ob r, (frzL M vs).1 = .fz k ob :: r
 | [], M => .inl rfl
 | v :: vs, M => by
  simp only [frzL]
  rcases frz_head v M with h | ⟨k, ob, r, h⟩
  ·rw [h]
   rcases frzL_head vs (frzV M v).2 with h2 | ⟨k, ob, r, h2⟩
   ·rw [h2]; exact .inl rfl
   ·rw [h2]; exact .inr ⟨k, ob, r, rfl⟩
  ·rw [h]; exact .inr ⟨k, ob, _, rfl⟩
theorem ap_nils {α : Type} {a b : List α} (h : ap a b = []) : a = [] /\ b = [] := by cases a <;> simp [ap] at h ⊢; exact h
theorem frz_nil : ∀ (v : V), agV M M0 v -> (frzV M0 v).1 = [] -> ∀ M1 : Mem, frzV M1 v = ([], M1) := by
 intro v
 induction v with
 | p a b iha ihb =>
  intro h e M1
  simp only [agV] at h
  simp only [frzV] at e ⊢
  obtain ⟨e1, e2⟩ := ap_nils e
  have ha := iha h.1 e1
  rw [ha M0] at e2
  simp only at e2
  rw [ha M1]
  simp only
  rw [ihb h.2 e2 M1]
  rfl
 | fn f v ih => intro h e M1; simp only [frzV] at e ⊢; exact ih h e M1
 | bx v ih => intro h e M1; simp only [frzV] at e ⊢; exact ih h e M1
 | ag v ih => intro h e M1; simp only [frzV] at e ⊢; exact ih h e M1
 | ref k π =>
  intro h e M1
  simp only [frzV] at e
  cases hg : go M0 k with
  | none => exact absurd hg h.2
  | some ob => rw [hg] at e; cases e
 | ad k π =>
  intro h e M1
  simp only [frzV] at e
  cases hg : go M0 k with
  | none => exact absurd hg h.2
  | some ob => rw [hg] at e; cases e
 | gd _ _ _ _ => intro h; cases h
 | any => intro h e M1; rfl
 | tup _ => intro h; cases h
 | ifc _ _ => intro h; cases h
 | d t' x => intro h e M1; rfl
 | nl => intro h e M1; rfl
 | np => intro h e M1; rfl
 | u => intro h e M1; rfl
theorem frzL_nil : ∀ vs : List V, (∀ v ∈ vs, agV M M0 v) -> (frzL M0 vs).1 = [] -> ∀ M1 : Mem, frzL M1 vs = ([], M1)
 | [], _, _, _ => rfl
 | v :: r, h, e, M1 => by
  simp only [frzL] at e ⊢
  obtain ⟨e1, e2⟩ := ap_nils e
  have ha := frz_nil v (h v (by simp)) e1
  rw [ha M0] at e2
  simp only at e2
  rw [ha M1]
  simp only
  rw [frzL_nil r (fun x hx => h x (by simp [hx])) e2 M1]
  rfl
theorem evsL_nil : ∀ vs : List V, evsL [] vs = vs
 | [] => rfl
 | v :: r => by simp only [evsL, V.evs]; rw [evsL_nil r]
theorem setV_liv : ∀ (π : Path) (v x : V), agV M M0 v -> agV M M0 x -> ∀ v', setV π v x = some v' -> agV M M0 v'
 | [], v, x, _, hx, v', h => by simp only [setV, Option.some.injEq] at h; subst h; exact hx
 | .l :: π, v, x, hv, hx, v', h => by
  cases v with
  | p a b =>
   simp only [agV] at hv
   simp only [setV] at h
   cases hs : setV π a x with
   | none => rw [hs] at h; cases h
   | some a' =>
    rw [hs] at h
    simp only [Option.some.injEq] at h
    subst h
    exact ⟨setV_liv π a x hv.1 hx a' hs, hv.2⟩
  | _ => simp [setV] at h
 | .r :: π, v, x, hv, hx, v', h => by
  cases v with
  | p a b =>
   simp only [agV] at hv
   simp only [setV] at h
   cases hs : setV π b x with
   | none => rw [hs] at h; cases h
   | some b' =>
    rw [hs] at h
    simp only [Option.some.injEq] at h
    subst h
    exact ⟨hv.1, setV_liv π b x hv.2 hx b' hs⟩
  | _ => simp [setV] at h
 | .ix _ :: _, v, x, _, _, v', h => by cases v <;> simp [setV] at h
 | .de :: _, v, x, _, _, v', h => by cases v <;> simp [setV] at h
theorem zero_liv : ∀ t : T, agV M M0 (zeroV t)
 | .p a b => ⟨zero_liv a, zero_liv b⟩
 | .sl _ => trivial
 | .u => trivial
 | .pt _ => trivial
 | .fn _ _ => trivial
 | .ifc _ _ => trivial
 | .mp _ _ => trivial
 | .op _ => trivial
 | .ns _ => trivial
 | .int _ => trivial
 | .bool => trivial
 | .str => trivial
 | .any => trivial
theorem evParts_liv (place : Nat -> Option (Path × Nat × Nat)) (f : Operand -> V) : ∀ (ps : List (Nat × Operand)) (v : V), (∀ x ∈ opds.snds ps, agV M M0 (f x)) -> agV M M0 v -> evParts M place f ps v = evParts M0 place f ps v
 | [], _, _, _ => rfl
 | (i, x) :: r, v, hf, hv => by
  simp only [evParts]
  cases place i with
  | none => rfl
  | some q =>
   obtain ⟨π, off, n⟩ := q
   simp only
   obtain ⟨e1, e2⟩ := subV_liv π v hv
   rw [e1]
   have hx := cells_liv (hf x (by simp [opds.snds]))
   cases hs : subV M0 π v with
   | none => rfl
   | some q =>
    obtain ⟨m, w⟩ := q
    simp only [sizeIs_liv w n (e2 m w hs), sizeIs_liv _ n hx]
    cases hq : setV π v (f x).cells with
    | none => rfl
    | some v' => simp only [evParts_liv place f r v' (fun y hy => hf y (by simp [opds.snds, hy])) (setV_liv π v _ hv hx v' hq)]
theorem capL_liv : ∀ (v : V), agV M M0 v -> capL M v = capL M0 v /\ ∀ cs, capL M0 v = some cs -> ∀ c ∈ cs, agV M M0 c := by
 intro v
 induction v with
 | p a b iha ihb =>
  intro h
  simp only [agV] at h
  obtain ⟨h1, h2⟩ := ihb h.2
  simp only [capL]
  rw [h1, sizeIs_liv a 1 h.1]
  refine ⟨rfl, fun cs hcs => ?_⟩
  cases hb : capL M0 b with
  | none => rw [hb] at hcs; cases hcs
  | some r =>
   rw [hb] at hcs
   simp only at hcs
   cases hz : sizeIs M0 a 1 with
   | false => rw [hz] at hcs; cases hcs
   | true =>
    rw [hz] at hcs
    simp only [cond_true, Option.some.injEq] at hcs
    subst hcs
    intro c hc
    rcases List.mem_cons.1 hc with rfl | hc
    ·exact h.1
    ·exact h2 r hb c hc
 | u => intro _; exact ⟨rfl, fun cs h => by simp only [capL, Option.some.injEq] at h; subst h; intro c hc; cases hc⟩
 | _ => intro _; exact ⟨rfl, fun cs h => by simp [capL] at h⟩
theorem fn_liv {x v : V} {f : FuncId} (h : agV M M0 x) (hf : fnOf x = some (f, v)) : agV M M0 v := by
 cases x with
 | fn g y => simp only [fnOf, Option.some.injEq, Prod.mk.injEq] at hf; obtain ⟨_, rfl⟩ := hf; exact h
 | d t y =>
  cases t with
  | fn g t => simp only [fnOf, Option.some.injEq, Prod.mk.injEq] at hf; obtain ⟨_, rfl⟩ := hf; exact liv_dat _ (dat_expl _ _)
  | _ => simp [fnOf] at hf
 | _ => simp [fnOf] at hf
theorem liv_strip {v : V} (h : agV M M0 v) : v.strip = v := by cases v <;> first | rfl | cases h
theorem agV_of {β : Nat -> Value} {Im : Nat -> Prop} {w : World} (hk : ∀ k, go M0 k ≠ none -> go M k ≠ none -> go M k = go M0 k) : ∀ (v : V), livV M0 v = true -> ∀ vs, RelC β M Im w v vs -> agV M M0 v := by
 have key : ∀ k, neg (isN (go M0 k)) = true -> go M k ≠ none -> agK M M0 k := fun k h h2 => by
  have : go M0 k ≠ none := fun e => by rw [e] at h; cases h
  exact ⟨hk k this h2, this⟩
 intro v
 induction v with
 | p a b iha ihb =>
  intro h vs r
  simp only [livV, nob_eq, Bool.and_eq_true] at h
  simp only [RelC] at r
  obtain ⟨va, vb, _, h1, h2⟩ := r
  exact ⟨iha h.1 _ h1, ihb h.2 _ h2⟩
 | ref j π =>
  intro h vs r
  simp only [RelC] at r
  obtain ⟨ob, _, h1, _⟩ := r
  exact key j h (by rw [h1]; simp)
 | ad j π =>
  intro h vs r
  simp only [RelC] at r
  obtain ⟨_, _, ob, _, _, _, h1, _⟩ := r
  exact key j h (by rw [h1]; simp)
 | fn f v ih =>
  intro h vs r
  simp only [RelC] at r
  obtain ⟨us, _, h1⟩ := r
  exact ih h _ h1
 | bx v ih =>
  intro h vs r
  simp only [RelC] at r
  obtain ⟨_, _, us, _, _, _, h1⟩ := r
  exact ih h _ h1
 | ag v => intro h vs r; simp only [RelC] at r
 | tup v => intro h; cases h
 | gd _ _ _ v => intro h; cases h
 | ifc _ v => intro h; cases h
 | _ => intro h vs r; trivial
theorem agS_of {β : Nat -> Value} {Im : Nat -> Prop} {w : World} (hk : ∀ k, go M0 k ≠ none -> go M k ≠ none -> go M k = go M0 k) (v : V) (h : livV M0 v = true) (u : Value) (r : RelS β M Im w v u) : agV M M0 v := by
 cases v with
 | ag v => simp only [RelS] at r; obtain ⟨vs, _, r⟩ := r; exact agV_of hk v h _ r
 | any => trivial
 | tup v => cases h
 | gd _ _ _ v => cases h
 | ifc _ v => cases h
 | p a b => simp only [RelS] at r; exact agV_of hk _ h _ r
 | u => trivial
 | ref j π => simp only [RelS] at r; exact agV_of hk _ h _ r
 | ad j π => simp only [RelS] at r; exact agV_of hk _ h _ r
 | d t x => trivial
 | nl => trivial
 | np => trivial
 | fn f v => simp only [RelS] at r; exact agV_of hk _ h _ r
 | bx v => simp only [RelS] at r; exact agV_of hk _ h _ r
theorem livOps_mem {env : Env} : ∀ {l : List Operand}, livOps M0 env l = true -> ∀ x ∈ l, livV M0 (rd env x) = true
 | [], _, x, h => by cases h
 | y :: l, hd, x, h => by
  simp only [livOps, nob_eq, Bool.and_eq_true] at hd
  cases h with
  | head => exact hd.1
  | tail _ h => exact livOps_mem hd.2 x h
theorem rd_no {env : Env} (x : Operand) (h : ∀ t, x ≠ .tmp t) : agV M M0 (rd env x) := by
 cases x with
 | tmp t => exact absurd rfl (h t)
 | const v =>
  cases v with
  | slice a n m =>
   simp only [rd]
   cases a with
   | none =>
    simp only [rdV]
    cases nob (Nat.beq n 0) (Nat.beq m 0) <;> trivial
   | some _ => trivial
  | pointer a => cases a <;> trivial
  | _ => trivial
 | func f => trivial
 | global g => trivial
end
theorem bad_no {M : Mem} {vc : List Prop} {v : V} {e : List Ev} {N : Mem} (h : badR M = ⟨vc, v, e, N⟩) (hv : allP vc) : False := by
 simp only [badR, Rs.mk.injEq] at h
 rw [← h.1] at hv
 simp [allP] at hv
theorem allP_needs {f : Operand -> V} {l : List Operand} {vc : List Prop} (h : allP (ap (needs f l) vc)) : allP vc := by rw [allP_ap] at h; exact h.2
theorem take_ap {ks : Mem} {r : Mem} : takeL (len (klL (keysM ks))) (ap ks r) = ks := by
 induction ks with
 | nil => simp [keysM, klL, len, takeL]
 | cons q ks ih => obtain ⟨k, ob⟩ := q; simp only [keysM, klL, len, ap, takeL]; rw [ih]
theorem klB_head {k : Nat} {ob : Ob} {r e : List Ev} {N : Mem} (h : klB (ap (.fz k ob :: r) e) N = true) : False := by cases N <;> simp [ap, klB] at h
theorem evCall_liv {M0 M : Mem} {ct : Ct} {d : Nat} {vs : List V} (hd : ∀ v ∈ vs, agV M M0 v) {vc : List Prop} {v : V} {e : List Ev} {N : Mem} (h : evCall ct d vs M0 = ⟨vc, v, e, N⟩) (hv : allP vc) (he : klB e (takeL (len e) N) = true) :
  evCall ct d vs M = ⟨vc, v, e, ap (takeL (len e) N) (delL (keysM (takeL (len e) N)) M)⟩ := by
 unfold evCall at h ⊢
 cases hmu : ct.mu with
 | some mu =>
  cases mu with
  | m m =>
   rw [hmu] at h
   exfalso
   simp only at h
   unfold evMark at h
   split at h
   ·rename_i v0 kv
    generalize allT [shp [v0, kv] [m.g, false], nodupN (vkeys v0.cells), neg (nilK (vkeys v0.cells)), sameG (vkeys v0.cells)] = b at h
    cases b with
    | false => exact bad_no h hv
    | true =>
     simp only [cond_true] at h
     split at h
     ·split at h
      ·simp only [Rs.mk.injEq] at h
       obtain ⟨_, _, rfl, _⟩ := h
       generalize takeL (len _) N = N1 at he
       cases N1 <;> simp [klB] at he
      ·exact bad_no h hv
     ·exact bad_no h hv
   ·exact bad_no h hv
  | w W =>
   rw [hmu] at h
   exfalso
   have hcut : ∀ (e : List Ev) (k : Nat) (o : O) (r : List Ev) (N : Mem), klB (ap e (.cut k o o :: r)) N = false := fun e k o r => by
    induction e with
    | nil => intro N; cases N <;> rfl
    | cons x e ih =>
     intro N
     cases x <;> cases N <;> first | rfl | (rename_i q N; obtain ⟨j, ob⟩ := q; simp only [ap, klB, ih, nob_eq, Bool.and_false])
   simp only at h
   unfold evWrite at h
   split at h
   ·split at h
    ·generalize nob (rootO W.o) (shp _ W.ag) = b at h
     cases b with
     | false => exact bad_no h hv
     | true =>
     simp only [cond_true] at h
     split at h
     ·split at h
      ·generalize inN _ _ = b at h
       cases b with
       | true => exact bad_no h hv
       | false =>
        simp only [cond_false, Rs.mk.injEq] at h
        obtain ⟨_, _, rfl, _⟩ := h
        rw [hcut] at he; cases he
      ·exact bad_no h hv
     ·exact bad_no h hv
    ·exact bad_no h hv
   ·exact bad_no h hv
  | s s =>
   rw [hmu] at h
   exact (bad_no h hv).elim
  | a W =>
   rw [hmu] at h
   exfalso
   have hcut : ∀ (e : List Ev) (k : Nat) (o : O) (r : List Ev) (N : Mem), klB (ap e (.cut k o o :: r)) N = false := fun e k o r => by
    induction e with
    | nil => intro N; cases N <;> rfl
    | cons x e ih =>
     intro N
     cases x <;> cases N <;> first | rfl | (rename_i q N; obtain ⟨j, ob⟩ := q; simp only [ap, klB, ih, nob_eq, Bool.and_false])
   simp only at h
   unfold evAlias at h
   split at h
   ·split at h
    ·generalize allT [wayOk W.o W.way, _, _] = b at h
     cases b with
     | false => exact bad_no h hv
     | true =>
     simp only [cond_true] at h
     split at h
     ·split at h
      ·simp only [Rs.mk.injEq] at h
       obtain ⟨_, _, rfl, _⟩ := h
       rw [hcut] at he; cases he
      ·exact bad_no h hv
     ·exact bad_no h hv
    ·exact bad_no h hv
   ·exact bad_no h hv
 | none =>
  rw [hmu] at h
  simp only at h ⊢
  cases hs : shp vs ct.ga with
  | false => rw [hs] at h; exact (bad_no h hv).elim
  | true =>
   rw [hs] at h
   simp only [cond_true] at h ⊢
   cases hsh : ct.sh with
   | false =>
    rw [hsh] at h
    simp only at h ⊢
    rw [viewL_liv vs ct.args hd]
    cases hx : viewL M0 vs ct.args with
    | none => rw [hx] at h; exact (bad_no h hv).elim
    | some x =>
     rw [hx] at h
     simp only at h ⊢
     generalize newL d 0 ct.rt (ct.res x) = q at h ⊢
     obtain ⟨v', N', _⟩ := q
     simp only [Rs.mk.injEq] at h ⊢
     obtain ⟨rfl, rfl, rfl, rfl⟩ := h
     rw [take_ap]
     exact ⟨rfl, rfl, rfl, rfl⟩
   | true =>
    rw [hsh] at h
    simp only at h ⊢
    rcases frzL_head vs M0 with hn | ⟨k, ob, r, hn⟩
    ·have hf := frzL_nil vs hd hn
     rw [hf M0] at h
     rw [hf M]
     simp only [evsL_nil] at h ⊢
     cases hx : asL vs ct.args with
     | none => rw [hx] at h; exact (bad_no h hv).elim
     | some x =>
      rw [hx] at h
      simp only at h ⊢
      generalize newL d 0 ct.rt (ct.res x) = q at h ⊢
      obtain ⟨v', N', _⟩ := q
      simp only [Rs.mk.injEq] at h ⊢
      obtain ⟨rfl, rfl, rfl, rfl⟩ := h
      have : ∀ l : List Ev, ap [] l = l := fun _ => rfl
      rw [this, take_ap]
      exact ⟨rfl, rfl, rfl, rfl⟩
    ·exfalso
     generalize frzL M0 vs = q at h hn
     obtain ⟨e1, M1⟩ := q
     simp only at hn h
     subst hn
     split at h
     ·simp only [Rs.mk.injEq] at h
      obtain ⟨_, _, rfl, _⟩ := h
      exact klB_head he
     ·exact bad_no h hv
theorem mapV_mem {f : Operand -> V} : ∀ {l : List Operand} {v : V}, v ∈ mapV f l -> ∃ x ∈ l, f x = v
 | [], v, h => by cases h
 | x :: r, v, h => by
  simp only [mapV] at h
  rcases List.mem_cons.1 h with rfl | h
  ·exact ⟨x, by simp, rfl⟩
  ·obtain ⟨y, h1, h2⟩ := mapV_mem h; exact ⟨y, by simp [h1], h2⟩
theorem dat_ev1 (e : Ev) : ∀ v : V, isDat v = true -> v.ev e = v
 | .d _ _, _ => rfl
 | .nl, _ => rfl
 | .np, _ => rfl
 | .u, _ => rfl
 | .p a b, h => by
  simp only [isDat, nob_eq, Bool.and_eq_true] at h
  simp only [V.ev, dat_ev1 e a h.1, dat_ev1 e b h.2]
 | .ag v, h => by simp only [isDat] at h; simp only [V.ev, dat_ev1 e v h]
 | .fn _ v, h => by simp only [isDat] at h; simp only [V.ev, dat_ev1 e v h]
 | .bx v, h => by simp only [isDat] at h; simp only [V.ev, dat_ev1 e v h]
 | .any, h => by cases h
 | .ref _ _, h => by cases h
 | .ad _ _, h => by cases h
 | .tup _, h => by cases h
 | .gd _ _ _ _, h => by cases h
 | .ifc _ _, h => by cases h
theorem dat_evs : ∀ (e : List Ev) (v : V), isDat v = true -> v.evs e = v
 | [], _, _ => rfl
 | x :: e, v, h => by simp only [V.evs, dat_ev1 x v h]; exact dat_evs e v h
theorem conv_da {k : Nat} (v : V) (t : T) (M : Mem) (h : isDat v = true) (q : Ob) (e : List Ev) (M' : Mem) (hc : conv k t v M = some (q, e, M')) : e = [] /\ M' = M /\ ∀ M1, conv k t v M1 = some (q, [], M1) :=
 ⟨(conv_dat k M M t v h q e M' hc).1, (conv_dat k M M t v h q e M' hc).2.1, fun M1 => (conv_dat k M1 M t v h q e M' hc).2.2⟩
theorem frzV_dat : ∀ (v : V) (M : Mem), isDat v = true -> frzV M v = ([], M)
 | .p a b, M, h => by
  simp only [isDat, nob_eq, Bool.and_eq_true] at h
  simp only [frzV, frzV_dat a M h.1, frzV_dat b M h.2, ap]
 | .ag v, M, h => by simp only [isDat] at h; simp only [frzV, frzV_dat v M h]
 | .fn _ v, M, h => by simp only [isDat] at h; simp only [frzV, frzV_dat v M h]
 | .bx v, M, h => by simp only [isDat] at h; simp only [frzV, frzV_dat v M h]
 | .d _ _, _, _ => rfl
 | .nl, _, _ => rfl
 | .np, _, _ => rfl
 | .u, _, _ => rfl
 | .any, _, h => by cases h
 | .ref _ _, _, h => by cases h
 | .ad _ _, _, h => by cases h
 | .tup _, _, h => by cases h
 | .gd _ _ _ _, _, h => by cases h
 | .ifc _ _, _, h => by cases h
theorem convW0_dat {k : Nat} {v : V} {o : O} {M : Mem} (h : isDat v = true) {x : o.strip.den} {e : List Ev} {M' : Mem} (hc : convW0 k o v M = some (x, e, M')) : e = [] /\ M' = M /\ ∀ M1, convW0 k o v M1 = some (x, [], M1) := by
 unfold convW0 at hc ⊢
 split at hc
 ·rename_i t
  simp only [frzV_dat v _ h, V.evs] at hc ⊢
  split at hc
  ·rename_i y hy
   simp only [Option.some.injEq, Prod.mk.injEq] at hc
   obtain ⟨rfl, rfl, rfl⟩ := hc
   exact ⟨rfl, rfl, fun _ => rfl⟩
  ·cases hc
 ·split at hc
  ·rename_i q e1 M1 hq
   obtain ⟨rfl, rfl, h3⟩ := conv_da v _ _ h _ _ _ hq
   split at hc
   ·rename_i y hy
    simp only [Option.some.injEq, Prod.mk.injEq] at hc
    obtain ⟨rfl, rfl, rfl⟩ := hc
    exact ⟨rfl, rfl, fun M2 => by simp only [h3, hy]⟩
   ·cases hc
  ·cases hc
theorem convW_dat {k : Nat} {v : V} {o : O} {M : Mem} (h : isDat v = true) {x : o.strip.den} {e : List Ev} {M' : Mem} (hc : convW k o v M = some (x, e, M')) : e = [] /\ M' = M /\ ∀ M1, convW k o v M1 = some (x, [], M1) := by
 unfold convW at hc ⊢
 split at hc
 ·split at hc
  ·rename_i y ev M1 hq
   obtain ⟨rfl, rfl, h3⟩ := convW0_dat h hq
   simp only [Option.some.injEq, Prod.mk.injEq] at hc
   obtain ⟨rfl, rfl, rfl⟩ := hc
   exact ⟨rfl, rfl, fun M2 => by simp only [h3]⟩
  ·cases hc
 ·exact convW0_dat h hc
theorem convEls_dat {k : Nat} {o : O} : ∀ (l : List V), (∀ v ∈ l, isDat v = true) -> ∀ (M : Mem) (x : List o.strip.den) (e : List Ev) (M' : Mem), convEls k o [] l M = some (x, e, M') -> e = [] /\ M' = M /\ ∀ M1, convEls k o [] l M1 = some (x, [], M1)
 | [], _, M, x, e, M', hc => by
  simp only [convEls, Option.some.injEq, Prod.mk.injEq] at hc
  obtain ⟨rfl, rfl, rfl⟩ := hc
  exact ⟨rfl, rfl, fun _ => rfl⟩
 | v :: r, h, M, x, e, M', hc => by
  simp only [convEls, V.evs] at hc
  split at hc
  ·rename_i y e1 M1 h1
   obtain ⟨rfl, rfl, h3⟩ := convW_dat (h v (by simp)) h1
   simp only [ap] at hc
   split at hc
   ·rename_i z e2 M2 h2
    obtain ⟨rfl, rfl, h4⟩ := convEls_dat r (fun w hw => h w (by simp [hw])) _ _ _ _ h2
    simp only [Option.some.injEq, Prod.mk.injEq] at hc
    obtain ⟨rfl, rfl, rfl⟩ := hc
    exact ⟨rfl, rfl, fun M2 => by simp only [convEls, V.evs, h3, ap, h4]⟩
   ·cases hc
  ·cases hc
theorem zero_dat : ∀ t : T, isDat (zeroV t) = true
 | .p a b => by simp only [zeroV, isDat, zero_dat a, zero_dat b]; rfl
 | .sl _ => rfl
 | .u => rfl
 | .pt _ => rfl
 | .fn _ _ => rfl
 | .ifc _ _ => rfl
 | .mp _ _ => rfl
 | .op _ => rfl
 | .ns _ => rfl
 | .int _ => rfl
 | .bool => rfl
 | .str => rfl
 | .any => rfl
theorem setL_mem {α : Type} {y x : α} : ∀ {l : List α} {i : Nat}, x ∈ setL l i y -> x ∈ l ∨ x = y
 | [], _, h => by cases h
 | z :: r, 0, h => by simp only [setL, List.mem_cons] at h ⊢; rcases h with h | h <;> simp [h]
 | z :: r, i + 1, h => by
  simp only [setL, List.mem_cons] at h ⊢
  rcases h with h | h
  ·simp [h]
  ·rcases setL_mem h with h | h <;> simp [h]
theorem repL_mem {α : Type} {y x : α} : ∀ {n : Nat}, x ∈ repL y n -> x = y
 | 0, h => by cases h
 | n + 1, h => by
  simp only [repL, List.mem_cons] at h
  rcases h with h | h
  ·exact h
  ·exact repL_mem h
theorem strip_dat {v : V} (h : isDat v = true) : v.strip = v := by cases v <;> first | rfl | cases h
theorem evElems_dat {M : Mem} {sz : Nat} {f : Operand -> V} : ∀ (ps : List (Nat × Operand)) (l r : List V), (∀ q ∈ ps, isDat (f q.2) = true) -> (∀ v ∈ l, isDat v = true) -> evElems M sz f ps l = some r -> (∀ v ∈ r, isDat v = true) /\ ∀ M1, evElems M1 sz f ps l = some r
 | [], l, r, _, hl, h => by simp only [evElems, Option.some.injEq] at h; subst h; exact ⟨hl, fun _ => rfl⟩
 | (i, x) :: ps, l, r, hp, hl, h => by
  simp only [evElems] at h
  have hx := cells_dat (hp _ (List.mem_cons_self))
  cases hb : nob (Nat.ble (Nat.succ i) (len l)) (sizeIs M (f x).cells sz) with
  | false => rw [hb] at h; cases h
  | true =>
   rw [hb] at h
   simp only [cond_true] at h
   obtain ⟨h1, h2⟩ := evElems_dat ps _ r (fun q hq => hp q (by simp [hq])) (fun v hv => by
    rcases setL_mem hv with hv | hv
    ·exact hl v hv
    ·rw [hv]; exact hx) h
   refine ⟨h1, fun M1 => ?_⟩
   simp only [evElems]
   rw [sizeIs_liv (M := M1) (M0 := M) _ _ (liv_dat _ hx), hb]
   exact h2 M1
theorem evsL_dat (e : List Ev) : ∀ l : List V, (∀ v ∈ l, isDat v = true) -> evsL e l = l
 | [], _ => rfl
 | v :: r, h => by simp only [evsL]; rw [dat_evs e v (h v (by simp)), evsL_dat e r fun w hw => h w (by simp [hw])]
theorem evLit_dat {B : Tab} {t : TypeId} {n : Nat} {ps : List (Nat × Operand)} {f : Operand -> V} {d : Option Nat} {M M0 : Mem} (hp : ∀ q ∈ ps, isDat (f q.2) = true) {vc : List Prop} {v : V} {e : List Ev} {N : Mem} (h : evLit B t n ps f d M0 = ⟨vc, v, e, N⟩) (hv : allP vc) :
  evLit B t n ps f d M = ⟨vc, v, e, ap (takeL (len e) N) (delL (keysM (takeL (len e) N)) M)⟩ := by
 unfold evLit at h ⊢
 split at h
 ·rename_i k el hel
  split at h
  ·rename_i l hl
   obtain ⟨hd, hl1⟩ := evElems_dat ps _ l hp (fun v hv => by rw [repL_mem hv]; exact zero_dat _) hl
   simp only [hl1 M]
   cases hb : allT [(B.τ t).ok, (B.τ el).ok, B.z el, Nat.ble (Nat.mul n (B.τ el).size) 16777216, Nat.ble n nb, beqN (B.σ el).size (B.τ el).size] with
   | false => rw [hb] at h; exact (bad_no h hv).elim
   | true =>
    rw [hb] at h
    simp only [cond_true, evsL_dat _ l hd] at h ⊢
    cases l with
    | nil =>
     simp only [Rs.mk.injEq] at h
     obtain ⟨rfl, rfl, rfl, rfl⟩ := h
     rfl
    | cons v0 r =>
     simp only at h ⊢
     split at h
     ·rename_i q e1 M1 hq
      obtain ⟨rfl, rfl, hq1⟩ := conv_da v0 _ _ (hd v0 (by simp)) _ _ _ hq
      simp only [hq1]
      split at h
      ·rename_i x ev M2 hx
       obtain ⟨rfl, rfl, hx1⟩ := convEls_dat _ hd _ _ _ _ hx
       simp only [hx1]
       simp only [Rs.mk.injEq] at h
       obtain ⟨rfl, rfl, rfl, rfl⟩ := h
       rfl
      ·rename_i hx
       have hx1 : ∀ M1, convEls k q.o [] (v0 :: r) M1 = none := fun M1 => by
        cases hc : convEls k q.o [] (v0 :: r) M1 with
        | none => rfl
        | some z =>
         obtain ⟨z1, z2, z3⟩ := z
         have := (convEls_dat _ hd _ _ _ _ hc).2.2 (del k M0)
         rw [hx] at this; cases this
       simp only [hx1]
       split at h
       ·rename_i x ev M2 hx
        obtain ⟨rfl, rfl, hx1⟩ := convEls_dat _ hd _ _ _ _ hx
        simp only [hx1]
        simp only [Rs.mk.injEq] at h
        obtain ⟨rfl, rfl, rfl, rfl⟩ := h
        rfl
       ·exact (bad_no h hv).elim
     ·exact (bad_no h hv).elim
  ·exact (bad_no h hv).elim
 ·exact (bad_no h hv).elim
theorem evApp_dat {B : Tab} {d : Option Nat} {t : TypeId} {x y : V} {M M0 : Mem} (hx : isDat x = true) (hy : isDat y = true) {vc : List Prop} {v : V} {e : List Ev} {N : Mem} (h : evApp B d t x y M0 = ⟨vc, v, e, N⟩) (hv : allP vc) :
  evApp B d t x y M = ⟨vc, v, e, ap (takeL (len e) N) (delL (keysM (takeL (len e) N)) M)⟩ := by
 unfold evApp at h ⊢
 cases he : (B.τ t).el with
 | none => rw [he] at h; exact (bad_no h hv).elim
 | some el =>
 cases d with
 | none => rw [he] at h; exact (bad_no h hv).elim
 | some k =>
 rw [he] at h
 try simp only at h ⊢
 cases y with
 | nl =>
  simp only [srcOf] at h ⊢
  cases hb : allT [(B.τ t).ok, (B.τ el).ok, neg (Nat.beq (B.τ el).bytes 0), B.z el, beqN (B.σ el).size (B.τ el).size] with
  | false => rw [hb] at h; exact (bad_no h hv).elim
  | true =>
   rw [hb] at h
   simp only [cond_true] at h ⊢
   cases x with
   | nl => simp only [Rs.mk.injEq] at h ⊢; obtain ⟨rfl, rfl, rfl, rfl⟩ := h; exact ⟨rfl, rfl, rfl, rfl⟩
   | ref _ _ => cases hx
   | _ => exact (bad_no h hv).elim
 | d s l =>
  cases s with
  | sl s =>
   simp only [srcOf] at h ⊢
   cases hb : allT [(B.τ t).ok, (B.τ el).ok, neg (Nat.beq (B.τ el).bytes 0), B.z el, beqN (B.σ el).size (B.τ el).size] with
   | false => rw [hb] at h; exact (bad_no h hv).elim
   | true =>
    rw [hb] at h
    simp only [cond_true] at h ⊢
    cases x with
    | nl =>
     simp only at h ⊢
     cases hc : beqN s.size (B.τ el).size with
     | false => rw [hc] at h; exact (bad_no h hv).elim
     | true =>
      rw [hc] at h
      simp only [cond_true, Rs.mk.injEq] at h ⊢
      obtain ⟨rfl, rfl, rfl, rfl⟩ := h
      exact ⟨rfl, rfl, rfl, rfl⟩
    | ref _ _ => cases hx
    | _ => exact (bad_no h hv).elim
  | _ => simp only [srcOf] at h; exact (bad_no h hv).elim
 | ref _ _ => cases hy
 | _ => simp only [srcOf] at h; exact (bad_no h hv).elim
theorem hop_ok {M0 M : Mem} {o : Oper} {env : Env} (hk : hopK M0 o.op env = true) (ag : livOps M0 env (opds o.op) = true -> ∀ x ∈ opds o.op, agV M M0 (rd env x)) {vc : List Prop} {v : V} {e : List Ev} {N : Mem} (h : evR B Φ o env M0 = ⟨vc, v, e, N⟩) (hv : allP vc) (he : klB e (takeL (len e) N) = true) :
  evR B Φ o env M = ⟨vc, v, e, ap (takeL (len e) N) (delL (keysM (takeL (len e) N)) M)⟩ := by
 have tk : ∀ N : Mem, takeL (len ([] : List Ev)) N = [] := fun _ => rfl
 obtain ⟨dst, op, ty', pos, after, guard⟩ := o
 simp only [hopK, orb_eq, nob_eq, Bool.or_eq_true, Bool.and_eq_true] at hk
 rcases hk with hk | hk | ⟨hk | hk, hd⟩
 ·cases op <;> simp only [memK, Bool.false_eq_true] at hk <;> simp only [evR, evOp, pureR, Rs.mk.injEq] at h ⊢ <;> obtain ⟨h1, h2, rfl, rfl⟩ := h <;> exact ⟨h1, h2, rfl, rfl⟩
 ·cases op <;> simp only [litK, Bool.false_eq_true] at hk
  case call c =>
   split at hk
   ·rename_i hcal
    simp only [evR, evOp, hcal] at h ⊢
    split at h
    ·rename_i x y t t' hxy htt
     cases hb : Nat.beq t t' with
     | false =>
      rw [hb] at h
      simp only [cond_false, badR, Rs.mk.injEq] at h
      obtain ⟨rfl, _⟩ := h
      exact absurd (allP_needs hv) (by simp [allP])
     | true =>
      rw [hb] at h
      simp only [cond_true] at h ⊢
      generalize hq : evApp B dst t ((rd env x).strip) ((rd env y).strip) M0 = q at h
      obtain ⟨vc', v', e', N'⟩ := q
      simp only [Rs.mk.injEq] at h
      obtain ⟨rfl, rfl, rfl, rfl⟩ := h
      have hx : isDat (rd env x) = true := datOps_mem hk _ (by show x ∈ ap (opds.calO c.callee) (toL c.args); rw [hcal, hxy, ap_eq]; simp)
      have hy : isDat (rd env y) = true := datOps_mem hk _ (by show y ∈ ap (opds.calO c.callee) (toL c.args); rw [hcal, hxy, ap_eq]; simp)
      rw [evApp_dat (M := M) (by rw [strip_dat hx]; exact hx) (by rw [strip_dat hy]; exact hy) hq (allP_needs hv)]
    ·simp only [badR, Rs.mk.injEq] at h
     obtain ⟨rfl, _⟩ := h
     exact absurd (allP_needs hv) (by simp [allP])
   ·cases hk
  rename_i t n ps
  simp only [evR, evOp] at h ⊢
  generalize hq : evLit B t n (toL ps) (fun x => (rd env x).strip) dst M0 = q at h
  obtain ⟨vc', v', e', N'⟩ := q
  simp only [Rs.mk.injEq] at h
  obtain ⟨rfl, rfl, rfl, rfl⟩ := h
  have hm : ∀ q ∈ toL ps, isDat ((fun x => (rd env x).strip) q.2) = true := fun q hq => by
   have : isDat (rd env q.2) = true := datOps_mem hk _ (by simp only [opds]; exact snds_mem (by rw [← toL_eq]; exact hq))
   simp only [strip_dat this]
   exact this
  rw [evLit_dat (M := M) hm hq (allP_needs hv)]
 ·have hm := ag hd
  cases op <;> simp only [pureK, Bool.false_eq_true] at hk <;> simp only [opds] at hm
  case load t x =>
   have hx := hm x (by simp)
   simp only [evR, evOp, Rs.mk.injEq] at h ⊢
   obtain ⟨h1, h2, h3, h4⟩ := h
   have hn : takL (B.τ t) M0 dst ((rd env x).strip) = none := by
    cases htk : takL (B.τ t) M0 dst ((rd env x).strip) with
    | none => rfl
    | some R =>
     exfalso
     simp only [evLoadT, htk] at h1 h2 h3 h4
     unfold takL at htk
     split at htk
     ·split at htk
      ·cases htk
       cases hb : allT [(B.τ t).ok, beqN (B.τ t).size 1, neg (B.τ t).agg, _, _] with
       | false =>
        rw [hb] at h1
        simp only [cond_false, badR] at h1
        subst h1
        exact absurd (allP_needs hv) (by simp [allP])
       | true =>
        rw [hb] at h3
        simp only [cond_true] at h3
        subst h3
        revert he; generalize takeL _ N = N1; cases N1 <;> simp [klB]
      ·cases htk
     ·cases htk
   have hn' : takL (B.τ t) M dst ((rd env x).strip) = none := by
    rw [liv_strip hx] at hn ⊢
    rw [takL_liv _ _ hx]; exact hn
   simp only [evLoadT, hn, pureR] at h1 h2 h3 h4
   subst h3
   simp only [evLoadT, hn', pureR]
   rw [liv_strip hx] at h1 h2 ⊢
   rw [evLoad_liv _ _ hx]
   simp only [tk, ap, delL, keysM, and_true]
   exact ⟨h1, h2⟩
  all_goals simp only [evR, evOp, pureR, Rs.mk.injEq] at h ⊢
  all_goals obtain ⟨h1, h2, rfl, rfl⟩ := h
  case fieldAddr t x i =>
   have hx := hm x (by simp)
   rw [liv_strip hx, evFldA_liv _ _ _ hx, ← liv_strip hx]
   exact ⟨h1, h2, rfl, rfl⟩
  case field t x i =>
   have hx := hm x (by simp)
   rw [liv_strip hx, evFld_liv _ _ _ hx, ← liv_strip hx]
   exact ⟨h1, h2, rfl, rfl⟩
  case indexAddr t x i =>
   have hx := hm x (by simp)
   rw [liv_strip hx, evIxA_liv _ _ _ hx, ← liv_strip hx]
   exact ⟨h1, h2, rfl, rfl⟩
  all_goals exact ⟨h1, h2, rfl, rfl⟩
 ·have hm := ag hd
  cases op <;> simp only [newK, Bool.false_eq_true] at hk
  case alloc t =>
   simp only [evR, evOp, newB] at h ⊢
   cases dst with
   | none =>
    simp only [badR, Rs.mk.injEq] at h
    obtain ⟨rfl, _⟩ := h
    exact absurd (allP_needs hv) (by simp [allP])
   | some k =>
    simp only at h ⊢
    cases hb : allT [(B.τ t).ok, B.z t] with
    | false =>
     rw [hb] at h
     simp only [cond_false, badR, Rs.mk.injEq] at h
     obtain ⟨rfl, _⟩ := h
     exact absurd (allP_needs hv) (by simp [allP])
    | true =>
     rw [hb] at h
     simp only [cond_true, Rs.mk.injEq] at h ⊢
     obtain ⟨h1, h2, rfl, rfl⟩ := h
     exact ⟨h1, h2, rfl, rfl⟩
  case makeSlice t l c =>
   simp only [evR, evOp, evMake] at h ⊢
   split at h
   ·rename_i el k1 nl k2 nc e2 e3 e4
    cases hb : allT [(B.τ t).ok, (B.τ el).ok, B.z el, beqN (B.σ el).size (B.τ el).size] with
    | false =>
     rw [hb] at h
     simp only [cond_false, badR, Rs.mk.injEq] at h
     obtain ⟨rfl, _⟩ := h
     exact absurd (allP_needs hv) (by simp [allP])
    | true =>
     rw [hb] at h
     simp only [cond_true, Rs.mk.injEq] at h ⊢
     obtain ⟨h1, h2, rfl, rfl⟩ := h
     exact ⟨h1, h2, rfl, rfl⟩
   ·simp only [badR, Rs.mk.injEq] at h
    obtain ⟨rfl, _⟩ := h
    exact absurd (allP_needs hv) (by simp [allP])
  case build t ps =>
   simp only [evR, evOp, evBuild] at h ⊢
   rw [evParts_liv (M := M) (M0 := M0) _ (fun x => (rd env x).strip) (toL ps) _ (fun x hx => by have := hm x (by simp only [opds]; exact hx); rw [liv_strip this]; exact this) (zero_liv _)]
   cases hb : allT [(B.τ t).ok, bldOk B (B.τ t), B.z t] with
   | false =>
    rw [hb] at h
    simp only [cond_false, badR, Rs.mk.injEq] at h
    obtain ⟨rfl, _⟩ := h
    exact absurd (allP_needs hv) (by simp [allP])
   | true =>
    rw [hb] at h
    simp only [cond_true] at h ⊢
    split at h
    ·rename_i v0 e0
     simp only [Rs.mk.injEq] at h ⊢
     obtain ⟨h1, h2, rfl, rfl⟩ := h
     exact ⟨h1, h2, rfl, rfl⟩
    ·simp only [badR, Rs.mk.injEq] at h
     obtain ⟨rfl, _⟩ := h
     exact absurd (allP_needs hv) (by simp [allP])
  case buildSlice t n p =>
   rw [nob_eq, Bool.and_eq_true] at hk
   have hn0 := Nat.eq_of_beq_eq_true hk.1
   subst hn0
   have hp : toL p = [] := by
    have := Nat.eq_of_beq_eq_true hk.2
    revert this
    cases toL p with
    | nil => intro _; rfl
    | cons a r => intro h; exact absurd h (by simp only [len]; omega)
   ·simp only [evR, evOp, hp, evLit] at h ⊢
    cases dst with
    | none =>
     simp only [badR, Rs.mk.injEq] at h
     obtain ⟨rfl, _⟩ := h
     exact absurd (allP_needs hv) (by simp [allP])
    | some k =>
     cases hel : (B.τ t).el with
     | none =>
      rw [hel] at h
      simp only [badR, Rs.mk.injEq] at h
      obtain ⟨rfl, _⟩ := h
      exact absurd (allP_needs hv) (by simp [allP])
     | some el =>
      rw [hel] at h
      simp only [evElems, repL, evsL] at h ⊢
      cases hb : allT [(B.τ t).ok, (B.τ el).ok, B.z el, Nat.ble (Nat.mul 0 (B.τ el).size) 16777216, Nat.ble 0 nb, beqN (B.σ el).size (B.τ el).size] with
      | false =>
       rw [hb] at h
       simp only [cond_false, badR, Rs.mk.injEq] at h
       obtain ⟨rfl, _⟩ := h
       exact absurd (allP_needs hv) (by simp [allP])
      | true =>
       rw [hb] at h
       simp only [cond_true, Rs.mk.injEq] at h ⊢
       obtain ⟨h1, h2, rfl, rfl⟩ := h
       exact ⟨h1, h2, rfl, rfl⟩
  case call c =>
   obtain ⟨callee, args, argTypes⟩ := c
   have hrd : ∀ x ∈ toL args, agV M M0 (rd env x).strip := fun x hx => by
    have := hm x (by simp only [opds, ap_eq]; exact List.mem_append_right _ hx)
    rw [liv_strip this]; exact this
   cases callee with
   | value cx =>
    have hc := hm cx (by simp only [opds, ap_eq, opds.calO]; exact List.mem_append_left _ (by simp))
    simp only [evR, evOp] at h ⊢
    cases hf : fnOf (rd env cx).strip with
    | none =>
     rw [hf] at h
     simp only [badR, Rs.mk.injEq] at h
     obtain ⟨rfl, _⟩ := h
     exact absurd (allP_needs hv) (by simp [allP])
    | some q =>
     obtain ⟨f, cv⟩ := q
     have hcv : agV M M0 cv := fn_liv (by rw [liv_strip hc]; exact hc) hf
     rw [hf] at h
     cases dst with
     | none =>
      simp only [badR, Rs.mk.injEq] at h
      obtain ⟨rfl, _⟩ := h
      exact absurd (allP_needs hv) (by simp [allP])
     | some d =>
      simp only at h ⊢
      obtain ⟨c1, c2⟩ := capL_liv cv hcv
      rw [c1]
      cases hp : Φ f with
      | none =>
       rw [hp] at h
       simp only [badR, Rs.mk.injEq] at h
       obtain ⟨rfl, _⟩ := h
       exact absurd (allP_needs hv) (by simp [allP])
      | some ct =>
       rw [hp] at h
       cases hcs : capL M0 cv with
       | none =>
        rw [hcs] at h
        simp only [badR, Rs.mk.injEq] at h
        obtain ⟨rfl, _⟩ := h
        exact absurd (allP_needs hv) (by simp [allP])
       | some cs =>
        rw [hcs] at h
        simp only at h ⊢
        have hall : ∀ y ∈ ap (mapV (fun x => (rd env x).strip) (toL args)) cs, agV M M0 y := fun y hy => by
         rw [ap_eq] at hy
         rcases List.mem_append.1 hy with hy | hy
         ·obtain ⟨x, x1, rfl⟩ := mapV_mem hy; exact hrd x x1
         ·exact c2 cs hcs y hy
        generalize hq : evCall ct d (ap (mapV (fun x => (rd env x).strip) (toL args)) cs) M0 = q at h
        obtain ⟨vc1, v1, e1, N1⟩ := q
        simp only [Rs.mk.injEq] at h
        obtain ⟨rfl, rfl, rfl, rfl⟩ := h
        rw [evCall_liv hall hq (allP_needs hv) he]
   | builtin b =>
    cases b <;> simp only [Bool.false_eq_true] at hk
    simp only [evR, evOp] at h ⊢
    split at h
    ·rename_i x t e1 e2
     have hx := hrd x (by rw [e1]; simp)
     simp only [pureR, Rs.mk.injEq] at h ⊢
     rw [evLen_liv hx]
     obtain ⟨h1, h2, rfl, rfl⟩ := h
     exact ⟨h1, h2, rfl, rfl⟩
    ·simp only [badR, Rs.mk.injEq] at h
     obtain ⟨rfl, _⟩ := h
     exact absurd (allP_needs hv) (by simp [allP])
   | _ => simp at hk
theorem noref_c {β : Nat -> Value} {M : Mem} {Im : Nat -> Prop} {w : World} {k : Nat} (hk : go M k = none) : ∀ (v : V) (vs : List Value), RelC β M Im w v vs -> v.ev (.kl k) = v := by
 intro v
 induction v with
 | p a b iha ihb =>
  intro vs r
  simp only [RelC] at r
  obtain ⟨va, vb, _, h1, h2⟩ := r
  simp only [V.ev]; rw [iha _ h1, ihb _ h2]
 | ref j π =>
  intro vs r
  simp only [RelC] at r
  obtain ⟨ob, _, h1, _⟩ := r
  have hne : j ≠ k := fun h => by subst h; rw [hk] at h1; cases h1
  simp only [V.ev, Ev.ref, beq_cond, if_neg hne]
 | ad j π =>
  intro vs r
  simp only [RelC] at r
  obtain ⟨_, _, ob, _, _, _, h1, _⟩ := r
  have hne : j ≠ k := fun h => by subst h; rw [hk] at h1; cases h1
  simp only [V.ev, Ev.ad, beq_cond, if_neg hne]
 | fn f v ih =>
  intro vs r
  simp only [RelC] at r
  obtain ⟨us, _, h⟩ := r
  simp only [V.ev]; rw [ih _ h]
 | bx v ih =>
  intro vs r
  simp only [RelC] at r
  obtain ⟨_, _, us, _, _, _, h⟩ := r
  simp only [V.ev]; rw [ih _ h]
 | ag v => intro vs r; simp only [RelC] at r
 | tup v => intro vs r; simp only [RelC] at r
 | gd _ _ _ v => intro vs r; simp only [RelC] at r
 | ifc t v ih =>
  intro vs r
  simp only [RelC] at r
  obtain ⟨u, _, h⟩ := r
  simp only [V.ev]; rw [ih _ h]
 | _ => intro vs r; rfl
theorem noref_st {β : Nat -> Value} {M : Mem} {Im : Nat -> Prop} {w : World} {k : Nat} (hk : go M k = none) : ∀ (v : V), noGdV v = true -> (∀ u, RelS β M Im w v u -> v.ev (.kl k) = v) /\ (∀ us, RelT β M Im w v us -> v.ev (.kl k) = v) := by
 intro v
 induction v with
 | any => intro _; exact ⟨fun _ _ => rfl, fun _ _ => rfl⟩
 | ag v ih =>
  intro _
  refine ⟨fun u r => ?_, fun us r => ?_⟩
  ·simp only [RelS] at r; obtain ⟨vs, _, h⟩ := r; simp only [V.ev]; rw [noref_c hk _ _ h]
  ·simp only [RelT] at r
 | tup v ih =>
  intro hg
  refine ⟨fun u r => ?_, fun us r => ?_⟩
  ·simp only [RelS] at r; obtain ⟨vs, _, h⟩ := r; simp only [V.ev]; rw [(ih hg).2 _ h]
  ·simp only [RelT] at r
 | gd _ _ _ v => intro hg; cases hg
 | ifc t v ih =>
  intro hg
  refine ⟨fun u r => ?_, fun us r => ?_⟩
  ·simp only [RelS] at r; exact noref_c hk _ _ r
  ·simp only [RelT] at r
 | p a b iha ihb =>
  intro hg
  simp only [noGdV, nob_eq, Bool.and_eq_true] at hg
  refine ⟨fun u r => ?_, fun us r => ?_⟩
  ·simp only [RelS] at r; exact noref_c hk _ _ r
  ·simp only [RelT] at r
   obtain ⟨u, us', _, h1, h2⟩ := r
   simp only [V.ev]; rw [(iha hg.1).1 _ h1, (ihb hg.2).2 _ h2]
 | u => intro _; exact ⟨fun _ _ => rfl, fun _ _ => rfl⟩
 | ref j π => intro _; exact ⟨fun u r => by simp only [RelS] at r; exact noref_c hk _ _ r, fun us r => by simp only [RelT] at r⟩
 | ad j π => intro _; exact ⟨fun u r => by simp only [RelS] at r; exact noref_c hk _ _ r, fun us r => by simp only [RelT] at r⟩
 | d t x => intro _; exact ⟨fun _ _ => rfl, fun _ _ => rfl⟩
 | nl => intro _; exact ⟨fun _ _ => rfl, fun _ _ => rfl⟩
 | np => intro _; exact ⟨fun _ _ => rfl, fun _ _ => rfl⟩
 | fn f v => intro _; exact ⟨fun u r => by simp only [RelS] at r; exact noref_c hk _ _ r, fun us r => by simp only [RelT] at r⟩
 | bx v => intro _; exact ⟨fun u r => by simp only [RelS] at r; exact noref_c hk _ _ r, fun us r => by simp only [RelT] at r⟩
theorem klB_evs : ∀ {e : List Ev} {N : Mem}, klB e N = true -> ∀ {v : V}, (∀ k ∈ keysM N, v.ev (.kl k) = v) -> v.evs e = v
 | [], [], _, v, _ => rfl
 | [], _ :: _, h, _, _ => by simp [klB] at h
 | x :: e, [], h, _, _ => by cases x <;> simp [klB] at h
 | x :: e, (j, ob) :: N, h, v, hk => by
  cases x with
  | kl k =>
   simp only [klB, nob_eq, Bool.and_eq_true] at h
   have := Nat.eq_of_beq_eq_true h.1
   subst this
   simp only [V.evs]
   rw [hk k (by simp [keysM])]
   exact klB_evs h.2 fun k hk' => hk k (by simp [keysM, hk'])
  | _ => simp [klB] at h
theorem noKey_go : ∀ {ks : List Nat} {M : Mem}, noKey ks M = true -> ∀ k ∈ ks, go M k = none
 | [], _, _, k, hk => by cases hk
 | j :: r, M, h, k, hk => by
  simp only [noKey, nob_eq, Bool.and_eq_true] at h
  rcases List.mem_cons.1 hk with rfl | hk
  ·cases hg : go M k with
   | none => rfl
   | some _ => rw [hg] at h; exact absurd h.1 (by simp [isN])
  ·exact noKey_go h.2 k hk
theorem keys_go : ∀ {N : Mem} {k : Nat}, k ∈ keysM N ↔ go N k ≠ none
 | [], k => by simp [keysM, go]
 | (j, ob) :: N, k => by
  simp only [keysM, List.mem_cons, go_cons]
  by_cases e : j = k
  ·subst e; simp
  ·rw [if_neg e, ← keys_go (N := N)]
   simp [Ne.symm e]
theorem delL_go : ∀ {ks : List Nat} {M : Mem} {k : Nat}, k ∉ ks -> go (delL ks M) k = go M k
 | [], _, _, _ => rfl
 | j :: r, M, k, h => by
  simp only [delL]
  rw [delL_go (fun hh => h (by simp [hh])), go_del_ne (fun hh => h (by simp [hh]))]
theorem noGdE_gt {t : Nat} : ∀ {env : Env}, noGdE env = true -> noGdV (gt env t) = true
 | [], _ => rfl
 | (k, v) :: r, h => by
  simp only [noGdE, nob_eq, Bool.and_eq_true] at h
  rw [gt_cons]
  split
  ·exact h.1
  ·exact noGdE_gt h.2
structure Hst (D : Bool) (ks as : List Nat) (B : Tab) (Φ : FuncId -> Option Ct) (M0 : Mem) (o : Oper) (e e' : Env) (N : Mem) (X X' : Mem) (d : Nat) (v : V) (vc : List Prop) (ev : List Ev) : Prop where
 g : o.guard = none
 dst : o.dst = some d
 k : hopK (ap X M0) o.op e = true
 r : ∃ N', evR B Φ o e (ap X M0) = ⟨vc, v, ev, N'⟩ /\ N = takeL (len ev) N'
 hv : allP vc
 kl : klB ev N = true
 n0 : noKey (keysM N) M0 = true
 nX : noKey (keysM N) X = true
 gd : noGdV v = true
 dt : D = true -> datK o.op = true -> bxK B as o.op e = true ∨ ksOps ks e (opds o.op) = true /\ ksV ks v = true
 he : e' = (d, v) :: e
 x : X' = ap N X
theorem hx_steps {ks as : List Nat} {M0 : Mem} : ∀ (D : List Bool) (ops : List Oper) (e : Env) (x : Mem) (K : Env -> Mem -> Prop), hx D ks as B Φ M0 ops e x K ->
  ∃ (E : Nat -> Env) (X N : Nat -> Mem), E 0 = e /\ X 0 = x /\ (∀ j o, ops[j]? = some o -> ∃ d v vc ev, Hst (D.getD j false) ks as B Φ M0 o (E j) (E (j + 1)) (N j) (X j) (X (j + 1)) d v vc ev) /\ K (E ops.length) (X ops.length)
 | D, [], e, x, K, h => ⟨fun _ => e, fun _ => x, fun _ => [], rfl, rfl, fun j o h => by simp at h, h⟩
 | D, o :: r, e, x, K, h => by
  have key : ∃ e' x' N, (∃ d v vc ev, Hst (headB D) ks as B Φ M0 o e e' N x x' d v vc ev) /\ hx (tailB D) ks as B Φ M0 r e' x' K := by
   simp only [hx] at h
   split at h
   ·rename_i d hg hd
    cases hk : hopK (ap x M0) o.op e with
    | false => rw [hk] at h; exact h.elim
    | true =>
     rw [hk] at h
     simp only [cond_true] at h
     generalize hq : evR B Φ o e (ap x M0) = q at h
     obtain ⟨vc, v, ev, N'⟩ := q
     simp only at h
     generalize hN : takeL (len ev) N' = N at h
     cases hb : allT [klB ev N, noKey (keysM N) M0, noKey (keysM N) x, noGdV v, orb (neg (headB D)) (orb (neg (datK o.op)) (orb (bxK B as o.op e) (nob (ksOps ks e (opds o.op)) (ksV ks v))))] with
     | false => rw [hb] at h; exact h.elim
     | true =>
      rw [hb] at h
      simp only [cond_true, conj_iff] at h
      simp only [allT_cons, allT_nil, Bool.and_true, Bool.and_eq_true] at hb
      exact ⟨_, _, N, ⟨d, v, vc, ev, ⟨hg, hd, hk, ⟨N', hq, hN.symm⟩, h.1, hb.1, hb.2.1, hb.2.2.1, hb.2.2.2.1, fun hD hk => by
       have h5 := hb.2.2.2.2
       rw [hD, hk] at h5
       simpa using h5, rfl, rfl⟩⟩, h.2⟩
   ·exact h.elim
  obtain ⟨e', x', N, h1, h2⟩ := key
  obtain ⟨E, X, Ns, i1, i2, i3, i4⟩ := hx_steps (tailB D) r e' x' K h2
  refine ⟨fun j => match j with | 0 => e | j + 1 => E j, fun j => match j with | 0 => x | j + 1 => X j, fun j => match j with | 0 => N | j + 1 => Ns j, rfl, rfl, fun j o' hj => ?_, by simpa using i4⟩
  cases j with
  | zero =>
   simp only [List.getElem?_cons_zero, Option.some.injEq] at hj
   subst hj
   simp only
   rw [i1, i2]
   have e : D.getD 0 false = headB D := by cases D <;> rfl
   rw [e]
   exact h1
  | succ j =>
   simp only [List.getElem?_cons_succ] at hj
   have e : D.getD (j + 1) false = (tailB D).getD j false := by cases D <;> simp [tailB]
   rw [e]
   exact i3 j o' hj
theorem isN_none {α : Type} {x : Option α} (h : isN x = true) : x = none := by cases x <;> first | rfl | cases h
theorem datK_opds {o : Op} (h : datK o = true) : ∀ x ∈ o.operands, x ∈ opds o := by
 unfold datK at h
 cases o <;> simp [pureK, memK] at h <;> simp [Op.operands, opds]
theorem ks_noev {o : Oper} {env : Env} {M : Mem} {vc : List Prop} {v : V} {ev : List Ev} {N' : Mem} (hk : datK o.op = true) (hr : evR B Φ o env M = ⟨vc, v, ev, N'⟩) (hkl : klB ev (takeL (len ev) N') = true) : ev = [] := by
 obtain ⟨dst, op, ty', pos, after, guard⟩ := o
 unfold datK at hk
 cases op <;> simp [pureK, memK] at hk
 case load t x =>
  simp only [evR, evOp, evLoadT] at hr
  split at hr
  ·rename_i r hr'
   unfold takL at hr'
   split at hr'
   ·split at hr'
    ·simp only [Option.some.injEq] at hr'
     subst hr'
     revert hr
     cases allT _ <;> intro hr
     ·simp only [cond_false, badR, Rs.mk.injEq] at hr; exact hr.2.2.1.symm
     ·simp only [cond_true, Rs.mk.injEq] at hr
      rw [← hr.2.2.1] at hkl
      exfalso
      generalize takeL _ N' = Z at hkl
      cases Z <;> simp [klB] at hkl
    ·cases hr'
   ·cases hr'
  ·simp only [pureR, Rs.mk.injEq] at hr; exact hr.2.2.1.symm
 all_goals (simp only [evR, evOp, pureR, Rs.mk.injEq] at hr; exact hr.2.2.1.symm)
def AgM (ks : List Nat) (M' M : Mem) : Prop := ∀ k, inN k ks = true -> go M' k = go M k
theorem AgM.refl (ks : List Nat) (M : Mem) : AgM ks M M := fun _ _ => rfl
theorem off_ne {ks : List Nat} {j k : Nat} (hk : inN k ks = true) (hj : neg (inN j ks) = true) : Nat.beq k j = false := by
 cases h : Nat.beq k j with
 | false => rfl
 | true =>
  have := Nat.eq_of_beq_eq_true h
  subst this
  rw [hk] at hj; cases hj
theorem off_ref {ks : List Nat} {k : Nat} {π : Path} (hk : inN k ks = true) (e : Ev) (he : offE ks e = true) : (V.ref k π).ev e = .ref k π := by
 cases e with
 | mv r k' => simp only [offE, nob_eq, Bool.and_eq_true] at he; simp only [V.ev, Ev.ref, off_ne hk he.1, cond_false]
 | kl r => simp only [offE] at he; simp only [V.ev, Ev.ref, off_ne hk he, cond_false]
 | cut r o o' => simp only [offE] at he; simp only [V.ev, Ev.ref, off_ne hk he, cond_false]
 | fz r ob => simp only [offE] at he; simp only [V.ev, Ev.ref, off_ne hk he, cond_false]
 | un r j => simp only [offE, nob_eq, Bool.and_eq_true] at he; simp only [V.ev, Ev.ref, off_ne hk he.1, cond_false]
theorem off_ad {ks : List Nat} {k : Nat} {π : Path} (hk : inN k ks = true) (e : Ev) (he : offE ks e = true) : (V.ad k π).ev e = .ad k π := by
 cases e with
 | mv r k' => simp only [offE, nob_eq, Bool.and_eq_true] at he; simp only [V.ev, Ev.ad, off_ne hk he.1, cond_false]
 | kl r => simp only [offE] at he; simp only [V.ev, Ev.ad, off_ne hk he, cond_false]
 | cut r o o' => simp only [offE] at he; simp only [V.ev, Ev.ad, off_ne hk he, cond_false]
 | fz r ob => simp only [offE] at he; simp only [V.ev, Ev.ad, off_ne hk he, cond_false]
 | un r j => simp only [offE, nob_eq, Bool.and_eq_true] at he; simp only [V.ev, Ev.ad, off_ne hk he.1, cond_false]
theorem off_nil : ∀ e : List Ev, offL [] e = true
 | [] => rfl
 | x :: e => by cases x <;> simp [offL, offE, inN, neg, off_nil e]
theorem off_ap {ks : List Nat} : ∀ {a b : List Ev}, offL ks (ap a b) = true -> offL ks a = true /\ offL ks b = true
 | [], b, h => ⟨rfl, h⟩
 | x :: a, b, h => by
  simp only [ap, offL, nob_eq, Bool.and_eq_true] at h ⊢
  obtain ⟨h1, h2⟩ := off_ap h.2
  exact ⟨⟨h.1, h1⟩, h2⟩
theorem AgM.trans {ks : List Nat} {a b c : Mem} (h : AgM ks a b) (g : AgM ks b c) : AgM ks a c := fun k hk => (h k hk).trans (g k hk)
theorem ag_del {ks : List Nat} {k : Nat} {M : Mem} (h : neg (inN k ks) = true) : AgM ks (del k M) M := fun j hj => go_del_ne (fun e => by subst e; rw [hj] at h; cases h) M
theorem ag_put {ks : List Nat} {k : Nat} {ob : Ob} {M : Mem} (h : neg (inN k ks) = true) : AgM ks (put k ob M) M := fun j hj => go_put_ne ob (fun e => by subst e; rw [hj] at h; cases h) M
theorem frzV_frame {ks : List Nat} : ∀ (v : V) (M : Mem), offL ks (frzV M v).1 = true -> AgM ks (frzV M v).2 M
 | .ref k π, M, h => by
  simp only [frzV] at h ⊢
  split
  ·rename_i ob hg
   rw [hg] at h
   simp only [offL, offE, nob_eq, Bool.and_eq_true] at h
   exact ag_del h.1
  ·exact AgM.refl _ _
 | .ad k π, M, h => by
  simp only [frzV] at h ⊢
  split
  ·rename_i ob hg
   rw [hg] at h
   simp only [offL, offE, nob_eq, Bool.and_eq_true] at h
   exact ag_del h.1
  ·exact AgM.refl _ _
 | .p a b, M, h => by
  simp only [frzV] at h ⊢
  obtain ⟨h1, h2⟩ := off_ap h
  exact (frzV_frame b _ h2).trans (frzV_frame a M h1)
 | .ag v, M, h => by simp only [frzV] at h ⊢; exact frzV_frame v M h
 | .fn _ v, M, h => by simp only [frzV] at h ⊢; exact frzV_frame v M h
 | .ifc _ v, M, h => by simp only [frzV] at h ⊢; exact frzV_frame v M h
 | .bx v, M, h => by simp only [frzV] at h ⊢; exact frzV_frame v M h
 | .tup v, M, h => by simp only [frzV] at h ⊢; exact frzV_frame v M h
 | .gd _ _ _ v, M, h => by simp only [frzV] at h ⊢; exact frzV_frame v M h
 | .any, M, _ => AgM.refl _ _
 | .nl, M, _ => AgM.refl _ _
 | .np, M, _ => AgM.refl _ _
 | .u, M, _ => AgM.refl _ _
 | .d _ _, M, _ => AgM.refl _ _
theorem frzL_frame {ks : List Nat} : ∀ (vs : List V) (M : Mem), offL ks (frzL M vs).1 = true -> AgM ks (frzL M vs).2 M
 | [], M, _ => AgM.refl _ _
 | v :: r, M, h => by
  simp only [frzL] at h ⊢
  obtain ⟨h1, h2⟩ := off_ap h
  exact (frzL_frame r _ h2).trans (frzV_frame v M h1)
theorem klL_off {ks : List Nat} : ∀ {l : List Nat}, offL ks (klL l) = true -> ∀ k ∈ l, neg (inN k ks) = true
 | [], _, k, h => by cases h
 | a :: l, h, k, hk => by
  simp only [klL, offL, offE, nob_eq, Bool.and_eq_true] at h
  rcases List.mem_cons.1 hk with e | e
  ·subst e; exact h.1
  ·exact klL_off h.2 k e
theorem ag_new {ks : List Nat} {N M : Mem} (h : offL ks (klL (keysM N)) = true) : AgM ks (ap N (delL (keysM N) M)) M := fun k hk => by
 have hn : k ∉ keysM N := fun hm => by have := klL_off h k hm; rw [hk] at this; cases this
 have hg : go N k = none := Decidable.byContradiction fun e => hn (keys_go.2 e)
 rw [go_ap, hg, delL_go hn]
theorem updV_frame {ks : List Nat} : ∀ (o : O) (v : V) (x : o.strip.den) (M : Mem) (e : List Ev) (M' : Mem), updV o v x M = some (e, M') -> offL ks e = true -> AgM ks M' M := by
 have rf : ∀ (k : Nat) (π : Path) (o : O) (x : o.strip.den) (M : Mem) (e : List Ev) (M' : Mem), updRf k π o x M = some (e, M') -> offL ks e = true -> AgM ks M' M := fun k π o x M e M' h he => by
  unfold updRf at h
  split at h
  ·split at h
   ·simp only [Option.some.injEq, Prod.mk.injEq] at h
    obtain ⟨rfl, rfl⟩ := h
    simp only [offL, offE, nob_eq, Bool.and_eq_true] at he
    exact ag_put he.1
   ·cases h
  ·cases h
 intro o
 induction o with
 | fz t => intro v x M e M' h _; simp only [updV, Option.some.injEq, Prod.mk.injEq] at h; obtain ⟨rfl, rfl⟩ := h; exact AgM.refl _ _
 | p a b iha ihb =>
  intro v x M e M' h he
  cases v with
  | p v1 v2 =>
   simp only [updV] at h
   split at h
   ·rename_i e1 M1 h1
    split at h
    ·rename_i e2 M2 h2
     simp only [Option.some.injEq, Prod.mk.injEq] at h
     obtain ⟨rfl, rfl⟩ := h
     obtain ⟨g1, g2⟩ := off_ap he
     exact (ihb _ _ _ _ _ h2 g2).trans (iha _ _ _ _ _ h1 g1)
    ·cases h
   ·cases h
  | ref k π => simp only [updV] at h; exact rf _ _ _ _ _ _ _ h he
  | _ => simp [updV] at h
 | sl e0 ih =>
  intro v x M e M' h he
  cases v with
  | ref k π => simp only [updV] at h; exact rf _ _ _ _ _ _ _ h he
  | _ => simp [updV] at h
 | pt _ _ => intro v x M e M' h _; cases v <;> simp [updV] at h
 | mp _ _ => intro v x M e M' h _; cases v <;> simp [updV] at h
 | op _ _ => intro v x M e M' h _; cases v <;> simp [updV] at h
theorem evCall_frame {ks : List Nat} {ct : Ct} {d : Nat} {vs : List V} {M : Mem} {vc : List Prop} {v : V} {e : List Ev} {M1 : Mem} (h : evCall ct d vs M = ⟨vc, v, e, M1⟩) (hv : allP vc) (he : offL ks e = true) : AgM ks M1 M := by
 unfold evCall at h
 split at h
 ·unfold evMark at h
  split at h
  ·cases hb : allT _ with
   | false => rw [hb] at h; exact (bad_no h hv).elim
   | true =>
    rw [hb] at h
    simp only [cond_true] at h
    split at h
    ·split at h
     ·rename_i hu
      simp only [Rs.mk.injEq] at h
      obtain ⟨_, _, rfl, rfl⟩ := h
      exact updV_frame _ _ _ _ _ _ hu he
     ·exact (bad_no h hv).elim
    ·exact (bad_no h hv).elim
  ·exact (bad_no h hv).elim
 ·unfold evWrite at h
  split at h
  ·split at h
   ·cases hb : nob _ _ with
    | false => rw [hb] at h; exact (bad_no h hv).elim
    | true =>
     rw [hb] at h
     simp only [cond_true] at h
     split at h
     ·split at h
      ·(try simp only at h)
       cases hi : inN _ _ with
       | true => rw [hi] at h; exact (bad_no h hv).elim
       | false =>
        rw [hi] at h
        simp only [cond_false, Rs.mk.injEq] at h
        obtain ⟨_, _, rfl, rfl⟩ := h
        obtain ⟨h1, h2⟩ := off_ap he
        simp only [offL, nob_eq, Bool.and_eq_true] at h2
        exact (ag_new h2.2).trans ((ag_put (by simpa only [offE] using h2.1)).trans (frzL_frame _ _ h1))
      ·exact (bad_no h hv).elim
     ·exact (bad_no h hv).elim
   ·exact (bad_no h hv).elim
  ·exact (bad_no h hv).elim
 ·exact (bad_no h hv).elim
 ·unfold evAlias at h
  split at h
  ·split at h
   ·cases hb : allT _ with
    | false => rw [hb] at h; exact (bad_no h hv).elim
    | true =>
     rw [hb] at h
     simp only [cond_true] at h
     split at h
     ·split at h
      ·simp only [Rs.mk.injEq] at h
       obtain ⟨_, _, rfl, rfl⟩ := h
       obtain ⟨h1, h2⟩ := off_ap he
       simp only [offL, nob_eq, Bool.and_eq_true] at h2
       exact (ag_put (by simpa only [offE] using h2.1)).trans (frzL_frame _ _ h1)
      ·exact (bad_no h hv).elim
     ·exact (bad_no h hv).elim
   ·exact (bad_no h hv).elim
  ·exact (bad_no h hv).elim
 ·cases hb : shp _ _ with
  | false => rw [hb] at h; exact (bad_no h hv).elim
  | true =>
   rw [hb] at h
   simp only [cond_true] at h
   split at h
   ·split at h
    ·simp only [Rs.mk.injEq] at h
     obtain ⟨_, _, rfl, rfl⟩ := h
     exact ag_new he
    ·exact (bad_no h hv).elim
   ·split at h
    ·simp only [Rs.mk.injEq] at h
     obtain ⟨_, _, rfl, rfl⟩ := h
     obtain ⟨h1, h2⟩ := off_ap he
     exact (ag_new h2).trans (frzL_frame _ _ h1)
    ·exact (bad_no h hv).elim
theorem ag_hd {ks : List Nat} {d : Nat} {ob : Ob} {M1 M : Mem} (h : neg (inN d ks) = true) (g : AgM ks M1 M) : AgM ks ((d, ob) :: del d M1) M := fun k hk => by
 have hne : k ≠ d := fun e => by subst e; rw [hk] at h; cases h
 have hb : Nat.beq d k = false := by cases q : Nat.beq d k with
  | false => rfl
  | true => exact absurd (Nat.eq_of_beq_eq_true q).symm hne
 simp only [go, hb, cond_false]
 rw [go_del_ne hne]
 exact g k hk
theorem src_frame {ks : List Nat} {M M' : Mem} {x : V} {ev : List Ev} {t : T} {m : List t.den} (h : srcOf M x = some (.dat ev M' t m)) (he : offL ks ev = true) : AgM ks M' M := by
 unfold srcOf at h
 split at h
 ·cases h
 ·cases h; exact AgM.refl _ _
 ·split at h
  ·cases h
  ·split at h
   ·cases h
    simp only [offL, nob_eq, Bool.and_eq_true, offE] at he
    exact ag_del he.1
   ·cases h
    simp only [offL, nob_eq, Bool.and_eq_true, offE] at he
    exact ag_del he.1
   ·cases h
  ·cases h
 ·cases h
theorem own_frame {ks : List Nat} {b k j : Nat} {e e' : O} {l : List e.strip.den} {m : List e'.strip.den} {ev : List Ev} {M1 M0 M : Mem} {vc : List Prop} {v : V} {e2 : List Ev} {M2 : Mem} (h : appOwn b k e l j e' m ev M1 M0 = ⟨vc, v, e2, M2⟩) (hv : allP vc) (he : offL ks e2 = true) (g : offL ks ev = true -> AgM ks M1 M) : AgM ks M2 M := by
 unfold appOwn at h
 split at h
 ·simp only [Rs.mk.injEq] at h
  obtain ⟨_, _, rfl, rfl⟩ := h
  obtain ⟨h1, h2⟩ := off_ap he
  simp only [offL, nob_eq, Bool.and_eq_true, offE] at h2
  exact ag_hd h2.2.1 ((ag_del h2.1).trans (g h1))
 ·split at h
  ·simp only [Rs.mk.injEq] at h
   obtain ⟨_, _, rfl, rfl⟩ := h
   obtain ⟨h1, h2⟩ := off_ap he
   simp only [offL, nob_eq, Bool.and_eq_true, offE] at h2
   exact ag_hd h2.2.1 ((ag_del h2.1).trans (g h1))
  ·exact (bad_no h hv).elim
theorem dat_frame {ks : List Nat} {b k : Nat} {e : O} {l : List e.strip.den} {t : T} {m : List t.den} {ev : List Ev} {M1 M0 M : Mem} {vc : List Prop} {v : V} {e2 : List Ev} {M2 : Mem} (h : appDat b k e l t m ev M1 M0 = ⟨vc, v, e2, M2⟩) (hv : allP vc) (he : offL ks e2 = true) (g : offL ks ev = true -> AgM ks M1 M) : AgM ks M2 M := by
 unfold appDat at h
 split at h
 ·simp only [Rs.mk.injEq] at h
  obtain ⟨_, _, rfl, rfl⟩ := h
  obtain ⟨h1, h2⟩ := off_ap he
  simp only [offL, nob_eq, Bool.and_eq_true, offE] at h2
  exact ag_hd h2.1 (g h1)
 ·exact (bad_no h hv).elim
theorem app_frame {ks : List Nat} {B : Tab} {dst : Option Nat} {t : TypeId} {s x : V} {M : Mem} {vc : List Prop} {v : V} {e : List Ev} {M1 : Mem} (h : evApp B dst t s x M = ⟨vc, v, e, M1⟩) (hv : allP vc) (he : offL ks e = true) : AgM ks M1 M := by
 unfold evApp at h
 split at h
 ·rename_i el d src _ hsrc
  cases hb : allT [(B.τ t).ok, (B.τ el).ok, neg (Nat.beq (B.τ el).bytes 0), B.z el, beqN (B.σ el).size (B.τ el).size] with
  | false => rw [hb] at h; exact (bad_no h hv).elim
  | true =>
   rw [hb] at h
   simp only [cond_true] at h
   split at h
   ·split at h
    ·cases h; exact AgM.refl _ _
    ·rename_i j e' m
     cases hc : allT [okId j d, beqN e'.strip.size (B.τ el).size] with
     | false => rw [hc] at h; exact (bad_no h hv).elim
     | true =>
      rw [hc] at h
      simp only [cond_true, Rs.mk.injEq] at h
      obtain ⟨_, _, rfl, rfl⟩ := h
      simp only [offL, nob_eq, Bool.and_eq_true, offE] at he
      exact ag_hd he.2.1 (ag_del he.1)
    ·rename_i ev M' t' m
     cases hc : beqN t'.size (B.τ el).size with
     | false => rw [hc] at h; exact (bad_no h hv).elim
     | true =>
      rw [hc] at h
      simp only [cond_true, Rs.mk.injEq] at h
      obtain ⟨_, _, rfl, rfl⟩ := h
      obtain ⟨h1, h2⟩ := off_ap he
      simp only [offL, nob_eq, Bool.and_eq_true, offE] at h2
      exact ag_hd h2.1 (src_frame hsrc h1)
   ·rename_i k π
    split at h
    ·rename_i o l _
     cases hc : allT [beqN o.strip.size (B.τ el).size, Nat.ble (Nat.succ k) gid] with
     | false => rw [hc] at h; exact (bad_no h hv).elim
     | true =>
      rw [hc] at h
      simp only [cond_true] at h
      split at h
      ·cases h; exact AgM.refl _ _
      ·rename_i j e' m
       cases hd : neg (okId j k) with
       | true => rw [hd] at h; exact (bad_no h hv).elim
       | false =>
        rw [hd] at h
        refine own_frame h hv he fun h1 => ?_
        simp only [offL, nob_eq, Bool.and_eq_true, offE] at h1
        exact ag_del h1.1
      ·split at h
       ·refine dat_frame h hv he fun h1 => ?_
        obtain ⟨h2, h3⟩ := off_ap h1
        simp only [offL, nob_eq, Bool.and_eq_true, offE] at h3
        exact (ag_del h3.1).trans (src_frame hsrc h2)
       ·exact (bad_no h hv).elim
    ·rename_i ob _ _
     split at h
     ·rename_i o l ob' _ _
      cases hc : allT [beqN o.strip.size (B.τ el).size, neg (Nat.beq d k), Nat.ble (Nat.succ k) gid] with
      | false => rw [hc] at h; exact (bad_no h hv).elim
      | true =>
       rw [hc] at h
       simp only [cond_true] at h
       split at h
       ·cases h; exact AgM.refl _ _
       ·rename_i j e' m
        cases hd : allT [okId j k, okId j d] with
        | false => rw [hd] at h; exact (bad_no h hv).elim
        | true =>
         rw [hd] at h
         refine own_frame h hv he fun h1 => ?_
         simp only [offL, nob_eq, Bool.and_eq_true, offE] at h1
         exact ag_put h1.1
       ·split at h
        ·refine dat_frame h hv he fun h1 => ?_
         obtain ⟨h2, h3⟩ := off_ap h1
         simp only [offL, nob_eq, Bool.and_eq_true, offE] at h3
         exact (ag_put h3.1).trans (src_frame hsrc h2)
        ·exact (bad_no h hv).elim
     ·split at h
      ·rename_i o l _ _ _ ob' _
       cases hc : allT [beqN o.strip.size (B.τ el).size, neg (Nat.beq d k), Nat.ble (Nat.succ k) gid] with
       | false => rw [hc] at h; exact (bad_no h hv).elim
       | true =>
        rw [hc] at h
        simp only [cond_true] at h
        split at h
        ·exact (bad_no h hv).elim
        ·rename_i j e' m
         cases hd : allT [okId j k, okId j d] with
         | false => rw [hd] at h; exact (bad_no h hv).elim
         | true =>
          rw [hd] at h
          refine own_frame h hv he fun h1 => ?_
          simp only [offL, nob_eq, Bool.and_eq_true, offE] at h1
          exact ag_put h1.1
        ·split at h
         ·refine dat_frame h hv he fun h1 => ?_
          obtain ⟨h2, h3⟩ := off_ap h1
          simp only [offL, nob_eq, Bool.and_eq_true, offE] at h3
          exact (ag_put h3.1).trans (src_frame hsrc h2)
         ·exact (bad_no h hv).elim
      ·exact (bad_no h hv).elim
     ·exact (bad_no h hv).elim
    ·exact (bad_no h hv).elim
   ·exact (bad_no h hv).elim
 ·exact (bad_no h hv).elim
theorem convRef_frame {ks : List Nat} {k r : Nat} {ρ : Path} {M : Mem} {q : Ob} {e : List Ev} {M' : Mem} (h : convRef k r ρ M = some (q, e, M')) (he : offL ks e = true) : AgM ks M' M := by
 unfold convRef at h
 cases hb : neg (okId r k) with
 | true => rw [hb] at h; cases h
 | false =>
  rw [hb] at h
  simp only [cond_false] at h
  split at h
  ·split at h
   ·split at h
    ·cases h
     simp only [offL, nob_eq, Bool.and_eq_true, offE] at he
     exact ag_del he.1
    ·cases hi : hasIx ρ with
     | true =>
      rw [hi] at h
      simp only [cond_true, Option.some.injEq, Prod.mk.injEq] at h
      obtain ⟨_, rfl, rfl⟩ := h
      simp only [offL, nob_eq, Bool.and_eq_true, offE] at he
      exact ag_del he.1
     | false =>
      rw [hi] at h
      simp only [cond_false] at h
      split at h
      ·simp only [Option.some.injEq, Prod.mk.injEq] at h
       obtain ⟨_, rfl, rfl⟩ := h
       simp only [offL, nob_eq, Bool.and_eq_true, offE] at he
       exact ag_put he.1
      ·cases h
   ·cases h
  ·cases h
theorem convAd_frame {ks : List Nat} {k r : Nat} {ρ : Path} {M : Mem} {q : Ob} {e : List Ev} {M' : Mem} (h : convAd k r ρ M = some (q, e, M')) (he : offL ks e = true) : AgM ks M' M := by
 unfold convAd at h
 cases hb : neg (okId r k) with
 | true => rw [hb] at h; cases h
 | false =>
  rw [hb] at h
  simp only [cond_false] at h
  split at h
  ·cases h
   simp only [offL, nob_eq, Bool.and_eq_true, offE] at he
   exact ag_del he.1
  ·split at h
   ·cases h
    simp only [offL, nob_eq, Bool.and_eq_true, offE] at he
    exact ag_del he.1
   ·cases h
  ·cases h
theorem conv_one {ks : List Nat} {k : Nat} {t : T} {v : V} {M : Mem} {q : Ob} {e : List Ev} {M' : Mem} (ht : ∀ a b, t = .p a b -> ∀ x y, v ≠ .p x y) (h : conv k t v M = some (q, e, M')) (he : offL ks e = true) : AgM ks M' M := by
 cases v with
 | p a b => cases t with
  | p t s => exact absurd rfl (ht _ _ rfl _ _)
  | _ => simp [conv] at h
 | u => cases t <;> simp only [conv] at h <;> cases h <;> exact AgM.refl _ _
 | d _ _ => cases t <;> simp only [conv] at h <;> cases h <;> exact AgM.refl _ _
 | nl => cases t <;> simp only [conv] at h <;> cases h <;> exact AgM.refl _ _
 | np => cases t <;> simp only [conv] at h <;> cases h <;> exact AgM.refl _ _
 | fn f v => cases v <;> cases t <;> simp only [conv] at h <;> cases h <;> exact AgM.refl _ _
 | ref r ρ => cases t <;> simp only [conv] at h <;> exact convRef_frame h he
 | ad r ρ => cases t <;> simp only [conv] at h <;> exact convAd_frame h he
 | _ => cases t <;> simp only [conv] at h <;> cases h
theorem conv_frame {ks : List Nat} {k : Nat} : (t : T) -> (v : V) -> (M : Mem) -> (q : Ob) -> (e : List Ev) -> (M' : Mem) -> conv k t v M = some (q, e, M') -> offL ks e = true -> AgM ks M' M
 | .p t s, v, M, q, e, M', h, he => by
  by_cases hv : ∃ x y, v = .p x y
  ·obtain ⟨x, y, rfl⟩ := hv
   simp only [conv] at h
   split at h
   ·rename_i q1 e1 M1 h1
    split at h
    ·rename_i q2 e2 M2 h2
     cases h
     obtain ⟨g1, g2⟩ := off_ap he
     exact (conv_frame s _ _ _ _ _ h2 g2).trans (conv_frame t _ _ _ _ _ h1 g1)
    ·cases h
   ·cases h
  ·exact conv_one (fun _ _ _ x y e => hv ⟨x, y, e⟩) h he
 | .int _, _, _, _, _, _, h, he => conv_one (fun _ _ e => by cases e) h he
 | .bool, _, _, _, _, _, h, he => conv_one (fun _ _ e => by cases e) h he
 | .str, _, _, _, _, _, h, he => conv_one (fun _ _ e => by cases e) h he
 | .u, _, _, _, _, _, h, he => conv_one (fun _ _ e => by cases e) h he
 | .sl _, _, _, _, _, _, h, he => conv_one (fun _ _ e => by cases e) h he
 | .pt _, _, _, _, _, _, h, he => conv_one (fun _ _ e => by cases e) h he
 | .fn _ _, _, _, _, _, _, h, he => conv_one (fun _ _ e => by cases e) h he
 | .ifc _ _, _, _, _, _, _, h, he => conv_one (fun _ _ e => by cases e) h he
 | .mp _ _, _, _, _, _, _, h, he => conv_one (fun _ _ e => by cases e) h he
 | .op _, _, _, _, _, _, h, he => conv_one (fun _ _ e => by cases e) h he
 | .ns _, _, _, _, _, _, h, he => conv_one (fun _ _ e => by cases e) h he
 | .any, _, _, _, _, _, h, he => conv_one (fun _ _ e => by cases e) h he
termination_by t => SizeOf.sizeOf t
theorem convW0_frame {ks : List Nat} {k : Nat} {o : O} {v : V} {M : Mem} {x : o.strip.den} {e : List Ev} {M' : Mem} (h : convW0 k o v M = some (x, e, M')) (he : offL ks e = true) : AgM ks M' M := by
 unfold convW0 at h
 split at h
 ·generalize hz : frzV M v = z at h
  obtain ⟨e1, M1⟩ := z
  simp only at h
  split at h
  ·cases h
   have := frzV_frame (ks := ks) v M (by rw [hz]; exact he)
   rw [hz] at this
   exact this
  ·cases h
 ·split at h
  ·rename_i q e1 M1 h1
   split at h
   ·cases h
    exact conv_frame _ _ _ _ _ _ h1 he
   ·cases h
  ·cases h
theorem convW_frame {ks : List Nat} {k : Nat} {o : O} {v : V} {M : Mem} {x : o.strip.den} {e : List Ev} {M' : Mem} (h : convW k o v M = some (x, e, M')) (he : offL ks e = true) : AgM ks M' M := by
 unfold convW at h
 split at h
 ·split at h
  ·rename_i h1
   cases h
   exact convW0_frame h1 he
  ·cases h
 ·exact convW0_frame h he
theorem convEls_frame {ks : List Nat} {k : Nat} {o : O} : ∀ (vs : List V) (ev : List Ev) (M : Mem) (l : List o.strip.den) (e : List Ev) (M' : Mem), convEls k o ev vs M = some (l, e, M') -> offL ks e = true -> AgM ks M' M /\ offL ks ev = true
 | [], ev, M, l, e, M', h, he => by
  simp only [convEls] at h
  cases h
  exact ⟨AgM.refl _ _, he⟩
 | v :: r, ev, M, l, e, M', h, he => by
  simp only [convEls] at h
  split at h
  ·rename_i x e1 M1 h1
   split at h
   ·rename_i l2 e2 M2 h2
    cases h
    obtain ⟨g1, g2⟩ := convEls_frame r _ _ _ _ _ h2 he
    obtain ⟨g3, g4⟩ := off_ap g2
    exact ⟨g1.trans (convW_frame h1 g4), g3⟩
   ·cases h
  ·cases h
theorem ag_cons {ks : List Nat} {d : Nat} {ob : Ob} {M1 M : Mem} (h : neg (inN d ks) = true) (g : AgM ks M1 M) : AgM ks ((d, ob) :: M1) M := fun k hk => by
 have hne : k ≠ d := fun e => by subst e; rw [hk] at h; cases h
 have hb : Nat.beq d k = false := by cases q : Nat.beq d k with
  | false => rfl
  | true => exact absurd (Nat.eq_of_beq_eq_true q).symm hne
 simp only [go, hb, cond_false]
 exact g k hk
theorem lit_frame {ks : List Nat} {B : Tab} {t : TypeId} {n : Nat} {ps : List (Nat × Operand)} {f : Operand -> V} {d : Option Nat} {M : Mem} {vc : List Prop} {v : V} {e : List Ev} {M1 : Mem} (h : evLit B t n ps f d M = ⟨vc, v, e, M1⟩) (hv : allP vc) (he : offL ks e = true) : AgM ks M1 M := by
 unfold evLit at h
 split at h
 ·rename_i k el _
  split at h
  ·cases hb : allT [(B.τ t).ok, (B.τ el).ok, B.z el, Nat.ble (Nat.mul n (B.τ el).size) 16777216, Nat.ble n nb, beqN (B.σ el).size (B.τ el).size] with
   | false => rw [hb] at h; exact (bad_no h hv).elim
   | true =>
    rw [hb] at h
    simp only [cond_true] at h
    split at h
    ·cases h; exact AgM.refl _ _
    ·split at h
     ·split at h
      ·rename_i hc
       cases h
       simp only [offL, nob_eq, Bool.and_eq_true, offE] at he
       exact ag_cons he.1 ((convEls_frame _ _ _ _ _ _ hc he.2).1.trans (ag_del he.1))
      ·split at h
       ·rename_i hc
        cases h
        simp only [offL, nob_eq, Bool.and_eq_true, offE] at he
        exact ag_cons he.1 ((convEls_frame _ _ _ _ _ _ hc he.2).1.trans (ag_del he.1))
       ·exact (bad_no h hv).elim
     ·exact (bad_no h hv).elim
  ·exact (bad_no h hv).elim
 ·exact (bad_no h hv).elim
theorem call_frame {ks : List Nat} {o : Oper} {env : Env} {M M1 : Mem} {vc : List Prop} {v : V} {e : List Ev} (hc : callF o = true) (h : evR B Φ o env M = ⟨vc, v, e, M1⟩) (hv : allP vc) (he : offL ks e = true) : AgM ks M1 M := by
 unfold callF at hc
 split at hc
 ·rename_i c hop
  split at hc
  ·rename_i cx hcal
   have key : ∀ q : Rs, evOp B Φ o (fun x => (rd env x).strip) M = q -> allP q.vc -> offL ks q.ev = true -> AgM ks q.M M := fun q hq hv he => by
    obtain ⟨vc, v, e, M1⟩ := q
    simp only [evOp, hop, hcal] at hq
    split at hq
    ·split at hq
     ·exact evCall_frame hq hv he
     ·exact (bad_no hq hv).elim
    ·exact (bad_no hq hv).elim
   unfold evR at h
   rw [hop] at h
   simp only [Rs.mk.injEq] at h
   obtain ⟨rfl, rfl, rfl, rfl⟩ := h
   exact key _ rfl (allP_needs hv) he
  ·rename_i hcal
   have key : ∀ q : Rs, evOp B Φ o (fun x => (rd env x).strip) M = q -> allP q.vc -> offL ks q.ev = true -> AgM ks q.M M := fun q hq hv he => by
    obtain ⟨vc, v, e, M1⟩ := q
    simp only [evOp, hop, hcal] at hq
    split at hq
    ·rename_i t t' _ _
     cases hb : Nat.beq t t' with
     | false => rw [hb] at hq; exact (bad_no hq hv).elim
     | true => rw [hb] at hq; exact app_frame hq hv he
    ·exact (bad_no hq hv).elim
   unfold evR at h
   rw [hop] at h
   simp only [Rs.mk.injEq] at h
   obtain ⟨rfl, rfl, rfl, rfl⟩ := h
   exact key _ rfl (allP_needs hv) he
  ·cases hc
 ·rename_i t n ps hop
  unfold evR at h
  rw [hop] at h
  simp only [Rs.mk.injEq] at h
  obtain ⟨rfl, rfl, rfl, rfl⟩ := h
  have key : ∀ q : Rs, evOp B Φ o (fun x => (rd env x).strip) M = q -> allP q.vc -> offL ks q.ev = true -> AgM ks q.M M := fun q hq hv he => by
   obtain ⟨vc, v, e, M1⟩ := q
   simp only [evOp, hop] at hq
   exact lit_frame hq hv he
  exact key _ rfl (allP_needs hv) he
 ·cases hc
theorem ks_ag {ks : List Nat} {M' M0 : Mem} (hM : ∀ k, inN k ks = true -> go M0 k ≠ none -> go M' k = go M0 k) : ∀ v : V, ksV ks v = true -> livV M0 v = true -> agV M' M0 v
 | .d _ _, _, _ => trivial
 | .nl, _, _ => trivial
 | .np, _, _ => trivial
 | .u, _, _ => trivial
 | .p a b, h, g => by
  simp only [ksV, livV, nob_eq, Bool.and_eq_true] at h g
  exact ⟨ks_ag hM a h.1 g.1, ks_ag hM b h.2 g.2⟩
 | .ag v, h, g => ks_ag hM v h g
 | .fn f v, h, g => ks_ag hM v h g
 | .bx v, h, g => ks_ag hM v h g
 | .ref k π, h, g => by
  have hn : go M0 k ≠ none := fun e => by simp [livV, e, isN, neg] at g
  exact ⟨hM k h hn, hn⟩
 | .ad k π, h, g => by
  have hn : go M0 k ≠ none := fun e => by simp [livV, e, isN, neg] at g
  exact ⟨hM k h hn, hn⟩
 | .any, h, _ => by cases h
 | .tup _, h, _ => by cases h
 | .gd _ _ _ _, h, _ => by cases h
 | .ifc _ _, h, _ => by cases h
theorem ks_ev1 {ks : List Nat} (e : Ev) (he : offE ks e = true) : ∀ v : V, ksV ks v = true -> v.ev e = v
 | .d _ _, _ => rfl
 | .nl, _ => rfl
 | .np, _ => rfl
 | .u, _ => rfl
 | .p a b, h => by
  simp only [ksV, nob_eq, Bool.and_eq_true] at h
  simp only [V.ev, ks_ev1 e he a h.1, ks_ev1 e he b h.2]
 | .ag v, h => by simp only [V.ev, ks_ev1 e he v h]
 | .fn f v, h => by simp only [V.ev, ks_ev1 e he v h]
 | .bx v, h => by simp only [V.ev, ks_ev1 e he v h]
 | .ref k π, h => off_ref h e he
 | .ad k π, h => off_ad h e he
 | .any, h => by cases h
 | .tup _, h => by cases h
 | .gd _ _ _ _, h => by cases h
 | .ifc _ _, h => by cases h
theorem ks_evs {ks : List Nat} : ∀ (e : List Ev), offL ks e = true -> ∀ v : V, ksV ks v = true -> v.evs e = v
 | [], _, _, _ => rfl
 | x :: e, he, v, hv => by
  simp only [offL, nob_eq, Bool.and_eq_true] at he
  simp only [V.evs, ks_ev1 x he.1 v hv]
  exact ks_evs e he.2 v hv
theorem ksOps_mem {ks : List Nat} {env : Env} : ∀ {l : List Operand}, ksOps ks env l = true -> ∀ x ∈ l, ksV ks (rd env x) = true
 | [], _, x, hx => by cases hx
 | a :: l, h, x, hx => by
  simp only [ksOps, nob_eq, Bool.and_eq_true] at h
  rcases List.mem_cons.1 hx with e | e
  ·subst e; exact h.1
  ·exact ksOps_mem h.2 x e
theorem ksOps_same {ks : List Nat} {env env' : Env} : ∀ {l : List Operand}, (∀ x ∈ l, rd env x = rd env' x) -> ksOps ks env l = ksOps ks env' l
 | [], _ => rfl
 | a :: l, h => by
  have h1 : ksOps ks env l = ksOps ks env' l := ksOps_same fun x hx => h x (List.mem_cons_of_mem _ hx)
  simp only [ksOps, h a (List.mem_cons_self ..), h1]
def FlI (B : Tab) (Φ : FuncId -> Option Ct) (ks as : List Nat) (x : Oper) (env : Env) (M : Mem) (y : V) : Prop :=
 (∃ t0, (x.op = .move (.tmp t0) ∨ x.op = .assign (.tmp t0)) /\ isGd (gt env t0) = false /\ gt env t0 = y) ∨ (∃ t0 k v, x.op = .extract (.tmp t0) k /\ gt env t0 = .tup v /\ nth v k = some y) ∨
 (datK x.op = true /\ ksOps ks env (opds x.op) = true /\ ksV ks y = true /\ ∃ vc, allP vc /\ ∀ M', AgM ks M' M -> evR B Φ x env M' = ⟨vc, y, [], M'⟩) ∨
 (∃ t t0 k, x.op = .load t (.tmp t0) /\ gt env t0 = .bx (.ad k [.de]) /\ y = .ad k [.de] /\ inN k as = true /\ bxLd (B.τ t) = true)
theorem isGd_ev (e : Ev) (v : V) (h : isGd v = false) : isGd (v.ev e) = false := by
 cases v with
 | ref k π => simp only [V.ev]; exact isGd_ref k π e
 | ad k π => simp only [V.ev]; exact isGd_ad k π e
 | gd _ _ _ _ => cases h
 | _ => rfl
theorem isGd_evs : ∀ (e : List Ev) (v : V), isGd v = false -> isGd (v.evs e) = false
 | [], _, h => h
 | x :: e, v, h => by simp only [V.evs]; exact isGd_evs e _ (isGd_ev x v h)
theorem nth_ev (e : Ev) : ∀ (v : V) (k : Nat) (y : V), nth v k = some y -> nth (v.ev e) k = some (y.ev e)
 | .p a b, 0, y, h => by simp only [nth, Option.some.injEq] at h; subst h; rfl
 | .p a b, k + 1, y, h => by simp only [nth] at h; simp only [V.ev, nth]; exact nth_ev e b k y h
 | .any, _, _, h => by simp [nth] at h
 | .nl, _, _, h => by simp [nth] at h
 | .np, _, _, h => by simp [nth] at h
 | .u, _, _, h => by simp [nth] at h
 | .d _ _, _, _, h => by simp [nth] at h
 | .ref _ _, _, _, h => by simp [nth] at h
 | .ad _ _, _, _, h => by simp [nth] at h
 | .ag _, _, _, h => by simp [nth] at h
 | .tup _, _, _, h => by simp [nth] at h
 | .gd _ _ _ _, _, _, h => by simp [nth] at h
 | .fn _ _, _, _, h => by simp [nth] at h
 | .ifc _ _, _, _, h => by simp [nth] at h
 | .bx _, _, _, h => by simp [nth] at h
theorem nth_evs : ∀ (e : List Ev) (v : V) (k : Nat) (y : V), nth v k = some y -> nth (v.evs e) k = some (y.evs e)
 | [], _, _, _, h => h
 | x :: e, v, k, y, h => by simp only [V.evs]; exact nth_evs e _ k _ (nth_ev x v k y h)
theorem tup_evs : ∀ (e : List Ev) (v : V), (V.tup v).evs e = .tup (v.evs e)
 | [], _ => rfl
 | x :: e, v => by simp only [V.evs, V.ev]; exact tup_evs e _
theorem keep_ad {as : List Nat} {k : Nat} (hk : inN k as = true) (x : Ev) (h : keepE as x = true) : (V.ad k [.de]).ev x = .ad k [.de] := by
 have ne : ∀ {j : Nat}, neg (inN j as) = true -> Nat.beq k j = false := fun {j} hj => by
  cases hb : Nat.beq k j with
  | false => rfl
  | true =>
   have := Nat.eq_of_beq_eq_true hb
   subst this
   rw [hk] at hj; cases hj
 cases x with
 | kl r => simp only [keepE] at h; simp only [V.ev, Ev.ad, ne h, cond_false]
 | fz r ob => simp only [keepE] at h; simp only [V.ev, Ev.ad, ne h, cond_false]
 | mv r k' => simp only [keepE] at h; simp only [V.ev, Ev.ad, ne h, cond_false]
 | un r k' => simp only [keepE] at h; simp only [V.ev, Ev.ad, ne h, cond_false]
 | cut r o o' =>
  simp only [keepE, orb_eq, Bool.or_eq_true] at h
  simp only [V.ev, Ev.ad]
  rcases h with h | h
  ·rw [ne h]; rfl
  ·rw [h]; cases Nat.beq k r <;> rfl
theorem keep_ads {as : List Nat} {k : Nat} (hk : inN k as = true) : ∀ e : List Ev, keepL as e = true -> (V.ad k [.de]).evs e = .ad k [.de]
 | [], _ => rfl
 | x :: e, h => by
  simp only [keepL, nob_eq, Bool.and_eq_true] at h
  simp only [V.evs, keep_ad hk x h.1]
  exact keep_ads hk e h.2
theorem bx_evs : ∀ (e : List Ev) (v : V), (V.bx v).evs e = .bx (v.evs e)
 | [], _ => rfl
 | x :: e, v => by simp only [V.evs, V.ev]; exact bx_evs e _
theorem FlI.look {ks as : List Nat} {x : Oper} {env : Env} {M M1 : Mem} {y : V} (h : FlI B Φ ks as x env M y) {env' : Env} {e : List Ev} (hkp : keepL as e = true) (hd : datK x.op = true -> offL ks e = true /\ AgM ks M1 M) (he : ∀ t0, Operand.tmp t0 ∈ x.op.operands -> gt env' t0 = (gt env t0).evs e) : FlI B Φ ks as x env' M1 (y.evs e) := by
 rcases h with ⟨t0, ho, hg, rfl⟩ | ⟨t0, k, v, ho, hv, hn⟩ | ⟨h1, h2, h3, vc, h4, h5⟩ | ⟨t, t0, k, ho, hv, rfl, hk, hb⟩
 rotate_left 3
 ·have he := he t0 (by simp [ho, Op.operands])
  refine .inr (.inr (.inr ⟨t, t0, k, ho, by rw [he, hv, bx_evs, keep_ads hk e hkp], keep_ads hk e hkp, hk, hb⟩))
 ·have he := he t0 (by rcases ho with ho | ho <;> simp [ho, Op.operands])
  exact .inl ⟨t0, ho, by rw [he]; exact isGd_evs e _ hg, he⟩
 ·have he := he t0 (by simp [ho, Op.operands])
  exact .inr (.inl ⟨t0, k, v.evs e, ho, by rw [he, hv, tup_evs], nth_evs e v k y hn⟩)
 ·have hr : ∀ q ∈ x.op.operands, rd env' q = rd env q := fun q hq => by
   cases q with
   | tmp t =>
    have hkq := ksOps_mem h2 _ (datK_opds h1 _ hq)
    simp only [rd] at hkq ⊢
    rw [he t hq, ks_evs e (hd h1).1 _ hkq]
   | const c => rfl
   | global g => rfl
   | func f => rfl
  refine .inr (.inr (.inl ⟨h1, ?_, by rw [ks_evs e (hd h1).1 y h3]; exact h3, vc, h4, fun M' hM => ?_⟩))
  ·rw [ksOps_same fun q hq => hr q (opds_sub x q hq)]; exact h2
  ·rw [evR_congr x hr, h5 M' fun k hk => (hM k hk).trans ((hd h1).2 k hk), ks_evs e (hd h1).1 y h3]
theorem FlI.run {ks as : List Nat} {x : Oper} {env : Env} {y : V} {M : Mem} (h : FlI B Φ ks as x env M y) : ∃ vc, allP vc /\ evR B Φ x env M = ⟨vc, y, [], M⟩ := by
 have ns : ∀ v : V, isGd v = false -> v.strip = v := fun v hv => by cases v <;> first | rfl | cases hv
 have nn : ∀ t, isGd (gt env t) = false -> needs (rd env) [.tmp t] = [] := fun t ht => by
  simp only [needs, rd]
  split
  ·rename_i e; rw [e] at ht; cases ht
  ·rfl
 rcases h with ⟨t0, ho, hg, rfl⟩ | ⟨t0, k, v, ho, hv, hn⟩ | ⟨h1, h2, h3, vc, h4, h5⟩ | ⟨t, t0, k, ho, hv, rfl, hk, hb⟩
 rotate_left 3
 ·have hg : isGd (gt env t0) = false := by rw [hv]; rfl
  have hs : (V.bx (.ad k [.de])).strip = .bx (.ad k [.de]) := rfl
  simp only [bxLd, allT_cons, allT_nil, Bool.and_true, Bool.and_eq_true, beqN_eq, beq_iff_eq, neg_eq, Bool.not_eq_true'] at hb
  refine ⟨[], trivial, ?_⟩
  simp only [evR, ho, evOp, opds, nn t0 hg, ap, rd, hv, hs, evLoadT, takL, pureR, evLoad, hb.1, hb.2.1, hb.2.2, sizeIs, V.size, aggV, good, allT_cons, allT_nil, Bool.and_true, beqN_eq, beq_self_eq_true, orb_eq, Bool.or_true, Bool.and_self, cond_true, cond_false]
 ·refine ⟨[], trivial, ?_⟩
  rcases ho with ho | ho <;> simp only [evR, ho, evOp, pureR, opds, nn t0 hg, ap, rd, ns _ hg]
 ·have hg : isGd (gt env t0) = false := by rw [hv]; rfl
  have hs : (V.tup v).strip = .tup v := rfl
  refine ⟨[], trivial, ?_⟩
  simp only [evR, ho, evOp, pureR, opds, nn t0 hg, ap, rd, hv, hs, evExt, hn, good]
 ·exact ⟨vc, h4, h5 M (AgM.refl ks M)⟩
theorem FlI.of {ks as : List Nat} {x : Oper} {env : Env} {M M' M1 : Mem} {vc : List Prop} {v : V} {e : List Ev} (hx : fltB x.op = true) (hn : ∀ t, isGd (gt env t) = false) (h : evR B Φ x env M = ⟨vc, v, e, M'⟩) (hv : allP vc) : FlI B Φ ks as x env M1 v := by
 have ns : ∀ v : V, isGd v = false -> v.strip = v := fun v hv => by cases v <;> first | rfl | cases hv
 unfold fltB at hx
 split at hx
 ·rename_i t0 ho
  simp only [evR, ho, evOp, pureR, rd, ns _ (hn t0), Rs.mk.injEq] at h
  exact .inl ⟨t0, .inl ho, hn t0, h.2.1⟩
 ·rename_i t0 ho
  simp only [evR, ho, evOp, pureR, rd, ns _ (hn t0), Rs.mk.injEq] at h
  exact .inl ⟨t0, .inr ho, hn t0, h.2.1⟩
 ·rename_i t0 k ho
  simp only [evR, ho, evOp, pureR, rd, ns _ (hn t0), Rs.mk.injEq] at h
  obtain ⟨h1, h2, _⟩ := h
  rw [← h1] at hv
  have hv := allP_needs hv
  unfold evExt at hv h2
  split at hv
  ·rename_i w hw
   split at hv
   ·rename_i y hy
    rw [hw] at h2
    simp only [hy, good] at h2
    exact .inr (.inl ⟨t0, k, w, ho, hw, by rw [← h2]; exact hy⟩)
   ·exact absurd hv (by simp [bad, allP])
  ·exact absurd hv (by simp [bad, allP])
 ·cases hx
section
variable {F : Fr} {all : Array Oper} {m : Nat} {E : Nat -> Env} {X N : Nat -> Mem} {M0 : Mem} {D R : Bool} {Ds : List Bool} {ks as : List Nat}
structure Hctx (D R : Bool) (Ds : List Bool) (ks as : List Nat) (B : Tab) (Φ : FuncId -> Option Ct) (all : Array Oper) (m : Nat) (E : Nat -> Env) (X N : Nat -> Mem) (M0 : Mem) : Prop where
 hb : backs 0 all.toList = true
 hm : m <= all.size
 ht : okFl D R all (masks [] all.toList) m = true
 hf : okFf all (masks [] all.toList) m = true
 hdr : okDraw all (masks [] all.toList) m = true
 hE : ∀ (j : Nat) (o : Oper), all[j]? = some o -> j < m -> ∃ d v vc ev, Hst (Ds.getD j false) ks as B Φ M0 o (E j) (E (j + 1)) (N j) (X j) (X (j + 1)) d v vc ev
 hX : X 0 = []
 h0 : ∀ t, noGdV (gt (E 0) t) = true
 hR : R = false -> ks = []
 hD : D = true -> ∀ i, i < m -> isFl all.size (masks [] all.toList) m i = true -> Ds.getD i false = true
structure Hsta (all : Array Oper) (m : Nat) (E : Nat -> Env) (N : Nat -> Mem) (M0 : Mem) (listed : Array Bool) (env : Env) (M : Mem) : Prop where
 a : ∀ t, (∀ (i : Nat) (o : Oper), all[i]? = some o -> isL listed i -> o.dst ≠ some t) -> gt env t = gt (E 0) t
 b : ∀ (i : Nat) (o : Oper) (t : Nat), all[i]? = some o -> isL listed i -> o.dst = some t -> gt env t = gt (E (i + 1)) t
 c : ∀ k, (∀ (i : Nat), i < all.size -> isL listed i -> k ∉ keysM (N i)) -> go M k = go M0 k
 d : ∀ (i : Nat) (k : Nat), i < all.size -> isL listed i -> k ∈ keysM (N i) -> go M k = go (N i) k
theorem Hctx.get (C : Hctx D R Ds ks as B Φ all m E X N M0) {i : Nat} (h : i < m) : all[i]? = some (all[i]'(Nat.lt_of_lt_of_le h C.hm)) := Array.getElem?_eq_getElem _
theorem Hctx.xs (C : Hctx D R Ds ks as B Φ all m E X N M0) : ∀ (j : Nat), j <= m -> ∀ k, (∀ i, i < j -> k ∈ keysM (N i) -> go (X j) k = go (N i) k /\ ∀ i', i' < j -> k ∈ keysM (N i') -> i' = i) /\ ((∀ i, i < j -> k ∉ keysM (N i)) -> go (X j) k = none)
 | 0, _, k => ⟨fun i h => by omega, fun _ => by rw [C.hX]; rfl⟩
 | j + 1, hj, k => by
  obtain ⟨d, v, vc, ev, H⟩ := C.hE j _ (C.get (by omega)) (by omega)
  obtain ⟨h1, h2⟩ := C.xs j (by omega) k
  rw [H.x, go_ap]
  by_cases hkj : k ∈ keysM (N j)
  ·have hn := noKey_go H.nX k hkj
   have none_old : ∀ i, i < j -> k ∉ keysM (N i) := fun i hi hk => by
    have := (h1 i hi hk).1
    rw [hn] at this
    exact keys_go.1 hk this.symm
   obtain ⟨ob, hob⟩ : ∃ ob, go (N j) k = some ob := by
    cases hg : go (N j) k with
    | none => exact absurd hg (keys_go.1 hkj)
    | some ob => exact ⟨ob, rfl⟩
   refine ⟨fun i hi hk => ?_, fun h => absurd hkj (h j (by omega))⟩
   have hij : i = j := by
    rcases Nat.lt_or_ge i j with h | h
    ·exact absurd hk (none_old i h)
    ·omega
   subst hij
   rw [hob]
   refine ⟨rfl, fun i' hi' hk' => ?_⟩
   rcases Nat.lt_or_ge i' i with h | h
   ·exact absurd hk' (none_old i' h)
   ·omega
  ·have hgn : go (N j) k = none := by
    cases hg : go (N j) k with
    | none => rfl
    | some ob => exact absurd (keys_go.2 (by rw [hg]; simp)) hkj
   rw [hgn]
   simp only
   refine ⟨fun i hi hk => ?_, fun h => h2 fun i hi => h i (by omega)⟩
   have hij : i < j := by
    rcases Nat.lt_or_ge i j with h | h
    ·exact h
    ·have : i = j := by omega
     subst this; exact absurd hk hkj
   refine ⟨(h1 i hij hk).1, fun i' hi' hk' => ?_⟩
   have hij' : i' < j := by
    rcases Nat.lt_or_ge i' j with h | h
    ·exact h
    ·have : i' = j := by omega
     subst this; exact absurd hk' hkj
   exact (h1 i hij hk).2 i' hij' hk'
theorem Hctx.uniq (C : Hctx D R Ds ks as B Φ all m E X N M0) {i j : Nat} {x y : Oper} {t : Nat} (hi : i < m) (hj : j < m) (hx : all[i]? = some x) (hy : all[j]? = some y) (h1 : x.dst = some t) (h2 : y.dst = some t) : i = j := by
 rcases Nat.decEq i j with h | h
 ·exact absurd h2 (okPair_dst (okDraw_spec C.hdr hi hj h hx hy) h1)
 ·exact h
theorem Hctx.gts (C : Hctx D R Ds ks as B Φ all m E X N M0) (j t : Nat) (hj : j <= m) :
  ((∀ (i : Nat) (o : Oper), all[i]? = some o -> i < j -> o.dst ≠ some t) -> gt (E j) t = gt (E 0) t) /\
  (∀ (i : Nat) (o : Oper), all[i]? = some o -> i < j -> o.dst = some t -> gt (E j) t = gt (E (i + 1)) t) := by
 have hm := C.hm
 have hlen : (all.toList.take m).length = m := by simp [hm]
 have take_lt : ∀ {i : Nat} {o : Oper}, (all.toList.take m)[i]? = some o -> i < m /\ all[i]? = some o := fun {i o} h => by
  have h1 := (List.getElem?_eq_some_iff.1 h).1
  rw [hlen] at h1
  rw [List.getElem?_take_of_lt h1, toList_get] at h
  exact ⟨h1, h⟩
 have lt_take : ∀ {i : Nat} {o : Oper}, i < m -> all[i]? = some o -> (all.toList.take m)[i]? = some o := fun {i o} h1 h => by
  rw [List.getElem?_take_of_lt h1, toList_get]; exact h
 have hw : ∀ (j : Nat) (o : Oper), (all.toList.take m)[j]? = some o -> E (j + 1) = wr o.dst (match all[j]? with | some o => (match o.dst with | some d => gt (E (j + 1)) d | none => .any) | none => .any) (E j) := fun j o hj => by
  obtain ⟨h1, h2⟩ := take_lt hj
  obtain ⟨d, v, vc, ev, H⟩ := C.hE j o h2 h1
  rw [h2]
  simp only [H.dst, wr]
  rw [H.he]
  simp only [gt_cons, if_true]
 obtain ⟨a1, a2⟩ := steps_gt hw j t (by omega)
 refine ⟨fun h => a1 fun i o hi => h i o (take_lt hi).2, fun i o hi hlt hd => ?_⟩
 rw [a2 i o (lt_take (by omega) hi) hlt hd fun i' o' hi' hl' hd' => C.uniq (take_lt hi').1 (by omega) (take_lt hi').2 hi hd' hd]
 simp only [hi, hd]
theorem Hctx.step (C : Hctx D R Ds ks as B Φ all m E X N M0) {listed : Array Bool} (hs : listed.size = all.size) (hl : ∀ i, i < all.size -> isL listed i -> i < m) (hdn : Down all listed) {env : Env} {M : Mem} (S : Hsta all m E N M0 listed env M) {p : Ow} {a : Act} {w : World} (hst : St F p env M a w)
  {j : Nat} {o : Oper} (ho : all[j]? = some o) (hjm : j < m) (hnl : ¬ isL listed j)
  (hrd : ∀ e ∈ o.after, Region.binds .any e = true -> isL listed e.on) : tw B Φ (toL all) [o] env M (fun env' M' => Hsta all m E N M0 (listed.setIfInBounds j true) env' M') := by
 have hjs := (Array.getElem?_eq_some_iff.1 ho).1
 have hset : ∀ i, isL (listed.setIfInBounds j true) i ↔ i = j ∨ isL listed i := fun i => isL_set (by rw [hs]; exact hjs)
 have hlm : ∀ {i : Nat} {x : Oper}, all[i]? = some x -> isL listed i -> i < m := fun h1 h2 => hl _ (Array.getElem?_eq_some_iff.1 h1).1 h2
 have hlook : ∀ t ∈ o.looksAt all, gt env t = gt (E j) t := fun t htl => by
  by_cases hw : ∃ (i : Nat) (x : Oper), all[i]? = some x /\ i < m /\ x.dst = some t
  ·obtain ⟨i, x, e1, e2, e3⟩ := hw
   by_cases hij : i < j
   ·have hpair := okPair_look (okDraw_spec C.hdr e2 hjm (by omega) e1 ho) e3 htl
    rw [if_pos hij] at hpair
    have hli := mask_listed hdn C.hb j o ho hrd i hpair
    rw [S.b i x t e1 hli e3, (C.gts j t (by omega)).2 i x e1 hij e3]
   ·have hnli : ¬ isL listed i := fun hli => by
     by_cases e : i = j
     ·subst e; exact hnl hli
     ·have hpair := okPair_look (okDraw_spec C.hdr e2 hjm e e1 ho) e3 htl
      rw [if_neg hij] at hpair
      exact hnl (mask_listed hdn C.hb i x e1 (fun e' he' hb' => hdn i x e1 hli e' he' hb') j hpair)
    rw [S.a t fun i' o' h1' h2' h3' => hnli (C.uniq (hlm h1' h2') e2 h1' e1 h3' e3 ▸ h2')]
    exact ((C.gts j t (by omega)).1 fun i' o' h1' h2' h3' => hij (C.uniq (by omega) e2 h1' e1 h3' e3 ▸ h2')).symm
  ·rw [S.a t fun i x h1 h2 h3 => hw ⟨i, x, h1, hlm h1 h2, h3⟩]
   exact ((C.gts j t (by omega)).1 fun i x h1 h2 h3 => hw ⟨i, x, h1, by omega, h3⟩).symm
 have hrdE : ∀ x ∈ o.op.operands, rd env x = rd (E j) x := fun x hx => by
  cases x with
  | tmp t => exact hlook t (List.mem_append_left _ (List.mem_filterMap.2 ⟨.tmp t, by simpa using hx, rfl⟩))
  | const c => rfl
  | global g => rfl
  | func f => rfl
 obtain ⟨d, v, vc, ev, H⟩ := C.hE j o ho hjm
 have hkey : ∀ k, go (ap (X j) M0) k ≠ none -> go M k ≠ none -> go M k = go (ap (X j) M0) k := fun k h1 h2 => by
  obtain ⟨x1, x2⟩ := C.xs j (by omega) k
  rw [go_ap] at h1 ⊢
  by_cases hw : ∃ i, i < m /\ k ∈ keysM (N i)
  ·obtain ⟨i, hi, hk⟩ := hw
   have gone : go M0 k = none := by
    obtain ⟨d', v', vc', ev', H'⟩ := C.hE i _ (C.get hi) hi
    exact noKey_go H'.n0 k hk
   have one : ∀ i', i' < m -> k ∈ keysM (N i') -> i' = i := fun i' hi' hk' => ((C.xs m (Nat.le_refl _) k).1 i hi hk).2 i' hi' hk'
   have hli : isL listed i := Classical.byContradiction fun hn => h2 (by
    rw [S.c k fun i' hi' hl' hk' => hn (one i' (hl i' hi' hl') hk' ▸ hl'), gone])
   rw [S.d i k (Nat.lt_of_lt_of_le hi C.hm) hli hk]
   by_cases hij : i < j
   ·rw [(x1 i hij hk).1]
    cases hg : go (N i) k with
    | none => exact absurd hg (keys_go.1 hk)
    | some ob => rfl
   ·rw [x2 fun i' hi' hk' => hij (one i' (by omega) hk' ▸ hi'), gone] at h1
    exact absurd rfl h1
  ·rw [x2 fun i hi hk => hw ⟨i, by omega, hk⟩]
   simp only
   exact S.c k fun i hi hli hk => hw ⟨i, hl i hi hli, hk⟩
 have agr : livOps (ap (X j) M0) (E j) (opds o.op) = true -> ∀ x ∈ opds o.op, agV M (ap (X j) M0) (rd (E j) x) := fun hlv x hx => by
  by_cases hxt : ∃ t, x = .tmp t
  ·obtain ⟨t, rfl⟩ := hxt
   have hrel := hst.slots t
   have e1 : gt env t = gt (E j) t := by simpa only [rd] using hrdE (.tmp t) (opds_sub o _ hx)
   rw [e1] at hrel
   exact agS_of hkey _ (livOps_mem hlv _ hx) _ hrel
  ·exact rd_no x fun t h => hxt ⟨t, h⟩
 have hr : evR B Φ o env M = ⟨vc, v, ev, ap (N j) (delL (keysM (N j)) M)⟩ := by
  rw [evR_congr o hrdE]
  obtain ⟨N', hr, hN⟩ := H.r
  have hkl := H.kl
  rw [hN] at hkl ⊢
  exact hop_ok H.k agr hr H.hv hkl
 have hdis : ∀ i, i < all.size -> isL listed i -> ∀ k, k ∈ keysM (N i) -> k ∉ keysM (N j) := fun i hi hli k h1 h2 => by
  have him := hl i hi hli
  have := ((C.xs m (Nat.le_refl _) k).1 i him h1).2 j hjm h2
  subst this; exact hnl hli
 have hgone : ∀ k ∈ keysM (N j), go M k = none := fun k hk => by
  rw [S.c k fun i hi hli h => hdis i hi hli k h hk]
  exact noKey_go H.n0 k hk
 have hng : ∀ t, noGdV (gt env t) = true := fun t => by
  by_cases hw : ∃ (i : Nat) (x : Oper), all[i]? = some x /\ isL listed i /\ x.dst = some t
  ·obtain ⟨i, x, e1, e2, e3⟩ := hw
   rw [S.b i x t e1 e2 e3]
   obtain ⟨d', v', vc', ev', H'⟩ := C.hE i x e1 (hlm e1 e2)
   have : d' = t := by have := H'.dst; rw [e3] at this; exact (Option.some.inj this).symm
   subst this
   rw [H'.he, gt_cons, if_pos rfl]
   exact H'.gd
  ·rw [S.a t fun i x h1 h2 h3 => hw ⟨i, x, h1, h2, h3⟩]
   exact C.h0 t
 have stab : ∀ t, gt (evEs env ev) t = gt env t := fun t => by
  rw [gt_evEs]
  exact klB_evs H.kl fun k hk => (noref_st (hgone k hk) (gt env t) (hng t)).1 _ (hst.slots t)
 simp only [tw, H.g, hr, conj_iff, H.dst, wr]
 refine ⟨H.hv, fun t ht => ?_, fun i x t hi hli hdx => ?_, fun k hk => ?_, fun i k hi hli hk => ?_⟩
 ·have htd : d ≠ t := fun h => ht j o ho ((hset j).2 (.inl rfl)) (by rw [H.dst, h])
  rw [gt_cons, if_neg htd, stab]
  exact S.a t fun i x hi hl' => ht i x hi ((hset i).2 (.inr hl'))
 ·rw [gt_cons]
  by_cases hij : i = j
  ·subst hij; rw [ho] at hi; cases hi; rw [H.dst] at hdx; cases hdx
   rw [if_pos rfl, H.he, gt_cons, if_pos rfl]
  ·have hli' := ((hset i).1 hli).resolve_left hij
   have htd : d ≠ t := fun h => hij (C.uniq (hlm hi hli') hjm hi ho hdx (by rw [H.dst, h]))
   rw [if_neg htd, stab]
   exact S.b i x t hi hli' hdx
 ·have hkj : k ∉ keysM (N j) := hk j hjs ((hset j).2 (.inl rfl))
  have hgn : go (N j) k = none := by
   cases hg : go (N j) k with
   | none => rfl
   | some ob => exact absurd (keys_go.2 (by rw [hg]; simp)) hkj
  rw [go_ap, hgn]
  simp only
  rw [delL_go hkj]
  exact S.c k fun i hi hli => hk i hi ((hset i).2 (.inr hli))
 ·rw [go_ap]
  by_cases hij : i = j
  ·subst hij
   cases hg : go (N i) k with
   | none => exact absurd hg (keys_go.1 hk)
   | some ob => rfl
  ·have hli' := ((hset i).1 hli).resolve_left hij
   have hkj := hdis i hi hli' k hk
   have hgn : go (N j) k = none := by
    cases hg : go (N j) k with
    | none => rfl
    | some ob => exact absurd (keys_go.2 (by rw [hg]; simp)) hkj
   rw [hgn]
   simp only
   rw [delL_go hkj]
   exact S.d i k hi hli' hk
theorem okFl_spec {D R : Bool} {ms : List Nat} (h : okFl D R all ms m = true) {j : Nat} (hm : m <= j) {y : Oper} (hy : all[j]? = some y) : y.guard = none /\ ∀ i, i < j -> (ms.getD j 0).testBit i = true ∨ (i < m /\ ∃ x, all[i]? = some x /\ flt D R all x y = true) := by
 have hj := (Array.getElem?_eq_some_iff.1 hy).1
 have := List.all_eq_true.1 h j (by simpa using hj)
 rw [hy] at this
 simp only [Bool.or_eq_true, Bool.and_eq_true] at this
 rcases this with h1 | ⟨h1, h2⟩
 ·rw [Nat.blt_eq] at h1; omega
 ·refine ⟨isN_none h1, fun i hi => ?_⟩
  have h3 := List.all_eq_true.1 h2 i (by simpa using hi)
  simp only [Bool.or_eq_true, Bool.and_eq_true] at h3
  rcases h3 with h3 | ⟨h3, h4⟩
  ·exact .inl h3
  ·right
   rw [Nat.blt_eq] at h3
   refine ⟨h3, ?_⟩
   cases hx : all[i]? with
   | none => rw [hx] at h4; cases h4
   | some x => rw [hx] at h4; exact ⟨x, rfl, h4⟩
theorem flt_spec {D R : Bool} {x y : Oper} (h : flt D R all x y = true) : x.guard = none /\ (fltO D x.op = true /\ (R = true -> datK x.op = true -> callF y = true)) /\ ∃ t, x.dst = some t /\ t ∉ y.looksAt all /\ ∀ u, y.dst = some u -> u ≠ t /\ u ∉ x.looksAt all := by
 unfold flt at h
 simp only [nob_eq, Bool.and_eq_true] at h
 obtain ⟨h1, ⟨h2, h2'⟩, h3⟩ := h
 refine ⟨isN_none h1, ⟨h2, fun hR hk => ?_⟩, ?_⟩
 ·rw [hR] at h2'
  simp only [orb_eq, neg_eq, Bool.not_true, Bool.false_or, Bool.or_eq_true] at h2'
  rcases h2' with h | h
  ·exfalso
   unfold fltB at h
   unfold datK at hk
   split at h
   ·rename_i ho; rw [ho] at hk; simp [pureK, memK] at hk
   ·rename_i ho; rw [ho] at hk; simp [pureK, memK] at hk
   ·rename_i ho; rw [ho] at hk; simp [pureK, memK] at hk
   ·cases h
  ·exact h
 cases hd : x.dst with
 | none => rw [hd] at h3; cases h3
 | some t =>
  rw [hd] at h3
  simp only [nob_eq, Bool.and_eq_true, neg_eq, Bool.not_eq_true'] at h3
  refine ⟨t, rfl, fun ht => ?_, fun u hu => ?_⟩
  ·have : (looks all y).contains t = true := by simpa [looks] using ht
   rw [h3.1] at this; cases this
  ·rw [hu] at h3
   have h4 := h3.2
   simp only [Bool.and_eq_true, Bool.not_eq_true'] at h4
   refine ⟨fun e => ?_, fun ht => ?_⟩
   ·subst e; rw [Nat.beq_refl] at h4; exact absurd h4.1 (by simp)
   ·have : (looks all x).contains u = true := by simpa [looks] using ht
    rw [h4.2] at this; cases this
theorem isFl_spec {ms : List Nat} {i : Nat} (h : isFl all.size ms m i = true) : ∃ j, m <= j /\ j < all.size /\ (ms.getD j 0).testBit i = false := by
 obtain ⟨j, h1, h2⟩ := List.any_eq_true.1 h
 simp only [Bool.and_eq_true, Bool.not_eq_true'] at h2
 refine ⟨j, ?_, by simpa using h1, h2.2⟩
 rcases Nat.lt_or_ge j m with h | h
 ·have hb : Nat.blt j m = true := by rw [Nat.blt_eq]; exact h
  rw [hb] at h2; exact absurd h2.1 (by simp)
 ·exact h
theorem isFl_not {ms : List Nat} {i j : Nat} (h : isFl all.size ms m i = false) (hj : j < all.size) (hm : m <= j) : (ms.getD j 0).testBit i = true := by
 cases ht : (ms.getD j 0).testBit i with
 | true => rfl
 | false =>
  have : isFl all.size ms m i = true := List.any_eq_true.2 ⟨j, by simpa using hj, by
   simp only [Bool.and_eq_true, Bool.not_eq_true']
   refine ⟨?_, ht⟩
   cases hb : Nat.blt j m with
   | false => rfl
   | true => rw [Nat.blt_eq] at hb; omega⟩
  rw [h] at this; cases this
theorem okFf_spec {ms : List Nat} (h : okFf all ms m = true) {i j : Nat} (hi : i < m) (hj : j < m) (hne : i <= j) (fi : isFl all.size ms m i = true) (fj : isFl all.size ms m j = true) {x y : Oper} (hx : all[i]? = some x) (hy : all[j]? = some y) {u : Nat} (hu : y.dst = some u) : u ∉ x.looksAt all := by
 have h1 := List.all_eq_true.1 h i (by simpa using hi)
 rw [fi] at h1
 simp only [Bool.not_true, Bool.false_or] at h1
 have h2 := List.all_eq_true.1 h1 j (by simpa using hj)
 rw [fj, hx, hy] at h2
 simp only [Bool.not_true, Bool.or_false, Bool.or_eq_true, hu, Bool.not_eq_true'] at h2
 rcases h2 with h2 | h2
 ·rw [Nat.blt_eq] at h2; omega
 ·intro ht
  have : (looks all x).contains u = true := by simpa [looks] using ht
  rw [h2] at this; cases this
structure Bsta (B : Tab) (Φ : FuncId -> Option Ct) (ks as : List Nat) (all : Array Oper) (m c : Nat) (listed : Array Bool) (env Ec : Env) (M : Mem) : Prop where
 h : ∀ i, i < m -> isL listed i ∨ isFl all.size (masks [] all.toList) m i = true /\ ∃ x t, all[i]? = some x /\ x.guard = none /\ x.dst = some t /\ FlI B Φ ks as x Ec M (gt Ec t)
 a : ∀ t, (∀ (i : Nat) (x : Oper), i < m -> all[i]? = some x -> ¬ isL listed i -> x.dst ≠ some t) -> gt env t = gt Ec t
theorem headB_drop (l : List Bool) (n : Nat) : headB (l.drop n) = l.getD n false := by
 induction l generalizing n with
 | nil => simp [headB]
 | cons a l ih => cases n with
  | zero => rfl
  | succ n => simpa using ih n
theorem tailB_drop (l : List Bool) (n : Nat) : tailB (l.drop n) = l.drop (n + 1) := by
 induction l generalizing n with
 | nil => simp [tailB]
 | cons a l ih => cases n with
  | zero => rfl
  | succ n => simpa using ih n
theorem tailF_get {l : List Oper} {m j i : Nat} (hm : m <= j) (hj : j < l.length) (hi : i < m) (hb : ((masks [] l).getD j 0).testBit i = false) : (tailF l m).getD (j - m) false = true := by
 unfold tailF
 have hl : len l = l.length := len_eq l
 rw [List.getD_eq_getElem?_getD, List.getElem?_map, List.getElem?_range (by rw [hl]; show j - m < l.length - m; omega)]
 simp only [Option.map_some, Option.getD_some, List.any_eq_true, List.mem_range]
 refine ⟨i, hi, ?_⟩
 rw [show Nat.add m (j - m) = j from by show m + (j - m) = j; omega, hb]
 rfl
theorem fl_tail (hΦ : Good P Φ) (hB : TabOk P B) (Q : Exit -> Act -> World -> Prop) (K : Env -> Mem -> Prop) (hQ : ∀ p env M a w, St F p env M a w -> K env M -> Q .normal a w) (hb : backs 0 all.toList = true) (ht : okFl D R all (masks [] all.toList) m = true) (hR : R = false -> ks = []) (hff : okFf all (masks [] all.toList) m = true)
  (huq : ∀ (i j : Nat) (x y : Oper) (t : Nat), i < m -> j < m -> all[i]? = some x -> all[j]? = some y -> x.dst = some t -> y.dst = some t -> i = j) (hdr : okDraw all (masks [] all.toList) m = true)
  (hco : opsOk F.nt all.toList = true) (hfv : ∀ o ∈ all.toList, ∀ k, o.dst = some k -> F.fv k = none) :
  ∀ (fuel : Nat) (listed : Array Bool) (c : Nat) (p : Ow) (env Ec : Env) (M : Mem) (a : Act) (w : World), listed.size = all.size -> (∀ i, m <= i -> i < all.size -> (isL listed i ↔ i < c)) -> m <= c -> unl listed all.size <= fuel -> Down all listed -> Bsta B Φ ks as all m c listed env Ec M -> chkT ks as B Φ ((tailF all.toList m).drop (c - m)) (all.toList.drop c) Ec M = true ->
   St F p env M a w -> tw B Φ (toL all) (all.toList.drop c) Ec M K -> wpAny P .any all Q fuel listed a w := by
 intro fuel
 have done : ∀ (listed : Array Bool) (c : Nat) (p : Ow) (env Ec : Env) (M : Mem) (a : Act) (w : World), listed.size = all.size -> (∀ i, m <= i -> i < all.size -> (isL listed i ↔ i < c)) -> m <= c -> Region.ready .any all listed = [] -> Bsta B Φ ks as all m c listed env Ec M -> St F p env M a w -> tw B Φ (toL all) (all.toList.drop c) Ec M K -> Q .normal a w := by
  intro listed c p env Ec M a w hs hl hmc hr S hst hk
  have hall := ready_some hs hb hr
  have hc : all.toList.length <= c := by
   rcases Nat.lt_or_ge c all.size with h | h
   ·have := (hl c hmc h).1 (hall c h); omega
   ·simpa using h
  rw [List.drop_eq_nil_of_le hc] at hk
  simp only [tw] at hk
  exact hQ p Ec M a w (hst.weak fun t => .inr (S.a t fun i x h1 h2 h3 => absurd (hall i (Array.getElem?_eq_some_iff.1 h2).1) h3).symm) hk
 have noready : ∀ (listed : Array Bool), listed.size = all.size -> unl listed all.size = 0 -> Region.ready .any all listed = [] := by
  intro listed hs hu
  cases hr : Region.ready .any all listed with
  | nil => rfl
  | cons i r =>
   obtain ⟨o, h1, h2, _⟩ := ready_edges (j := i) (by rw [hr]; simp)
   have hi := (Array.getElem?_eq_some_iff.1 h1).1
   have := unl_zero hu i hi
   unfold isL at this
   simp [hs, hi] at this h2
   rw [this] at h2; cases h2
 induction fuel with
 | zero =>
  intro listed c p env Ec M a w hs hl hm hu _ S hck hst hk
  have hr := noready listed hs (by omega)
  exact ⟨hr, done listed c p env Ec M a w hs hl hm hr S hst hk⟩
 | succ fuel ih =>
  intro listed c p env Ec M a w hs hl hm hu hdn S hck hst hk
  refine ⟨fun hr => done listed c p env Ec M a w hs hl hm hr S hst hk, fun j hj => ?_⟩
  obtain ⟨o, h1, h2, h3⟩ := ready_edges hj
  have hjs := (Array.getElem?_eq_some_iff.1 h1).1
  have hnl : ¬ isL listed j := by
   unfold isL; simp [hs, hjs] at h2 ⊢; exact h2
  have hmem : o ∈ all.toList := by rw [Array.mem_toList_iff]; exact Array.mem_of_getElem? h1
  have hset : ∀ i, isL (listed.setIfInBounds j true) i ↔ i = j ∨ isL listed i := fun i => isL_set (by rw [hs]; exact hjs)
  have hul := unl_set (by rw [hs]; exact hjs) hnl all.size hjs
  by_cases hjm : j < m
  ·rcases S.h j hjm with h | ⟨fj, x, t, e1, e2, e3, e4⟩
   ·exact absurd h hnl
   rw [h1] at e1; cases e1
   have hop : ∀ q ∈ o.op.operands, rd env q = rd Ec q := fun q hq => by
    cases q with
    | tmp t0 =>
     have hlk : t0 ∈ o.looksAt all := List.mem_append_left _ (List.mem_filterMap.2 ⟨.tmp t0, by simpa using hq, rfl⟩)
     refine S.a t0 fun i x hi hx hn hd => ?_
     rcases S.h i hi with h | ⟨fi, _⟩
     ·exact hn h
     rcases Nat.lt_or_ge i j with hij | hij
     ·have hpair := okPair_look (okDraw_spec hdr hi hjm (by omega) hx h1) hd hlk
      rw [if_pos hij] at hpair
      exact hn (mask_listed hdn hb j o h1 h3 i hpair)
     ·exact okFf_spec hff hjm hi hij fj fi h1 hx hd hlk
    | const c => rfl
    | global g => rfl
    | func f => rfl
   obtain ⟨vc, hvc, hr0⟩ := e4.run (M := M)
   have hr : evR B Φ o env M = ⟨vc, gt Ec t, [], M⟩ := by rw [evR_congr o hop]; exact hr0
   refine wpOp_mono (fun a' w' ⟨p', env', M', q1, q2, q3⟩ => ?_) (aw_step (rest := []) (K := fun env' M' => env' = (t, gt Ec t) :: env /\ M' = M) hΦ hB hst (by simp only [tw, e2, hr, e3, conj_iff, wr, evEs]; exact ⟨hvc, trivial, trivial⟩) (opsOk_mem hco hmem) (hfv o hmem) h1 Q)
   subst q2; subst q3
   refine ih _ c p' _ Ec _ a' w' (by simpa using hs) (fun i hi his => ?_) hm (by omega) (hdn.set hj) ⟨fun i hi => ?_, fun t' ht' => ?_⟩ hck q1 hk
   ·rw [hset]
    exact ⟨fun h => h.elim (fun h => by omega) (hl i hi his).1, fun h => .inr ((hl i hi his).2 h)⟩
   ·rcases S.h i hi with h | h
    ·exact .inl ((hset i).2 (.inr h))
    ·exact .inr h
   ·rw [gt_cons]
    by_cases htt : t = t'
    ·subst htt; rw [if_pos rfl]
    ·rw [if_neg htt]
     refine S.a t' fun i x hi hx hn hd => ?_
     by_cases hij : i = j
     ·subst hij; rw [h1] at hx; cases hx; rw [e3] at hd; cases hd; exact htt rfl
     ·exact ht' i x hi hx (fun h => ((hset i).1 h).elim hij hn) hd
  ·have hmj : m <= j := by omega
   obtain ⟨hg, hsp⟩ := okFl_spec ht hmj h1
   have hcj : c <= j := by
    rcases Nat.lt_or_ge j c with h | h
    ·exact absurd ((hl j hmj hjs).2 h) hnl
    ·exact h
   have hjc : j = c := by
    rcases Nat.lt_or_ge c j with h | h
    ·rcases hsp c h with hb1 | ⟨hb1, _⟩
     ·have := mask_listed hdn hb j o h1 h3 c hb1
      have := (hl c hm (by omega)).1 this
      omega
     ·omega
    ·omega
   subst hjc
   have late : ∀ {i : Nat}, i < m -> ¬ isL listed i -> ∃ x, all[i]? = some x /\ flt D R all x o = true := fun {i} hi hn => by
    rcases hsp i (by omega) with hb1 | ⟨_, h⟩
    ·exact absurd (mask_listed hdn hb j o h1 h3 i hb1) hn
    ·exact h
   have hdrop : all.toList.drop j = o :: all.toList.drop (j + 1) := by
    rw [List.drop_eq_getElem_cons (by simpa using hjs)]
    congr 1
    have := (Array.getElem?_eq_some_iff.1 h1).2
    simpa using this
   rw [hdrop] at hk hck
   have hlook : ∀ t ∈ o.looksAt all, gt env t = gt Ec t := fun t htl => S.a t fun i x hi hx hn hd => by
    obtain ⟨x', hx', hf⟩ := late hi hn
    rw [hx] at hx'; cases hx'
    obtain ⟨_, _, t', ht', hnot, _⟩ := flt_spec hf
    rw [hd] at ht'; cases ht'
    exact hnot htl
   have hrdE : ∀ x ∈ o.op.operands, rd env x = rd Ec x := fun x hx => by
    cases x with
    | tmp t => exact hlook t (List.mem_append_left _ (List.mem_filterMap.2 ⟨.tmp t, by simpa using hx, rfl⟩))
    | const c => rfl
    | global g => rfl
    | func f => rfl
   have hev : evR B Φ o env M = evR B Φ o Ec M := evR_congr o hrdE
   simp only [tw, hg] at hk
   generalize hq : evR B Φ o Ec M = q at hk
   obtain ⟨vc, v, e, M1⟩ := q
   simp only [conj_iff] at hk
   simp only [chkT, hq, nob_eq, Bool.and_eq_true, orb_eq, Bool.or_eq_true, neg_eq, Bool.not_eq_true', headB_drop, tailB_drop] at hck
   rw [show j - m + 1 = j + 1 - m from by omega] at hck
   refine wpOp_mono (fun a' w' ⟨p', env', M', q1, q2, q3⟩ => ?_) (aw_step (rest := []) (K := fun env' M' => env' = wr o.dst v (evEs env e) /\ M' = M1) hΦ hB hst (by simp only [tw, hg, hev, hq, conj_iff]; exact ⟨hk.1, trivial, trivial⟩) (opsOk_mem hco hmem) (hfv o hmem) h1 Q)
   subst q2; subst q3
   refine ih _ (j + 1) p' _ (wr o.dst v (evEs Ec e)) _ a' w' (by simpa using hs) (fun i hi his => ?_) (by omega) (by omega) (hdn.set hj) ⟨fun i hi => ?_, fun t' ht' => ?_⟩ hck.2 q1 hk.2
   ·rw [hset, hl i hi his]; omega
   ·rcases S.h i hi with h | ⟨f0, x, t1, f1, f2, f3, f4⟩
    ·exact .inl ((hset i).2 (.inr h))
    ·by_cases hn : isL listed i
     ·exact .inl ((hset i).2 (.inr hn))
     obtain ⟨x', hx', hf⟩ := late hi hn
     rw [f1] at hx'; cases hx'
     obtain ⟨_, ⟨_, hcv⟩, t', ht', _, hu⟩ := flt_spec hf
     rw [f3] at ht'; cases ht'
     have hdo : datK x.op = true -> offL ks e = true /\ AgM ks M' M := fun hdk => by
      cases hRR : R with
      | false => rw [hR hRR]; exact ⟨off_nil e, fun k hk => by cases hk⟩
      | true =>
       have hcall := hcv hRR hdk
       have hoff : offL ks e = true := by
        rcases hck.1.2 with h | h | h | h
        ·exfalso
         have hbit : ((masks [] all.toList).getD j 0).testBit i = false := by
          cases hb1 : ((masks [] all.toList).getD j 0).testBit i with
          | false => rfl
          | true => exact absurd (mask_listed hdn hb j o h1 h3 i hb1) hn
         have hjl : j < all.toList.length := by simpa using hjs
         rw [tailF_get hmj hjl hi hbit] at h
         cases h
        ·have : ks = [] := by
          revert h
          cases ks with
          | nil => intro _; rfl
          | cons _ _ => intro h; cases h
         rw [this]; exact off_nil e
        ·rw [hcall] at h; cases h
        ·exact h
       exact ⟨hoff, call_frame hcall hq hk.1 hoff⟩
     refine .inr ⟨f0, x, t1, f1, f2, f3, ?_⟩
     have e1 : gt (wr o.dst v (evEs Ec e)) t1 = (gt Ec t1).evs e := by
      rw [gt_wr, if_neg (fun h => (hu t1 h).1 rfl), gt_evEs]
     rw [e1]
     refine f4.look hck.1.1 hdo fun t0 g1 => ?_
     have hlk : t0 ∈ x.looksAt all := List.mem_append_left _ (List.mem_filterMap.2 ⟨.tmp t0, by simpa using g1, rfl⟩)
     rw [gt_wr, if_neg (fun h => (hu t0 h).2 hlk), gt_evEs]
   ·rw [gt_wr, gt_wr]
    split
    ·rfl
    ·rw [gt_evEs, gt_evEs, S.a t' fun i x hi hx hn hd => ht' i x hi hx (fun h => ((hset i).1 h).elim (fun h => by omega) hn) hd]
theorem Hctx.nogd (C : Hctx D R Ds ks as B Φ all m E X N M0) {j : Nat} (hj : j <= m) (t : Nat) : isGd (gt (E j) t) = false := by
 have key : noGdV (gt (E j) t) = true := by
  by_cases hw : ∃ (i : Nat) (x : Oper), all[i]? = some x /\ i < j /\ x.dst = some t
  ·obtain ⟨i, x, e1, e2, e3⟩ := hw
   rw [(C.gts j t hj).2 i x e1 e2 e3]
   obtain ⟨d', v', vc', ev', H'⟩ := C.hE i x e1 (by omega)
   have : d' = t := by have := H'.dst; rw [e3] at this; exact (Option.some.inj this).symm
   subst this
   rw [H'.he, gt_cons, if_pos rfl]
   exact H'.gd
  ·rw [(C.gts j t hj).1 fun i o h1 h2 h3 => hw ⟨i, o, h1, h2, h3⟩]
   exact C.h0 t
 cases hv : gt (E j) t with
 | gd _ _ _ _ => rw [hv] at key; cases key
 | _ => rfl
theorem Hctx.grow (C : Hctx D R Ds ks as B Φ all m E X N M0) {i : Nat} (hi : i <= m) {k : Nat} (hg : go (ap (X i) M0) k ≠ none) : go (ap (X m) M0) k = go (ap (X i) M0) k := by
 have step : ∀ j, j < m -> go (ap (X j) M0) k ≠ none -> go (ap (X (j + 1)) M0) k = go (ap (X j) M0) k := fun j hj hg => by
  obtain ⟨d, v, vc, ev, H⟩ := C.hE j _ (C.get hj) hj
  have hn : k ∉ keysM (N j) := fun hm => by
   have h1 := noKey_go H.n0 k hm
   have h2 := noKey_go H.nX k hm
   rw [go_ap, h2] at hg
   exact hg h1
  have hN : go (N j) k = none := Decidable.byContradiction fun e => hn (keys_go.2 e)
  rw [H.x, go_ap, go_ap, go_ap, hN]
 have key : ∀ n, i + n <= m -> go (ap (X (i + n)) M0) k = go (ap (X i) M0) k := fun n => by
  induction n with
  | zero => intro _; rfl
  | succ n ih =>
   intro hn
   have h1 := ih (by omega)
   rw [← Nat.add_assoc, step (i + n) (by omega) (by rw [h1]; exact hg), h1]
 have := key (m - i) (by omega)
 rwa [show i + (m - i) = m by omega] at this
theorem Hctx.turn (C : Hctx D R Ds ks as B Φ all m E X N M0) {listed : Array Bool} {env : Env} {M : Mem} (hl : ∀ i, i < all.size -> isL listed i -> i < m) (hdn : Down all listed) (S : Hsta all m E N M0 listed env M) (hall : ∀ i, i < m -> isFl all.size (masks [] all.toList) m i = false -> isL listed i) :
  Bsta B Φ ks as all m m listed env (E m) (ap (X m) M0) := by
 have hlm : ∀ {i : Nat} {x : Oper}, all[i]? = some x -> isL listed i -> i < m := fun h1 h2 => hl _ (Array.getElem?_eq_some_iff.1 h1).1 h2
 refine ⟨fun i hi => ?_, fun t ht => ?_⟩
 ·by_cases hn : isL listed i
  ·exact .inl hn
  right
  have fi : isFl all.size (masks [] all.toList) m i = true := by
   cases h : isFl all.size (masks [] all.toList) m i with
   | true => rfl
   | false => exact absurd (hall i hi h) hn
  refine ⟨fi, ?_⟩
  obtain ⟨j, hj1, hj2, hj3⟩ := isFl_spec fi
  obtain ⟨_, hsp⟩ := okFl_spec C.ht hj1 (Array.getElem?_eq_getElem hj2)
  rcases hsp i (by omega) with h | ⟨_, x, hx, hf⟩
  ·rw [hj3] at h; cases h
  obtain ⟨g1, g2, t, g3, _, _⟩ := flt_spec hf
  obtain ⟨d, v, vc, ev, H⟩ := C.hE i x hx hi
  have hd : d = t := by have := H.dst; rw [g3] at this; exact (Option.some.inj this).symm
  subst hd
  obtain ⟨N', hr, hN⟩ := H.r
  have hF : FlI B Φ ks as x (E i) (ap (X m) M0) v := by
   rw [fltO, orb_eq, Bool.or_eq_true] at g2
   rcases g2.1 with g2 | g2
   ·exact FlI.of (B := B) (Φ := Φ) g2 (fun t => C.nogd (by omega) t) hr H.hv
   ·simp only [nob_eq, Bool.and_eq_true] at g2
    rcases H.dt (C.hD g2.1 i hi fi) g2.2 with hbx | ⟨q1, q2⟩
    ·have h4 : ∃ t t0 k, x.op = .load t (.tmp t0) /\ gt (E i) t0 = .bx (.ad k [.de]) /\ inN k as = true /\ bxLd (B.τ t) = true := by
      unfold bxK at hbx
      split at hbx
      ·rename_i t t0 ho
       split at hbx
       ·rename_i k π hg
        simp only [allT_cons, allT_nil, Bool.and_true, Bool.and_eq_true] at hbx
        exact ⟨t, t0, k, ho, by rw [hg, isDe_eq hbx.1], hbx.2.1, hbx.2.2⟩
       ·cases hbx
      ·cases hbx
     obtain ⟨t, t0, k, ho, hg, hk, hb⟩ := h4
     obtain ⟨vc', _, hrun⟩ := FlI.run (M := ap (X i) M0) (B := B) (Φ := Φ) (ks := ks) (as := as) (x := x) (env := E i) (y := .ad k [.de]) (.inr (.inr (.inr ⟨t, t0, k, ho, hg, rfl, hk, hb⟩)))
     rw [hr] at hrun
     simp only [Rs.mk.injEq] at hrun
     exact .inr (.inr (.inr ⟨t, t0, k, ho, hg, hrun.2.1, hk, hb⟩))
    have hkl := H.kl
    rw [hN] at hkl
    have hev : ev = [] := ks_noev g2.2 hr hkl
    subst hev
    refine .inr (.inr (.inl ⟨g2.2, q1, q2, vc, H.hv, fun M' hM => ?_⟩))
    rw [hop_ok (M := M') H.k (fun hlv q hq => ks_ag (ks := ks) (fun k hk hg => (hM k hk).trans (C.grow (by omega) hg)) _ (ksOps_mem q1 _ hq) (livOps_mem hlv _ hq)) hr H.hv hkl]
    rfl
  refine ⟨x, d, hx, g1, g3, ?_⟩
  have hv : gt (E m) d = v := by
   rw [(C.gts m d (Nat.le_refl _)).2 i x hx hi g3, H.he, gt_cons, if_pos rfl]
  rw [hv]
  refine hF.look (e := []) rfl (fun _ => ⟨rfl, AgM.refl _ _⟩) fun t0 k1 => ?_
  simp only [V.evs]
  have hlk : t0 ∈ x.looksAt all := List.mem_append_left _ (List.mem_filterMap.2 ⟨.tmp t0, by simpa using k1, rfl⟩)
  by_cases hw : ∃ (i' : Nat) (x' : Oper), all[i']? = some x' /\ i' < m /\ x'.dst = some t0
  ·obtain ⟨i', x', e1, e2, e3⟩ := hw
   by_cases hii : i' < i
   ·rw [(C.gts m t0 (Nat.le_refl _)).2 i' x' e1 e2 e3, (C.gts i t0 (by omega)).2 i' x' e1 hii e3]
   ·exfalso
    have fi' : isFl all.size (masks [] all.toList) m i' = true := by
     cases h : isFl all.size (masks [] all.toList) m i' with
     | true => rfl
     | false =>
      exfalso
      have hli := hall i' e2 h
      by_cases e : i' = i
      ·subst e; exact hn hli
      ·have hpair := okPair_look (okDraw_spec C.hdr e2 hi e e1 hx) e3 hlk
       rw [if_neg hii] at hpair
       exact hn (mask_listed hdn C.hb i' x' e1 (fun e' he' hb' => hdn i' x' e1 hli e' he' hb') i hpair)
    exact okFf_spec C.hf hi e2 (by omega) fi fi' hx e1 e3 hlk
  ·rw [(C.gts m t0 (Nat.le_refl _)).1 fun i x h1 h2 h3 => hw ⟨i, x, h1, h2, h3⟩, (C.gts i t0 (by omega)).1 fun i x h1 h2 h3 => hw ⟨i, x, h1, by omega, h3⟩]
 ·obtain ⟨g1, g2⟩ := C.gts m t (Nat.le_refl _)
  by_cases hw : ∃ (i : Nat) (x : Oper), all[i]? = some x /\ i < m /\ x.dst = some t
  ·obtain ⟨i, x, e1, e2, e3⟩ := hw
   have hli : isL listed i := Classical.byContradiction fun hn => ht i x e2 e1 hn e3
   rw [g2 i x e1 e2 e3, S.b i x t e1 hli e3]
  ·rw [g1 fun i o h1 h2 h3 => hw ⟨i, o, h1, h2, h3⟩, S.a t fun i o h1 h2 h3 => hw ⟨i, o, h1, hlm h1 h2, h3⟩]
theorem Hctx.flN (C : Hctx D R Ds ks as B Φ all m E X N M0) {i : Nat} (hi : i < m) (fi : isFl all.size (masks [] all.toList) m i = true) : keysM (N i) = [] := by
 obtain ⟨j, hj1, hj2, hj3⟩ := isFl_spec fi
 obtain ⟨_, hsp⟩ := okFl_spec C.ht hj1 (Array.getElem?_eq_getElem hj2)
 rcases hsp i (by omega) with h | ⟨_, x, hx, hf⟩
 ·rw [hj3] at h; cases h
 obtain ⟨_, g2, _⟩ := flt_spec hf
 obtain ⟨d, v, vc, ev, H⟩ := C.hE i x hx hi
 obtain ⟨N', hr, hN⟩ := H.r
 have he : ev = [] := by
  rw [fltO, orb_eq, Bool.or_eq_true] at g2
  rcases g2.1 with g2 | g2
  ·unfold fltB at g2
   split at g2
   ·rename_i ho; simp only [evR, ho, evOp, pureR, Rs.mk.injEq] at hr; exact hr.2.2.1.symm
   ·rename_i ho; simp only [evR, ho, evOp, pureR, Rs.mk.injEq] at hr; exact hr.2.2.1.symm
   ·rename_i ho; simp only [evR, ho, evOp, pureR, Rs.mk.injEq] at hr; exact hr.2.2.1.symm
   ·cases g2
  ·simp only [nob_eq, Bool.and_eq_true] at g2
   have hkl := H.kl
   rw [hN] at hkl
   exact ks_noev g2.2 hr hkl
 rw [hN, he]; rfl
theorem Hctx.fin (C : Hctx D R Ds ks as B Φ all m E X N M0) {listed : Array Bool} {env : Env} {M : Mem} (hl : ∀ i, i < all.size -> isL listed i -> i < m) (S : Hsta all m E N M0 listed env M) (hall : ∀ i, i < m -> isFl all.size (masks [] all.toList) m i = false -> isL listed i) :
  ∀ k, go (ap (X m) M0) k = go M k := by
 have hm := C.hm
 intro k
 rw [go_ap]
 obtain ⟨x1, x2⟩ := C.xs m (Nat.le_refl _) k
 by_cases hw : ∃ i, i < m /\ k ∈ keysM (N i)
 ·obtain ⟨i, h1, h2⟩ := hw
  have hli : isL listed i := by
   cases h : isFl all.size (masks [] all.toList) m i with
   | false => exact hall i h1 h
   | true => rw [C.flN h1 h] at h2; cases h2
  rw [(x1 i h1 h2).1, S.d i k (by omega) hli h2]
  cases hg : go (N i) k with
  | none => exact absurd hg (keys_go.1 h2)
  | some ob => rfl
 ·rw [x2 fun i h1 h2 => hw ⟨i, h1, h2⟩]
  simp only
  exact (S.c k fun i hi hli h2 => hw ⟨i, hl i hi hli, h2⟩).symm
theorem Hctx.any (hΦ : Good P Φ) (hB : TabOk P B) (C : Hctx D R Ds ks as B Φ all m E X N M0) (Q : Exit -> Act -> World -> Prop) (K : Env -> Mem -> Prop) (hQ : ∀ p env M a w, St F p env M a w -> K env M -> Q .normal a w) (hco : opsOk F.nt all.toList = true) (hfv : ∀ o ∈ all.toList, ∀ k, o.dst = some k -> F.fv k = none)
  (hlast : tw B Φ (toL all) (all.toList.drop m) (E m) (ap (X m) M0) K) (hck : chkT ks as B Φ (tailF all.toList m) (all.toList.drop m) (E m) (ap (X m) M0) = true) :
  ∀ (fuel : Nat) (listed : Array Bool) (p : Ow) (env : Env) (M : Mem) (a : Act) (w : World), listed.size = all.size -> (∀ i, i < all.size -> isL listed i -> i < m) -> unl listed all.size <= fuel -> Down all listed -> Hsta all m E N M0 listed env M -> St F p env M a w -> wpAny P .any all Q fuel listed a w := by
 have hm := C.hm
 have huq : ∀ (i j : Nat) (x y : Oper) (t : Nat), i < m -> j < m -> all[i]? = some x -> all[j]? = some y -> x.dst = some t -> y.dst = some t -> i = j := fun i j x y t hi hj hx hy h1 h2 => C.uniq hi hj hx hy h1 h2
 have last : ∀ (fuel : Nat) (listed : Array Bool) (p : Ow) (env : Env) (M : Mem) (a : Act) (w : World), listed.size = all.size -> (∀ i, i < all.size -> isL listed i -> i < m) -> unl listed all.size <= fuel -> Down all listed -> Hsta all m E N M0 listed env M -> St F p env M a w -> (∀ i, i < m -> isFl all.size (masks [] all.toList) m i = false -> isL listed i) -> wpAny P .any all Q fuel listed a w := by
  intro fuel listed p env M a w hs hl hu hdn S hst hall
  exact fl_tail hΦ hB Q K hQ C.hb C.ht C.hR C.hf huq C.hdr hco hfv fuel listed m p env (E m) (ap (X m) M0) a w hs (fun i hi his => ⟨fun h => hl i his h, fun h => absurd h (by omega)⟩) (Nat.le_refl _) hu hdn (C.turn hl hdn S hall) (by rw [Nat.sub_self]; exact hck) (hst.same (C.fin hl S hall) fun _ => rfl) hlast
 intro fuel
 induction fuel with
 | zero =>
  intro listed p env M a w hs hl hu hdn S hst
  exact last 0 listed p env M a w hs hl hu hdn S hst fun i hi _ => unl_zero (Nat.le_zero.1 hu) i (by omega)
 | succ fuel ih =>
  intro listed p env M a w hs hl hu hdn S hst
  by_cases hall : ∀ i, i < m -> isFl all.size (masks [] all.toList) m i = false -> isL listed i
  ·exact last (fuel + 1) listed p env M a w hs hl hu hdn S hst hall
  ·refine ⟨fun hr => absurd (fun i hi _ => ready_some hs C.hb hr i (by omega)) hall, fun j hj => ?_⟩
   obtain ⟨o, h1, h2, h3⟩ := ready_edges hj
   have hjs := (Array.getElem?_eq_some_iff.1 h1).1
   have hnl : ¬ isL listed j := by
    unfold isL; simp [hs, hjs] at h2 ⊢; exact h2
   have hjm : j < m := by
    rcases Nat.lt_or_ge j m with h | h
    ·exact h
    ·exact absurd (fun i _ hf => mask_listed hdn C.hb j o h1 h3 i (isFl_not hf hjs h)) hall
   have hmem : o ∈ all.toList := by rw [Array.mem_toList_iff]; exact Array.mem_of_getElem? h1
   refine wpOp_mono (fun a' w' ⟨p', env', M', e1, e2⟩ => ih _ p' env' M' a' w' (by simpa using hs) (fun i hi hli => ?_) ?_ (hdn.set hj) e2 e1) (aw_step hΦ hB hst (C.step hs hl hdn S hst h1 hjm hnl h3) (opsOk_mem hco hmem) (hfv o hmem) h1 Q)
   ·rcases (isL_set (by rw [hs]; exact hjs)).1 hli with h | h
    ·omega
    ·exact hl i hi h
   ·have := unl_set (by rw [hs]; exact hjs) hnl all.size hjs
    omega
theorem head_any (hΦ : Good P Φ) (hB : TabOk P B) {ops : Array Oper} {cut : Nat} (hco : opsOk F.nt (toL ops) = true) (hfv : ∀ o ∈ toL ops, ∀ k, o.dst = some k -> F.fv k = none) (hr : okHx D R (toL ops) cut = true) (hR : R = false -> ks = []) (hD : D = true -> ∀ i, i < cut -> isFl (toL ops).length (masks [] (toL ops)) cut i = true -> Ds.getD i false = true) {K : Env -> Mem -> Prop} {Q : Exit -> Act -> World -> Prop}
  (hQ : ∀ p env M a w, St F p env M a w -> K env M -> Q .normal a w) {p : Ow} {env : Env} {M : Mem} {a : Act} {w : World} (h : St F p env M a w) (hn : noGdE env = true)
  (hk : hx Ds ks as B Φ M (takeL cut (toL ops)) env [] (fun env X => bif nob (nogd env) (chkT ks as B Φ (tailF (toL ops) cut) (dropL cut (toL ops)) env (ap X M)) then twG B Φ (toL ops) (dropL cut (toL ops)) env (ap X M) K else False)) : wpAny P .any ops Q ops.size (Array.replicate ops.size false) a { w with drawn := w.drawn + 1 } := by
 rw [toL_eq] at hco hfv hr
 rw [takeL_eq, dropL_eq] at hk
 simp only [okHx, Bool.and_eq_true] at hr
 obtain ⟨h1, h2, h3, h5, h4⟩ := hr
 obtain ⟨E, X, N, e0, x0, e1, e2⟩ := hx_steps _ _ _ _ _ hk
 have hm : cut <= ops.toList.length := Nat.le_of_ble_eq_true h2
 have hm' : cut <= ops.size := by simpa using hm
 rw [toL_eq, List.length_take, Nat.min_eq_left hm] at e2
 cases hng0 : nob (nogd (E cut)) (chkT ks as B Φ (tailF ops.toList cut) (ops.toList.drop cut) (E cut) (ap (X cut) M)) with
 | false => rw [hng0] at e2; exact e2.elim
 | true =>
 rw [hng0] at e2
 simp only [cond_true] at e2
 simp only [nob_eq, Bool.and_eq_true] at hng0
 obtain ⟨hng, hck⟩ := hng0
 replace e2 := twG_tw (B := B) (Φ := Φ) _ _ _ (nogd_inv hng) e2
 have C : Hctx D R Ds ks as B Φ ops cut E X N M := {
  hR := hR
  hD := fun h i hi hf => hD h i hi (by rw [toL_eq]; simpa using hf)
  hb := h1
  hm := hm'
  ht := by simpa using h3
  hf := by simpa using h5
  hdr := by simpa using h4
  hE := fun j o ho hj => e1 j o (by rw [toL_eq, List.getElem?_take_of_lt hj, toList_get]; exact ho)
  hX := x0
  h0 := fun t => by rw [e0]; exact noGdE_gt hn }
 exact C.any hΦ hB Q K hQ hco hfv (by simpa only [toL_eq] using e2) hck _ _ p env M a _ (by simp) (fun i _ hi => absurd hi isL_rep) (unl_le _ _) (fun j o _ hi => absurd hi isL_rep)
  ⟨fun t _ => by rw [e0], fun i o t _ hi => absurd hi isL_rep, fun k _ => rfl, fun i k _ hi => absurd hi isL_rep⟩ h.drew
theorem head_ok (hΦ : Good P Φ) (hB : TabOk P B) (hmix : P.follows .mixedOrders = true) {id : Nat} {ops : Array Oper} {cut : Nat} (hco : opsOk F.nt (toL ops) = true) (hfv : ∀ o ∈ toL ops, ∀ k, o.dst = some k -> F.fv k = none) (hr : okHx D R (toL ops) cut = true) (hR : R = false -> ks = []) (hD : D = true -> ∀ i, i < cut -> isFl (toL ops).length (masks [] (toL ops)) cut i = true -> Ds.getD i false = true) {K : Env -> Mem -> Prop} {Q : Exit -> Act -> World -> Prop}
  (hQ : ∀ p env M a w, St F p env M a w -> K env M -> Q .normal a w) {p : Ow} {env : Env} {M : Mem} {a : Act} {w : World} (h : St F p env M a w) (hn : noGdE env = true)
  (hk : hx Ds ks as B Φ M (takeL cut (toL ops)) env [] (fun env X => bif nob (nogd env) (chkT ks as B Φ (tailF (toL ops) cut) (dropL cut (toL ops)) env (ap X M)) then twG B Φ (toL ops) (dropL cut (toL ops)) env (ap X M) K else False)) : (Code.region id ops true).wp P Q a w :=
 wp_region_any hmix (head_any hΦ hB hco hfv hr hR hD hQ h hn hk)
end
end
end Go.Bm
/- The typed machine: calls that give this or that; drawn regions whose operations are put into another order. -/
namespace Go.Bm
open Go.RowKit
section
variable {F : Fr} {p p' p'' : Ow} {env env' : Env} {M M' M'' : Mem} {a a' : Act} {w w' w'' : World} {P : Program} {B : Tab} {Φ : FuncId -> Option Ct}
theorem splitOf_some {o : Oper} {q : Spl} (h : splitOf Φ o env M = some q) : ∃ ct, Φ q.f = some ct /\ ct.mu = some (.s q.s) := by
 unfold splitOf at h
 split at h
 ·split at h
  ·split at h
   ·split at h
    ·rename_i hct _
     split at h
     ·rename_i hmu
      split at h
      ·simp only [Option.some.injEq] at h
       subst h
       exact ⟨_, hct, hmu⟩
      ·cases h
     ·cases h
    ·cases h
   ·cases h
  ·cases h
 ·cases h
theorem good_set (hΦ : Good P Φ) {f : FuncId} {ct : Ct} (h : CtOk P f ct) : Good P (setF Φ f ct) := by
 intro g c hg
 unfold setF at hg
 cases hb : Nat.beq g f with
 | true =>
  rw [hb] at hg
  simp only [cond_true, Option.some.injEq] at hg
  rw [← hg, Nat.eq_of_beq_eq_true hb]
  exact h
 | false => rw [hb] at hg; exact hΦ g c hg
theorem res_fz {Im Im' : Nat -> Prop} {w : World} (hI : ∀ b, Im b -> Im' b) : (rt : List (Bool × O)) -> (x : denR rt) -> (S : Nat -> Prop) -> (us : List Value) -> (∀ b, S b -> Im' b) -> ResR Im w rt x S us -> ResR Im' w (fzL rt) (fzX rt x) (fun _ => False) us
 | [], _, _, _, _, h => h
 | q :: r, x, S, us, hS, h => by
  obtain ⟨u, us', vs, S1, S2, h1, h2, h3, h4, h5, _, h7, h8⟩ := h
  refine ⟨u, us', vs, fun _ => False, fun _ => False, h1, h2, h3, fun _ h => h.elim, fun _ h => h.elim, fun _ h => h.elim, ?_, res_fz hI r x.2 S2 us' (fun b hb => hS b (h5 b hb)) h8⟩
  simp only [Rel]
  exact Rel.frz hI q.2 x.1 S1 vs (fun b hb => hS b (h4 b hb)) h7
theorem fz_ok {f : FuncId} {ct : Ct} (h : CtOk P f ct) (hm : ct.mu = none) : CtOk P f (fzCt ct) := by
 obtain ⟨h1, h2⟩ := h
 rw [hm] at h2
 refine ⟨h1, fun A w us x hA hr hp => ?_⟩
 refine (h2 A w us x hA hr hp).mono fun e w' he => ?_
 obtain ⟨rs, S, q1, q2, q3, q4⟩ := he
 refine ⟨rs, fun _ => False, q1, q2, fun _ h => h.elim, res_fz (fun b hb => ⟨hb.1, hb.2.1.elim (fun h => .inl ⟨rfl, h.2⟩) .inr, fun h => h⟩) _ _ S rs (fun b hb => ⟨(q3 b hb).2, .inr (q3 b hb).1, fun h => h⟩) q4⟩
theorem good_frz (hΦ : Good P Φ) : Good P (frzF Φ) := by
 intro f c hc
 unfold frzF at hc
 cases hf : Φ f with
 | none => rw [hf] at hc; cases hc
 | some ct =>
  rw [hf] at hc
  simp only at hc
  cases hm : ct.mu with
  | none => rw [hm] at hc; simp only [Option.some.injEq] at hc; rw [← hc]; exact fz_ok (hΦ f ct hf) hm
  | some _ => rw [hm] at hc; simp only [Option.some.injEq] at hc; rw [← hc]; exact hΦ f ct hf
theorem sp_ok {f : FuncId} {ct : Ct} {s : Sp} (h : CtOk P f ct) (hm : ct.mu = some (.s s)) (b : Bool) : CtOk P f (spCt s b) := by
 obtain ⟨h1, h2⟩ := h
 rw [hm] at h2
 cases b with
 | true => exact ⟨h1, h2.1⟩
 | false => exact ⟨h1, h2.2⟩
theorem twS_ok (hΦ : Good P Φ) (hB : TabOk P B) (all : Array Oper) (Q : Exit -> Act -> World -> Prop) (K : Env -> Mem -> Prop) (hQ : ∀ p env M a w, St F p env M a w -> K env M -> Q .normal a w) :
  ∀ (ops : List Oper) (p : Ow) (env : Env) (M : Mem) (a : Act) (w : World), opsOk F.nt ops = true -> (∀ o ∈ ops, ∀ k, o.dst = some k -> F.fv k = none) -> St F p env M a w -> twS B Φ (toL all) ops env M K -> wpList P all Q ops a w
 | [], p, env, M, a, w, _, _, h, hk => hQ p env M a w h hk
 | o :: rest, p, env, M, a, w, hc, hfv, h, hk => by
  simp only [twS] at hk
  cases hb : nob (nogd env) (isN o.guard) with
  | false => rw [hb] at hk; exact hk.elim
  | true =>
  rw [hb] at hk
  simp only [cond_true] at hk
  simp only [nob_eq, Bool.and_eq_true] at hb
  have hc1 := opsOk_mem hc (List.mem_cons_self)
  have ih : ∀ p' env' M' a' w', St F p' env' M' a' w' -> twS B Φ (toL all) rest env' M' K -> wpList P all Q rest a' w' := fun p' env' M' a' w' h1 h2 => twS_ok hΦ hB all Q K hQ rest p' env' M' a' w' (opsOk_cons hc).2.2.2 (fun o' ho' => hfv o' (by simp [ho'])) h1 h2
  have step : ∀ Φ' : FuncId -> Option Ct, Good P Φ' -> twG B Φ' (toL all) [o] env M (fun env M => twS B Φ (toL all) rest env M K) -> wpList P all Q (o :: rest) a w := fun Φ' hΦ' hk' => by
   have h1 := twG_tw (B := B) (Φ := Φ') [o] env M (nogd_inv hb.1) hk'
   have hst := tw_step hΦ' hB all h h1 hc1 (hfv o (by simp)) Q
   unfold wpList
   split at hst
   ·rename_i hw
    rw [if_pos hw]
    exact hst.imp (Oper.wp_mono (fun a' w' ⟨p', env', M', h1, h2⟩ => ih p' env' M' a' w' h1 h2)) id
   ·rename_i hw
    rw [if_neg hw]
    obtain ⟨p', env', M', h1, h2⟩ := hst
    exact ih p' env' M' _ w h1 h2
  cases hs : splitOf Φ o env M with
  | none => rw [hs] at hk; exact step Φ hΦ hk
  | some q =>
   rw [hs] at hk
   simp only at hk
   obtain ⟨ct, e1, e2⟩ := splitOf_some hs
   cases hq : q.b with
   | true => exact step _ (good_set hΦ (sp_ok (hΦ _ _ e1) e2 true)) (hk.1 hq)
   | false => exact step _ (good_set hΦ (sp_ok (hΦ _ _ e1) e2 false)) (hk.2 hq)
theorem twQ_ok (hΦ : Good P Φ) (hB : TabOk P B) (all : Array Oper) (Q : Exit -> Act -> World -> Prop) (K : Env -> Mem -> Prop) (hQ : ∀ p env M a w, St F p env M a w -> K env M -> Q .normal a w) :
  ∀ (ops : List Oper) (p : Ow) (env : Env) (M : Mem) (a : Act) (w : World), opsOk F.nt ops = true -> (∀ o ∈ ops, ∀ k, o.dst = some k -> F.fv k = none) -> InvG (toL all) ops env -> St F p env M a w -> twQ B Φ (toL all) ops env M K -> wpList P all Q ops a w
 | [], p, env, M, a, w, _, _, _, h, hk => hQ p env M a w h hk
 | o :: rest, p, env, M, a, w, hc, hfv, hI, h, hk => by
  simp only [twQ] at hk
  have hc1 := opsOk_mem hc (List.mem_cons_self)
  have hdst := fok_of hc1 (hfv o (by simp))
  have ih : ∀ p' env' M' a' w', InvG (toL all) rest env' -> St F p' env' M' a' w' -> twQ B Φ (toL all) rest env' M' K -> wpList P all Q rest a' w' := fun p' env' M' a' w' h0 h1 h2 => twQ_ok hΦ hB all Q K hQ rest p' env' M' a' w' (opsOk_cons hc).2.2.2 (fun o' ho' => hfv o' (by simp [ho'])) h0 h1 h2
  have step : tw B Φ (toL all) [o] env M (fun env M => InvG (toL all) rest env /\ twQ B Φ (toL all) rest env M K) -> wpList P all Q (o :: rest) a w := fun h1 => by
   have hst := tw_step hΦ hB all h h1 hc1 (hfv o (by simp)) Q
   unfold wpList
   split at hst
   ·rename_i hw
    rw [if_pos hw]
    exact hst.imp (Oper.wp_mono (fun a' w' ⟨p', env', M', h1, h2⟩ => ih p' env' M' a' w' h2.1 h1 h2.2)) id
   ·rename_i hw
    rw [if_neg hw]
    obtain ⟨p', env', M', h1, h2⟩ := hst
    exact ih p' env' M' _ w h2.1 h1 h2.2
  cases hgd : o.guard with
  | none =>
   rw [hgd] at hk
   refine step ?_
   simp only [tw]
   rw [hgd]
   obtain ⟨vc, he, hvc⟩ := evG_ok (B := B) (Φ := Φ) hI fs_nil o M
   rw [he]
   generalize evG B Φ (toL all) [] o env M = q at hk hvc ⊢
   obtain ⟨vc', v, e, M'⟩ := q
   simp only at hk hvc ⊢
   cases hv : isGd v with
   | true => rw [hv] at hk; exact hk.elim
   | false =>
    rw [hv] at hk
    simp only [cond_false, conj_iff] at hk
    rw [conj_iff]
    exact ⟨hvc hk.1, inv_plain hI hv ⟨e, fun t => gt_evEs t e env⟩, hk.2⟩
  | some g =>
   obtain ⟨j, want⟩ := g
   rw [hgd] at hk
   simp only at hk
   cases hd : dstOf (toL all) j with
   | none => rw [hd] at hk; exact hk.elim
   | some dj =>
    rw [hd] at hk
    simp only at hk
    have hdj : (all[j]?).bind (·.dst) = some dj := by rw [← dstOf_eq]; exact hd
    have hw : Region.wanted o (yielded all a.tmps) = (yB (a.tmps.getD dj undef) == some want) := by simp only [Region.wanted, hgd, yielded_eq hdj]
    have hev : (evR B Φ o env M).av = (evG B Φ (toL all) (chainG (toL all) env 8 j want) o env M).av /\ (evR B Φ o env M).ev = (evG B Φ (toL all) (chainG (toL all) env 8 j want) o env M).ev /\ (evR B Φ o env M).M = (evG B Φ (toL all) (chainG (toL all) env 8 j want) o env M).M := by
     unfold evR evG
     split
     ·simp only [evPick, pickG, pureR]
      cases allT [_, _, _] <;> simp [bad]
     ·exact ⟨rfl, rfl, rfl⟩
    have hgood : gc (gt env dj) want -> ∃ vc, evR B Φ o env M = ⟨vc, (evG B Φ (toL all) (chainG (toL all) env 8 j want) o env M).av, (evG B Φ (toL all) (chainG (toL all) env 8 j want) o env M).ev, (evG B Φ (toL all) (chainG (toL all) env 8 j want) o env M).M⟩ /\ (allP (evG B Φ (toL all) (chainG (toL all) env 8 j want) o env M).vc -> allP vc) :=
     fun hG => evG_ok (B := B) (Φ := Φ) hI (chain_ok hI 8 j want dj hd hG) o M
    generalize evG B Φ (toL all) (chainG (toL all) env 8 j want) o env M = q at hk hev hgood
    obtain ⟨vc', v, e, M'⟩ := q
    simp only [allT] at hk hev hgood
    cases h1 : gokB (gt env dj) <;> rw [h1] at hk <;> try exact hk.elim
    cases h4 : wIn dj (o :: rest) <;> rw [h4] at hk <;> try exact hk.elim
    simp only [neg, cond_true, cond_false] at hk
    have hy := gc_ok _ _ want h1 (h.slots dj)
    cases hqf : nob (quiet o) (fresh M e) with
    | true =>
     rw [hqf] at hk
     simp only [cond_true] at hk
     simp only [nob_eq, Bool.and_eq_true] at hqf
     refine step ?_
     simp only [tw]
     rw [hgd]
     simp only [hd]
     generalize hq2 : evR B Φ o env M = q2 at hev hgood
     obtain ⟨vc2, v2, e2, M2⟩ := q2
     simp only at hev
     obtain ⟨rfl, rfl, rfl⟩ := hev
     simp only [allT, h1, hqf.1, hqf.2, cond_true, imp_iff] at hk ⊢
     refine ⟨fun hG => ?_, inv_guard hI hd h1 h4, hk.2⟩
     obtain ⟨vc3, e3, h3⟩ := hgood hG
     cases e3
     exact h3 (hk.1 hG)
    | false =>
     rw [hqf] at hk
     simp only [cond_false] at hk
     cases hv : isGd v with
     | true => rw [hv] at hk; exact hk.elim
     | false =>
     rw [hv] at hk
     simp only [cond_false, ifP, conj_iff] at hk
     unfold wpList
     rw [hw]
     by_cases hG : gc (gt env dj) want
     ·rw [if_pos (hy.2 hG)]
      obtain ⟨vc3, e3, h3⟩ := hgood hG
      obtain ⟨k1, k2⟩ := hk.1 hG
      refine .inl (Oper.wp_mono (fun a' w' ⟨u, g1, p', g2, g3, g4, _⟩ => ?_) (evR_ok hΦ hB h hc1 (by rw [e3]; exact h3 k1) Q))
      rw [e3] at g2 g4
      rw [g1]
      exact ih p' _ _ _ w' (inv_plain hI hv ⟨e, fun t => gt_evEs t e env⟩) ((h.tr g2 g3).wrO _ u g4 hdst) k2
     ·rw [if_neg (fun hh => hG (hy.1 hh))]
      exact ih p _ _ _ w (inv_guard hI hd h1 h4) (h.wrO _ undef (by simp only [RelS]; exact ⟨fun hn => absurd hn hG, fun _ => trivial⟩) hdst) (hk.2 hG)
theorem mapL_eq {α β : Type} (f : α -> β) (l : List α) : mapL f l = l.map f := by
 induction l with
 | nil => rfl
 | cons x l ih => simp only [mapL, ih, List.map_cons]
theorem ren_after {σ : List Nat} {o : Oper} {e : Edge} : e ∈ (renO σ o).after ↔ ∃ e' ∈ o.after, e = renE σ e' := by
 unfold renO
 simp only [mapL_eq, toL_eq, List.mem_toArray, List.mem_map, Array.mem_toList_iff]
 exact ⟨fun ⟨a, h1, h2⟩ => ⟨a, h1, h2.symm⟩, fun ⟨a, h1, h2⟩ => ⟨a, h1, h2.symm⟩⟩
theorem perm_mem {σ : List Nat} {l : List Oper} {o' : Oper} : ∀ {ks : List Nat}, o' ∈ permL σ l ks -> ∃ o ∈ l, o' = renO σ o
 | [], h => by cases h
 | k :: r, h => by
  simp only [permL] at h
  split at h
  ·rename_i o ho
   rcases List.mem_cons.1 h with h | h
   ·rw [nthL_eq] at ho
    exact ⟨o, List.mem_of_getElem? ho, h⟩
   ·exact perm_mem h
  ·exact perm_mem h
theorem perm_get {σ : List Nat} {l : List Oper} : ∀ {ks : List Nat}, (∀ k ∈ ks, k < l.length) -> (permL σ l ks).length = ks.length /\ ∀ (j i : Nat) (o : Oper), ks[j]? = some i -> l[i]? = some o -> (permL σ l ks)[j]? = some (renO σ o)
 | [], _ => ⟨rfl, fun j i o h => by simp at h⟩
 | k :: r, h => by
  obtain ⟨h1, h2⟩ := perm_get (σ := σ) (l := l) (ks := r) fun x hx => h x (by simp [hx])
  have hk := h k (by simp)
  obtain ⟨o, ho⟩ : ∃ o, l[k]? = some o := ⟨_, List.getElem?_eq_getElem hk⟩
  have e : permL σ l (k :: r) = renO σ o :: permL σ l r := by
   simp only [permL, nthL_eq, ho]
  rw [e]
  refine ⟨by simp [h1], fun j i o' hj hi => ?_⟩
  cases j with
  | zero => simp at hj; subst hj; rw [ho] at hi; cases hi; rfl
  | succ j => simp at hj ⊢; exact h2 j i o' hj hi
theorem getD_irr {L : Array Bool} {j : Nat} (h : j < L.size) : L.getD j true = L.getD j false := by simp [h]
structure Perm (ops ops' : Array Oper) (σ : List Nat) (n : Nat) : Prop where
 s : ops.size = n
 s' : ops'.size = n
 f : ∀ i, i < n -> plc σ i < n /\ σ[plc σ i]? = some i
 g : ∀ k, k < n -> ∃ i, σ[k]? = some i /\ i < n /\ plc σ i = k
 op : ∀ (k i : Nat) (o : Oper), σ[k]? = some i -> ops[i]? = some o -> ops'[k]? = some (renO σ o)
 gd : ∀ (i : Nat) (o : Oper), ops[i]? = some o -> o.guard = none
 bk : ∀ (i : Nat) (o : Oper), ops[i]? = some o -> ∀ e ∈ o.after, Region.binds .any e = true -> e.on < n
theorem Perm.ready {ops ops' : Array Oper} {σ : List Nat} {n : Nat} (H : Perm ops ops' σ n) {L L' : Array Bool} (hL : L.size = n) (hL' : L'.size = n) (hr : ∀ i, i < n -> L'.getD (plc σ i) true = L.getD i true) {i : Nat} (hi : i < n) :
  i ∈ Region.ready .any ops L ↔ plc σ i ∈ Region.ready .any ops' L' := by
 obtain ⟨f1, f2⟩ := H.f i hi
 obtain ⟨o, ho⟩ : ∃ o, ops[i]? = some o := ⟨_, Array.getElem?_eq_getElem (by rw [H.s]; exact hi)⟩
 have ho' := H.op _ _ _ f2 ho
 rw [mem_ready, mem_ready, hr i hi]
 constructor
 ·rintro ⟨h1, o1, h2, h3⟩
  rw [ho] at h2; cases h2
  refine ⟨h1, _, ho', fun e he hb => ?_⟩
  obtain ⟨e', k1, rfl⟩ := ren_after.1 he
  have hn := H.bk i o ho e' k1 hb
  have hp := H.f _ hn
  have k2 := h3 e' k1 hb
  rw [← getD_irr (by rw [hL]; exact hn), ← hr _ hn, getD_irr (by rw [hL']; exact hp.1)] at k2
  exact k2
 ·rintro ⟨h1, o1, h2, h3⟩
  rw [ho'] at h2; cases h2
  refine ⟨h1, _, ho, fun e he hb => ?_⟩
  have hn := H.bk i o ho e he hb
  have hp := H.f _ hn
  have k2 := h3 (renE σ e) (ren_after.2 ⟨e, he, rfl⟩) hb
  rw [← getD_irr (by rw [hL]; exact hn), ← hr _ hn, getD_irr (by rw [hL']; exact hp.1)]
  exact k2
theorem wpAny_perm {ops ops' : Array Oper} {σ : List Nat} {n : Nat} {Q : Exit -> Act -> World -> Prop} (H : Perm ops ops' σ n) : ∀ (fuel : Nat) (L L' : Array Bool) (a : Act) (w : World), L.size = n -> L'.size = n -> (∀ i, i < n -> L'.getD (plc σ i) true = L.getD i true) ->
  wpAny P .any ops' Q fuel L' a w -> wpAny P .any ops Q fuel L a w := by
 have nil : ∀ (L L' : Array Bool), L.size = n -> L'.size = n -> (∀ i, i < n -> L'.getD (plc σ i) true = L.getD i true) -> (Region.ready .any ops L = [] ↔ Region.ready .any ops' L' = []) := by
  intro L L' h1 h2 h3
  have lt : ∀ {ops : Array Oper} {L : Array Bool} {i : Nat}, i ∈ Region.ready .any ops L -> i < ops.size := fun h => by
   obtain ⟨_, o, ho, _⟩ := mem_ready.1 h
   exact (Array.getElem?_eq_some_iff.1 ho).1
  constructor
  ·intro h
   cases hr : Region.ready .any ops' L' with
   | nil => rfl
   | cons k r =>
    have hk : k ∈ Region.ready .any ops' L' := by rw [hr]; simp
    have hkn := lt hk
    rw [H.s'] at hkn
    obtain ⟨i, i1, i2, i3⟩ := H.g k hkn
    rw [← i3] at hk
    have := (H.ready h1 h2 h3 i2).2 hk
    rw [h] at this; cases this
  ·intro h
   cases hr : Region.ready .any ops L with
   | nil => rfl
   | cons i r =>
    have hi : i ∈ Region.ready .any ops L := by rw [hr]; simp
    have hin := lt hi
    rw [H.s] at hin
    have := (H.ready h1 h2 h3 hin).1 hi
    rw [h] at this; cases this
 intro fuel
 induction fuel with
 | zero =>
  intro L L' a w h1 h2 h3 h
  exact ⟨(nil L L' h1 h2 h3).2 h.1, h.2⟩
 | succ fuel ih =>
  intro L L' a w h1 h2 h3 h
  refine ⟨fun hn => h.1 ((nil L L' h1 h2 h3).1 hn), fun i hi => ?_⟩
  obtain ⟨_, o, ho, _⟩ := mem_ready.1 hi
  have hin := (Array.getElem?_eq_some_iff.1 ho).1
  rw [H.s] at hin
  have hk := h.2 _ ((H.ready h1 h2 h3 hin).1 hi)
  obtain ⟨f1, f2⟩ := H.f i hin
  have ho' := H.op _ _ _ f2 ho
  have hg := H.gd i o ho
  have e : ∀ K : Act -> World -> Prop, wpOp P ops' Q (plc σ i) K a w -> wpOp P ops Q i K a w := by
   intro K hh
   unfold wpOp at hh ⊢
   rw [ho'] at hh
   rw [ho]
   have g1 : Region.wanted o (yielded ops a.tmps) = true := by simp [Region.wanted, hg]
   have g2 : Region.wanted (renO σ o) (yielded ops' a.tmps) = true := by simp [Region.wanted, renO, hg]
   simp only [g2, if_true] at hh
   simp only [g1, if_true]
   exact hh
  refine wpOp_mono (fun a' w' hh => ih _ _ a' w' (by simpa using h1) (by simpa using h2) (fun j hj => ?_) hh) (e _ hk)
  by_cases hji : j = i
  ·subst hji
   simp [h1, h2, hin, f1]
  ·have hne : plc σ i ≠ plc σ j := fun hh => by
    have := (H.f j hj).2
    rw [← hh, f2] at this
    cases this; exact hji rfl
   rw [getD_set_ne true hne, getD_set_ne true (Ne.symm hji)]
   exact h3 j hj
theorem noGua_mem : ∀ {l : List Oper}, noGua l = true -> ∀ o ∈ l, o.guard = none
 | [], _, _, h => by cases h
 | o :: r, h, o', ho' => by
  simp only [noGua, nob_eq, Bool.and_eq_true] at h
  rcases List.mem_cons.1 ho' with e | e
  ·subst e
   have := h.1
   cases hg : o'.guard with
   | none => rfl
   | some g => rw [hg] at this; cases this
  ·exact noGua_mem h.2 o' e
theorem len_len {α : Type} : ∀ l : List α, len l = l.length
 | [] => rfl
 | _ :: r => by rw [len, len_len r]; rfl
theorem nob_r (b : Bool) : nob b true = b := by cases b <;> rfl
theorem rep_true {m i : Nat} (h : i < m) : (repL true m).getD i false = true := by
 rw [repL_eq, List.getD_eq_getElem?_getD, List.getElem?_replicate, if_pos h]; rfl
theorem late_get {l : List Oper} {m i : Nat} (h : i < m) (hf : isFl l.length (masks [] l) m i = true) : (lateF l m).getD i false = true := by
 unfold lateF
 rw [List.getD_eq_getElem?_getD, List.getElem?_map, List.getElem?_range h]
 simp only [Option.map_some, Option.getD_some, len_len]
 exact hf
theorem keep_nil : ∀ e : List Ev, keepL [] e = true
 | [] => rfl
 | x :: e => by
  have h : keepE [] x = true := by cases x <;> rfl
  simp only [keepL, h, keep_nil e, nob_eq, Bool.and_self]
theorem chkT_nil : ∀ (fs : List Bool) (l : List Oper) (env : Env) (M : Mem), chkT [] [] B Φ fs l env M = true
 | _, [], _, _ => rfl
 | fs, o :: r, env, M => by
  have e : nilK [] = true := rfl
  simp only [chkT, e, keep_nil, orb_eq, Bool.true_or, Bool.or_true, nob_eq, Bool.true_and]
  exact chkT_nil _ r _ _
theorem perm_ok (hΦ : Good P Φ) (hB : TabOk P B) (hmix : P.follows .mixedOrders = true) {R R2 : Bool} {Ds : List Bool} {ks as : List Nat} {id : Nat} {ops : Array Oper} {cut : Nat} (hco : opsOk F.nt (hoistL R (toL ops)) = true) (hfv : ∀ o ∈ toL ops, ∀ k, o.dst = some k -> F.fv k = none) (hr : okPm R R2 (toL ops) cut = true) (hR : R2 = false -> ks = []) (hD : ∀ i, i < cut -> isFl (hoistL R (toL ops)).length (masks [] (hoistL R (toL ops))) cut i = true -> Ds.getD i false = true) {K : Env -> Mem -> Prop} {Q : Exit -> Act -> World -> Prop}
  (hQ : ∀ p env M a w, St F p env M a w -> K env M -> Q .normal a w) {p : Ow} {env : Env} {M : Mem} {a : Act} {w : World} (h : St F p env M a w) (hn : noGdE env = true)
  (hk : hx Ds ks as B Φ M (takeL cut (hoistL R (toL ops))) env [] (fun env X => bif nob (nogd env) (chkT ks as B Φ (tailF (hoistL R (toL ops)) cut) (dropL cut (hoistL R (toL ops))) env (ap X M)) then twG B Φ (hoistL R (toL ops)) (dropL cut (hoistL R (toL ops))) env (ap X M) K else False)) : (Code.region id ops true).wp P Q a w := by
 simp only [okPm, Bool.and_eq_true] at hr
 obtain ⟨h1, h2, h3, h4⟩ := hr
 simp only [permOk, Bool.and_eq_true, List.all_eq_true, List.mem_range, len_len] at h2
 obtain ⟨⟨p1, p2⟩, p3⟩ := h2
 have p1 := Nat.eq_of_beq_eq_true p1
 have hσ : hoistL R (toL ops) = permL (hoist R (toL ops)) (toL ops) (hoist R (toL ops)) := rfl
 generalize hoist R (toL ops) = σ at *
 have hg : ∀ k, k < (toL ops).length -> ∃ i, σ[k]? = some i /\ i < (toL ops).length /\ plc σ i = k := fun k hk => by
  have := p3 k hk
  cases hs : nthL σ k with
  | none => rw [hs] at this; cases this
  | some i =>
   rw [hs] at this
   simp only [Bool.and_eq_true, Nat.blt_eq] at this
   rw [nthL_eq] at hs
   exact ⟨i, hs, this.1, Nat.eq_of_beq_eq_true this.2⟩
 have hmem : ∀ k ∈ σ, k < (toL ops).length := fun k hk => by
  obtain ⟨j, hj, rfl⟩ := List.getElem_of_mem hk
  obtain ⟨i, i1, i2, _⟩ := hg j (by omega)
  rw [List.getElem?_eq_getElem hj] at i1
  cases i1
  exact i2
 obtain ⟨g1, g2⟩ := perm_get (σ := σ) (l := toL ops) hmem
 have hsz : (toL ops).length = ops.size := by rw [toL_eq]; simp
 have H : Perm ops ⟨hoistL R (toL ops)⟩ σ ops.size := {
  s := rfl
  s' := by show (hoistL R (toL ops)).length = ops.size; rw [hσ, g1, p1, hsz]
  f := fun i hi => by
   have := p2 i (by rw [hsz]; exact hi)
   simp only [Nat.blt_eq] at this
   refine ⟨by rw [← hsz]; exact this.1, ?_⟩
   have h5 := this.2
   rw [nthL_eq] at h5
   cases hs : σ[plc σ i]? with
   | none => rw [hs] at h5; cases h5
   | some k => rw [hs] at h5; rw [Nat.eq_of_beq_eq_true h5]
  g := fun k hk => by
   obtain ⟨i, i1, i2, i3⟩ := hg k (by rw [hsz]; exact hk)
   exact ⟨i, i1, by rw [← hsz]; exact i2, i3⟩
  op := fun k i o hk ho => by
   have := g2 k i o hk (by rw [toL_eq]; simpa using ho)
   rw [← hσ] at this
   simpa using this
  gd := fun i o ho => noGua_mem h3 o (by rw [toL_eq, Array.mem_toList_iff]; exact Array.mem_of_getElem? ho)
  bk := fun i o ho e he hb => by
   have := backs_spec (toL ops) 0 h1 i o (by rw [toL_eq]; simpa using ho) e he hb
   have hi := (Array.getElem?_eq_some_iff.1 ho).1
   omega }
 refine wp_region_any hmix (wpAny_perm H _ _ (Array.replicate ops.size false) a _ (by simp) (by simp) (fun i hi => ?_) ?_)
 ·have := (H.f i hi).1
  simp [hi, this]
 ·have hz : (⟨hoistL R (toL ops)⟩ : Array Oper).size = ops.size := H.s'
  have := head_any (F := F) (ops := ⟨hoistL R (toL ops)⟩) (cut := cut) (K := K) (Q := Q) (P := P) hΦ hB (by exact hco) (fun o ho k hk => by
   obtain ⟨o', q1, rfl⟩ := perm_mem (by rw [← hσ]; exact ho)
   exact hfv o' q1 k hk) h4 hR (fun _ => hD) hQ h hn hk
  rw [hz] at this
  exact this
end
end Go.Bm
