/- The typed machine that the walks of this claim go by: its data, its operations and the proof that each is sound. No condition. -/
import Derived.Test.YtdcandojebpfnaaBmOne
import Derived.ChangeKeysEq
import Derived.Laws.StructEq
import Derived.MapKept
set_option linter.unusedVariables false
set_option linter.unusedSimpArgs false
set_option linter.unusedSectionVars false
/- The typed machine: what is stored, what is handed on. -/
namespace Go.Bm
open Go.RowKit
theorem hole_rel {Im : Nat -> Prop} {w : World} : (o : O) -> (x : o.strip.den) -> (S : Nat -> Prop) -> (vs : List Value) -> Rel Im w o x S vs -> RelF Im w o.hole (o.holeX x) vs
 | .fz t, x, S, vs, r => by simpa only [Rel, O.hole, O.holeX] using r
 | .p a b, x, S, vs, r => by
  simp only [Rel] at r
  obtain ⟨va, vb, S1, S2, h1, h2, h3, h4, h5, h6⟩ := r
  simp only [O.hole, O.holeX, RelF]
  exact ⟨va, vb, h1, hole_rel a _ _ va h5, hole_rel b _ _ vb h6⟩
 | .sl e, x, S, vs, r => by
  simp only [Rel] at r
  obtain ⟨v, ety, xs, T, h, h2, _⟩ := r
  simp only [O.hole, RelF]
  exact ⟨v, h, ownsRow_one h2⟩
 | .pt o, x, S, vs, r => by
  simp only [Rel] at r
  obtain ⟨b, us, ty', S', h, _⟩ := r
  simp only [O.hole, RelF]
  exact ⟨_, h, rfl⟩
 | .mp k v, x, S, vs, r => by
  simp only [Rel] at r
  obtain ⟨b, es, n, h, _⟩ := r
  simp only [O.hole, RelF]
  exact ⟨_, h, rfl⟩
 | .op e, x, S, vs, r => by
  simp only [Rel] at r
  simp only [O.hole, O.holeX, RelF]
  exact ⟨r.1, r.2.1, fun y hy => by cases hy⟩
theorem hole_size : (o : O) -> o.hole.size = o.size
 | .fz t => rfl
 | .p a b => by simp only [O.hole, O.size, T.size, addN_eq]; rw [hole_size a, hole_size b]; rfl
 | .sl e => rfl
 | .pt o => rfl
 | .mp _ _ => rfl
 | .op _ => rfl
theorem plus_zero (ad : Pl) : ad.plus 0 = ad := by cases ad <;> rfl
theorem plus_plus (ad : Pl) (a b : Nat) : (ad.plus a).plus b = ad.plus (a + b) := by cases ad <;> simp [Pl.plus, Nat.add_assoc]
theorem off_res (w : World) : (π : Path) -> (o : O) -> (n : Nat) -> offO π o = some n -> ∀ (x : o.strip.den) (vs : List Value) (ad : Pl), (∃ q, get π o x = some q) /\ gok π o x /\ ∃ us, res w π o vs ad = some (us, ad.plus n)
 | [], o, n, h, x, vs, ad => by
  simp only [offO, Option.some.injEq] at h
  subst h
  exact ⟨⟨⟨o, x⟩, by simp only [get]⟩, by simp only [gok], ⟨vs, by simp only [res, plus_zero]⟩⟩
 | .l :: π, .p a b, n, h, x, vs, ad => by
  simp only [offO] at h
  obtain ⟨h1, h2, h3⟩ := off_res w π a n h x.1 (vs.take a.size) ad
  exact ⟨by simpa only [get] using h1, by simpa only [gok] using h2, by simpa only [res] using h3⟩
 | .r :: π, .p a b, n, h, x, vs, ad => by
  simp only [offO] at h
  split at h
  ·rename_i m hm
   simp only [Option.some.injEq] at h
   obtain ⟨h1, h2, us, h3⟩ := off_res w π b m hm x.2 (vs.drop a.size) (ad.plus a.size)
   refine ⟨by simpa only [get] using h1, by simpa only [gok] using h2, us, ?_⟩
   simp only [res]; rw [h3, plus_plus, ← h]; simp [O.size]
  ·cases h
 | .l :: π, .fz (.p a b), n, h, x, vs, ad => by
  simp only [offO] at h
  obtain ⟨h1, h2, h3⟩ := off_res w π (.fz a) n h x.1 (vs.take a.size) ad
  exact ⟨by simpa only [get] using h1, by simpa only [gok] using h2, by simpa only [res] using h3⟩
 | .r :: π, .fz (.p a b), n, h, x, vs, ad => by
  simp only [offO] at h
  split at h
  ·rename_i m hm
   simp only [Option.some.injEq] at h
   obtain ⟨h1, h2, us, h3⟩ := off_res w π (.fz b) m hm x.2 (vs.drop a.size) (ad.plus a.size)
   refine ⟨by simpa only [get] using h1, by simpa only [gok] using h2, us, ?_⟩
   simp only [res]; rw [h3, plus_plus, ← h]; simp
  ·cases h
 | .l :: _, .sl _, _, h, _, _, _ => by simp [offO] at h
 | .l :: _, .pt _, _, h, _, _, _ => by simp [offO] at h
 | .l :: _, .fz (.int _), _, h, _, _, _ => by simp [offO] at h
 | .l :: _, .fz .bool, _, h, _, _, _ => by simp [offO] at h
 | .l :: _, .fz .str, _, h, _, _, _ => by simp [offO] at h
 | .l :: _, .fz .u, _, h, _, _, _ => by simp [offO] at h
 | .l :: _, .fz (.sl _), _, h, _, _, _ => by simp [offO] at h
 | .l :: _, .fz (.pt _), _, h, _, _, _ => by simp [offO] at h
 | .l :: _, .fz (.fn _ _), _, h, _, _, _ => by simp [offO] at h
 | .l :: _, .fz .any, _, h, _, _, _ => by simp [offO] at h
 | .r :: _, .sl _, _, h, _, _, _ => by simp [offO] at h
 | .r :: _, .pt _, _, h, _, _, _ => by simp [offO] at h
 | .r :: _, .fz (.int _), _, h, _, _, _ => by simp [offO] at h
 | .r :: _, .fz .bool, _, h, _, _, _ => by simp [offO] at h
 | .r :: _, .fz .str, _, h, _, _, _ => by simp [offO] at h
 | .r :: _, .fz .u, _, h, _, _, _ => by simp [offO] at h
 | .r :: _, .fz (.sl _), _, h, _, _, _ => by simp [offO] at h
 | .r :: _, .fz (.pt _), _, h, _, _, _ => by simp [offO] at h
 | .r :: _, .fz (.fn _ _), _, h, _, _, _ => by simp [offO] at h
 | .r :: _, .fz .any, _, h, _, _, _ => by simp [offO] at h
 | .ix _ :: _, _, _, h, _, _, _ => by simp [offO] at h
 | .de :: _, _, _, h, _, _, _ => by simp [offO] at h
theorem sameO_eq {a b : Option Nat} (h : sameO a b = true) : ∃ n, a = some n /\ b = some n := by
 cases a <;> cases b <;> simp [sameO] at h
 subst h; exact ⟨_, rfl, rfl⟩
theorem stat_some {π : Path} {o : O} {n : Nat} (h : stat π o = some n) : ∃ ρ o', π = .de :: ρ /\ o = .pt o' /\ offO ρ o' = some n := by
 unfold stat at h
 split at h
 ·exact ⟨_, _, rfl, rfl, h⟩
 ·cases h
structure Chg (w w' : World) (t : Nat -> Prop) : Prop where
 os : w'.os = w.os
 tape : TD w' w
 output : w'.output = w.output
 size : w'.heap.size = w.heap.size
 old : ∀ b, ¬ t b -> w'.heap[b]? = w.heap[b]?
section
variable {F : Fr} {p p' p'' : Ow} {env : Env} {M M' M'' : Mem} {a : Act} {w w' w'' : World}
theorem Tr.put (h : Hp F p M w) {k : Nat} {ob ob' n q : Ob} {π : Path} {us us' : List Value} {pl : Pl} {S' S'' L' : Nat -> Prop} (hk : go M k = some ob)
  (hsub : ∀ c, S' c -> p.σ k c) (hpl : heapy π = true -> ∃ b off cur ty', pl = some (b, off) /\ p.σ k b /\ ¬ S' b /\ w.heap[b]? = some (.cells cur ty' (0, 0)) /\ ∀ (j : Nat) (u : Value), us[j]? = some u -> cur[off + j]? = some u)
  (hwand : Wand (Imm F p M w) w π ob.o ob.x (p.σ k) S' q [p.β k] pl)
  (hset : set π ob.o ob.x n = some ob') (hsz : n.o.size = q.o.size) (hout : outV π ob.o [p.β k] us' = [p.β k])
  (hc : Chg w w' (fun b => heapy π = true /\ ∃ off, pl = some (b, off)))
  (hc0 : heapy π = true -> ∀ b off, pl = some (b, off) -> ∀ cur ty', w.heap[b]? = some (.cells cur ty' (0, 0)) -> w'.heap[b]? = some (.cells (splice cur.toList off us').toArray ty' (0, 0)))
  (hS : ∀ c, S'' c -> p.L c) (hL : ∀ c, L' c -> (p.L c ∨ S' c) /\ ¬ S'' c) (hg : (∃ c, L' c /\ S' c) -> k < gid)
  (hn : Keep (Imm F p M w) (Imm F ⟨p.β, fun j => if j = k then fun c => (p.σ k c /\ ¬ S' c) ∨ S'' c else p.σ j, L'⟩ (put k ob' M) w') w w' ->
   Rel (Imm F ⟨p.β, fun j => if j = k then fun c => (p.σ k c /\ ¬ S' c) ∨ S'' c else p.σ j, L'⟩ (put k ob' M) w') w' n.o n.x S'' us') :
  Tr F p M w [.cut k ob.o ob'.o] ⟨p.β, fun j => if j = k then fun c => (p.σ k c /\ ¬ S' c) ∨ S'' c else p.σ j, L'⟩ (put k ob' M) w' := by
 generalize hp' : (⟨p.β, fun j => if j = k then fun c => (p.σ k c /\ ¬ S' c) ∨ S'' c else p.σ j, L'⟩ : Ow) = p' at hn ⊢
 have hβ : p'.β = p.β := by rw [← hp']
 have hσk : p'.σ k = fun c => (p.σ k c /\ ¬ S' c) ∨ S'' c := by rw [← hp']; simp
 have hσ : ∀ j, j ≠ k -> p'.σ j = p.σ j := fun j hj => by rw [← hp']; simp [hj]
 have hL' : ∀ c, p'.L c -> (p.L c ∨ S' c) /\ ¬ S'' c := by rw [← hp']; exact hL
 have hgk : ∀ c, p'.L c -> S' c -> k < gid := fun c h1 h2 => hg ⟨c, by rw [← hp'] at h1; exact h1, h2⟩
 have hlk := go_live hk
 have htk : ∀ b, (heapy π = true /\ ∃ off, pl = some (b, off)) -> p.σ k b := fun b hb => by
  obtain ⟨b0, off, cur, ty', k1, k2, _⟩ := hpl hb.1
  obtain ⟨off', k3⟩ := hb.2
  rw [k1] at k3; cases k3; exact k2
 have hkeep : Keep (Imm F p M w) (Imm F p' (Bm.put k ob' M) w') w w' := fun b hb => by
  refine ⟨⟨by rw [hc.size]; exact hb.1, hb.2.1, fun hl => ?_, fun j hj => ?_⟩, hc.old b (fun ht => hb.2.2.2 k hlk (htk b ht))⟩
  ·rcases (hL' b hl).1 with h1 | h1
   ·exact hb.2.2.1 h1
   ·exact hb.2.2.2 k hlk (hsub b h1)
  ·by_cases e : j = k
   ·subst e
    rw [hσk]
    rintro (⟨h1, _⟩ | h1)
    ·exact hb.2.2.2 j hlk h1
    ·exact hb.2.2.1 (hS b h1)
   ·rw [hσ j e]; exact hb.2.2.2 j (live_put.1 hj)
 have hoth : ∀ j, j ≠ k -> Live M j -> ∀ b, p.σ j b -> w'.heap[b]? = w.heap[b]? := fun j hj hl b hb => hc.old b (fun ht => h.sep j k b hj hl hlk hb (htk b ht))
 have hwd := hwand (Imm F p' (Bm.put k ob' M) w') w' n S'' us' ob' hset hsz (hn hkeep) hkeep (fun c h1 h2 => ((h.lim c (hS c h1)).2.2 k hlk h2).elim) hc0
  (fun c h1 _ h3 => hc.old c (fun ht => h3 c ht.2.choose ht.2.choose_spec ht.1 rfl))
 rw [hout] at hwd
 refine Tr.one _ hkeep (fun j ρ vs r => ?_) (fun j ρ v r => ?_) ⟨fun j o hj => ?_, fun j j' b hne hj hj' hb => ?_, fun j b hj hb => ?_, fun b hb => ?_, hc.os.trans h.os, hc.tape.trans h.tape, hc.output.trans h.output, by rw [hc.size]; exact h.size, fun b hb hR => ?_⟩
 ·simp only [Ev.ref, beq_cond]
  by_cases e : j = k
  ·subst e
   rw [if_pos rfl]
   cases ρ with
   | nil =>
    simp only [nilP, cond_true, RelC]
    obtain ⟨o, pl0, k1, k2, k3, k4⟩ := r
    simp only [res, Option.some.injEq, Prod.mk.injEq] at k4
    obtain ⟨rfl, rfl⟩ := k4
    exact ⟨ob', none, go_put_self ob' M hlk, by simp only [gok], ⟨ob', by simp only [get]⟩, by simp only [res, hβ]⟩
   | cons s ρ => simp only [nilP, cond_false, RelC]; exact r.one h
  ·rw [if_neg e]; simp only [RelC]
   exact r.same h (go_put_ne ob' e M) (by rw [hβ]) (hoth j e)
 ·simp only [Ev.ad, beq_cond]
  by_cases e : j = k
  ·subst e
   rw [if_pos rfl]
   cases hs : sameO (stat ρ ob.o) (stat ρ ob'.o) with
   | false => simp only [cond_false, RelC]; intro u hu; rw [List.mem_singleton.1 hu]; exact r.one
   | true =>
    simp only [cond_true, RelC]
    refine ⟨v, rfl, ?_⟩
    obtain ⟨m, s1, s2⟩ := sameO_eq hs
    obtain ⟨o, us0, b0, off0, k1, k2, k3, k4, k5, rfl⟩ := r
    rw [hk] at k1; cases k1
    obtain ⟨ρ1, o1, rfl, e1, f1⟩ := stat_some s1
    obtain ⟨ρ2, o2, e2', e2, f2⟩ := stat_some s2
    simp only [List.cons.injEq, true_and] at e2'
    subst e2'
    obtain ⟨ox, xx⟩ := ob
    obtain ⟨ox', xx'⟩ := ob'
    simp only at e1 e2
    subst e1 e2
    have hr := h.objs j _ hk
    simp only [Rel] at hr
    obtain ⟨bb, us1, ty', S1, r1, r2, r3, r4, r5⟩ := hr
    simp only [List.cons.injEq, and_true] at r1
    rw [r1] at k5
    simp only [res] at k5
    obtain ⟨_, _, us2, q3⟩ := off_res w ρ1 o1 m f1 xx (cellsOf w bb 0 o1.size) (some (bb, 0))
    rw [q3] at k5
    simp only [Option.some.injEq, Prod.mk.injEq] at k5
    obtain ⟨q1, q2, us3, q3'⟩ := off_res w' ρ1 o2 m f2 xx' (cellsOf w' bb 0 o2.size) (some (bb, 0))
    refine ⟨_, us3, b0, off0, go_put_self _ M hlk, by simpa only [gok] using q2, by simpa only [get] using q1, by simp only [heapy], ?_, rfl⟩
    rw [hβ, r1]
    simp only [res]
    rw [q3', k5.2]
  ·rw [if_neg e]; simp only [RelC]
   exact ⟨v, rfl, r.same h (go_put_ne ob' e M) (by rw [hβ]) (hoth j e)⟩
 ·by_cases e : j = k
  ·subst e
   rw [go_put_self ob' M hlk] at hj
   cases hj
   rw [hβ, hσk]
   exact hwd.2
  ·rw [go_put_ne ob' e] at hj
   rw [hβ, hσ j e]
   exact Rel.keep hkeep _ _ _ _ (hoth j e (go_live hj)) (h.objs j o hj)
 ·have hj1 := live_put.1 hj
  have hj2 := live_put.1 hj'
  by_cases e : j = k
  ·rw [e, hσk] at hb
   rw [hσ j' (fun e' => hne (e.trans e'.symm))]
   rcases hb with ⟨h1, _⟩ | h1
   ·exact h.sep k j' b (fun e' => hne (e.trans e')) hlk hj2 h1
   ·exact (h.lim b (hS b h1)).2.2 j' hj2
  ·rw [hσ j e] at hb
   by_cases e' : j' = k
   ·rw [e', hσk]
    rintro (⟨h1, _⟩ | h1)
    ·exact h.sep j k b e hj1 hlk hb h1
    ·exact (h.lim b (hS b h1)).2.2 j hj1 hb
   ·rw [hσ j' e']; exact h.sep j j' b hne hj1 hj2 hb
 ·have hj1 := live_put.1 hj
  rw [hc.size]
  by_cases e : j = k
  ·rw [e, hσk] at hb
   rcases hb with ⟨h1, _⟩ | h1
   ·rw [e]; exact h.own k b hlk h1
   ·exact ⟨(h.lim b (hS b h1)).1, .inr (h.lim b (hS b h1)).2.1⟩
  ·rw [hσ j e] at hb; exact h.own j b hj1 hb
 ·obtain ⟨h1, h2⟩ := hL' b hb
  rw [hc.size]
  rcases h1 with h1 | h1
  ·refine ⟨(h.lim b h1).1, (h.lim b h1).2.1, fun j hj => ?_⟩
   by_cases e : j = k
   ·rw [e, hσk]
    rintro (⟨h3, _⟩ | h3)
    ·exact (h.lim b h1).2.2 k hlk h3
    ·exact h2 h3
   ·rw [hσ j e]; exact (h.lim b h1).2.2 j (live_put.1 hj)
  ·have ho := h.own k b hlk (hsub b h1)
   have hg' := hgk b hb h1
   refine ⟨ho.1, ho.2.elim (fun h => by have := h.1; omega) id, fun j hj => ?_⟩
   by_cases e : j = k
   ·rw [e, hσk]
    rintro (⟨_, h3⟩ | h3)
    ·exact h3 h1
    ·exact h2 h3
   ·rw [hσ j e]; exact h.sep k j b (Ne.symm e) hlk (live_put.1 hj) (hsub b h1)
 ·rw [hc.old b (fun ht => ?_)]
  ·exact h.old b hb hR
  ·rcases (h.own k b hlk (htk b ht)).2 with h1 | h1
   ·exact hR h1.2
   ·omega
end
end Go.Bm
/- The typed machine: what is handed on into a tree. -/
namespace Go.Bm
open Go.RowKit
theorem castT_some {a b : T} {x : a.den} {y : b.den} (h : castT b x = some y) : ∃ e : a = b, e ▸ x = y := by
 unfold castT at h
 split at h
 ·rename_i he
  cases h
  exact ⟨T.beq_eq he, rfl⟩
 ·cases h
theorem castO_self (o : O) (x : o.strip.den) : castO ⟨o, x⟩ o = some x := by
 unfold castO
 split
 ·rfl
 ·rename_i h; rw [O.beq_refl] at h; cases h
theorem put_put (k : Nat) (a b : Ob) : ∀ M : Mem, put k a (put k b M) = put k a M
 | [] => rfl
 | (j, x) :: r => by
  simp only [put, beq_cond]
  split
  ·simp only [put, beq_cond, if_true]
  ·rename_i h; simp only [put, beq_cond, if_neg h]; rw [put_put k a b r]
theorem castT_rel {Im : Nat -> Prop} {w : World} {a b : T} {x : a.den} {y : b.den} {vs : List Value} (h : castT b x = some y) (r : RelF Im w a x vs) : RelF Im w b y vs := by
 obtain ⟨rfl, rfl⟩ := castT_some h
 exact r
theorem castO_some {q : Ob} {o : O} {x : o.strip.den} (h : castO q o = some x) : q = ⟨o, x⟩ := by
 unfold castO at h
 split at h
 ·rename_i he
  cases h
  obtain ⟨qo, qx⟩ := q
  have := O.beq_eq he
  subst this
  rfl
 ·cases h
theorem splice_self {cur : List Value} {off : Nat} {us : List Value} (h : ∀ (j : Nat) (u : Value), us[j]? = some u -> cur[off + j]? = some u) : splice cur off us = cur := by
 rcases us.eq_nil_or_concat with rfl | ⟨_, _, hne⟩
 ·simp [splice]
 have hlen : off + us.length <= cur.length := by
  have hp : 0 < us.length := by rw [hne]; simp
  have := h (us.length - 1) us[us.length - 1] (List.getElem?_eq_getElem (by omega))
  have := (List.getElem?_eq_some_iff.1 this).1
  omega
 apply List.ext_getElem?
 intro j
 unfold splice
 by_cases q1 : j < off
 ·rw [List.append_assoc, List.getElem?_append_left (by simp; omega), List.getElem?_take, if_pos q1]
 ·by_cases q2 : j < off + us.length
  ·rw [List.getElem?_append_left (by simp; omega), List.getElem?_append_right (by simp; omega)]
   rw [show j - (List.take off cur).length = j - off by simp; omega, List.getElem?_eq_getElem (by omega : j - off < us.length)]
   have := h (j - off) us[j - off] (List.getElem?_eq_getElem (by omega))
   rw [show off + (j - off) = j by omega] at this
   rw [this]
  ·rw [List.getElem?_append_right (by simp; omega), List.getElem?_drop]
   congr 1; simp; omega
theorem Chg.refl (w : World) (t : Nat -> Prop) : Chg w w t := ⟨rfl, TD.refl w, rfl, rfl, fun _ _ => rfl⟩
section
variable {F : Fr} {p p' p'' : Ow} {env : Env} {M M' M'' : Mem} {a : Act} {w w' w'' : World}
theorem Tr.cut (h : Hp F p M w) {k : Nat} {ob ob' q : Ob} {π : Path} {us : List Value} {pl : Pl} (hk : go M k = some ob) (hg : k < gid) (h2 : gok π ob.o ob.x) (h3 : get π ob.o ob.x = some q)
  (h4 : res w π ob.o [p.β k] none = some (us, pl)) (hset : set π ob.o ob.x ⟨.fz q.o.hole, q.o.holeX q.x⟩ = some ob') :
  ∃ p' : Ow, ∃ S : Nat -> Prop, p'.β = p.β /\ (∀ b, p'.L b ↔ p.L b ∨ S b) /\ (∀ b, S b -> ¬ p.L b) /\ Tr F p M w [.cut k ob.o ob'.o] p' (Bm.put k ob' M) w /\ Rel (Imm F p' (Bm.put k ob' M) w) w q.o q.x S us := by
 obtain ⟨us0, pl0, S', e1, e2, e3, e4, e5, e6⟩ := look h hk h2 h3
 rw [e1] at h4
 cases h4
 have hl := go_live hk
 have hout : outV π ob.o [p.β k] us = [p.β k] := by
  cases hh : heapy π with
  | true => exact heapy_out π _ _ _ hh
  | false =>
   obtain ⟨n, k1, k2, k3, k4, k5⟩ := e5 hh
   rw [k5 us rfl]
   refine splice_self (fun j u hu => ?_)
   rw [k3, List.getElem?_take] at hu
   split at hu
   ·rw [List.getElem?_drop] at hu; exact hu
   ·cases hu
 have ht := Tr.put (S'' := fun _ => False) (L' := fun b => p.L b ∨ S' b) (us' := us) (w' := w) h hk e2 e4 e6 hset (by simp only [O.size, O.strip]; exact hole_size q.o) hout (Chg.refl w _)
  (fun hh b off hp cur ty' hb => by
   obtain ⟨b0, off0, cur0, ty0, k1, k2, k3, k4, k5⟩ := e4 hh
   rw [k1] at hp; cases hp
   rw [k4] at hb; cases hb
   rw [k4, splice_self (by simpa using k5)]) (fun c hc => hc.elim) (fun c hc => ⟨hc, fun h => h⟩) (fun _ => hg)
  (fun hk' => by
   simp only [Rel]
   exact hole_rel q.o q.x (fun b => S' b) us (Rel.keep hk' _ _ _ _ (fun _ _ => rfl) e3))
 exact ⟨⟨p.β, _, fun b => p.L b ∨ S' b⟩, S', rfl, fun b => Iff.rfl, fun b hb hL => (h.lim b hL).2.2 k hl (e2 b hb), ht, Rel.keep ht.keep _ _ _ _ (fun _ _ => rfl) e3⟩
theorem frzV_ok : (v : V) -> (M : Mem) -> Hp F p M w -> Tr F p M w (frzV M v).1 p (frzV M v).2 w
 | .ref k _, M, h => by
  simp only [frzV]
  split
  ·rename_i ob hk; exact Tr.frz h k ob hk
  ·exact Tr.refl h
 | .ad k _, M, h => by
  simp only [frzV]
  split
  ·rename_i ob hk; exact Tr.frz h k ob hk
  ·exact Tr.refl h
 | .p a b, M, h => by
  simp only [frzV]
  have h1 := frzV_ok a M h
  have h2 := frzV_ok b _ h1.hp
  exact h1.trans h2
 | .ag v, M, h => by simp only [frzV]; exact frzV_ok v M h
 | .fn _ v, M, h => by simp only [frzV]; exact frzV_ok v M h
 | .ifc _ v, M, h => by simp only [frzV]; exact frzV_ok v M h
 | .bx v, M, h => by simp only [frzV]; exact frzV_ok v M h
 | .tup v, M, h => by simp only [frzV]; exact frzV_ok v M h
 | .gd _ _ _ v, M, h => by simp only [frzV]; exact frzV_ok v M h
 | .any, M, h => by simp only [frzV]; exact Tr.refl h
 | .nl, M, h => by simp only [frzV]; exact Tr.refl h
 | .np, M, h => by simp only [frzV]; exact Tr.refl h
 | .u, M, h => by simp only [frzV]; exact Tr.refl h
 | .d _ _, M, h => by simp only [frzV]; exact Tr.refl h
theorem frzV_fr : (v : V) -> (M : Mem) -> ((frzV M v).1 = [] /\ (frzV M v).2 = M) ∨ ∃ x r, (frzV M v).1 = x :: r /\ fresh M [x] = false
 | .ref k _, M => by
  simp only [frzV]
  split
  ·exact .inr ⟨_, _, rfl, rfl⟩
  ·exact .inl ⟨rfl, rfl⟩
 | .ad k _, M => by
  simp only [frzV]
  split
  ·exact .inr ⟨_, _, rfl, rfl⟩
  ·exact .inl ⟨rfl, rfl⟩
 | .p a b, M => by
  simp only [frzV]
  rcases frzV_fr a M with ⟨h1, h2⟩ | ⟨x, r, h1, h2⟩
  ·rw [h1, h2]; simp only [ap]; exact frzV_fr b M
  ·exact .inr ⟨x, _, by rw [h1]; rfl, h2⟩
 | .ag v, M => by simp only [frzV]; exact frzV_fr v M
 | .fn _ v, M => by simp only [frzV]; exact frzV_fr v M
 | .ifc _ v, M => by simp only [frzV]; exact frzV_fr v M
 | .bx v, M => by simp only [frzV]; exact frzV_fr v M
 | .tup v, M => by simp only [frzV]; exact frzV_fr v M
 | .gd _ _ _ v, M => by simp only [frzV]; exact frzV_fr v M
 | .any, M => by simp [frzV]
 | .nl, M => by simp [frzV]
 | .np, M => by simp [frzV]
 | .u, M => by simp [frzV]
 | .d _ _, M => by simp [frzV]
def Thin (M M' : Mem) : Prop := ∀ k, go M' k = none ∨ go M' k = go M k
theorem Thin.refl (M : Mem) : Thin M M := fun _ => .inr rfl
theorem Thin.trans {M M' M'' : Mem} (h : Thin M M') (k : Thin M' M'') : Thin M M'' := fun j => by
 rcases k j with e | e
 ·exact .inl e
 ·rcases h j with e' | e'
  ·exact .inl (by rw [e, e'])
  ·exact .inr (by rw [e, e'])
theorem thin_del (k : Nat) (M : Mem) : Thin M (del k M) := fun j => by
 by_cases e : j = k
 ·subst e; exact .inl (go_del_self j M)
 ·exact .inr (go_del_ne e M)
theorem frzV_thin : (v : V) -> (M : Mem) -> Thin M (frzV M v).2
 | .ref k _, M => by
  simp only [frzV]
  split
  ·exact thin_del k M
  ·exact Thin.refl M
 | .ad k _, M => by
  simp only [frzV]
  split
  ·exact thin_del k M
  ·exact Thin.refl M
 | .p a b, M => by simp only [frzV]; exact (frzV_thin a M).trans (frzV_thin b _)
 | .ag v, M => by simp only [frzV]; exact frzV_thin v M
 | .fn _ v, M => by simp only [frzV]; exact frzV_thin v M
 | .ifc _ v, M => by simp only [frzV]; exact frzV_thin v M
 | .bx v, M => by simp only [frzV]; exact frzV_thin v M
 | .tup v, M => by simp only [frzV]; exact frzV_thin v M
 | .gd _ _ _ v, M => by simp only [frzV]; exact frzV_thin v M
 | .any, M => by simp only [frzV]; exact Thin.refl M
 | .nl, M => by simp only [frzV]; exact Thin.refl M
 | .np, M => by simp only [frzV]; exact Thin.refl M
 | .u, M => by simp only [frzV]; exact Thin.refl M
 | .d _ _, M => by simp only [frzV]; exact Thin.refl M
theorem ns_sl {Im : Nat -> Prop} {w : World} {a : T} {x : Option (List a.den)} {vs : List Value} (r : RelF Im w (.ns (.sl a)) x vs) : RelF Im w (.sl a) (x.getD []) vs := by
 simp only [RelF] at r
 rcases r with ⟨rfl, rfl⟩ | ⟨y, b, n, c, rfl, rfl, r⟩
 ·simp only [RelF, Option.getD_none, List.length_nil]
  exact ⟨none, 0, rfl, ⟨Nat.zero_le _, Nat.le_refl _⟩, fun _ => ⟨trivial, rfl⟩, fun a ha => by cases ha⟩
 ·simpa only [RelF, Option.getD_some] using r
theorem asD_rel {Im : Nat -> Prop} {w : World} {a b : T} {x : a.den} {y : b.den} {vs : List Value} (h : asD a x b = some y) (r : RelF Im w a x vs) : RelF Im w b y vs := by
 unfold asD at h
 split at h
 ·exact castT_rel h (ns_sl r)
 ·refine castT_rel h ?_
  rename_i a x b
  simp only [RelF] at r
  obtain ⟨oa, cap, h1, h2, h3, h4⟩ := r
  unfold RelF
  have hl : (clsR ([] : List a.den) x).length = x.length := by simp [clsR]
  refine ⟨oa, cap, by rw [hl]; exact h1, by rw [hl]; exact h2, fun h => by rw [hl]; exact h3 h, fun ad ha hp => ?_⟩
  rw [hl] at hp
  obtain ⟨k1, k2, k3⟩ := h4 ad ha hp
  refine ⟨k1, k2, fun i z hz => ?_⟩
  simp only [clsR, List.getElem?_map] at hz
  cases hx : x[i]? with
  | none => rw [hx] at hz; cases hz
  | some q =>
   rw [hx] at hz
   simp only [Option.map_some, Option.some.injEq] at hz
   subst hz
   obtain ⟨us, u1, u2⟩ := k3 i q hx
   exact ⟨us, u1, ns_sl (by simpa only [RelF] using u2)⟩
 ·exact castT_rel h r
theorem as_ok {β : Nat -> Value} {Im : Nat -> Prop} : (v : V) -> (t : T) -> (vs : List Value) -> (x : t.den) -> RelC β M Im w v vs -> v.as t = some x -> RelF Im w t x vs
 | .d s y, t, vs, x, r, h => by simp only [RelC] at r; simp only [V.as] at h; exact asD_rel h r
 | .p a b, .p t s, vs, x, r, h => by
  simp only [RelC] at r
  simp only [V.as] at h
  split at h
  ·rename_i y z hy hz
   cases h
   obtain ⟨va, vb, h1, h2, h3⟩ := r
   simp only [RelF]
   exact ⟨va, vb, h1, as_ok a t va y h2 hy, as_ok b s vb z h3 hz⟩
  ·cases h
 | .nl, .sl _, vs, x, r, h => by
  simp only [RelC] at r
  simp only [V.as, Option.some.injEq] at h
  subst h
  simp only [RelF]
  obtain ⟨oa, r⟩ := r
  exact ⟨oa, 0, r, ⟨Nat.zero_le _, Nat.le_refl _⟩, fun _ => ⟨rfl, rfl⟩, fun a ha hpos => absurd hpos (Nat.lt_irrefl 0)⟩
 | .u, .u, vs, x, r, h => by simp only [RelC] at r; simp only [RelF]; exact r
 | .np, .any, vs, x, r, h => by simp only [RelC] at r; simp only [RelF]; exact ⟨_, r, rfl⟩
 | .bx v, .pt t, vs, x, r, h => by
  simp only [V.as] at h
  simp only [RelC] at r
  obtain ⟨b, o, us, h1, h2, h3, h4⟩ := r
  simp only [RelF]
  exact ⟨b, o, us, h1, h2, h3, as_ok v t us x h4 h⟩
 | .fn f v, .fn f' t, vs, x, r, h => by
  simp only [RelC] at r
  simp only [V.as, beq_cond] at h
  split at h
  ·rename_i e
   subst e
   obtain ⟨us, h1, h2⟩ := r
   simp only [RelF]
   exact ⟨us, h1, as_ok v t us x h2 h⟩
  ·cases h
 | .p _ _, .int _, _, _, _, h => by simp [V.as] at h
 | .p _ _, .bool, _, _, _, h => by simp [V.as] at h
 | .p _ _, .str, _, _, _, h => by simp [V.as] at h
 | .p _ _, .u, _, _, _, h => by simp [V.as] at h
 | .p _ _, .sl _, _, _, _, h => by simp [V.as] at h
 | .p _ _, .pt _, _, _, _, h => by simp [V.as] at h
 | .p _ _, .fn _ _, _, _, _, h => by simp [V.as] at h
 | .p _ _, .any, _, _, _, h => by simp [V.as] at h
 | .nl, .int _, _, _, _, h => by simp [V.as] at h
 | .nl, .bool, _, _, _, h => by simp [V.as] at h
 | .nl, .str, _, _, _, h => by simp [V.as] at h
 | .nl, .u, _, _, _, h => by simp [V.as] at h
 | .nl, .p _ _, _, _, _, h => by simp [V.as] at h
 | .nl, .pt _, _, _, _, h => by simp [V.as] at h
 | .nl, .fn _ _, _, _, _, h => by simp [V.as] at h
 | .nl, .any, _, _, _, h => by simp [V.as] at h
 | .u, .int _, _, _, _, h => by simp [V.as] at h
 | .u, .bool, _, _, _, h => by simp [V.as] at h
 | .u, .str, _, _, _, h => by simp [V.as] at h
 | .u, .sl _, _, _, _, h => by simp [V.as] at h
 | .u, .p _ _, _, _, _, h => by simp [V.as] at h
 | .u, .pt _, _, _, _, h => by simp [V.as] at h
 | .u, .fn _ _, _, _, _, h => by simp [V.as] at h
 | .u, .any, _, _, _, h => by simp [V.as] at h
 | .np, .int _, _, _, _, h => by simp [V.as] at h
 | .np, .bool, _, _, _, h => by simp [V.as] at h
 | .np, .str, _, _, _, h => by simp [V.as] at h
 | .np, .sl _, _, _, _, h => by simp [V.as] at h
 | .np, .p _ _, _, _, _, h => by simp [V.as] at h
 | .np, .pt _, _, _, _, h => by simp [V.as] at h
 | .np, .fn _ _, _, _, _, h => by simp [V.as] at h
 | .np, .u, _, _, _, h => by simp [V.as] at h
 | .fn _ _, .int _, _, _, _, h => by simp [V.as] at h
 | .fn _ _, .bool, _, _, _, h => by simp [V.as] at h
 | .fn _ _, .str, _, _, _, h => by simp [V.as] at h
 | .fn _ _, .sl _, _, _, _, h => by simp [V.as] at h
 | .fn _ _, .p _ _, _, _, _, h => by simp [V.as] at h
 | .fn _ _, .pt _, _, _, _, h => by simp [V.as] at h
 | .fn _ _, .u, _, _, _, h => by simp [V.as] at h
 | .fn _ _, .any, _, _, _, h => by simp [V.as] at h
 | .bx _, .int _, _, _, _, h => by simp [V.as] at h
 | .bx _, .bool, _, _, _, h => by simp [V.as] at h
 | .bx _, .str, _, _, _, h => by simp [V.as] at h
 | .bx _, .sl _, _, _, _, h => by simp [V.as] at h
 | .bx _, .p _ _, _, _, _, h => by simp [V.as] at h
 | .bx _, .fn _ _, _, _, _, h => by simp [V.as] at h
 | .bx _, .u, _, _, _, h => by simp [V.as] at h
 | .bx _, .any, _, _, _, h => by simp [V.as] at h
 | .any, _, _, _, _, h => by simp [V.as] at h
 | .ref _ _, _, _, _, _, h => by simp [V.as] at h
 | .ad _ _, _, _, _, _, h => by simp [V.as] at h
 | .ag _, _, _, _, r, h => by simp [V.as] at h
 | .tup _, _, _, _, r, h => by simp [V.as] at h
 | .gd _ _ _ _, _, _, _, r, h => by simp [V.as] at h
 | .ifc f v, .ifc f' t, vs, x, r, h => by
  simp only [RelC] at r
  simp only [V.as, beq_cond] at h
  split at h
  ·rename_i e
   subst e
   obtain ⟨u, h1, h2⟩ := r
   simp only [RelF]
   exact ⟨u, h1, as_ok v t [u] x h2 h⟩
  ·cases h
 | .ifc _ _, .int _, _, _, _, h => by simp [V.as] at h
 | .ifc _ _, .bool, _, _, _, h => by simp [V.as] at h
 | .ifc _ _, .str, _, _, _, h => by simp [V.as] at h
 | .ifc _ _, .sl _, _, _, _, h => by simp [V.as] at h
 | .ifc _ _, .p _ _, _, _, _, h => by simp [V.as] at h
 | .ifc _ _, .pt _, _, _, _, h => by simp [V.as] at h
 | .ifc _ _, .u, _, _, _, h => by simp [V.as] at h
 | .ifc _ _, .any, _, _, _, h => by simp [V.as] at h
 | .ifc _ _, .fn _ _, _, _, _, h => by simp [V.as] at h
structure Cv (F : Fr) (p : Ow) (M : Mem) (w : World) (k : Nat) (q : Ob) (e : List Ev) (vs : List Value) (p' : Ow) (M' : Mem) (S : Nat -> Prop) : Prop where
 β : p'.β = p.β
 L : ∀ b, p'.L b ↔ p.L b ∨ S b
 sp : ∀ b, S b -> ¬ p.L b
 tr : Tr F p M w e p' M' w
 rel : Rel (Imm F p' M' w) w q.o q.x S vs
 fr : (e = [] /\ M' = M /\ p' = p) ∨ ∃ x r, e = x :: r /\ fresh M [x] = false
theorem Cv.dat (h : Hp F p M w) (k : Nat) {t : T} {x : t.den} {vs : List Value} (r : RelF (Imm F p M w) w t x vs) : Cv F p M w k ⟨.fz t, x⟩ [] vs p M (fun _ => False) :=
 ⟨rfl, fun b => by simp, fun b hb => hb.elim, Tr.refl h, by simp only [Rel]; exact r, .inl ⟨rfl, rfl, rfl⟩⟩
theorem Cv.frz (h : Hp F p M w) (k : Nat) {r : Nat} {ob : Ob} (hk : go M r = some ob) {t : T} {x : t.den} {vs : List Value} (hr : RelF (Imm F p (del r M) w) w t x vs) : Cv F p M w k ⟨.fz t, x⟩ [.fz r ob] vs p (del r M) (fun _ => False) :=
 ⟨rfl, fun b => by simp, fun b hb => hb.elim, Tr.frz h r ob hk, by simp only [Rel]; exact hr, .inr ⟨_, _, rfl, rfl⟩⟩
theorem Cv.whole (h : Hp F p M w) (k : Nat) {r : Nat} {ob : Ob} (hk : go M r = some ob) (hg : r < gid) : Cv F p M w k ob [.kl r] [p.β r] ⟨p.β, p.σ, fun b => p.L b ∨ p.σ r b⟩ (del r M) (p.σ r) :=
 ⟨rfl, fun b => Iff.rfl, fun b hb hL => (h.lim b hL).2.2 r (go_live hk) hb, Tr.lim h r (go_live hk) hg, Rel.keep (Tr.lim h r (go_live hk) hg).keep _ _ _ _ (fun _ _ => rfl) (h.objs r ob hk), .inr ⟨_, _, rfl, by simp [fresh, hk, isN]⟩⟩
theorem okId_some {r k : Nat} (h : neg (okId r k) = false) : r ≠ k /\ r < gid := by
 simp only [neg_eq, okId, allT] at h
 cases h1 : Nat.beq r k with
 | true => simp [h1] at h
 | false =>
  cases h2 : Nat.ble (Nat.succ r) gid with
  | false => simp [h1, h2] at h
  | true => exact ⟨fun e => by subst e; simp at h1, Nat.le_of_ble_eq_true h2⟩
theorem nil_row (w : World) (ety : TypeId) (sz : Nat) (oa : Option Addr) : OwnRow w ety sz (.slice oa 0 0) 0 [] := ⟨by simp, .inl ⟨rfl, oa, rfl⟩⟩
theorem nil_rel {Im : Nat -> Prop} (e : O) (oa : Option Addr) : Rel Im w (.sl e) ([] : List e.strip.den) (fun _ => False) [.slice oa 0 0] := by
 simp only [Rel]
 refine ⟨_, 0, [], fun _ _ => False, rfl, nil_row w 0 e.size oa, Nat.zero_le _, ?_, ?_, ?_, ?_⟩
 ·intro c hc; cases oa <;> cases hc
 ·intro i c hc; exact hc.elim
 ·intro i j c _ hc; exact hc.elim
 ·intro i x hx; simp at hx
theorem frz_part (h : Hp F p M w) {r : Nat} {ob q : Ob} {ρ : Path} {vs : List Value} (hk : go M r = some ob) (hq : get ρ ob.o ob.x = some q) (hr : Ref p.β M w r ρ vs) : RelF (Imm F p (del r M) w) w q.o.strip q.x vs := by
 obtain ⟨ob', pl, h1, h2, ⟨q', h3⟩, h4⟩ := hr
 rw [hk] at h1; cases h1
 obtain ⟨us, pl', S', e1, e2, e3, _⟩ := look h hk h2 hq
 rw [e1] at h4
 cases h4
 exact Rel.frz (fun b hb => ((h.del r).2 b hb).1) _ _ S' _ (fun b hb => imm_del h (go_live hk) (e2 b hb)) e3
theorem frz_addr (h : Hp F p M w) {r : Nat} {ob q : Ob} {ρ : Path} {v : Value} (hk : go M r = some ob) (hq : get ρ ob.o ob.x = some q) (hr : Adr p.β M w r ρ v) : RelF (Imm F p (del r M) w) w (.pt q.o.strip) q.x [v] := by
 obtain ⟨ob', us0, b0, off0, h1, h2, ⟨q', h3⟩, h4, h5, rfl⟩ := hr
 rw [hk] at h1; cases h1
 obtain ⟨us, pl', S', e1, e2, e3, e4, _⟩ := look h hk h2 hq
 rw [e1] at h5
 simp only [Option.some.injEq, Prod.mk.injEq] at h5
 obtain ⟨rfl, rfl⟩ := h5
 obtain ⟨b, off, cur, ty', k1, k2, k3, k4, k5⟩ := e4 h4
 simp only [Option.some.injEq, Prod.mk.injEq] at k1
 obtain ⟨rfl, rfl⟩ := k1
 simp only [RelF]
 refine ⟨b0, off0, us, rfl, imm_del h (go_live hk) k2, fun j' u hu => ?_, Rel.frz (fun b hb => ((h.del r).2 b hb).1) _ _ S' _ (fun b hb => imm_del h (go_live hk) (e2 b hb)) e3⟩
 rw [cell_of_row w b0 _ cur ty' (0, 0) k4]
 exact k5 j' u hu
theorem conv_ref (h : Hp F p M w) (k r : Nat) (ρ : Path) (vs : List Value) (q : Ob) (e : List Ev) (M' : Mem) (hr : Ref p.β M w r ρ vs)
  (hc : convRef k r ρ M = some (q, e, M')) : go M' k = go M k /\ ∃ p' S, Cv F p M w k q e vs p' M' S := by
 unfold convRef at hc
 cases hok : neg (okId r k) with
 | true => rw [hok] at hc; simp at hc
 | false =>
  rw [hok] at hc
  obtain ⟨hne, hg⟩ := okId_some hok
  simp only [cond_false] at hc
  split at hc
  ·rename_i ob hob
   split at hc
   ·rename_i q1 hq1
    split at hc
    ·cases hc
     refine ⟨go_del_ne (Ne.symm hne) M, ?_⟩
     obtain ⟨ob', pl, h1, h2, h3, h4⟩ := hr
     simp only [res, Option.some.injEq, Prod.mk.injEq] at h4
     obtain ⟨rfl, rfl⟩ := h4
     simp only [get, Option.some.injEq] at hq1
     subst hq1
     exact ⟨_, _, Cv.whole h k hob hg⟩
    ·cases hix : hasIx ρ with
     | true =>
      rw [hix] at hc
      simp only [cond_true, Option.some.injEq, Prod.mk.injEq] at hc
      obtain ⟨rfl, rfl, rfl⟩ := hc
      exact ⟨go_del_ne (Ne.symm hne) M, _, _, Cv.frz h k hob (frz_part h hob hq1 hr)⟩
     | false =>
      rw [hix] at hc
      simp only [cond_false] at hc
      split at hc
      ·rename_i ob' hset
       simp only [Option.some.injEq, Prod.mk.injEq] at hc
       obtain ⟨rfl, rfl, rfl⟩ := hc
       refine ⟨go_put_ne ob' (Ne.symm hne) M, ?_⟩
       obtain ⟨ob0, pl, h1, h2, h3, h4⟩ := hr
       rw [hob] at h1; cases h1
       obtain ⟨p', S, k1, k2, k3, k4, k5⟩ := Tr.cut h hob hg h2 hq1 h4 hset
       exact ⟨p', S, k1, k2, k3, k4, k5, .inr ⟨_, _, rfl, rfl⟩⟩
      ·cases hc
   ·cases hc
  ·cases hc
theorem conv_ad (h : Hp F p M w) (k r : Nat) (ρ : Path) (v : Value) (q : Ob) (e : List Ev) (M' : Mem) (hr : Adr p.β M w r ρ v)
  (hc : convAd k r ρ M = some (q, e, M')) : go M' k = go M k /\ ∃ p' S, Cv F p M w k q e [v] p' M' S := by
 unfold convAd at hc
 cases hok : neg (okId r k) with
 | true => rw [hok] at hc; simp at hc
 | false =>
  rw [hok] at hc
  obtain ⟨hne, hg⟩ := okId_some hok
  simp only [cond_false] at hc
  split at hc
  ·rename_i o x hob
   cases hc
   refine ⟨go_del_ne (Ne.symm hne) M, ?_⟩
   obtain ⟨ob', us0, b0, off0, h1, h2, h3, h4, h5, rfl⟩ := hr
   rw [hob] at h1; cases h1
   have hrr := h.objs r _ hob
   simp only [Rel] at hrr
   obtain ⟨bb, us1, ty', S1, r1, r2, r3, r4, r5⟩ := hrr
   simp only [List.cons.injEq, and_true] at r1
   rw [r1] at h5
   simp only [res, Option.some.injEq, Prod.mk.injEq] at h5
   obtain ⟨_, rfl, rfl⟩ := h5
   rw [← r1]
   exact ⟨_, _, Cv.whole h k hob hg⟩
  ·rename_i ob hob _
   split at hc
   ·rename_i q1 hq1
    simp only [Option.some.injEq, Prod.mk.injEq] at hc
    obtain ⟨rfl, rfl, rfl⟩ := hc
    exact ⟨go_del_ne (Ne.symm hne) M, _, _, Cv.frz h k hob (frz_addr h hob hq1 hr)⟩
   ·cases hc
  ·cases hc
theorem Cv.pair {k : Nat} {q q' : Ob} {e e' : List Ev} {va vb : List Value} {S S' : Nat -> Prop} (h : Cv F p M w k q e va p' M' S) (h' : Cv F p' M' w k q' e' vb p'' M'' S') :
  Cv F p M w k (mkP q q') (ap e e') (va ++ vb) p'' M'' (fun b => S b ∨ S' b) := by
 refine ⟨h'.β.trans h.β, fun b => by rw [h'.L, h.L, or_assoc], fun b hb => ?_, h.tr.trans h'.tr, ?_, ?_⟩
 ·rcases hb with hb | hb
  ·exact h.sp b hb
  ·exact fun hL => h'.sp b hb ((h.L b).2 (.inl hL))
 ·exact mkP_rel (fun c hc => .inl hc) (fun c hc => .inr hc) (fun c hc hc' => h'.sp c hc' ((h.L c).2 (.inr hc))) (Rel.keep h'.tr.keep _ _ _ _ (fun _ _ => rfl) h.rel) h'.rel
 ·rcases h.fr with ⟨rfl, rfl, rfl⟩ | ⟨x, r, rfl, hx⟩
  ·exact h'.fr
  ·exact .inr ⟨x, ap r e', rfl, hx⟩
theorem conv_ok (k : Nat) : (t : T) -> (v : V) -> (M : Mem) -> (p : Ow) -> (vs : List Value) -> (q : Ob) -> (e : List Ev) -> (M' : Mem) -> Hp F p M w -> RelC p.β M (Imm F p M w) w v vs -> conv k t v M = some (q, e, M') -> go M' k = go M k /\ ∃ p' S, Cv F p M w k q e vs p' M' S
 | t, .ref r ρ, M, p, vs, q, e, M', h, hr, hc => by
  simp only [RelC] at hr
  refine conv_ref h k r ρ vs q e M' hr ?_
  cases t <;> simpa only [conv] using hc
 | t, .ad r ρ, M, p, vs, q, e, M', h, hr, hc => by
  simp only [RelC] at hr
  obtain ⟨v, rfl, hr⟩ := hr
  refine conv_ad h k r ρ v q e M' hr ?_
  cases t <;> simpa only [conv] using hc
 | t, .d s x, M, p, vs, q, e, M', h, hr, hc => by
  simp only [RelC] at hr
  have : conv k t (.d s x) M = some (⟨.fz s, x⟩, [], M) := by cases t <;> simp only [conv]
  rw [this] at hc
  cases hc
  exact ⟨rfl, _, _, Cv.dat h k hr⟩
 | t, .u, M, p, vs, q, e, M', h, hr, hc => by
  simp only [RelC] at hr
  have : conv k t .u M = some (⟨.fz .u, ()⟩, [], M) := by cases t <;> simp only [conv]
  rw [this] at hc
  cases hc
  exact ⟨rfl, _, _, Cv.dat h k (by simp only [RelF]; exact hr)⟩
 | t, .np, M, p, vs, q, e, M', h, hr, hc => by
  simp only [RelC] at hr
  have : conv k t .np M = some (⟨.fz .any, ()⟩, [], M) := by cases t <;> simp only [conv]
  rw [this] at hc
  cases hc
  exact ⟨rfl, _, _, Cv.dat h k (by simp only [RelF]; exact ⟨_, hr, rfl⟩)⟩
 | .sl t, .nl, M, p, vs, q, e, M', h, hr, hc => by
  simp only [RelC] at hr
  simp only [conv, Option.some.injEq, Prod.mk.injEq] at hc
  obtain ⟨rfl, rfl, rfl⟩ := hc
  obtain ⟨oa, rfl⟩ := hr
  exact ⟨rfl, p, fun _ => False, rfl, fun b => by simp, fun b hb => hb.elim, Tr.refl h, nil_rel t.deep oa, .inl ⟨rfl, rfl, rfl⟩⟩
 | t, .fn f .u, M, p, vs, q, e, M', h, hr, hc => by
  simp only [RelC] at hr
  have : conv k t (.fn f .u) M = some (⟨.fz (.fn f .u), ()⟩, [], M) := by cases t <;> simp only [conv]
  rw [this] at hc
  cases hc
  refine ⟨rfl, _, _, Cv.dat h k ?_⟩
  simp only [RelF]
  exact hr
 | .p t s, .p a b, M, p, vs, q, e, M', h, hr, hc => by
  simp only [RelC] at hr
  obtain ⟨va, vb, rfl, ha, hb⟩ := hr
  simp only [conv] at hc
  split at hc
  ·rename_i q1 e1 M1 hc1
   split at hc
   ·rename_i q2 e2 M2 hc2
    simp only [Option.some.injEq, Prod.mk.injEq] at hc
    obtain ⟨rfl, rfl, rfl⟩ := hc
    obtain ⟨g1, p1, S1, c1⟩ := conv_ok k t a M p va q1 e1 M1 h ha hc1
    obtain ⟨g2, p2, S2, c2⟩ := conv_ok k s (b.evs e1) M1 p1 vb q2 e2 M2 c1.tr.hp (c1.tr.c _ _ hb) hc2
    exact ⟨g2.trans g1, p2, _, c1.pair c2⟩
   ·cases hc
  ·cases hc
 | .int _, .p _ _, _, _, _, _, _, _, _, _, h => by simp [conv] at h
 | .bool, .p _ _, _, _, _, _, _, _, _, _, h => by simp [conv] at h
 | .str, .p _ _, _, _, _, _, _, _, _, _, h => by simp [conv] at h
 | .u, .p _ _, _, _, _, _, _, _, _, _, h => by simp [conv] at h
 | .sl _, .p _ _, _, _, _, _, _, _, _, _, h => by simp [conv] at h
 | .pt _, .p _ _, _, _, _, _, _, _, _, _, h => by simp [conv] at h
 | .fn _ _, .p _ _, _, _, _, _, _, _, _, _, h => by simp [conv] at h
 | .any, .p _ _, _, _, _, _, _, _, _, _, h => by simp [conv] at h
 | .int _, .nl, _, _, _, _, _, _, _, _, h => by simp [conv] at h
 | .bool, .nl, _, _, _, _, _, _, _, _, h => by simp [conv] at h
 | .str, .nl, _, _, _, _, _, _, _, _, h => by simp [conv] at h
 | .u, .nl, _, _, _, _, _, _, _, _, h => by simp [conv] at h
 | .p _ _, .nl, _, _, _, _, _, _, _, _, h => by simp [conv] at h
 | .pt _, .nl, _, _, _, _, _, _, _, _, h => by simp [conv] at h
 | .fn _ _, .nl, _, _, _, _, _, _, _, _, h => by simp [conv] at h
 | .any, .nl, _, _, _, _, _, _, _, _, h => by simp [conv] at h
 | t, .fn _ (.p _ _), _, _, _, _, _, _, _, _, h => by cases t <;> simp [conv] at h
 | t, .fn _ .any, _, _, _, _, _, _, _, _, h => by cases t <;> simp [conv] at h
 | t, .fn _ .nl, _, _, _, _, _, _, _, _, h => by cases t <;> simp [conv] at h
 | t, .fn _ .np, _, _, _, _, _, _, _, _, h => by cases t <;> simp [conv] at h
 | t, .fn _ (.d _ _), _, _, _, _, _, _, _, _, h => by cases t <;> simp [conv] at h
 | t, .fn _ (.ref _ _), _, _, _, _, _, _, _, _, h => by cases t <;> simp [conv] at h
 | t, .fn _ (.ad _ _), _, _, _, _, _, _, _, _, h => by cases t <;> simp [conv] at h
 | t, .fn _ (.ag _), _, _, _, _, _, _, _, _, h => by cases t <;> simp [conv] at h
 | t, .fn _ (.tup _), _, _, _, _, _, _, _, _, h => by cases t <;> simp [conv] at h
 | t, .fn _ (.gd _ _ _ _), _, _, _, _, _, _, _, _, h => by cases t <;> simp [conv] at h
 | t, .fn _ (.fn _ _), _, _, _, _, _, _, _, _, h => by cases t <;> simp [conv] at h
 | t, .fn _ (.ifc _ _), _, _, _, _, _, _, _, _, h => by cases t <;> simp [conv] at h
 | t, .fn _ (.bx _), _, _, _, _, _, _, _, _, h => by cases t <;> simp [conv] at h
 | t, .any, _, _, _, _, _, _, _, _, h => by cases t <;> simp [conv] at h
 | t, .ag _, _, _, _, _, _, _, _, _, h => by cases t <;> simp [conv] at h
 | t, .tup _, _, _, _, _, _, _, _, _, h => by cases t <;> simp [conv] at h
 | t, .gd _ _ _ _, _, _, _, _, _, _, _, _, h => by cases t <;> simp [conv] at h
 | t, .ifc _ _, _, _, _, _, _, _, _, _, h => by cases t <;> simp [conv] at h
 | t, .bx _, _, _, _, _, _, _, _, _, h => by cases t <;> simp [conv] at h
termination_by t => SizeOf.sizeOf t
theorem convW0_ok (h : Hp F p M w) (k : Nat) (o : O) (v : V) (vs : List Value) (x : o.strip.den) (e : List Ev) (hr : RelC p.β M (Imm F p M w) w v vs) (hc : convW0 k o v M = some (x, e, M')) :
  (go M' k = none ∨ go M' k = go M k) /\ ∃ p' S, Cv F p M w k ⟨o, x⟩ e vs p' M' S := by
 have key : ∀ r, (match conv k o.strip v M with
  | some (q, e, M') => (match castO q o with | some x => some (x, e, M') | none => none)
  | none => none) = some r -> r = (x, e, M') -> (go M' k = none ∨ go M' k = go M k) /\ ∃ p' S, Cv F p M w k ⟨o, x⟩ e vs p' M' S := by
  intro r hr1 hr2
  split at hr1
  ·rename_i q e1 M1 hc1
   split at hr1
   ·rename_i y hy
    cases hr1
    cases hr2
    obtain ⟨g, p', S, c⟩ := conv_ok k o.strip v M p vs q e M' h hr hc1
    rw [castO_some hy] at c
    exact ⟨.inr g, p', S, c⟩
   ·cases hr1
  ·cases hr1
 cases o with
 | fz t =>
  simp only [convW0] at hc
  have hf := frzV_ok v M h
  have hth := frzV_thin v M
  have hfr := frzV_fr v M
  generalize frzV M v = z at hc hf hth hfr
  obtain ⟨e1, M1⟩ := z
  simp only at hc hf hth hfr
  split at hc
  ·rename_i y hy
   cases hc
   refine ⟨hth k, p, fun _ => False, rfl, fun b => by simp, fun b hb => hb.elim, hf, ?_, hfr.imp (fun h => ⟨h.1, h.2, rfl⟩) id⟩
   simp only [Rel]
   exact as_ok _ t vs x (hf.c _ _ hr) hy
  ·cases hc
 | p a b => exact key _ hc rfl
 | sl a => exact key _ hc rfl
 | pt a => exact key _ hc rfl
 | mp _ _ => exact key _ hc rfl
 | op _ => exact key _ hc rfl
theorem convW_ok (h : Hp F p M w) (k : Nat) (o : O) (v : V) (vs : List Value) (x : o.strip.den) (e : List Ev) (hr : RelC p.β M (Imm F p M w) w v vs) (hc : convW k o v M = some (x, e, M')) :
  (go M' k = none ∨ go M' k = go M k) /\ ∃ p' S, Cv F p M w k ⟨o, x⟩ e vs p' M' S := by
 cases o with
 | fz t => exact convW0_ok h k _ v vs x e hr hc
 | p a b => exact convW0_ok h k _ v vs x e hr hc
 | sl a => exact convW0_ok h k _ v vs x e hr hc
 | pt a => exact convW0_ok h k _ v vs x e hr hc
 | mp _ _ => exact convW0_ok h k _ v vs x e hr hc
 | op a =>
  simp only [convW] at hc
  split at hc
  ·rename_i y ev M1 hc1
   cases hc
   obtain ⟨g, p', S, c⟩ := convW0_ok h k a v vs y e hr hc1
   refine ⟨g, p', S, c.β, c.L, c.sp, c.tr, ?_, c.fr⟩
   have r := c.rel
   simp only [Rel]
   refine ⟨Rel.len _ _ _ _ r, Rel.one _ _ _ _ r, fun z hz => ?_⟩
   cases hz
   exact r
  ·cases hc
theorem Tr.relab (h : Hp F p M w) {k : Nat} {ob ob' : Ob} (hk : go M k = some ob) (hs : ∀ ρ, stat ρ ob.o = none) (hr : ∀ Im : Nat -> Prop, Rel Im w ob.o ob.x (p.σ k) [p.β k] -> Rel Im w ob'.o ob'.x (p.σ k) [p.β k]) :
  Tr F p M w [.cut k ob.o ob'.o] p (Bm.put k ob' M) w := by
 have hlk := go_live hk
 have hkeep : Keep (Imm F p M w) (Imm F p (Bm.put k ob' M) w) w w := fun b hb => ⟨⟨hb.1, hb.2.1, hb.2.2.1, fun j hj => hb.2.2.2 j (live_put.1 hj)⟩, rfl⟩
 refine Tr.one _ hkeep (fun j ρ vs r => ?_) (fun j ρ v r => ?_) ⟨fun j o hj => ?_, fun j j' b hne hj hj' => h.sep j j' b hne (live_put.1 hj) (live_put.1 hj'), fun j b hj => h.own j b (live_put.1 hj), fun b hb => ⟨(h.lim b hb).1, (h.lim b hb).2.1, fun j hj => (h.lim b hb).2.2 j (live_put.1 hj)⟩, h.os, h.tape, h.output, h.size, h.old⟩
 ·simp only [Ev.ref, beq_cond]
  by_cases e : j = k
  ·subst e
   rw [if_pos rfl]
   cases ρ with
   | nil =>
    simp only [nilP, cond_true, RelC]
    obtain ⟨o, pl0, k1, k2, k3, k4⟩ := r
    simp only [res, Option.some.injEq, Prod.mk.injEq] at k4
    obtain ⟨rfl, rfl⟩ := k4
    exact ⟨ob', none, go_put_self ob' M hlk, by simp only [gok], ⟨ob', by simp only [get]⟩, by simp only [res]⟩
   | cons s ρ => simp only [nilP, cond_false, RelC]; exact r.one h
  ·rw [if_neg e]; simp only [RelC]
   exact r.same h (go_put_ne ob' e M) rfl (fun _ _ _ => rfl)
 ·simp only [Ev.ad, beq_cond]
  by_cases e : j = k
  ·subst e
   rw [if_pos rfl, hs]
   simp only [sameO, cond_false, RelC]; intro u hu; rw [List.mem_singleton.1 hu]; exact r.one
  ·rw [if_neg e]; simp only [RelC]
   exact ⟨v, rfl, r.same h (go_put_ne ob' e M) rfl (fun _ _ _ => rfl)⟩
 ·by_cases e : j = k
  ·subst e
   rw [go_put_self ob' M hlk] at hj
   cases hj
   exact Rel.keep hkeep _ _ _ _ (fun _ _ => rfl) (hr _ (h.objs j ob hk))
  ·rw [go_put_ne ob' e] at hj
   exact Rel.keep hkeep _ _ _ _ (fun _ _ => rfl) (h.objs j o hj)
theorem opn_rel {Im : Nat -> Prop} {e : O} {l : List e.strip.den} {S : Nat -> Prop} {vs : List Value} (r : Rel Im w (.sl e) l S vs) : Rel Im w (.sl (.op e)) (opnR l) S vs := by
 simp only [Rel] at r ⊢
 obtain ⟨v, ety, xs, T, rfl, h2, h3, h4, h5, h6, h7⟩ := r
 refine ⟨v, ety, xs, T, rfl, by simp only [opnR, List.length_map]; exact h2, by simpa [opnR] using h3, h4, h5, h6, fun i x hx => ?_⟩
 simp only [opnR, List.getElem?_map] at hx
 cases hl : l[i]? with
 | none => rw [hl] at hx; cases hx
 | some y =>
  rw [hl] at hx
  cases hx
  have r1 := h7 i y hl
  have hsz : (O.op e).size = e.size := rfl
  rw [hsz]
  refine ⟨Rel.len _ _ _ _ r1, Rel.one _ _ _ _ r1, fun z hz => ?_⟩
  cases hz
  exact r1
theorem cls_rel {Im : Nat -> Prop} {e : O} {l : List (Option e.strip.den)} {S : Nat -> Prop} {vs : List Value} (z : e.strip.den) (ha : allR l = true) (r : Rel Im w (.sl (.op e)) l S vs) : Rel Im w (.sl e) (clsR z l) S vs := by
 simp only [Rel] at r ⊢
 obtain ⟨v, ety, xs, T, rfl, h2, h3, h4, h5, h6, h7⟩ := r
 refine ⟨v, ety, xs, T, rfl, by simp only [clsR, List.length_map]; exact h2, by simpa [clsR] using h3, h4, h5, h6, fun i x hx => ?_⟩
 simp only [clsR, List.getElem?_map] at hx
 cases hl : l[i]? with
 | none => rw [hl] at hx; cases hx
 | some y =>
  rw [hl] at hx
  cases hx
  have hy : y.isSome = true := by
   simp only [allR, List.all_eq_true] at ha
   exact ha y (List.mem_of_getElem? hl)
  obtain ⟨y, rfl⟩ := Option.isSome_iff_exists.1 hy
  exact (h7 i _ hl).2.2 y rfl
theorem Tr.row (h : Hp F p M w) {k i : Nat} {e : O} {l : List (Option e.strip.den)} {y : e.strip.den} {us : List Value} {pl : Pl} (hk : go M k = some ⟨.sl (.op e), l⟩) (hg : k < gid) (hi : i < l.length) (hy : l.getD i none = some y)
  (h4 : res w [.ix i] (.sl (.op e)) [p.β k] none = some (us, pl)) :
  ∃ p' : Ow, ∃ S : Nat -> Prop, p'.β = p.β /\ (∀ b, p'.L b ↔ p.L b ∨ S b) /\ (∀ b, S b -> ¬ p.L b) /\ Tr F p M w [.cut k (.sl (.op e)) (.sl (.op e))] p' (Bm.put k ⟨.sl (.op e), l.set i none⟩ M) w /\ Rel (Imm F p' (Bm.put k ⟨.sl (.op e), l.set i none⟩ M) w) w e y S us := by
 have h2 : gok [.ix i] (.sl (.op e)) l := by simp only [gok]; exact ⟨hi, trivial⟩
 have h3 : get [.ix i] (.sl (.op e)) l = some ⟨.op e, l.getD i none⟩ := by simp only [get, O.dflt]
 have hset : set [.ix i] (.sl (.op e)) l ⟨.op e, none⟩ = some ⟨.sl (.op e), l.set i none⟩ := by
  simp only [set]
  rw [show castO ⟨.op e, none⟩ (.op e) = some none from castO_self _ _]
 obtain ⟨us0, pl0, S', e1, e2, e3, e4, e5, e6⟩ := look h hk h2 h3
 rw [e1] at h4
 cases h4
 have hl := go_live hk
 have hout : outV [.ix i] (.sl (.op e)) [p.β k] us = [p.β k] := heapy_out _ _ _ _ rfl
 have ht := Tr.put (S'' := fun _ => False) (L' := fun b => p.L b ∨ S' b) (us' := us) (w' := w) h hk e2 e4 e6 hset rfl hout (Chg.refl w _)
  (fun hh b off hp cur ty' hb => by
   obtain ⟨b0, off0, cur0, ty0, k1, k2, k3, k4, k5⟩ := e4 hh
   rw [k1] at hp; cases hp
   rw [k4] at hb; cases hb
   rw [k4, splice_self (by simpa using k5)]) (fun c hc => hc.elim) (fun c hc => ⟨hc, fun h => h⟩) (fun _ => hg)
  (fun hk' => by
   simp only [Rel] at e3 ⊢
   exact ⟨e3.1, e3.2.1, fun z hz => by cases hz⟩)
 refine ⟨⟨p.β, _, fun b => p.L b ∨ S' b⟩, S', rfl, fun b => Iff.rfl, fun b hb hL => (h.lim b hL).2.2 k hl (e2 b hb), ht, Rel.keep ht.keep _ _ _ _ (fun _ _ => rfl) ?_⟩
 simp only [Rel] at e3
 exact e3.2.2 y hy
theorem Tr.take (h : Hp F p M w) {k i : Nat} {e : O} {l : List e.strip.den} {us : List Value} {pl : Pl} (hk : go M k = some ⟨.sl e, l⟩) (hg : k < gid) (hi : i < l.length)
  (h4 : res w [.ix i] (.sl e) [p.β k] none = some (us, pl)) :
  ∃ p' : Ow, ∃ S : Nat -> Prop, p'.β = p.β /\ (∀ b, p'.L b ↔ p.L b ∨ S b) /\ (∀ b, S b -> ¬ p.L b) /\ Tr F p M w [.cut k (.sl e) (.sl (.op e)), .cut k (.sl (.op e)) (.sl (.op e))] p' (Bm.put k ⟨.sl (.op e), takR l i⟩ M) w /\ Rel (Imm F p' (Bm.put k ⟨.sl (.op e), takR l i⟩ M) w) w e (l.getD i e.dflt) S us := by
 have t1 := Tr.relab (ob' := ⟨.sl (.op e), opnR l⟩) h hk (fun ρ => by cases ρ with | nil => rfl | cons s _ => cases s <;> rfl) (fun Im r => opn_rel r)
 have hl := go_live hk
 have hgo := go_put_self (⟨.sl (.op e), opnR l⟩ : Ob) M hl
 have hy : (opnR l).getD i none = some (l.getD i e.dflt) := by
  simp only [opnR, List.getD_eq_getElem?_getD, List.getElem?_map, List.getElem?_eq_getElem hi, Option.map_some, Option.getD_some]
 obtain ⟨p', S, k1, k2, k3, k4, k5⟩ := Tr.row (y := l.getD i e.dflt) (us := us) (pl := pl) t1.hp hgo hg (by simpa [opnR] using hi) hy (by
  have : ∀ vs ad, res w [.ix i] (.sl (.op e)) vs ad = res w [.ix i] (.sl e) vs ad := fun vs ad => by simp only [res]; rfl
  rw [this]; exact h4)
 have hpp : Bm.put k (⟨.sl (.op e), (opnR l).set i none⟩ : Ob) (Bm.put k ⟨.sl (.op e), opnR l⟩ M) = Bm.put k ⟨.sl (.op e), takR l i⟩ M := put_put _ _ _ _
 rw [hpp] at k4 k5
 exact ⟨p', S, k1, k2, k3, t1.trans k4, k5⟩
end
end Go.Bm
/- The typed machine: ways joined, values looked at. -/
namespace Go.Bm
open Go.RowKit
def allP : List Prop -> Prop
 | [] => True
 | p :: r => p /\ allP r
@[simp] theorem allP_nil : allP [] = True := rfl
@[simp] theorem allP_cons (p : Prop) (r : List Prop) : allP (p :: r) = (p /\ allP r) := rfl
theorem allP_ap (a b : List Prop) : allP (ap a b) ↔ allP a /\ allP b := by
 induction a with
 | nil => simp [ap]
 | cons p a ih => simp only [ap, allP_cons, ih, and_assoc]
theorem conj_iff (l : List Prop) (K : Prop) : conj l K ↔ allP l /\ K := by
 induction l with
 | nil => simp [conj]
 | cons p l ih => simp only [conj, allP_cons, ih, and_assoc]
theorem imp_iff (g : Prop) (l : List Prop) (K : Prop) : imp g l K ↔ (g -> allP l) /\ K := by
 induction l with
 | nil => simp [imp]
 | cons p l _ =>
  simp only [imp, allP_cons, conj_iff]
  constructor
  ·rintro ⟨h1, h3⟩; exact ⟨fun hg => ⟨(h1 hg).2, (h1 hg).1⟩, h3⟩
  ·rintro ⟨h1, h3⟩; exact ⟨fun hg => ⟨(h1 hg).2, (h1 hg).1⟩, h3⟩
theorem imps_iff (l : List Prop) (K : Prop) : imps l K ↔ (allP l -> K) := by
 induction l with
 | nil => simp [imps]
 | cons p l ih => simp only [imps, allP_cons, ih]; constructor <;> intro h <;> intros <;> simp_all
@[simp] theorem allT_nil : allT [] = true := rfl
@[simp] theorem allT_cons (b : Bool) (r : List Bool) : allT (b :: r) = (b && allT r) := by cases b <;> rfl
theorem gd_bad {c : Bool} {x : List Prop × V} (h : allP (bif c then x else bad).1) : c = true := by
 cases c with
 | true => rfl
 | false => exact h.1.elim
theorem ty_some {P : Program} {t : TypeId} (h : (ty P t).ok = true) : ∃ i u, P.info? t = some i /\ P.underlying t = some u := by
 unfold ty at h
 split at h
 ·rename_i i u hi hu; exact ⟨i, u, hi, hu⟩
 ·simp [noTy] at h
theorem ty_of {P : Program} {t : TypeId} {i : TypeInfo} {u : TypeDesc} (hi : P.info? t = some i) (hu : P.underlying t = some u) : ty P t = tyOf P i u := by
 simp only [ty, hi, hu]
theorem tyZ_some {P : Program} {t : TypeId} {zs : List Value} (h : tyZ P t = some zs) : ∃ i z, P.info? t = some i /\ i.zero = some z /\ zs = z.cells.toList := by
 unfold tyZ at h
 split at h
 ·rename_i i hi
  split at h
  ·rename_i z hz; cases h; exact ⟨i, z, hi, hz, rfl⟩
  ·cases h
 ·cases h
theorem inK_i64 (n : Int) : inK .i64 n ↔ -9223372036854775808 <= n /\ n <= 9223372036854775807 := by simp [inK, IntKind.min, IntKind.max, IntKind.signed, IntKind.bits]
theorem inK_u8 (n : Int) : inK .u8 n ↔ 0 <= n /\ n <= 255 := by simp [inK, IntKind.min, IntKind.max, IntKind.signed, IntKind.bits]
theorem inK_u64 (n : Int) : inK .u64 n ↔ 0 <= n /\ n <= 18446744073709551615 := by simp [inK, IntKind.min, IntKind.max, IntKind.signed, IntKind.bits]
theorem inK_i32 (n : Int) : inK .i32 n ↔ -2147483648 <= n /\ n <= 2147483647 := by simp [inK, IntKind.min, IntKind.max, IntKind.signed, IntKind.bits]
theorem inK_u32 (n : Int) : inK .u32 n ↔ 0 <= n /\ n <= 4294967295 := by simp [inK, IntKind.min, IntKind.max, IntKind.signed, IntKind.bits]
theorem inK_u16 (n : Int) : inK .u16 n ↔ 0 <= n /\ n <= 65535 := by simp [inK, IntKind.min, IntKind.max, IntKind.signed, IntKind.bits]
theorem inK_i16 (n : Int) : inK .i16 n ↔ -32768 <= n /\ n <= 32767 := by simp [inK, IntKind.min, IntKind.max, IntKind.signed, IntKind.bits]
theorem inK_i8 (n : Int) : inK .i8 n ↔ -128 <= n /\ n <= 127 := by simp [inK, IntKind.min, IntKind.max, IntKind.signed, IntKind.bits]
theorem wrap_in {k : IntKind} {n : Int} (h : inK k n) : k.wrap n = n := by
 cases k
 all_goals first | rw [inK_i64] at h | rw [inK_u8] at h | rw [inK_u64] at h | rw [inK_i32] at h | rw [inK_u32] at h | rw [inK_u16] at h | rw [inK_i16] at h | rw [inK_i8] at h
 all_goals (simp [IntKind.wrap, IntKind.signed, IntKind.bits]; omega)
theorem wrap_inK (k : IntKind) (n : Int) : inK k (k.wrap n) := by
 cases k
 all_goals first | rw [inK_i64] | rw [inK_u8] | rw [inK_u64] | rw [inK_i32] | rw [inK_u32] | rw [inK_u16] | rw [inK_i16] | rw [inK_i8]
 all_goals (simp [IntKind.wrap, IntKind.signed, IntKind.bits]; omega)
theorem nb_i64 {n : Nat} (h : n <= nb) : inK .i64 n := (inK_i64 n).2 ⟨by omega, by simp only [nb] at h; omega⟩
theorem get_ap : (ρ π : Path) -> (o : O) -> (x : o.strip.den) -> get (ap ρ π) o x = (match get ρ o x with | some q => get π q.o q.x | none => none)
 | [], π, o, x => by simp only [ap, get]
 | .l :: ρ, π, .p a b, x => by simp only [ap, get]; exact get_ap ρ π a x.1
 | .r :: ρ, π, .p a b, x => by simp only [ap, get]; exact get_ap ρ π b x.2
 | .l :: ρ, π, .fz (.p a b), x => by simp only [ap, get]; exact get_ap ρ π (.fz a) x.1
 | .r :: ρ, π, .fz (.p a b), x => by simp only [ap, get]; exact get_ap ρ π (.fz b) x.2
 | .ix i :: ρ, π, .sl e, x => by simp only [ap, get]; exact get_ap ρ π e _
 | .de :: ρ, π, .pt t, x => by simp only [ap, get]; exact get_ap ρ π t x
 | .l :: _, _, .sl _, _ => by simp only [ap, get]
 | .l :: _, _, .mp _ _, _ => by simp only [ap, get]
 | .l :: _, _, .op _, _ => by simp only [ap, get]
 | .l :: _, _, .pt _, _ => by simp only [ap, get]
 | .l :: _, _, .fz (.int _), _ => by simp only [ap, get]
 | .l :: _, _, .fz .bool, _ => by simp only [ap, get]
 | .l :: _, _, .fz .str, _ => by simp only [ap, get]
 | .l :: _, _, .fz .u, _ => by simp only [ap, get]
 | .l :: _, _, .fz (.sl _), _ => by simp only [ap, get]
 | .l :: _, _, .fz (.pt _), _ => by simp only [ap, get]
 | .l :: _, _, .fz (.fn _ _), _ => by simp only [ap, get]
 | .l :: _, _, .fz (.ifc _ _), _ => by simp only [ap, get]
 | .l :: _, _, .fz (.mp _ _), _ => by simp only [ap, get]
 | .l :: _, _, .fz (.op _), _ => by simp only [ap, get]
 | .l :: _, _, .fz (.ns _), _ => by simp only [ap, get]
 | .l :: _, _, .fz .any, _ => by simp only [ap, get]
 | .r :: _, _, .sl _, _ => by simp only [ap, get]
 | .r :: _, _, .mp _ _, _ => by simp only [ap, get]
 | .r :: _, _, .op _, _ => by simp only [ap, get]
 | .r :: _, _, .pt _, _ => by simp only [ap, get]
 | .r :: _, _, .fz (.int _), _ => by simp only [ap, get]
 | .r :: _, _, .fz .bool, _ => by simp only [ap, get]
 | .r :: _, _, .fz .str, _ => by simp only [ap, get]
 | .r :: _, _, .fz .u, _ => by simp only [ap, get]
 | .r :: _, _, .fz (.sl _), _ => by simp only [ap, get]
 | .r :: _, _, .fz (.pt _), _ => by simp only [ap, get]
 | .r :: _, _, .fz (.fn _ _), _ => by simp only [ap, get]
 | .r :: _, _, .fz (.ifc _ _), _ => by simp only [ap, get]
 | .r :: _, _, .fz (.mp _ _), _ => by simp only [ap, get]
 | .r :: _, _, .fz (.op _), _ => by simp only [ap, get]
 | .r :: _, _, .fz (.ns _), _ => by simp only [ap, get]
 | .r :: _, _, .fz .any, _ => by simp only [ap, get]
 | .ix _ :: _, _, .fz _, _ => by simp only [ap, get]
 | .ix _ :: _, _, .p _ _, _ => by simp only [ap, get]
 | .ix _ :: _, _, .pt _, _ => by simp only [ap, get]
 | .ix _ :: _, _, .mp _ _, _ => by simp only [ap, get]
 | .ix _ :: _, _, .op _, _ => by simp only [ap, get]
 | .de :: _, _, .fz _, _ => by simp only [ap, get]
 | .de :: _, _, .p _ _, _ => by simp only [ap, get]
 | .de :: _, _, .sl _, _ => by simp only [ap, get]
 | .de :: _, _, .mp _ _, _ => by simp only [ap, get]
 | .de :: _, _, .op _, _ => by simp only [ap, get]
theorem gok_ap : (ρ π : Path) -> (o : O) -> (x : o.strip.den) -> (q : Ob) -> get ρ o x = some q -> gok ρ o x -> gok π q.o q.x -> gok (ap ρ π) o x
 | [], π, o, x, q, h, _, h2 => by simp only [get, Option.some.injEq] at h; subst h; exact h2
 | .l :: ρ, π, .p a b, x, q, h, h1, h2 => by simp only [ap, get, gok] at h h1 ⊢; exact gok_ap ρ π a x.1 q h h1 h2
 | .r :: ρ, π, .p a b, x, q, h, h1, h2 => by simp only [ap, get, gok] at h h1 ⊢; exact gok_ap ρ π b x.2 q h h1 h2
 | .l :: ρ, π, .fz (.p a b), x, q, h, h1, h2 => by simp only [ap, get, gok] at h h1 ⊢; exact gok_ap ρ π (.fz a) x.1 q h h1 h2
 | .r :: ρ, π, .fz (.p a b), x, q, h, h1, h2 => by simp only [ap, get, gok] at h h1 ⊢; exact gok_ap ρ π (.fz b) x.2 q h h1 h2
 | .ix i :: ρ, π, .sl e, x, q, h, h1, h2 => by simp only [ap, get, gok] at h h1 ⊢; exact ⟨h1.1, gok_ap ρ π e _ q h h1.2 h2⟩
 | .de :: ρ, π, .pt t, x, q, h, h1, h2 => by simp only [ap, get, gok] at h h1 ⊢; exact gok_ap ρ π t x q h h1 h2
 | .l :: _, _, .sl _, _, _, h, _, _ => by simp [get] at h
 | .l :: _, _, .mp _ _, _, _, h, _, _ => by simp [get] at h
 | .l :: _, _, .op _, _, _, h, _, _ => by simp [get] at h
 | .l :: _, _, .pt _, _, _, h, _, _ => by simp [get] at h
 | .l :: _, _, .fz (.int _), _, _, h, _, _ => by simp [get] at h
 | .l :: _, _, .fz .bool, _, _, h, _, _ => by simp [get] at h
 | .l :: _, _, .fz .str, _, _, h, _, _ => by simp [get] at h
 | .l :: _, _, .fz .u, _, _, h, _, _ => by simp [get] at h
 | .l :: _, _, .fz (.sl _), _, _, h, _, _ => by simp [get] at h
 | .l :: _, _, .fz (.pt _), _, _, h, _, _ => by simp [get] at h
 | .l :: _, _, .fz (.fn _ _), _, _, h, _, _ => by simp [get] at h
 | .l :: _, _, .fz (.ifc _ _), _, _, h, _, _ => by simp [get] at h
 | .l :: _, _, .fz (.mp _ _), _, _, h, _, _ => by simp [get] at h
 | .l :: _, _, .fz (.op _), _, _, h, _, _ => by simp [get] at h
 | .l :: _, _, .fz (.ns _), _, _, h, _, _ => by simp [get] at h
 | .l :: _, _, .fz .any, _, _, h, _, _ => by simp [get] at h
 | .r :: _, _, .sl _, _, _, h, _, _ => by simp [get] at h
 | .r :: _, _, .mp _ _, _, _, h, _, _ => by simp [get] at h
 | .r :: _, _, .op _, _, _, h, _, _ => by simp [get] at h
 | .r :: _, _, .pt _, _, _, h, _, _ => by simp [get] at h
 | .r :: _, _, .fz (.int _), _, _, h, _, _ => by simp [get] at h
 | .r :: _, _, .fz .bool, _, _, h, _, _ => by simp [get] at h
 | .r :: _, _, .fz .str, _, _, h, _, _ => by simp [get] at h
 | .r :: _, _, .fz .u, _, _, h, _, _ => by simp [get] at h
 | .r :: _, _, .fz (.sl _), _, _, h, _, _ => by simp [get] at h
 | .r :: _, _, .fz (.pt _), _, _, h, _, _ => by simp [get] at h
 | .r :: _, _, .fz (.fn _ _), _, _, h, _, _ => by simp [get] at h
 | .r :: _, _, .fz (.ifc _ _), _, _, h, _, _ => by simp [get] at h
 | .r :: _, _, .fz (.mp _ _), _, _, h, _, _ => by simp [get] at h
 | .r :: _, _, .fz (.op _), _, _, h, _, _ => by simp [get] at h
 | .r :: _, _, .fz (.ns _), _, _, h, _, _ => by simp [get] at h
 | .r :: _, _, .fz .any, _, _, h, _, _ => by simp [get] at h
 | .ix _ :: _, _, .fz _, _, _, h, _, _ => by simp [get] at h
 | .ix _ :: _, _, .p _ _, _, _, h, _, _ => by simp [get] at h
 | .ix _ :: _, _, .pt _, _, _, h, _, _ => by simp [get] at h
 | .ix _ :: _, _, .mp _ _, _, _, h, _, _ => by simp [get] at h
 | .ix _ :: _, _, .op _, _, _, h, _, _ => by simp [get] at h
 | .de :: _, _, .fz _, _, _, h, _, _ => by simp [get] at h
 | .de :: _, _, .p _ _, _, _, h, _, _ => by simp [get] at h
 | .de :: _, _, .sl _, _, _, h, _, _ => by simp [get] at h
 | .de :: _, _, .mp _ _, _, _, h, _, _ => by simp [get] at h
 | .de :: _, _, .op _, _, _, h, _, _ => by simp [get] at h
theorem res_ap (w : World) : (ρ π : Path) -> (o : O) -> (x : o.strip.den) -> (q : Ob) -> (vs : List Value) -> (ad : Pl) -> get ρ o x = some q -> res w (ap ρ π) o vs ad = (match res w ρ o vs ad with | some r => res w π q.o r.1 r.2 | none => none)
 | [], π, o, x, q, vs, ad, h => by simp only [get, Option.some.injEq] at h; subst h; simp only [ap, res]
 | .l :: ρ, π, .p a b, x, q, vs, ad, h => by simp only [ap, get, res] at h ⊢; exact res_ap w ρ π a x.1 q _ _ h
 | .r :: ρ, π, .p a b, x, q, vs, ad, h => by simp only [ap, get, res] at h ⊢; exact res_ap w ρ π b x.2 q _ _ h
 | .l :: ρ, π, .fz (.p a b), x, q, vs, ad, h => by simp only [ap, get, res] at h ⊢; exact res_ap w ρ π (.fz a) x.1 q _ _ h
 | .r :: ρ, π, .fz (.p a b), x, q, vs, ad, h => by simp only [ap, get, res] at h ⊢; exact res_ap w ρ π (.fz b) x.2 q _ _ h
 | .ix i :: ρ, π, .sl e, x, q, vs, ad, h => by
  simp only [ap, get, res] at h ⊢
  split
  ·rename_i a n c; exact res_ap w ρ π e _ q _ _ h
  ·rfl
 | .de :: ρ, π, .pt t, x, q, vs, ad, h => by
  simp only [ap, get, res] at h ⊢
  split
  ·rename_i a; exact res_ap w ρ π t x q _ _ h
  ·rfl
 | .l :: _, _, .sl _, _, _, _, _, h => by simp [get] at h
 | .l :: _, _, .mp _ _, _, _, _, _, h => by simp [get] at h
 | .l :: _, _, .op _, _, _, _, _, h => by simp [get] at h
 | .l :: _, _, .pt _, _, _, _, _, h => by simp [get] at h
 | .l :: _, _, .fz (.int _), _, _, _, _, h => by simp [get] at h
 | .l :: _, _, .fz .bool, _, _, _, _, h => by simp [get] at h
 | .l :: _, _, .fz .str, _, _, _, _, h => by simp [get] at h
 | .l :: _, _, .fz .u, _, _, _, _, h => by simp [get] at h
 | .l :: _, _, .fz (.sl _), _, _, _, _, h => by simp [get] at h
 | .l :: _, _, .fz (.pt _), _, _, _, _, h => by simp [get] at h
 | .l :: _, _, .fz (.fn _ _), _, _, _, _, h => by simp [get] at h
 | .l :: _, _, .fz (.ifc _ _), _, _, _, _, h => by simp [get] at h
 | .l :: _, _, .fz (.mp _ _), _, _, _, _, h => by simp [get] at h
 | .l :: _, _, .fz (.op _), _, _, _, _, h => by simp [get] at h
 | .l :: _, _, .fz (.ns _), _, _, _, _, h => by simp [get] at h
 | .l :: _, _, .fz .any, _, _, _, _, h => by simp [get] at h
 | .r :: _, _, .sl _, _, _, _, _, h => by simp [get] at h
 | .r :: _, _, .mp _ _, _, _, _, _, h => by simp [get] at h
 | .r :: _, _, .op _, _, _, _, _, h => by simp [get] at h
 | .r :: _, _, .pt _, _, _, _, _, h => by simp [get] at h
 | .r :: _, _, .fz (.int _), _, _, _, _, h => by simp [get] at h
 | .r :: _, _, .fz .bool, _, _, _, _, h => by simp [get] at h
 | .r :: _, _, .fz .str, _, _, _, _, h => by simp [get] at h
 | .r :: _, _, .fz .u, _, _, _, _, h => by simp [get] at h
 | .r :: _, _, .fz (.sl _), _, _, _, _, h => by simp [get] at h
 | .r :: _, _, .fz (.pt _), _, _, _, _, h => by simp [get] at h
 | .r :: _, _, .fz (.fn _ _), _, _, _, _, h => by simp [get] at h
 | .r :: _, _, .fz (.ifc _ _), _, _, _, _, h => by simp [get] at h
 | .r :: _, _, .fz (.mp _ _), _, _, _, _, h => by simp [get] at h
 | .r :: _, _, .fz (.op _), _, _, _, _, h => by simp [get] at h
 | .r :: _, _, .fz (.ns _), _, _, _, _, h => by simp [get] at h
 | .r :: _, _, .fz .any, _, _, _, _, h => by simp [get] at h
 | .ix _ :: _, _, .fz _, _, _, _, _, h => by simp [get] at h
 | .ix _ :: _, _, .p _ _, _, _, _, _, h => by simp [get] at h
 | .ix _ :: _, _, .pt _, _, _, _, _, h => by simp [get] at h
 | .ix _ :: _, _, .mp _ _, _, _, _, _, h => by simp [get] at h
 | .ix _ :: _, _, .op _, _, _, _, _, h => by simp [get] at h
 | .de :: _, _, .fz _, _, _, _, _, h => by simp [get] at h
 | .de :: _, _, .p _ _, _, _, _, _, h => by simp [get] at h
 | .de :: _, _, .sl _, _, _, _, _, h => by simp [get] at h
 | .de :: _, _, .mp _ _, _, _, _, _, h => by simp [get] at h
 | .de :: _, _, .op _, _, _, _, _, h => by simp [get] at h
theorem heapy_ap : (ρ π : Path) -> (heapy ρ || heapy π) = true -> heapy (ap ρ π) = true
 | [], π, h => by simpa [heapy, ap] using h
 | .l :: ρ, π, h => by simp only [ap, heapy] at h ⊢; exact heapy_ap ρ π h
 | .r :: ρ, π, h => by simp only [ap, heapy] at h ⊢; exact heapy_ap ρ π h
 | .ix _ :: ρ, π, h => by simp only [ap, heapy]
 | .de :: ρ, π, h => by simp only [ap, heapy]
theorem offAt_offO : (π : Path) -> (o : O) -> (n : Nat) -> offAt π o.strip = some n -> offO π o = some n /\ heapy π = false
 | [], o, n, h => by simp only [offAt] at h; simp only [offO, h, heapy, and_self]
 | .l :: π, .p a b, n, h => by
  simp only [offAt] at h
  obtain ⟨h1, h2⟩ := offAt_offO π a n h
  exact ⟨by simpa only [offO] using h1, by simpa only [heapy] using h2⟩
 | .r :: π, .p a b, n, h => by
  simp only [offAt] at h
  split at h
  ·rename_i m hm
   obtain ⟨h1, h2⟩ := offAt_offO π b m hm
   exact ⟨by simp only [offO, h1]; exact h, by simpa only [heapy] using h2⟩
  ·cases h
 | .l :: π, .fz (.p a b), n, h => by
  simp only [offAt] at h
  obtain ⟨h1, h2⟩ := offAt_offO π (.fz a) n h
  exact ⟨by simpa only [offO] using h1, by simpa only [heapy] using h2⟩
 | .r :: π, .fz (.p a b), n, h => by
  simp only [offAt] at h
  split at h
  ·rename_i m hm
   obtain ⟨h1, h2⟩ := offAt_offO π (.fz b) m hm
   exact ⟨by simp only [offO, h1]; exact h, by simpa only [heapy] using h2⟩
  ·cases h
 | .l :: _, .sl _, _, h => by simp [offAt] at h
 | .l :: _, .mp _ _, _, h => by simp [offAt] at h
 | .l :: _, .op _, _, h => by simp [offAt] at h
 | .l :: _, .pt _, _, h => by simp [offAt] at h
 | .l :: _, .fz (.int _), _, h => by simp [offAt] at h
 | .l :: _, .fz .bool, _, h => by simp [offAt] at h
 | .l :: _, .fz .str, _, h => by simp [offAt] at h
 | .l :: _, .fz .u, _, h => by simp [offAt] at h
 | .l :: _, .fz (.sl _), _, h => by simp [offAt] at h
 | .l :: _, .fz (.pt _), _, h => by simp [offAt] at h
 | .l :: _, .fz (.fn _ _), _, h => by simp [offAt] at h
 | .l :: _, .fz (.ifc _ _), _, h => by simp [offAt] at h
 | .l :: _, .fz (.mp _ _), _, h => by simp [offAt] at h
 | .l :: _, .fz (.op _), _, h => by simp [offAt] at h
 | .l :: _, .fz (.ns _), _, h => by simp [offAt] at h
 | .l :: _, .fz .any, _, h => by simp [offAt] at h
 | .r :: _, .sl _, _, h => by simp [offAt] at h
 | .r :: _, .mp _ _, _, h => by simp [offAt] at h
 | .r :: _, .op _, _, h => by simp [offAt] at h
 | .r :: _, .pt _, _, h => by simp [offAt] at h
 | .r :: _, .fz (.int _), _, h => by simp [offAt] at h
 | .r :: _, .fz .bool, _, h => by simp [offAt] at h
 | .r :: _, .fz .str, _, h => by simp [offAt] at h
 | .r :: _, .fz .u, _, h => by simp [offAt] at h
 | .r :: _, .fz (.sl _), _, h => by simp [offAt] at h
 | .r :: _, .fz (.pt _), _, h => by simp [offAt] at h
 | .r :: _, .fz (.fn _ _), _, h => by simp [offAt] at h
 | .r :: _, .fz (.ifc _ _), _, h => by simp [offAt] at h
 | .r :: _, .fz (.mp _ _), _, h => by simp [offAt] at h
 | .r :: _, .fz (.op _), _, h => by simp [offAt] at h
 | .r :: _, .fz (.ns _), _, h => by simp [offAt] at h
 | .r :: _, .fz .any, _, h => by simp [offAt] at h
 | .ix _ :: _, _, _, h => by simp [offAt] at h
 | .de :: _, _, _, h => by simp [offAt] at h
theorem subT_ok {Im : Nat -> Prop} {w : World} : (π : Path) -> (t : T) -> (x : t.den) -> (n : Nat) -> (q : (t : T) × t.den) -> (vs : List Value) -> offAt π t = some n -> subT π t x = some q -> RelF Im w t x vs ->
  ∃ va us vb, vs = va ++ us ++ vb /\ va.length = n /\ RelF Im w q.1 q.2 us
 | [], t, x, n, q, vs, h, hq, r => by
  simp only [offAt, Option.some.injEq] at h
  simp only [subT, Option.some.injEq] at hq
  subst h; subst hq
  exact ⟨[], vs, [], by simp, rfl, r⟩
 | .l :: π, .p a b, x, n, q, vs, h, hq, r => by
  simp only [offAt] at h
  simp only [subT] at hq
  simp only [RelF] at r
  obtain ⟨va, vb, rfl, ha, hb⟩ := r
  obtain ⟨v1, us, v2, rfl, k2, k3⟩ := subT_ok π a x.1 n q va h hq ha
  exact ⟨v1, us, v2 ++ vb, by simp, k2, k3⟩
 | .r :: π, .p a b, x, n, q, vs, h, hq, r => by
  simp only [offAt] at h
  simp only [subT] at hq
  simp only [RelF] at r
  obtain ⟨va, vb, rfl, ha, hb⟩ := r
  split at h
  ·rename_i m hm
   simp only [Option.some.injEq] at h
   obtain ⟨v1, us, v2, rfl, k2, k3⟩ := subT_ok π b x.2 m q vb hm hq hb
   exact ⟨va ++ v1, us, v2, by simp, by rw [List.length_append, RelF.len a _ _ ha, k2, ← h]; simp, k3⟩
  ·cases h
 | .l :: _, .int _, _, _, _, _, h, _, _ => by simp [offAt] at h
 | .l :: _, .bool, _, _, _, _, h, _, _ => by simp [offAt] at h
 | .l :: _, .str, _, _, _, _, h, _, _ => by simp [offAt] at h
 | .l :: _, .u, _, _, _, _, h, _, _ => by simp [offAt] at h
 | .l :: _, .sl _, _, _, _, _, h, _, _ => by simp [offAt] at h
 | .l :: _, .pt _, _, _, _, _, h, _, _ => by simp [offAt] at h
 | .l :: _, .fn _ _, _, _, _, _, h, _, _ => by simp [offAt] at h
 | .l :: _, .ifc _ _, _, _, _, _, h, _, _ => by simp [offAt] at h
 | .l :: _, .mp _ _, _, _, _, _, h, _, _ => by simp [offAt] at h
 | .l :: _, .op _, _, _, _, _, h, _, _ => by simp [offAt] at h
 | .l :: _, .any, _, _, _, _, h, _, _ => by simp [offAt] at h
 | .r :: _, .int _, _, _, _, _, h, _, _ => by simp [offAt] at h
 | .r :: _, .bool, _, _, _, _, h, _, _ => by simp [offAt] at h
 | .r :: _, .str, _, _, _, _, h, _, _ => by simp [offAt] at h
 | .r :: _, .u, _, _, _, _, h, _, _ => by simp [offAt] at h
 | .r :: _, .sl _, _, _, _, _, h, _, _ => by simp [offAt] at h
 | .r :: _, .pt _, _, _, _, _, h, _, _ => by simp [offAt] at h
 | .r :: _, .fn _ _, _, _, _, _, h, _, _ => by simp [offAt] at h
 | .r :: _, .ifc _ _, _, _, _, _, h, _, _ => by simp [offAt] at h
 | .r :: _, .mp _ _, _, _, _, _, h, _, _ => by simp [offAt] at h
 | .r :: _, .op _, _, _, _, _, h, _, _ => by simp [offAt] at h
 | .r :: _, .any, _, _, _, _, h, _, _ => by simp [offAt] at h
 | .ix _ :: _, _, _, _, _, _, h, _, _ => by simp [offAt] at h
 | .de :: _, _, _, _, _, _, h, _, _ => by simp [offAt] at h
theorem CellsAt.sub {w : World} {b o : Nat} {va us vb : List Value} (h : CellsAt w b o (va ++ us ++ vb)) : CellsAt w b (o + va.length) us := fun j u hu => by
 have := h (va.length + j) u (by
  rw [List.append_assoc, List.getElem?_append_right (by omega), Nat.add_sub_cancel_left, List.getElem?_append_left (List.getElem?_eq_some_iff.1 hu).1]; exact hu)
 rwa [show o + (va.length + j) = o + va.length + j by omega] at this
theorem one_cells {v : Value} (h : v.oneCell' = true) : v.cells = #[v] := by cases v <;> simp [Value.oneCell'] at h <;> rfl
section
variable {F : Fr} {p p' p'' : Ow} {env : Env} {M M' M'' : Mem} {a : Act} {w w' w'' : World} {P : Program} {B : Tab}
theorem getM_some {M : Mem} {k : Nat} {π : Path} {q : Ob} (h : getM M k π = some q) : ∃ ob, go M k = some ob /\ get π ob.o ob.x = some q := by
 unfold getM at h
 split at h
 ·rename_i ob hob; exact ⟨ob, hob, h⟩
 ·cases h
theorem Ref.look (hp : Hp F p M w) {k : Nat} {π : Path} {vs : List Value} {q : Ob} (h : Ref p.β M w k π vs) (hq : getM M k π = some q) : ∃ S, Rel (Imm F p M w) w q.o q.x S vs := by
 obtain ⟨ob, h1, h2⟩ := getM_some hq
 obtain ⟨ob', pl, k1, k2, k3, k4⟩ := h
 rw [h1] at k1; cases k1
 obtain ⟨us, pl', S', e1, e2, e3, _⟩ := Bm.look hp h1 k2 h2
 rw [e1] at k4
 cases k4
 exact ⟨S', e3⟩
theorem Adr.look (hp : Hp F p M w) {k : Nat} {π : Path} {v : Value} {q : Ob} (h : Adr p.β M w k π v) (hq : getM M k π = some q) :
  ∃ S us b off cur ty', v = .pointer (some ⟨b, off, none⟩) /\ Rel (Imm F p M w) w q.o q.x S us /\ w.heap[b]? = some (.cells cur ty' (0, 0)) /\ (∀ (j : Nat) (u : Value), us[j]? = some u -> cur[off + j]? = some u) /\ Ref p.β M w k π us := by
 obtain ⟨ob, h1, h2⟩ := getM_some hq
 obtain ⟨ob', us0, b0, off0, k1, k2, k3, k4, k5, k6⟩ := h
 rw [h1] at k1; cases k1
 obtain ⟨us, pl', S', e1, e2, e3, e4, _⟩ := Bm.look hp h1 k2 h2
 rw [e1] at k5
 simp only [Option.some.injEq, Prod.mk.injEq] at k5
 obtain ⟨rfl, rfl⟩ := k5
 obtain ⟨b, off, cur, ty', g1, g2, g3, g4, g5⟩ := e4 k4
 simp only [Option.some.injEq, Prod.mk.injEq] at g1
 obtain ⟨rfl, rfl⟩ := g1
 exact ⟨S', us, b0, off0, cur, ty', k6, e3, g4, g5, ob, _, h1, k2, ⟨q, h2⟩, e1⟩
theorem toV_ok (hp : Hp F p M w) {k : Nat} {π : Path} {vs : List Value} {q : Ob} (h : Ref p.β M w k π vs) (hq : getM M k π = some q) : RelC p.β M (Imm F p M w) w (toV k π q.o q.x) vs := by
 obtain ⟨S, hr⟩ := h.look hp hq
 obtain ⟨o, x⟩ := q
 cases o with
 | fz t =>
  have : toV k π (.fz t) x = expl t x := by cases π <;> rfl
  simp only [this]
  simp only [Rel] at hr
  exact expl_rel t x vs hr
 | p a b =>
  have : toV k π (.p a b) x = .ref k π := by cases π <;> rfl
  simp only [this, RelC]
  exact h
 | sl e =>
  have : toV k π (.sl e) x = .ref k π := by cases π <;> rfl
  simp only [this, RelC]
  exact h
 | mp e e' =>
  have : toV k π (.mp e e') x = .ref k π := by cases π <;> rfl
  simp only [this, RelC]
  exact h
 | op e =>
  have : toV k π (.op e) x = .ref k π := by cases π <;> rfl
  simp only [this, RelC]
  exact h
 | pt o =>
  have : toV k π (.pt o) x = .ad k (ap π [.de]) := by cases π <;> rfl
  simp only [this, RelC]
  obtain ⟨ob, h1, h2⟩ := getM_some hq
  obtain ⟨ob', pl, k1, k2, k3, k4⟩ := h
  rw [h1] at k1; cases k1
  simp only [Rel] at hr
  obtain ⟨b, us, ty', S', r1, r2, r3, r4, r5⟩ := hr
  refine ⟨_, r1, ob, cellsOf w b 0 o.size, b, 0, h1, gok_ap π [.de] _ _ _ h2 k2 (by simp only [gok]), ⟨⟨o, x⟩, by rw [get_ap, h2]; simp only [get]⟩, heapy_ap π [.de] (by simp [heapy]), ?_, rfl⟩
  rw [res_ap w π [.de] ob.o ob.x _ _ _ h2, k4, r1]
  simp only [res]
theorem Ref.sub (hp : Hp F p M w) {k : Nat} {ρ π : Path} {vs : List Value} {q : Ob} {n : Nat} (h : Ref p.β M w k ρ vs) (hq : getM M k ρ = some q) (ho : offAt π q.o.strip = some n) :
  (∃ q', getM M k (ap ρ π) = some q') /\ ∃ va us vb, vs = va ++ us ++ vb /\ va.length = n /\ Ref p.β M w k (ap ρ π) us := by
 obtain ⟨ob, h1, h2⟩ := getM_some hq
 obtain ⟨ob', pl, k1, k2, k3, k4⟩ := h
 rw [h1] at k1; cases k1
 obtain ⟨us, pl', S', e1, e2, e3, _⟩ := Bm.look hp h1 k2 h2
 rw [e1] at k4
 cases k4
 obtain ⟨o1, o2⟩ := offAt_offO π q.o n ho
 obtain ⟨⟨q', g1⟩, g2, us', g3⟩ := off_res w π q.o n o1 q.x vs pl
 obtain ⟨us2, pl2, S2, f1, f2, f3, f4, f5, f6⟩ := focus π q.o q.x S' vs none q' e3 g2 g1 (fun b off e => by cases e)
 obtain ⟨n', b1, b2, b3, b4, b5⟩ := f5 o2
 rw [o1] at b1; cases b1
 have hres : ∀ ad, res w π q.o vs ad = some (us2, ad.plus n) := fun ad => by
  obtain ⟨_, _, us3, g4⟩ := off_res w π q.o n o1 q.x vs ad
  obtain ⟨us4, pl4, S4, i1, i2, i3, i4, i5, i6⟩ := focus π q.o q.x S' vs none q' e3 g2 g1 (fun b off e => by cases e)
  have hh : ∀ (π : Path) (o : O) (vs : List Value) (ad ad' : Pl) (u u' : List Value) (pl pl' : Pl), heapy π = false -> res w π o vs ad = some (u, pl) -> res w π o vs ad' = some (u', pl') -> u = u' := by
   intro π
   induction π with
   | nil => intro o vs ad ad' u u' pl pl' _ r1 r2; simp only [res, Option.some.injEq, Prod.mk.injEq] at r1 r2; rw [← r1.1, ← r2.1]
   | cons s π ih =>
    intro o vs ad ad' u u' pl pl' hh r1 r2
    cases s with
    | l =>
     simp only [heapy] at hh
     cases o with
     | p a b => simp only [res] at r1 r2; exact ih _ _ _ _ _ _ _ _ hh r1 r2
     | fz t => cases t <;> simp only [res] at r1 r2 <;> first | exact ih _ _ _ _ _ _ _ _ hh r1 r2 | cases r1
     | sl e => simp only [res] at r1; cases r1
     | pt e => simp only [res] at r1; cases r1
     | mp _ _ => simp only [res] at r1; cases r1
     | op _ => simp only [res] at r1; cases r1
    | r =>
     simp only [heapy] at hh
     cases o with
     | p a b => simp only [res] at r1 r2; exact ih _ _ _ _ _ _ _ _ hh r1 r2
     | fz t => cases t <;> simp only [res] at r1 r2 <;> first | exact ih _ _ _ _ _ _ _ _ hh r1 r2 | cases r1
     | sl e => simp only [res] at r1; cases r1
     | pt e => simp only [res] at r1; cases r1
     | mp _ _ => simp only [res] at r1; cases r1
     | op _ => simp only [res] at r1; cases r1
    | de => simp [heapy] at hh
    | ix i => simp [heapy] at hh
  rw [g4, hh π q.o vs ad none us3 us2 _ _ o2 g4 f1]
 refine ⟨⟨q', ?_⟩, vs.take n, us2, vs.drop (n + us2.length), ?_, by rw [List.length_take]; omega, ob, pl.plus n, h1, gok_ap ρ π _ _ _ h2 k2 g2, ⟨q', by rw [get_ap, h2]; exact g1⟩, ?_⟩
 ·unfold getM; rw [h1]; simp only; rw [get_ap, h2]; exact g1
 ·conv => lhs; rw [← List.take_append_drop n vs]
  rw [List.append_assoc]; congr 1
  conv => lhs; rw [← List.take_append_drop us2.length (vs.drop n)]
  rw [← b3, List.drop_drop]
 ·rw [res_ap w ρ π ob.o ob.x _ _ _ h2, e1]; exact hres pl
theorem Adr.sub (hp : Hp F p M w) {k : Nat} {ρ π : Path} {v : Value} {q : Ob} {n : Nat} (h : Adr p.β M w k ρ v) (hq : getM M k ρ = some q) (ho : offAt π q.o.strip = some n) :
  ∃ b off, v = .pointer (some ⟨b, off, none⟩) /\ Adr p.β M w k (ap ρ π) (.pointer (some ⟨b, off + n, none⟩)) := by
 obtain ⟨ob, h1, h2⟩ := getM_some hq
 obtain ⟨ob', us0, b0, off0, k1, k2, k3, k4, k5, k6⟩ := h
 rw [h1] at k1; cases k1
 obtain ⟨o1, o2⟩ := offAt_offO π q.o n ho
 obtain ⟨⟨q', g1⟩, g2, us', g3⟩ := off_res w π q.o n o1 q.x us0 (some (b0, off0))
 refine ⟨b0, off0, k6, ob, us', b0, off0 + n, h1, gok_ap ρ π _ _ _ h2 k2 g2, ⟨q', by rw [get_ap, h2]; exact g1⟩, heapy_ap ρ π (by rw [k4]; rfl), ?_, rfl⟩
 rw [res_ap w ρ π ob.o ob.x _ _ _ h2, k5]
 exact g3
theorem RelC.one (hp : Hp F p M w) : (v : V) -> (vs : List Value) -> RelC p.β M (Imm F p M w) w v vs -> ∀ u ∈ vs, u.oneCell' = true
 | .p a b, vs, r => by
  simp only [RelC] at r
  obtain ⟨va, vb, rfl, ha, hb⟩ := r
  intro u hu
  rcases List.mem_append.1 hu with hu | hu
  ·exact RelC.one hp a va ha u hu
  ·exact RelC.one hp b vb hb u hu
 | .u, vs, r => by simp only [RelC] at r; subst r; intro u hu; cases hu
 | .ref k π, vs, r => by simp only [RelC] at r; exact r.one hp
 | .ad k π, vs, r => by simp only [RelC] at r; obtain ⟨v, rfl, h⟩ := r; intro u hu; rw [List.mem_singleton.1 hu]; exact h.one
 | .d t x, vs, r => by simp only [RelC] at r; exact RelF.one t x vs r
 | .nl, vs, r => by simp only [RelC] at r; obtain ⟨oa, rfl⟩ := r; intro u hu; rw [List.mem_singleton.1 hu]; rfl
 | .np, vs, r => by simp only [RelC] at r; subst r; intro u hu; rw [List.mem_singleton.1 hu]; rfl
 | .any, vs, r => by simpa only [RelC] using r
 | .fn f v, vs, r => by simp only [RelC] at r; obtain ⟨us, rfl, _⟩ := r; intro u hu; rw [List.mem_singleton.1 hu]; rfl
 | .ag _, vs, r => by simp only [RelC] at r
 | .tup _, vs, r => by simp only [RelC] at r
 | .gd _ _ _ _, vs, r => by simp only [RelC] at r
 | .ifc t v, vs, r => by simp only [RelC] at r; obtain ⟨u, rfl, _⟩ := r; intro u hu; rw [List.mem_singleton.1 hu]; rfl
 | .bx v, vs, r => by simp only [RelC] at r; obtain ⟨b, o, us, rfl, _⟩ := r; intro u hu; rw [List.mem_singleton.1 hu]; rfl
theorem cells_ok (hp : Hp F p M w) {v : V} {u : Value} (h : RelS p.β M (Imm F p M w) w v u) (hc : cellV v = true) : RelC p.β M (Imm F p M w) w v.cells u.cells.toList := by
 have key : RelC p.β M (Imm F p M w) w v [u] -> v.cells = v -> RelC p.β M (Imm F p M w) w v.cells u.cells.toList := fun r e => by
  rw [one_cells (RelC.one hp v _ r u (by simp)), e]; exact r
 cases v with
 | any => cases hc
 | tup _ => cases hc
 | gd _ _ _ _ => cases hc
 | ifc _ _ => exact key (by simpa only [RelS] using h) rfl
 | ag y => simp only [RelS] at h; obtain ⟨vs, rfl, h⟩ := h; simpa [V.cells, Value.cells] using h
 | p a b => exact key (by simpa only [RelS] using h) rfl
 | u => exact key (by simpa only [RelS] using h) rfl
 | ref k π => exact key (by simpa only [RelS] using h) rfl
 | ad k π => exact key (by simpa only [RelS] using h) rfl
 | d t y => exact key (by simpa only [RelS] using h) rfl
 | nl => exact key (by simpa only [RelS] using h) rfl
 | np => exact key (by simpa only [RelS] using h) rfl
 | fn f y => exact key (by simpa only [RelS] using h) rfl
 | bx y => exact key (by simpa only [RelS] using h) rfl
theorem addS_some {a b : Option Nat} {n : Nat} (h : addS a b = some n) : ∃ x y, a = some x /\ b = some y /\ n = x + y := by
 cases a <;> cases b <;> simp [addS] at h
 exact ⟨_, _, rfl, rfl, h.symm⟩
theorem size_ok (hp : Hp F p M w) : (v : V) -> (vs : List Value) -> (n : Nat) -> RelC p.β M (Imm F p M w) w v vs -> v.size M = some n -> vs.length = n
 | .p a b, vs, n, r, h => by
  simp only [RelC] at r
  obtain ⟨va, vb, rfl, ha, hb⟩ := r
  simp only [V.size] at h
  obtain ⟨x, y, hx, hy, rfl⟩ := addS_some h
  rw [List.length_append, size_ok hp a va x ha hx, size_ok hp b vb y hb hy]
 | .u, vs, n, r, h => by simp only [RelC] at r; simp only [V.size, Option.some.injEq] at h; subst r; subst h; rfl
 | .ref k π, vs, n, r, h => by
  simp only [RelC] at r
  simp only [V.size] at h
  split at h
  ·rename_i q hq
   cases h
   obtain ⟨S, hr⟩ := r.look hp hq
   exact Rel.len _ _ _ _ hr
  ·cases h
 | .ad k π, vs, n, r, h => by simp only [RelC] at r; obtain ⟨v, rfl, _⟩ := r; simp only [V.size, Option.some.injEq] at h; subst h; rfl
 | .d t x, vs, n, r, h => by simp only [RelC] at r; simp only [V.size, Option.some.injEq] at h; subst h; exact RelF.len t x vs r
 | .nl, vs, n, r, h => by simp only [RelC] at r; simp only [V.size, Option.some.injEq] at h; obtain ⟨oa, rfl⟩ := r; subst h; rfl
 | .np, vs, n, r, h => by simp only [RelC] at r; simp only [V.size, Option.some.injEq] at h; subst r; subst h; rfl
 | .fn f v, vs, n, r, h => by simp only [RelC] at r; obtain ⟨us, rfl, _⟩ := r; simp only [V.size, Option.some.injEq] at h; subst h; rfl
 | .any, vs, n, r, h => by simp [V.size] at h
 | .ag _, vs, n, r, h => by simp [V.size] at h
 | .tup _, vs, n, r, h => by simp [V.size] at h
 | .gd _ _ _ _, vs, n, r, h => by simp [V.size] at h
 | .ifc t v, vs, n, r, h => by simp only [RelC] at r; obtain ⟨u, rfl, _⟩ := r; simp only [V.size, Option.some.injEq] at h; subst h; rfl
 | .bx v, vs, n, r, h => by simp only [RelC] at r; obtain ⟨b, o, us, rfl, _⟩ := r; simp only [V.size, Option.some.injEq] at h; subst h; rfl
theorem sizeIs_some {M : Mem} {v : V} {n : Nat} (h : sizeIs M v n = true) : v.size M = some n := by
 unfold sizeIs at h
 split at h
 ·rename_i m hm; simp only [beqN_eq, beq_iff_eq] at h; rw [hm, h]
 ·cases h
theorem size_cellV {M : Mem} {v : V} {n : Nat} (h : v.cells.size M = some n) : cellV v = true := by
 cases v <;> first | rfl | simp [V.cells, V.size] at h
theorem subV_ok (hp : Hp F p M w) : (π : Path) -> (v : V) -> (vs : List Value) -> (n : Nat) -> (v' : V) -> RelC p.β M (Imm F p M w) w v vs -> subV M π v = some (n, v') ->
  ∃ va us vb, vs = va ++ us ++ vb /\ va.length = n /\ RelC p.β M (Imm F p M w) w v' us
 | [], v, vs, n, v', r, h => by
  have : subV M [] v = some (0, v) := by cases v <;> rfl
  rw [this] at h
  cases h
  exact ⟨[], vs, [], by simp, rfl, r⟩
 | .l :: π, .p a b, vs, n, v', r, h => by
  simp only [subV] at h
  simp only [RelC] at r
  obtain ⟨va, vb, rfl, ha, hb⟩ := r
  obtain ⟨v1, us, v2, rfl, k2, k3⟩ := subV_ok hp π a va n v' ha h
  exact ⟨v1, us, v2 ++ vb, by simp, k2, k3⟩
 | .r :: π, .p a b, vs, n, v', r, h => by
  simp only [subV] at h
  simp only [RelC] at r
  obtain ⟨va, vb, rfl, ha, hb⟩ := r
  split at h
  ·rename_i m n' v1 hm hs
   cases h
   obtain ⟨v1, us, v2, rfl, k2, k3⟩ := subV_ok hp π b vb n' v' hb hs
   exact ⟨va ++ v1, us, v2, by simp, by rw [List.length_append, size_ok hp a va m ha hm, k2]; simp, k3⟩
  ·cases h
 | s :: π, .ref k ρ, vs, n, v', r, h => by
  have : subV M (s :: π) (.ref k ρ) = (match getM M k ρ, getM M k (ap ρ (s :: π)) with
   | some q, some q' => (match offAt (s :: π) q.o.strip with | some n => some (n, toV k (ap ρ (s :: π)) q'.o q'.x) | none => none)
   | _, _ => none) := by cases s <;> rfl
  rw [this] at h
  simp only [RelC] at r
  split at h
  ·rename_i q q' hq hq'
   split at h
   ·rename_i m hm
    cases h
    obtain ⟨_, va, us, vb, h1, h2, h3⟩ := r.sub hp hq hm
    exact ⟨va, us, vb, h1, h2, toV_ok hp h3 hq'⟩
   ·cases h
  ·cases h
 | .ix _ :: _, .p _ _, _, _, _, _, h => by simp [subV] at h
 | .de :: _, .p _ _, _, _, _, _, h => by simp [subV] at h
 | s :: _, .any, _, _, _, _, h => by cases s <;> simp [subV] at h
 | s :: _, .nl, _, _, _, _, h => by cases s <;> simp [subV] at h
 | s :: _, .np, _, _, _, _, h => by cases s <;> simp [subV] at h
 | s :: _, .u, _, _, _, _, h => by cases s <;> simp [subV] at h
 | s :: _, .d _ _, _, _, _, _, h => by cases s <;> simp [subV] at h
 | s :: _, .ad _ _, _, _, _, _, h => by cases s <;> simp [subV] at h
 | s :: _, .ag _, _, _, _, _, h => by cases s <;> simp [subV] at h
 | s :: _, .tup _, _, _, _, _, h => by cases s <;> simp [subV] at h
 | s :: _, .gd _ _ _ _, _, _, _, _, h => by cases s <;> simp [subV] at h
 | s :: _, .fn _ _, _, _, _, _, h => by cases s <;> simp [subV] at h
 | s :: _, .ifc _ _, _, _, _, _, h => by cases s <;> simp [subV] at h
 | s :: _, .bx _, _, _, _, _, h => by cases s <;> simp [subV] at h
def val (agg : Bool) (vs : List Value) : Value := bif agg then .agg vs.toArray else vs.headD undef
theorem aggV_ok {β : Nat -> Value} {Im : Nat -> Prop} {agg : Bool} {v : V} {vs : List Value} (r : RelC β M Im w v vs) (h : agg = false -> vs.length = 1) : RelS β M Im w (aggV agg v) (val agg vs) := by
 cases agg with
 | true => simp only [aggV, val, cond_true, RelS]; exact ⟨vs, rfl, r⟩
 | false =>
  obtain ⟨u, rfl⟩ := List.length_eq_one_iff.1 (h rfl)
  simp only [aggV, val, cond_false, List.headD_cons]
  exact relS_of_relC r
end
end Go.Bm
/- The typed machine: operations that only look. -/
namespace Go.Bm
open Go.RowKit
section
variable {F : Fr} {p p' p'' : Ow} {env : Env} {M M' M'' : Mem} {a : Act} {w w' w'' : World} {P : Program} {B : Tab}
variable {β : Nat -> Value} {Im : Nat -> Prop}
theorem relS_d {t : T} {x : t.den} {v : Value} : RelS β M Im w (.d t x) v ↔ RelF Im w t x [v] := by simp only [RelS, RelC]
theorem relF_int {k : IntKind} {n : Int} {v : Value} : RelF Im w (.int k) n [v] ↔ v = .int k n /\ inK k n := by simp [RelF]
theorem relF_bool {b : Bool} {v : Value} : RelF Im w .bool b [v] ↔ v = .bool b := by simp [RelF]
theorem relF_str {s : ByteArray} {v : Value} : RelF Im w .str s [v] ↔ v = .string s /\ s.size <= nb := by simp [RelF]
theorem ar_ok (k : IntKind) (n : Int) (hv : allP (ar k n).1) : RelS β M Im w (ar k n).2 (.int k (k.wrap n)) := by
 cases k
 case i64 =>
  simp only [ar, allP_cons, allP_nil, and_true] at hv
  simp only [ar, relS_d, relF_int, wrap_in hv, true_and]
  exact hv
 all_goals
  simp only [ar, relS_d, relF_int, true_and]
  exact wrap_inK _ _
theorem evInt_ok (op : BinOp) (k : IntKind) (a b : Int) (t : TypeId) (x y : Operand) (hv : allP (evInt op k a b).1) :
  ∃ r, (do eqGuard op t x y (.int k a) (.int k b); binOp op t (.int k a) (.int k b) : Sem Value).run P w = .ok r w /\ RelS β M Im w (evInt op k a b).2 r := by
 cases op
 case add => exact ⟨.int k (k.wrap (a + b)), by simp [eqGuard, binOp, Op.intArith], ar_ok k _ hv⟩
 case sub => exact ⟨.int k (k.wrap (a - b)), by simp [eqGuard, binOp, Op.intArith], ar_ok k _ hv⟩
 case mul => exact ⟨.int k (k.wrap (a * b)), by simp [eqGuard, binOp, Op.intArith], ar_ok k _ hv⟩
 case quo =>
  simp only [evInt, allP_cons] at hv ⊢
  exact ⟨.int k (k.wrap (a.tdiv b)), by simp [eqGuard, binOp, Op.intDiv, hv.1], ar_ok k _ hv.2⟩
 case rem =>
  simp only [evInt, allP_cons] at hv ⊢
  exact ⟨.int k (a.tmod b), by simp [eqGuard, binOp, Op.intDiv, hv.1], by simp only [relS_d, relF_int, true_and]; exact hv.2.1⟩
 case eql => exact ⟨.bool (a == b), by simp [eqGuard, binOp, Op.intCmp], by simp only [evInt, good, relS_d, relF_bool]⟩
 case neq => exact ⟨.bool (a != b), by simp [eqGuard, binOp, Op.intCmp], by simp only [evInt, good, relS_d, relF_bool]⟩
 case lss => exact ⟨.bool (decide (a < b)), by simp [eqGuard, binOp, Op.intCmp], by simp only [evInt, good, relS_d, relF_bool]⟩
 case leq => exact ⟨.bool (decide (a <= b)), by simp [eqGuard, binOp, Op.intCmp], by simp only [evInt, good, relS_d, relF_bool]⟩
 case gtr => exact ⟨.bool (decide (b < a)), by simp [eqGuard, binOp, Op.intCmp], by simp only [evInt, good, relS_d, relF_bool]⟩
 case geq => exact ⟨.bool (decide (b <= a)), by simp [eqGuard, binOp, Op.intCmp], by simp only [evInt, good, relS_d, relF_bool]⟩
 case and => exact ⟨.int k (andR k a b), by simp [eqGuard, binOp, Op.intBits, andR], by simp only [evInt, good, relS_d, relF_int, true_and]; exact wrap_inK _ _⟩
 case shr =>
  simp only [evInt, allP_cons] at hv ⊢
  refine ⟨.int k (shrR k a b), ?_, by simp only [relS_d, relF_int, true_and]; exact hv.2.1⟩
  have h0 : ¬ b < 0 := by omega
  simp [eqGuard, binOp, Op.shift, shrR, h0]
 all_goals exact hv.1.elim
theorem evStr_ok (op : BinOp) (a b : ByteArray) (t : TypeId) (x y : Operand) (hv : allP (evStr op a b).1) :
  ∃ r, (do eqGuard op t x y (.string a) (.string b); binOp op t (.string a) (.string b) : Sem Value).run P w = .ok r w /\ RelS β M Im w (evStr op a b).2 r := by
 cases op
 case add =>
  simp only [evStr, allP_cons, allP_nil, and_true] at hv ⊢
  have h1 : ¬ (((a.size + b.size : Nat) : Int) > IntKind.i64.max) := by simp only [nb] at hv; simp [IntKind.max, IntKind.signed, IntKind.bits]; omega
  refine ⟨.string (a ++ b), ?_, ?_⟩
  ·have h2 : ¬ (9223372036854775807 < (a.size : Int) + b.size) := by simp only [nb] at hv; omega
   simp [eqGuard, binOp, Op.stringOp, IntKind.max, IntKind.signed, IntKind.bits, h2]
  ·simp only [relS_d, relF_str, true_and]; rw [ByteArray.size_append]; exact hv
 case eql => exact ⟨.bool (a.toList == b.toList), by simp [eqGuard, binOp, Op.stringOp], by simp only [evStr, good, relS_d, relF_bool]⟩
 case neq => exact ⟨.bool (!(a.toList == b.toList)), by simp [eqGuard, binOp, Op.stringOp], by simp only [evStr, good, relS_d, relF_bool]⟩
 case lss => exact ⟨.bool (Op.bytesLess a.toList b.toList), by simp [eqGuard, binOp, Op.stringOp], by simp only [evStr, good, relS_d, relF_bool]⟩
 case leq => exact ⟨.bool (Op.bytesLess a.toList b.toList || a.toList == b.toList), by simp [eqGuard, binOp, Op.stringOp], by simp only [evStr, good, relS_d, relF_bool]⟩
 case gtr => exact ⟨.bool (!(Op.bytesLess a.toList b.toList || a.toList == b.toList)), by simp [eqGuard, binOp, Op.stringOp], by simp only [evStr, good, relS_d, relF_bool]⟩
 case geq => exact ⟨.bool (!(Op.bytesLess a.toList b.toList)), by simp [eqGuard, binOp, Op.stringOp], by simp only [evStr, good, relS_d, relF_bool]⟩
 all_goals exact hv.1.elim
theorem evBin_ok (hB : TabOk P B) (op : BinOp) (t : TypeId) (x y : Operand) (ax ay : V) (u v : Value) (h : RelS β M Im w ax u) (h' : RelS β M Im w ay v) (hv : allP (evBin (B.τ t) op ax ay).1) :
  ∃ r, (do eqGuard op t x y u v; binOp op t u v : Sem Value).run P w = .ok r w /\ RelS β M Im w (evBin (B.τ t) op ax ay).2 r := by
 unfold evBin at hv ⊢
 split at hv
 ·rename_i k a k' b
  simp only [relS_d, relF_int] at h h'
  obtain ⟨rfl, _⟩ := h
  obtain ⟨rfl, _⟩ := h'
  have hk := gd_bad hv
  simp only [hk, cond_true] at hv ⊢
  obtain rfl := kbeq_eq hk
  exact evInt_ok op _ _ _ t x y hv
 ·rename_i a b
  simp only [relS_d, relF_bool] at h h'
  subst h; subst h'
  have hk := gd_bad hv
  simp only [hk, cond_true] at hv ⊢
  simp only [allT_cons, allT_nil, Bool.and_true, Bool.and_eq_true] at hk
  rw [← hB.τ t hk.1] at hk
  obtain ⟨i, d, hi, hd⟩ := ty_some hk.1
  rw [ty_of hi hd] at hk
  have h2 := hk.2
  simp only [tyOf] at h2
  cases d <;> simp at h2
  cases op
  case eql => exact ⟨.bool (a == b), by simp [eqGuard, run_eql_bool w t a b hd], by simp only [good, relS_d, relF_bool]⟩
  case neq => exact ⟨.bool (a != b), by simp [eqGuard, binOp, run_equal_bool w t a b hd]; cases a <;> cases b <;> rfl, by simp only [good, relS_d, relF_bool]⟩
  all_goals exact hv.1.elim
 ·simp only [relS_d, relF_str] at h h'
  obtain ⟨rfl, _⟩ := h
  obtain ⟨rfl, _⟩ := h'
  exact evStr_ok op _ _ t x y hv
 ·exact hv.1.elim
theorem evMM_ok (g : Bool) (ts : Array TypeId) (t : TypeId) (ax ay : V) (u v : Value) (h : RelS β M Im w ax u) (h' : RelS β M Im w ay v) (hv : allP (evMM g ax ay).1) :
  ∃ r, (bif g then Builtin.max_ ts t #[u, v] else Builtin.min_ ts t #[u, v]).run P w = .ok r w /\ RelS β M Im w (evMM g ax ay).2 r := by
 unfold evMM at hv ⊢
 split at hv
 ·rename_i k a k' b
  simp only [relS_d, relF_int] at h h'
  obtain ⟨rfl, ha⟩ := h
  obtain ⟨rfl, hb⟩ := h'
  have hk := gd_bad hv
  simp only [hk, cond_true] at hv ⊢
  obtain rfl := kbeq_eq hk
  cases g with
  | true =>
   refine ⟨.int k (mxR a b), ?_, by simp only [good, relS_d, relF_int, cond_true]; refine ⟨trivial, ?_⟩; unfold mxR; split <;> assumption⟩
   simp only [cond_true, mxR]; exact run_max_int2 _ _ _ _ _ _ _
  | false =>
   refine ⟨.int k (mnR a b), ?_, by simp only [good, relS_d, relF_int, cond_false]; refine ⟨trivial, ?_⟩; unfold mnR; split <;> assumption⟩
   simp only [cond_false, mnR]; exact run_min_int2 _ _ _ _ _ _ _
 ·exact hv.1.elim
theorem eqF (w : World) (P : Program) {β : Nat -> Value} {M : Mem} {Im : Nat -> Prop} {w0 : World} (d : Nat) : ∀ (n : Nat) (a b : V) (vs vs' : List Value) (r : Bool) (pre pre' : List Value) (fs : List Field), eqInts n a b = some r -> RelC β M Im w0 a vs -> RelC β M Im w0 b vs' ->
  intFs P fs pre.length = true -> fs.length = n -> pre'.length = pre.length -> (Op.eqFields (d + 1) (pre ++ vs).toArray (pre' ++ vs').toArray fs).run P w = .ok r w := by
 have one : ∀ (k k' : IntKind) (x y : Int) (vs vs' pre pre' : List Value) (f : Field), (bif allT [neg (f.name == "_"), Nat.beq f.offset pre.length, isInt (P.underlying f.type)] then True else False) -> pre'.length = pre.length ->
   f.name ≠ "_" /\ (part f.type (pre ++ .int k x :: vs).toArray f.offset).run P w = .ok (.int k x) w /\ (part f.type (pre' ++ .int k' y :: vs').toArray f.offset).run P w = .ok (.int k' y) w /\ (Op.equalIn (d + 1) f.type (.int k x) (.int k y)).run P w = .ok (x == y) w := by
  intro k k' x y vs vs' pre pre' f h hl
  cases hb : allT [neg (f.name == "_"), Nat.beq f.offset pre.length, isInt (P.underlying f.type)] with
  | false => rw [hb] at h; exact h.elim
  | true =>
   simp only [allT_cons, allT_nil, Bool.and_true, Bool.and_eq_true, neg_eq, Bool.not_eq_true'] at hb
   obtain ⟨h1, h2, h3⟩ := hb
   have h2 := Nat.eq_of_beq_eq_true h2
   cases hu : P.underlying f.type with
   | none => rw [hu] at h3; cases h3
   | some u =>
    rw [hu] at h3
    cases u <;> simp only [isInt, Bool.false_eq_true] at h3
    have hp : P.plainKey f.type = true := by simp [Program.plainKey, hu]
    exact ⟨by simpa using h1, run_part_plain w hp (by rw [h2]; simp), run_part_plain w hp (by rw [h2, ← hl]; simp), run_equalIn_int w d f.type k _ x y hu⟩
 intro n
 induction n with
 | zero => intro a b vs vs' r pre pre' fs h; cases a <;> cases b <;> simp [eqInts] at h
 | succ n ih =>
  intro a b vs vs' r pre pre' fs h ha hb hf hl hp
  obtain ⟨f, fs, rfl⟩ : ∃ f r, fs = f :: r := by cases fs with | nil => cases hl | cons f r => exact ⟨f, r, rfl⟩
  simp only [intFs] at hf
  have hc : (bif allT [neg (f.name == "_"), Nat.beq f.offset pre.length, isInt (P.underlying f.type)] then True else False) /\ intFs P fs (Nat.succ pre.length) = true := by
   cases hb : allT [neg (f.name == "_"), Nat.beq f.offset pre.length, isInt (P.underlying f.type)] with
   | false => rw [hb] at hf; cases hf
   | true => rw [hb] at hf; exact ⟨trivial, hf⟩
  cases n with
  | zero =>
   unfold eqInts at h
   split at h
   ·rename_i k x k' y he
    simp only [RelC, RelF] at ha hb
    obtain ⟨rfl, _⟩ := ha
    obtain ⟨rfl, _⟩ := hb
    cases hk : kbeq k k' with
    | false => rw [hk] at h; cases h
    | true =>
     rw [hk] at h
     cases h
     have := kbeq_eq hk
     subst this
     have hfs : fs = [] := by cases fs with | nil => rfl | cons _ _ => simp at hl
     subst hfs
     obtain ⟨o1, o2, o3, o4⟩ := one k k x y [] [] pre pre' f hc.1 hp
     simp only [Op.eqFields, if_pos o1, Sem.run_bind, o2, Result.andThen_ok, o3, o4, ne_eq, not_false_eq_true, if_true]
     cases x == y <;> simp
   ·rename_i n' _ _ _ _ _ _ he; omega
   ·cases h
  | succ n =>
   unfold eqInts at h
   split at h
   ·rename_i he; omega
   ·rename_i n' k x a' k' y b' he
    have : n' = n := by omega
    subst this
    cases hr : eqInts (n' + 1) a' b' with
    | none => rw [hr] at h; cases h
    | some r' =>
     rw [hr] at h
     cases hk : kbeq k k' with
     | false => rw [hk] at h; cases h
     | true =>
      rw [hk] at h
      cases h
      have := kbeq_eq hk
      subst this
      simp only [RelC, RelF] at ha hb
      obtain ⟨va, va', rfl, ⟨rfl, _⟩, ha'⟩ := ha
      obtain ⟨vb, vb', rfl, ⟨rfl, _⟩, hb'⟩ := hb
      obtain ⟨o1, o2, o3, o4⟩ := one k k x y va' vb' pre pre' f hc.1 hp
      have hi := ih a' b' va' vb' r' (pre ++ [.int k x]) (pre' ++ [.int k y]) fs hr ha' hb' (by simpa using hc.2) (by simpa using hl) (by simpa using hp)
      simp only [List.append_assoc, List.singleton_append] at hi ⊢
      simp only [Op.eqFields, if_pos o1, Sem.run_bind, o2, Result.andThen_ok, o3, o4, ne_eq, not_false_eq_true, if_true]
      cases x == y
      ·simp
      ·simp
       exact hi
   ·cases h
def fakeF (e : TypeId) (i : Nat) : Field := { (default : Field) with name := "a", type := e, offset := i }
theorem items_fields (w : World) (P : Program) (d : Nat) (e : TypeId) (xs ys : Array Value) : ∀ is : List Nat, (Op.eqItems d e 1 xs ys is).run P w = (Op.eqFields d xs ys (is.map (fakeF e))).run P w
 | [] => rfl
 | i :: is => by
  have h : (fakeF e i).name ≠ "_" := by simp [fakeF]
  simp only [List.map_cons, Op.eqItems, Op.eqFields, if_pos h, Nat.mul_one]
  simp only [fakeF, Sem.run_bind]
  congr 1; funext x w1; congr 1; funext y w2; congr 1; funext r w3
  cases r
  ·rfl
  ·exact items_fields w3 P d e xs ys is
theorem evBinS_ok (hB : TabOk P B) (op : BinOp) (t : TypeId) (x y : Operand) (ax ay : V) (u v : Value) (h : RelS β M Im w ax u) (h' : RelS β M Im w ay v) (hv : allP (evBinS B t op ax ay).1) :
  ∃ r, (do eqGuard op t x y u v; binOp op t u v : Sem Value).run P w = .ok r w /\ RelS β M Im w (evBinS B t op ax ay).2 r := by
 unfold evBinS at hv ⊢
 split at hv
 ·rename_i a b
  simp only [RelS] at h h'
  obtain ⟨vs, rfl, ha⟩ := h
  obtain ⟨vs', rfl, hb⟩ := h'
  unfold evAgg at hv ⊢
  have key : ∀ r, eqInts (B.q t) a b = some r -> (eqGuard op t x y (.agg vs.toArray) (.agg vs'.toArray)).run P w = .ok () w /\ (Op.equalIn 10000 t (.agg vs.toArray) (.agg vs'.toArray)).run P w = .ok r w := by
   intro r hr
   have hz : isZ (B.q t) = false := by
    cases hq : B.q t with
    | zero => rw [hq] at hr; cases a <;> cases b <;> simp [eqInts] at hr
    | succ n => rfl
   have hq := hB.q t hz
   unfold eqTy at hq
   split at hq
   ·rename_i fs hu
    cases hall : allT [neg (P.stoodInHeld t), neg (P.eqGuardType P.depth t), intFs P (toL fs) 0] with
    | false => rw [hall] at hq; simp only [cond_false] at hq; rw [← hq] at hz; cases hz
    | true =>
     rw [hall] at hq
     simp only [cond_true] at hq
     simp only [allT_cons, allT_nil, Bool.and_true, Bool.and_eq_true, neg_eq, Bool.not_eq_true'] at hall
     obtain ⟨h1, h2, h3⟩ := hall
     have hfs : P.fieldsOf t = fs := by simp [Program.fieldsOf, hu]
     refine ⟨run_eqGuard_agg w op t x y _ _ h2, ?_⟩
     rw [run_equalIn_struct w 9999 t _ _ (by rw [hfs]; exact hu) h1, hfs]
     have htl : toL fs = fs.toList := by cases fs; rfl
     rw [htl] at h3 hq
     have := eqF w P (w0 := w) 9998 (B.q t) a b vs vs' r [] [] fs.toList hr ha hb h3 (by rw [← hq, len_eq]) rfl
     simpa using this
   ·rename_i n e hu
    cases hall : allT [neg (P.eqGuardType P.depth t), isInt (P.underlying e), Nat.beq (P.cellsOf e) 1] with
    | false => rw [hall] at hq; simp only [cond_false] at hq; rw [← hq] at hz; cases hz
    | true =>
     rw [hall] at hq
     simp only [cond_true] at hq
     simp only [allT_cons, allT_nil, Bool.and_true, Bool.and_eq_true, neg_eq, Bool.not_eq_true'] at hall
     obtain ⟨h1, h2, h3⟩ := hall
     have h3 := Nat.eq_of_beq_eq_true h3
     have hie : ∃ i, P.info? e = some i := by
      unfold Program.cellsOf at h3
      cases h : P.info? e with
      | none => simp [h] at h3
      | some i => exact ⟨i, rfl⟩
     obtain ⟨ie, hie⟩ := hie
     refine ⟨run_eqGuard_agg w op t x y _ _ h1, ?_⟩
     rw [run_equalIn_array w 9999 _ _ hu hie, h3, items_fields]
     have hin : ∀ (m i : Nat), intFs P ((List.range' i m).map (fakeF e)) i = true := fun m => by
      induction m with
      | zero => intro i; rfl
      | succ m ih =>
       intro i
       have h4 : ∀ i : Nat, Nat.beq i i = true := fun i => Nat.beq_refl i
       have h5 : ((("a" : String) == "_") = false) := by decide
       simp only [List.range'_succ, List.map_cons, intFs, fakeF, h4, h2, h5, neg_eq, Bool.not_false, allT_cons, allT_nil, Bool.and_self, Bool.and_true, cond_true]
       exact ih (i + 1)
     rw [List.range_eq_range']
     have := eqF w P (w0 := w) 9998 (B.q t) a b vs vs' r [] [] ((List.range' 0 n).map (fakeF e)) hr ha hb (hin n 0) (by simp [hq]) rfl
     simpa using this
   ·rw [← hq] at hz; cases hz
  split at hv
  ·rename_i r hr
   obtain ⟨k1, k2⟩ := key r hr
   exact ⟨.bool r, by simp only [Sem.run_bind, k1, Result.andThen_ok, run_eql_struct, k2], by simp only [good, relS_d, relF_bool]⟩
  ·rename_i r hr
   obtain ⟨k1, k2⟩ := key r hr
   exact ⟨.bool (!r), by simp only [Sem.run_bind, k1, Result.andThen_ok, run_neq_struct, k2], by simp only [good, relS_d, relF_bool]⟩
  ·exact hv.1.elim
 ·exact evBin_ok hB op t x y ax ay u v h h' hv
theorem nilC_eval (a : Act) : (y : Operand) -> isNilC y = true -> a.eval y = .slice none 0 0
 | .const (.slice none n m), h => by
  simp only [isNilC, nob_eq, Bool.and_eq_true] at h
  have h1 := Nat.eq_of_beq_eq_true h.1
  have h2 := Nat.eq_of_beq_eq_true h.2
  subst h1; subst h2
  rfl
theorem nilCmp {t : TypeId} {x y : Operand} {u : Value} {e : T} {l : Option e.den} {op : BinOp} (hop : op = .eql ∨ op = .neq) (hok : (ty P t).ok = true) (hel : neg (isN (ty P t).el) = true) (h : RelF Im w (.ns e) l [u]) :
  (do eqGuard op t x y u (.slice none 0 0); binOp op t u (.slice none 0 0) : Sem Value).run P w = .ok (.bool (bif op == .eql then l.isNone else l.isSome)) w := by
 obtain ⟨inf, c, hi, hc⟩ := ty_some hok
 rw [ty_of hi hc] at hel
 simp only [tyOf] at hel
 cases c <;> simp only [isN, neg_eq, Bool.not_true, Bool.false_eq_true] at hel
 have key : (Op.equal t u (.slice none 0 0)).run P w = .ok l.isNone w := by
  show (Op.equalIn (9999 + 1) t u (.slice none 0 0)).run P w = .ok l.isNone w
  simp only [RelF, List.cons.injEq, and_true] at h
  generalize 9999 = d
  rcases h with ⟨rfl, rfl⟩ | ⟨y, a, n, c, rfl, rfl, _⟩ <;> simp [Op.equalIn, run_underlying hc]
 have hu : ∃ b n c, u = .slice b n c := by
  simp only [RelF, List.cons.injEq, and_true] at h
  rcases h with ⟨_, rfl⟩ | ⟨y, a, n, c, _, rfl, _⟩
  ·exact ⟨_, _, _, rfl⟩
  ·exact ⟨_, _, _, rfl⟩
 obtain ⟨b, n, c, rfl⟩ := hu
 generalize hz : l.isNone = z at key
 have hz' : l.isSome = !z := by rw [← hz]; cases l <;> rfl
 rw [hz']
 rcases hop with rfl | rfl
 ·simp [eqGuard, binOp, key]
 ·simp [eqGuard, binOp, key]
  cases z <;> rfl
theorem evBinN_ok (hB : TabOk P B) (op : BinOp) (t : TypeId) (x y : Operand) (z : Bool) (ax ay : V) (u v : Value) (hz : z = true -> v = .slice none 0 0) (h : RelS β M Im w ax u) (h' : RelS β M Im w ay v) (hv : allP (evBinN B t op z ax ay).1) :
  ∃ r, (do eqGuard op t x y u v; binOp op t u v : Sem Value).run P w = .ok r w /\ RelS β M Im w (evBinN B t op z ax ay).2 r := by
 unfold evBinN at hv ⊢
 split at hv
 ·have hk := gd_bad hv
  simp only [hk, cond_true] at hv ⊢
  simp only [allT_cons, allT_nil, Bool.and_true, Bool.and_eq_true] at hk
  rw [← hB.τ t hk.1] at hk
  rw [relS_d] at h
  rw [hz rfl]
  exact ⟨_, nilCmp (.inl rfl) hk.1 hk.2 h, by simp only [good, relS_d, RelF]; rfl⟩
 ·have hk := gd_bad hv
  simp only [hk, cond_true] at hv ⊢
  simp only [allT_cons, allT_nil, Bool.and_true, Bool.and_eq_true] at hk
  rw [← hB.τ t hk.1] at hk
  rw [relS_d] at h
  rw [hz rfl]
  exact ⟨_, nilCmp (.inr rfl) hk.1 hk.2 h, by simp only [good, relS_d, RelF]; rfl⟩
 ·exact evBinS_ok hB op t x y ax ay u v h h' hv
theorem evUn_ok (op : UnOp) (x : V) (u : Value) (h : RelS β M Im w x u) (hv : allP (evUn op x).1) : ∃ r, (Op.unary op u).run P w = .ok r w /\ RelS β M Im w (evUn op x).2 r := by
 unfold evUn at hv ⊢
 split at hv
 ·simp only [relS_d, relF_bool] at h
  subst h
  exact ⟨_, by simp [Op.unary]; rfl, by simp only [good, relS_d, relF_bool]⟩
 ·simp only [relS_d, relF_int] at h
  obtain ⟨rfl, _⟩ := h
  exact ⟨_, by simp [Op.unary, Op.intArith]; rfl, by simpa using ar_ok _ _ hv⟩
 ·exact hv.1.elim
theorem evConv_ok (hB : TabOk P B) (s d : TypeId) (x : V) (u : Value) (h : RelS β M Im w x u) (hv : allP (evConv (B.τ s) (B.τ d) x).1) : ∃ r, (convert s d u).run P w = .ok r w /\ RelS β M Im w (evConv (B.τ s) (B.τ d) x).2 r := by
 unfold evConv at hv ⊢
 split at hv
 ·rename_i k n k1 k' h1 h2
  have hk := gd_bad hv
  simp only [hk, cond_true] at hv ⊢
  simp only [allT_cons, allT_nil, Bool.and_true, Bool.and_eq_true] at hk
  obtain ⟨o1, o2, o3⟩ := hk
  rw [← hB.τ s o1] at h1 o1
  rw [← hB.τ d o2] at h2 o2
  obtain rfl := kbeq_eq o3
  obtain ⟨i, c, hi, hc⟩ := ty_some o1
  obtain ⟨i', c', hi', hc'⟩ := ty_some o2
  rw [ty_of hi hc] at h1
  rw [ty_of hi' hc'] at h2
  simp only [tyOf] at h1 h2
  cases c <;> simp at h1
  cases c' <;> simp at h2
  subst h1; subst h2
  simp only [relS_d, relF_int] at h
  obtain ⟨rfl, hk⟩ := h
  rename_i kd
  refine ⟨.int kd (kd.wrap n), by simp [convert, run_underlying hc, run_underlying hc', Conv.intToInt], ?_⟩
  cases hkk : kbeq _ kd with
  | true =>
   obtain rfl := kbeq_eq hkk
   simp only [cond_true, good, relS_d, relF_int]
   exact ⟨by rw [wrap_in hk], hk⟩
  | false =>
   simp only [cond_false, good, relS_d, relF_int, true_and]
   exact wrap_inK _ _
 ·exact hv.1.elim
theorem nth_ok : (x : V) -> (vs : List Value) -> (i : Nat) -> (y : V) -> RelT β M Im w x vs -> nth x i = some y -> ∃ u, vs[i]? = some u /\ RelS β M Im w y u
 | .p a b, vs, 0, y, r, h => by
  simp only [RelT] at r
  simp only [nth, Option.some.injEq] at h
  subst h
  obtain ⟨u, us, rfl, h1, _⟩ := r
  exact ⟨u, rfl, h1⟩
 | .p a b, vs, i + 1, y, r, h => by
  simp only [RelT] at r
  simp only [nth] at h
  obtain ⟨u, us, rfl, _, h2⟩ := r
  obtain ⟨v, h3, h4⟩ := nth_ok b us i y h2 h
  exact ⟨v, by simpa using h3, h4⟩
 | .any, _, _, _, _, h => by simp [nth] at h
 | .nl, _, _, _, _, h => by simp [nth] at h
 | .np, _, _, _, _, h => by simp [nth] at h
 | .u, _, _, _, _, h => by simp [nth] at h
 | .d _ _, _, _, _, _, h => by simp [nth] at h
 | .ref _ _, _, _, _, _, h => by simp [nth] at h
 | .ad _ _, _, _, _, _, h => by simp [nth] at h
 | .ag _, _, _, _, _, h => by simp [nth] at h
 | .tup _, _, _, _, _, h => by simp [nth] at h
 | .gd _ _ _ _, _, _, _, _, h => by simp [nth] at h
 | .fn _ _, _, _, _, _, h => by simp [nth] at h
 | .ifc _ _, _, _, _, _, h => by simp [nth] at h
 | .bx _, _, _, _, _, h => by simp [nth] at h
theorem evExt_ok (x : V) (i : Nat) (u : Value) (h : RelS β M Im w x u) (hv : allP (evExt x i).1) : ∃ r, (Instr.extract u i).run P w = .ok r w /\ RelS β M Im w (evExt x i).2 r := by
 unfold evExt at hv ⊢
 split at hv
 ·rename_i v
  split at hv
  ·rename_i y hy
   simp only [RelS] at h
   obtain ⟨vs, rfl, hl⟩ := h
   obtain ⟨u, hu1, hu2⟩ := nth_ok v vs i y hl hy
   exact ⟨u, by simp [Instr.extract, hu1], by simp only [hy, good]; exact hu2⟩
  ·exact hv.1.elim
 ·exact hv.1.elim
theorem evNil_ok (x : V) (u : Value) (h : RelS p.β M (Imm F p M w) w x u) (hv : allP (evNil x).1) : (∃ a, u = .pointer (some a)) /\ RelS p.β M (Imm F p M w) w (evNil x).2 u := by
 unfold evNil at hv ⊢
 split at hv
 ·refine ⟨?_, h⟩
  simp only [relS_d, RelF, List.cons.injEq, and_true] at h
  obtain ⟨b, o, us, rfl, _⟩ := h
  exact ⟨_, rfl⟩
 ·refine ⟨?_, h⟩
  simp only [RelS, RelC, List.cons.injEq, and_true, exists_eq_left'] at h
  obtain ⟨_, _, _, _, _, _, _, _, _, rfl⟩ := h
  exact ⟨_, rfl⟩
 ·refine ⟨?_, h⟩
  simp only [RelS, RelC, List.cons.injEq, and_true] at h
  obtain ⟨b, o, us, rfl, _⟩ := h
  exact ⟨_, rfl⟩
 ·exact hv.1.elim
theorem run_fieldAt {t : TypeId} {i : Nat} {off : Nat} {ft : TypeId} {fsz : Nat} (b o : Nat) (hok : (ty P t).ok = true) (hf : (ty P t).fld[i]? = some (off, ft, fsz)) (hz : fsz ≠ 0) :
  (Instr.fieldAt t (.pointer (some ⟨b, o, none⟩)) i).run P w = .ok (.pointer (some ⟨b, o + off, none⟩)) w := by
 obtain ⟨inf, u, hi, hu⟩ := ty_some hok
 rw [ty_of hi hu] at hf
 simp only [tyOf] at hf
 cases u <;> simp at hf
 case struct fs =>
  obtain ⟨f, hf, rfl, rfl, rfl⟩ := hf
  have hc : ∃ inf', P.info? f.type = some inf' /\ inf'.size ≠ 0 := by
   unfold Program.cellsOf at hz
   cases h : P.info? f.type with
   | none => simp [h] at hz
   | some inf' => exact ⟨inf', rfl, by simpa [h] using hz⟩
  obtain ⟨inf', h1, h2⟩ := hc
  have hadd : (⟨b, o, none⟩ : Addr).add f.offset = ⟨b, o + f.offset, none⟩ := by unfold Addr.add; split <;> simp_all
  simp [Instr.fieldAt, run_underlying hu, hf, Instr.sureAddr, fieldPlace, sizeOf, typeInfo, h1, h2, hadd]
theorem subA_ok (hp : Hp F p M w) (x : V) (π : Path) (off : Nat) (u : Value) (h : RelS p.β M (Imm F p M w) w x u) (hv : allP (subA M x π off).1) :
  ∃ b o, u = .pointer (some ⟨b, o, none⟩) /\ RelS p.β M (Imm F p M w) w (subA M x π off).2 (.pointer (some ⟨b, o + off, none⟩)) := by
 unfold subA at hv ⊢
 split at hv
 ·rename_i t y
  split at hv
  ·rename_i n q hn hq
   have hk := gd_bad hv
   simp only [hk, cond_true] at hv ⊢
   simp only [beqN_eq, beq_iff_eq] at hk
   subst hk
   simp only [relS_d, RelF, List.cons.injEq, and_true] at h
   obtain ⟨b, o, us, rfl, h1, h2, h3⟩ := h
   obtain ⟨va, us', vb, rfl, k2, k3⟩ := subT_ok π t y n q us hn hq h3
   refine ⟨b, o, rfl, ?_⟩
   simp only [hn, hq, beqN_eq, beq_self_eq_true, cond_true, good, relS_d, RelF]
   exact ⟨b, o + n, us', rfl, h1, by rw [← k2]; exact h2.sub, k3⟩
  ·exact hv.1.elim
 ·rename_i k ρ
  split at hv
  ·rename_i q hq
   split at hv
   ·rename_i n hn
    have hk := gd_bad hv
    simp only [hk, cond_true] at hv ⊢
    simp only [beqN_eq, beq_iff_eq] at hk
    subst hk
    simp only [RelS, RelC, List.cons.injEq, and_true, exists_eq_left'] at h
    obtain ⟨b, o, rfl, h1⟩ := h.sub hp hq hn
    refine ⟨b, o, rfl, ?_⟩
    simp only [hq, hn, beqN_eq, beq_self_eq_true, cond_true, good, RelS, RelC]
    exact ⟨_, rfl, h1⟩
   ·exact hv.1.elim
  ·exact hv.1.elim
 ·rename_i v
  split at hv
  ·rename_i q hq
   obtain ⟨n, v'⟩ := q
   have hk := gd_bad hv
   simp only [hk, cond_true] at hv ⊢
   simp only [beqN_eq, beq_iff_eq] at hk
   subst hk
   simp only [RelS, RelC, List.cons.injEq, and_true] at h
   obtain ⟨b, o, us, rfl, h1, h2, h3⟩ := h
   obtain ⟨va, us', vb, rfl, k2, k3⟩ := subV_ok hp π v us n v' h3 hq
   refine ⟨b, o, rfl, ?_⟩
   simp only [hq, beqN_eq, beq_self_eq_true, cond_true, good, RelS, RelC, List.cons.injEq, and_true]
   exact ⟨b, o + n, us', rfl, h1, by rw [← k2]; exact h2.sub, k3⟩
  ·exact hv.1.elim
 ·exact hv.1.elim
theorem evFldA_ok (hB : TabOk P B) (hp : Hp F p M w) {t : TypeId} {i : Nat} (x : V) (u : Value) (h : RelS p.β M (Imm F p M w) w x u) (hv : allP (evFldA (B.τ t) M x i).1) :
  ∃ r, (Instr.fieldAt t u i).run P w = .ok r w /\ RelS p.β M (Imm F p M w) w (evFldA (B.τ t) M x i).2 r := by
 unfold evFldA at hv ⊢
 split at hv
 ·rename_i off ft fsz hf
  have hk := gd_bad hv
  simp only [hk, cond_true] at hv ⊢
  simp only [allT_cons, allT_nil, Bool.and_true, Bool.and_eq_true] at hk
  obtain ⟨b, o, rfl, h1⟩ := subA_ok hp x _ off u h hv
  have e := hB.τ t hk.1
  refine ⟨_, run_fieldAt (t := t) (i := i) (off := off) (ft := ft) (fsz := fsz) b o (by rw [e]; exact hk.1) (by rw [e, ← nthL_eq]; exact hf) ?_, ?_⟩
  ·rintro rfl; simp at hk
  ·simpa only [hf, allT_cons, allT_nil, Bool.and_true, hk.1, hk.2, Bool.and_self, cond_true] using h1
 ·exact hv.1.elim
theorem evFld_ok (hB : TabOk P B) (hp : Hp F p M w) {t : TypeId} {i : Nat} (x : V) (u : Value) (h : RelS p.β M (Imm F p M w) w x u) (hv : allP (evFld B (B.τ t) M x i).1) :
  ∃ r, (Instr.field t u i).run P w = .ok r w /\ RelS p.β M (Imm F p M w) w (evFld B (B.τ t) M x i).2 r := by
 unfold evFld at hv ⊢
 split at hv
 ·rename_i off ft fsz v hf
  split at hv
  ·rename_i n y hs
   have hk := gd_bad hv
   simp only [hk, cond_true] at hv ⊢
   simp only [allT_cons, allT_nil, Bool.and_true, Bool.and_eq_true, orb_eq, beqN_eq, beq_iff_eq, Bool.or_eq_true] at hk
   obtain ⟨o1, o2, rfl, o4, o5⟩ := hk
   simp only [RelS] at h
   obtain ⟨vs, rfl, hr⟩ := h
   obtain ⟨va, us, vb, rfl, k2, k3⟩ := subV_ok hp _ v vs n y hr hs
   have hlen := size_ok hp y us _ k3 (sizeIs_some o4)
   have e := hB.τ t o1
   have e' := hB.τ ft o2
   rw [← e, nthL_eq] at hf
   rw [← e] at o1
   obtain ⟨inf, d, hi, hu⟩ := ty_some o1
   rw [ty_of hi hu] at hf
   simp only [tyOf] at hf
   cases d <;> simp at hf
   case struct fs =>
    obtain ⟨f, hf, rfl, rfl, rfl⟩ := hf
    rw [← e'] at o2 o5 hlen ⊢
    obtain ⟨inf', d', hi', hu'⟩ := ty_some o2
    have hx : ((va ++ us ++ vb).drop f.offset).take us.length = us := by
     rw [List.append_assoc, ← k2, List.drop_left, List.take_left]
    refine ⟨val (ty P f.type).agg us, ?_, ?_⟩
    ·cases ha : (ty P f.type).agg with
     | true =>
      simp only [val, cond_true]
      rw [ty_of hi' hu'] at ha hlen
      simp only [tyOf] at ha hlen
      rw [hlen] at hx
      cases d' <;> simp at ha <;> simp [Instr.field, run_underlying hu, hf, asAgg, part, isAgg, run_underlying hu', sizeOf, typeInfo, hi', List.extract_eq_take_drop] <;> simpa using hx
     | false =>
      simp only [val, cond_false]
      rw [ha] at o5
      have h1 : us.length = 1 := by
       rw [hlen]; rcases o5 with h | h
       ·cases h
       ·exact h
      obtain ⟨u0, rfl⟩ := List.length_eq_one_iff.1 h1
      rw [ty_of hi' hu'] at ha
      simp only [tyOf] at ha
      have hget : (va ++ [u0] ++ vb)[f.offset]? = some u0 := by
       rw [List.append_assoc, ← k2, List.getElem?_append_right (Nat.le_refl _)]; simp
      have hget' : (va ++ u0 :: vb)[f.offset]? = some u0 := by simpa using hget
      cases d' <;> simp at ha <;> simp [Instr.field, run_underlying hu, hf, asAgg, part, isAgg, run_underlying hu', hget']
    ·exact aggV_ok k3 (fun ha => by
      rw [hlen]; rcases o5 with h | h
      ·rw [ha] at h; cases h
      ·exact h)
  ·exact hv.1.elim
 ·exact hv.1.elim
theorem run_indexAt {t e : TypeId} (k : IntKind) (n : Int) (a : Addr) (len cap : Nat) (hok : (ty P t).ok = true) (he : (ty P t).el = some e) (heok : (ty P e).ok = true) (ha : a.spot = none) (h0 : 0 <= n) (h1 : n < len) :
  (Instr.indexAt t (.slice (some a) len cap) (.int k n)).run P w = .ok (.pointer (some ⟨a.block, a.off + n.toNat * (ty P e).size, none⟩)) w := by
 obtain ⟨inf, u, hi, hu⟩ := ty_some hok
 obtain ⟨inf', u', hi', hu'⟩ := ty_some heok
 rw [ty_of hi hu] at he
 rw [ty_of hi' hu']
 simp only [tyOf] at he ⊢
 cases u <;> simp at he
 subst he
 have hadd : a.add (n.toNat * inf'.size) = ⟨a.block, a.off + n.toNat * inf'.size, none⟩ := by
  obtain ⟨b, o, s⟩ := a
  simp only at ha
  subst ha
  unfold Addr.add; split <;> simp_all
 simp [Instr.indexAt, asIntOf, run_underlying hu, h0, h1, sizeOf, typeInfo, hi', hadd]
theorem ixb {n : Int} {m : Nat} (h0 : 0 <= n) (h1 : n < m) : n.toNat < m := by omega
theorem ixF_ok {t : T} {l : List t.den} {u : Value} {te e : TypeId} (k : IntKind) (n : Int) (h : RelF Im w (.sl t) l [u]) (h0 : 0 <= n) (h1 : n < l.length) (hok : (ty P te).ok = true) (he : (ty P te).el = some e) (heok : (ty P e).ok = true) (hs : t.size = (ty P e).size) :
  ∃ r, (Instr.indexAt te u (.int k n)).run P w = .ok r w /\ RelF Im w (.pt t) (l.getD n.toNat t.dflt) [r] := by
 simp only [RelF, List.cons.injEq, and_true] at h
 obtain ⟨oa, cap, rfl, h3, h4, h5⟩ := h
 cases oa with
 | none => have := (h4 rfl).1; omega
 | some a =>
  obtain ⟨s1, s2, s3⟩ := h5 a rfl (by omega)
  have hi : n.toNat < l.length := by omega
  have hx : l[n.toNat]? = some (l.getD n.toNat t.dflt) := by rw [List.getD_eq_getElem?_getD, List.getElem?_eq_getElem hi]; rfl
  obtain ⟨us, u1, u2⟩ := s3 n.toNat _ hx
  refine ⟨_, run_indexAt k n a l.length cap hok he heok s1 h0 h1, ?_⟩
  simp only [RelF]
  exact ⟨_, _, us, rfl, s2, by rw [← hs]; exact u1, u2⟩
theorem evIxS_ok (hB : TabOk P B) (hp : Hp F p M w) {t : TypeId} (x i : V) (u v : Value) (h : RelS p.β M (Imm F p M w) w x u) (h' : RelS p.β M (Imm F p M w) w i v) (hv : allP (evIxS B (B.τ t) M x i).1) :
  ∃ r, (Instr.indexAt t u v).run P w = .ok r w /\ RelS p.β M (Imm F p M w) w (evIxS B (B.τ t) M x i).2 r := by
 unfold evIxS at hv ⊢
 split at hv
 ·rename_i e ki n he
  simp only [relS_d, relF_int] at h'
  obtain ⟨rfl, _⟩ := h'
  split at hv
  ·rename_i te l
   have hk := gd_bad hv
   simp only [he, hk, cond_true, allP_cons, allP_nil, and_true] at hv ⊢
   simp only [allT_cons, allT_nil, Bool.and_true, Bool.and_eq_true, beqN_eq, beq_iff_eq] at hk
   rw [← hB.τ t hk.1] at he
   obtain ⟨r, h1, h2⟩ := ixF_ok (P := P) (te := t) ki n (relS_d.1 h) hv.1 hv.2 (by rw [hB.τ t hk.1]; exact hk.1) he (by rw [hB.τ e hk.2.1]; exact hk.2.1) (by rw [hB.τ e hk.2.1]; exact hk.2.2)
   exact ⟨r, h1, relS_d.2 h2⟩
  ·rename_i k π
   simp only [RelS, RelC] at h
   split at hv
   ·rename_i o l hg
    have hk := gd_bad hv
    simp only [he, hg, hk, cond_true, allP_cons, allP_nil, and_true] at hv ⊢
    simp only [allT_cons, allT_nil, Bool.and_true, Bool.and_eq_true, beqN_eq, beq_iff_eq] at hk
    rw [← hB.τ t hk.1] at he
    obtain ⟨ob, g1, g2⟩ := getM_some hg
    obtain ⟨S, hr⟩ := h.look hp hg
    obtain ⟨ob', pl, k1, k2, k3, k4⟩ := h
    rw [g1] at k1; cases k1
    simp only [Rel, List.cons.injEq, and_true] at hr
    obtain ⟨v', ety, xs, T, rfl, r2, r3, _⟩ := hr
    rcases own_cells r2 with ⟨hn, _⟩ | ⟨g, off0, cap, cur, rfl, _⟩
    ·have := ixb hv.1 hv.2; omega
    ·refine ⟨_, run_indexAt ki n ⟨g, off0, none⟩ l.length (cap + 1) (by rw [hB.τ t hk.1]; exact hk.1) he (by rw [hB.τ e hk.2.1]; exact hk.2.1) rfl hv.1 hv.2, ?_⟩
     have hi : n.toNat < l.length := ixb hv.1 hv.2
     simp only [RelS, RelC]
     refine ⟨_, rfl, ob, cellsOf w g (off0 + n.toNat * o.size) o.size, g, off0 + n.toNat * (ty P e).size, g1, gok_ap π [.ix n.toNat] _ _ _ g2 k2 (by simp only [gok, and_true]; exact hi), ⟨⟨o, l.getD n.toNat o.dflt⟩, by rw [get_ap, g2]; simp only [get]⟩, heapy_ap _ _ (by simp [heapy]), ?_, rfl⟩
     rw [res_ap w π [.ix n.toNat] ob.o ob.x _ _ _ g2, k4]
     simp only [res]
     rw [show (ty P e).size = o.size by rw [hB.τ e hk.2.1]; exact hk.2.2.symm]
   ·rename_i te l hg
    have hk := gd_bad hv
    simp only [he, hg, hk, cond_true, allP_cons, allP_nil, and_true] at hv ⊢
    simp only [allT_cons, allT_nil, Bool.and_true, Bool.and_eq_true, beqN_eq, beq_iff_eq] at hk
    rw [← hB.τ t hk.1] at he
    obtain ⟨S, hr⟩ := h.look hp hg
    simp only [Rel] at hr
    obtain ⟨r, h1, h2⟩ := ixF_ok (P := P) (te := t) ki n hr hv.1 hv.2 (by rw [hB.τ t hk.1]; exact hk.1) he (by rw [hB.τ e hk.2.1]; exact hk.2.1) (by rw [hB.τ e hk.2.1]; exact hk.2.2)
    exact ⟨r, h1, relS_d.2 h2⟩
   ·exact hv.1.elim
  ·exact hv.1.elim
 ·exact hv.1.elim
theorem run_indexArr {t e : TypeId} {len : Nat} (k : IntKind) (n : Int) (b o : Nat) (hok : (ty P t).ok = true) (he : (ty P t).arr = some (e, len)) (heok : (ty P e).ok = true) (h0 : 0 <= n) (h1 : n < len) :
  (Instr.indexAt t (.pointer (some ⟨b, o, none⟩)) (.int k n)).run P w = .ok (.pointer (some ⟨b, o + n.toNat * (ty P e).size, none⟩)) w := by
 obtain ⟨inf, u, hi, hu⟩ := ty_some hok
 obtain ⟨inf', u', hi', hu'⟩ := ty_some heok
 rw [ty_of hi hu] at he
 rw [ty_of hi' hu']
 simp only [tyOf] at he ⊢
 cases u <;> simp at he
 obtain ⟨rfl, rfl⟩ := he
 have hadd : (⟨b, o, none⟩ : Addr).add (n.toNat * inf'.size) = ⟨b, o + n.toNat * inf'.size, none⟩ := by unfold Addr.add; split <;> simp_all
 simp [Instr.indexAt, asIntOf, run_underlying hu, Instr.sureAddr, sizeOf, typeInfo, hi', h0, h1, hadd]
theorem evIxA_ok (hB : TabOk P B) (hp : Hp F p M w) {t : TypeId} (x i : V) (u v : Value) (h : RelS p.β M (Imm F p M w) w x u) (h' : RelS p.β M (Imm F p M w) w i v) (hv : allP (evIxA B (B.τ t) M x i).1) :
  ∃ r, (Instr.indexAt t u v).run P w = .ok r w /\ RelS p.β M (Imm F p M w) w (evIxA B (B.τ t) M x i).2 r := by
 unfold evIxA at hv ⊢
 cases ha : (B.τ t).arr with
 | none =>
  simp only [ha] at hv ⊢
  exact evIxS_ok hB hp x i u v h h' hv
 | some q =>
  obtain ⟨e, n⟩ := q
  simp only [ha] at hv ⊢
  unfold evIxQ at hv ⊢
  split at hv
  ·rename_i k m
   simp only [relS_d, relF_int] at h'
   obtain ⟨rfl, _⟩ := h'
   cases hk : allT [(B.τ t).ok, (B.τ e).ok] with
   | false => rw [hk] at hv; exact hv.1.elim
   | true =>
    simp only [hk, cond_true] at hv ⊢
    simp only [allT_cons, allT_nil, Bool.and_true, Bool.and_eq_true] at hk
    simp only [allP_cons] at hv
    obtain ⟨b, o, rfl, hr⟩ := subA_ok hp x _ _ u h hv.2.2
    have e1 := hB.τ t hk.1
    have e2 := hB.τ e hk.2
    refine ⟨_, run_indexArr k m b o (by rw [e1]; exact hk.1) (by rw [e1]; exact ha) (by rw [e2]; exact hk.2) hv.1 hv.2.1, ?_⟩
    rw [e2]
    exact hr
  ·exact hv.1.elim
theorem evIx_ok (hB : TabOk P B) (t : TypeId) (x i : V) (u v : Value) (h : RelS β M Im w x u) (h' : RelS β M Im w i v) (hv : allP (evIx (B.τ t) x i).1) : ∃ r, (Instr.index t u v).run P w = .ok r w /\ RelS β M Im w (evIx (B.τ t) x i).2 r := by
 unfold evIx at hv ⊢
 split at hv
 ·rename_i s k n
  simp only [relS_d, relF_str] at h
  simp only [relS_d, relF_int] at h'
  obtain ⟨rfl, _⟩ := h
  obtain ⟨rfl, _⟩ := h'
  have hk := gd_bad hv
  simp only [hk, cond_true, allP_cons, allP_nil, and_true] at hv ⊢
  simp only [allT_cons, allT_nil, Bool.and_true, Bool.and_eq_true] at hk
  obtain ⟨h3, h4⟩ := hv
  rw [← hB.τ t hk.1] at hk
  obtain ⟨inf, c, hi, hc⟩ := ty_some hk.1
  rw [ty_of hi hc] at hk
  have h2 := hk.2
  simp only [tyOf] at h2
  cases c <;> simp at h2
  have hlt : n.toNat < s.size := ixb h3 h4
  have hb : (s.data.toList.getD n.toNat 0) = s[n.toNat] := by
   rw [List.getD_eq_getElem?_getD, List.getElem?_eq_getElem (by simpa using hlt)]; rfl
  refine ⟨.int .u8 (s[n.toNat]).toNat, ?_, ?_⟩
  ·simp [Instr.index, asIntOf, run_underlying hc, h3, hlt, getElem?_pos]
  ·simp only [relS_d, relF_int]
   rw [hb]
   refine ⟨rfl, ?_⟩
   have := (s[n.toNat]).toNat_lt
   exact (inK_u8 (s[n.toNat]).toNat).2 ⟨by omega, by omega⟩
 ·exact hv.1.elim
theorem run_len_slice {t ty' : TypeId} (a : Option Addr) (n cap : Nat) (h1 : (ty P t).ok = true) (h2 : (ty P t).el ≠ none) : (Builtin.len_ #[t] ty' #[.slice a n cap]).run P w = .ok (.int .i64 n) w := by
 obtain ⟨inf, c, hi, hc⟩ := ty_some h1
 rw [ty_of hi hc] at h2
 simp only [tyOf] at h2
 cases c <;> simp at h2
 simp [Builtin.len_, run_underlying hc, goInt]
theorem isN_ne {α : Type} {o : Option α} (h : neg (isN o) = true) : o ≠ none := by
 cases o with
 | none => simp [isN] at h
 | some _ => simp
theorem sl_val {o : O} {l : List o.strip.den} {S : Nat -> Prop} {vs : List Value} (r : Rel Im w (.sl o) l S vs) : ∃ a cap, vs = [.slice a l.length cap] /\ l.length <= nb := by
 simp only [Rel] at r
 obtain ⟨v, ety, xs, T, rfl, h1, h2, _⟩ := r
 rcases own_cells h1 with ⟨hn, oa, rfl⟩ | ⟨g, off0, cap, cur, rfl, _⟩
 ·exact ⟨oa, 0, by rw [hn], h2⟩
 ·exact ⟨_, cap + 1, rfl, h2⟩
theorem map_len {t ty' : TypeId} {r : Nat} {es : Array MapEntry} {n : Nat} (hok : (ty P t).ok = true) (hm : neg (isN (ty P t).mp) = true) (hb : w.heap[r]? = some (.map es n)) :
  (Builtin.len_ #[t] ty' #[.map (some r)]).run P w = .ok (.int .i64 es.size) w := by
 obtain ⟨inf, c, hi, hc⟩ := ty_some hok
 rw [ty_of hi hc] at hm
 simp only [tyOf] at hm
 cases c <;> simp only [isN, neg_eq, Bool.not_true, Bool.false_eq_true] at hm
 simp [Builtin.len_, run_underlying hc, goInt, MapKept.run_getObj_map hb]
theorem mapE_len {k v : T} {es : Array MapEntry} {l : List (k.den × v.den)} (h : MapE k v es l) : es.size = l.length := by
 have := congrArg List.length h
 simpa using this
theorem evLen_ok (hB : TabOk P B) {t ty' : TypeId} (hp : Hp F p M w) (x : V) (u : Value) (h : RelS p.β M (Imm F p M w) w x u) (hv : allP (evLen (B.τ t) M x).1) :
  ∃ r, (Builtin.len_ #[t] ty' #[u]).run P w = .ok r w /\ RelS p.β M (Imm F p M w) w (evLen (B.τ t) M x).2 r := by
 unfold evLen at hv ⊢
 split at hv
 ·rename_i s
  have hk := gd_bad hv
  simp only [hk, cond_true] at hv ⊢
  simp only [allT_cons, allT_nil, Bool.and_true, Bool.and_eq_true] at hk
  rw [← hB.τ t hk.1] at hk
  obtain ⟨inf, c, hi, hc⟩ := ty_some hk.1
  rw [ty_of hi hc] at hk
  have h2 := hk.2
  simp only [tyOf] at h2
  cases c <;> simp at h2
  simp only [relS_d, relF_str] at h
  obtain ⟨rfl, hs⟩ := h
  exact ⟨.int .i64 s.size, by simp [Builtin.len_, run_underlying hc, goInt], by simp only [good, relS_d, relF_int, true_and]; exact nb_i64 hs⟩
 ·rename_i t' l
  have hk := gd_bad hv
  simp only [hk, cond_true] at hv ⊢
  simp only [allT_cons, allT_nil, Bool.and_true, Bool.and_eq_true] at hk
  rw [← hB.τ t hk.1] at hk
  simp only [relS_d, RelF, List.cons.injEq, and_true] at h
  obtain ⟨oa, cap, rfl, ⟨hn, _⟩, _⟩ := h
  exact ⟨.int .i64 l.length, run_len_slice _ _ _ hk.1 (isN_ne hk.2), by simp only [good, relS_d, relF_int, true_and]; exact nb_i64 hn⟩
 ·rename_i k' v' l
  have hk := gd_bad hv
  simp only [hk, cond_true] at hv ⊢
  simp only [allT_cons, allT_nil, Bool.and_true, Bool.and_eq_true] at hk
  rw [← hB.τ t hk.1] at hk
  simp only [relS_d, RelF, List.cons.injEq, and_true] at h
  obtain ⟨oa, es, n, rfl, _, hb, ⟨hn, _⟩, he⟩ := h
  have := map_len (ty' := ty') hk.1 hk.2 hb
  rw [mapE_len he] at this
  exact ⟨.int .i64 l.length, this, by simp only [good, relS_d, relF_int, true_and]; exact nb_i64 hn⟩
 ·have hk := gd_bad hv
  simp only [hk, cond_true] at hv ⊢
  simp only [allT_cons, allT_nil, Bool.and_true, Bool.and_eq_true] at hk
  rw [← hB.τ t hk.1] at hk
  simp only [RelS, RelC, List.cons.injEq, and_true] at h
  obtain ⟨oa, rfl⟩ := h
  exact ⟨.int .i64 0, run_len_slice _ _ _ hk.1 (isN_ne hk.2), by simp only [good, relS_d, relF_int, true_and]; exact nb_i64 (Nat.zero_le _)⟩
 ·rename_i k π
  simp only [RelS, RelC] at h
  split at hv
  ·rename_i o l hg
   have hk := gd_bad hv
   simp only [hg, hk, cond_true] at hv ⊢
   simp only [allT_cons, allT_nil, Bool.and_true, Bool.and_eq_true] at hk
   rw [← hB.τ t hk.1] at hk
   obtain ⟨S, hr⟩ := h.look hp hg
   obtain ⟨a, cap, h1, h2⟩ := sl_val hr
   simp only [List.cons.injEq, and_true] at h1
   subst h1
   exact ⟨.int .i64 l.length, run_len_slice _ _ _ hk.1 (isN_ne hk.2), by simp only [good, relS_d, relF_int, true_and]; exact nb_i64 h2⟩
  ·rename_i o l hg
   have hk := gd_bad hv
   simp only [hg, hk, cond_true] at hv ⊢
   simp only [allT_cons, allT_nil, Bool.and_true, Bool.and_eq_true] at hk
   rw [← hB.τ t hk.1] at hk
   obtain ⟨S, hr⟩ := h.look hp hg
   simp only [Rel, RelF, List.cons.injEq, and_true] at hr
   obtain ⟨oa, cap, rfl, ⟨hn, _⟩, _⟩ := hr
   exact ⟨.int .i64 l.length, run_len_slice _ _ _ hk.1 (isN_ne hk.2), by simp only [good, relS_d, relF_int, true_and]; exact nb_i64 hn⟩
  ·rename_i k' v' l hg
   have hk := gd_bad hv
   simp only [hg, hk, cond_true] at hv ⊢
   simp only [allT_cons, allT_nil, Bool.and_true, Bool.and_eq_true] at hk
   rw [← hB.τ t hk.1] at hk
   obtain ⟨S, hr⟩ := h.look hp hg
   simp only [Rel, List.cons.injEq, and_true] at hr
   obtain ⟨oa, es, n, rfl, _, hb, ⟨hn, _⟩, he⟩ := hr
   have := map_len (ty' := ty') hk.1 hk.2 hb
   rw [mapE_len he] at this
   exact ⟨.int .i64 l.length, this, by simp only [good, relS_d, relF_int, true_and]; exact nb_i64 hn⟩
  ·exact hv.1.elim
 ·exact hv.1.elim
theorem loadVar_val {t : TypeId} {b o : Nat} {vs : List Value} (hok : (ty P t).ok = true) (hs : vs.length = (ty P t).size) (h1 : (ty P t).agg = true ∨ (ty P t).size = 1) (hc : CellsAt w b o vs) :
  (loadVar t ⟨b, o, none⟩).run P w = .ok (val (ty P t).agg vs) w := by
 obtain ⟨i, u, hi, hu⟩ := ty_some hok
 rw [ty_of hi hu] at hs h1 ⊢
 simp only [tyOf] at hs h1 ⊢
 have hr : (loadCells ⟨b, o, none⟩ vs.length).run P w = .ok vs.toArray w := run_loadCells_list w ⟨b, o, none⟩ vs (fun j v hj => by rw [Addr.add_lit]; exact hc j v hj)
 rw [hs] at hr
 have key : vs.length = 1 -> ∃ v, vs = [v] /\ w.cell? ⟨b, o, none⟩ = some v := fun h => by
  obtain ⟨v, rfl⟩ := List.length_eq_one_iff.1 h
  exact ⟨v, rfl, by simpa using hc 0 v rfl⟩
 cases u
 case struct fs => simp [loadVar, isAgg, run_underlying hu, sizeOf, typeInfo, hi, hr, val]
 case array n e => simp [loadVar, isAgg, run_underlying hu, sizeOf, typeInfo, hi, hr, val]
 all_goals
  simp at h1
  obtain ⟨v, rfl, hv⟩ := key (by rw [hs, h1])
  simp [loadVar, isAgg, run_underlying hu, hv, val]
theorem evLoad_ok (hB : TabOk P B) {t : TypeId} (hp : Hp F p M w) (x : V) (u : Value) (h : RelS p.β M (Imm F p M w) w x u) (hv : allP (evLoad (B.τ t) M x).1) :
  ∃ r, (Instr.loadAt t u).run P w = .ok r w /\ RelS p.β M (Imm F p M w) w (evLoad (B.τ t) M x).2 r := by
 unfold evLoad at hv ⊢
 split at hv
 ·rename_i te y
  have hk := gd_bad hv
  simp only [hk, cond_true] at hv ⊢
  simp only [allT_cons, allT_nil, Bool.and_true, Bool.and_eq_true, beqN_eq, beq_iff_eq, orb_eq, Bool.or_eq_true] at hk
  have e := hB.τ t hk.1
  rw [← e] at hk ⊢
  simp only [relS_d, RelF, List.cons.injEq, and_true] at h
  obtain ⟨b, o, us, rfl, h1, h2, h3⟩ := h
  have hl := RelF.len te y us h3
  refine ⟨val (ty P t).agg us, ?_, aggV_ok (expl_rel te y us h3) (fun ha => ?_)⟩
  ·have := loadVar_val (P := P) hk.1 (by rw [hl, hk.2.1]) (by rw [← hk.2.1]; exact hk.2.2) h2
   simpa [Instr.loadAt, Instr.sureAddr] using this
  ·rw [hl]; rcases hk.2.2 with h | h
   ·rw [ha] at h; cases h
   ·exact h
 ·rename_i k π
  split at hv
  ·rename_i q hq
   have hk := gd_bad hv
   simp only [hq, hk, cond_true] at hv ⊢
   simp only [allT_cons, allT_nil, Bool.and_true, Bool.and_eq_true, beqN_eq, beq_iff_eq, orb_eq, Bool.or_eq_true] at hk
   have e := hB.τ t hk.1
   rw [← e] at hk ⊢
   simp only [RelS, RelC, List.cons.injEq, and_true, exists_eq_left'] at h
   obtain ⟨S, us, b, off, cur, ty', rfl, h2, h3, h4, h5⟩ := h.look hp hq
   have hl := Rel.len _ _ _ _ h2
   refine ⟨val (ty P t).agg us, ?_, aggV_ok (toV_ok hp h5 hq) (fun ha => ?_)⟩
   ·have := loadVar_val (P := P) (b := b) (o := off) hk.1 (by rw [hl]; exact hk.2.1) (by rw [← hk.2.1]; exact hk.2.2) (fun j u hu => by rw [cell_of_row w b _ cur ty' (0, 0) h3]; exact h4 j u hu)
    simpa [Instr.loadAt, Instr.sureAddr] using this
   ·rw [hl]; rcases hk.2.2 with h | h
    ·rw [ha] at h; cases h
    ·exact h
  ·exact hv.1.elim
 ·rename_i v
  have hk := gd_bad hv
  simp only [hk, cond_true] at hv ⊢
  simp only [allT_cons, allT_nil, Bool.and_true, Bool.and_eq_true, beqN_eq, beq_iff_eq, orb_eq, Bool.or_eq_true] at hk
  have e := hB.τ t hk.1
  rw [← e] at hk ⊢
  simp only [RelS, RelC, List.cons.injEq, and_true] at h
  obtain ⟨b, o, us, rfl, h1, h2, h3⟩ := h
  have hl := size_ok hp v us _ h3 (sizeIs_some hk.2.1)
  refine ⟨val (ty P t).agg us, ?_, aggV_ok h3 (fun ha => ?_)⟩
  ·have := loadVar_val (P := P) hk.1 hl hk.2.2 h2
   simpa [Instr.loadAt, Instr.sureAddr] using this
  ·rw [hl]; rcases hk.2.2 with h | h
   ·rw [ha] at h; cases h
   ·exact h
 ·exact hv.1.elim
end
end Go.Bm
/- The typed machine: operations that make memory. -/
namespace Go.Bm
open Go.RowKit
structure Qt (p : Ow) (M : Mem) (p' : Ow) (M' : Mem) (w w' : World) : Prop where
 ext : Ext w w'
 old : ∀ j ob, go M j = some ob -> go M' j = some ob /\ p'.β j = p.β j /\ p'.σ j = p.σ j
section
variable {F : Fr} {p p' p'' : Ow} {env : Env} {M M' M'' : Mem} {a : Act} {w w' w'' : World} {P : Program} {B : Tab}
def Done (F : Fr) (p : Ow) (M : Mem) (w : World) (qt : Bool) (r : Rs) (v : Value) (w' : World) : Prop :=
 ∃ p', Tr F p M w r.ev p' r.M w' /\ (∀ b, ¬ p'.L b) /\ RelS p'.β r.M (Imm F p' r.M w') w' r.av v /\ (fresh M r.ev = true -> qt = true -> Qt p M p' r.M w w')
theorem Done.pure (h : Hp F p M w) (hL : ∀ b, ¬ p.L b) {q : List Prop × V} {v : Value} (hv : RelS p.β M (Imm F p M w) w q.2 v) (qt : Bool) : Done F p M w qt (pureR q M) v w :=
 ⟨p, Tr.refl h, hL, hv, fun _ _ => ⟨Ext.refl w, fun j ob hj => ⟨hj, rfl, rfl⟩⟩⟩
theorem deep_mkP (a b : T) : mkP ⟨a.deep, a.deep.dflt⟩ ⟨b.deep, b.deep.dflt⟩ = ⟨(T.p a b).deep, (T.p a b).deep.dflt⟩ := by
 simp only [T.deep]
 generalize a.deep = x
 generalize b.deep = y
 cases x <;> cases y <;> rfl
theorem inK_zero (k : IntKind) : inK k 0 := by cases k <;> simp [inK, IntKind.min, IntKind.max, IntKind.signed, IntKind.bits]
theorem zero_ok {Im : Nat -> Prop} {w : World} : (t : T) -> (zs : List Value) -> zeroOk t zs = true -> Rel Im w t.deep t.deep.dflt (fun _ => False) zs /\ ∀ β M, RelC β M Im w (zeroV t) zs
 | .p a b, zs, h => by
  simp only [zeroOk, nob_eq, Bool.and_eq_true, takeL_eq, dropL_eq] at h
  obtain ⟨a1, a2⟩ := zero_ok (Im := Im) (w := w) a _ h.1
  obtain ⟨b1, b2⟩ := zero_ok (Im := Im) (w := w) b _ h.2
  refine ⟨?_, fun β M => ?_⟩
  ·have := mkP_rel (a := ⟨a.deep, a.deep.dflt⟩) (b := ⟨b.deep, b.deep.dflt⟩) (S := fun _ => False) (fun c hc => hc) (fun c hc => hc) (fun c hc => hc.elim) a1 b1
   rw [deep_mkP, List.take_append_drop] at this
   exact this
  ·simp only [zeroV, RelC]
   exact ⟨_, _, (List.take_append_drop a.size zs).symm, a2 β M, b2 β M⟩
 | .u, zs, h => by
  cases zs with
  | nil => exact ⟨by simp only [T.deep, Rel, RelF], fun β M => by simp only [zeroV, RelC]⟩
  | cons _ _ => simp [zeroOk] at h
 | .int k, zs, h => by
  have : zs = [.int k 0] := by
   rcases zs with _ | ⟨v, _ | ⟨_, _⟩⟩
   ·simp [zeroOk] at h
   ·cases v <;> try (simp [zeroOk] at h)
    rename_i k' n
    rcases n with (_ | n) | n
    ·simp only [zeroOk] at h; rw [kbeq_eq h]; rfl
    ·exact nomatch (show (false : Bool) = true from h)
    ·exact nomatch (show (false : Bool) = true from h)
   ·simp [zeroOk] at h
  subst this
  exact ⟨by simp only [T.deep, Rel, RelF, O.dflt, T.dflt]; exact ⟨trivial, inK_zero _⟩, fun β M => by simp only [zeroV, RelC, RelF, T.dflt]; exact ⟨trivial, inK_zero _⟩⟩
 | .bool, zs, h => by
  have : zs = [.bool false] := by
   rcases zs with _ | ⟨v, _ | ⟨_, _⟩⟩
   ·simp [zeroOk] at h
   ·cases v <;> try (simp [zeroOk] at h)
    rw [h]
   ·simp [zeroOk] at h
  subst this
  exact ⟨by simp only [T.deep, Rel, RelF, O.dflt, T.dflt], fun β M => by simp only [zeroV, RelC, RelF, T.dflt]⟩
 | .str, zs, h => by
  have : ∃ s : ByteArray, zs = [.string s] /\ s = ByteArray.empty := by
   rcases zs with _ | ⟨v, _ | ⟨_, _⟩⟩
   ·simp [zeroOk] at h
   ·cases v <;> try (simp [zeroOk] at h)
    exact ⟨_, rfl, by simpa using h⟩
   ·simp [zeroOk] at h
  obtain ⟨s, rfl, rfl⟩ := this
  exact ⟨by simp only [T.deep, Rel, RelF, O.dflt, T.dflt]; exact ⟨trivial, Nat.zero_le _⟩, fun β M => by simp only [zeroV, RelC, RelF, T.dflt]; exact ⟨trivial, Nat.zero_le _⟩⟩
 | .sl e, zs, h => by
  have : zs = [.slice none 0 0] := by
   rcases zs with _ | ⟨v, _ | ⟨_, _⟩⟩
   ·simp [zeroOk] at h
   ·cases v <;> try (simp [zeroOk] at h)
    rename_i a n c
    cases a with
    | some _ => simp [zeroOk] at h
    | none =>
     rcases n with _ | n <;> rcases c with _ | c <;> first | rfl | (simp [zeroOk] at h)
   ·simp [zeroOk] at h
  subst this
  exact ⟨by simp only [T.deep, O.dflt]; exact nil_rel e.deep none, fun β M => by simp only [zeroV, RelC]; exact ⟨none, rfl⟩⟩
 | .ns e, zs, h => by
  have : zs = [.slice none 0 0] := by
   rcases zs with _ | ⟨v, _ | ⟨_, _⟩⟩
   ·simp [zeroOk] at h
   ·cases v <;> try (simp [zeroOk] at h)
    rename_i a n c
    cases a with
    | some _ => simp [zeroOk] at h
    | none =>
     rcases n with _ | n <;> rcases c with _ | c <;> first | rfl | (simp [zeroOk] at h)
   ·simp [zeroOk] at h
  subst this
  exact ⟨by simp only [T.deep, Rel, RelF]; exact .inl ⟨rfl, trivial⟩, fun β M => by simp only [zeroV, RelC, RelF]; exact .inl ⟨rfl, trivial⟩⟩
 | .pt e, zs, h => by
  rcases zs with _ | ⟨v, _ | ⟨_, _⟩⟩ <;> simp [zeroOk] at h
 | .fn f e, zs, h => by
  rcases zs with _ | ⟨v, _ | ⟨_, _⟩⟩ <;> simp [zeroOk] at h
 | .any, zs, h => by
  have : ∃ v : Value, zs = [v] /\ v.oneCell' = true := by
   rcases zs with _ | ⟨v, _ | ⟨_, _⟩⟩
   ·simp [zeroOk] at h
   ·exact ⟨v, rfl, by simpa [zeroOk] using h⟩
   ·simp [zeroOk] at h
  obtain ⟨v, rfl, hv⟩ := this
  exact ⟨by simp only [T.deep, Rel, RelF]; exact ⟨v, rfl, hv⟩, fun β M => by simp only [zeroV, RelC, RelF]; exact ⟨v, rfl, hv⟩⟩
theorem upd_same (p : Ow) (k : Nat) (v : Value) (r : Nat -> Prop) : (p.upd k v r).β k = v := by simp [Ow.upd, Ow.updL]
theorem go_new_self (k : Nat) (ob : Ob) (M : Mem) : go ((k, ob) :: M) k = some ob := by rw [go_cons, if_pos rfl]
theorem qt_new {k : Nat} {v : Value} {r : Nat -> Prop} {ob : Ob} (hf : go M k = none) (he : Ext w w') : Qt p M (p.upd k v r) ((k, ob) :: del k M) w w' :=
 ⟨he, fun j o hj => by
  have hne : j ≠ k := by rintro rfl; rw [hf] at hj; cases hj
  exact ⟨by rw [go_cons, if_neg (Ne.symm hne), go_del_ne hne, hj], by simp [Ow.upd, Ow.updL, hne], by simp [Ow.upd, Ow.updL, hne]⟩⟩
theorem fresh_kl {k : Nat} {e : List Ev} (h : fresh M (.kl k :: e) = true) : go M k = none /\ fresh M e = true := by
 simp only [fresh, nob_eq, Bool.and_eq_true] at h
 refine ⟨?_, h.2⟩
 cases hg : go M k with
 | none => rfl
 | some _ => rw [hg] at h; simp [isN] at h
theorem fresh_one {x : Ev} {r : List Ev} (h : fresh M [x] = false) : fresh M (x :: r) = false := by
 cases x with
 | kl j =>
  simp only [fresh, nob_eq, Bool.and_true] at h ⊢
  rw [h]; rfl
 | mv _ _ => rfl
 | cut _ _ _ => rfl
 | fz _ _ => rfl
 | un _ _ => rfl
theorem fresh_del {k : Nat} {x : Ev} (h : fresh (del k M) [x] = false) : fresh M [x] = false := by
 cases x with
 | kl j =>
  simp only [fresh, nob_eq, Bool.and_true] at h ⊢
  by_cases e : j = k
  ·subst e; rw [go_del_self] at h; simp [isN] at h
  ·rw [go_del_ne e] at h; exact h
 | mv _ _ => rfl
 | cut _ _ _ => rfl
 | fz _ _ => rfl
 | un _ _ => rfl
theorem new_box (h : Hp F p M w) (hL : ∀ b, ¬ p.L b) (k : Nat) (e : TypeId) {e0 : List Ev} {p1 : Ow} {M1 : Mem} {S : Nat -> Prop} {q : Ob} {vs : List Value} {cs : Array Value} (hcs : cs.toList = vs) (hc : Cv F p (del k M) w k q e0 vs p1 M1 S) (hk1 : go M1 k = none)
  (qt : Bool) : Done F p M w qt ⟨[], .ad k [.de], .kl k :: e0, (k, ⟨.pt q.o, q.x⟩) :: M1⟩ (.pointer (some ⟨w.heap.size, 0, none⟩)) (w.alloc (.cells cs e)) := by
 have hext : Ext w (w.alloc (.cells cs e)) := Ext.of_grown (World.grownBy_alloc w _ none) (Nat.le_refl _)
 have hnew : (w.alloc (.cells cs e)).heap[w.heap.size]? = some (.cells cs e (0, 0)) := heap_alloc_new w _
 have hcs' : cs = vs.toArray := by rw [← hcs]
 have hSsz : ∀ b, S b -> b < w.heap.size := fun b hb => (hc.tr.hp.lim b ((hc.L b).2 (.inr hb))).1
 have ht1 : Tr F p1 M1 w [] (p1.upd k (.pointer (some ⟨w.heap.size, 0, none⟩)) (fun b => b = w.heap.size ∨ S b)) ((k, ⟨.pt q.o, q.x⟩) :: M1) (w.alloc (.cells cs e)) := by
  refine Tr.new hc.tr.hp k hk1 _ _ _ (hext.toL _) (fun b hb => ?_) (fun hkp => ?_)
  ·rcases hb with rfl | hb
   ·exact .inl ⟨Nat.le_refl _, (Array.getElem?_eq_some_iff.1 hnew).1⟩
   ·exact .inr ((hc.L b).2 (.inr hb))
  ·simp only [Rel]
   refine ⟨w.heap.size, vs, e, S, rfl, .inl rfl, by rw [← hcs']; exact hnew, fun c hcS => ⟨.inr hcS, fun e' => by have := hSsz c hcS; omega⟩, ?_⟩
   exact Rel.keep hkp _ _ _ _ (fun b hb => hext.old b (hSsz b hb)) hc.rel
 have htr : Tr F p M w (.kl k :: e0) (p1.upd k (.pointer (some ⟨w.heap.size, 0, none⟩)) (fun b => b = w.heap.size ∨ S b)) ((k, ⟨.pt q.o, q.x⟩) :: M1) (w.alloc (.cells cs e)) := by
  have h1 := (Tr.kl h k).trans (hc.tr.trans ht1)
  have e1 : ap [Ev.kl k] (ap e0 []) = .kl k :: e0 := by rw [ap_eq, ap_eq]; simp
  rw [e1] at h1
  exact h1
 refine ⟨_, htr, fun b hb => hb, ?_, fun hf _ => ?_⟩
 ·simp only [RelS, RelC]
  refine ⟨_, rfl, ⟨.pt q.o, q.x⟩, cellsOf (w.alloc (.cells cs e)) w.heap.size 0 q.o.size, w.heap.size, 0, go_new_self _ _ _, by simp only [gok], ⟨⟨q.o, q.x⟩, by simp only [get]⟩, rfl, ?_, rfl⟩
  rw [upd_same]
  simp only [res]
 ·obtain ⟨hf1, hf2⟩ := fresh_kl hf
  rcases hc.fr with ⟨rfl, rfl, rfl⟩ | ⟨x, r, rfl, hx⟩
  ·exact qt_new hf1 hext
  ·rw [fresh_one (fresh_del hx)] at hf2; cases hf2
theorem new_row (h : Hp F p M w) (k : Nat) {e0 : List Ev} {p1 : Ow} {M1 : Mem} {o : O} {l : List o.strip.den} {v : Value} {xs : List Value} {ety : TypeId} {T : Nat -> Nat -> Prop} (ht : Tr F p (del k M) w e0 p1 M1 w) (hk1 : go M1 k = none) (hg : w.grownBy w' none /\ w.drawn <= w'.drawn)
  (hown : w'.ownsRow 0 ety o.size v l.length xs) (hroot : ∀ b, root v = some b -> w.heap.size <= b /\ b < w'.heap.size) (hl : l.length <= nb) (hT : ∀ i c, T i c -> p1.L c) (hTd : ∀ i j c, i ≠ j -> T i c -> ¬ T j c)
  (hrows : ∀ (i : Nat) (x : o.strip.den), l[i]? = some x -> Rel (Imm F p1 M1 w) w o x (T i) ((xs.drop (i * o.size)).take o.size))
  (hfr : (e0 = [] /\ M1 = del k M /\ p1 = p) ∨ ∃ x r, e0 = x :: r /\ fresh (del k M) [x] = false)
  (qt : Bool) : Done F p M w qt ⟨[], .ref k [], .kl k :: e0, (k, ⟨.sl o, l⟩) :: M1⟩ v w' := by
 obtain ⟨hg, hgd⟩ := hg
 have hext : Ext w w' := Ext.of_grown hg hgd
 have hTs : ∀ i b, T i b -> b < w.heap.size := fun i b hb => (ht.hp.lim b (hT i b hb)).1
 have ht1 : Tr F p1 M1 w [] (p1.upd k v (fun b => root v = some b ∨ ∃ i, T i b)) ((k, ⟨.sl o, l⟩) :: M1) w' := by
  refine Tr.new ht.hp k hk1 _ _ _ (hext.toL _) (fun b hb => ?_) (fun hkp => ?_)
  ·rcases hb with hb | ⟨i, hb⟩
   ·exact .inl (hroot b hb)
   ·exact .inr (hT i b hb)
  ·simp only [Rel]
   refine ⟨v, ety, xs, T, rfl, own_of hown, hl, fun c hc => .inl hc, fun i c hc => ⟨.inr ⟨i, hc⟩, fun e => by have := hTs i c hc; have := (hroot c e).1; omega⟩, hTd, fun i x hx => ?_⟩
   exact Rel.keep hkp _ _ _ _ (fun b hb => hext.old b (hTs i b hb)) (hrows i x hx)
 have htr : Tr F p M w (.kl k :: e0) (p1.upd k v (fun b => root v = some b ∨ ∃ i, T i b)) ((k, ⟨.sl o, l⟩) :: M1) w' := by
  have h1 := (Tr.kl h k).trans (ht.trans ht1)
  have e1 : ap [Ev.kl k] (ap e0 []) = .kl k :: e0 := by rw [ap_eq, ap_eq]; simp
  rw [e1] at h1
  exact h1
 refine ⟨_, htr, fun b hb => hb, ?_, fun hf _ => ?_⟩
 ·simp only [RelS, RelC]
  refine ⟨⟨.sl o, l⟩, none, go_new_self _ _ _, by simp only [gok], ⟨⟨.sl o, l⟩, by simp only [get]⟩, ?_⟩
  rw [upd_same]
  simp only [res]
 ·obtain ⟨hf1, hf2⟩ := fresh_kl hf
  rcases hfr with ⟨rfl, rfl, rfl⟩ | ⟨x, r, rfl, hx⟩
  ·exact qt_new hf1 hext
  ·rw [fresh_one (fresh_del hx)] at hf2; cases hf2
theorem hp_del (h : Hp F p M w) (k : Nat) : Hp F p (del k M) w := (h.del k).1
theorem deep_size (t : T) : t.deep.size = t.size := by unfold O.size; rw [T.deep_strip]
theorem zero_of (hB : TabOk P B) {t : TypeId} (h : B.z t = true) : ∃ i z, P.info? t = some i /\ i.zero = some z /\ zeroOk (B.σ t) z.cells.toList = true := by
 obtain ⟨zs, h1, h2⟩ := hB.z t h
 obtain ⟨i, z, h3, h4, rfl⟩ := tyZ_some h1
 exact ⟨i, z, h3, h4, h2⟩
theorem newB_ok (hB : TabOk P B) (h : Hp F p M w) (hL : ∀ b, ¬ p.L b) {t : TypeId} (o : Option Nat) (hv : allP (newB B t o M).vc) (qt : Bool) {op : Oper} (hop : op.op = .alloc t) :
  ∃ v w', (execOp a.eval op).run P w = .ok (.value v) w' /\ Done F p M w qt (newB B t o M) v w' := by
 unfold newB at hv ⊢
 cases o with
 | none => exact hv.1.elim
 | some k =>
  simp only at hv ⊢
  cases hk : allT [(B.τ t).ok, B.z t] with
  | false => rw [hk] at hv; exact hv.1.elim
  | true =>
   simp only [cond_true]
   simp only [allT_cons, allT_nil, Bool.and_true, Bool.and_eq_true] at hk
   obtain ⟨i, z, hi, hz, h0⟩ := zero_of hB hk.2
   refine ⟨.pointer (some ⟨w.heap.size, 0, none⟩), w.alloc (.cells z.cells t), by simp [execOp, hop, Instr.alloc, zeroValue, typeInfo, hi, hz, newVar, newRow], ?_⟩
   have := new_box h hL k t (q := ⟨(B.σ t).deep, (B.σ t).deep.dflt⟩) (cs := z.cells) rfl
    ⟨rfl, fun b => (or_false _).symm ▸ Iff.rfl, fun b hb => hb.elim, Tr.refl (hp_del h k), (zero_ok (B.σ t) _ h0).1, .inl ⟨rfl, rfl, rfl⟩⟩ (go_del_self k M) qt
   exact this
theorem evBox_ok (h : Hp F p M w) (hL : ∀ b, ¬ p.L b) {t : TypeId} (o : Option Nat) (x : V) (y : Operand) (hx : RelS p.β M (Imm F p M w) w x (a.eval y)) (hv : allP (evBox B t o x M).vc) (qt : Bool) {op : Oper} (hop : op.op = .box t y) :
  ∃ v w', (execOp a.eval op).run P w = .ok (.value v) w' /\ Done F p M w qt (evBox B t o x M) v w' := by
 unfold evBox at hv ⊢
 cases o with
 | none => exact hv.1.elim
 | some k =>
  simp only at hv ⊢
  split at hv
  ·rename_i q e M' hc
   refine ⟨.pointer (some ⟨w.heap.size, 0, none⟩), w.alloc (.cells (a.eval y).cells t), by simp [execOp, hop, Instr.box, newVar, newRow], ?_⟩
   have hcv : cellV x = true := by
    cases x <;> first | rfl | (exfalso; revert hc; simp only [V.cells, V.ev]; cases B.σ t <;> simp [conv])
   have h1 := (Tr.kl h k).c _ _ (cells_ok h hx hcv)
   obtain ⟨g, p', S, cv⟩ := conv_ok k (B.σ t) _ (del k M) p _ q e M' (hp_del h k) h1 hc
   exact new_box h hL k t rfl cv (by rw [g]; exact go_del_self k M) qt
  ·cases hs : x.cells.size M with
   | none => rw [hs] at hv; exact hv.1.elim
   | some n =>
   simp only [isN, neg_eq, Bool.not_false, cond_true] at hv ⊢
   have hcv : cellV x = true := size_cellV hs
   have hx1 := cells_ok h hx hcv
   have hext : Ext w (w.alloc (.cells (a.eval y).cells t)) := Ext.of_grown (World.grownBy_alloc w _ none) (Nat.le_refl _)
   have hnew : (w.alloc (.cells (a.eval y).cells t)).heap[w.heap.size]? = some (.cells (a.eval y).cells t (0, 0)) := heap_alloc_new w _
   have ht := Tr.ext h hext
   refine ⟨.pointer (some ⟨w.heap.size, 0, none⟩), w.alloc (.cells (a.eval y).cells t), by simp [execOp, hop, Instr.box, newVar, newRow], p, ht, hL, ?_, fun _ _ => ⟨hext, fun j ob hj => ⟨hj, rfl, rfl⟩⟩⟩
   simp only [RelS, RelC, List.cons.injEq, and_true]
   refine ⟨w.heap.size, 0, (a.eval y).cells.toList, rfl, ⟨(Array.getElem?_eq_some_iff.1 hnew).1, .inr (.inr h.size), hL _, fun j hj hb => ?_⟩, fun j u hu => ?_, ?_⟩
   ·have := (h.own j _ hj hb).1; omega
   ·rw [cell_of_row _ _ _ _ t (0, 0) hnew]; simpa using hu
   ·have := ht.c _ _ hx1
    simpa only [V.evs] using this
end
end Go.Bm
/- The typed machine: literals. -/
namespace Go.Bm
open Go.RowKit
theorem foldl_set (off : Nat) : ∀ (vs : List Value) (k : Nat) (cells : Array Value), off + k + vs.length <= cells.size ->
  ((vs.zipIdx k).foldl (fun (cs : Array Value) (x : Value × Nat) => cs.setIfInBounds (off + x.2) x.1) cells).toList = cells.toList.take (off + k) ++ vs ++ cells.toList.drop (off + k + vs.length)
 | [], k, cells, _ => by simp
 | v :: r, k, cells, h => by
  simp only [List.zipIdx_cons, List.foldl_cons]
  simp only [List.length_cons] at h
  rw [foldl_set off r (k + 1) (cells.setIfInBounds (off + k) v) (by simp; omega)]
  simp only [Array.toList_setIfInBounds, List.length_cons]
  have h1 : (cells.toList.set (off + k) v).take (off + (k + 1)) = cells.toList.take (off + k) ++ [v] := by
   apply List.ext_getElem?
   intro j
   simp only [List.getElem?_take, List.getElem?_set, List.getElem?_append, List.length_take, Array.length_toList]
   by_cases hj : j < off + k
   ·rw [if_pos (by omega), if_neg (by omega), if_pos (by omega), if_pos hj]
   ·by_cases hj2 : j = off + k
    ·subst hj2
     rw [if_pos (by omega), if_pos rfl, if_pos (by omega), if_neg (by omega), Nat.min_eq_left (by omega)]; simp
    ·rw [if_neg (by omega), if_neg (by omega), Nat.min_eq_left (by omega)]
     simp; omega
  have h2 : (cells.toList.set (off + k) v).drop (off + (k + 1) + r.length) = cells.toList.drop (off + k + (r.length + 1)) := by
   rw [List.drop_set_of_lt (by omega)]; congr 1; omega
  rw [h1, h2]
  simp
theorem fill_step {place : Nat -> Option (Nat × Nat)} {cells : Array Value} {i : Nat} {v : Value} {vals : List (Nat × Value)} {off n : Nat} (hp : place i = some (off, n)) (hn : v.cells.size = n) (hb : off + n <= cells.size) :
  ∃ cells' : Array Value, cells'.toList = splice cells.toList off v.cells.toList /\ Instr.fill place cells ((i, v) :: vals) = Instr.fill place cells' vals := by
 refine ⟨v.cells.zipIdx.foldl (fun cs (c, j) => cs.setIfInBounds (off + j) c) cells, ?_, ?_⟩
 ·have hf := foldl_set off v.cells.toList 0 cells (by simp; omega)
  rw [← Array.foldl_toList, Array.toList_zipIdx, hf]
  simp only [splice, Nat.add_zero]
 ·simp only [Instr.fill, hp]
  rw [if_neg]
  simp only [ne_eq, Bool.or_eq_true, decide_eq_true_eq, not_or, Decidable.not_not, Nat.not_lt]
  omega
section
variable {F : Fr} {p p' p'' : Ow} {env : Env} {M M' M'' : Mem} {a : Act} {w w' w'' : World} {P : Program} {B : Tab}
theorem setV_ok (hp : Hp F p M w) : (π : Path) -> (v y v' : V) -> (vs us : List Value) -> (n : Nat) -> (z : V) -> RelC p.β M (Imm F p M w) w v vs -> subV M π v = some (n, z) -> z.size M = some us.length -> RelC p.β M (Imm F p M w) w y us -> setV π v y = some v' ->
  RelC p.β M (Imm F p M w) w v' (splice vs n us) /\ n + us.length <= vs.length
 | [], v, y, v', vs, us, n, z, r, hs, hz, hy, h => by
  have : subV M [] v = some (0, v) := by cases v <;> rfl
  rw [this] at hs
  cases hs
  have : setV [] v y = some y := by cases v <;> rfl
  rw [this] at h
  cases h
  have hl := size_ok hp v vs _ r hz
  refine ⟨?_, by omega⟩
  unfold splice
  rw [Nat.zero_add, ← hl, List.drop_length]
  simpa using hy
 | .l :: π, .p a b, y, v', vs, us, n, z, r, hs, hz, hy, h => by
  simp only [subV] at hs
  simp only [setV] at h
  simp only [RelC] at r
  obtain ⟨va, vb, rfl, ha, hb⟩ := r
  split at h
  ·rename_i q hq
   cases h
   obtain ⟨k1, k2⟩ := setV_ok hp π a y q va us n z ha hs hz hy hq
   refine ⟨?_, by rw [List.length_append]; omega⟩
   simp only [RelC]
   exact ⟨_, vb, (splice_l k2).symm, k1, hb⟩
  ·cases h
 | .r :: π, .p a b, y, v', vs, us, n, z, r, hs, hz, hy, h => by
  simp only [subV] at hs
  simp only [setV] at h
  simp only [RelC] at r
  obtain ⟨va, vb, rfl, ha, hb⟩ := r
  split at hs
  ·rename_i m n' v1 hm hs1
   cases hs
   split at h
   ·rename_i q hq
    cases h
    obtain ⟨k1, k2⟩ := setV_ok hp π b y q vb us n' z hb hs1 hz hy hq
    have hl := size_ok hp a va m ha hm
    refine ⟨?_, by rw [List.length_append, addN_eq]; omega⟩
    simp only [RelC]
    exact ⟨va, _, by rw [splice_r, hl, addN_eq], ha, k1⟩
   ·cases h
  ·cases hs
 | .l :: _, .any, _, _, _, _, _, _, _, _, _, _, h => by simp [setV] at h
 | .l :: _, .nl, _, _, _, _, _, _, _, _, _, _, h => by simp [setV] at h
 | .l :: _, .np, _, _, _, _, _, _, _, _, _, _, h => by simp [setV] at h
 | .l :: _, .u, _, _, _, _, _, _, _, _, _, _, h => by simp [setV] at h
 | .l :: _, .d _ _, _, _, _, _, _, _, _, _, _, _, h => by simp [setV] at h
 | .l :: _, .ref _ _, _, _, _, _, _, _, _, _, _, _, h => by simp [setV] at h
 | .l :: _, .ad _ _, _, _, _, _, _, _, _, _, _, _, h => by simp [setV] at h
 | .l :: _, .ag _, _, _, _, _, _, _, _, _, _, _, h => by simp [setV] at h
 | .l :: _, .tup _, _, _, _, _, _, _, _, _, _, _, h => by simp [setV] at h
 | .l :: _, .gd _ _ _ _, _, _, _, _, _, _, _, _, _, _, h => by simp [setV] at h
 | .l :: _, .fn _ _, _, _, _, _, _, _, _, _, _, _, h => by simp [setV] at h
 | .l :: _, .ifc _ _, _, _, _, _, _, _, _, _, _, _, h => by simp [setV] at h
 | .l :: _, .bx _, _, _, _, _, _, _, _, _, _, _, h => by simp [setV] at h
 | .r :: _, .any, _, _, _, _, _, _, _, _, _, _, h => by simp [setV] at h
 | .r :: _, .nl, _, _, _, _, _, _, _, _, _, _, h => by simp [setV] at h
 | .r :: _, .np, _, _, _, _, _, _, _, _, _, _, h => by simp [setV] at h
 | .r :: _, .u, _, _, _, _, _, _, _, _, _, _, h => by simp [setV] at h
 | .r :: _, .d _ _, _, _, _, _, _, _, _, _, _, _, h => by simp [setV] at h
 | .r :: _, .ref _ _, _, _, _, _, _, _, _, _, _, _, h => by simp [setV] at h
 | .r :: _, .ad _ _, _, _, _, _, _, _, _, _, _, _, h => by simp [setV] at h
 | .r :: _, .ag _, _, _, _, _, _, _, _, _, _, _, h => by simp [setV] at h
 | .r :: _, .tup _, _, _, _, _, _, _, _, _, _, _, h => by simp [setV] at h
 | .r :: _, .gd _ _ _ _, _, _, _, _, _, _, _, _, _, _, h => by simp [setV] at h
 | .r :: _, .fn _ _, _, _, _, _, _, _, _, _, _, _, h => by simp [setV] at h
 | .r :: _, .ifc _ _, _, _, _, _, _, _, _, _, _, _, h => by simp [setV] at h
 | .r :: _, .bx _, _, _, _, _, _, _, _, _, _, _, h => by simp [setV] at h
 | .ix _ :: _, _, _, _, _, _, _, _, _, _, _, _, h => by simp [setV] at h
 | .de :: _, _, _, _, _, _, _, _, _, _, _, _, h => by simp [setV] at h
theorem evParts_ok (hp : Hp F p M w) (place : Nat -> Option (Path × Nat × Nat)) (f : Operand -> V) (g : Operand -> Value) : (parts : List (Nat × Operand)) -> (v v' : V) -> (cells : Array Value) -> (∀ q ∈ parts, RelS p.β M (Imm F p M w) w (f q.2) (g q.2)) ->
  RelC p.β M (Imm F p M w) w v cells.toList -> evParts M place f parts v = some v' ->
  ∃ cells', Instr.fill (fun i => (place i).map fun q => q.2) cells (parts.map fun q => (q.1, g q.2)) = some cells' /\ RelC p.β M (Imm F p M w) w v' cells'.toList
 | [], v, v', cells, _, r, h => by
  simp only [evParts, Option.some.injEq] at h
  subst h
  exact ⟨cells, rfl, r⟩
 | (i, x) :: parts, v, v', cells, hfg, r, h => by
  simp only [evParts] at h
  split at h
  ·rename_i π off n hpl
   split at h
   ·rename_i m z hs
    cases hk : allT [beqN m off, sizeIs M z n, sizeIs M (f x).cells n] with
    | false => rw [hk] at h; cases h
    | true =>
     rw [hk] at h
     simp only [cond_true] at h
     simp only [allT_cons, allT_nil, Bool.and_true, Bool.and_eq_true, beqN_eq, beq_iff_eq] at hk
     obtain ⟨rfl, k2, k3⟩ := hk
     split at h
     ·rename_i v1 hv1
      have hc := cells_ok hp (hfg (i, x) (by simp)) (size_cellV (sizeIs_some k3))
      have hn := size_ok hp _ _ _ hc (sizeIs_some k3)
      obtain ⟨s1, s2⟩ := setV_ok hp π v (f x).cells v1 cells.toList (g x).cells.toList m z r hs (by rw [hn]; exact sizeIs_some k2) hc hv1
      simp only [Array.length_toList] at hn s2
      obtain ⟨cells1, c1, c2⟩ := fill_step (place := fun i => (place i).map fun q => q.2) (cells := cells) (i := i) (v := g x) (vals := parts.map fun q => (q.1, g q.2)) (off := m) (n := n) (by simp [hpl]) hn (by omega)
      rw [← c1] at s1
      obtain ⟨cells', e1, e2⟩ := evParts_ok hp place f g parts v1 v' cells1 (fun q hq => hfg q (by simp [hq])) s1 h
      exact ⟨cells', by rw [List.map_cons, c2]; exact e1, e2⟩
     ·cases h
   ·cases h
  ·cases h
theorem fill_mono {pl pl' : Nat -> Option (Nat × Nat)} (h : ∀ i q, pl i = some q -> pl' i = some q) : ∀ (l : List (Nat × Value)) (cells cells' : Array Value), Instr.fill pl cells l = some cells' -> Instr.fill pl' cells l = some cells'
 | [], cells, cells', hf => hf
 | (i, v) :: l, cells, cells', hf => by
  unfold Instr.fill at hf ⊢
  cases hp : pl i with
  | none => simp only [hp] at hf; cases hf
  | some q =>
   obtain ⟨off, n⟩ := q
   simp only [hp] at hf
   simp only [h i _ hp]
   split at hf
   ·cases hf
   ·rename_i hc
    rw [if_neg hc]
    exact fill_mono h l _ _ hf
theorem toL_eq {α : Type} (x : Array α) : toL x = x.toList := by cases x; rfl
theorem evBuild_ok (hB : TabOk P B) (hp : Hp F p M w) (hL : ∀ b, ¬ p.L b) {t : TypeId} {parts : Array (Nat × Operand)} (f : Operand -> V) (hf : ∀ q ∈ parts.toList, RelS p.β M (Imm F p M w) w (f q.2) (a.eval q.2)) (hv : allP (evBuild B t (toL parts) f M).vc) (qt : Bool) {op : Oper} (hop : op.op = .build t parts) :
  ∃ v w', (execOp a.eval op).run P w = .ok (.value v) w' /\ Done F p M w qt (evBuild B t (toL parts) f M) v w' := by
 unfold evBuild at hv ⊢
 cases hk : allT [(B.τ t).ok, bldOk B (B.τ t), B.z t] with
 | false => rw [hk] at hv; exact hv.1.elim
 | true =>
  rw [hk] at hv
  simp only [cond_true] at hv ⊢
  simp only [allT_cons, allT_nil, Bool.and_true, Bool.and_eq_true] at hk
  split at hv
  ·rename_i v hev
   have eτ := hB.τ t hk.1
   cases harr : (B.τ t).arr with
   | some q =>
    obtain ⟨e, n⟩ := q
    have hbo := hk.2.1
    simp only [bldOk, harr] at hbo
    have ee := hB.τ e hbo
    obtain ⟨inf, z, hi, hz, h0⟩ := zero_of hB hk.2.2
    obtain ⟨ie, ue, hie, hue⟩ := ty_some (by rw [ee]; exact hbo)
    obtain ⟨inf', u, hi', hu⟩ := ty_some (P := P) (t := t) (by rw [eτ]; exact hk.1)
    rw [hi] at hi'; cases hi'
    have hu2 : u = .array n e := by
     rw [← eτ, ty_of hi hu] at harr
     simp only [tyOf] at harr
     cases u <;> simp at harr
     rw [harr.1, harr.2]
    subst hu2
    have hsz : (B.τ e).size = ie.size := by rw [← ee, ty_of hie hue]; rfl
    rw [toL_eq] at hev
    obtain ⟨cells', h1, h2⟩ := evParts_ok hp _ f a.eval parts.toList (zeroV (B.σ t)) v z.cells hf ((zero_ok (B.σ t) _ h0).2 _ _) hev
    have hb : P.built t (parts.toList.map fun q => (q.1, a.eval q.2)) = some cells' := by
     simp only [Program.built, hi, hu, hz, hie]
     refine fill_mono (fun i q hq => ?_) _ _ _ h1
     simp only [plOf, harr] at hq
     cases hl : Nat.ble (Nat.succ i) n with
     | false => rw [hl] at hq; cases hq
     | true =>
      rw [hl] at hq
      simp only [cond_true, Option.map_some, Option.some.injEq] at hq
      rw [← hq, hsz]; rfl
    refine ⟨.agg cells', w, ?_, ?_⟩
    ·have := run_build w t ((parts.toList.map fun q => (q.1, a.eval q.2)).toArray) cells' (by simpa using hb)
     simp only [execOp, hop, Sem.run_bind]
     rw [show (parts.map fun x => match x with | (i, x) => (i, a.eval x)) = (parts.toList.map fun q => (q.1, a.eval q.2)).toArray from by
      apply Array.ext'; simp]
     rw [this]; rfl
    ·refine Done.pure (q := ([], .ag v)) hp hL ?_ qt
     simp only [RelS]
     exact ⟨cells'.toList, by simp, h2⟩
   | none =>
   have hpl : plOf B (B.τ t) = fun i => (match nthL (B.τ t).fld i with | some q => some (fpath (len (B.τ t).fld) i, q.1, q.2.2) | none => none) := by
    funext i; simp only [plOf, harr]; cases nthL (B.τ t).fld i <;> rfl
   rw [hpl] at hev
   simp only [bldOk, harr] at hk
   rw [← eτ] at hk hev
   obtain ⟨inf, z, hi, hz, h0⟩ := zero_of hB hk.2.2
   obtain ⟨inf', u, hi', hu⟩ := ty_some hk.1
   rw [hi] at hi'; cases hi'
   rw [ty_of hi hu] at hk hev
   have hsz := hk.2.1
   simp only [tyOf] at hsz hev
   cases u <;> simp at hsz
   case struct fs =>
    simp only at hev
    rw [toL_eq] at hev
    obtain ⟨cells', h1, h2⟩ := evParts_ok hp _ f a.eval parts.toList (zeroV (B.σ t)) v z.cells hf ((zero_ok (B.σ t) _ h0).2 _ _) hev
    have hb : P.built t (parts.toList.map fun q => (q.1, a.eval q.2)) = some cells' := by
     have hplaces : fs.toList.mapM (fun f => (P.info? f.type).map fun i => (f.offset, i.size)) = some (fs.toList.map fun f => (f.offset, P.cellsOf f.type)) := by
      have v3' : ∀ f ∈ fs.toList, (P.info? f.type).isSome = true := fun f hfm => by
       obtain ⟨i, hi', rfl⟩ := Array.getElem_of_mem (Array.mem_toList_iff.1 hfm)
       exact hsz i hi'
      generalize fs.toList = l at v3'
      induction l with
      | nil => rfl
      | cons f l ih =>
       have hf' := v3' f (by simp)
       cases hif : P.info? f.type with
       | none => rw [hif] at hf'; cases hf'
       | some i' =>
        simp only [List.mapM_cons, Option.map_some, List.map_cons, ih (fun g hg => v3' g (by simp [hg])), Program.cellsOf, hif]
        rfl
     simp only [Program.built, hi, hu, hz, hplaces]
     rw [← h1]
     congr 1
     funext i
     simp only [nthL_eq, List.getElem?_map, List.getElem?_toArray]
     cases fs.toList[i]? <;> rfl
    refine ⟨.agg cells', w, ?_, ?_⟩
    ·have := run_build w t ((parts.toList.map fun q => (q.1, a.eval q.2)).toArray) cells' (by simpa using hb)
     simp only [execOp, hop, Sem.run_bind]
     rw [show (parts.map fun x => match x with | (i, x) => (i, a.eval x)) = (parts.toList.map fun q => (q.1, a.eval q.2)).toArray from by
      apply Array.ext'; simp]
     rw [this]; rfl
    ·refine Done.pure (q := ([], .ag v)) hp hL ?_ qt
     simp only [RelS]
     exact ⟨cells'.toList, by simp, h2⟩
  ·exact hv.1.elim
theorem repL_eq {α : Type} (x : α) (n : Nat) : repL x n = List.replicate n x := by
 induction n with
 | zero => rfl
 | succ n ih => rw [repL, ih]; rfl
theorem setL_eq {α : Type} (l : List α) (i : Nat) (y : α) : setL l i y = l.set i y := by
 induction l generalizing i with
 | nil => rfl
 | cons x l ih => cases i with
  | zero => rfl
  | succ i => rw [setL, ih]; rfl
theorem allL_iff {α : Type} (q : α -> Bool) (l : List α) : allL q l = true ↔ ∀ x ∈ l, q x = true := by
 induction l with
 | nil => simp [allL]
 | cons x l ih =>
  simp only [allL, List.mem_cons, forall_eq_or_imp]
  cases h : q x <;> simp [ih]
def RelR (β : Nat -> Value) (M : Mem) (Im : Nat -> Prop) (w : World) (sz : Nat) (l : List V) (xs : List Value) : Prop :=
 xs.length = l.length * sz /\ ∀ (i : Nat) (v : V), l[i]? = some v -> RelC β M Im w v ((xs.drop (i * sz)).take sz)
theorem madeCells_rows (z : Value) (size : Nat) (hzl : z.cells.size = size) : ∀ m, (madeCells z.cells (m * size)).toList = (List.replicate m z.cells.toList).flatten := by
 intro m
 apply List.ext_getElem?
 intro j
 by_cases hj : j < m * size
 ·have hpos : 0 < size := Nat.pos_of_ne_zero (fun h0 => by rw [h0] at hj; omega)
  have hmod := Nat.mod_lt j hpos
  have h1 : (madeCells z.cells (m * size)).toList[j]? = some (z.cells[j % z.cells.size]!) := by simp [madeCells, hj]
  rw [h1, hzl]
  have key : ∀ (m j : Nat), j < m * size -> ((List.replicate m z.cells.toList).flatten)[j]? = some z.cells[j % size]! := by
   intro m
   induction m with
   | zero => intro j hj; omega
   | succ m ih =>
    intro j hj
    rw [List.replicate_succ, List.flatten_cons, List.getElem?_append]
    simp only [Array.length_toList, hzl]
    by_cases hjs : j < size
    ·rw [if_pos hjs, Nat.mod_eq_of_lt hjs]
     simp [hzl, hjs, getElem!_pos]
    ·rw [if_neg hjs, ih (j - size) (by rw [Nat.add_mul] at hj; omega)]
     congr 2
     rw [← Nat.mod_eq_sub_mod (by omega)]
  rw [key m j hj]
 ·rw [List.getElem?_eq_none (by simp [madeCells]; omega), List.getElem?_eq_none]
  simp [hzl]; omega
theorem flat_rows {zs : List Value} : ∀ (n i : Nat), i < n -> (((List.replicate n zs).flatten.drop (i * zs.length)).take zs.length) = zs
 | 0, i, h => by omega
 | n + 1, 0, h => by simp [List.replicate_succ]
 | n + 1, i + 1, h => by
  rw [List.replicate_succ, List.flatten_cons, Nat.succ_mul, Nat.add_comm, ← List.drop_drop, List.drop_left]
  exact flat_rows n i (by omega)
theorem RelR.rep {β : Nat -> Value} {Im : Nat -> Prop} {v : V} {zs : List Value} (h : RelC β M Im w v zs) (n : Nat) : RelR β M Im w zs.length (repL v n) (List.replicate n zs).flatten := by
 rw [repL_eq]
 refine ⟨by simp, fun i x hx => ?_⟩
 rw [List.getElem?_replicate] at hx
 split at hx
 ·rename_i hi
  cases hx
  rw [flat_rows n i hi]; exact h
 ·cases hx
theorem evElems_ok (hp : Hp F p M w) {sz : Nat} (f : Operand -> V) (g : Operand -> Value) : (parts : List (Nat × Operand)) -> (l l' : List V) -> (cells : Array Value) -> (∀ q ∈ parts, RelS p.β M (Imm F p M w) w (f q.2) (g q.2)) ->
  RelR p.β M (Imm F p M w) w sz l cells.toList -> evElems M sz f parts l = some l' ->
  ∃ cells', Instr.fill (fun i => some (i * sz, sz)) cells (parts.map fun q => (q.1, g q.2)) = some cells' /\ RelR p.β M (Imm F p M w) w sz l' cells'.toList /\ l'.length = l.length
 | [], l, l', cells, _, r, h => by
  simp only [evElems, Option.some.injEq] at h
  subst h
  exact ⟨cells, rfl, r, rfl⟩
 | (i, x) :: parts, l, l', cells, hfg, r, h => by
  simp only [evElems] at h
  cases hb : nob (Nat.ble (Nat.succ i) (len l)) (sizeIs M (f x).cells sz) with
  | false => rw [hb] at h; cases h
  | true =>
   rw [hb] at h
   simp only [cond_true] at h
   simp only [nob_eq, Bool.and_eq_true] at hb
   have hi : i < l.length := by have := Nat.le_of_ble_eq_true hb.1; rw [len_eq] at this; omega
   have k3 := hb.2
   have hc := cells_ok hp (hfg (i, x) (by simp)) (size_cellV (sizeIs_some k3))
   have hn := size_ok hp _ _ _ hc (sizeIs_some k3)
   obtain ⟨r1, r2⟩ := r
   have hle : i * sz + sz <= l.length * sz := by have := Nat.mul_le_mul_right sz (show i + 1 <= l.length from hi); rw [Nat.add_mul] at this; omega
   simp only [Array.length_toList] at hn r1
   obtain ⟨cells1, c1, c2⟩ := fill_step (place := fun i => some (i * sz, sz)) (cells := cells) (i := i) (v := g x) (vals := parts.map fun q => (q.1, g q.2)) (off := i * sz) (n := sz) rfl hn (by omega)
   have hr1 : RelR p.β M (Imm F p M w) w sz (setL l i (f x).cells) cells1.toList := by
    rw [setL_eq, c1]
    refine ⟨?_, fun j v hj => ?_⟩
    ·unfold splice; simp [hn]; omega
    ·rw [row_set (n := l.length) (by simpa using r1) hi (by simpa using hn)]
     rw [List.getElem?_set] at hj
     by_cases e : j = i
     ·subst e
      rw [if_pos rfl, if_pos hi] at hj
      cases hj
      rw [if_pos rfl]; exact hc
     ·rw [if_neg (Ne.symm e)] at hj
      rw [if_neg e]; exact r2 j v hj
   obtain ⟨cells', e1, e2, e3⟩ := evElems_ok hp f g parts _ l' cells1 (fun q hq => hfg q (by simp [hq])) hr1 h
   exact ⟨cells', by rw [List.map_cons, c2]; exact e1, e2, by rw [e3, setL_eq, List.length_set]⟩
theorem go_none_cases {k : Nat} {o : Option Ob} (h : go M' k = none ∨ go M' k = o) (ho : o = none) : go M' k = none := by rcases h with h | h <;> rw [h] <;> exact ho
theorem ap_nil {α : Type} (a : List α) : ap a [] = a := by rw [ap_eq]; simp
theorem convEls_ok (k : Nat) (o : O) : (l : List V) -> (ev : List Ev) -> (M : Mem) -> (p : Ow) -> (rows : List (List Value)) -> (xs : List o.strip.den) -> (e : List Ev) -> (M' : Mem) -> Hp F p M w -> go M k = none ->
  rows.length = l.length -> (∀ (i : Nat) (v : V) (vs : List Value), l[i]? = some v -> rows[i]? = some vs -> RelC p.β M (Imm F p M w) w (v.evs ev) vs) -> convEls k o ev l M = some (xs, e, M') ->
  ∃ e1 p', ∃ T : Nat -> Nat -> Prop, e = ap ev e1 /\ Tr F p M w e1 p' M' w /\ go M' k = none /\ xs.length = l.length /\ (∀ b, p'.L b ↔ p.L b ∨ ∃ i, T i b) /\ (∀ i b, T i b -> ¬ p.L b) /\ (∀ i j b, i ≠ j -> T i b -> ¬ T j b) /\
   (∀ (i : Nat) (x : o.strip.den) (vs : List Value), xs[i]? = some x -> rows[i]? = some vs -> Rel (Imm F p' M' w) w o x (T i) vs) /\ ((e1 = [] /\ M' = M /\ p' = p) ∨ ∃ x r, e1 = x :: r /\ fresh M [x] = false)
 | [], ev, M, p, rows, xs, e, M', h, hk, hl, hr, hc => by
  simp only [convEls, Option.some.injEq, Prod.mk.injEq] at hc
  obtain ⟨rfl, rfl, rfl⟩ := hc
  exact ⟨[], p, fun _ _ => False, (ap_nil ev).symm, Tr.refl h, hk, rfl, fun b => by simp, fun i b hb => hb.elim, fun i j b _ hb => hb.elim, fun i x vs hx => by simp at hx, .inl ⟨rfl, rfl, rfl⟩⟩
 | v :: r, ev, M, p, rows, xs, e, M', h, hk, hl, hr, hc => by
  simp only [convEls] at hc
  split at hc
  ·rename_i x e0 M1 hc1
   split at hc
   ·rename_i l1 e2 M2 hc2
    simp only [Option.some.injEq, Prod.mk.injEq] at hc
    obtain ⟨rfl, rfl, rfl⟩ := hc
    cases rows with
    | nil => simp at hl
    | cons vs rows =>
     obtain ⟨g, p1, S, cv⟩ := convW_ok h k o (v.evs ev) vs x e0 (hr 0 v vs rfl rfl) hc1
     have hk1 : go M1 k = none := go_none_cases g hk
     obtain ⟨e1, p', T, i1, i2, i3, i4, i5, i6, i7, i8, i9⟩ := convEls_ok k o r (ap ev e0) M1 p1 rows l1 _ _ cv.tr.hp hk1 (by simpa using hl) (fun i v' vs' hv' hvs' => by
      rw [evs_ap]; exact cv.tr.c _ _ (hr (i + 1) v' vs' (by simpa using hv') (by simpa using hvs'))) hc2
     refine ⟨ap e0 e1, p', fun i => match i with | 0 => S | i + 1 => T i, by rw [i1]; simp only [ap_eq, List.append_assoc], cv.tr.trans i2, i3, by simp [i4], fun b => ?_, fun i b hb => ?_, fun i j b hij hb => ?_, fun i x' vs' hx hvs => ?_, ?_⟩
     ·rw [i5, cv.L]
      constructor
      ·rintro ((h1 | h1) | ⟨i, h1⟩)
       ·exact .inl h1
       ·exact .inr ⟨0, h1⟩
       ·exact .inr ⟨i + 1, h1⟩
      ·rintro (h1 | ⟨i, h1⟩)
       ·exact .inl (.inl h1)
       ·cases i with
        | zero => exact .inl (.inr h1)
        | succ i => exact .inr ⟨i, h1⟩
     ·cases i with
      | zero => exact cv.sp b hb
      | succ i => exact fun hL => i6 i b hb ((cv.L b).2 (.inl hL))
     ·cases i with
      | zero =>
       cases j with
       | zero => exact absurd rfl hij
       | succ j => exact fun hb' => i6 j b hb' ((cv.L b).2 (.inr hb))
      | succ i =>
       cases j with
       | zero => exact fun hb' => i6 i b hb ((cv.L b).2 (.inr hb'))
       | succ j => exact i7 i j b (fun e => hij (by rw [e])) hb
     ·cases i with
      | zero =>
       simp only [List.getElem?_cons_zero, Option.some.injEq] at hx hvs
       subst hx; subst hvs
       exact Rel.keep i2.keep _ _ _ _ (fun _ _ => rfl) cv.rel
      | succ i => exact i8 i x' vs' (by simpa using hx) (by simpa using hvs)
     ·rcases cv.fr with ⟨rfl, rfl, rfl⟩ | ⟨y, ry, rfl, hy⟩
      ·exact i9
      ·exact .inr ⟨y, ap ry e1, rfl, hy⟩
   ·cases hc
  ·cases hc
theorem evsL_get (e : List Ev) : ∀ (l : List V) (i : Nat), (evsL e l)[i]? = (l[i]?).map fun v => v.evs e
 | [], i => by simp [evsL]
 | v :: l, 0 => by simp [evsL]
 | v :: l, i + 1 => by simp only [evsL, List.getElem?_cons_succ]; exact evsL_get e l i
theorem evsL_len (e : List Ev) : ∀ l : List V, (evsL e l).length = l.length
 | [] => rfl
 | v :: l => by simp [evsL, evsL_len e l]
def rowsOf (sz n : Nat) (xs : List Value) : List (List Value) := (List.range n).map fun i => (xs.drop (i * sz)).take sz
theorem rowsOf_len (sz n : Nat) (xs : List Value) : (rowsOf sz n xs).length = n := by simp [rowsOf]
theorem rowsOf_get {sz n i : Nat} {xs vs : List Value} (h : (rowsOf sz n xs)[i]? = some vs) : vs = (xs.drop (i * sz)).take sz := by
 unfold rowsOf at h
 rw [List.getElem?_map] at h
 by_cases hi : i < n
 ·rw [List.getElem?_range hi] at h; simpa using h.symm
 ·rw [List.getElem?_eq_none (by simpa using hi)] at h; cases h
theorem nb_max {n : Nat} (h : n <= nb) : n <= maxLen := by unfold nb at h; unfold maxLen; omega
theorem evLit_ok (hB : TabOk P B) (h : Hp F p M w) (hL : ∀ b, ¬ p.L b) {t : TypeId} {n : Nat} {parts : Array (Nat × Operand)} (f : Operand -> V) (hf : ∀ q ∈ parts.toList, RelS p.β M (Imm F p M w) w (f q.2) (a.eval q.2)) (o : Option Nat) (hv : allP (evLit B t n (toL parts) f o M).vc) (qt : Bool) {op : Oper} (hop : op.op = .buildSlice t n parts) :
  ∃ v w', (execOp a.eval op).run P w = .ok (.value v) w' /\ Done F p M w qt (evLit B t n (toL parts) f o M) v w' := by
 unfold evLit at hv ⊢
 split at hv
 ·rename_i k e he
  split at hv
  ·rename_i l hl
   cases hk : allT [(B.τ t).ok, (B.τ e).ok, B.z e, Nat.ble (Nat.mul n (B.τ e).size) 16777216, Nat.ble n nb, beqN (B.σ e).size (B.τ e).size] with
   | false => rw [hk] at hv; exact hv.1.elim
   | true =>
    simp only [hl, hk, cond_true] at hv ⊢
    simp only [allT_cons, allT_nil, Bool.and_true, Bool.and_eq_true, beqN_eq, beq_iff_eq] at hk
    obtain ⟨k1, k2, k3, k4, k5, k6⟩ := hk
    replace k4 := Nat.le_of_ble_eq_true k4
    replace k5 := Nat.le_of_ble_eq_true k5
    have eτ := hB.τ t k1
    have eτ' := hB.τ e k2
    obtain ⟨infe, z, hie, hz, h0⟩ := zero_of hB k3
    rw [← eτ'] at k2 k4 k6 hl
    rw [← eτ] at k1 he
    obtain ⟨inf, u, hi, hu⟩ := ty_some k1
    obtain ⟨infe', ue, hie', hue⟩ := ty_some k2
    rw [hie] at hie'; cases hie'
    rw [ty_of hi hu] at he
    rw [ty_of hie hue] at k4 k6 hl
    simp only [tyOf] at he k4 k6 hl
    cases u <;> simp at he
    obtain rfl := he.symm
    obtain ⟨z1, z2⟩ := zero_ok (Im := Imm F p M w) (w := w) (B.σ e) _ h0
    have hzl : z.cells.size = infe.size := by
     have := Rel.len _ _ _ _ z1
     rw [deep_size, k6] at this; simpa using this
    have hrep := RelR.rep (z2 p.β M) n
    rw [← madeCells_rows z infe.size hzl n, show z.cells.toList.length = infe.size by simpa using hzl] at hrep
    rw [toL_eq] at hl
    obtain ⟨cells', c1, c2, c3⟩ := evElems_ok h f a.eval parts.toList _ l (madeCells z.cells (n * infe.size)) hf hrep hl
    have hln : l.length = n := by rw [c3, repL_eq, List.length_replicate]
    have hrun : (execOp a.eval op).run P w = .ok (.value (.slice (some ⟨w.heap.size, 0, none⟩) n n)) (w.alloc (.cells cells' e)) := by
     have h1' : Instr.fill (fun i => some (i * infe.size, infe.size)) ((Array.range (n * infe.size)).map fun x => z.cells[x % z.cells.size]!) (parts.map fun x => match x with | (i, x) => (i, a.eval x)).toList = some cells' := by
      rw [← c1]; simp [madeCells]
     have k4' : n * infe.size <= 16777216 := k4
     have hsmall : ¬ (16777216 < n * infe.size) := by omega
     by_cases h0 : n * infe.size = 0
     ·simp only [execOp, hop, Instr.buildSlice, run_underlying hu, sizeOf, typeInfo, run_program, hie, Sem.run_bind, Sem.run_pure, Result.andThen_ok, Sem.run_ite, h0, if_true]
      rw [h0] at h1'
      simp only [show (Array.range 0).map (fun x => (#[] : Array Value)[x % (#[] : Array Value).size]!) = (Array.range 0).map fun x => z.cells[x % z.cells.size]! from by simp, h1']
      simp [newRow]
     ·simp [execOp, hop, Instr.buildSlice, run_underlying hu, sizeOf, typeInfo, hie, hsmall, h0, zeroValue, hz, newRow]
      simp at h1'
      simp [h1']
    have hgrow : w.grownBy (w.alloc (.cells cells' e)) none := World.grownBy_alloc w _ none
    have hown : (w.alloc (.cells cells' e)).ownsRow 0 e infe.size (.slice (some ⟨w.heap.size, 0, none⟩) n n) n cells'.toList := by
     have hsz : cells'.size = n * infe.size := by have := c2.1; rw [hln] at this; simpa using this
     exact ⟨by simpa using hsz, .inr ⟨w.heap.size, n, cells', rfl, Nat.zero_le _, heap_alloc_new w _, Nat.le_refl _, nb_max k5, hsz, List.take_of_length_le (by simp [hsz])⟩⟩
    have hroot : ∀ b, root (.slice (some ⟨w.heap.size, 0, none⟩) n n) = some b -> w.heap.size <= b /\ b < (w.alloc (.cells cells' e)).heap.size := fun b hb => by
     have hb := root_slice hb
     subst hb
     exact ⟨Nat.le_refl _, (Array.getElem?_eq_some_iff.1 (heap_alloc_new w _)).1⟩
    have hrel : ∀ (i : Nat) (v : V) (vs : List Value), (evsL [.kl k] l)[i]? = some v -> (rowsOf infe.size n cells'.toList)[i]? = some vs -> RelC p.β (del k M) (Imm F p (del k M) w) w (v.evs []) vs := fun i v vs hv hvs => by
     rw [evsL_get] at hv
     cases hli : l[i]? with
     | none => rw [hli] at hv; cases hv
     | some v0 =>
      rw [hli] at hv
      cases hv
      rw [rowsOf_get hvs]
      exact (Tr.kl h k).c _ _ (c2.2 i v0 hli)
    have key : ∀ (oo : O) (x : List oo.strip.den) (ev : List Ev) (M' : Mem), convEls k oo [] (evsL [.kl k] l) (del k M) = some (x, ev, M') -> oo.size = infe.size ->
      Done F p M w qt ⟨[], .ref k [], .kl k :: ev, (k, ⟨.sl oo, x⟩) :: M'⟩ (.slice (some ⟨w.heap.size, 0, none⟩) n n) (w.alloc (.cells cells' e)) := fun oo x ev M' hcv hos => by
     obtain ⟨e1, p', T, i1, i2, i3, i4, i5, i6, i7, i8, i9⟩ := convEls_ok k oo _ [] (del k M) p (rowsOf infe.size n cells'.toList) x ev M' (hp_del h k) (go_del_self k M) (by rw [rowsOf_len, evsL_len, hln]) hrel hcv
     simp only [ap] at i1
     subst i1
     have hxl : x.length = n := by rw [i4, evsL_len, hln]
     refine new_row h k i2 i3 ⟨hgrow, Nat.le_refl _⟩ (ety := e) (xs := cells'.toList) (T := T) (by rw [hxl, hos]; exact hown) hroot (by rw [hxl]; exact k5) (fun i c hc => (i5 c).2 (.inr ⟨i, hc⟩)) i7 (fun i y hy => ?_) i9 qt
     rw [hos]
     have hi : i < n := by rw [← hxl]; exact (List.getElem?_eq_some_iff.1 hy).1
     exact i8 i y _ hy (by unfold rowsOf; rw [List.getElem?_map, List.getElem?_range hi]; rfl)
    refine ⟨_, _, hrun, ?_⟩
    split at hv
    ·rename_i hnil
     have hn : n = 0 := by have := congrArg List.length hnil; rw [evsL_len, hln] at this; simpa using this
     subst hn
     refine ⟨p, Tr.ext h (Ext.of_grown hgrow (Nat.le_refl _)), hL, ?_, fun _ _ => ⟨Ext.of_grown hgrow (Nat.le_refl _), fun j ob hj => ⟨hj, rfl, rfl⟩⟩⟩
     unfold nonNil
     split
     ·rename_i e' _
      rw [relS_d]
      simp only [RelF]
      refine .inr ⟨[], _, _, _, rfl, rfl, _, 0, rfl, ⟨Nat.zero_le _, Nat.le_refl _⟩, fun _ => ⟨rfl, rfl⟩, fun a ha hpos => absurd hpos (Nat.lt_irrefl 0)⟩
     ·simp only [RelS, RelC]; exact ⟨_, rfl⟩
    ·rename_i v r hcons
     split at hv
     ·rename_i q e0 M0 hcv0
      split at hv
      ·rename_i x ev M' hcv
       refine key q.o x ev M' (by rw [hcons]; exact hcv) ?_
       have hr0 := hrel 0 v ((rowsOf infe.size n cells'.toList).headD []) (by rw [hcons]; rfl) (by
        have hn : 0 < n := by have := congrArg List.length hcons; rw [evsL_len, hln] at this; simp at this; omega
        cases n with
        | zero => omega
        | succ n => simp [rowsOf, List.range_succ_eq_map])
       simp only [V.evs] at hr0
       obtain ⟨g, p', S, cv⟩ := conv_ok k (B.σ e) v (del k M) p _ q e0 M0 (hp_del h k) hr0 hcv0
       have h1 := Rel.len _ _ _ _ cv.rel
       rw [← h1]
       have hn : 0 < n := by have := congrArg List.length hcons; rw [evsL_len, hln] at this; simp at this; omega
       have hcl : cells'.toList.length = n * infe.size := by rw [c2.1, hln]
       have hle : infe.size <= n * infe.size := Nat.le_mul_of_pos_left _ hn
       cases n with
       | zero => omega
       | succ n => simp [rowsOf, List.range_succ_eq_map]; rw [Array.length_toList] at hcl; omega
      ·split at hv
       ·rename_i x ev M' hcv
        exact key (.fz (B.σ e)) x ev M' (by rw [hcons]; exact hcv) (by simp only [O.size, O.strip]; exact k6)
       ·exact hv.1.elim
     ·exact hv.1.elim
  ·exact hv.1.elim
 ·exact hv.1.elim
theorem take_flat {zs : List Value} : ∀ (c n : Nat), n <= c -> (List.replicate c zs).flatten.take (n * zs.length) = (List.replicate n zs).flatten
 | _, 0, _ => by simp
 | 0, n + 1, h => by omega
 | c + 1, n + 1, h => by
  rw [List.replicate_succ, List.flatten_cons, List.replicate_succ, List.flatten_cons, Nat.succ_mul, Nat.add_comm, List.take_length_add_append, take_flat c n (by omega)]
theorem mk_nums {nl nc : Int} {b : Nat} (h : 0 <= nl /\ nl <= nc /\ nc <= (nb : Int) /\ nc * (b : Int) <= (nb : Int)) : ∃ n c : Nat, nl = n /\ nc = c /\ n <= c /\ c <= nb /\ c * b <= nb := by
 obtain ⟨h1, h2, h3, h4⟩ := h
 obtain ⟨n, rfl⟩ := Int.eq_ofNat_of_zero_le h1
 obtain ⟨c, rfl⟩ := Int.eq_ofNat_of_zero_le (Int.le_trans h1 h2)
 refine ⟨n, c, rfl, rfl, by omega, by omega, ?_⟩
 have : ((c * b : Nat) : Int) <= (nb : Int) := by rw [Int.natCast_mul]; exact h4
 omega
theorem evMake_ok (hB : TabOk P B) (h : Hp F p M w) (hL : ∀ b, ¬ p.L b) {t : TypeId} {l c : Operand} (x y : V) (hx : RelS p.β M (Imm F p M w) w x (a.eval l)) (hy : RelS p.β M (Imm F p M w) w y (a.eval c)) (o : Option Nat) (hv : allP (evMake B t x y o M).vc) (qt : Bool) {op : Oper} (hop : op.op = .makeSlice t l c) :
  ∃ v w', (execOp a.eval op).run P w = .ok (.value v) w' /\ Done F p M w qt (evMake B t x y o M) v w' := by
 unfold evMake at hv ⊢
 split at hv
 ·rename_i k e kl nl kc nc he
  cases hk : allT [(B.τ t).ok, (B.τ e).ok, B.z e, beqN (B.σ e).size (B.τ e).size] with
  | false => rw [hk] at hv; exact hv.1.elim
  | true =>
   simp only [he, hk, cond_true, allP_cons, allP_nil, and_true] at hv ⊢
   simp only [allT_cons, allT_nil, Bool.and_true, Bool.and_eq_true, beqN_eq, beq_iff_eq] at hk
   obtain ⟨k1, k2, k3, k4⟩ := hk
   simp only [relS_d, relF_int] at hx hy
   have eτ := hB.τ t k1
   have eτ' := hB.τ e k2
   obtain ⟨infe, z, hie, hz, h0⟩ := zero_of hB k3
   rw [← eτ'] at k2 k4
   simp only [← eτ'] at hv
   rw [← eτ] at k1 he
   obtain ⟨inf, u, hi, hu⟩ := ty_some k1
   obtain ⟨infe', ue, hie', hue⟩ := ty_some k2
   rw [hie] at hie'; cases hie'
   rw [ty_of hi hu] at he
   rw [ty_of hie hue] at k4
   simp only [ty_of hie hue] at hv
   simp only [tyOf] at he hv k4
   cases u <;> simp at he
   obtain rfl := he.symm
   obtain ⟨n, c', rfl, rfl, v2, v3, v4⟩ := mk_nums hv
   obtain ⟨z1, z2⟩ := zero_ok (Im := Imm F p (del k M) w) (w := w) (B.σ e) _ h0
   have hzl : z.cells.toList.length = infe.size := by
    have h1 := Rel.len _ _ _ _ z1
    rw [deep_size, k4] at h1; exact h1
   have hbytes : (infe.bytes : Int) * ((c' : Nat) : Int) <= 281474976710656 := by
    have : ((c' * infe.bytes : Nat) : Int) <= 281474976710656 := by have := v4; simp only [nb] at this; omega
    rw [Int.natCast_mul, Int.mul_comm] at this; exact this
   have hr := run_make (P := P) w t e infe z hu hie hz kl kc (n : Int) (c' : Int) (by omega) (by omega) hbytes (by have := v3; simp only [nb] at this; omega)
   simp only [Int.toNat_natCast] at hr
   have hown : (w.alloc (.cells (madeCells z.cells (c' * infe.size)) e)).ownsRow 0 e infe.size (.slice (some ⟨w.heap.size, 0, none⟩) n c') n (List.replicate n z.cells.toList).flatten := by
    refine ⟨by simp [← hzl], .inr ⟨w.heap.size, c', _, rfl, Nat.zero_le _, heap_alloc_new w _, v2, nb_max v3, size_madeCells _ _, ?_⟩⟩
    rw [madeCells_rows z infe.size (by simpa using hzl), ← hzl]
    exact take_flat c' n v2
   have hd := new_row h k (e0 := []) (o := (B.σ e).deep) (l := List.replicate n (B.σ e).deep.dflt) (T := fun _ _ => False) (Tr.refl (hp_del h k)) (go_del_self k M) ⟨World.grownBy_alloc w (.cells (madeCells z.cells (c' * infe.size)) e) none, Nat.le_refl _⟩
    (ety := e) (v := .slice (some ⟨w.heap.size, 0, none⟩) n c') (xs := (List.replicate n z.cells.toList).flatten) (by rw [List.length_replicate, deep_size, k4]; exact hown)
    (fun b hb => by
     have hb := root_slice hb
     subst hb
     exact ⟨Nat.le_refl _, (Array.getElem?_eq_some_iff.1 (heap_alloc_new w _)).1⟩) (by rw [List.length_replicate]; omega) (fun i c hc => hc.elim) (fun i j c _ hc => hc.elim)
    (fun i x hx => by
     rw [List.getElem?_replicate] at hx
     split at hx
     ·rename_i hi
      cases hx
      rw [show (B.σ e).deep.size = z.cells.toList.length by rw [deep_size, k4, hzl], flat_rows n i hi]
      exact z1
     ·cases hx) (.inl ⟨rfl, rfl, rfl⟩) qt
   refine ⟨_, _, ?_, hd⟩
   simp [execOp, hop, hx.1, hy.1, hr]
 ·exact hv.1.elim
end
end Go.Bm
/- The typed machine: stores. -/
namespace Go.Bm
open Go.RowKit
section
variable {F : Fr} {p p' p'' : Ow} {env : Env} {M M' M'' : Mem} {a : Act} {w w' w'' : World} {P : Program} {B : Tab}
theorem clsA_some {π : Path} {ob ob2 : Ob} {c : Prop} (h : clsA π ob = some (c, ob2)) : ∃ (e : O) (l : List (Option e.strip.den)), ob = ⟨.sl (.op e), l⟩ /\ c = (allR l = true) /\ ob2 = ⟨.sl e, clsR e.dflt l⟩ := by
 unfold clsA at h
 split at h
 ·rename_i e l
  cases h
  exact ⟨e, l, rfl, rfl, rfl⟩
 ·cases h
theorem evStore_ok (hB : TabOk P B) (h : Hp F p M w) (hL : ∀ b, ¬ p.L b) {t : TypeId} {x0 y0 : Operand} (x y : V) (hx : RelS p.β M (Imm F p M w) w x (a.eval x0)) (hy : RelS p.β M (Imm F p M w) w y (a.eval y0)) (hv : allP (evStore B t x y M).vc) {op : Oper} (hop : op.op = .store t x0 y0) :
  ∃ w', (execOp a.eval op).run P w = .ok .skip w' /\ Done F p M w false (evStore B t x y M) undef w' := by
 unfold evStore at hv ⊢
 split at hv
 ·rename_i k π
  split at hv
  ·rename_i ob q hob hq
   cases hk : allT [(B.τ t).ok, sizeIs M y.cells (B.τ t).size, beqN q.o.strip.size (B.τ t).size, neg (isZ (B.τ t).size)] with
   | false => rw [hk] at hv; exact hv.1.elim
   | true =>
    simp only [hk, cond_true] at hv ⊢
    simp only [allT_cons, allT_nil, Bool.and_true, Bool.and_eq_true, beqN_eq, beq_iff_eq] at hk
    obtain ⟨k1, k2, k3, k4⟩ := hk
    split at hv
    ·rename_i z e M' hcv
     split at hv
     ·rename_i obx ob' hgx hset
      cases hz : beqN z.o.strip.size (B.τ t).size with
      | false => rw [hz] at hv; exact hv.1.elim
      | true =>
       simp only [hz, cond_true] at hv ⊢
       simp only [beqN_eq, beq_iff_eq] at hz
       have hcy := cells_ok h hy (size_cellV (sizeIs_some k2))
       have hny := size_ok h _ _ _ hcy (sizeIs_some k2)
       have hcvo : (go M' k = none ∨ go M' k = go M k) /\ ∃ p1 S, Cv F p M w k z e (a.eval y0).cells.toList p1 M' S := by
        cases hix : hasIx π with
        | true =>
         rw [hix] at hcv
         simp only [cond_true] at hcv
         split at hcv
         ·rename_i z' e' M1 hcw
          cases hcv
          exact convW_ok h k q.o _ _ z' e hcy hcw
         ·cases hcv
        | false =>
         rw [hix] at hcv
         simp only [cond_false] at hcv
         obtain ⟨g, r⟩ := conv_ok k (B.σ t) _ M p _ z e M' h hcy hcv
         exact ⟨.inr g, r⟩
       obtain ⟨g, p1, S, cv⟩ := hcvo
       have hgk : go M' k = some ob := by
        rcases g with g | g
        ·rw [g] at hgx; cases hgx
        ·rw [g, hob]
       have hp1 := cv.tr.hp
       simp only [RelS, RelC, List.cons.injEq, and_true, exists_eq_left'] at hx
       have hx1 : Adr p1.β M' w k π (a.eval x0) := hx.same h (by rw [hgk, hob]) (by rw [cv.β]) (fun _ _ _ => rfl)
       obtain ⟨ob2, us0, b, off, j1, j2, j3, j4, j5, j6⟩ := hx1
       rw [hgk] at j1; cases j1
       obtain ⟨ob3, q1, q2⟩ := getM_some hq
       rw [hob] at q1; cases q1
       obtain ⟨us, pl, S', e1, e2, e3, e4, e5, e6⟩ := look hp1 hgk j2 q2
       rw [e1] at j5
       simp only [Option.some.injEq, Prod.mk.injEq] at j5
       obtain ⟨rfl, rfl⟩ := j5
       obtain ⟨b0, off0, cur, ty', c1, c2, c3, c4, c5⟩ := e4 j4
       simp only [Option.some.injEq, Prod.mk.injEq] at c1
       obtain ⟨rfl, rfl⟩ := c1
       have hlen : us.length = (a.eval y0).cells.toList.length := by rw [Rel.len _ _ _ _ e3, hny]; exact k3
       have hpos : 0 < us.length := by
        rw [hlen, hny]
        cases hs : (B.τ t).size with
        | zero => rw [hs] at k4; simp [isZ] at k4
        | succ n => omega
       have hfit : off + us.length <= cur.size := by
        have := c5 (us.length - 1) us[us.length - 1] (List.getElem?_eq_getElem (by omega))
        have := (Array.getElem?_eq_some_iff.1 this).1
        omega
       have hone := RelC.one h _ _ hcy
       have hrun := run_storeCells_at P b off ty' (a.eval y0).cells.toList 0 cur w c4 (by rw [← hlen]; omega) hone
       simp only [Nat.add_zero] at hrun
       generalize hw' : w.setRow b (cur.toList.take off ++ (a.eval y0).cells.toList ++ cur.toList.drop (off + (a.eval y0).cells.toList.length)).toArray = w' at hrun
       have hchg : Chg w w' (fun c => heapy π = true /\ ∃ o, some (b, off) = some (c, o)) := by
        subst hw'
        refine ⟨rfl, ⟨rfl, Nat.le_refl _⟩, rfl, by simp, fun c hc => setRow_other w b c _ (fun e => hc ⟨j4, off, by rw [e]⟩)⟩
       have hblk : w'.heap[b]? = some (.cells (splice cur.toList off (a.eval y0).cells.toList).toArray ty' (0, 0)) := by
        subst hw'
        rw [setRow_heap w b cur _ ty' _ c4]
        simp only [splice]
       have hput := Tr.put (L' := fun _ => False) (us' := (a.eval y0).cells.toList) (S'' := S) hp1 hgk e2 e4 e6 hset (by simp only [O.size]; rw [hz, k3]) (heapy_out _ _ _ _ j4) hchg
        (fun _ b' off' hp cur' ty'' hc' => by
         simp only [Option.some.injEq, Prod.mk.injEq] at hp
         obtain ⟨rfl, rfl⟩ := hp
         rw [c4] at hc'
         cases hc'
         exact hblk) (fun c hc => (cv.L c).2 (.inr hc)) (fun c hc => hc.elim) (fun hc => hc.choose_spec.1.elim)
        (fun hkp => Rel.keep hkp _ _ _ _ (fun c hc => hchg.old c (fun ⟨_, o, e⟩ => by
         simp only [Option.some.injEq, Prod.mk.injEq] at e
         obtain ⟨rfl, _⟩ := e
         exact (hp1.lim b ((cv.L b).2 (.inr hc))).2.2 k (go_live hgk) c2)) cv.rel)
       have hgoal : (execOp a.eval op).run P w = .ok .skip w' := by
        have eτ := hB.τ t k1
        rw [← eτ] at k1 hny
        obtain ⟨inf, ud, hi, hu⟩ := ty_some k1
        rw [ty_of hi hu] at hny
        simp only [tyOf] at hny
        have hsz : (a.eval y0).cells.size = inf.size := by simpa using hny
        simp [execOp, hop, Instr.storeAt, Instr.sureAddr, j6, storeVar, sizeOf, typeInfo, hi, hsz, hrun]
       cases hcl : clsA π ob' with
       | none => exact ⟨w', hgoal, _, cv.tr.trans hput, fun b hb => hb, by simp only [RelS], fun _ hq => by cases hq⟩
       | some co =>
        obtain ⟨c, ob2⟩ := co
        simp only [hcl, allP_cons, allP_nil, and_true] at hv ⊢
        obtain ⟨e5, l5, rfl, rfl, rfl⟩ := clsA_some hcl
        have hlab := Tr.relab (ob' := ⟨.sl e5, clsR e5.dflt l5⟩) hput.hp (go_put_self _ M' (go_live hgk)) (fun ρ => by cases ρ with | nil => rfl | cons s _ => cases s <;> rfl) (fun Im r => cls_rel e5.dflt hv r)
        rw [put_put] at hlab
        exact ⟨w', hgoal, _, cv.tr.trans (hput.trans hlab), fun b hb => hb, by simp only [RelS], fun _ hq => by cases hq⟩
     ·exact hv.1.elim
    ·exact hv.1.elim
  ·exact hv.1.elim
 ·exact hv.1.elim
end
end Go.Bm
/- The typed machine: appending. -/
namespace Go.Bm
open Go.RowKit
def Sr (w : World) (sz : Nat) (u : Value) (m : Nat) (news : List Value) : Prop :=
 news.length = m * sz /\ ((u = .slice none 0 0 /\ m = 0) ∨ ∃ a c, u = .slice (some a) m c /\ ∀ (j : Nat) (x : Value), news[j]? = some x -> w.cell? (a.add j) = some x)
theorem own_cell {w : World} {g off n sz : Nat} {cur : Array Value} {ety : TypeId} {xs : List Value} (hg : w.heap[g]? = some (.cells cur ety (0, 0))) (ht : (cur.toList.drop off).take (n * sz) = xs) :
  ∀ (j : Nat) (u : Value), xs[j]? = some u -> w.cell? ((⟨g, off, none⟩ : Addr).add j) = some u := fun j u hu => by
 rw [Addr.add_lit, cell_of_row w g _ cur ety (0, 0) hg]
 rw [← ht, List.getElem?_take] at hu
 split at hu
 ·rw [List.getElem?_drop] at hu; simpa using hu
 ·cases hu
theorem run_append_gen {P : Program} (w : World) (t ty e ety : TypeId) (i : TypeInfo) (z : Value) (ht : P.underlying t = some (.slice e)) (hi : P.info? e = some i) (hz : i.zero = some z) (hzs : z.cells.size = i.size)
  (v u : Value) (n m : Nat) (xs news : List Value) (hown : OwnRow w ety i.size v n xs) (hsr : Sr w i.size u m news) (h1 : ∀ x ∈ news, x.oneCell' = true) (hb0 : i.bytes ≠ 0) (hbytes : (n + m) * i.bytes <= nb) :
  ∃ v' w' ety', (Builtin.append_ #[t, t] ty #[v, u]).run P w = .ok v' w' /\ OwnRow w' ety' i.size v' (n + m) (xs ++ news) /\ (w.grownBy w' (root v) /\ w.drawn <= w'.drawn) /\
   (∀ b, root v' = some b -> (root v = some b ∨ w.heap.size <= b) /\ b < w'.heap.size) := by
 have h63 : n + m <= maxLen := by
  refine nb_max (Nat.le_trans ?_ hbytes)
  exact Nat.le_mul_of_pos_right _ (Nat.pos_of_ne_zero hb0)
 have hsmall : n + m <= 9223372036854775807 := by simp only [maxLen] at h63; omega
 obtain ⟨hl, hsr⟩ := hsr
 have hlen : (xs ++ news).length = (n + m) * i.size := by rw [List.length_append, hown.1, hl, Nat.add_mul]
 rcases hsr with ⟨rfl, rfl⟩ | ⟨a, c, rfl, hnews⟩
 ·have hn : news = [] := List.eq_nil_of_length_eq_zero (by simpa using hl)
  subst hn
  refine ⟨v, w, ety, ?_, by simpa using hown, ⟨⟨rfl, rfl, rfl, Nat.le_refl _, fun _ _ _ => rfl⟩, Nat.le_refl _⟩, fun b hb => ⟨.inl hb, ?_⟩⟩
  ·rcases hown.2 with ⟨rfl, oa, rfl⟩ | ⟨g, off, cap, cur, rfl, _, hnc, _⟩
   ·cases oa <;> simp [Builtin.append_, run_underlying ht, sizeOf, typeInfo, hi, Builtin.lenOf, Builtin.firstCells, storeCells]
   ·simp [Builtin.append_, run_underlying ht, sizeOf, typeInfo, hi, Builtin.lenOf, Builtin.firstCells, hnc, storeCells]
  ·rcases hown.2 with ⟨rfl, oa, rfl⟩ | ⟨g, off, cap, cur, rfl, hg, _⟩
   ·cases oa <;> cases hb
   ·simp only [root, Option.some.injEq] at hb; subst hb; exact (Array.getElem?_eq_some_iff.1 hg).1
 have grown : ∀ (old : Nat) (row : Option Nat),
   (w.drew.alloc (.cells (xs.toArray ++ news.toArray ++ Builtin.zeroCells z.cells (grownCap w (n + m) old e - (n + m))) e)).ownsRow 0 e i.size
    (.slice (some ⟨w.heap.size, 0, none⟩) (n + m) (grownCap w (n + m) old e)) (n + m) (xs ++ news) /\
   w.grownBy (w.drew.alloc (.cells (xs.toArray ++ news.toArray ++ Builtin.zeroCells z.cells (grownCap w (n + m) old e - (n + m))) e)) row := by
  intro old row
  have hge := grownCap_ge w (n + m) old e
  have hcm : grownCap w (n + m) old e <= maxLen := grownCap_le_maxLen w (n + m) old e h63
  refine ⟨⟨hlen, .inr ⟨w.heap.size, _, _, rfl, Nat.zero_le _, heap_alloc_new w.drew _, hge, hcm, ?_, ?_⟩⟩, ⟨rfl, rfl, rfl, by simp, fun k hk _ => Below.heap_alloc w.drew _ k hk⟩⟩
  ·simp only [Array.size_append, List.size_toArray, size_zeroCells, hzs, hown.1, hl, ← Nat.add_mul]
   congr 1
   omega
  ·simp only [Array.toList_append, List.append_assoc]
   rw [← List.append_assoc, ← hlen]
   exact List.take_left
 have rt : ∀ (N K b : Nat), root (.slice (some ⟨w.heap.size, 0, none⟩) N K) = some b -> b = w.heap.size := fun N K b hb => by
  cases K with
  | zero => cases hb
  | succ k => simp only [root, Option.some.injEq] at hb; exact hb.symm
 rcases hown.2 with ⟨rfl, oa, rfl⟩ | ⟨g, off, cap, cur, rfl, hg, hnc, hcm, hcs, htake⟩
 ·have hx : xs = [] := List.eq_nil_of_length_eq_zero (by simpa using hown.1)
  subst hx
  by_cases hm : m = 0
  ·subst hm
   have hn : news = [] := List.eq_nil_of_length_eq_zero (by simpa using hl)
   subst hn
   refine ⟨.slice oa 0 0, w, ety, ?_, hown, ⟨⟨rfl, rfl, rfl, Nat.le_refl _, fun _ _ _ => rfl⟩, Nat.le_refl _⟩, fun b hb => by cases oa <;> cases hb⟩
   cases oa <;> simp [Builtin.append_, run_underlying ht, sizeOf, typeInfo, hi, Builtin.lenOf, Builtin.firstCells, loadCells, loadCellsFrom, storeCells]
  ·cases oa with
   | none =>
    have hr := run_append_nil (P := P) w t ty e i z ht hi hz a m c news hl hnews (by omega) (by omega) (by have hb := hbytes; simp only [Nat.zero_add, nb] at hb; omega)
    have hgr := grown 0 (root (.slice none 0 0))
    simp only [Nat.zero_add, List.nil_append, Array.empty_append] at hgr ⊢
    exact ⟨_, _, e, hr, own_of hgr.1, ⟨hgr.2, Nat.le_succ _⟩, fun b hb => by have := rt _ _ _ hb; subst this; exact ⟨.inr (Nat.le_refl _), by simp⟩⟩
   | some a0 =>
    have hr := run_append_grow (P := P) w t ty e i z ht hi hz a0 0 0 [] (by simp) (fun j u hu => by simp at hu) a m c news hl hnews (by omega) (by omega) (growslice_fits (by omega) (by simpa only [nb] using hbytes))
    have hgr := grown 0 (root (.slice (some a0) 0 0))
    exact ⟨_, _, e, hr, own_of hgr.1, ⟨hgr.2, Nat.le_succ _⟩, fun b hb => by have := rt _ _ _ hb; subst this; exact ⟨.inr (Nat.le_refl _), by simp⟩⟩
 ·by_cases hroom : n + m <= cap + 1
  ·have hfit : off + n * i.size + news.length <= cur.size := by rw [hl, hcs, Nat.add_assoc, ← Nat.add_mul]; exact Nat.add_le_add_left (Nat.mul_le_mul_right _ hroom) _
   have hr : (Builtin.append_ #[t, t] ty #[.slice (some ⟨g, off, none⟩) n (cap + 1), .slice (some a) m c]).run P w =
     .ok (.slice (some ⟨g, off, none⟩) (n + m) (cap + 1)) (w.setRow g (cur.toList.take (off + n * i.size) ++ news ++ cur.toList.drop (off + n * i.size + news.length)).toArray) := by
    have hf := run_firstCells_some (P := P) w i.size m a m c news hl hnews
    have hst := run_storeCells_at P g (off + n * i.size) ety news 0 cur w hg (by simpa using hfit) h1
    simp only [Nat.add_zero] at hst
    simp [Builtin.append_, run_underlying ht, sizeOf, typeInfo, hi, Builtin.lenOf, hroom, hf, Addr.add_lit, hst]
   have hgrow : w.grownBy (w.setRow g (cur.toList.take (off + n * i.size) ++ news ++ cur.toList.drop (off + n * i.size + news.length)).toArray) (root (.slice (some ⟨g, off, none⟩) n (cap + 1))) :=
    ⟨rfl, rfl, rfl, by simp, fun k _ hk => setRow_other w g k _ (fun e => hk (by simp [root, e]))⟩
   refine ⟨_, _, ety, hr, ⟨hlen, .inr ⟨g, off, cap, _, rfl, setRow_heap w g cur _ ety _ hg, hroom, hcm, ?_, ?_⟩⟩, ⟨hgrow, Nat.le_refl _⟩, fun b hb => ?_⟩
   ·simp only [List.size_toArray, List.length_append, List.length_take, List.length_drop, Array.length_toList]
    omega
   ·have hd : (cur.toList.take (off + n * i.size) ++ news ++ cur.toList.drop (off + n * i.size + news.length)).drop off = xs ++ news ++ cur.toList.drop (off + n * i.size + news.length) := by
     have hcl : cur.toList.length = cur.size := Array.length_toList
     rw [List.append_assoc, List.drop_append_of_le_length (by simp; omega), List.drop_take, show off + n * i.size - off = n * i.size by omega, htake, List.append_assoc]
    show ((cur.toList.take (off + n * i.size) ++ news ++ cur.toList.drop (off + n * i.size + news.length)).drop off).take _ = _
    rw [hd, ← hlen]
    exact List.take_left
   ·simp only [root, Option.some.injEq] at hb; subst hb; exact ⟨.inl rfl, by simpa using (Array.getElem?_eq_some_iff.1 hg).1⟩
  ·have holds := own_cell hg htake
   have hr := run_append_grow (P := P) w t ty e i z ht hi hz ⟨g, off, none⟩ n (cap + 1) xs hown.1 holds a m c news hl hnews (by omega) (by omega) (growslice_fits (by omega) (by simpa only [nb] using hbytes))
   have hgr := grown (cap + 1) (root (.slice (some ⟨g, off, none⟩) n (cap + 1)))
   exact ⟨_, _, e, hr, own_of hgr.1, ⟨hgr.2, Nat.le_succ _⟩, fun b hb => by have := rt _ _ _ hb; subst this; exact ⟨.inr (Nat.le_refl _), by simp⟩⟩
theorem run_append_0 {P : Program} (w : World) (t ty e : TypeId) (i : TypeInfo) (ht : P.underlying t = some (.slice e)) (hi : P.info? e = some i) (ety : TypeId) (v : Value) (n : Nat) (xs : List Value) (hown : OwnRow w ety i.size v n xs) (ob : Option Addr) :
  (Builtin.append_ #[t, t] ty #[v, .slice ob 0 0]).run P w = .ok v w := by
 rcases hown.2 with ⟨rfl, oa, rfl⟩ | ⟨g, off, cap, cur, rfl, hg, hnc, _⟩
 ·cases oa <;> cases ob <;> simp [Builtin.append_, run_underlying ht, sizeOf, typeInfo, hi, Builtin.lenOf, Builtin.firstCells, loadCells, loadCellsFrom, storeCells]
 ·cases ob <;> simp [Builtin.append_, run_underlying ht, sizeOf, typeInfo, hi, Builtin.lenOf, Builtin.firstCells, hnc, loadCells, loadCellsFrom, storeCells]
theorem cellsOf_get {w : World} {b o n j : Nat} {u : Value} (h : (cellsOf w b o n)[j]? = some u) : j < n /\ u = (w.cell? ⟨b, o + j, none⟩).getD undef := by
 unfold cellsOf at h
 rw [List.getElem?_map] at h
 by_cases hj : j < n
 ·rw [List.getElem?_range hj] at h; exact ⟨hj, by simpa using h.symm⟩
 ·rw [List.getElem?_eq_none (by simpa using hj)] at h; cases h
theorem cellsOf_row (w : World) (b o sz n i : Nat) (hi : i < n) : ((cellsOf w b o (n * sz)).drop (i * sz)).take sz = cellsOf w b (o + i * sz) sz := by
 have hle : i * sz + sz <= n * sz := by have := Nat.mul_le_mul_right sz (show i + 1 <= n from hi); rw [Nat.add_mul] at this; omega
 unfold cellsOf
 apply List.ext_getElem?
 intro j
 rw [List.getElem?_take, List.getElem?_drop, List.getElem?_map, List.getElem?_map]
 by_cases hj : j < sz
 ·rw [if_pos hj, List.getElem?_range (by omega), List.getElem?_range hj]
  simp only [Option.map_some]
  congr 4
  omega
 ·rw [if_neg hj, List.getElem?_eq_none (by simpa using hj)]; rfl
section
variable {F : Fr} {p p' p'' : Ow} {env : Env} {M M' M'' : Mem} {a : Act} {w w' w'' : World} {P : Program} {B : Tab}
theorem src_dat {Im : Nat -> Prop} {t : T} {l : List t.den} {u : Value} (h : RelF Im w (.sl t) l [u]) : ∃ news, Sr w t.size u l.length news /\ ∀ (i : Nat) (x : t.den), l[i]? = some x -> RelF Im w t x ((news.drop (i * t.size)).take t.size) := by
 simp only [RelF, List.cons.injEq, and_true] at h
 obtain ⟨oa, cap, rfl, h1, h2, h3⟩ := h
 cases oa with
 | none =>
  obtain ⟨h4, rfl⟩ := h2 rfl
  exact ⟨[], ⟨by simp [h4], .inl ⟨by rw [h4], h4⟩⟩, fun i x hx => by have := (List.getElem?_eq_some_iff.1 hx).1; omega⟩
 | some ad =>
  by_cases hz : l.length = 0
  ·exact ⟨[], ⟨by simp [hz], .inr ⟨ad, cap, rfl, fun j x hj => by simp at hj⟩⟩, fun i x hx => by have := (List.getElem?_eq_some_iff.1 hx).1; omega⟩
  ·obtain ⟨k1, k2, k3⟩ := h3 ad rfl (by omega)
   obtain ⟨b, o, s⟩ := ad
   simp only at k1 k2 k3
   subst k1
   have hrow : ∀ (i : Nat) (x : t.den), l[i]? = some x -> ∃ us, CellsAt w b (o + i * t.size) us /\ us.length = t.size /\ RelF Im w t x us := fun i x hx => by
    obtain ⟨us, u1, u2⟩ := k3 i x hx
    exact ⟨us, u1, RelF.len t x us u2, u2⟩
   refine ⟨cellsOf w b o (l.length * t.size), ⟨by simp [cellsOf], .inr ⟨_, cap, rfl, fun j x hj => ?_⟩⟩, fun i x hx => ?_⟩
   ·obtain ⟨hj1, rfl⟩ := cellsOf_get hj
    have hpos : 0 < t.size := Nat.pos_of_ne_zero (fun h0 => by rw [h0] at hj1; omega)
    have hdiv : j / t.size < l.length := (Nat.div_lt_iff_lt_mul hpos).2 hj1
    obtain ⟨us, u1, u2, u3⟩ := hrow (j / t.size) _ (List.getElem?_eq_getElem hdiv)
    have hmod := Nat.mod_lt j hpos
    have hc := u1 (j % t.size) us[j % t.size] (List.getElem?_eq_getElem (by omega))
    have e : o + j / t.size * t.size + j % t.size = o + j := by have := Nat.div_add_mod' j t.size; omega
    rw [e] at hc
    rw [Addr.add_lit, hc]; rfl
   ·have hi := (List.getElem?_eq_some_iff.1 hx).1
    rw [cellsOf_row w b o t.size l.length i hi]
    obtain ⟨us, u1, u2, u3⟩ := hrow i x hx
    rw [cellsOf_eq u2 u1]; exact u3
theorem src_own {Im : Nat -> Prop} {o : O} {l : List o.strip.den} {S : Nat -> Prop} {u : Value} (h : Rel Im w (.sl o) l S [u]) : ∃ ety xs, ∃ T : Nat -> Nat -> Prop, OwnRow w ety o.size u l.length xs /\ l.length <= nb /\ (∀ c, root u = some c -> S c) /\ (∀ i c, T i c -> S c /\ root u ≠ some c) /\ (∀ i j c, i ≠ j -> T i c -> ¬ T j c) /\
  (∀ (i : Nat) (x : o.strip.den), l[i]? = some x -> Rel Im w o x (T i) ((xs.drop (i * o.size)).take o.size)) /\ Sr w o.size u l.length xs := by
 simp only [Rel, List.cons.injEq, and_true] at h
 obtain ⟨v, ety, xs, T, rfl, h2, h3, h4, h5, h6, h7⟩ := h
 refine ⟨ety, xs, T, h2, h3, h4, h5, h6, h7, h2.1, ?_⟩
 rcases h2.2 with ⟨hn, oa, rfl⟩ | ⟨g, off, cap, cur, rfl, hg, _, _, _, r⟩
 ·cases oa with
  | none => exact .inl ⟨rfl, hn⟩
  | some b =>
   have hx : xs = [] := List.eq_nil_of_length_eq_zero (by rw [h2.1, hn]; simp)
   exact .inr ⟨b, 0, by rw [hn], fun j y hy => by rw [hx] at hy; simp at hy⟩
 ·exact .inr ⟨_, cap + 1, rfl, own_cell hg r⟩
theorem rows_left {xs ys : List Value} {n sz i : Nat} (hx : xs.length = n * sz) (hi : i < n) : ((xs ++ ys).drop (i * sz)).take sz = (xs.drop (i * sz)).take sz := by
 have hle : i * sz + sz <= n * sz := by have := Nat.mul_le_mul_right sz (show i + 1 <= n from hi); rw [Nat.add_mul] at this; omega
 rw [List.drop_append_of_le_length (by omega), List.take_append_of_le_length (by rw [List.length_drop]; omega)]
theorem rows_right {xs ys : List Value} {n sz i : Nat} (hx : xs.length = n * sz) (hi : n <= i) : ((xs ++ ys).drop (i * sz)).take sz = (ys.drop ((i - n) * sz)).take sz := by
 have hle : n * sz <= i * sz := Nat.mul_le_mul_right sz hi
 rw [List.drop_append, List.drop_of_length_le (by omega), List.nil_append, hx, Nat.sub_mul]
theorem rows_one {Q : List Value -> Prop} {sz m : Nat} {news : List Value} (hl : news.length = m * sz) (hr : ∀ i, i < m -> ∀ u ∈ (news.drop (i * sz)).take sz, u.oneCell' = true) : ∀ u ∈ news, u.oneCell' = true := by
 intro u hu
 obtain ⟨j, hj, rfl⟩ := List.getElem_of_mem hu
 have hpos : 0 < sz := Nat.pos_of_ne_zero (fun h0 => by rw [hl, h0] at hj; omega)
 have hdiv : j / sz < m := (Nat.div_lt_iff_lt_mul hpos).2 (by rw [← hl]; exact hj)
 have hmod := Nat.mod_lt j hpos
 refine hr (j / sz) hdiv _ (List.mem_of_getElem? (i := j % sz) ?_)
 rw [List.getElem?_take, if_pos hmod, List.getElem?_drop, show j / sz * sz + j % sz = j by have := Nat.div_add_mod' j sz; omega]
 exact List.getElem?_eq_getElem hj
theorem app_own (hp : Hp F p M w) (k : Nat) (hk : go M k = none) {t ty e : TypeId} {i : TypeInfo} {z : Value} (ht : P.underlying t = some (.slice e)) (hi : P.info? e = some i) (hz : i.zero = some z) (hzs : z.cells.size = i.size) (hb0 : i.bytes ≠ 0)
  {o : O} {l m : List o.strip.den} {S1 S2 : Nat -> Prop} {v u : Value} (ho : o.size = i.size) (h1 : Rel (Imm F p M w) w (.sl o) l S1 [v]) (h2 : Rel (Imm F p M w) w (.sl o) m S2 [u]) (hS1 : ∀ b, S1 b -> p.L b) (hS2 : ∀ b, S2 b -> p.L b) (hd : ∀ b, S1 b -> ¬ S2 b) (hroom : room l.length m.length i.bytes) :
  ∃ v' w' p', (Builtin.append_ #[t, t] ty #[v, u]).run P w = .ok v' w' /\ Tr F p M w [] p' ((k, ⟨.sl o, l ++ m⟩) :: M) w' /\ (∀ b, ¬ p'.L b) /\ RelS p'.β ((k, ⟨.sl o, l ++ m⟩) :: M) (Imm F p' ((k, ⟨.sl o, l ++ m⟩) :: M) w') w' (.ref k []) v' := by
 obtain ⟨ety, xs, T1, a1, a2, a3, a4, a5, a6, _⟩ := src_own h1
 obtain ⟨ety2, ys, T2, b1, b2, b3, b4, b5, b6, b7⟩ := src_own h2
 rw [ho] at a1 b7
 unfold room at hroom
 obtain ⟨v', w', ety', r1, r2, ⟨r3, r3d⟩, r4⟩ := run_append_gen (P := P) w t ty e ety i z ht hi hz hzs v u l.length m.length xs ys a1 b7 (rows_one (Q := fun _ => True) (sz := o.size) (m := m.length) b1.1 (fun i hi => Rel.one _ _ _ _ (b6 i _ (List.getElem?_eq_getElem hi)))) hb0 hroom
 have hext : ExtL w w' p.L := ⟨r3.os, ⟨r3.tape, r3d⟩, r3.output, r3.size, fun b hb hL => r3.block b hb (fun e => hL (hS1 b (a3 b e.symm)))⟩
 have hnb : l.length + m.length <= nb := Nat.le_trans (Nat.le_mul_of_pos_right _ (Nat.pos_of_ne_zero hb0)) hroom
 have hx1 : xs.length = l.length * o.size := by rw [ho]; exact a1.1
 refine ⟨v', w', _, r1, Tr.new hp k hk v' (fun b => root v' = some b ∨ (∃ i, T1 i b) ∨ ∃ i, T2 i b) ⟨.sl o, l ++ m⟩ hext (fun b hb => ?_) (fun hkp => ?_), fun b hb => hb, ?_⟩
 ·rcases hb with hb | ⟨i, hb⟩ | ⟨i, hb⟩
  ·rcases (r4 b hb).1 with h | h
   ·exact .inr (hS1 b (a3 b h))
   ·exact .inl ⟨h, (r4 b hb).2⟩
  ·exact .inr (hS1 b (a4 i b hb).1)
  ·exact .inr (hS2 b (b4 i b hb).1)
 ·have hne1 : ∀ i b, T1 i b -> root v ≠ some b := fun i b hb => (a4 i b hb).2
  have hne2 : ∀ i b, T2 i b -> root v ≠ some b := fun i b hb e => hd b (a3 b e) (b4 i b hb).1
  have hlt : ∀ b, p.L b -> b < w.heap.size := fun b hb => (hp.lim b hb).1
  have hnr : ∀ b, p.L b -> root v ≠ some b -> root v' ≠ some b := fun b hb hne e => by
   rcases (r4 b e).1 with h | h
   ·exact hne h
   ·have := hlt b hb; omega
  simp only [Rel]
  refine ⟨v', ety', xs ++ ys, fun i c => (i < l.length /\ T1 i c) ∨ (l.length <= i /\ T2 (i - l.length) c), rfl, by rw [List.length_append, ho]; exact r2, by rw [List.length_append]; exact hnb, fun c hc => .inl hc, fun i c hc => ?_, fun i j c hij hc => ?_, fun i x hx => ?_⟩
  ·rcases hc with ⟨_, hc⟩ | ⟨_, hc⟩
   ·exact ⟨.inr (.inl ⟨i, hc⟩), hnr c (hS1 c (a4 i c hc).1) (hne1 i c hc)⟩
   ·exact ⟨.inr (.inr ⟨_, hc⟩), hnr c (hS2 c (b4 _ c hc).1) (hne2 _ c hc)⟩
  ·rcases hc with ⟨g1, hc⟩ | ⟨g1, hc⟩
   ·rintro (⟨g2, hc'⟩ | ⟨g2, hc'⟩)
    ·exact a5 i j c hij hc hc'
    ·exact hd c (a4 i c hc).1 (b4 _ c hc').1
   ·rintro (⟨g2, hc'⟩ | ⟨g2, hc'⟩)
    ·exact hd c (a4 j c hc').1 (b4 _ c hc).1
    ·exact b5 _ _ c (by omega) hc hc'
  ·by_cases hil : i < l.length
   ·rw [List.getElem?_append_left hil] at hx
    rw [rows_left hx1 hil]
    refine Rel.wide _ _ (T1 i) _ _ (fun b hb => .inl ⟨hil, hb⟩) (Rel.keep hkp _ _ _ _ (fun b hb => r3.block b (hlt b (hS1 b (a4 i b hb).1)) (fun e => hne1 i b hb e.symm)) (a6 i x hx))
   ·rw [List.getElem?_append_right (by omega)] at hx
    rw [rows_right hx1 (by omega)]
    refine Rel.wide _ _ (T2 (i - l.length)) _ _ (fun b hb => .inr ⟨by omega, hb⟩) (Rel.keep hkp _ _ _ _ (fun b hb => r3.block b (hlt b (hS2 b (b4 _ b hb).1)) (fun e => hne2 _ b hb e.symm)) (b6 _ x hx))
 ·simp only [RelS, RelC]
  refine ⟨⟨.sl o, l ++ m⟩, none, go_new_self _ _ _, by simp only [gok], ⟨⟨.sl o, l ++ m⟩, by simp only [get]⟩, ?_⟩
  rw [upd_same]
  simp only [res]
theorem app_dat (hp : Hp F p M w) (k : Nat) (hk : go M k = none) {t ty e : TypeId} {i : TypeInfo} {z : Value} (ht : P.underlying t = some (.slice e)) (hi : P.info? e = some i) (hz : i.zero = some z) (hzs : z.cells.size = i.size) (hb0 : i.bytes ≠ 0)
  {o : O} {l m : List o.strip.den} {S1 : Nat -> Prop} {v u : Value} (ho : o.size = i.size) (h1 : Rel (Imm F p M w) w (.sl o) l S1 [v]) (h2 : RelF (Imm F p M w) w (.sl o.strip) m [u]) (hS1 : ∀ b, S1 b -> p.L b) (hroom : room l.length m.length i.bytes) :
  ∃ v' w' p', (Builtin.append_ #[t, t] ty #[v, u]).run P w = .ok v' w' /\ Tr F p M w [] p' ((k, ⟨.sl (.fz o.strip), l ++ m⟩) :: M) w' /\ (∀ b, ¬ p'.L b) /\ RelS p'.β ((k, ⟨.sl (.fz o.strip), l ++ m⟩) :: M) (Imm F p' ((k, ⟨.sl (.fz o.strip), l ++ m⟩) :: M) w') w' (.ref k []) v' := by
 obtain ⟨ety, xs, T1, a1, a2, a3, a4, a5, a6, _⟩ := src_own h1
 obtain ⟨ys, b7, b6⟩ := src_dat h2
 have ho' : o.strip.size = i.size := ho
 rw [ho] at a1
 rw [ho'] at b7
 unfold room at hroom
 obtain ⟨v', w', ety', r1, r2, ⟨r3, r3d⟩, r4⟩ := run_append_gen (P := P) w t ty e ety i z ht hi hz hzs v u l.length m.length xs ys a1 b7 (rows_one (Q := fun _ => True) (sz := o.strip.size) (m := m.length) (by rw [ho']; exact b7.1) (fun i hi => RelF.one _ _ _ (b6 i _ (List.getElem?_eq_getElem hi)))) hb0 hroom
 have hext : ExtL w w' p.L := ⟨r3.os, ⟨r3.tape, r3d⟩, r3.output, r3.size, fun b hb hL => r3.block b hb (fun e => hL (hS1 b (a3 b e.symm)))⟩
 have hnb : l.length + m.length <= nb := Nat.le_trans (Nat.le_mul_of_pos_right _ (Nat.pos_of_ne_zero hb0)) hroom
 have hx1 : xs.length = l.length * o.size := by rw [ho]; exact a1.1
 refine ⟨v', w', _, r1, Tr.new hp k hk v' (fun b => root v' = some b) ⟨.sl (.fz o.strip), l ++ m⟩ hext (fun b hb => ?_) (fun hkp => ?_), fun b hb => hb, ?_⟩
 ·rcases (r4 b hb).1 with h | h
  ·exact .inr (hS1 b (a3 b h))
  ·exact .inl ⟨h, (r4 b hb).2⟩
 ·have hlt : ∀ b, p.L b -> b < w.heap.size := fun b hb => (hp.lim b hb).1
  have hnr : ∀ b, p.L b -> root v ≠ some b -> root v' ≠ some b := fun b hb hne e => by
   rcases (r4 b e).1 with h | h
   ·exact hne h
   ·have := hlt b hb; omega
  have hT : ∀ i b, T1 i b -> Imm F (p.upd k v' fun b => root v' = some b) ((k, ⟨.sl (.fz o.strip), l ++ m⟩) :: M) w' b := fun i b hb => by
   have hLb := hS1 b (a4 i b hb).1
   refine ⟨by have := hlt b hLb; have := r3.size; omega, .inr (.inr (hp.lim b hLb).2.1), fun h => h, fun j hj => ?_⟩
   by_cases e : j = k
   ·subst e
    rw [show (p.upd j v' fun b => root v' = some b).σ j = fun b => root v' = some b by simp [Ow.upd, Ow.updL]]
    exact hnr b hLb (a4 i b hb).2
   ·rw [show (p.upd k v' fun b => root v' = some b).σ j = p.σ j by simp [Ow.upd, Ow.updL, e]]
    refine (hp.lim b hLb).2.2 j ?_
    unfold Live at hj ⊢
    rwa [go_cons, if_neg (Ne.symm e)] at hj
  simp only [Rel]
  have hsz : (O.fz o.strip).size = o.size := rfl
  refine ⟨v', ety', xs ++ ys, fun _ _ => False, rfl, by rw [List.length_append, hsz, ho]; exact r2, by rw [List.length_append]; exact hnb, fun c hc => hc, fun i c hc => hc.elim, fun i j c _ hc => hc.elim, fun i x hx => ?_⟩
  rw [hsz]
  by_cases hil : i < l.length
  ·rw [List.getElem?_append_left hil] at hx
   rw [rows_left hx1 hil]
   have h3 := Rel.keep hkp _ _ _ _ (fun b hb => r3.block b (hlt b (hS1 b (a4 i b hb).1)) (fun e => (a4 i b hb).2 e.symm)) (a6 i x hx)
   exact Rel.frz (fun _ h => h) _ _ _ _ (hT i) h3
  ·rw [List.getElem?_append_right (by omega)] at hx
   rw [rows_right hx1 (by omega)]
   exact RelF.keep hkp _ _ _ (b6 _ x hx)
 ·simp only [RelS, RelC]
  refine ⟨⟨.sl (.fz o.strip), l ++ m⟩, none, go_new_self _ _ _, by simp only [gok], ⟨⟨.sl (.fz o.strip), l ++ m⟩, by simp only [get]⟩, ?_⟩
  rw [upd_same]
  simp only [res]
end
end Go.Bm
/- The typed machine: appending, every case. -/
namespace Go.Bm
open Go.RowKit
section
variable {F : Fr} {p p' p'' : Ow} {env : Env} {M M' M'' : Mem} {a : Act} {w w' w'' : World} {P : Program} {B : Tab}
def SrcOk (F : Fr) (p : Ow) (M : Mem) (w : World) (u : Value) : Src -> Prop
 | .nil => ∃ oa, u = .slice oa 0 0
 | .own j e l => go M j = some ⟨.sl e, l⟩ /\ u = p.β j
 | .dat ev M1 t l => Tr F p M w ev p M1 w /\ RelF (Imm F p M1 w) w (.sl t) l [u] /\ Thin M M1
theorem src_ok (h : Hp F p M w) (x : V) (u : Value) (hx : RelS p.β M (Imm F p M w) w x u) (s : Src) (hs : srcOf M x = some s) : SrcOk F p M w u s := by
 unfold srcOf at hs
 split at hs
 ·cases hs
  simp only [RelS, RelC, List.cons.injEq, and_true] at hx
  exact hx
 ·cases hs
  exact ⟨Tr.refl h, relS_d.1 hx, Thin.refl M⟩
 ·rename_i j π
  simp only [RelS, RelC] at hx
  split at hs
  ·rename_i e l hj
   cases hs
   obtain ⟨ob, pl, k1, k2, k3, k4⟩ := hx
   simp only [res, Option.some.injEq, Prod.mk.injEq, List.cons.injEq, and_true] at k4
   exact ⟨hj, k4.1.symm⟩
  ·rename_i ob hj _
   split at hs
   ·rename_i e l hq
    cases hs
    exact ⟨Tr.frz h j ob hj, frz_part h hj hq hx, thin_del j M⟩
   ·rename_i t l hq
    cases hs
    exact ⟨Tr.frz h j ob hj, frz_part h hj hq hx, thin_del j M⟩
   ·cases hs
  ·cases hs
 ·cases hs
structure ApT (P : Program) (t e : TypeId) (i : TypeInfo) (z : Value) : Prop where
 ht : P.underlying t = some (.slice e)
 hi : P.info? e = some i
 hz : i.zero = some z
 hzs : z.cells.size = i.size
 hb : i.bytes ≠ 0
theorem Done.app {r : Rs} {v : Value} {w' : World} {p' : Ow} (ht : Tr F p M w r.ev p' r.M w') (hL : ∀ b, ¬ p'.L b) (hv : RelS p'.β r.M (Imm F p' r.M w') w' r.av v) : Done F p M w false r v w' :=
 ⟨p', ht, hL, hv, fun _ h => by cases h⟩
theorem Done.appQ {r : Rs} {v : Value} {w' : World} {p' : Ow} {qt : Bool} (ht : Tr F p M w r.ev p' r.M w') (hL : ∀ b, ¬ p'.L b) (hv : RelS p'.β r.M (Imm F p' r.M w') w' r.av v) (hf : fresh M r.ev = false) : Done F p M w qt r v w' :=
 ⟨p', ht, hL, hv, fun h => by rw [hf] at h; cases h⟩
variable {t e ty' : TypeId} {i : TypeInfo} {z : Value}
structure Tk (F : Fr) (p : Ow) (M : Mem) (w : World) (q : Ob) (e : List Ev) (vs : List Value) (p' : Ow) (M' : Mem) (S : Nat -> Prop) : Prop where
 L : ∀ b, S b -> p'.L b
 tr : Tr F p M w e p' M' w
 rel : Rel (Imm F p' M' w) w q.o q.x S vs
theorem Cv.tk {k : Nat} {q : Ob} {e : List Ev} {vs : List Value} {S : Nat -> Prop} (h : Cv F p M w k q e vs p' M' S) : Tk F p M w q e vs p' M' S := ⟨fun b hb => (h.L b).2 (.inr hb), h.tr, h.rel⟩
theorem appOwn_ok (A : ApT P t e i z) {p1 : Ow} {M1 M0 : Mem} {o : O} {l : List o.strip.den} {S1 : Nat -> Prop} {v u : Value} {ev : List Ev} (ho : o.size = i.size) (cv : Tk F p M w ⟨.sl o, l⟩ ev [v] p1 M1 S1) (hL : ∀ b, ¬ p.L b)
  (d j : Nat) {e' : O} {m : List e'.strip.den} (hj : go M1 j = some ⟨.sl e', m⟩) (hu : u = p1.β j) (hjg : j < gid) (hv : allP (appOwn i.bytes d o l j e' m ev M1 M0).vc) :
  ∃ v' w', (Builtin.append_ #[t, t] ty' #[v, u]).run P w = .ok v' w' /\ Done F p M w false (appOwn i.bytes d o l j e' m ev M1 M0) v' w' := by
 have hp1 := cv.tr.hp
 unfold appOwn at hv ⊢
 split at hv
 ·rename_i m' he hm
  simp only [allP_cons, allP_nil, and_true] at hv
  have := O.beq_eq he
  subst this
  have hq := castO_some hm
  simp only [Ob.mk.injEq, heq_eq_eq, true_and] at hq
  subst hq
  have c2 := Cv.whole hp1 j hj hjg
  have c2r := c2.rel
  have hL2 : ∀ b, S1 b -> (⟨p1.β, p1.σ, fun b => p1.L b ∨ p1.σ j b⟩ : Ow).L b := fun b hb => .inl (cv.L b hb)
  have hlim := hp1.lim
  have r1 := Rel.keep c2.tr.keep _ _ _ _ (fun _ _ => rfl) cv.rel
  obtain ⟨hk1, hk2⟩ := Hp.del c2.tr.hp d
  have r1' := Rel.keep hk2 _ _ _ _ (fun _ _ => rfl) r1
  have c2r' := Rel.keep hk2 _ _ _ _ (fun _ _ => rfl) c2r
  rw [← hu] at c2r'
  obtain ⟨v', w', p', g1, g2, g3, g4⟩ := app_own (P := P) (ty := ty') hk1 d (go_del_self d _) A.ht A.hi A.hz A.hzs A.hb ho r1' c2r' hL2 (fun b hb => .inr hb) (fun b hb hb' => (hlim b (cv.L b hb)).2.2 j (go_live hj) hb') hv
  refine ⟨v', w', g1, Done.app (r := ⟨_, .ref d [], ap ev [.kl j, .kl d], _⟩) ?_ g3 g4⟩
  have := cv.tr.trans (c2.tr.trans ((Tr.kl c2.tr.hp d).trans g2))
  simpa only [ap] using this
 ·split at hv
  ·rename_i m1 hm1
   simp only [allP_cons, allP_nil, and_true] at hv
   have hf := Tr.frz hp1 j _ hj
   have hrj := hp1.objs j _ hj
   have hrf : RelF (Imm F p1 (del j M1) w) w (.sl e'.strip) m [u] := by
    rw [hu]
    have := Rel.frz (fun b hb => ((hp1.del j).2 b hb).1) _ _ (p1.σ j) _ (fun b hb => imm_del hp1 (go_live hj) hb) hrj
    simpa only [O.strip] using this
   have hrf2 : RelF (Imm F p1 (del j M1) w) w (.sl o.strip) m1 [u] := castT_rel hm1 hrf
   have r1 := Rel.keep hf.keep _ _ _ _ (fun _ _ => rfl) cv.rel
   obtain ⟨hk1, hk2⟩ := Hp.del hf.hp d
   obtain ⟨v', w', p', g1, g2, g3, g4⟩ := app_dat (P := P) (ty := ty') hk1 d (go_del_self d _) A.ht A.hi A.hz A.hzs A.hb ho (Rel.keep hk2 _ _ _ _ (fun _ _ => rfl) r1) (RelF.keep hk2 _ _ _ hrf2) cv.L hv
   refine ⟨v', w', g1, Done.app (r := ⟨_, .ref d [], ap ev [.fz j ⟨.sl e', m⟩, .kl d], _⟩) ?_ g3 g4⟩
   have := cv.tr.trans (hf.trans ((Tr.kl hf.hp d).trans g2))
   simpa only [ap] using this
  ·exact hv.1.elim
theorem appDat_ok (A : ApT P t e i z) {p1 : Ow} {M1 M0 : Mem} {o : O} {l : List o.strip.den} {S1 : Nat -> Prop} {v u : Value} {ev : List Ev} (ho : o.size = i.size) (cv : Tk F p M w ⟨.sl o, l⟩ ev [v] p1 M1 S1) (hL : ∀ b, ¬ p.L b)
  (d : Nat) {t' : T} {m : List t'.den} (hm : RelF (Imm F p1 M1 w) w (.sl t') m [u]) (hv : allP (appDat i.bytes d o l t' m ev M1 M0).vc) :
  ∃ v' w', (Builtin.append_ #[t, t] ty' #[v, u]).run P w = .ok v' w' /\ Done F p M w false (appDat i.bytes d o l t' m ev M1 M0) v' w' := by
 have hp1 := cv.tr.hp
 unfold appDat at hv ⊢
 split at hv
 ·rename_i m1 hm1
  simp only [allP_cons, allP_nil, and_true] at hv
  have hrf2 : RelF (Imm F p1 M1 w) w (.sl o.strip) m1 [u] := castT_rel hm1 hm
  obtain ⟨hk1, hk2⟩ := Hp.del hp1 d
  obtain ⟨v', w', p', g1, g2, g3, g4⟩ := app_dat (P := P) (ty := ty') hk1 d (go_del_self d _) A.ht A.hi A.hz A.hzs A.hb ho (Rel.keep hk2 _ _ _ _ (fun _ _ => rfl) cv.rel) (RelF.keep hk2 _ _ _ hrf2) cv.L hv
  refine ⟨v', w', g1, Done.app (r := ⟨_, .ref d [], ap ev [.kl d], _⟩) ?_ g3 g4⟩
  have := cv.tr.trans ((Tr.kl hp1 d).trans g2)
  simpa only [ap] using this
 ·exact hv.1.elim
theorem takA_some {π : Path} {ob ob' : Ob} (h : takA π ob = some ob') : ∃ (i : Nat) (e : O) (l : List e.strip.den), π = [.ix i] /\ ob = ⟨.sl e, l⟩ /\ ob' = ⟨.sl (.op e), takR l i⟩ := by
 unfold takA at h
 split at h
 ·rename_i i e l
  cases h
  exact ⟨i, e, l, rfl, rfl, rfl⟩
 ·cases h
theorem evApp_ok (hB : TabOk P B) (h : Hp F p M w) (hL : ∀ b, ¬ p.L b) {t : TypeId} (dst : Option Nat) (s x : V) (v u : Value) (hs : RelS p.β M (Imm F p M w) w s v) (hx : RelS p.β M (Imm F p M w) w x u) (hv : allP (evApp B dst t s x M).vc) :
  ∃ v' w', (Builtin.append_ #[t, t] ty' #[v, u]).run P w = .ok v' w' /\ Done F p M w false (evApp B dst t s x M) v' w' := by
 unfold evApp at hv ⊢
 split at hv
 ·rename_i e d src he hsrc
  have hso := src_ok h x u hx src hsrc
  cases hk : allT [(B.τ t).ok, (B.τ e).ok, neg (Nat.beq (B.τ e).bytes 0), B.z e, beqN (B.σ e).size (B.τ e).size] with
  | false => rw [hk] at hv; exact hv.1.elim
  | true =>
   simp only [hk, cond_true] at hv ⊢
   simp only [allT_cons, allT_nil, Bool.and_true, Bool.and_eq_true, beqN_eq, beq_iff_eq] at hk
   obtain ⟨k1, k2, k3, k4, k5⟩ := hk
   have eτ := hB.τ t k1
   have eτ' := hB.τ e k2
   obtain ⟨infe, z, hie, hz, h0⟩ := zero_of hB k4
   rw [← eτ'] at k2 k3 k5
   simp only [← eτ'] at hv ⊢
   rw [← eτ] at k1 he
   obtain ⟨inf, ud, hi, hu⟩ := ty_some k1
   obtain ⟨infe', ue, hie', hue⟩ := ty_some k2
   rw [hie] at hie'; cases hie'
   rw [ty_of hi hu] at he
   rw [ty_of hie hue] at k3 k5
   simp only [ty_of hie hue] at hv ⊢
   simp only [tyOf] at he k3 k5 hv ⊢
   cases ud <;> simp at he
   obtain rfl := he.symm
   have hzs : z.cells.size = infe.size := by
    have h1 := Rel.len _ _ _ _ (zero_ok (Im := Imm F p M w) (w := w) (B.σ e) _ h0).1
    rw [deep_size, k5] at h1; simpa using h1
   have A : ApT P t e infe z := ⟨hu, hie, hz, hzs, by rintro h; rw [h] at k3; simp at k3⟩
   split at hv
   ·simp only [RelS, RelC, List.cons.injEq, and_true] at hs
    obtain ⟨oa, rfl⟩ := hs
    split at hv
    ·simp only [SrcOk] at hso
     obtain ⟨ob, rfl⟩ := hso
     exact ⟨.slice oa 0 0, w, by cases oa <;> cases ob <;> simp [Builtin.append_, run_underlying hu, sizeOf, typeInfo, hie, Builtin.lenOf, Builtin.firstCells, loadCells, loadCellsFrom, storeCells], Done.app (r := ⟨[], .nl, [], M⟩) (Tr.refl h) hL (by simp only [RelS, RelC]; exact ⟨oa, rfl⟩)⟩
    ·rename_i j e' m
     obtain ⟨hj, rfl⟩ := hso
     cases hkk : allT [okId j d, beqN e'.strip.size infe.size] with
     | false => rw [hkk] at hv; exact hv.1.elim
     | true =>
      simp only [hkk, cond_true, allP_cons, allP_nil, and_true] at hv ⊢
      simp only [allT_cons, allT_nil, Bool.and_true, Bool.and_eq_true, beqN_eq, beq_iff_eq] at hkk
      obtain ⟨hne, hg⟩ := okId_some (r := j) (k := d) (by rw [hkk.1]; rfl)
      have c2 := Cv.whole h d hj hg
      obtain ⟨hk1, hk2⟩ := Hp.del c2.tr.hp d
      obtain ⟨v', w', p', g1, g2, g3, g4⟩ := app_own (P := P) (ty := ty') hk1 d (go_del_self d _) A.ht A.hi A.hz A.hzs A.hb (l := ([] : List e'.strip.den)) hkk.2 (nil_rel e' oa) (Rel.keep hk2 _ _ _ _ (fun _ _ => rfl) c2.rel) (fun b hb => hb.elim) (fun b hb => .inr hb) (fun b hb => hb.elim) hv
      refine ⟨v', w', g1, Done.app (r := ⟨_, .ref d [], [.kl j, .kl d], _⟩) ?_ g3 g4⟩
      exact c2.tr.trans ((Tr.kl c2.tr.hp d).trans g2)
    ·rename_i ev M1 t' m
     obtain ⟨h1, h2, h3⟩ := hso
     cases hkk : beqN t'.size infe.size with
     | false => rw [hkk] at hv; exact hv.1.elim
     | true =>
      simp only [hkk, cond_true, allP_cons, allP_nil, and_true] at hv ⊢
      simp only [beqN_eq, beq_iff_eq] at hkk
      obtain ⟨hk1, hk2⟩ := Hp.del h1.hp d
      obtain ⟨v', w', p', g1, g2, g3, g4⟩ := app_dat (P := P) (ty := ty') hk1 d (go_del_self d _) A.ht A.hi A.hz A.hzs A.hb (o := .fz t') (l := ([] : List t'.den)) hkk (nil_rel (.fz t') oa) (RelF.keep hk2 _ _ _ h2) (fun b hb => hb.elim) hv
      refine ⟨v', w', g1, Done.app (r := ⟨_, .ref d [], ap ev [.kl d], _⟩) ?_ g3 g4⟩
      exact h1.trans ((Tr.kl h1.hp d).trans g2)
   ·rename_i k π
    simp only [RelS, RelC] at hs
    split at hv
    ·rename_i o l hob
     have hvβ : v = p.β k := by
      obtain ⟨ob, pl, q1, q2, q3, q4⟩ := hs
      simp only [res, Option.some.injEq, Prod.mk.injEq, List.cons.injEq, and_true] at q4
      exact q4.1.symm
     cases hkk : allT [beqN o.strip.size infe.size, Nat.ble (Nat.succ k) gid] with
     | false => rw [hkk] at hv; exact hv.1.elim
     | true =>
      simp only [hkk, cond_true] at hv ⊢
      simp only [allT_cons, allT_nil, Bool.and_true, Bool.and_eq_true, beqN_eq, beq_iff_eq] at hkk
      have hkg : k < gid := Nat.le_of_ble_eq_true hkk.2
      split at hv
      ·simp only [SrcOk] at hso
       obtain ⟨ob2, rfl⟩ := hso
       obtain ⟨ety, xs, T1, a1, _⟩ := src_own (h.objs k _ hob)
       rw [show o.size = infe.size from hkk.1, ← hvβ] at a1
       refine ⟨_, _, ?_, Done.app (r := ⟨[], .ref k [], [], M⟩) (Tr.refl h) hL (by simp only [RelS, RelC]; exact hs)⟩
       exact run_append_0 w t ty' e infe hu hie _ _ _ _ a1 ob2
      ·rename_i j e' m
       obtain ⟨hj, rfl⟩ := hso
       cases hok : neg (okId j k) with
       | true => rw [hok] at hv; exact hv.1.elim
       | false =>
        simp only [hok, cond_false] at hv ⊢
        obtain ⟨hne, hg⟩ := okId_some hok
        have c1 := Cv.whole h k hob hkg
        rw [← hvβ] at c1
        exact appOwn_ok A hkk.1 c1.tk hL k j (by rw [go_del_ne hne]; exact hj) rfl hg hv
      ·rename_i ev M1 t' m
       obtain ⟨h1, h2, h3⟩ := hso
       split at hv
       ·rename_i obx hgx
        have hgk : go M1 k = some ⟨.sl o, l⟩ := by
         rcases h3 k with g | g
         ·rw [g] at hgx; cases hgx
         ·rw [g, hob]
        have c1 := Cv.whole h1.hp k hgk hkg
        rw [← hvβ] at c1
        have c0 : Tk F p M w ⟨.sl o, l⟩ (ap ev [.kl k]) [v] _ (del k M1) _ := ⟨c1.tk.L, h1.trans c1.tr, c1.rel⟩
        exact appDat_ok A hkk.1 c0 hL k (RelF.keep c1.tr.keep _ _ _ h2) hv
       ·exact hv.1.elim
    ·rename_i ob hob _
     split at hv
     ·rename_i o l ob' hq hset
      cases hkk : allT [beqN o.strip.size infe.size, neg (Nat.beq d k), Nat.ble (Nat.succ k) gid] with
      | false => rw [hkk] at hv; exact hv.1.elim
      | true =>
       simp only [hkk, cond_true] at hv ⊢
       simp only [allT_cons, allT_nil, Bool.and_true, Bool.and_eq_true, beqN_eq, beq_iff_eq] at hkk
       have hkg : k < gid := Nat.le_of_ble_eq_true hkk.2.2
       have hs0 := hs
       obtain ⟨ob1, pl, q1, q2, q3, q4⟩ := hs
       rw [hob] at q1; cases q1
       split at hv
       ·simp only [SrcOk] at hso
        obtain ⟨ob2, rfl⟩ := hso
        obtain ⟨us, pl', S', e1, e2, e3, _⟩ := look h hob q2 hq
        rw [e1] at q4
        simp only [Option.some.injEq, Prod.mk.injEq] at q4
        obtain ⟨rfl, rfl⟩ := q4
        obtain ⟨ety, xs, T1, a1, _⟩ := src_own e3
        refine ⟨_, _, ?_, Done.app (r := ⟨[], .ref k _, [], M⟩) (Tr.refl h) hL (by simp only [RelS, RelC]; exact hs0)⟩
        exact run_append_0 w t ty' e infe hu hie _ _ _ _ (by rw [show o.size = infe.size from hkk.1] at a1; exact a1) ob2
       ·rename_i j e' m
        obtain ⟨hj, rfl⟩ := hso
        cases hok : allT [okId j k, okId j d] with
        | false => rw [hok] at hv; exact hv.1.elim
        | true =>
         simp only [hok, cond_true] at hv ⊢
         simp only [allT_cons, allT_nil, Bool.and_true, Bool.and_eq_true] at hok
         obtain ⟨hne, hg⟩ := okId_some (r := j) (k := k) (by rw [hok.1]; rfl)
         obtain ⟨p1, S, k1, k2, k3, k4, k5⟩ := Tr.cut h hob hkg q2 hq q4 hset
         have hc : Tk F p M w ⟨.sl o, l⟩ [.cut k ob.o ob'.o] [v] p1 (put k ob' M) S := ⟨fun b hb => (k2 b).2 (.inr hb), k4, k5⟩
         exact appOwn_ok A hkk.1 hc hL d j (by rw [go_put_ne ob' hne]; exact hj) (by rw [k1]) hg hv
       ·rename_i ev M1 t' m
        obtain ⟨h1, h2, h3⟩ := hso
        split at hv
        ·rename_i obx hgx
         have hgk : go M1 k = some ob := by
          rcases h3 k with g | g
          ·rw [g] at hgx; cases hgx
          ·rw [g, hob]
         obtain ⟨p1, S, k1, k2, k3, k4, k5⟩ := Tr.cut h1.hp hgk hkg q2 hq q4 hset
         have hc : Tk F p M w ⟨.sl o, l⟩ (ap ev [.cut k ob.o ob'.o]) [v] p1 (put k ob' M1) S := ⟨fun b hb => (k2 b).2 (.inr hb), h1.trans k4, k5⟩
         exact appDat_ok A hkk.1 hc hL d (RelF.keep k4.keep _ _ _ h2) hv
        ·exact hv.1.elim
     ·rename_i o l hq hset
      split at hv
      ·rename_i ob' htk
       obtain ⟨i0, e0, l0, rfl, rfl, rfl⟩ := takA_some htk
       simp only [get, Option.some.injEq, Ob.mk.injEq] at hq
       obtain ⟨rfl, hq⟩ := hq
       cases hq
       cases hkk : allT [beqN o.strip.size infe.size, neg (Nat.beq d k), Nat.ble (Nat.succ k) gid] with
       | false => rw [hkk] at hv; exact hv.1.elim
       | true =>
        simp only [hkk, cond_true] at hv ⊢
        simp only [allT_cons, allT_nil, Bool.and_true, Bool.and_eq_true, beqN_eq, beq_iff_eq] at hkk
        have hkg : k < gid := Nat.le_of_ble_eq_true hkk.2.2
        obtain ⟨ob1, pl, q1, q2, q3, q4⟩ := hs
        rw [hob] at q1; cases q1
        simp only [gok] at q2
        split at hv
        ·exact hv.1.elim
        ·rename_i j e' m
         obtain ⟨hj, rfl⟩ := hso
         cases hok : allT [okId j k, okId j d] with
         | false => rw [hok] at hv; exact hv.1.elim
         | true =>
          simp only [hok, cond_true] at hv ⊢
          simp only [allT_cons, allT_nil, Bool.and_true, Bool.and_eq_true] at hok
          obtain ⟨hne, hg⟩ := okId_some (r := j) (k := k) (by rw [hok.1]; rfl)
          obtain ⟨p1, S, k1, k2, k3, k4, k5⟩ := Tr.take h hob hkg q2.1 q4
          have hc : Tk F p M w ⟨.sl o, l0.getD i0 (O.sl o).dflt⟩ _ [v] p1 (put k ⟨.sl (.op (.sl o)), takR l0 i0⟩ M) S := ⟨fun b hb => (k2 b).2 (.inr hb), k4, k5⟩
          exact appOwn_ok A hkk.1 hc hL d j (by rw [go_put_ne _ hne]; exact hj) (by rw [k1]) hg hv
        ·rename_i ev M1 t' m
         obtain ⟨h1, h2, h3⟩ := hso
         split at hv
         ·rename_i obx hgx
          have hgk : go M1 k = some ⟨.sl (.sl o), l0⟩ := by
           rcases h3 k with g | g
           ·rw [g] at hgx; cases hgx
           ·rw [g, hob]
          obtain ⟨p1, S, k1, k2, k3, k4, k5⟩ := Tr.take h1.hp hgk hkg q2.1 q4
          have hc : Tk F p M w ⟨.sl o, l0.getD i0 (O.sl o).dflt⟩ _ [v] p1 (put k ⟨.sl (.op (.sl o)), takR l0 i0⟩ M1) S := ⟨fun b hb => (k2 b).2 (.inr hb), h1.trans k4, k5⟩
          exact appDat_ok A hkk.1 hc hL d (RelF.keep k4.keep _ _ _ h2) hv
         ·exact hv.1.elim
      ·exact hv.1.elim
     ·exact hv.1.elim
    ·exact hv.1.elim
   ·exact hv.1.elim
 ·exact hv.1.elim
end
end Go.Bm
