/- The typed machine that the walks of this claim go by: its data, its operations and the proof that each is sound. No condition. -/
import Derived.Test.YtdcandojebpfnaaBmThree
set_option linter.unusedVariables false
set_option linter.unusedSimpArgs false
set_option linter.unusedSectionVars false
/- The gi machine:the state is read back. -/
namespace Go.Bm
open Go.RowKit
section
variable {F:Fr} {p p' p'':Ow} {env:Env} {M M' M'':Mem} {a:Act} {w w' w'':World}
theorem Tr.mv (h:Hp F p M w) {j k:Nat} {ob:Ob} (hj:go M j=some ob) (hk:go M k=none) (hg:j < gid) :
  Tr F p M w [.mv j k] ⟨fun i=>if i=k then p.β j else p.β i,fun i=>if i=k then p.σ j else p.σ i,p.L⟩ ((k,ob)::del j M) w:=by
 generalize hp':(⟨fun i=>if i=k then p.β j else p.β i,fun i=>if i=k then p.σ j else p.σ i,p.L⟩:Ow)=p'
 have hjk:j ≠ k:=by rintro rfl;rw [hj]at hk;cases hk
 have hβk:p'.β k=p.β j:=by rw [← hp'];simp
 have hσk:p'.σ k=p.σ j:=by rw [← hp'];simp
 have hβ:∀ i,i ≠ k->p'.β i=p.β i:=fun i hi=>by rw [← hp'];simp [hi]
 have hσ:∀ i,i ≠ k->p'.σ i=p.σ i:=fun i hi=>by rw [← hp'];simp [hi]
 have hL:p'.L=p.L:=by rw [← hp']
 have hgk:go ((k,ob)::Bm.del j M) k=some ob:=m8 _ _ _
 have hgi:∀ i,i ≠ k->i ≠ j->go ((k,ob)::Bm.del j M) i=go M i:=fun i h1 h2=>by rw [fx,if_neg (Ne.symm h1),fo h2]
 have hgj:go ((k,ob)::Bm.del j M) j=none:=by rw [fx,if_neg (Ne.symm hjk),fp]
 have hlive:∀ i,er ((k,ob)::Bm.del j M) i->i=k\/(i ≠ k/\i ≠ j/\er M i):=fun i hi=>by
  by_cases e:i=k
  ·exact .inl e
  ·by_cases e':i=j
   ·subst e';unfold er at hi;rw [hgj]at hi;cases hi
   ·refine .inr ⟨e,e',?_⟩
    unfold er at hi ⊢;rwa [hgi i e e']at hi
 have hlj:=c8 hj
 have hkeep:jc (Imm F p M w) (Imm F p' ((k,ob)::Bm.del j M) w) w w:=fun b hb=>by
  refine ⟨⟨hb.1,hb.2.1,by rw [hL];exact hb.2.2.1,fun i hi=>?_⟩,rfl⟩
  rcases hlive i hi with rfl | ⟨h1,h2,h3⟩
  ·rw [hσk];exact hb.2.2.2 j hlj
  ·rw [hσ i h1];exact hb.2.2.2 i h3
 have hne:∀ i,er M i->i ≠ k:=fun i hi e=>by subst e;unfold er at hi;rw [hk]at hi;cases hi
 refine Tr.one _ hkeep (fun i π vs r=>?_) (fun i π v r=>?_) ⟨fun i o hi=>?_,fun i i' b hne' hi hi' hb=>?_,fun i b hi hb=>?_,fun b hb=>?_,h.os,h.tape,h.output,h.size,h.old⟩
 ·simp only [Ev.ref,dv]
  have hik:i ≠ k:=by obtain ⟨o,_,h1,_⟩:=r;exact hne i (c8 h1)
  split
  ·rename_i e
   subst e
   simp only [ai]
   obtain ⟨o,pl,h1,h2,h3,h4⟩:=r
   rw [hj]at h1;cases h1
   exact ⟨ob,pl,hgk,h2,h3,by rw [hβk];exact h4⟩
  ·rename_i e
   simp only [ai]
   exact r.same h (hgi i hik e) (hβ i hik) (fun _ _ _=>rfl)
 ·simp only [Ev.ad,dv]
  have hik:i ≠ k:=by obtain ⟨o,_,_,_,h1,_⟩:=r;exact hne i (c8 h1)
  split
  ·rename_i e
   subst e
   simp only [ai]
   obtain ⟨o,us,b,off,h1,h2,h3,h4,h5,h6⟩:=r
   rw [hj]at h1;cases h1
   exact ⟨v,rfl,ob,us,b,off,hgk,h2,h3,h4,by rw [hβk];exact h5,h6⟩
  ·rename_i e
   simp only [ai]
   exact ⟨v,rfl,r.same h (hgi i hik e) (hβ i hik) (fun _ _ _=>rfl)⟩
 ·rcases hlive i (c8 hi)with rfl | ⟨h1,h2,h3⟩
  ·rw [hgk]at hi;cases hi
   rw [hβk,hσk]
   exact Rel.keep hkeep _ _ _ _ (fun _ _=>rfl) (h.objs j ob hj)
  ·rw [hgi i h1 h2]at hi
   rw [hβ i h1,hσ i h1]
   exact Rel.keep hkeep _ _ _ _ (fun _ _=>rfl) (h.objs i o hi)
 ·rcases hlive i hi with e | ⟨h1,h2,h3⟩
  ·rcases hlive i' hi' with e' | ⟨h1',h2',h3'⟩
   ·exact absurd (e.trans e'.symm) hne'
   ·rw [e,hσk]at hb
    rw [hσ i' h1'];exact h.sep j i' b (Ne.symm h2') hlj h3' hb
  ·rw [hσ i h1]at hb
   rcases hlive i' hi' with e' | ⟨h1',h2',h3'⟩
   ·rw [e',hσk];exact h.sep i j b h2 h3 hlj hb
   ·rw [hσ i' h1'];exact h.sep i i' b hne' h3 h3' hb
 ·rcases hlive i hi with e | ⟨h1,h2,h3⟩
  ·rw [e,hσk]at hb
   obtain ⟨o1,o2⟩:=h.own j b hlj hb
   exact ⟨o1,o2.elim (fun h=>by have:=h.1;omega) .inr⟩
  ·rw [hσ i h1]at hb;exact h.own i b h3 hb
 ·rw [hL]at hb
  obtain ⟨l1,l2,l3⟩:=h.lim b hb
  refine ⟨l1,l2,fun i hi=>?_⟩
  rcases hlive i hi with e | ⟨h1,h2,h3⟩
  ·rw [e,hσk];exact l3 j hlj
  ·rw [hσ i h1];exact l3 i h3
theorem St.desc (h:St F p env M a w) (t:Nat) (x:V) (hx:al p.β M (Imm F p M w) w x (a.tmps.getD t undef)):St F p ((t,x)::env) M a w:=by
 refine ⟨h.defers,h.nt,h.fix,h.ik,h.lz,fun t'=>?_,h.hp⟩
 rw [im]
 by_cases e:t=t'
 ·subst e;rw [if_pos rfl];exact hx
 ·rw [if_neg e];exact h.slots t'
theorem pe (os:Obs):(ss:Shs)->(p:Ow)->(env:Env)->(M:Mem)->St F p env M a w->∃ p',St F p' (sa os ss env M).1 (sa os ss env M).2 a w
 | [],p,env,M,h=>⟨p,h⟩
 | (t,.d _)::r,p,env,M,h=>by simp only [sa];exact pe os r p env M h
 | (t,.ad _ _)::r,p,env,M,h=>by simp only [sa];exact pe os r p env M h
 | (t,.fn _)::r,p,env,M,h=>by simp only [sa];exact pe os r p env M h
 | (t,.bx _)::r,p,env,M,h=>by simp only [sa];exact pe os r p env M h
 | (t,.fc _ _)::r,p,env,M,h=>by simp only [sa];exact pe os r p env M h
 | (t,.pr _ _)::r,p,env,M,h=>by simp only [sa];exact pe os r p env M h
 | (t,.u)::r,p,env,M,h=>by simp only [sa];exact pe os r p env M h
 | (t,.ref _ (_::_))::r,p,env,M,h=>by simp only [sa];exact pe os r p env M h
 | (t,.ref k [])::r,p,env,M,h=>by
  simp only [sa]
  split
  ·rename_i o hnl _
   have hs:=h.slots t
   rw [hnl]at hs
   simp only [al,ai,List.cons.injEq,and_true]at hs
   have h1:St F p (evE (.kl k) env) (del k M) a w:=h.tr (Tr.kl h.hp k) h.lz
   obtain ⟨oa,hs⟩:=hs
   have h2:=Tr.new h1.hp k (fp k M) (.slice oa 0 0) (fun _=>False) ⟨.sl o,[]⟩ ⟨rfl,⟨rfl,Nat.le_refl _⟩,rfl,Nat.le_refl _,fun _ _ _=>rfl⟩ (fun b hb=>hb.elim) (fun _=>ak7 o oa)
   have h3:St F _ (evE (.kl k) env) ((k,⟨.sl o,[]⟩)::del k M) a w:=h1.tr h2 (fun b hb=>hb)
   refine pe os r _ _ _ (h3.desc t (.ref k []) ?_)
   simp only [al,ai]
   refine ⟨⟨.sl o,[]⟩,none,m8 _ _ _,by simp only [gok],⟨⟨.sl o,[]⟩,by simp only [get]⟩,?_⟩
   rw [ac2,hs]
   simp only [res]
  ·rename_i j x
   cases hb:orb (Nat.beq j k) (neg (Nat.ble (Nat.succ j) gid))with
   | true=>simp only [cond_true];exact pe os r p env M h
   | false=>
    simp only [cond_false]
    simp only [nx,ro,Bool.or_eq_false_iff,Bool.not_eq_false']at hb
    split
    ·rename_i ob hj
     have hjk:j ≠ k:=by rintro rfl;simp at hb
     have h1:St F p (evE (.kl k) env) (del k M) a w:=h.tr (Tr.kl h.hp k) h.lz
     have h2:=Tr.mv h1.hp (j:=j) (k:=k) (ob:=ob) (by rw [fo hjk];exact hj) (fp k M) (Nat.le_of_ble_eq_true hb.2)
     have h3:St F _ (evE (.mv j k) (evE (.kl k) env)) ((k,ob)::del j (del k M)) a w:=h1.tr h2 h1.lz
     exact pe os r _ _ _ h3
    ·exact pe os r p env M h
  ·exact pe os r p env M h
theorem aet:(os:Obs)->(p:Ow)->(env:Env)->(M:Mem)->St F p env M a w->∃ p',St F p' (afr os env M).1 (afr os env M).2 a w
 | [],p,env,M,h=>⟨p,h⟩
 | (k,o)::r,p,env,M,h=>by
  unfold afr
  split
  ·exact ⟨p,h⟩
  ·rename_i k' e r' heq
   cases heq
   split
   ·rename_i e' l hg
    split
    ·rename_i l' hl'
     have hq:=ahj hl'
     simp only [Ob.mk.injEq,O.sl.injEq]at hq
     obtain ⟨rfl,hq⟩:=hq
     cases hq
     have t1:=Tr.relab (ob':=⟨.sl (.op e'),ac6 l⟩) h.hp hg (fun ρ=>by cases ρ with | nil=>rfl | cons s _=>cases s <;> rfl) (fun Im r=>bep r)
     exact aet r _ _ _ (h.tr t1 h.lz)
    ·exact aet r _ _ _ h
   ·exact aet r _ _ _ h
  ·rename_i heq
   cases heq
   exact aet r _ _ _ h
theorem vt (os:Obs):(ks:List Nat)->(M:Mem)->(env:Env)->St F p env M a w->St F p (pg os ks M env).1 (pg os ks M env).2 a w
 | [],M,env,h=>h
 | k::r,M,env,h=>by
  simp only [pg]
  cases inO k os with
  | true=>simp only [cond_true];exact vt os r M env h
  | false=>
   simp only [cond_false]
   split
   ·rename_i ob hk
    have h1:St F p (evE (.fz k ob) env) (del k M) a w:=h.tr (Tr.frz h.hp k ob hk) h.lz
    exact vt os r _ _ h1
   ·exact vt os r M env h
theorem apo (M:Mem):(os:Obs)->(x:pp os)->zd M os=some x->∀ k ob,go (mc os x) k=some ob->oOf k os=some ob.o/\∃ q,go M k=some q/\wkO q ob.o=some ob.x
 | [],x,h,k,ob,hk=>by simp [mc,go]at hk
 | (j,o)::r,x,h,k,ob,hk=>by
  simp only [zd]at h
  split at h
  ·rename_i q hq
   split at h
   ·rename_i y z hy hz
    cases h
    simp only [mc]at hk
    rw [fx]at hk
    simp only [oOf,dv]
    by_cases e:j=k
    ·subst e
     rw [if_pos rfl]at hk ⊢
     cases hk
     exact ⟨rfl,q,hq,hy⟩
    ·rw [if_neg e]at hk ⊢
     exact apo M r z hz k ob hk
   ·cases h
  ·cases h
theorem ajz (M:Mem):(os:Obs)->(x:pp os)->zd M os=some x->∀ k o,oOf k os=some o->∃ y,go (mc os x) k=some ⟨o,y⟩
 | [],x,h,k,o,hk=>by simp [oOf]at hk
 | (j,o')::r,x,h,k,o,hk=>by
  simp only [zd]at h
  split at h
  ·rename_i q hq
   split at h
   ·rename_i y z hy hz
    cases h
    simp only [oOf,dv]at hk
    simp only [mc]
    rw [fx]
    by_cases e:j=k
    ·subst e
     rw [if_pos rfl]at hk ⊢
     cases hk
     exact ⟨y,rfl⟩
    ·rw [if_neg e]at hk ⊢
     exact ajz M r z hz k o hk
   ·cases h
  ·cases h
theorem ai5 {q:Ob} {o:O} {x:o.strip.den} (h:wkO q o=some x):q.o.wk o=true/\p7 o.strip q.x=some x:=by
 unfold wkO at h
 cases hw:q.o.wk o with
 | false=>rw [hw]at h;cases h
 | true=>rw [hw]at h;exact ⟨rfl,h⟩
theorem bqg (h:Hp F p M w) (hL:∀ b,¬ p.L b) (os:Obs) (x:pp os) (hx:zd M os=some x):∃ p',p'.β=p.β/\(∀ b,¬ p'.L b)/\jc (Imm F p M w) (Imm F p' (mc os x) w) w w/\Hp F p' (mc os x) w:=by
 classical
 have hall:∀ k ob,go (mc os x) k=some ob->er M k/\Wk (Imm F p M w) w ob.o ob.x (p.σ k) [p.β k]:=fun k ob hk=>by
  obtain ⟨_,q,h1,h2⟩:=apo M os x hx k ob hk
  obtain ⟨h3,h4⟩:=ai5 h2
  exact ⟨c8 h1,ady q.o ob.o h3 q.x ob.x _ _ h4 (h.objs k q h1)⟩
 let σ':Nat->Nat->Prop:=fun k=>if hk:∃ ob,go (mc os x) k=some ob then (hall k hk.choose hk.choose_spec).2.choose else fun _=>False
 have hσ:∀ k ob,go (mc os x) k=some ob->(∀ b,σ' k b->p.σ k b)/\∀ Im':Nat->Prop,(∀ b,Imm F p M w b->Im' b)->(∀ b,p.σ k b->¬ σ' k b->Im' b)->Rel Im' w ob.o ob.x (σ' k) [p.β k]:=fun k ob hk=>by
  have hex:∃ ob,go (mc os x) k=some ob:=⟨ob,hk⟩
  have e1:σ' k=(hall k hex.choose hex.choose_spec).2.choose:=by simp only [σ',dif_pos hex]
  have h2:=(hall k hex.choose hex.choose_spec).2.choose_spec
  have e2:ob=hex.choose:=Option.some.inj (hk.symm.trans hex.choose_spec)
  rw [e1,e2]
  exact h2
 have hlv:∀ k,er (mc os x) k->er M k/\∀ b,σ' k b->p.σ k b:=fun k hk=>by
  obtain ⟨ob,ho⟩:=av6 hk
  exact ⟨(hall k ob ho).1,(hσ k ob ho).1⟩
 have hkeep:jc (Imm F p M w) (Imm F ⟨p.β,σ',fun _=>False⟩ (mc os x) w) w w:=fun b hb=>⟨⟨hb.1,hb.2.1,fun h=>h,fun k hk hs=>hb.2.2.2 k (hlv k hk).1 ((hlv k hk).2 b hs)⟩,rfl⟩
 refine ⟨⟨p.β,σ',fun _=>False⟩,rfl,fun b hb=>hb,hkeep,⟨fun k ob hk=>?_,fun k k' b hne hk hk' hb hb'=>?_,fun k b hk hb=>?_,fun b hb=>hb.elim,h.os,h.tape,h.output,h.size,h.old⟩⟩
 ·refine (hσ k ob hk).2 _ (fun b hb=>(hkeep b hb).1) (fun b hb hn=>?_)
  have hlk:=(hall k ob hk).1
  obtain ⟨o1,o2⟩:=h.own k b hlk hb
  refine ⟨o1,o2.elim (fun h=>.inr (.inl h.2)) (fun h=>.inr (.inr h)),fun h=>h,fun j hj hs=>?_⟩
  by_cases e:j=k
  ·subst e;exact hn hs
  ·exact h.sep k j b (Ne.symm e) hlk (hlv j hj).1 hb ((hlv j hj).2 b hs)
 ·exact h.sep k k' b hne (hlv k hk).1 (hlv k' hk').1 ((hlv k hk).2 b hb) ((hlv k' hk').2 b hb')
 ·exact h.own k b (hlv k hk).1 ((hlv k hk).2 b hb)
theorem ao5:(a b:b9)->peq a b=true->a=b
 | [],[],_=>rfl
 | .l::a,.l::b,h=>by simp only [peq]at h;rw [ao5 a b h]
 | .r::a,.r::b,h=>by simp only [peq]at h;rw [ao5 a b h]
 | .de::a,.de::b,h=>by simp only [peq]at h;rw [ao5 a b h]
 | [],_::_,h=>by simp [peq]at h
 | .ix _::_,[],h=>by simp [peq]at h
 | .l::_,[],h=>by simp [peq]at h
 | .r::_,[],h=>by simp [peq]at h
 | .de::_,[],h=>by simp [peq]at h
 | .ix _::_,_::_,h=>by simp [peq]at h
 | .l::_,.r::_,h=>by simp [peq]at h
 | .l::_,.de::_,h=>by simp [peq]at h
 | .l::_,.ix _::_,h=>by simp [peq]at h
 | .r::_,.l::_,h=>by simp [peq]at h
 | .r::_,.de::_,h=>by simp [peq]at h
 | .r::_,.ix _::_,h=>by simp [peq]at h
 | .de::_,.l::_,h=>by simp [peq]at h
 | .de::_,.r::_,h=>by simp [peq]at h
 | .de::_,.ix _::_,h=>by simp [peq]at h
theorem aza {os:Obs} {x:pp os} (hx:zd M os=some x) {k:Nat} {q:Ob} {o:O} (hq:go M k=some q) (ho:oOf k os=some o) (he:q.o.beq o=true):go (mc os x) k=some q:=by
 obtain ⟨y,hy⟩:=ajz M os x hx k o ho
 obtain ⟨_,q',h1,h2⟩:=apo M os x hx k _ hy
 rw [hq]at h1;cases h1
 have:=(ai5 h2).2
 have e:=O.beq_eq he
 obtain ⟨qo,qx⟩:=q
 simp only at e this
 subst e
 rw [yk]at this
 cases this
 exact hy
theorem blw (hβ:p'.β=p.β) {os:Obs} {x:pp os} (hx:zd M os=some x) {k:Nat} {π:b9} {vs:List Value} (h:Ref p.β M w k π vs) (hok:baz M os k π=true):Ref p'.β (mc os x) w k π vs:=by
 unfold baz at hok
 split at hok
 ·rename_i q o hq ho
  simp only [nx,Bool.or_eq_true]at hok
  rcases hok with hn | he
  ·cases π with
   | cons _ _=>simp [ab4]at hn
   | nil=>
    obtain ⟨y,hy⟩:=ajz M os x hx k o ho
    obtain ⟨ob,pl,h1,h2,h3,h4⟩:=h
    simp only [res,Option.some.injEq,Prod.mk.injEq]at h4
    exact ⟨⟨o,y⟩,none,hy,by simp only [gok],⟨⟨o,y⟩,by simp only [get]⟩,by simp only [res,hβ,h4.1]⟩
  ·have:=aza hx hq ho he
   obtain ⟨ob,pl,h1,h2,h3,h4⟩:=h
   rw [hq]at h1;cases h1
   exact ⟨q,pl,this,h2,h3,by rw [hβ];exact h4⟩
 ·cases hok
theorem bn5 (hp:Hp F p M w) (hβ:p'.β=p.β) {os:Obs} {x:pp os} (hx:zd M os=some x) {k:Nat} {π:b9} {v:Value} (h:Adr p.β M w k π v) (hok:big M os k π=true):Adr p'.β (mc os x) w k π v:=by
 unfold big at hok
 split at hok
 ·rename_i q o hq ho
  simp only [nx,Bool.or_eq_true]at hok
  rcases hok with hn | he
  ·obtain ⟨y,hy⟩:=ajz M os x hx k o ho
   obtain ⟨m,s1,s2⟩:=ata hn
   obtain ⟨ob,us0,b0,off0,k1,k2,k3,k4,k5,rfl⟩:=h
   rw [hq]at k1;cases k1
   obtain ⟨ρ1,o1,rfl,e1,f1⟩:=afx s1
   obtain ⟨ρ2,o2,e2',e2,f2⟩:=afx s2
   simp only [List.cons.injEq,true_and]at e2'
   subst e2'
   subst e2
   obtain ⟨qo,qx⟩:=q
   simp only at e1
   subst e1
   have hr:=hp.objs k _ hq
   simp only [Rel]at hr
   obtain ⟨bb,us1,ty',S1,r1,r2,r3,r4,r5⟩:=hr
   simp only [List.cons.injEq,and_true]at r1
   rw [r1]at k5
   simp only [res]at k5
   obtain ⟨_,_,us2,q3⟩:=ub w ρ1 o1 m f1 qx (cellsOf w bb 0 o1.size) (some (bb,0))
   rw [q3]at k5
   simp only [Option.some.injEq,Prod.mk.injEq]at k5
   obtain ⟨q1,q2,us3,q3'⟩:=ub w ρ1 o2 m f2 y (cellsOf w bb 0 o2.size) (some (bb,0))
   refine ⟨_,us3,b0,off0,hy,by simpa only [gok]using q2,by simpa only [get]using q1,by simp only [dy],?_,rfl⟩
   rw [hβ,r1]
   simp only [res]
   rw [q3',k5.2]
  ·have:=aza hx hq ho he
   obtain ⟨ob,us,b,off,h1,h2,h3,h4,h5,h6⟩:=h
   rw [hq]at h1;cases h1
   exact ⟨q,us,b,off,this,h2,h3,h4,by rw [hβ];exact h5,h6⟩
 ·cases hok
theorem aiv (hp:Hp F p M w) (hβ:p'.β=p.β) {os:Obs} {x:pp os} (hx:zd M os=some x) (hk:jc (Imm F p M w) (Imm F p' (mc os x) w) w w):(s:Sh)->(v:V)->(vs:List Value)->(y:s.den)->ai p.β M (Imm F p M w) w v vs->s.read M os v=some y->ai p'.β (mc os x) (Imm F p' (mc os x) w) w (s.put y) vs
 | .d t,v,vs,y,r,h=>by
  simp only [Sh.read]at h
  simp only [Sh.put]
  exact sm t y vs (aq.keep hk _ _ _ (afk v t vs y r h))
 | .ref k π,v,vs,y,r,h=>by
  cases v <;> simp only [Sh.read]at h <;> try (cases h;done)
  rename_i k' π'
  cases hb:nob (baz M os k π) (nob (Nat.beq k k') (peq π π'))with
  | false=>rw [hb]at h;cases h
  | true=>
   simp only [bc,Bool.and_eq_true]at hb
   have e1:=Nat.eq_of_beq_eq_true hb.2.1
   have e2:=ao5 _ _ hb.2.2
   subst e1;subst e2
   simp only [ai]at r
   simp only [Sh.put,ai]
   exact blw hβ hx r hb.1
 | .ad k π,v,vs,y,r,h=>by
  cases v <;> simp only [Sh.read]at h <;> try (cases h;done)
  rename_i k' π'
  cases hb:nob (big M os k π) (nob (Nat.beq k k') (peq π π'))with
  | false=>rw [hb]at h;cases h
  | true=>
   simp only [bc,Bool.and_eq_true]at hb
   have e1:=Nat.eq_of_beq_eq_true hb.2.1
   have e2:=ao5 _ _ hb.2.2
   subst e1;subst e2
   simp only [ai]at r
   obtain ⟨z,rfl,r⟩:=r
   simp only [Sh.put,ai]
   exact ⟨z,rfl,bn5 hp hβ hx r hb.1⟩
 | .fn f,v,vs,y,r,h=>by
  cases v <;> (try simp only [Sh.read]at h) <;> try (cases h;done)
  rename_i f' v'
  cases v' <;> (try simp only [Sh.read]at h) <;> try (cases h;done)
  simp only [dv]at h
  split at h
  ·rename_i e
   subst e
   simp only [ai]at r
   simp only [Sh.put,ai]
   exact r
  ·cases h
 | .bx s,v,vs,y,r,h=>by
  cases v <;> simp only [Sh.read]at h <;> try (cases h;done)
  simp only [ai]at r
  obtain ⟨b,o,us,h1,h2,h3,h4⟩:=r
  simp only [Sh.put,ai]
  exact ⟨b,o,us,h1,(hk b h2).1,h3,aiv hp hβ hx hk s _ _ y h4 h⟩
 | .fc f s,v,vs,y,r,h=>by
  cases v <;> simp only [Sh.read]at h <;> try (cases h;done)
  simp only [dv]at h
  split at h
  ·rename_i e
   subst e
   simp only [ai]at r
   obtain ⟨us,h1,h2⟩:=r
   simp only [Sh.put,ai]
   exact ⟨us,h1,aiv hp hβ hx hk s _ _ y h2 h⟩
  ·cases h
 | .pr a b,v,vs,y,r,h=>by
  cases v <;> simp only [Sh.read]at h <;> try (cases h;done)
  split at h
  ·rename_i z1 z2 h1 h2
   simp only [ai]at r
   obtain ⟨va,vb,e,ra,rb⟩:=r
   cases h
   simp only [Sh.put,ai]
   exact ⟨va,vb,e,aiv hp hβ hx hk a _ _ _ ra h1,aiv hp hβ hx hk b _ _ _ rb h2⟩
  ·cases h
 | .u,v,vs,y,r,h=>by
  cases v <;> simp only [Sh.read]at h <;> try (cases h;done)
  simp only [Sh.put]
  simpa only [ai]using r
theorem bov (hp:Hp F p M w) (hβ:p'.β=p.β) {os:Obs} {x:pp os} (hx:zd M os=some x) (hk:jc (Imm F p M w) (Imm F p' (mc os x) w) w w) (s:Sh) (v:V) (u:Value) (y:s.den) (r:al p.β M (Imm F p M w) w v u) (h:s.read M os v=some y):al p'.β (mc os x) (Imm F p' (mc os x) w) w (s.put y) u:=by
 have key:ai p.β M (Imm F p M w) w v [u]->al p'.β (mc os x) (Imm F p' (mc os x) w) w (s.put y) u:=fun r=>bq (aiv hp hβ hx hk s v [u] y r h)
 cases v with
 | any=>cases s with
  | d t=>cases t <;> simp [Sh.read,V.as]at h
  | _=>simp [Sh.read]at h
 | ag z=>cases s with
  | d t=>cases t <;> simp [Sh.read,V.as]at h
  | _=>simp [Sh.read]at h
 | tup z=>cases s with
  | d t=>cases t <;> simp [Sh.read,V.as]at h
  | _=>simp [Sh.read]at h
 | gd _ _ _ z=>cases s with
  | d t=>cases t <;> simp [Sh.read,V.as]at h
  | _=>simp [Sh.read]at h
 | _=>exact key (by simpa only [al]using r)
theorem ba4 (hp:Hp F p M w) (hβ:p'.β=p.β) {os:Obs} {x:pp os} (hx:zd M os=some x) (hk:jc (Imm F p M w) (Imm F p' (mc os x) w) w w) (hs:∀ t,al p.β M (Imm F p M w) w (gt env t) (a.tmps.getD t undef)) :
  (ss:Shs)->(y:vf ss)->aqf M os env ss=some y->∀ t,al p'.β (mc os x) (Imm F p' (mc os x) w) w (gt (akx ss y) t) (a.tmps.getD t undef)
 | [],y,h,t=>by simp only [akx,gt,al]
 | (t',s)::r,y,h,t=>by
  simp only [aqf]at h
  split at h
  ·rename_i z1 z2 h1 h2
   cases h
   simp only [akx]
   rw [im]
   split
   ·rename_i e
    subst e
    exact bov hp hβ hx hk s _ _ z1 (hs t') h1
   ·exact ba4 hp hβ hx hk hs r z2 h2 t
  ·cases h
theorem yw {β β':Nat->Value} {Im Im':Nat->Prop} (hk:jc Im Im' w w'):(v:V)->cd v=true->(∀ vs,ai β M Im w v vs->ai β' M' Im' w' v vs)/\∀ u,al β M Im w v u->al β' M' Im' w' v u
 | .d t x,_=>⟨fun vs r=>by simp only [ai]at r ⊢;exact aq.keep hk t x vs r,fun u r=>by rw [bw]at r ⊢;exact aq.keep hk t x _ r⟩
 | .nl,_=>⟨fun vs r=>by simpa only [ai]using r,fun u r=>by simpa only [al,ai]using r⟩
 | .np,_=>⟨fun vs r=>by simpa only [ai]using r,fun u r=>by simpa only [al,ai]using r⟩
 | .u,_=>⟨fun vs r=>by simpa only [ai]using r,fun u r=>by simpa only [al,ai]using r⟩
 | .p a b,h=>by
  simp only [cd,bc,Bool.and_eq_true]at h
  have key:∀ vs,ai β M Im w (.p a b) vs->ai β' M' Im' w' (.p a b) vs:=fun vs r=>by
   simp only [ai]at r ⊢
   obtain ⟨va,vb,e,h1,h2⟩:=r
   exact ⟨va,vb,e,(yw hk a h.1).1 va h1,(yw hk b h.2).1 vb h2⟩
  exact ⟨key,fun u r=>by simp only [al]at r ⊢;exact key _ r⟩
 | .ag v,h=>by
  simp only [cd]at h
  refine ⟨fun vs r=>by simp only [ai]at r,fun u r=>?_⟩
  simp only [al]at r ⊢
  obtain ⟨vs,e,h1⟩:=r
  exact ⟨vs,e,(yw hk v h).1 vs h1⟩
 | .fn f v,h=>by
  simp only [cd]at h
  have key:∀ vs,ai β M Im w (.fn f v) vs->ai β' M' Im' w' (.fn f v) vs:=fun vs r=>by
   simp only [ai]at r ⊢
   obtain ⟨us,e,h1⟩:=r
   exact ⟨us,e,(yw hk v h).1 us h1⟩
  exact ⟨key,fun u r=>by simp only [al]at r ⊢;exact key _ r⟩
 | .bx v,h=>by
  simp only [cd]at h
  have key:∀ vs,ai β M Im w (.bx v) vs->ai β' M' Im' w' (.bx v) vs:=fun vs r=>by
   simp only [ai]at r ⊢
   obtain ⟨b,o,us,e,h1,h2,h3⟩:=r
   exact ⟨b,o,us,e,(hk b h1).1,h2.keep (hk b h1).2,(yw hk v h).1 us h3⟩
  exact ⟨key,fun u r=>by simp only [al]at r ⊢;exact key _ r⟩
 | .any,h=>by simp [cd]at h
 | .ref _ _,h=>by simp [cd]at h
 | .ad _ _,h=>by simp [cd]at h
 | .tup _,h=>by simp [cd]at h
 | .gd _ _ _ _,h=>by simp [cd]at h
 | .ifc _ _,h=>by simp [cd]at h
theorem ase (h:St F p env M a w) {ss:Shs} {os:Obs} {q:(vf ss×pp os)×Env} (hr:ajw ss os env M=some q) :
  ∃ p',St F p' (akx ss q.1.1) (mc os q.1.2) a w/\∀ t,cd (gt q.2 t)=true->al p'.β (mc os q.1.2) (Imm F p' (mc os q.1.2) w) w (gt q.2 t) (a.tmps.getD t undef):=by
 unfold ajw at hr
 obtain ⟨p0,h0⟩:=pe os ss p env M h
 generalize sa os ss env M=z0 at hr h0
 obtain ⟨env0,M0⟩:=z0
 simp only at hr h0
 obtain ⟨p1,h1⟩:=aet os p0 env0 M0 h0
 generalize afr os env0 M0=z1 at hr h1
 obtain ⟨env1,M1⟩:=z1
 simp only at hr h1
 have h2:=vt os (cj M1) M1 env1 h1
 generalize pg os (cj M1) M1 env1=z2 at hr h2
 obtain ⟨env2,M2⟩:=z2
 simp only at hr h2
 split at hr
 ·rename_i y x hy hx
  cases hr
  obtain ⟨p',e1,e2,e3,e4⟩:=bqg h2.hp h2.lz os x hx
  refine ⟨p',⟨h2.defers,h2.nt,h2.fix,fun b hb=>⟨(e3 b (h2.ik b hb).1).1,(h2.ik b hb).2⟩,e2,ba4 h2.hp e1 hx e3 h2.slots ss y hy,e4⟩,fun t ht=>(yw e3 _ ht).2 _ (h2.slots t)⟩
 ·cases hr
end
end Go.Bm
/- The gi machine:code keeps the law that is read off it. -/
namespace Go.Bm
open Go.RowKit
theorem qe:(t:T)->(x:t.den)->t.ok x->ae (t.oks x)
 | .int k,x,h=>by simp only [T.oks,d6,fh,and_true];simpa only [T.ok]using h
 | .p a b,x,h=>by simp only [T.ok]at h;simp only [T.oks,lh];exact ⟨qe a _ h.1,qe b _ h.2⟩
 | .sl e,x,h=>by simp only [T.oks,d6,fh,and_true];exact h
 | .pt t,x,h=>by simp only [T.ok]at h;simp only [T.oks];exact qe t x h
 | .fn _ t,x,h=>by simp only [T.ok]at h;simp only [T.oks];exact qe t x h
 | .ifc _ t,x,h=>by simp only [T.ok]at h;simp only [T.oks];exact qe t x h
 | .mp k v,x,h=>by simp only [T.oks,d6,fh,and_true];exact h
 | .op t,x,h=>by simp only [T.oks,d6,fh,and_true];exact h
 | .ns t,x,h=>by simp only [T.oks,d6,fh,and_true];exact h
 | .str,x,h=>by simp only [T.oks,d6,fh,and_true];simpa only [T.ok]using h
 | .bool,x,h=>by simp only [T.oks,fh]
 | .u,x,h=>by simp only [T.oks,fh]
 | .any,x,h=>by simp only [T.oks,fh]
def bkw:Nat->List Nat->Bool
 | i,σ=>(List.range i).all fun k=>Nat.beq (plc σ k) k
def bhj (nt:Nat) (l:List Oper):Bool:=
 nob (aqq l) (nob (Nat.blt (ab2 0 l) (akr 0 l)) (nob (Nat.blt (akr 0 l) l.length) (nob (ww 0 l) (nob (avu (mvS (ab2 0 l) (akr 0 l) (len l)) l.length) (nob (bkw (ab2 0 l) (mvS (ab2 0 l) (akr 0 l) (len l))) (nob (l7 nt (ax2 l)) (nob (l7 nt (bbb l)) (nob (akq false false (ax2 l) (ab2 0 l)) (akq false false (bbb l) (Nat.succ (ab2 0 l)))))))))))
def okC (nt:Nat) (cut:Nat->Nat):Code->Bool
 | .region id ops draw=>nob (l7 nt (toL ops)) (bif draw then (bif Nat.beq (cut id) 999999 then bna (toL ops)else bif Nat.beq (cut id) 999998 then bhj nt (toL ops)else bif Nat.ble 10000 (cut id)then nob (l7 nt (gq (hrC (cut id)) (toL ops))) (bh2 (hrC (cut id)) true (toL ops) (mC (cut id)))else bif Nat.ble 2000 (cut id)then nob (l7 nt (gq false (toL ops))) (bh2 false false (toL ops) (Nat.sub (cut id) (arq (cut id))))else bif Nat.ble 1000 (cut id)then akq false false (toL ops) (Nat.sub (cut id) 1000)else bif Nat.ble 500 (cut id)then akq false false (toL ops) (Nat.sub (cut id) 500)else bgu (toL ops) (cut id))else true)
 | .seq a b=>nob (okC nt cut a) (okC nt cut b)
 | .cond _ a b=>nob (okC nt cut a) (okC nt cut b)
 | .block _ c=>okC nt cut c
 | .loop c=>okC nt cut c
 | .scope c=>okC nt cut c
 | _=>true
def afb (fv:Nat->Option Value):Code->Prop
 | .region _ ops _=>∀ o ∈ toL ops,∀ k,o.dst=some k->fv k=none
 | .seq a b=>afb fv a/\afb fv b
 | .cond _ a b=>afb fv a/\afb fv b
 | .block _ c=>afb fv c
 | .loop c=>afb fv c
 | .scope c=>afb fv c
 | _=>True
theorem t6:(c:Code)->afb (fun _=>none) c
 | .region _ _ _=>fun _ _ _ _=>rfl
 | .seq a b=>⟨t6 a,t6 b⟩
 | .cond _ a b=>⟨t6 a,t6 b⟩
 | .block _ c=>t6 c
 | .loop c=>t6 c
 | .scope c=>t6 c
 | .skip=>trivial
 | .ret=>trivial
 | .exit _=>trivial
 | .goto _=>trivial
 | .label _=>trivial
 | .rangeFunc _ _ _ _=>trivial
 | .refuse _=>trivial
def akl (fv:Nat->Option Value) (ks:List Nat) (a:Act):Nat->Option Value:=fun t=>bif acz t ks then some (a.tmps.getD t undef)else fv t
def mkF (F:Fr) (I:Nat->Prop) (w:World) (ks:List Nat) (a:Act):Fr:=⟨F.w0,w,F.A,F.R,I,F.nt,akl F.fv ks a⟩
theorem bb7 {ks:List Nat}:{l:List Oper}->bcj ks l=true->∀ o ∈ l,∀ k,o.dst=some k->acz k ks=false
 | [],_,o,ho,_,_=>by cases ho
 | x::r,h,o,ho,k,hk=>by
  simp only [bcj]at h
  rcases List.mem_cons.1 ho with rfl | ho
  ·rw [hk]at h
   simp only at h
   cases hm:acz k ks with
   | false=>rfl
   | true=>rw [hm]at h;cases h
  ·refine bb7 ?_ o ho k hk
   split at h
   ·rename_i d _
    cases hm:acz d ks with
    | false=>rw [hm]at h;exact h
    | true=>rw [hm]at h;cases h
   ·exact h
theorem t8 {fv:Nat->Option Value} {ks:List Nat} {a:Act}:(c:Code)->noW ks c=true->afb fv c->afb (akl fv ks a) c
 | .region id ops draw,h,hf=>fun o ho k hk=>by
  simp only [noW]at h
  unfold akl
  rw [bb7 h o ho k hk]
  exact hf o ho k hk
 | .seq x y,h,hf=>by simp only [noW,bc,Bool.and_eq_true]at h;exact ⟨t8 x h.1 hf.1,t8 y h.2 hf.2⟩
 | .cond _ x y,h,hf=>by simp only [noW,bc,Bool.and_eq_true]at h;exact ⟨t8 x h.1 hf.1,t8 y h.2 hf.2⟩
 | .block _ c,h,hf=>by simp only [noW]at h;exact t8 c h hf
 | .loop c,h,hf=>by simp only [noW]at h;exact t8 c h hf
 | .scope c,h,hf=>by simp only [noW]at h;exact t8 c h hf
 | .skip,_,_=>trivial
 | .ret,_,_=>trivial
 | .exit _,_,_=>trivial
 | .goto _,_,_=>trivial
 | .label _,_,_=>trivial
 | .rangeFunc _ _ _ _,_,_=>trivial
 | .refuse _,_,_=>trivial
def zo (F:Fr) (K:Ex->Env->Mem->Prop):Exit->Act->World->Prop
 | .normal,a,w=>∃ p env M,St F p env M a w/\K .nm env M
 | .exit id,a,w=>∃ p env M,St F p env M a w/\K (.ex id) env M
 | .ret,a,w=>∃ p env M,St F p env M a w/\K .rt env M
 | .goto l,a,w=>∃ p env M,St F p env M a w/\K (.go l) env M
 | _,_,_=>False
section
variable {F:Fr} {p p' p'':Ow} {env env':Env} {M M' M'':Mem} {a a':Act} {w w' w'':World} {P:Program} {B:Tab} {Φ:FuncId->Option Ct}
theorem bbt:∀ (env:Env) (t:Nat),gt (clr env) t=.any\/gt (clr env) t=gt env t
 | [],t=>.inl rfl
 | (k,v)::r,t=>by
  simp only [clr]
  split
  ·rw [im,im]
   split
   ·exact .inl rfl
   ·exact bbt r t
  ·rw [im,im]
   split
   ·exact .inr rfl
   ·exact bbt r t
theorem bnn:∀ (x y:Env) (t:Nat),gt (ap x y) t=gt x t\/gt (ap x y) t=gt y t
 | [],y,t=>.inr rfl
 | (k,v)::r,y,t=>by
  simp only [ap]
  rw [im,im]
  split
  ·exact .inl rfl
  ·exact bnn r y t
theorem bfm (env:Env):∀ (ks:List Nat) (t:Nat),gt (kept env ks) t=.any\/(acz t ks=true/\cd (gt env t)=true/\gt (kept env ks) t=gt env t)
 | [],t=>.inl rfl
 | k::r,t=>by
  simp only [kept]
  have ih:=bfm env r t
  have hm:acz t r=true->acz t (k::r)=true:=fun h=>by simp only [acz,nx,h,Bool.or_true]
  cases hd:cd (gt env k)with
  | false=>
   simp only [cond_false]
   rcases ih with h | ⟨h1,h2,h3⟩
   ·exact .inl h
   ·exact .inr ⟨hm h1,h2,h3⟩
  | true=>
   simp only [cond_true]
   rw [im]
   split
   ·rename_i e
    subst e
    exact .inr ⟨by simp [acz],hd,rfl⟩
   ·rcases ih with h | ⟨h1,h2,h3⟩
    ·exact .inl h
    ·exact .inr ⟨hm h1,h2,h3⟩
theorem St.fwd (h:St F p env M a w) (ks:List Nat):St (mkF F (Imm F p M w) w ks a) p env M a w:=by
 refine ⟨h.defers,h.nt,fun t v ht=>?_,fun b hb=>⟨hb,rfl⟩,h.lz,h.slots,⟨h.hp.objs,h.hp.sep,h.hp.own,h.hp.lim,h.hp.os,h.hp.tape,h.hp.output,h.hp.size,h.hp.old⟩⟩
 simp only [mkF,akl]at ht
 cases hm:acz t ks with
 | true=>rw [hm]at ht;simpa using ht
 | false=>rw [hm]at ht;exact h.fix t v ht
theorem St.back (h:St F p env M a w) {ks:List Nat} (h':St (mkF F (Imm F p M w) w ks a) p' env' M' a' w'):St F p' env' M' a' w':=by
 refine ⟨h'.defers,h'.nt,fun t v ht=>?_,fun b hb=>?_,h'.lz,h'.slots,⟨h'.hp.objs,h'.hp.sep,h'.hp.own,h'.hp.lim,h'.hp.os,h'.hp.tape,h'.hp.output,h'.hp.size,h'.hp.old⟩⟩
 ·cases hm:acz t ks with
  | true=>
   rw [h'.fix t (a.tmps.getD t undef) (by simp only [mkF,akl,hm,cond_true])]
   exact h.fix t v ht
  | false=>exact h'.fix t v (by simp only [mkF,akl,hm,cond_false];exact ht)
 ·obtain ⟨h1,h2⟩:=h.ik b hb
  obtain ⟨h3,h4⟩:=h'.ik b h1
  exact ⟨h3,h4.trans h2⟩
theorem St.add {ks:List Nat} {envK:Env} (hK:∀ t,cd (gt envK t)=true->al p.β M (Imm F p M w) w (gt envK t) (a.tmps.getD t undef)) (h':St (mkF F (Imm F p M w) w ks a) p' env' M' a' w'):St (mkF F (Imm F p M w) w ks a) p' (ap env' (kept envK ks)) M' a' w':=by
 refine ⟨h'.defers,h'.nt,h'.fix,h'.ik,h'.lz,fun t=>?_,h'.hp⟩
 rcases bnn env' (kept envK ks) t with e | e
 ·rw [e];exact h'.slots t
 ·rw [e]
  rcases bfm envK ks t with e' | ⟨h1,h2,h3⟩
  ·rw [e'];simp only [al]
  ·rw [h3,h'.fix t (a.tmps.getD t undef) (by simp only [mkF,akl,h1,cond_true])]
   exact (yw (fun b hb=>h'.ik b hb) _ h2).2 _ (hK t h2)
theorem afv {os:Obs}:(s:Sh)->(v:V)->(vs:List Value)->(y:s.den)->ai p.β M (Imm F p M w) w v vs->s.read M os v=some y->ae (s.oks y)
 | .d t,v,vs,y,r,h=>by
  simp only [Sh.read]at h
  simp only [Sh.oks]
  exact qe _ _ (aq.ok _ _ _ (afk v t vs y r h))
 | .ref _ _,_,_,_,_,_=>by simp only [Sh.oks,fh]
 | .ad _ _,_,_,_,_,_=>by simp only [Sh.oks,fh]
 | .fn _,_,_,_,_,_=>by simp only [Sh.oks,fh]
 | .u,_,_,_,_,_=>by simp only [Sh.oks,fh]
 | .bx s,v,vs,y,r,h=>by
  cases v <;> simp only [Sh.read]at h <;> try (cases h;done)
  simp only [ai]at r
  obtain ⟨b,o,us,h1,h2,h3,h4⟩:=r
  simp only [Sh.oks]
  exact afv s _ _ y h4 h
 | .fc f s,v,vs,y,r,h=>by
  cases v <;> simp only [Sh.read]at h <;> try (cases h;done)
  simp only [dv]at h
  split at h
  ·simp only [ai]at r
   obtain ⟨us,h1,h2⟩:=r
   simp only [Sh.oks]
   exact afv s _ _ y h2 h
  ·cases h
 | .pr a b,v,vs,y,r,h=>by
  cases v <;> simp only [Sh.read]at h <;> try (cases h;done)
  split at h
  ·rename_i z1 z2 h1 h2
   simp only [ai]at r
   obtain ⟨va,vb,e,ra,rb⟩:=r
   cases h
   simp only [Sh.oks,lh]
   exact ⟨afv a _ _ _ ra h1,afv b _ _ _ rb h2⟩
  ·cases h
theorem ay7 {os:Obs} (hs:∀ t,al p.β M (Imm F p M w) w (gt env t) (a.tmps.getD t undef)):(ss:Shs)->(y:vf ss)->aqf M os env ss=some y->ae (okS ss y)
 | [],y,h=>by simp only [okS,fh]
 | (t,s)::r,y,h=>by
  simp only [aqf]at h
  split at h
  ·rename_i z1 z2 h1 h2
   cases h
   have ih:=ay7 hs r z2 h2
   simp only [okS,lh]
   refine ⟨?_,ih⟩
   have key:∀ v:V,s.read M os v=some z1->al p.β M (Imm F p M w) w v (a.tmps.getD t undef)->ae (s.oks z1):=fun v h1 r=>by
    cases v with
    | any=>cases s with
     | d t=>cases t <;> simp [Sh.read,V.as]at h1
     | _=>simp [Sh.read]at h1
    | ag z=>cases s with
     | d t=>cases t <;> simp [Sh.read,V.as]at h1
     | _=>simp [Sh.read]at h1
    | tup z=>cases s with
     | d t=>cases t <;> simp [Sh.read,V.as]at h1
     | _=>simp [Sh.read]at h1
    | gd _ _ _ z=>cases s with
     | d t=>cases t <;> simp [Sh.read,V.as]at h1
     | _=>simp [Sh.read]at h1
    | _=>exact afv s _ _ _ (by simpa only [al]using r) h1
   exact key _ h1 (hs t)
  ·cases h
theorem azs (hp:Hp F p M w):(os:Obs)->(x:pp os)->zd M os=some x->ae (okO os x)
 | [],x,h=>by simp only [okO,fh]
 | (k,o)::r,x,h=>by
  simp only [zd]at h
  split at h
  ·rename_i q hq
   split at h
   ·rename_i y z hy hz
    cases h
    simp only [okO,lh]
    refine ⟨qe _ _ ?_,azs hp r z hz⟩
    obtain ⟨e,h1⟩:=abl (ai5 hy).2
    have hok:=(hp.objs k q hq).ok
    subst h1
    exact cast_ok e hok
   ·cases h
  ·cases h
where
 cast_ok:∀ {s t:T} {x:s.den} (e:s=t),s.ok x->t.ok (e ▸ x):=fun e h=>by subst e;exact h
theorem ao3 (h:St F p env M a w) {ss:Shs} {os:Obs} {q:(vf ss×pp os)×Env} (hr:ajw ss os env M=some q):ae (okS ss q.1.1)/\ae (okO os q.1.2):=by
 unfold ajw at hr
 obtain ⟨p0,h0⟩:=pe os ss p env M h
 generalize sa os ss env M=z0 at hr h0
 obtain ⟨env0,M0⟩:=z0
 simp only at hr h0
 obtain ⟨p1,h1⟩:=aet os p0 env0 M0 h0
 generalize afr os env0 M0=z1 at hr h1
 obtain ⟨env1,M1⟩:=z1
 simp only at hr h1
 have h2:=vt os (cj M1) M1 env1 h1
 generalize pg os (cj M1) M1 env1=z2 at hr h2
 obtain ⟨env2,M2⟩:=z2
 simp only at hr h2
 split at hr
 ·rename_i y x hy hx
  cases hr
  exact ⟨ay7 h2.slots ss y hy,azs h2.hp os x hx⟩
 ·cases hr
theorem aw9 (h:St F p env M a w) {ss:Shs} {os:Obs} {ks:List Nat} {c:Code} {K:Ex->Env->Mem->Prop}
  (hc:c.wp P (zo (mkF F (Imm F p M w) w ks a) (xc ss os (onK ss os ks env K) K)) a w):c.wp P (zo F K) a w:=by
 refine Code.wp_mono (fun e a' w' hl=>?_) hc
 cases e with
 | normal=>
  obtain ⟨p1,env1,M1,h1,h2⟩:=hl
  simp only [xc,aut]at h2
  split at h2
  ·rename_i s hs
   obtain ⟨p2,h4,_⟩:=ase h1 hs
   obtain ⟨o1,o2⟩:=ao3 h1 hs
   simp only [onK,bbj]at h2
   exact ⟨p2,_,_,h.back (St.add (fun t _=>h.slots t) h4),h2 o1 o2⟩
  ·exact h2.elim
 | exit id=>obtain ⟨p1,env1,M1,h1,h2⟩:=hl;exact ⟨p1,env1,M1,h.back h1,h2⟩
 | ret=>obtain ⟨p1,env1,M1,h1,h2⟩:=hl;exact ⟨p1,env1,M1,h.back h1,h2⟩
 | goto l=>obtain ⟨p1,env1,M1,h1,h2⟩:=hl;exact ⟨p1,env1,M1,h.back h1,h2⟩
 | panic ch=>exact hl.elim
 | outgrown=>exact hl.elim
theorem bot (hΦ:m7 P Φ) (hB:TabOk P B) (hmix:P.follows .mixedOrders=true) {id:Nat} {ops:Array Oper} {cut:Nat} (hco:l7 F.nt (toL ops)=true) (hfv:∀ o ∈ toL ops,∀ k,o.dst=some k->F.fv k=none) (hr:bgu (toL ops) cut=true) {K:Env->Mem->Prop} {Q:Exit->Act->World->Prop}
  (hQ:∀ p env M a w,St F p env M a w->K env M->Q .normal a w) (h:St F p env M a w) (hk:dw B Φ (toL ops) (jx cut (toL ops)) env M (fun env=>tw B Φ (toL ops) (oh cut (toL ops)) env M K)):(Code.region id ops true).wp P Q a w:=by
 rw [ge]at hco hfv hr
 rw [aiz,aoc]at hk
 simp only [bgu,Bool.and_eq_true]at hr
 obtain ⟨h1,h2,h3,h4⟩:=hr
 obtain ⟨E,V,e0,e1,e2⟩:=azi _ _ _ _ hk
 have hm:cut<=ops.toList.length:=Nat.le_of_ble_eq_true h2
 rw [ge,List.length_take,Nat.min_eq_left hm]at e2
 refine wp_region_any hmix ?_
 have:=bjx (F:=F) (M:=M) (p:=p) (all:=ops) hΦ hB Q K hQ h1 cut (by simpa using hm) (by simpa using h3) (by simpa using h4) hco hfv E V (by simpa only [ge]using e1) (by simpa only [ge]using e2)
 exact this _ _ env a _ (by simp) (fun i _ hi=>absurd hi xw) (au0 _ _) (fun j o _ hi=>absurd hi xw) (fun t=>⟨fun _=>by rw [e0],fun i o _ hi=>absurd hi xw⟩) h.drew
theorem az0 {c:Code} {Q':Exit->Act->World->Prop} {ι:Type} (I:ι->Act->World->Prop) (μ:ι->Nat)
  (round:∀ i a w,I i a w->c.wp P (Exit.then (fun a' w'=>∃ i',μ i' < μ i/\I i' a' w') Q') a w):∀ i a w,I i a w->(Code.loop c).wp P Q' a w:=by
 intro i a w h0 b k cs
 have key:∀ n i a w,μ i=n->I i a w->∃ e a' w',Q' e a' w'/\Arrives P (lone (b.at a (.code c::.inLoop c::k)) cs w) b k cs e a' w':=by
  intro n
  induction n using Nat.strongRecOn with
  | _ n ih=>
   intro i a w hn hI
   obtain ⟨e,a1,w1,hq,harr⟩:=round i a w hI b (.inLoop c::k) cs
   cases e with
   | normal=>
    obtain ⟨i',hlt,hI'⟩:=hq
    obtain ⟨e2,a2,w2,hq2,harr2⟩:=ih (μ i') (hn ▸ hlt) i' a1 w1 rfl hI'
    exact ⟨e2,a2,w2,hq2,.of_steps (Steps.trans harr (.one step_inLoop)) harr2⟩
   | exit id=>exact ⟨_,a1,w1,hq,.pass (x:=.inLoop c) rfl (fun _ _=>.inl (by simp)) harr⟩
   | goto l=>exact ⟨_,a1,w1,hq,.pass (x:=.inLoop c) rfl (fun _ _=>.inl (by simp)) harr⟩
   | ret=>exact ⟨_,a1,w1,hq,.pass (x:=.inLoop c) rfl (fun _ _=>.inl (by simp)) harr⟩
   | panic ch=>exact ⟨_,a1,w1,hq,.pass (x:=.inLoop c) rfl (fun _ _=>.inl (by simp)) harr⟩
   | outgrown=>exact ⟨_,a1,w1,hq,.pass (x:=.inLoop c) rfl (fun _ _=>.inl (by simp)) harr⟩
 obtain ⟨e,a',w',hq,harr⟩:=key _ i a w rfl h0
 exact ⟨e,a',w',hq,.of_steps (.one step_loop) harr⟩
end
end Go.Bm
/- The gi machine:guards known where they hold. -/
namespace Go.Bm
open Go.RowKit
def ac4 (all rest:List Oper) (env:Env):Prop:=
 ∀ t j w P v,gt env t=.gd j w P v->∃ d,tj all j=some d/\P=gc (gt env d) w/\lx (gt env d)=true/\wIn d rest=false
def Fs (all:List Oper) (env:Env) (fs:List (Nat×Bool)):Prop:=
 ∀ j w,asc fs j w=true->∀ d,tj all j=some d->gc (gt env d) w
theorem bfz {a b:Bool} (h:aws a b=true):a=b:=by cases a <;> cases b <;> simp [aws,neg]at h <;> rfl
theorem bm2 {t:Nat} {o:Option Nat} (h:ano t o=true):o=some t:=by
 cases o with
 | none=>cases h
 | some d=>rw [Nat.eq_of_beq_eq_true h]
theorem bh0 (t:Nat):ano t (some t)=true:=Nat.beq_refl t
theorem am6 {all rest:List Oper} {env:Env} (hI:ac4 all rest env):∀ (n j:Nat) (w:Bool) (d:Nat),tj all j=some d->gc (gt env d) w->Fs all env (mn all env n j w)
 | 0,_,_,_,_,_=>fun _ _ h=>by cases h
 | n+1,j,w,d,hd,hg=>by
  intro i w' hm d' hd'
  simp only [mn,asc]at hm
  cases hb:nob (Nat.beq j i) (aws w w')with
  | true=>
   simp only [bc,Bool.and_eq_true]at hb
   have h1:=Nat.eq_of_beq_eq_true hb.1
   have h2:=bfz hb.2
   subst h1 h2
   rw [hd]at hd';cases hd';exact hg
  | false=>
   rw [hb]at hm
   simp only [cond_false,hd]at hm
   cases hv:gt env d with
   | gd i2 w2 P2 v2=>
    rw [hv]at hm
    obtain ⟨d2,h1,h2,_,_⟩:=hI _ _ _ _ _ hv
    rw [hv]at hg
    simp only [gc]at hg
    exact am6 hI n i2 w2 d2 h1 (h2 ▸ hg.1) i w' hm d' hd'
   | _=>rw [hv]at hm;simp [asc]at hm
theorem bm3 {env:Env} {x:Operand} {j:Nat} {w:Bool} {P:Prop} {v:V} (h:rd env x=.gd j w P v):∃ t,gt env t=.gd j w P v:=by
 cases x with
 | tmp t=>exact ⟨t,h⟩
 | const v=>
  simp only [rd]at h
  unfold rdV at h
  split at h <;> try cases h
  ·cases hb:nob (Nat.beq _ 0) (Nat.beq _ 0) <;> rw [hb]at h <;> cases h
 | func f=>cases h
 | global _=>cases h
theorem apy {all rest:List Oper} {env:Env} {fs:List (Nat×Bool)} (hI:ac4 all rest env) (hf:Fs all env fs):∀ (l:List Operand),ae (nf (fun x=>unG fs (rd env x)) l)->ae (nf (rd env) l)
 | [],_=>trivial
 | x::r,h=>by
  simp only [nf]at h ⊢
  cases hv:rd env x with
  | gd j w P v=>
   rw [hv]at h
   simp only [unG]at h
   cases hm:asc fs j w with
   | true=>
    rw [hm]at h
    obtain ⟨t,ht⟩:=bm3 hv
    obtain ⟨d,h1,h2,_,_⟩:=hI _ _ _ _ _ ht
    refine ⟨h2 ▸ hf j w hm d h1,apy hI hf r ?_⟩
    simp only [cond_true]at h
    split at h
    ·exact h.2
    ·exact h
   | false=>rw [hm]at h;exact ⟨h.1,apy hI hf r h.2⟩
  | _=>rw [hv]at h;exact apy hI hf r h
theorem avs {all rest:List Oper} {env:Env} {fs:List (Nat×Bool)} (hI:ac4 all rest env) (hf:Fs all env fs) {c a:Operand} {side:Bool} (hb:(rd env c).strip.isB=true) (hc:ae (nf (rd env) [c]))
  (h:ae (afl (rd env c).strip.boolV side (bav all c side (unG fs (rd env a))))):ae (afl (rd env c).strip.boolV side (rd env a)):=by
 cases hv:rd env a with
 | gd j w P v=>
  obtain ⟨t,ht⟩:=bm3 hv
  obtain ⟨d,h1,h2,h3,_⟩:=hI _ _ _ _ _ ht
  simp only [afl,d6,fh,and_true]
  rw [hv]at h
  simp only [unG]at h
  cases hm:asc fs j w with
  | true=>exact fun _=>h2 ▸ hf j w hm d h1
  | false=>
   rw [hm]at h
   simp only [cond_false]at h
   unfold bav at h
   split at h
   ·rename_i t' j' w' P' x' heq
    cases heq
    cases hs:nob (ano t' (tj all j)) (aws w side)with
    | false=>rw [hs]at h;exact h.1
    | true=>
     simp only [bc,Bool.and_eq_true]at hs
     have e1:=bm2 hs.1
     have e2:=bfz hs.2
     rw [h1]at e1
     cases e1
     subst e2
     intro hcb
     subst h2
     simp only [rd]at hb hcb hc
     simp only [nf]at hc
     cases hg:gt env d with
     | gd i w' P' v'=>
      simp only [rd,hg]at hc
      rw [hg]at hb hcb
      simp only [V.strip]at hb hcb
      refine ⟨hc.1,?_⟩
      cases v' <;> simp only [V.isB,Bool.false_eq_true]at hb
      rename_i tt x
      cases tt <;> simp only [Bool.false_eq_true]at hb
      exact hcb
     | d tt x=>
      rw [hg]at hb hcb
      cases tt <;> simp only [V.strip,V.isB,Bool.false_eq_true]at hb
      exact hcb
     | _=>rw [hg]at hb;simp [V.strip,V.isB]at hb
   ·exact h.1
 | _=>simp only [afl,fh]
variable {B:Tab} {Φ:FuncId->Option Ct}
theorem ak9 {all rest:List Oper} {env:Env} {fs:List (Nat×Bool)} (hI:ac4 all rest env) (hf:Fs all env fs) (o:Oper) (M:Mem) :
  ∃ vc,evR B Φ o env M=⟨vc,(evG B Φ all fs o env M).av,(evG B Φ all fs o env M).ev,(evG B Φ all fs o env M).M⟩/\(ae (evG B Φ all fs o env M).vc->ae vc):=by
 unfold evR evG
 split
 ·rename_i c a b _
  simp only [ad1,au9,dz]
  cases hb:bt [(rd env c).strip.isB,(rd env a).strip.isB,(rd env b).strip.isB]with
  | false=>exact ⟨_,rfl,id⟩
  | true=>
   refine ⟨_,rfl,fun h=>?_⟩
   have hcB:(rd env c).strip.isB=true:=by
    simp only [bt]at hb
    cases hc:(rd env c).strip.isB with
    | true=>rfl
    | false=>rw [hc]at hb;cases hb
   simp only [cond_true,lh]at h ⊢
   have hc:=apy hI hf [c] h.1
   exact ⟨hc,avs hI hf hcB hc h.2.1,avs hI hf hcB hc h.2.2⟩
 ·generalize ew B Φ o (fun x=>(rd env x).strip) M=q
  obtain ⟨vc,v,e,M'⟩:=q
  refine ⟨_,rfl,fun h=>?_⟩
  simp only [lh]at h ⊢
  exact ⟨apy hI hf _ h.1,h.2⟩
theorem bob:∀ (e:List Ev) (v:V),lx v=true->v.evs e=v:=by
 intro e
 induction e with
 | nil=>intro v _;rfl
 | cons x e ih=>
  intro v h
  have key:∀ v:V,lx v=true->v.ev x=v:=by
   intro v
   induction v with
   | gd j w P v ihv=>intro h;simp only [lx]at h;simp only [V.ev,ihv h]
   | d t y=>intro _;rfl
   | _=>intro h;simp [lx]at h
  simp only [V.evs,key v h]
  exact ih v h
theorem atv {d:Nat} {o:Oper} {r:List Oper} (h:wIn d (o::r)=false):o.dst ≠ some d/\wIn d r=false:=by
 simp only [wIn]at h
 cases hs:ano d o.dst with
 | true=>rw [hs]at h;cases h
 | false=>
  rw [hs]at h
  refine ⟨fun he=>?_,h⟩
  rw [he,bh0]at hs
  cases hs
theorem bfu {d:Nat}:∀ {a b:List Oper},wIn d (a++b)=false<->wIn d a=false/\wIn d b=false
 | [],b=>by simp [wIn]
 | o::a,b=>by
  simp only [List.cons_append,wIn]
  cases ano d o.dst with
  | true=>simp
  | false=>simpa using bfu
theorem apm (d:Option Nat) (v:V) (env:Env) (t:Nat):gt (wr d v env) t=if d=some t then v else gt env t:=ahk d v env t
theorem ay1:∀ (t:T) (x:t.den),su (n9 t x)=false:=by intro t x;cases t <;> rfl
theorem bdo (k:Nat) (π:b9) (e:Ev):su (e.ref k π)=false:=by
 cases e with
 | fz r ob=>
  simp only [Ev.ref]
  cases Nat.beq k r with
  | false=>rfl
  | true=>
   simp only [cond_true]
   split
   ·exact ay1 _ _
   ·rfl
 | cut r o o'=>simp only [Ev.ref];cases Nat.beq k r <;> cases ab4 π <;> rfl
 | mv r k'=>simp only [Ev.ref];cases Nat.beq k r <;> rfl
 | kl r=>simp only [Ev.ref];cases Nat.beq k r <;> rfl
 | un r j=>simp only [Ev.ref];cases Nat.beq k r <;> rfl
 | tk r o o'=>simp only [Ev.ref];cases Nat.beq k r <;> cases orb (ab4 π) (baq (trk π o) (trk π o')) <;> rfl
theorem bf7 (k:Nat) (π:b9) (e:Ev):su (e.ad k π)=false:=by
 cases e with
 | fz r ob=>
  simp only [Ev.ad]
  cases Nat.beq k r with
  | false=>rfl
  | true=>
   simp only [cond_true]
   split <;> rfl
 | cut r o o'=>simp only [Ev.ad];cases Nat.beq k r <;> cases aag (qw π o) (qw π o') <;> rfl
 | tk r o o'=>simp only [Ev.ad];cases Nat.beq k r <;> cases aag (qw π o) (qw π o') <;> rfl
 | mv r k'=>simp only [Ev.ad];cases Nat.beq k r <;> rfl
 | kl r=>simp only [Ev.ad];cases Nat.beq k r <;> rfl
 | un r j=>
  simp only [Ev.ad]
  cases Nat.beq k r with
  | false=>rfl
  | true=>
   simp only [cond_true]
   split <;> rfl
theorem aj0 {all:List Oper} {o:Oper} {rest:List Oper} {env env':Env} {v:V} (hI:ac4 all (o::rest) env) (hv:su v=false)
  (he:∃ e,∀ t,gt env' t=(gt env t).evs e):ac4 all rest (wr o.dst v env'):=by
 obtain ⟨e,he⟩:=he
 intro t j w P x hx
 rw [apm]at hx
 split at hx
 ·subst hx;cases hv
 ·rw [he]at hx
  have hsh:∃ y,gt env t=.gd j w P y:=by
   clear he
   generalize gt env t=q at hx
   induction e generalizing q with
   | nil=>exact ⟨x,hx⟩
   | cons z e ih=>
    simp only [V.evs]at hx
    obtain ⟨y,hy⟩:=ih _ hx
    cases q with
    | gd j' w' P' v'=>simp only [V.ev,V.gd.injEq]at hy;obtain ⟨rfl,rfl,rfl,_⟩:=hy;exact ⟨v',rfl⟩
    | ref k π=>
     have:=bdo k π z
     simp only [V.ev]at hy
     rw [hy]at this;cases this
    | ad k π=>
     have:=bf7 k π z
     simp only [V.ev]at hy
     rw [hy]at this;cases this
    | _=>simp [V.ev]at hy
  obtain ⟨y,hy⟩:=hsh
  obtain ⟨d,h1,h2,h3,h4⟩:=hI t j w P y hy
  obtain ⟨h5,h6⟩:=atv h4
  have h7:gt (wr o.dst v env') d=gt env d:=by rw [apm,if_neg h5,he,bob e _ h3]
  exact ⟨d,h1,h7 ▸ h2,h7 ▸ h3,h6⟩
theorem agd {all:List Oper} {o:Oper} {rest:List Oper} {env:Env} {j dj:Nat} {w:Bool} {v:V} (hI:ac4 all (o::rest) env) (hd:tj all j=some dj) (hg:lx (gt env dj)=true) (hw:wIn dj (o::rest)=false) :
  ac4 all rest (wr o.dst (.gd j w (gc (gt env dj) w) v) env):=by
 intro t i w' P x hx
 rw [apm]at hx
 split at hx
 ·cases hx
  obtain ⟨h5,h6⟩:=atv hw
  have h7:∀ q,gt (wr o.dst q env) dj=gt env dj:=fun q=>by rw [apm,if_neg h5]
  exact ⟨dj,hd,by rw [h7],by rw [h7];exact hg,h6⟩
 ·obtain ⟨d,h1,h2,h3,h4⟩:=hI t i w' P x hx
  obtain ⟨h5,h6⟩:=atv h4
  have h7:∀ q,gt (wr o.dst q env) d=gt env d:=fun q=>by rw [apm,if_neg h5]
  exact ⟨d,h1,by rw [h7];exact h2,by rw [h7];exact h3,h6⟩
theorem bd3 {all:List Oper} {env:Env}:Fs all env []:=fun _ _ h=>by cases h
theorem ah5 {all:List Oper} {K:Env->Mem->Prop}:∀ (ops:List Oper) (env:Env) (M:Mem),ac4 all ops env->twG B Φ all ops env M K->tw B Φ all ops env M K
 | [],_,_,_,h=>h
 | o::rest,env,M,hI,h=>by
  simp only [twG]at h
  simp only [tw]
  cases hgd:o.guard with
  | none=>
   rw [hgd]at h
   obtain ⟨vc,he,hvc⟩:=ak9 (B:=B) (Φ:=Φ) hI bd3 o M
   rw [he]
   generalize evG B Φ all [] o env M=q at h hvc ⊢
   obtain ⟨vc',v,e,M'⟩:=q
   simp only at h hvc ⊢
   cases hv:su v with
   | true=>rw [hv]at h;exact h.elim
   | false=>
    rw [hv]at h
    simp only [cond_false,od]at h
    rw [od]
    exact ⟨hvc h.1,ah5 rest _ _ (aj0 hI hv ⟨e,fun t=>uc t e env⟩) h.2⟩
  | some g=>
   obtain ⟨j,want⟩:=g
   rw [hgd]at h
   simp only at h ⊢
   cases hd:tj all j with
   | none=>rw [hd]at h;exact h.elim
   | some dj=>
    rw [hd]at h
    simp only at h ⊢
    by_cases hG:gc (gt env dj) want
    ·obtain ⟨vc,he,hvc⟩:=ak9 (B:=B) (Φ:=Φ) hI (am6 hI 8 j want dj hd hG) o M
     rw [he]
     generalize evG B Φ all (mn all env 8 j want) o env M=q at h hvc ⊢
     obtain ⟨vc',v,e,M'⟩:=q
     simp only [bt]at h hvc ⊢
     cases h1:lx (gt env dj) <;> rw [h1]at h <;> try exact h.elim
     cases h2:ni o <;> rw [h2]at h <;> try exact h.elim
     cases h3:fresh M e <;> rw [h3]at h <;> try exact h.elim
     cases h4:wIn dj (o::rest) <;> rw [h4]at h <;> try exact h.elim
     simp only [neg,cond_true,cond_false,ah2]at h ⊢
     exact ⟨fun g=>hvc (h.1 g),ah5 rest _ _ (agd hI hd h1 h4) h.2⟩
    ·have hev:(evR B Φ o env M).av=(evG B Φ all (mn all env 8 j want) o env M).av/\(evR B Φ o env M).ev=(evG B Φ all (mn all env 8 j want) o env M).ev/\(evR B Φ o env M).M=(evG B Φ all (mn all env 8 j want) o env M).M:=by
      unfold evR evG
      split
      ·simp only [ad1,au9,dz]
       cases bt [_,_,_] <;> simp [bad]
      ·exact ⟨rfl,rfl,rfl⟩
     generalize evG B Φ all (mn all env 8 j want) o env M=q at h hev ⊢
     generalize evR B Φ o env M=q2 at hev ⊢
     obtain ⟨vc',v,e,M'⟩:=q
     obtain ⟨vc2,v2,e2,M2⟩:=q2
     simp only at hev
     obtain ⟨rfl,rfl,rfl⟩:=hev
     simp only [bt]at h ⊢
     cases h1:lx (gt env dj) <;> rw [h1]at h <;> try exact h.elim
     cases h2:ni o <;> rw [h2]at h <;> try exact h.elim
     cases h3:fresh M e2 <;> rw [h3]at h <;> try exact h.elim
     cases h4:wIn dj (o::rest) <;> rw [h4]at h <;> try exact h.elim
     simp only [neg,cond_true,cond_false,ah2]at h ⊢
     exact ⟨fun g=>absurd g hG,ah5 rest _ _ (agd hI hd h1 h4) h.2⟩
theorem bp5 {M M':Mem} (v:V):su (avF M M' v)=false:=by
 cases v with
 | ref k π=>
  simp only [avF]
  split
  ·rfl
  ·split
   ·exact ay1 _ _
   ·rfl
 | ad k π=>
  simp only [avF]
  split
  ·rfl
  ·split <;> rfl
 | _=>rfl
theorem bb2 {all tl:List Oper} {K K':Env->Prop} (hK:∀ env,ac4 all tl env->K' env->K env):∀ (ops:List Oper) (env:Env) (M:Mem),ac4 all (ops++tl) env->dwG B Φ all tl ops env M K'->dw B Φ all ops env M K
 | [],env,_,hI,h=>hK env hI h
 | o::rest,env,M,hI,h=>by
  simp only [dwG]at h
  simp only [dw]
  cases hgd:o.guard with
  | none=>
   rw [hgd]at h
   obtain ⟨vc,he,hvc⟩:=ak9 (B:=B) (Φ:=Φ) hI bd3 o M
   rw [he]
   generalize evG B Φ all [] o env M=q at h hvc ⊢
   obtain ⟨vc',v,e,M'⟩:=q
   simp only [bt]at h hvc ⊢
   cases h2:ni o <;> rw [h2]at h <;> try exact h.elim
   cases h3:fresh M e <;> rw [h3]at h <;> try exact h.elim
   simp only [cond_true,od]at h
   simp only [cond_true]
   rw [od]
   exact ⟨hvc h.1,bb2 hK rest _ _ (aj0 hI (bp5 v) ⟨[],fun t=>rfl⟩) h.2⟩
  | some g=>
   obtain ⟨j,want⟩:=g
   rw [hgd]at h
   simp only at h ⊢
   cases hd:tj all j with
   | none=>rw [hd]at h;exact h.elim
   | some dj=>
    rw [hd]at h
    simp only at h ⊢
    have hev:(evR B Φ o env M).av=(evG B Φ all (mn all env 8 j want) o env M).av/\(evR B Φ o env M).ev=(evG B Φ all (mn all env 8 j want) o env M).ev/\(evR B Φ o env M).M=(evG B Φ all (mn all env 8 j want) o env M).M/\
      (gc (gt env dj) want->ae (evG B Φ all (mn all env 8 j want) o env M).vc->ae (evR B Φ o env M).vc):=by
     refine ⟨?_,?_,?_,fun hG=>?_⟩
     ·unfold evR evG
      split
      ·simp only [ad1,au9,dz]
       cases bt [_,_,_] <;> rfl
      ·rfl
     ·unfold evR evG
      split <;> rfl
     ·unfold evR evG
      split <;> rfl
     ·obtain ⟨vc,he,hvc⟩:=ak9 (B:=B) (Φ:=Φ) hI (am6 hI 8 j want dj hd hG) o M
      rw [he];exact hvc
    generalize evG B Φ all (mn all env 8 j want) o env M=q at h hev ⊢
    generalize evR B Φ o env M=q2 at hev ⊢
    obtain ⟨vc',v,e,M'⟩:=q
    obtain ⟨vc2,v2,e2,M2⟩:=q2
    simp only at hev
    obtain ⟨rfl,rfl,rfl,hvc⟩:=hev
    simp only [bt]at h ⊢
    cases h1:lx (gt env dj) <;> rw [h1]at h <;> try exact h.elim
    cases h2:ni o <;> rw [h2]at h <;> try exact h.elim
    cases h3:fresh M e2 <;> rw [h3]at h <;> try exact h.elim
    cases h4:wIn dj (o::rest) <;> rw [h4]at h <;> try exact h.elim
    cases h5:wIn dj tl <;> rw [h5]at h <;> try exact h.elim
    simp only [neg,cond_true,cond_false,ah2]at h ⊢
    have h6:wIn dj (o::(rest++tl))=false:=by
     have:=(bfu (a:=o::rest) (b:=tl)).2 ⟨h4,h5⟩
     simpa using this
    exact ⟨fun g=>hvc g (h.1 g),bb2 hK rest _ _ (agd hI hd h1 h6) h.2⟩
theorem ah7 {all rest:List Oper}:∀ {env:Env},nogd env=true->ac4 all rest env:=by
 intro env h t j w P v hx
 exfalso
 induction env with
 | nil=>simp [gt]at hx
 | cons p env ih=>
  obtain ⟨k,u0⟩:=p
  simp only [nogd]at h
  cases hu:su u0 with
  | true=>rw [hu]at h;cases h
  | false=>
   rw [hu]at h
   simp only [gt]at hx
   cases hb:Nat.beq k t with
   | true=>rw [hb]at hx;simp only [cond_true]at hx;subst hx;cases hu
   | false=>rw [hb]at hx;exact ih h hx
end Go.Bm
/- The gi machine:drawn regions that make boxes and fill them. -/
namespace Go.Bm
open Go.RowKit
variable {B:Tab} {Φ:FuncId->Option Ct}
theorem ah6 (e:Ev):∀ v:V,cd v=true->v.ev e=v
 | .d _ _,_=>rfl
 | .nl,_=>rfl
 | .np,_=>rfl
 | .u,_=>rfl
 | .p a b,h=>by
  simp only [cd,bc,Bool.and_eq_true]at h
  simp only [V.ev,ah6 e a h.1,ah6 e b h.2]
 | .ag v,h=>by simp only [cd]at h;simp only [V.ev,ah6 e v h]
 | .fn f v,h=>by simp only [cd]at h;simp only [V.ev,ah6 e v h]
 | .bx v,h=>by simp only [cd]at h;simp only [V.ev,ah6 e v h]
 | .any,h=>by cases h
 | .ref _ _,h=>by cases h
 | .ad _ _,h=>by cases h
 | .tup _,h=>by cases h
 | .gd _ _ _ _,h=>by cases h
 | .ifc _ _,h=>by cases h
theorem anz (M:Mem):∀ v:V,cd v=true->v.size M=v.size []
 | .d _ _,_=>rfl
 | .nl,_=>rfl
 | .np,_=>rfl
 | .u,_=>rfl
 | .p a b,h=>by
  simp only [cd,bc,Bool.and_eq_true]at h
  simp only [V.size,anz M a h.1,anz M b h.2]
 | .ag v,h=>rfl
 | .fn f v,h=>rfl
 | .bx v,h=>rfl
 | .any,h=>by cases h
 | .ref _ _,h=>by cases h
 | .ad _ _,h=>by cases h
 | .tup _,h=>by cases h
 | .gd _ _ _ _,h=>by cases h
 | .ifc _ _,h=>by cases h
theorem ahg (M:Mem) (v:V) (n:Nat) (h:cd v=true):l8 M v n=l8 [] v n:=by simp only [l8,anz M v h]
theorem amw (M:Mem):∀ (π:b9) (v:V),cd v=true->fw M π v=fw [] π v/\∀ n x,fw [] π v=some (n,x)->cd x=true
 | [],v,h=>by
  simp only [fw,Option.some.injEq,Prod.mk.injEq]
  exact ⟨trivial,fun n x e=>e.2 ▸ h⟩
 | .l::π,.p a b,h=>by
  simp only [cd,bc,Bool.and_eq_true]at h
  simp only [fw]
  exact amw M π a h.1
 | .r::π,.p a b,h=>by
  simp only [cd,bc,Bool.and_eq_true]at h
  obtain ⟨e1,e2⟩:=amw M π b h.2
  simp only [fw,e1,anz M a h.1]
  refine ⟨trivial,fun n x hx=>?_⟩
  split at hx
  ·rename_i m n' x' _ h2;cases hx;exact e2 _ _ h2
  ·cases hx
 | .de::π,.p a b,_=>by simp [fw]
 | .ix _::π,.p a b,_=>by simp [fw]
 | .l::π,.d _ _,_=>by simp [fw]
 | .r::π,.d _ _,_=>by simp [fw]
 | .de::π,.d _ _,_=>by simp [fw]
 | .ix _::π,.d _ _,_=>by simp [fw]
 | _::π,.nl,_=>by simp [fw]
 | _::π,.np,_=>by simp [fw]
 | _::π,.u,_=>by simp [fw]
 | _::π,.ag _,_=>by simp [fw]
 | _::π,.fn _ _,_=>by simp [fw]
 | _::π,.bx _,_=>by simp [fw]
 | _::_,.any,h=>by cases h
 | _::_,.ref _ _,h=>by cases h
 | _::_,.ad _ _,h=>by cases h
 | _::_,.tup _,h=>by cases h
 | _::_,.gd _ _ _ _,h=>by cases h
 | _::_,.ifc _ _,h=>by cases h
theorem bdi (M:Mem) (x:V) (π:b9) (off:Nat) (h:cd x=true):ago M x π off=ago [] x π off:=by
 cases x <;> first | rfl | (simp only [cd]at h;simp only [ago,(amw M π _ h).1];done) | (cases h;done) | (rename_i t x;cases t <;> rfl)
theorem bh7 (τ:Ty) (M:Mem) (x:V) (i:Nat) (h:cd x=true):aca τ M x i=aca τ [] x i:=by
 simp only [aca,bdi M x _ _ h]
theorem bjh (τ:Ty) (M:Mem) (x:V) (i:Nat) (h:cd x=true):afo B τ M x i=afo B τ [] x i:=by
 unfold afo
 split
 ·rename_i off ft _ v _
  simp only [cd]at h
  obtain ⟨e1,e2⟩:=amw M (aea (len τ.fld) i) v h
  rw [e1]
  cases hs:fw [] (aea (len τ.fld) i) v with
  | none=>rfl
  | some q=>obtain ⟨n,w⟩:=q;simp only [ahg M w _ (e2 _ _ hs)]
 ·rfl
theorem bkl (τ:Ty) (M:Mem) (x i:V) (h:cd x=true):afg B τ M x i=afg B τ [] x i:=by
 unfold afg
 split
 ·cases x <;> first | rfl | (cases h;done) | (rename_i t x;cases t <;> rfl)
 ·rfl
theorem bj7 (τ:Ty) (M:Mem) (x i:V) (h:cd x=true):aff B τ M x i=aff B τ [] x i:=by
 unfold aff
 split
 ·simp only [ba2,bdi M x _ _ h]
 ·exact bkl τ M x i h
theorem bg7 (τ:Ty) (M:Mem) (x:V) (h:cd x=true):ur τ M x=ur τ [] x:=by
 cases x <;> first | rfl | (simp only [cd]at h;simp only [ur,ahg M _ _ h];done) | (cases h;done) | (rename_i t x;cases t <;> rfl)
theorem afs {v:V} (h:cd v=true):v.strip=v:=by cases v <;> first | rfl | cases h
theorem ads {env:Env}:∀ {l:List Operand},ait env l=true->∀ x ∈ l,cd (rd env x)=true
 | [],_,x,h=>by cases h
 | y::l,hd,x,h=>by
  simp only [ait,bc,Bool.and_eq_true]at hd
  cases h with
  | head=>exact hd.1
  | tail _ h=>exact ads hd.2 x h
theorem ay0 {f:Operand->V}:∀ (l:List Operand),(∀ x ∈ l,cd (f x)=true)->nf f l=[]
 | [],_=>rfl
 | x::r,h=>by
  have hx:=h x (by simp)
  simp only [nf]
  split
  ·rename_i e;rw [e]at hx;cases hx
  ·exact ay0 r fun y hy=>h y (by simp [hy])
theorem blg {o:Oper} {env:Env} (M:Mem) (hk:acs o.op=true) (hd:ait env (cu o.op)=true) {vc:List Prop} {v:V} (h:evR B Φ o env []=⟨vc,v,[],[]⟩) :
  evR B Φ o env M=⟨vc,v,[],M⟩:=by
 have hm:=ads hd
 obtain ⟨dst,op,ty',pos,after,guard⟩:=o
 cases op <;> simp only [acs,Bool.false_eq_true]at hk <;> simp only [cu]at hm <;> simp only [evR,ew]at h ⊢ <;> (try simp only [dz]at h ⊢;cases h)
 case load t x=>
  have hx:=hm x (by simp)
  have hn:∀ N:Mem,ab6 (B.τ t) N dst (rd env x)=none:=fun N=>by
   generalize rd env x=v at hx
   cases v <;> first | rfl | (simp [cd]at hx)
  simp only [afs hx,sj,hn,dz]at h ⊢
  simp only [bg7 _ M _ hx]
  simp only [Rs.mk.injEq]at h ⊢
  exact ⟨h.1,h.2.1,trivial,trivial⟩
 case fieldAddr t x i=>
  have hx:=hm x (by simp)
  simp only [afs hx,bh7 _ M _ _ hx]
 case field t x i=>
  have hx:=hm x (by simp)
  simp only [afs hx,bjh _ M _ _ hx]
 case indexAddr t x i=>
  have hx:=hm x (by simp)
  simp only [afs hx,bj7 _ M _ _ hx]
 all_goals rfl
theorem aey (k:Nat) (M M':Mem):∀ (t:T) (v:V),cd v=true->∀ q e X,conv k t v M'=some (q,e,X)->e=[]/\X=M'/\conv k t v M=some (q,[],M):=by
 intro t v
 induction v generalizing t with
 | p a b iha ihb=>
  intro h q e X hc
  simp only [cd,bc,Bool.and_eq_true]at h
  cases t <;> simp only [conv]at hc <;> try cases hc
  rename_i t1 t2
  cases h1:conv k t1 a M' with
  | none=>rw [h1]at hc;cases hc
  | some r=>
   obtain ⟨q1,e1,X1⟩:=r
   rw [h1]at hc
   obtain ⟨rfl,hX1,i1⟩:=iha _ h.1 _ _ _ h1
   rw [hX1]at hc
   simp only [V.evs]at hc
   cases h2:conv k t2 b M' with
   | none=>rw [h2]at hc;cases hc
   | some r2=>
    obtain ⟨q2,e2,X2⟩:=r2
    rw [h2]at hc
    obtain ⟨rfl,hX2,i2⟩:=ihb _ h.2 _ _ _ h2
    cases hc
    refine ⟨rfl,hX2,?_⟩
    simp only [conv,i1,V.evs,i2,ap]
 | u=>intro _ q e X hc;cases t <;> simp only [conv]at hc ⊢ <;> cases hc <;> exact ⟨rfl,rfl,rfl⟩
 | d t' x=>intro _ q e X hc;cases t <;> simp only [conv]at hc ⊢ <;> cases hc <;> exact ⟨rfl,rfl,rfl⟩
 | nl=>intro _ q e X hc;cases t <;> simp only [conv]at hc ⊢ <;> cases hc <;> exact ⟨rfl,rfl,rfl⟩
 | np=>intro _ q e X hc;cases t <;> simp only [conv]at hc ⊢ <;> cases hc <;> exact ⟨rfl,rfl,rfl⟩
 | fn f v ih=>
  intro h q e X hc
  cases v <;> cases t <;> simp only [conv]at hc ⊢ <;> cases hc <;> exact ⟨rfl,rfl,rfl⟩
 | ag v ih=>intro _ q e X hc;cases t <;> simp only [conv]at hc <;> cases hc
 | bx v ih=>intro _ q e X hc;cases t <;> simp only [conv]at hc <;> cases hc
 | _=>intro h;cases h
theorem ay6 {v:V} (h:cd v=true):cd v.cells=true:=by cases v <;> exact h
theorem bi2 (d:Nat) (ob:Ob):go [(d,ob)] d=some ob:=by rw [fx,if_pos rfl]
theorem bgv {x y:V} {M:Mem} {r:Rs} (h:cd y=true):ail x y M r=r:=by
 unfold ail
 split
 ·cases h
 ·rfl
theorem bgq {t:TypeId} {x y:V} {M:Mem} (h:cd y=true):afa B t x y M=x5 B t x y M:=by
 unfold afa bay
 split
 ·rename_i c y' e M1 hq
  split at hq
  ·cases h
  ·cases hq
 ·rfl
theorem bk2 {t:TypeId} {d:Nat} {y:V} {ob ob':Ob} {M:Mem} (hy:cd y=true) (hg:go M d=some ob) (h:bmp d (x5 B t (.ad d [.de]) y [(d,ob)])=some ob') :
  ∃ v e,x5 B t (.ad d [.de]) y M=⟨[],v,[e],put d ob' M⟩/\∃ o o',e=.cut d o o'/\aag (qw [.de] o) (qw [.de] o')=true:=by
 have hcy:=ay6 hy
 simp only [x5,bi2,hg,pb]at h ⊢
 cases hq:get [.de] ob.o ob.x with
 | none=>rw [hq]at h;cases h
 | some q=>
  rw [hq]at h
  simp only [ahg M y.cells _ hcy,ahg [(d,ob)] y.cells _ hcy]at h ⊢
  cases hb:bt [(B.τ t).ok,l8 [] y.cells (B.τ t).size,gl q.o.strip.size (B.τ t).size,neg (isZ (B.τ t).size)]with
  | false=>rw [hb]at h;cases h
  | true=>
   rw [hb]at h
   simp only [cond_true,ajy,cond_false]at h ⊢
   cases hc:conv d (B.σ t) y.cells []with
   | none=>
    exfalso
    cases hc':conv d (B.σ t) y.cells [(d,ob)]with
    | none=>rw [hc']at h;cases h
    | some r=>
     obtain ⟨q',e',X'⟩:=r
     obtain ⟨_,_,c3⟩:=aey d [] [(d,ob)] _ _ hcy _ _ _ hc'
     rw [c3]at hc;cases hc
   | some r=>
    obtain ⟨z,e,X⟩:=r
    obtain ⟨rfl,rfl,c1⟩:=aey d M [] _ _ hcy _ _ _ hc
    obtain ⟨_,_,c2⟩:=aey d [(d,ob)] [] _ _ hcy _ _ _ hc
    rw [c2]at h
    rw [c1]
    simp only [bi2,hg]at h ⊢
    cases hs:set [.de] ob.o ob.x z with
    | none=>rw [hs]at h;cases h
    | some ob2=>
     rw [hs]at h
     simp only at h ⊢
     cases hz:gl z.o.strip.size (B.τ t).size with
     | false=>rw [hz]at h;cases h
     | true=>
      rw [hz]at h
      simp only [cond_true,ap]at h ⊢
      have hcl:bdz [.de] ob2=none:=rfl
      simp only [hcl]at h ⊢
      have hp:put d ob2 [(d,ob)]=[(d,ob2)]:=by simp only [put,dv,if_true]
      rw [hp]at h
      simp only [bmp,Nat.beq_refl,cond_true,Option.some.injEq]at h
      subst h
      refine ⟨_,_,rfl,_,_,rfl,?_⟩
      obtain ⟨oo,xx⟩:=ob
      cases oo <;> simp only [set]at hs <;> cases hs
      rfl
def bhl (B:Tab) (Φ:FuncId->Option Ct) (o:Oper) (e:Env) (x:Mem) (e':Env) (x':Mem):Prop:=
 o.guard=none/\(
  (∃ ty d,o.op=.alloc ty/\o.dst=some d/\bt [(B.τ ty).ok,B.z ty]=true/\go x d=none/\e'=(d,.ad d [.de])::e/\x'=(d,ake B ty)::x)\/
  (∃ t d y ob ob',o.op=.store t (.tmp d) y/\o.dst=none/\go x d=some ob/\cd (rd e y)=true/\bm9 d (gt e d)=true/\bmp d (x5 B t (.ad d [.de]) (rd e y) [(d,ob)])=some ob'/\e'=e/\x'=put d ob' x)\/
  (∃ d vc v,o.dst=some d/\acs o.op=true/\ait e (cu o.op)=true/\evR B Φ o e []=⟨vc,v,[],[]⟩/\cd v=true/\ae vc/\e'=(d,v)::e/\x'=x))
theorem bfy {k:Nat}:∀ {l:List Nat},k ∈ l->inN k l=true
 | j::r,h=>by
  simp only [inN]
  cases h with
  | head=>rw [Nat.beq_refl];rfl
  | tail _ h=>cases Nat.beq j k <;> simp [bfy h]
theorem bbr {k:Nat}:∀ {l:List Oper} {s:Nat} {o:Oper},l[s]? = some o->tgt o=some k->k ∈ agx l
 | [],s,o,h,_=>by simp at h
 | x::r,0,o,h,ht=>by
  simp only [List.getElem?_cons_zero,Option.some.injEq]at h
  subst h
  simp [agx,ht]
 | x::r,s+1,o,h,ht=>by
  simp only [List.getElem?_cons_succ]at h
  have:=bbr h ht
  simp only [agx]
  split
  ·exact List.mem_cons_of_mem _ this
  ·exact this
theorem ayz {k:Nat}:∀ {l:List Oper},aik (agx l)=true->∀ {s s':Nat} {o o':Oper},l[s]? = some o->l[s']? = some o'->tgt o=some k->tgt o'=some k->s=s'
 | [],_,s,_,o,_,h,_,_,_=>by simp at h
 | x::r,hn,s,s',o,o',h,h',ht,ht'=>by
  have hr:aik (agx r)=true:=by
   simp only [agx]at hn
   split at hn
   ·rename_i d0 _
    simp only [aik]at hn
    cases hi:inN d0 (agx r)with
    | true=>rw [hi]at hn;cases hn
    | false=>rw [hi]at hn;exact hn
   ·exact hn
  have hx:tgt x=some k->∀ (s:Nat) (o:Oper),r[s]? = some o->tgt o=some k->False:=fun hx s o ho hto=>by
   have:=bfy (bbr ho hto)
   simp only [agx,hx,aik,this,cond_true]at hn
   cases hn
  cases s with
  | zero=>
   simp only [List.getElem?_cons_zero,Option.some.injEq]at h
   subst h
   cases s' with
   | zero=>rfl
   | succ s'=>exact (hx ht s' o' (by simpa using h') ht').elim
  | succ s=>
   simp only [List.getElem?_cons_succ]at h
   cases s' with
   | zero=>
    simp only [List.getElem?_cons_zero,Option.some.injEq]at h'
    subst h'
    exact (hx ht' s o h ht).elim
   | succ s'=>rw [ayz hr h (by simpa using h') ht ht']
theorem aeh {k:Nat} {o o':O}:∀ v:V,v.ev (.kl k)=v->v.ev (.cut k o o')=v
 | .ref r π,h=>by
  simp only [V.ev,Ev.ref]at h ⊢
  cases hb:Nat.beq r k with
  | true=>rw [hb]at h;cases h
  | false=>rfl
 | .ad r π,h=>by
  simp only [V.ev,Ev.ad]at h ⊢
  cases hb:Nat.beq r k with
  | true=>rw [hb]at h;cases h
  | false=>rfl
 | .p a b,h=>by
  simp only [V.ev,V.p.injEq]at h ⊢
  exact ⟨aeh a h.1,aeh b h.2⟩
 | .ag v,h=>by simp only [V.ev,V.ag.injEq]at h ⊢;exact aeh v h
 | .tup v,h=>by simp only [V.ev,V.tup.injEq]at h ⊢;exact aeh v h
 | .gd _ _ _ v,h=>by simp only [V.ev,V.gd.injEq,true_and]at h ⊢;exact aeh v h
 | .fn _ v,h=>by simp only [V.ev,V.fn.injEq,true_and]at h ⊢;exact aeh v h
 | .ifc _ v,h=>by simp only [V.ev,V.ifc.injEq,true_and]at h ⊢;exact aeh v h
 | .bx v,h=>by simp only [V.ev,V.bx.injEq]at h ⊢;exact aeh v h
 | .any,_=>rfl
 | .nl,_=>rfl
 | .np,_=>rfl
 | .u,_=>rfl
 | .d _ _,_=>rfl
theorem St.same {F:Fr} {p:Ow} {env env':Env} {M M':Mem} {a:Act} {w:World} (h:St F p env M a w) (hM:∀ k,go M' k=go M k) (he:∀ t,gt env' t=gt env t):St F p env' M' a w:=by
 have hl:∀ k,er M' k<->er M k:=fun k=>by simp only [er,hM]
 have hi:Imm F p M' w=Imm F p M w:=by
  funext b
  simp only [Imm,hl]
 have hp:Hp F p M' w:=by
  refine ⟨fun k ob hk=>?_,fun k k' b h1 h2 h3=>h.hp.sep k k' b h1 ((hl k).1 h2) ((hl k').1 h3),fun k b h1=>h.hp.own k b ((hl k).1 h1),fun b hb=>⟨(h.hp.lim b hb).1,(h.hp.lim b hb).2.1,fun k hk=>(h.hp.lim b hb).2.2 k ((hl k).1 hk)⟩,h.hp.os,h.hp.tape,h.hp.output,h.hp.size,h.hp.old⟩
  rw [hi]
  exact h.hp.objs k ob (by rw [← hM];exact hk)
 have ht:Tr F p M w [] p M' w:=Tr.zero (by rw [hi];exact jc.refl _ _) (fun k π vs r=>r.same h.hp (hM k) rfl fun _ _ _=>rfl) (fun k π v r=>r.same h.hp (hM k) rfl fun _ _ _=>rfl) hp
 exact (h.tr ht h.lz).weak fun t=>.inr (by rw [he];rfl)
section
variable {F:Fr} {P:Program} {all:Array Oper} {E:Nat->Env} {X:Nat->Mem} {M0:Mem}
structure Sta (B:Tab) (all:Array Oper) (E:Nat->Env) (X:Nat->Mem) (M0:Mem) (listed:Array Bool) (env:Env) (M:Mem):Prop where
 a:∀ t,(∀ (i:Nat) (o:Oper),all[i]? = some o->isL listed i->o.dst ≠ some t)->gt env t=gt (E 0) t
 b:∀ (i:Nat) (o:Oper) (t:Nat),all[i]? = some o->isL listed i->o.dst=some t->gt env t=gt (E (i+1)) t
 c:∀ k,(∀ (i:Nat) (o:Oper) (ty:TypeId),all[i]? = some o->isL listed i->o.op=.alloc ty->o.dst ≠ some k)->go M k=go M0 k
 d:∀ (i:Nat) (o:Oper) (k:Nat) (ty:TypeId),all[i]? = some o->isL listed i->o.op=.alloc ty->o.dst=some k->(∀ (s:Nat) (o':Oper),all[s]? = some o'->isL listed s->tgt o' ≠ some k)->go M k=some (ake B ty)
 s:∀ (s:Nat) (o:Oper) (k:Nat),all[s]? = some o->isL listed s->tgt o=some k->go M k=go (X (s+1)) k
structure Ctx (B:Tab) (Φ:FuncId->Option Ct) (all:Array Oper) (E:Nat->Env) (X:Nat->Mem) (M0:Mem):Prop where
 hb:ww 0 all.toList=true
 hdr:af9 all (g8 [] all.toList) all.size=true
 hnd:aik (agx all.toList)=true
 hE:∀ (j:Nat) (o:Oper),all[j]? = some o->bhl B Φ o (E j) (X j) (E (j+1)) (X (j+1))
 hX:X 0=[]
 h0:∀ t (i:Nat) (o:Oper) (ty:TypeId) (k:Nat),all[i]? = some o->o.op=.alloc ty->o.dst=some k->(gt (E 0) t).ev (.kl k)=gt (E 0) t
 hM:∀ (i:Nat) (o:Oper) (ty:TypeId) (k:Nat),all[i]? = some o->o.op=.alloc ty->o.dst=some k->go M0 k=none
theorem Ctx.uniq (C:Ctx B Φ all E X M0) {i j:Nat} {x y:Oper} {t:Nat} (hx:all[i]? = some x) (hy:all[j]? = some y) (h1:x.dst=some t) (h2:y.dst=some t):i=j:=by
 rcases Nat.decEq i j with h | h
 ·exact absurd h2 (amr (mh C.hdr (Array.getElem?_eq_some_iff.1 hx).1 (Array.getElem?_eq_some_iff.1 hy).1 h hx hy) h1)
 ·exact h
theorem Ctx.tuniq (C:Ctx B Φ all E X M0) {i j:Nat} {x y:Oper} {t:Nat} (hx:all[i]? = some x) (hy:all[j]? = some y) (h1:tgt x=some t) (h2:tgt y=some t):i=j:=
 ayz C.hnd (by rw [px];exact hx) (by rw [px];exact hy) h1 h2
theorem bk9 {o:Oper} {e e':Env} {x x':Mem} (h:bhl B Φ o e x e' x'):e'=wr o.dst (match o.dst with | some d=>gt e' d | none=>.any) e:=by
 obtain ⟨_,⟨ty,d,_,hd,_,_,rfl,_⟩ | ⟨t,d,y,ob,ob',_,hd,_,_,_,_,rfl,_⟩ | ⟨d,vc,v,hd,_,_,_,_,_,rfl,_⟩⟩:=h
 ·rw [hd];simp only [wr,im,if_true]
 ·rw [hd];rfl
 ·rw [hd];simp only [wr,im,if_true]
theorem azr {o:Oper} {e e':Env} {x x':Mem} {t:Nat} (h:bhl B Φ o e x e' x') (ht:o.dst=some t):cd (gt e' t)=true\/gt e' t=.ad t [.de]:=by
 obtain ⟨_,⟨ty,d,_,hd,_,_,rfl,_⟩ | ⟨_,d,y,ob,ob',_,hd,_,_,_,_,rfl,_⟩ | ⟨d,vc,v,hd,_,_,_,hv,_,rfl,_⟩⟩:=h
 ·rw [hd]at ht;cases ht;right;simp only [im,if_true]
 ·rw [hd]at ht;cases ht
 ·rw [hd]at ht;cases ht;left;simp only [im,if_true];exact hv
theorem Ctx.spec (C:Ctx B Φ all E X M0):∀ (j:Nat),j<=all.size->∀ k ob,go (X j) k=some ob->
  ∃ (i:Nat) (o:Oper) (ty:TypeId),i < j/\all[i]? = some o/\o.op=.alloc ty/\o.dst=some k/\((∀ (s:Nat) (o':Oper),s < j->all[s]? = some o'->tgt o' ≠ some k)->ob=ake B ty)
 | 0,_,k,ob,h=>by rw [C.hX]at h;cases h
 | j+1,hj,k,ob,h=>by
  have ho:all[j]? = some all[j]:=Array.getElem?_eq_getElem (by omega)
  have up:∀ {ob2},go (X j) k=some ob2->(ob2=ob\/tgt all[j]=some k)->∃ (i:Nat) (o:Oper) (ty:TypeId),i < j+1/\all[i]? = some o/\o.op=.alloc ty/\o.dst=some k/\((∀ (s:Nat) (o':Oper),s < j+1->all[s]? = some o'->tgt o' ≠ some k)->ob=ake B ty):=by
   intro ob2 h2 h3
   obtain ⟨i,o,ty,i1,i2,i3,i4,i5⟩:=C.spec j (by omega) k ob2 h2
   refine ⟨i,o,ty,by omega,i2,i3,i4,fun hs=>?_⟩
   rcases h3 with h3 | h3
   ·rw [← h3];exact i5 fun s o' hs'=>hs s o' (by omega)
   ·exact absurd h3 (hs j _ (by omega) ho)
  obtain ⟨_,⟨ty,d,hop,hd,_,hx,_,e⟩ | ⟨t,d,y,ob1,ob',hop,hd,hx,_,_,_,_,e⟩ | ⟨d,vc,v,hd,_,_,_,hv,_,_,e⟩⟩:=C.hE j _ ho
  ·rw [e,fx]at h
   split at h
   ·rename_i hk;subst hk;cases h
    exact ⟨j,_,ty,by omega,ho,hop,hd,fun _=>rfl⟩
   ·exact up h (.inl rfl)
  ·rw [e]at h
   by_cases hk:k=d
   ·subst hk;exact up hx (.inr (by simp only [tgt,hop]))
   ·rw [kv _ hk]at h;exact up h (.inl rfl)
  ·rw [e]at h;exact up h (.inl rfl)
theorem Ctx.fresh (C:Ctx B Φ all E X M0) {i:Nat} {o:Oper} {k:Nat} {ty:TypeId} (hi:all[i]? = some o) (h1:o.op=.alloc ty) (h2:o.dst=some k):∀ (j:Nat),j<=all.size->i < j->(∀ (s:Nat) (o':Oper),s < j->all[s]? = some o'->tgt o' ≠ some k)->go (X j) k=some (ake B ty)
 | 0,_,h,_=>by omega
 | j+1,hj,h,hs=>by
  have ho:all[j]? = some all[j]:=Array.getElem?_eq_getElem (by omega)
  obtain ⟨_,⟨ty',d,hop,hd,_,hx,_,e⟩ | ⟨t,d,y,ob1,ob',hop,hd,hx,_,_,_,_,e⟩ | ⟨d,vc,v,hd,hpk,_,_,hv,_,_,e⟩⟩:=C.hE j _ ho
  ·rw [e,fx]
   by_cases hk:d=k
   ·subst hk
    have:=C.uniq hi ho h2 hd
    subst this
    rw [hi]at ho;cases ho
    rw [if_pos rfl]
    rw [h1]at hop;cases hop;rfl
   ·rw [if_neg hk]
    have hij:i ≠ j:=fun hij=>by subst hij;rw [hi]at ho;cases ho;rw [h2]at hd;cases hd;exact hk rfl
    exact C.fresh hi h1 h2 j (by omega) (by omega) fun s o' hs'=>hs s o' (by omega)
  ·have hij:i ≠ j:=fun hij=>by subst hij;rw [hi]at ho;cases ho;rw [h2]at hd;cases hd
   have hk:k ≠ d:=fun hk=>hs j _ (by omega) ho (by subst hk;simp only [tgt,hop])
   rw [e,kv _ hk]
   exact C.fresh hi h1 h2 j (by omega) (by omega) fun s o' hs'=>hs s o' (by omega)
  ·have hij:i ≠ j:=fun hij=>by
    subst hij;rw [hi]at ho;cases ho
    rw [h1]at hpk;cases hpk
   rw [e]
   exact C.fresh hi h1 h2 j (by omega) (by omega) fun s o' hs'=>hs s o' (by omega)
theorem Ctx.alloc_of (C:Ctx B Φ all E X M0) {s:Nat} {o:Oper} {k:Nat} (hs:all[s]? = some o) (ht:tgt o=some k) :
  ∃ (i:Nat) (x:Oper) (ty:TypeId),i < s/\all[i]? = some x/\x.op=.alloc ty/\x.dst=some k/\go (X s) k=some (ake B ty):=by
 have hlt:=(Array.getElem?_eq_some_iff.1 hs).1
 obtain ⟨_,⟨ty,d,hop,hd,_,hx,_,e⟩ | ⟨t,d,y,ob1,ob',hop,hd,hx,_,_,_,_,e⟩ | ⟨d,vc,v,hd,hpk,_,_,hv,_,_,e⟩⟩:=C.hE s _ hs
 ·simp only [tgt,hop]at ht;cases ht
 ·simp only [tgt,hop,Option.some.injEq]at ht
  subst ht
  obtain ⟨i,x,ty,i1,i2,i3,i4,i5⟩:=C.spec s (by omega) d ob1 hx
  refine ⟨i,x,ty,i1,i2,i3,i4,?_⟩
  rw [hx,i5 fun s' o' h1 h2 h3=>?_]
  have:=C.tuniq h2 hs h3 (by simp only [tgt,hop])
  omega
 ·exfalso
  unfold tgt at ht
  split at ht
  ·rename_i hop;rw [hop]at hpk;cases hpk
  ·cases ht
theorem Ctx.kept (C:Ctx B Φ all E X M0) {s:Nat} {o:Oper} {k:Nat} (hs:all[s]? = some o) (ht:tgt o=some k):∀ (j:Nat),j<=all.size->s < j->go (X j) k=go (X (s+1)) k
 | 0,_,h=>by omega
 | j+1,hj,h=>by
  by_cases e:s=j
  ·rw [e]
  ·have ho:all[j]? = some all[j]:=Array.getElem?_eq_getElem (by omega)
   rw [← C.kept hs ht j (by omega) (by omega)]
   obtain ⟨i,x,ty0,i1,i2,i3,i4,_⟩:=C.alloc_of hs ht
   obtain ⟨_,⟨ty',d,hop,hd,_,hx,_,e⟩ | ⟨t,d,y,ob1,ob',hop,hd,hx,_,_,_,_,e⟩ | ⟨d,vc,v,hd,hpk,_,_,hv,_,_,e⟩⟩:=C.hE j _ ho
   ·rw [e,fx,if_neg]
    intro hk;subst hk
    have:=C.uniq i2 ho i4 hd
    omega
   ·rw [e,kv]
    intro hk;subst hk
    have:=C.tuniq hs ho ht (by simp only [tgt,hop])
    omega
   ·rw [e]
theorem Ctx.gts (C:Ctx B Φ all E X M0) (j t:Nat) (hj:j<=all.size) :
  ((∀ (i:Nat) (o:Oper),all[i]? = some o->i < j->o.dst ≠ some t)->gt (E j) t=gt (E 0) t)/\
  (∀ (i:Nat) (o:Oper),all[i]? = some o->i < j->o.dst=some t->gt (E j) t=gt (E (i+1)) t):=by
 have hw:∀ (j:Nat) (o:Oper),all.toList[j]? = some o->E (j+1)=wr o.dst (match all[j]? with | some o=>(match o.dst with | some d=>gt (E (j+1)) d | none=>.any) | none=>.any) (E j):=fun j o hj=>by
  rw [px]at hj
  rw [hj]
  exact bk9 (C.hE j o hj)
 obtain ⟨a1,a2⟩:=ane hw j t (by simpa using hj)
 refine ⟨fun h=>a1 fun i o hi=>h i o (by rwa [px]at hi),fun i o hi hlt hd=>?_⟩
 rw [a2 i o (by rw [px];exact hi) hlt hd fun i' o' hi' _ hd'=>C.uniq (by rwa [px]at hi') hi hd' hd]
 simp only [hi,hd]
theorem ale {listed:Array Bool} {i j:Nat} (hj:j < listed.size):isL (listed.setIfInBounds j true) i<->i=j\/isL listed i:=by
 by_cases e:i=j
 ·subst e;simp [isL,hj]
 ·unfold isL
  rw [getD_set_ne false (Ne.symm e)]
  simp [e]
theorem Ctx.step (C:Ctx B Φ all E X M0) {listed:Array Bool} (hs:listed.size=all.size) (hdn:ac5 all listed) {env:Env} {M:Mem} (S:Sta B all E X M0 listed env M) {j:Nat} {o:Oper} (ho:all[j]? = some o) (hnl:¬ isL listed j)
  (hrd:∀ e ∈ o.after,Region.binds .any e=true->isL listed e.on):tw B Φ (toL all) [o] env M (fun env' M'=>Sta B all E X M0 (listed.setIfInBounds j true) env' M'):=by
 have hjs:=(Array.getElem?_eq_some_iff.1 ho).1
 have hset:∀ i,isL (listed.setIfInBounds j true) i<->i=j\/isL listed i:=fun i=>ale (by rw [hs];exact hjs)
 have hlook:∀ t ∈ o.looksAt all,gt env t=gt (E j) t:=fun t htl=>by
  by_cases hw:∃ (i:Nat) (x:Oper),all[i]? = some x/\x.dst=some t
  ·obtain ⟨i,x,e1,e3⟩:=hw
   have e2:=(Array.getElem?_eq_some_iff.1 e1).1
   by_cases hij:i < j
   ·have hpair:=pq (mh C.hdr e2 hjs (by omega) e1 ho) e3 htl
    rw [if_pos hij]at hpair
    have hli:=jk hdn C.hb j o ho hrd i hpair
    rw [S.b i x t e1 hli e3,(C.gts j t (by omega)).2 i x e1 hij e3]
   ·have hnli:¬ isL listed i:=fun hli=>by
     by_cases e:i=j
     ·subst e;exact hnl hli
     ·have hpair:=pq (mh C.hdr e2 hjs e e1 ho) e3 htl
      rw [if_neg hij]at hpair
      exact hnl (jk hdn C.hb i x e1 (fun e' he' hb'=>hdn i x e1 hli e' he' hb') j hpair)
    rw [S.a t fun i' o' h1' h2' h3'=>hnli (C.uniq h1' e1 h3' e3 ▸ h2')]
    exact ((C.gts j t (by omega)).1 fun i' o' h1' h2' h3'=>hij (C.uniq h1' e1 h3' e3 ▸ h2')).symm
  ·rw [S.a t fun i x h1 h2 h3=>hw ⟨i,x,h1,h3⟩]
   exact ((C.gts j t (by omega)).1 fun i x h1 h2 h3=>hw ⟨i,x,h1,h3⟩).symm
 have hrdE:∀ x ∈ o.op.operands,rd env x=rd (E j) x:=fun x hx=>by
  cases x with
  | tmp t=>exact hlook t (List.mem_append_left _ (List.mem_filterMap.2 ⟨.tmp t,by simpa using hx,rfl⟩))
  | const c=>rfl
  | global g=>rfl
  | func f=>rfl
 obtain ⟨hg,hk⟩:=C.hE j o ho
 simp only [tw,hg]
 rcases hk with ⟨ty,d,hop,hd,hty,hx,he,hxe⟩ | ⟨t,d,y,ob,ob',hop,hd,hx,hy,hadd,hst,he,hxe⟩ | ⟨d,vc,v,hd,hpk,hdat,hev,hv,hvc,he,hxe⟩
 ·have hr:evR B Φ o env M=⟨[],.ad d [.de],[.kl d],(d,ake B ty)::del d M⟩:=by
   simp only [evR,hop,ew,cu,nf,ap,hd,awe,hty,cond_true,ake]
  rw [hr]
  simp only [conj,hd,wr,rr]
  have stab:∀ t,t ≠ d->(gt env t).ev (.kl d)=gt env t:=fun t htd=>by
   by_cases hw:∃ (i:Nat) (x:Oper),all[i]? = some x/\isL listed i/\x.dst=some t
   ·obtain ⟨i,x,e1,e2,e3⟩:=hw
    rw [S.b i x t e1 e2 e3]
    rcases azr (C.hE i x e1) e3 with h | h
    ·exact ah6 _ _ h
    ·rw [h];simp only [V.ev,Ev.ad,dv,if_neg htd]
   ·rw [S.a t fun i x h1 h2 h3=>hw ⟨i,x,h1,h2,h3⟩]
    exact C.h0 t j o ty d ho hop hd
  have nst:∀ (s:Nat) (o':Oper),all[s]? = some o'->isL listed s->tgt o' ≠ some d:=fun s o' h1 h2 h3=>by
   obtain ⟨i,x,ty',i1,i2,i3,i4,_⟩:=C.alloc_of h1 h3
   have:=C.uniq i2 ho i4 hd
   subst this
   have hmm:Operand.tmp d ∈ o'.op.operands:=by
    unfold tgt at h3
    split at h3
    ·rename_i hop';cases h3;simp [hop',Op.operands]
    ·cases h3
   have hlk:d ∈ o'.looksAt all:=List.mem_append_left _ (List.mem_filterMap.2 ⟨.tmp d,by simpa using hmm,rfl⟩)
   have hpair:=pq (mh C.hdr hjs (Array.getElem?_eq_some_iff.1 h1).1 (by omega) ho h1) hd hlk
   rw [if_pos i1]at hpair
   exact hnl (jk hdn C.hb s o' h1 (fun e' he' hb'=>hdn s o' h1 h2 e' he' hb') i hpair)
  refine ⟨fun t ht=>?_,fun i x t hi hl hdx=>?_,fun k hk=>?_,fun i x k ty' hi hl h1 h2 hns=>?_,fun s x k hi hl htk=>?_⟩
  ·have htd:d ≠ t:=fun h=>ht j o ho ((hset j).2 (.inl rfl)) (by rw [hd,h])
   rw [im,if_neg htd,alr,stab t (Ne.symm htd)]
   exact S.a t fun i x hi hl=>ht i x hi ((hset i).2 (.inr hl))
  ·rw [im]
   by_cases hij:i=j
   ·subst hij;rw [ho]at hi;cases hi;rw [hd]at hdx;cases hdx
    rw [if_pos rfl,he,im,if_pos rfl]
   ·have htd:d ≠ t:=fun h=>hij (C.uniq hi ho hdx (by rw [hd,h]))
    rw [if_neg htd,alr,stab t (Ne.symm htd)]
    exact S.b i x t hi (((hset i).1 hl).resolve_left hij) hdx
  ·have hkd:d ≠ k:=fun h=>hk j o ty ho ((hset j).2 (.inl rfl)) hop (by rw [hd,h])
   rw [fx,if_neg hkd,fo (Ne.symm hkd)]
   exact S.c k fun i x ty' hi hl=>hk i x ty' hi ((hset i).2 (.inr hl))
  ·rw [fx]
   by_cases hij:i=j
   ·subst hij;rw [ho]at hi;cases hi;rw [hd]at h2;cases h2
    rw [if_pos rfl];rw [hop]at h1;cases h1;rfl
   ·have hkd:d ≠ k:=fun h=>hij (C.uniq hi ho h2 (by rw [hd,h]))
    rw [if_neg hkd,fo (Ne.symm hkd)]
    exact S.d i x k ty' hi (((hset i).1 hl).resolve_left hij) h1 h2 fun s o' hs' hl'=>hns s o' hs' ((hset s).2 (.inr hl'))
  ·have hsl:isL listed s:=by
    rcases (hset s).1 hl with h | h
    ·subst h;rw [ho]at hi;cases hi;simp only [tgt,hop]at htk;cases htk
    ·exact h
   have hkd:d ≠ k:=fun h=>nst s x hi hsl (by rw [htk,h])
   rw [fx,if_neg hkd,fo (Ne.symm hkd)]
   exact S.s s x k hi hsl htk
 ·have htg:tgt o=some d:=by simp only [tgt,hop]
  have hyr:rd env y=rd (E j) y:=hrdE y (by simp [hop,Op.operands])
  have hdr:gt env d=.ad d [.de]:=by
   have h1:gt env d=gt (E j) d:=by simpa only [rd]using hrdE (.tmp d) (by simp [hop,Op.operands])
   rw [h1]
   unfold bm9 at hadd
   split at hadd
   ·rename_i k e;rw [e,Nat.eq_of_beq_eq_true hadd]
   ·cases hadd
  obtain ⟨ia,xa,tya,i1,i2,i3,i4,i5⟩:=C.alloc_of ho htg
  have hlk:d ∈ o.looksAt all:=List.mem_append_left _ (List.mem_filterMap.2 ⟨.tmp d,by simp [hop,Op.operands],rfl⟩)
  have hla:isL listed ia:=by
   have hpair:=pq (mh C.hdr (Array.getElem?_eq_some_iff.1 i2).1 hjs (by omega) i2 ho) i4 hlk
   rw [if_pos i1]at hpair
   exact jk hdn C.hb j o ho hrd ia hpair
  have nst:∀ (s:Nat) (o':Oper),all[s]? = some o'->isL listed s->tgt o' ≠ some d:=fun s o' h1 h2 h3=>by
   have:=C.tuniq h1 ho h3 htg
   subst this;exact hnl h2
  have hgo:go M d=some ob:=by rw [S.d ia xa d tya i2 hla i3 i4 nst,← i5,hx]
  obtain ⟨v,e,hs1,oo,oo',hs2,hs3⟩:=bk2 (M:=M) hy hgo hst
  have hr:evR B Φ o env M=⟨[],v,[e],put d ob' M⟩:=by
   have e1:rd env (.tmp d)=.ad d [.de]:=hdr
   have e4:(rd env (.tmp d)).strip=.ad d [.de]:=by rw [e1];rfl
   have e3:(rd env y).strip=rd (E j) y:=by rw [hyr,afs hy]
   have e2:nf (rd env) [y]=[]:=ay0 [y] fun z hz=>by simp only [List.mem_singleton]at hz;subst hz;rw [hyr];exact hy
   have e5:nf (rd env) [.tmp d,y]=[]:=by rw [nf,e1];exact e2
   simp only [evR,hop,ew,cu,e4,e3,hs1,e5,ap,bgv hy,bgq hy]
  rw [hr]
  simp only [conj,hd,wr,rr]
  have stab:∀ t,(gt env t).ev e=gt env t:=fun t=>by
   subst hs2
   by_cases hw:∃ (i:Nat) (x:Oper),all[i]? = some x/\isL listed i/\x.dst=some t
   ·obtain ⟨i,x,e1,e2,e3⟩:=hw
    rw [S.b i x t e1 e2 e3]
    rcases azr (C.hE i x e1) e3 with h | h
    ·exact ah6 _ _ h
    ·rw [h]
     simp only [V.ev,Ev.ad,hs3,cond_true]
     cases Nat.beq t d <;> rfl
   ·rw [S.a t fun i x h1 h2 h3=>hw ⟨i,x,h1,h2,h3⟩]
    exact aeh _ (C.h0 t ia xa tya d i2 i3 i4)
  have hnja:∀ (i:Nat) (x:Oper) (ty:TypeId),all[i]? = some x->isL (listed.setIfInBounds j true) i->x.op=.alloc ty->isL listed i:=fun i x ty hi hl hxo=>by
   rcases (hset i).1 hl with h | h
   ·subst h;rw [ho]at hi;cases hi;rw [hop]at hxo;cases hxo
   ·exact h
  refine ⟨fun t ht=>?_,fun i x t hi hl hdx=>?_,fun k hk=>?_,fun i x k ty' hi hl h1 h2 hns=>?_,fun s x k hi hl htk=>?_⟩
  ·rw [alr,stab]
   exact S.a t fun i x hi hl=>ht i x hi ((hset i).2 (.inr hl))
  ·rw [alr,stab]
   rcases (hset i).1 hl with h | h
   ·subst h;rw [ho]at hi;cases hi;rw [hd]at hdx;cases hdx
   ·exact S.b i x t hi h hdx
  ·have hkd:k ≠ d:=fun h=>hk ia xa tya i2 ((hset ia).2 (.inr hla)) i3 (by rw [i4,h])
   rw [kv _ hkd]
   exact S.c k fun i x ty' hi hl=>hk i x ty' hi ((hset i).2 (.inr hl))
  ·have hkd:k ≠ d:=fun h=>hns j o ho ((hset j).2 (.inl rfl)) (by rw [htg,h])
   rw [kv _ hkd]
   exact S.d i x k ty' hi (hnja i x ty' hi hl h1) h1 h2 fun s o' hs' hl'=>hns s o' hs' ((hset s).2 (.inr hl'))
  ·rcases (hset s).1 hl with h | h
   ·subst h;rw [ho]at hi;cases hi;rw [htg]at htk;cases htk
    rw [mf _ _ (c8 hgo),hxe,mf _ _ (c8 hx)]
   ·have hkd:k ≠ d:=fun hk=>nst s x hi h (by rw [htk,hk])
    rw [kv _ hkd]
    exact S.s s x k hi h htk
 ·have hr:evR B Φ o env M=⟨vc,v,[],M⟩:=by
   rw [aa0 o hrdE]
   exact blg M hpk hdat hev
  rw [hr]
  simp only [od,hd,wr,rr]
  have hna:∀ ty,o.op ≠ .alloc ty:=fun ty h=>by rw [h]at hpk;cases hpk
  have hnt:tgt o=none:=by
   unfold tgt
   split
   ·rename_i h;rw [h]at hpk;cases hpk
   ·rfl
  have hnja:∀ (i:Nat) (x:Oper) (ty:TypeId),all[i]? = some x->isL (listed.setIfInBounds j true) i->x.op=.alloc ty->isL listed i:=fun i x ty hi hl hxo=>by
   rcases (hset i).1 hl with h | h
   ·subst h;rw [ho]at hi;cases hi;exact absurd hxo (hna ty)
   ·exact h
  refine ⟨hvc,fun t ht=>?_,fun i x t hi hl hdx=>?_,fun k hk=>?_,fun i x k ty' hi hl h1 h2 hns=>?_,fun s x k hi hl htk=>?_⟩
  ·have htd:d ≠ t:=fun h=>ht j o ho ((hset j).2 (.inl rfl)) (by rw [hd,h])
   rw [im,if_neg htd]
   exact S.a t fun i x hi hl=>ht i x hi ((hset i).2 (.inr hl))
  ·rw [im]
   by_cases hij:i=j
   ·subst hij;rw [ho]at hi;cases hi;rw [hd]at hdx;cases hdx
    rw [if_pos rfl,he,im,if_pos rfl]
   ·have htd:d ≠ t:=fun h=>hij (C.uniq hi ho hdx (by rw [hd,h]))
    rw [if_neg htd]
    exact S.b i x t hi (((hset i).1 hl).resolve_left hij) hdx
  ·exact S.c k fun i x ty' hi hl=>hk i x ty' hi ((hset i).2 (.inr hl))
  ·exact S.d i x k ty' hi (hnja i x ty' hi hl h1) h1 h2 fun s o' hs' hl'=>hns s o' hs' ((hset s).2 (.inr hl'))
  ·rcases (hset s).1 hl with h | h
   ·subst h;rw [ho]at hi;cases hi;rw [hnt]at htk;cases htk
   ·exact S.s s x k hi h htk
theorem aec (X M:Mem) (k:Nat):go (ap X M) k=match go X k with | some ob=>some ob | none=>go M k:=by
 induction X with
 | nil=>rfl
 | cons x X ih=>
  obtain ⟨j,ob⟩:=x
  simp only [ap,fx]
  split
  ·rfl
  ·exact ih
theorem Ctx.fin (C:Ctx B Φ all E X M0) {listed:Array Bool} {env:Env} {M:Mem} (S:Sta B all E X M0 listed env M) (hall:∀ i,i < all.size->isL listed i) :
  (∀ t,gt (E all.size) t=gt env t)/\∀ k,go (ap (X all.size) M0) k=go M k:=by
 have hal:∀ {i:Nat} {o:Oper},all[i]? = some o->isL listed i:=fun h=>hall _ (Array.getElem?_eq_some_iff.1 h).1
 constructor
 ·intro t
  obtain ⟨g1,g2⟩:=C.gts all.size t (Nat.le_refl _)
  by_cases hw:∃ (i:Nat) (x:Oper),all[i]? = some x/\x.dst=some t
  ·obtain ⟨i,x,e1,e3⟩:=hw
   rw [g2 i x e1 (Array.getElem?_eq_some_iff.1 e1).1 e3,S.b i x t e1 (hal e1) e3]
  ·rw [g1 fun i o h1 _ h3=>hw ⟨i,o,h1,h3⟩,S.a t fun i o h1 _ h3=>hw ⟨i,o,h1,h3⟩]
 ·intro k
  rw [aec]
  cases hx:go (X all.size) k with
  | none=>
   simp only
   refine (S.c k fun i o ty hi _ h1 h2=>?_).symm
   by_cases hst:∃ (s:Nat) (o':Oper),all[s]? = some o'/\tgt o'=some k
   ·obtain ⟨s,o',s1,s2⟩:=hst
    have h3:=C.kept s1 s2 all.size (Nat.le_refl _) (Array.getElem?_eq_some_iff.1 s1).1
    obtain ⟨_,⟨ty',d,hop,hd,_,hx',_,e⟩ | ⟨t,d,y,ob1,ob',hop,hd,hx',_,_,_,_,e⟩ | ⟨d,vc,v,hd,hpk,_,_,hv,_,_,e⟩⟩:=C.hE s _ s1
    ·simp only [tgt,hop]at s2;cases s2
    ·simp only [tgt,hop,Option.some.injEq]at s2
     subst s2
     rw [hx,e,mf _ _ (c8 hx')]at h3;cases h3
    ·unfold tgt at s2
     split at s2
     ·rename_i hop;rw [hop]at hpk;cases hpk
     ·cases s2
   ·rw [C.fresh hi h1 h2 all.size (Nat.le_refl _) (Array.getElem?_eq_some_iff.1 hi).1 fun s o' _ s1 s2=>hst ⟨s,o',s1,s2⟩]at hx
    cases hx
  | some ob=>
   simp only
   obtain ⟨i,o,ty,i1,i2,i3,i4,i5⟩:=C.spec all.size (Nat.le_refl _) k ob hx
   by_cases hst:∃ (s:Nat) (o':Oper),all[s]? = some o'/\tgt o'=some k
   ·obtain ⟨s,o',s1,s2⟩:=hst
    rw [S.s s o' k s1 (hal s1) s2,← C.kept s1 s2 all.size (Nat.le_refl _) (Array.getElem?_eq_some_iff.1 s1).1,hx]
   ·rw [S.d i o k ty i2 (hal i2) i3 i4 fun s o' s1 _ s2=>hst ⟨s,o',s1,s2⟩,i5 fun s o' _ s1 s2=>hst ⟨s,o',s1,s2⟩]
theorem Ctx.any (hΦ:m7 P Φ) (hB:TabOk P B) (C:Ctx B Φ all E X M0) (Q:Exit->Act->World->Prop) (hco:l7 F.nt all.toList=true) (hfv:∀ o ∈ all.toList,∀ k,o.dst=some k->F.fv k=none)
  (hQ:∀ p a w,St F p (E all.size) (ap (X all.size) M0) a w->Q .normal a w) :
  ∀ (fuel:Nat) (listed:Array Bool) (p:Ow) (env:Env) (M:Mem) (a:Act) (w:World),listed.size=all.size->unl listed all.size<=fuel->ac5 all listed->Sta B all E X M0 listed env M->St F p env M a w->wpAny P .any all Q fuel listed a w:=by
 intro fuel
 have done:∀ (listed:Array Bool) (p:Ow) (env:Env) (M:Mem) (a:Act) (w:World),listed.size=all.size->Region.ready .any all listed=[]->Sta B all E X M0 listed env M->St F p env M a w->Q .normal a w:=by
  intro listed p env M a w hs hr S hst
  obtain ⟨f1,f2⟩:=C.fin S (abi hs C.hb hr)
  exact hQ p a w (hst.same f2 f1)
 have noready:∀ (listed:Array Bool),listed.size=all.size->unl listed all.size=0->Region.ready .any all listed=[]:=by
  intro listed hs hu
  cases hr:Region.ready .any all listed with
  | nil=>rfl
  | cons i r=>
   obtain ⟨o,h1,h2,_⟩:=pu (j:=i) (by rw [hr];simp)
   have hi:=(Array.getElem?_eq_some_iff.1 h1).1
   have:=ac7 hu i hi
   unfold isL at this
   simp [hs,hi]at this h2
   rw [this]at h2;cases h2
 induction fuel with
 | zero=>
  intro listed p env M a w hs hu _ S hst
  have hr:=noready listed hs (by omega)
  exact ⟨hr,done listed p env M a w hs hr S hst⟩
 | succ fuel ih=>
  intro listed p env M a w hs hu hdn S hst
  refine ⟨fun hr=>done listed p env M a w hs hr S hst,fun j hj=>?_⟩
  obtain ⟨o,h1,h2,h3⟩:=pu hj
  have hjs:=(Array.getElem?_eq_some_iff.1 h1).1
  have hnl:¬ isL listed j:=by
   unfold isL;simp [hs,hjs]at h2 ⊢;exact h2
  have hm:o ∈ all.toList:=by rw [Array.mem_toList_iff];exact Array.mem_of_getElem? h1
  refine wpOp_mono (fun a' w' ⟨p',env',M',e1,e2⟩=>ih _ p' env' M' a' w' (by simpa using hs) ?_ (hdn.set hj) e2 e1) (ahv hΦ hB hst (C.step hs hdn S h1 hnl h3) (t7 hco hm) (hfv o hm) h1 Q)
  have:=aeq (by rw [hs];exact hjs) hnl all.size hjs
  omega
theorem bp8 (hΦ:m7 P Φ) (hB:TabOk P B) (hmix:P.follows .mixedOrders=true) {id:Nat} {ops:Array Oper} (hco:l7 F.nt (toL ops)=true) (hfv:∀ o ∈ toL ops,∀ k,o.dst=some k->F.fv k=none) (hr:bna (toL ops)=true) {K:Env->Mem->Prop} {Q:Exit->Act->World->Prop}
  (hQ:∀ p env M a w,St F p env M a w->K env M->Q .normal a w) {p:Ow} {env:Env} {M:Mem} {a:Act} {w:World} (h:St F p env M a w)
  (hk:bx B Φ (toL ops) (klE (aer (toL ops)) env) [] (fun env X=>K env (ap X (klM (aer (toL ops)) M)))):(Code.region id ops true).wp P Q a w:=by
 exact False.elim hk
end
end Go.Bm
/- The gi machine:drawn regions whose calls give own trees. -/
namespace Go.Bm
open Go.RowKit
section
variable {P:Program} {B:Tab} {Φ:FuncId->Option Ct}
def agK (M M0:Mem) (k:Nat):Prop:=go M k=go M0 k/\go M0 k ≠ none
def agV (M M0:Mem):V->Prop
 | .p a b=>agV M M0 a/\agV M M0 b
 | .ag v=>agV M M0 v
 | .fn _ v=>agV M M0 v
 | .bx v=>agV M M0 v
 | .ref k _=>agK M M0 k
 | .ad k _=>agK M M0 k
 | .gd _ _ _ _=>False
 | .ifc _ _=>False
 | .tup _=>False
 | _=>True
section
variable {M0 M:Mem}
theorem bj1 {k:Nat} (h:agK M M0 k):go M k=go M0 k:=h.1
theorem aax {k:Nat} (h:agK M M0 k) (π:b9):pb M k π=pb M0 k π:=by
 unfold pb;rw [bj1 h]
theorem an6:∀ v:V,agV M M0 v->v.size M=v.size M0
 | .d _ _,_=>rfl
 | .nl,_=>rfl
 | .np,_=>rfl
 | .u,_=>rfl
 | .p a b,h=>by
  simp only [agV]at h
  simp only [V.size,an6 a h.1,an6 b h.2]
 | .ag v,h=>rfl
 | .fn f v,h=>rfl
 | .bx v,h=>rfl
 | .any,h=>rfl
 | .ref k π,h=>by simp only [V.size,aax h]
 | .ad _ _,h=>rfl
 | .tup _,h=>by cases h
 | .gd _ _ _ _,h=>by cases h
 | .ifc _ _,h=>by cases h
theorem abu (v:V) (n:Nat) (h:agV M M0 v):l8 M v n=l8 M0 v n:=by simp only [l8,an6 v h]
theorem adl:∀ v:V,cd v=true->agV M M0 v
 | .p a b,h=>by
  simp only [cd,bc,Bool.and_eq_true]at h
  simp only [agV]
  exact ⟨adl a h.1,adl b h.2⟩
 | .ag v,h=>adl v h
 | .fn f v,h=>adl v h
 | .bx v,h=>adl v h
 | .d _ _,_=>trivial
 | .nl,_=>trivial
 | .np,_=>trivial
 | .u,_=>trivial
 | .any,h=>by cases h
 | .ref _ _,h=>by cases h
 | .ad _ _,h=>by cases h
 | .tup _,h=>by cases h
 | .gd _ _ _ _,h=>by cases h
 | .ifc _ _,h=>by cases h
theorem bc7:∀ (t:T) (x:t.den),cd (n9 t x)=true:=by
 intro t
 induction t with
 | p a b iha ihb=>intro x;simp only [n9,cd,bc,Bool.and_eq_true];exact ⟨iha x.1,ihb x.2⟩
 | _=>intro x;rfl
theorem bod {k:Nat} (h:agK M M0 k):∀ (π:b9) (o:O) (x:o.strip.den),agV M M0 (toV k π o x):=by
 intro π o x
 cases o with
 | fz t=>simp only [toV];exact adl _ (bc7 _ _)
 | _=>exact h
theorem aiu:∀ (π:b9) (v:V),agV M M0 v->fw M π v=fw M0 π v/\∀ n x,fw M0 π v=some (n,x)->agV M M0 x
 | [],v,h=>by
  simp only [fw,Option.some.injEq,Prod.mk.injEq]
  exact ⟨trivial,fun n x e=>e.2 ▸ h⟩
 | .l::π,.p a b,h=>by
  simp only [agV]at h
  simp only [fw]
  exact aiu π a h.1
 | .r::π,.p a b,h=>by
  simp only [agV]at h
  obtain ⟨e1,e2⟩:=aiu π b h.2
  simp only [fw,e1,an6 a h.1]
  refine ⟨trivial,fun n x hx=>?_⟩
  split at hx
  ·rename_i m n' x' _ h2;cases hx;exact e2 _ _ h2
  ·cases hx
 | s::π,.ref k ρ,h=>by
  have hk:agK M M0 k:=h
  have e:∀ M:Mem,fw M (s::π) (.ref k ρ)=(match pb M k ρ,pb M k (ap ρ (s::π))with
   | some q,some q'=>(match cy (s::π) q.o.strip with | some n=>some (n,toV k (ap ρ (s::π)) q'.o q'.x) | none=>none)
   | _,_=>none):=fun M=>by cases s <;> rfl
  rw [e,e,aax hk,aax hk]
  refine ⟨rfl,fun n x hx=>?_⟩
  split at hx
  ·split at hx
   ·cases hx;exact bod hk _ _ _
   ·cases hx
  ·cases hx
 | .de::π,.p a b,_=>by simp [fw]
 | .ix _::π,.p a b,_=>by simp [fw]
 | .l::π,.d _ _,_=>by simp [fw]
 | .r::π,.d _ _,_=>by simp [fw]
 | .de::π,.d _ _,_=>by simp [fw]
 | .ix _::π,.d _ _,_=>by simp [fw]
 | _::π,.nl,_=>by simp [fw]
 | _::π,.np,_=>by simp [fw]
 | _::π,.u,_=>by simp [fw]
 | _::π,.ag _,_=>by simp [fw]
 | _::π,.fn _ _,_=>by simp [fw]
 | _::π,.bx _,_=>by simp [fw]
 | _::_,.any,h=>by simp [fw]
 | _::_,.ad _ _,h=>by simp [fw]
 | _::_,.tup _,h=>by cases h
 | _::_,.gd _ _ _ _,h=>by cases h
 | _::_,.ifc _ _,h=>by cases h
theorem bdd (x:V) (π:b9) (off:Nat) (h:agV M M0 x):ago M x π off=ago M0 x π off:=by
 cases x with
 | ad k ρ=>simp only [ago,aax h]
 | bx v=>simp only [agV]at h;simp only [ago,(aiu π v h).1]
 | d t y=>cases t <;> rfl
 | _=>rfl
theorem bhm (τ:Ty) (x:V) (i:Nat) (h:agV M M0 x):aca τ M x i=aca τ M0 x i:=by
 simp only [aca,bdd x _ _ h]
theorem bk4 {B:Tab} (τ:Ty) (x:V) (i:Nat) (h:agV M M0 x):afo B τ M x i=afo B τ M0 x i:=by
 unfold afo
 split
 ·rename_i off ft _ v _
  simp only [agV]at h
  obtain ⟨e1,e2⟩:=aiu (aea (len τ.fld) i) v h
  rw [e1]
  cases hs:fw M0 (aea (len τ.fld) i) v with
  | none=>rfl
  | some q=>obtain ⟨n,w⟩:=q;simp only [abu w _ (e2 _ _ hs)]
 ·rfl
theorem bj8 {B:Tab} (τ:Ty) (x i:V) (h:agV M M0 x):afg B τ M x i=afg B τ M0 x i:=by
 unfold afg
 split
 ·cases x with
  | ref k π=>simp only [aax h]
  | d t x=>cases t <;> rfl
  | _=>rfl
 ·rfl
theorem bkf {B:Tab} (τ:Ty) (x i:V) (h:agV M M0 x):aff B τ M x i=aff B τ M0 x i:=by
 unfold aff
 split
 ·simp only [ba2,bdd x _ _ h]
 ·exact bj8 τ x i h
theorem bl8 (τ:Ty) (d:Option Nat) {x:V} (h:agV M M0 x):(ab6 τ M d x=none)=(ab6 τ M0 d x=none):=by
 cases x <;> try rfl
 rename_i k π
 have hg:=h
 simp only [agV]at hg
 cases π with
 | nil=>rfl
 | cons s π=>
  cases s <;> try rfl
  cases π with
  | nil=>
   cases d with
   | none=>rfl
   | some d=>simp only [ab6,bj1 hg];generalize go M0 k=z;split <;> simp
  | cons _ _=>rfl
theorem bg0 (τ:Ty) (x:V) (h:agV M M0 x):ur τ M x=ur τ M0 x:=by
 cases x with
 | ad k π=>simp only [ur,aax h]
 | bx v=>simp only [agV]at h;simp only [ur,abu _ _ h]
 | d t x=>cases t <;> rfl
 | _=>rfl
theorem bjg {τ:Ty} {x:V} (h:agV M M0 x):am7 τ M x=am7 τ M0 x:=by
 cases x with
 | ref k π=>simp only [am7,aax h]
 | d t y=>cases t <;> rfl
 | _=>rfl
theorem bc4 {k:Nat} (h:agK M M0 k) (π:b9) (t:T):ap7 M k π t=ap7 M0 k π t:=by
 unfold ap7;rw [aax h]
theorem bmq:∀ (v:V) (t:T),agV M M0 v->v.view M t=v.view M0 t:=by
 intro v
 induction v with
 | p a b iha ihb=>
  intro t h
  simp only [agV]at h
  cases t <;> first | rfl | (simp only [V.view];rw [iha _ h.1,ihb _ h.2])
 | fn f v ih=>intro t h;cases t <;> first | rfl | (simp only [V.view];rw [ih _ h])
 | bx v ih=>intro t h;cases t <;> first | rfl | (simp only [V.view];rw [ih _ h])
 | ref k π=>intro t h;cases t <;> simp only [V.view] <;> exact bc4 h _ _
 | ad k π=>intro t h;cases t <;> first | rfl | (simp only [V.view];exact bc4 h _ _)
 | gd _ _ _ _=>intro t h;cases h
 | any=>intro t h;cases t <;> rfl
 | tup _=>intro t h;cases h
 | ifc _ _=>intro t h;cases h
 | ag v=>intro t h;cases t <;> rfl
 | d t' x=>intro t h;cases t <;> rfl
 | nl=>intro t h;cases t <;> rfl
 | np=>intro t h;cases t <;> rfl
 | u=>intro t h;cases t <;> rfl
theorem azd {v:V} (h:agV M M0 v):agV M M0 v.cells:=by cases v <;> exact h
theorem azl:∀ (vs:List V) (ts:List T),(∀ v ∈ vs,agV M M0 v)->afe M vs ts=afe M0 vs ts
 | [],[],_=>rfl
 | [],_::_,_=>rfl
 | _::_,[],_=>rfl
 | v::r,t::ts,h=>by
  simp only [afe]
  rw [bmq v.cells t (azd (h v (by simp))),azl r ts fun x hx=>h x (by simp [hx])]
theorem bmy:∀ (v:V) (M:Mem),(cf M v).1=[]\/∃ k ob r,(cf M v).1=.fz k ob::r:=by
 intro v
 induction v with
 | p a b iha ihb=>
  intro M
  simp only [cf]
  rcases iha M with h | ⟨k,ob,r,h⟩
  ·rw [h]
   rcases ihb (cf M a).2 with h2 | ⟨k,ob,r,h2⟩
   ·rw [h2];exact .inl rfl
   ·rw [h2];exact .inr ⟨k,ob,r,rfl⟩
  ·rw [h];exact .inr ⟨k,ob,_,rfl⟩
 | ref k π=>intro M;simp only [cf];cases go M k <;> simp
 | ad k π=>intro M;simp only [cf];cases go M k <;> simp
 | ag v ih=>intro M;simp only [cf];exact ih M
 | fn f v ih=>intro M;simp only [cf];exact ih M
 | ifc f v ih=>intro M;simp only [cf];exact ih M
 | bx v ih=>intro M;simp only [cf];exact ih M
 | tup v ih=>intro M;simp only [cf];exact ih M
 | gd _ _ _ v ih=>intro M;simp only [cf];exact ih M
 | _=>intro M;exact .inl rfl
theorem ay3:∀ (vs:List V) (M:Mem),(qg M vs).1=[]\/∃ k ob r,(qg M vs).1=.fz k ob::r
 | [],M=>.inl rfl
 | v::vs,M=>by
  simp only [qg]
  rcases bmy v M with h | ⟨k,ob,r,h⟩
  ·rw [h]
   rcases ay3 vs (cf M v).2 with h2 | ⟨k,ob,r,h2⟩
   ·rw [h2];exact .inl rfl
   ·rw [h2];exact .inr ⟨k,ob,r,rfl⟩
  ·rw [h];exact .inr ⟨k,ob,_,rfl⟩
theorem ayd {α:Type} {a b:List α} (h:ap a b=[]):a=[]/\b=[]:=by cases a <;> simp [ap]at h ⊢;exact h
theorem bof:∀ (v:V),agV M M0 v->(cf M0 v).1=[]->∀ M1:Mem,cf M1 v=([],M1):=by
 intro v
 induction v with
 | p a b iha ihb=>
  intro h e M1
  simp only [agV]at h
  simp only [cf]at e ⊢
  obtain ⟨e1,e2⟩:=ayd e
  have ha:=iha h.1 e1
  rw [ha M0]at e2
  simp only at e2
  rw [ha M1]
  simp only
  rw [ihb h.2 e2 M1]
  rfl
 | fn f v ih=>intro h e M1;simp only [cf]at e ⊢;exact ih h e M1
 | bx v ih=>intro h e M1;simp only [cf]at e ⊢;exact ih h e M1
 | ag v ih=>intro h e M1;simp only [cf]at e ⊢;exact ih h e M1
 | ref k π=>
  intro h e M1
  simp only [cf]at e
  cases hg:go M0 k with
  | none=>exact absurd hg h.2
  | some ob=>rw [hg]at e;cases e
 | ad k π=>
  intro h e M1
  simp only [cf]at e
  cases hg:go M0 k with
  | none=>exact absurd hg h.2
  | some ob=>rw [hg]at e;cases e
 | gd _ _ _ _=>intro h;cases h
 | any=>intro h e M1;rfl
 | tup _=>intro h;cases h
 | ifc _ _=>intro h;cases h
 | d t' x=>intro h e M1;rfl
 | nl=>intro h e M1;rfl
 | np=>intro h e M1;rfl
 | u=>intro h e M1;rfl
theorem bdc:∀ vs:List V,(∀ v ∈ vs,agV M M0 v)->(qg M0 vs).1=[]->∀ M1:Mem,qg M1 vs=([],M1)
 | [],_,_,_=>rfl
 | v::r,h,e,M1=>by
  simp only [qg]at e ⊢
  obtain ⟨e1,e2⟩:=ayd e
  have ha:=bof v (h v (by simp)) e1
  rw [ha M0]at e2
  simp only at e2
  rw [ha M1]
  simp only
  rw [bdc r (fun x hx=>h x (by simp [hx])) e2 M1]
  rfl
theorem bbs:∀ vs:List V,vi [] vs=vs
 | []=>rfl
 | v::r=>by simp only [vi,V.evs];rw [bbs r]
theorem asq:∀ (π:b9) (v x:V),agV M M0 v->agV M M0 x->∀ v',j9 π v x=some v'->agV M M0 v'
 | [],v,x,_,hx,v',h=>by simp only [j9,Option.some.injEq]at h;subst h;exact hx
 | .l::π,v,x,hv,hx,v',h=>by
  cases v with
  | p a b=>
   simp only [agV]at hv
   simp only [j9]at h
   cases hs:j9 π a x with
   | none=>rw [hs]at h;cases h
   | some a'=>
    rw [hs]at h
    simp only [Option.some.injEq]at h
    subst h
    exact ⟨asq π a x hv.1 hx a' hs,hv.2⟩
  | _=>simp [j9]at h
 | .r::π,v,x,hv,hx,v',h=>by
  cases v with
  | p a b=>
   simp only [agV]at hv
   simp only [j9]at h
   cases hs:j9 π b x with
   | none=>rw [hs]at h;cases h
   | some b'=>
    rw [hs]at h
    simp only [Option.some.injEq]at h
    subst h
    exact ⟨hv.1,asq π b x hv.2 hx b' hs⟩
  | _=>simp [j9]at h
 | .ix _::_,v,x,_,_,v',h=>by cases v <;> simp [j9]at h
 | .de::_,v,x,_,_,v',h=>by cases v <;> simp [j9]at h
theorem ar9:∀ t:T,agV M M0 (u9 t)
 | .p a b=>⟨ar9 a,ar9 b⟩
 | .sl _=>trivial
 | .u=>trivial
 | .pt _=>trivial
 | .fn _ _=>trivial
 | .ifc _ _=>trivial
 | .mp _ _=>trivial
 | .op _=>trivial
 | .ns _=>trivial
 | .int _=>trivial
 | .bool=>trivial
 | .str=>trivial
 | .any=>trivial
theorem arn (place:Nat->Option (b9×Nat×Nat)) (f:Operand->V):∀ (ps:List (Nat×Operand)) (v:V),(∀ x ∈ cu.snds ps,agV M M0 (f x))->agV M M0 v->ug M place f ps v=ug M0 place f ps v
 | [],_,_,_=>rfl
 | (i,x)::r,v,hf,hv=>by
  simp only [ug]
  cases place i with
  | none=>rfl
  | some q=>
   obtain ⟨π,off,n⟩:=q
   simp only
   obtain ⟨e1,e2⟩:=aiu π v hv
   rw [e1]
   have hx:=azd (hf x (by simp [cu.snds]))
   cases hs:fw M0 π v with
   | none=>rfl
   | some q=>
    obtain ⟨m,w⟩:=q
    simp only [abu w n (e2 m w hs),abu _ n hx]
    cases hq:j9 π v (f x).cells with
    | none=>rfl
    | some v'=>simp only [arn place f r v' (fun y hy=>hf y (by simp [cu.snds,hy])) (asq π v _ hv hx v' hq)]
theorem blk:∀ (v:V),agV M M0 v->rq M v=rq M0 v/\∀ cs,rq M0 v=some cs->∀ c ∈ cs,agV M M0 c:=by
 intro v
 induction v with
 | p a b iha ihb=>
  intro h
  simp only [agV]at h
  obtain ⟨h1,h2⟩:=ihb h.2
  simp only [rq]
  rw [h1,abu a 1 h.1]
  refine ⟨rfl,fun cs hcs=>?_⟩
  cases hb:rq M0 b with
  | none=>rw [hb]at hcs;cases hcs
  | some r=>
   rw [hb]at hcs
   simp only at hcs
   cases hz:l8 M0 a 1 with
   | false=>rw [hz]at hcs;cases hcs
   | true=>
    rw [hz]at hcs
    simp only [cond_true,Option.some.injEq]at hcs
    subst hcs
    intro c hc
    rcases List.mem_cons.1 hc with rfl | hc
    ·exact h.1
    ·exact h2 r hb c hc
 | u=>intro _;exact ⟨rfl,fun cs h=>by simp only [rq,Option.some.injEq]at h;subst h;intro c hc;cases hc⟩
 | _=>intro _;exact ⟨rfl,fun cs h=>by simp [rq]at h⟩
theorem bpz {x v:V} {f:FuncId} (h:agV M M0 x) (hf:an8 x=some (f,v)):agV M M0 v:=by
 cases x with
 | fn g y=>simp only [an8,Option.some.injEq,Prod.mk.injEq]at hf;obtain ⟨_,rfl⟩:=hf;exact h
 | d t y=>
  cases t with
  | fn g t=>simp only [an8,Option.some.injEq,Prod.mk.injEq]at hf;obtain ⟨_,rfl⟩:=hf;exact adl _ (bc7 _ _)
  | _=>simp [an8]at hf
 | _=>simp [an8]at hf
theorem rj {v:V} (h:agV M M0 v):v.strip=v:=by cases v <;> first | rfl | cases h
theorem alk {β:Nat->Value} {Im:Nat->Prop} {w:World} (hk:∀ k,go M0 k ≠ none->go M k ≠ none->go M k=go M0 k):∀ (v:V),ad5 M0 v=true->∀ vs,ai β M Im w v vs->agV M M0 v:=by
 have key:∀ k,neg (isN (go M0 k))=true->go M k ≠ none->agK M M0 k:=fun k h h2=>by
  have:go M0 k ≠ none:=fun e=>by rw [e]at h;cases h
  exact ⟨hk k this h2,this⟩
 intro v
 induction v with
 | p a b iha ihb=>
  intro h vs r
  simp only [ad5,bc,Bool.and_eq_true]at h
  simp only [ai]at r
  obtain ⟨va,vb,_,h1,h2⟩:=r
  exact ⟨iha h.1 _ h1,ihb h.2 _ h2⟩
 | ref j π=>
  intro h vs r
  simp only [ai]at r
  obtain ⟨ob,_,h1,_⟩:=r
  exact key j h (by rw [h1];simp)
 | ad j π=>
  intro h vs r
  simp only [ai]at r
  obtain ⟨_,_,ob,_,_,_,h1,_⟩:=r
  exact key j h (by rw [h1];simp)
 | fn f v ih=>
  intro h vs r
  simp only [ai]at r
  obtain ⟨us,_,h1⟩:=r
  exact ih h _ h1
 | bx v ih=>
  intro h vs r
  simp only [ai]at r
  obtain ⟨_,_,us,_,_,_,h1⟩:=r
  exact ih h _ h1
 | ag v=>intro h vs r;simp only [ai]at r
 | tup v=>intro h;cases h
 | gd _ _ _ v=>intro h;cases h
 | ifc _ v=>intro h;cases h
 | _=>intro h vs r;trivial
theorem bpw {β:Nat->Value} {Im:Nat->Prop} {w:World} (hk:∀ k,go M0 k ≠ none->go M k ≠ none->go M k=go M0 k) (v:V) (h:ad5 M0 v=true) (u:Value) (r:al β M Im w v u):agV M M0 v:=by
 cases v with
 | ag v=>simp only [al]at r;obtain ⟨vs,_,r⟩:=r;exact alk hk v h _ r
 | any=>trivial
 | tup v=>cases h
 | gd _ _ _ v=>cases h
 | ifc _ v=>cases h
 | p a b=>simp only [al]at r;exact alk hk _ h _ r
 | u=>trivial
 | ref j π=>simp only [al]at r;exact alk hk _ h _ r
 | ad j π=>simp only [al]at r;exact alk hk _ h _ r
 | d t x=>trivial
 | nl=>trivial
 | np=>trivial
 | fn f v=>simp only [al]at r;exact alk hk _ h _ r
 | bx v=>simp only [al]at r;exact alk hk _ h _ r
theorem ahm {env:Env}:∀ {l:List Operand},alb M0 env l=true->∀ x ∈ l,ad5 M0 (rd env x)=true
 | [],_,x,h=>by cases h
 | y::l,hd,x,h=>by
  simp only [alb,bc,Bool.and_eq_true]at hd
  cases h with
  | head=>exact hd.1
  | tail _ h=>exact ahm hd.2 x h
theorem bqy {env:Env} (x:Operand) (h:∀ t,x ≠ .tmp t):agV M M0 (rd env x):=by
 cases x with
 | tmp t=>exact absurd rfl (h t)
 | const v=>
  cases v with
  | slice a n m=>
   simp only [rd]
   cases a with
   | none=>
    simp only [rdV]
    cases nob (Nat.beq n 0) (Nat.beq m 0) <;> trivial
   | some _=>trivial
  | pointer a=>cases a <;> trivial
  | _=>trivial
 | func f=>trivial
 | global g=>trivial
end
theorem cn {M:Mem} {vc:List Prop} {v:V} {e:List Ev} {N:Mem} (h:da M=⟨vc,v,e,N⟩) (hv:ae vc):False:=by
 simp only [da,Rs.mk.injEq]at h
 rw [← h.1]at hv
 simp [ae]at hv
theorem gw {f:Operand->V} {l:List Operand} {vc:List Prop} (h:ae (ap (nf f l) vc)):ae vc:=by rw [lh]at h;exact h.2
theorem bgj {ks:Mem} {r:Mem}:jx (len (klL (cj ks))) (ap ks r)=ks:=by
 induction ks with
 | nil=>simp [cj,klL,len,jx]
 | cons q ks ih=>obtain ⟨k,ob⟩:=q;simp only [cj,klL,len,ap,jx];rw [ih]
theorem bmd {k:Nat} {ob:Ob} {r e:List Ev} {N:Mem} (h:klB (ap (.fz k ob::r) e) N=true):False:=by cases N <;> simp [ap,klB]at h
theorem bhp {M0 M:Mem} {ct:Ct} {d:Nat} {vs:List V} (hd:∀ v ∈ vs,agV M M0 v) {vc:List Prop} {v:V} {e:List Ev} {N:Mem} (h:aa3 ct d vs M0=⟨vc,v,e,N⟩) (hv:ae vc) (he:klB e (jx (len e) N)=true) :
  aa3 ct d vs M=⟨vc,v,e,ap (jx (len e) N) (rp (cj (jx (len e) N)) M)⟩:=by
 unfold aa3 at h ⊢
 cases hmu:ct.mu with
 | some mu=>
  cases mu with
  | m m=>
   rw [hmu]at h
   exfalso
   simp only at h
   exact (cn h hv).elim
  | w W=>
   rw [hmu]at h
   exfalso
   have hcut:∀ (e:List Ev) (k:Nat) (o:O) (r:List Ev) (N:Mem),klB (ap e (.cut k o o::r)) N=false:=fun e k o r=>by
    induction e with
    | nil=>intro N;cases N <;> rfl
    | cons x e ih=>
     intro N
     cases x <;> cases N <;> first | rfl | (rename_i q N;obtain ⟨j,ob⟩:=q;simp only [ap,klB,ih,bc,Bool.and_false])
   simp only at h
   unfold ahx at h
   split at h
   ·split at h
    ·generalize nob (ajt W.o) (shp _ W.ag)=b at h
     cases b with
     | false=>exact cn h hv
     | true=>
     simp only [cond_true]at h
     split at h
     ·split at h
      ·generalize inN _ _=b at h
       cases b with
       | true=>exact cn h hv
       | false=>
        simp only [cond_false,Rs.mk.injEq]at h
        obtain ⟨_,_,rfl,_⟩:=h
        rw [hcut]at he;cases he
      ·exact cn h hv
     ·exact cn h hv
    ·exact cn h hv
   ·exact cn h hv
  | s s=>
   rw [hmu]at h
   exact (cn h hv).elim
  | a W=>
   rw [hmu]at h
   exfalso
   have hcut:∀ (e:List Ev) (k:Nat) (o:O) (r:List Ev) (N:Mem),klB (ap e (.cut k o o::r)) N=false:=fun e k o r=>by
    induction e with
    | nil=>intro N;cases N <;> rfl
    | cons x e ih=>
     intro N
     cases x <;> cases N <;> first | rfl | (rename_i q N;obtain ⟨j,ob⟩:=q;simp only [ap,klB,ih,bc,Bool.and_false])
   simp only at h
   exact (cn h hv).elim
 | none=>
  rw [hmu]at h
  simp only at h ⊢
  cases hs:shp vs ct.ga with
  | false=>rw [hs]at h;exact (cn h hv).elim
  | true=>
   rw [hs]at h
   simp only [cond_true]at h ⊢
   cases hsh:ct.sh with
   | false=>
    rw [hsh]at h
    simp only at h ⊢
    rw [azl vs ct.args hd]
    cases hx:afe M0 vs ct.args with
    | none=>rw [hx]at h;exact (cn h hv).elim
    | some x=>
     rw [hx]at h
     simp only at h ⊢
     generalize newL d 0 ct.rt (ct.res x)=q at h ⊢
     obtain ⟨v',N',_⟩:=q
     simp only [Rs.mk.injEq]at h ⊢
     obtain ⟨rfl,rfl,rfl,rfl⟩:=h
     rw [bgj]
     exact ⟨rfl,rfl,rfl,rfl⟩
   | true=>
    rw [hsh]at h
    simp only at h ⊢
    rcases ay3 vs M0 with hn | ⟨k,ob,r,hn⟩
    ·have hf:=bdc vs hd hn
     rw [hf M0]at h
     rw [hf M]
     simp only [bbs]at h ⊢
     cases hx:asL vs ct.args with
     | none=>rw [hx]at h;exact (cn h hv).elim
     | some x=>
      rw [hx]at h
      simp only at h ⊢
      generalize newL d 0 ct.rt (ct.res x)=q at h ⊢
      obtain ⟨v',N',_⟩:=q
      simp only [Rs.mk.injEq]at h ⊢
      obtain ⟨rfl,rfl,rfl,rfl⟩:=h
      have:∀ l:List Ev,ap [] l=l:=fun _=>rfl
      rw [this,bgj]
      exact ⟨rfl,rfl,rfl,rfl⟩
    ·exfalso
     generalize qg M0 vs=q at h hn
     obtain ⟨e1,M1⟩:=q
     simp only at hn h
     subst hn
     split at h
     ·simp only [Rs.mk.injEq]at h
      obtain ⟨_,_,rfl,_⟩:=h
      exact bmd he
     ·exact cn h hv
theorem bcv {f:Operand->V}:∀ {l:List Operand} {v:V},v ∈ sk f l->∃ x ∈ l,f x=v
 | [],v,h=>by cases h
 | x::r,v,h=>by
  simp only [sk]at h
  rcases List.mem_cons.1 h with rfl | h
  ·exact ⟨x,by simp,rfl⟩
  ·obtain ⟨y,h1,h2⟩:=bcv h;exact ⟨y,by simp [h1],h2⟩
theorem ahw (e:Ev):∀ v:V,cd v=true->v.ev e=v
 | .d _ _,_=>rfl
 | .nl,_=>rfl
 | .np,_=>rfl
 | .u,_=>rfl
 | .p a b,h=>by
  simp only [cd,bc,Bool.and_eq_true]at h
  simp only [V.ev,ahw e a h.1,ahw e b h.2]
 | .ag v,h=>by simp only [cd]at h;simp only [V.ev,ahw e v h]
 | .fn _ v,h=>by simp only [cd]at h;simp only [V.ev,ahw e v h]
 | .bx v,h=>by simp only [cd]at h;simp only [V.ev,ahw e v h]
 | .any,h=>by cases h
 | .ref _ _,h=>by cases h
 | .ad _ _,h=>by cases h
 | .tup _,h=>by cases h
 | .gd _ _ _ _,h=>by cases h
 | .ifc _ _,h=>by cases h
theorem bff:∀ (e:List Ev) (v:V),cd v=true->v.evs e=v
 | [],_,_=>rfl
 | x::e,v,h=>by simp only [V.evs,ahw x v h];exact bff e v h
theorem be9 {k:Nat} (v:V) (t:T) (M:Mem) (h:cd v=true) (q:Ob) (e:List Ev) (M':Mem) (hc:conv k t v M=some (q,e,M')):e=[]/\M'=M/\∀ M1,conv k t v M1=some (q,[],M1):=
 ⟨(aey k M M t v h q e M' hc).1,(aey k M M t v h q e M' hc).2.1,fun M1=>(aey k M1 M t v h q e M' hc).2.2⟩
theorem aen:∀ (v:V) (M:Mem),cd v=true->cf M v=([],M)
 | .p a b,M,h=>by
  simp only [cd,bc,Bool.and_eq_true]at h
  simp only [cf,aen a M h.1,aen b M h.2,ap]
 | .ag v,M,h=>by simp only [cd]at h;simp only [cf,aen v M h]
 | .fn _ v,M,h=>by simp only [cd]at h;simp only [cf,aen v M h]
 | .bx v,M,h=>by simp only [cd]at h;simp only [cf,aen v M h]
 | .d _ _,_,_=>rfl
 | .nl,_,_=>rfl
 | .np,_,_=>rfl
 | .u,_,_=>rfl
 | .any,_,h=>by cases h
 | .ref _ _,_,h=>by cases h
 | .ad _ _,_,h=>by cases h
 | .tup _,_,h=>by cases h
 | .gd _ _ _ _,_,h=>by cases h
 | .ifc _ _,_,h=>by cases h
theorem avl {k:Nat} {v:V} {o:O} {M:Mem} (h:cd v=true) {x:o.strip.den} {e:List Ev} {M':Mem} (hc:ad6 k o v M=some (x,e,M')):e=[]/\M'=M/\∀ M1,ad6 k o v M1=some (x,[],M1):=by
 unfold ad6 at hc ⊢
 split at hc
 ·rename_i t
  simp only [aen v _ h,V.evs]at hc ⊢
  split at hc
  ·rename_i y hy
   simp only [Option.some.injEq,Prod.mk.injEq]at hc
   obtain ⟨rfl,rfl,rfl⟩:=hc
   exact ⟨rfl,rfl,fun _=>rfl⟩
  ·cases hc
 ·split at hc
  ·rename_i q e1 M1 hq
   obtain ⟨rfl,rfl,h3⟩:=be9 v _ _ h _ _ _ hq
   split at hc
   ·rename_i y hy
    simp only [Option.some.injEq,Prod.mk.injEq]at hc
    obtain ⟨rfl,rfl,rfl⟩:=hc
    exact ⟨rfl,rfl,fun M2=>by simp only [h3,hy]⟩
   ·cases hc
  ·cases hc
theorem bi3 {k:Nat} {v:V} {o:O} {M:Mem} (h:cd v=true) {x:o.strip.den} {e:List Ev} {M':Mem} (hc:ahr k o v M=some (x,e,M')):e=[]/\M'=M/\∀ M1,ahr k o v M1=some (x,[],M1):=by
 unfold ahr at hc ⊢
 split at hc
 ·split at hc
  ·rename_i y ev M1 hq
   obtain ⟨rfl,rfl,h3⟩:=avl h hq
   simp only [Option.some.injEq,Prod.mk.injEq]at hc
   obtain ⟨rfl,rfl,rfl⟩:=hc
   exact ⟨rfl,rfl,fun M2=>by simp only [h3]⟩
  ·cases hc
 ·exact avl h hc
theorem afj {k:Nat} {o:O}:∀ (l:List V),(∀ v ∈ l,cd v=true)->∀ (M:Mem) (x:List o.strip.den) (e:List Ev) (M':Mem),ph k o [] l M=some (x,e,M')->e=[]/\M'=M/\∀ M1,ph k o [] l M1=some (x,[],M1)
 | [],_,M,x,e,M',hc=>by
  simp only [ph,Option.some.injEq,Prod.mk.injEq]at hc
  obtain ⟨rfl,rfl,rfl⟩:=hc
  exact ⟨rfl,rfl,fun _=>rfl⟩
 | v::r,h,M,x,e,M',hc=>by
  simp only [ph,V.evs]at hc
  split at hc
  ·rename_i y e1 M1 h1
   obtain ⟨rfl,rfl,h3⟩:=bi3 (h v (by simp)) h1
   simp only [ap]at hc
   split at hc
   ·rename_i z e2 M2 h2
    obtain ⟨rfl,rfl,h4⟩:=afj r (fun w hw=>h w (by simp [hw])) _ _ _ _ h2
    simp only [Option.some.injEq,Prod.mk.injEq]at hc
    obtain ⟨rfl,rfl,rfl⟩:=hc
    exact ⟨rfl,rfl,fun M2=>by simp only [ph,V.evs,h3,ap,h4]⟩
   ·cases hc
  ·cases hc
theorem aru:∀ t:T,cd (u9 t)=true
 | .p a b=>by simp only [u9,cd,aru a,aru b];rfl
 | .sl _=>rfl
 | .u=>rfl
 | .pt _=>rfl
 | .fn _ _=>rfl
 | .ifc _ _=>rfl
 | .mp _ _=>rfl
 | .op _=>rfl
 | .ns _=>rfl
 | .int _=>rfl
 | .bool=>rfl
 | .str=>rfl
 | .any=>rfl
theorem bd1 {α:Type} {y x:α}:∀ {l:List α} {i:Nat},x ∈ ap6 l i y->x ∈ l\/x=y
 | [],_,h=>by cases h
 | z::r,0,h=>by simp only [ap6,List.mem_cons]at h ⊢;rcases h with h | h <;> simp [h]
 | z::r,i+1,h=>by
  simp only [ap6,List.mem_cons]at h ⊢
  rcases h with h | h
  ·simp [h]
  ·rcases bd1 h with h | h <;> simp [h]
theorem bcb {α:Type} {y x:α}:∀ {n:Nat},x ∈ ab7 y n->x=y
 | 0,h=>by cases h
 | n+1,h=>by
  simp only [ab7,List.mem_cons]at h
  rcases h with h | h
  ·exact h
  ·exact bcb h
theorem ao0 {v:V} (h:cd v=true):v.strip=v:=by cases v <;> first | rfl | cases h
theorem arl {M:Mem} {sz:Nat} {f:Operand->V}:∀ (ps:List (Nat×Operand)) (l r:List V),(∀ q ∈ ps,cd (f q.2)=true)->(∀ v ∈ l,cd v=true)->qc M sz f ps l=some r->(∀ v ∈ r,cd v=true)/\∀ M1,qc M1 sz f ps l=some r
 | [],l,r,_,hl,h=>by simp only [qc,Option.some.injEq]at h;subst h;exact ⟨hl,fun _=>rfl⟩
 | (i,x)::ps,l,r,hp,hl,h=>by
  simp only [qc]at h
  have hx:=ay6 (hp _ (List.mem_cons_self))
  cases hb:nob (Nat.ble (Nat.succ i) (len l)) (l8 M (f x).cells sz)with
  | false=>rw [hb]at h;cases h
  | true=>
   rw [hb]at h
   simp only [cond_true]at h
   obtain ⟨h1,h2⟩:=arl ps _ r (fun q hq=>hp q (by simp [hq])) (fun v hv=>by
    rcases bd1 hv with hv | hv
    ·exact hl v hv
    ·rw [hv];exact hx) h
   refine ⟨h1,fun M1=>?_⟩
   simp only [qc]
   rw [abu (M:=M1) (M0:=M) _ _ (adl _ hx),hb]
   exact h2 M1
theorem bdy (e:List Ev):∀ l:List V,(∀ v ∈ l,cd v=true)->vi e l=l
 | [],_=>rfl
 | v::r,h=>by simp only [vi];rw [bff e v (h v (by simp)),bdy e r fun w hw=>h w (by simp [hw])]
theorem bij {B:Tab} {t:TypeId} {n:Nat} {ps:List (Nat×Operand)} {f:Operand->V} {d:Option Nat} {M M0:Mem} (hp:∀ q ∈ ps,cd (f q.2)=true) {vc:List Prop} {v:V} {e:List Ev} {N:Mem} (h:acm B t n ps f d M0=⟨vc,v,e,N⟩) (hv:ae vc) :
  acm B t n ps f d M=⟨vc,v,e,ap (jx (len e) N) (rp (cj (jx (len e) N)) M)⟩:=by
 unfold acm at h ⊢
 split at h
 ·rename_i k el hel
  split at h
  ·rename_i l hl
   obtain ⟨hd,hl1⟩:=arl ps _ l hp (fun v hv=>by rw [bcb hv];exact aru _) hl
   simp only [hl1 M]
   cases hb:bt [(B.τ t).ok,(B.τ el).ok,B.z el,Nat.ble (Nat.mul n (B.τ el).size) 16777216,Nat.ble n nb,gl (B.σ el).size (B.τ el).size]with
   | false=>rw [hb]at h;exact (cn h hv).elim
   | true=>
    rw [hb]at h
    simp only [cond_true,bdy _ l hd]at h ⊢
    cases l with
    | nil=>
     simp only [Rs.mk.injEq]at h
     obtain ⟨rfl,rfl,rfl,rfl⟩:=h
     rfl
    | cons v0 r=>
     simp only at h ⊢
     split at h
     ·rename_i q e1 M1 hq
      obtain ⟨rfl,rfl,hq1⟩:=be9 v0 _ _ (hd v0 (by simp)) _ _ _ hq
      simp only [hq1]
      split at h
      ·rename_i x ev M2 hx
       obtain ⟨rfl,rfl,hx1⟩:=afj _ hd _ _ _ _ hx
       simp only [hx1]
       simp only [Rs.mk.injEq]at h
       obtain ⟨rfl,rfl,rfl,rfl⟩:=h
       rfl
      ·rename_i hx
       have hx1:∀ M1,ph k q.o [] (v0::r) M1=none:=fun M1=>by
        cases hc:ph k q.o [] (v0::r) M1 with
        | none=>rfl
        | some z=>
         obtain ⟨z1,z2,z3⟩:=z
         have:=(afj _ hd _ _ _ _ hc).2.2 (del k M0)
         rw [hx]at this;cases this
       simp only [hx1]
       split at h
       ·rename_i x ev M2 hx
        obtain ⟨rfl,rfl,hx1⟩:=afj _ hd _ _ _ _ hx
        simp only [hx1]
        simp only [Rs.mk.injEq]at h
        obtain ⟨rfl,rfl,rfl,rfl⟩:=h
        rfl
       ·exact (cn h hv).elim
     ·exact (cn h hv).elim
  ·exact (cn h hv).elim
 ·exact (cn h hv).elim
theorem bjb {B:Tab} {d:Option Nat} {t:TypeId} {x y:V} {M M0:Mem} (hx:cd x=true) (hy:cd y=true) {vc:List Prop} {v:V} {e:List Ev} {N:Mem} (h:afi B d t x y M0=⟨vc,v,e,N⟩) (hv:ae vc) :
  afi B d t x y M=⟨vc,v,e,ap (jx (len e) N) (rp (cj (jx (len e) N)) M)⟩:=by
 unfold afi at h ⊢
 cases he:(B.τ t).el with
 | none=>rw [he]at h;exact (cn h hv).elim
 | some el=>
 cases d with
 | none=>rw [he]at h;exact (cn h hv).elim
 | some k=>
 rw [he]at h
 try simp only at h ⊢
 cases y with
 | nl=>
  simp only [ahp]at h ⊢
  cases hb:bt [(B.τ t).ok,(B.τ el).ok,neg (Nat.beq (B.τ el).bytes 0),B.z el,gl (B.σ el).size (B.τ el).size]with
  | false=>rw [hb]at h;exact (cn h hv).elim
  | true=>
   rw [hb]at h
   simp only [cond_true]at h ⊢
   cases x with
   | nl=>simp only [Rs.mk.injEq]at h ⊢;obtain ⟨rfl,rfl,rfl,rfl⟩:=h;exact ⟨rfl,rfl,rfl,rfl⟩
   | ref _ _=>cases hx
   | _=>exact (cn h hv).elim
 | d s l=>
  cases s with
  | sl s=>
   simp only [ahp]at h ⊢
   cases hb:bt [(B.τ t).ok,(B.τ el).ok,neg (Nat.beq (B.τ el).bytes 0),B.z el,gl (B.σ el).size (B.τ el).size]with
   | false=>rw [hb]at h;exact (cn h hv).elim
   | true=>
    rw [hb]at h
    simp only [cond_true]at h ⊢
    cases x with
    | nl=>
     simp only at h ⊢
     cases hc:gl s.size (B.τ el).size with
     | false=>rw [hc]at h;exact (cn h hv).elim
     | true=>
      rw [hc]at h
      simp only [cond_true,Rs.mk.injEq]at h ⊢
      obtain ⟨rfl,rfl,rfl,rfl⟩:=h
      exact ⟨rfl,rfl,rfl,rfl⟩
    | ref _ _=>cases hx
    | _=>exact (cn h hv).elim
  | _=>simp only [ahp]at h;exact (cn h hv).elim
 | ref _ _=>cases hy
 | _=>simp only [ahp]at h;exact (cn h hv).elim
theorem bb5 {M0 M:Mem} {o:Oper} {env:Env} (hk:amv M0 o.op env=true) (ag:alb M0 env (cu o.op)=true->∀ x ∈ cu o.op,agV M M0 (rd env x)) {vc:List Prop} {v:V} {e:List Ev} {N:Mem} (h:evR B Φ o env M0=⟨vc,v,e,N⟩) (hv:ae vc) (he:klB e (jx (len e) N)=true) :
  evR B Φ o env M=⟨vc,v,e,ap (jx (len e) N) (rp (cj (jx (len e) N)) M)⟩:=by
 have tk:∀ N:Mem,jx (len ([]:List Ev)) N=[]:=fun _=>rfl
 obtain ⟨dst,op,ty',pos,after,guard⟩:=o
 simp only [amv,nx,bc,Bool.or_eq_true,Bool.and_eq_true]at hk
 rcases hk with hk | hk | ⟨hk | hk,hd⟩
 ·cases op <;> simp only [am3,Bool.false_eq_true]at hk <;> simp only [evR,ew,dz,Rs.mk.injEq]at h ⊢ <;> obtain ⟨h1,h2,rfl,rfl⟩:=h <;> exact ⟨h1,h2,rfl,rfl⟩
 ·cases op <;> simp only [litK,Bool.false_eq_true]at hk
  case call c=>
   split at hk
   ·rename_i hcal
    simp only [evR,ew,hcal]at h ⊢
    split at h
    ·rename_i x y t t' hxy htt
     cases hb:Nat.beq t t' with
     | false=>
      rw [hb]at h
      simp only [cond_false,da,Rs.mk.injEq]at h
      obtain ⟨rfl,_⟩:=h
      exact absurd (gw hv) (by simp [ae])
     | true=>
      rw [hb]at h
      simp only [cond_true]at h ⊢
      generalize hq:afi B dst t ((rd env x).strip) ((rd env y).strip) M0=q at h
      obtain ⟨vc',v',e',N'⟩:=q
      simp only [Rs.mk.injEq]at h
      obtain ⟨rfl,rfl,rfl,rfl⟩:=h
      have hx:cd (rd env x)=true:=ads hk _ (by show x ∈ ap (cu.calO c.callee) (toL c.args);rw [hcal,hxy,mr];simp)
      have hy:cd (rd env y)=true:=ads hk _ (by show y ∈ ap (cu.calO c.callee) (toL c.args);rw [hcal,hxy,mr];simp)
      rw [bjb (M:=M) (by rw [ao0 hx];exact hx) (by rw [ao0 hy];exact hy) hq (gw hv)]
    ·simp only [da,Rs.mk.injEq]at h
     obtain ⟨rfl,_⟩:=h
     exact absurd (gw hv) (by simp [ae])
   ·cases hk
  rename_i t n ps
  simp only [evR,ew]at h ⊢
  generalize hq:acm B t n (toL ps) (fun x=>(rd env x).strip) dst M0=q at h
  obtain ⟨vc',v',e',N'⟩:=q
  simp only [Rs.mk.injEq]at h
  obtain ⟨rfl,rfl,rfl,rfl⟩:=h
  have hm:∀ q ∈ toL ps,cd ((fun x=>(rd env x).strip) q.2)=true:=fun q hq=>by
   have:cd (rd env q.2)=true:=ads hk _ (by simp only [cu];exact ae8 (by rw [← ge];exact hq))
   simp only [ao0 this]
   exact this
  rw [bij (M:=M) hm hq (gw hv)]
 ·have hm:=ag hd
  cases op <;> simp only [acs,Bool.false_eq_true]at hk <;> simp only [cu]at hm
  case load t x=>
   have hx:=hm x (by simp)
   simp only [evR,ew,Rs.mk.injEq]at h ⊢
   obtain ⟨h1,h2,h3,h4⟩:=h
   have hn:ab6 (B.τ t) M0 dst ((rd env x).strip)=none:=by
    cases htk:ab6 (B.τ t) M0 dst ((rd env x).strip)with
    | none=>rfl
    | some R=>
     exfalso
     simp only [sj,htk]at h1 h2 h3 h4
     unfold ab6 at htk
     split at htk
     ·split at htk
      ·cases htk
       cases hb:bt [(B.τ t).ok,gl (B.τ t).size 1,neg (B.τ t).agg,_,_]with
       | false=>
        rw [hb]at h1
        simp only [cond_false,da]at h1
        subst h1
        exact absurd (gw hv) (by simp [ae])
       | true=>
        rw [hb]at h3
        simp only [cond_true]at h3
        subst h3
        revert he;generalize jx _ N=N1;cases N1 <;> simp [klB]
      ·cases htk
     ·cases htk
   have hn':ab6 (B.τ t) M dst ((rd env x).strip)=none:=by
    rw [rj hx]at hn ⊢
    rw [bl8 _ _ hx];exact hn
   simp only [sj,hn,dz]at h1 h2 h3 h4
   subst h3
   simp only [sj,hn',dz]
   rw [rj hx]at h1 h2 ⊢
   rw [bg0 _ _ hx]
   simp only [tk,ap,rp,cj,and_true]
   exact ⟨h1,h2⟩
  all_goals simp only [evR,ew,dz,Rs.mk.injEq]at h ⊢
  all_goals obtain ⟨h1,h2,rfl,rfl⟩:=h
  case fieldAddr t x i=>
   have hx:=hm x (by simp)
   rw [rj hx,bhm _ _ _ hx,← rj hx]
   exact ⟨h1,h2,rfl,rfl⟩
  case field t x i=>
   have hx:=hm x (by simp)
   rw [rj hx,bk4 _ _ _ hx,← rj hx]
   exact ⟨h1,h2,rfl,rfl⟩
  case indexAddr t x i=>
   have hx:=hm x (by simp)
   rw [rj hx,bkf _ _ _ hx,← rj hx]
   exact ⟨h1,h2,rfl,rfl⟩
  all_goals exact ⟨h1,h2,rfl,rfl⟩
 ·have hm:=ag hd
  cases op <;> simp only [newK,Bool.false_eq_true]at hk
  case alloc t=>
   simp only [evR,ew,awe]at h ⊢
   cases dst with
   | none=>
    simp only [da,Rs.mk.injEq]at h
    obtain ⟨rfl,_⟩:=h
    exact absurd (gw hv) (by simp [ae])
   | some k=>
    simp only at h ⊢
    cases hb:bt [(B.τ t).ok,B.z t]with
    | false=>
     rw [hb]at h
     simp only [cond_false,da,Rs.mk.injEq]at h
     obtain ⟨rfl,_⟩:=h
     exact absurd (gw hv) (by simp [ae])
    | true=>
     rw [hb]at h
     simp only [cond_true,Rs.mk.injEq]at h ⊢
     obtain ⟨h1,h2,rfl,rfl⟩:=h
     exact ⟨h1,h2,rfl,rfl⟩
  case makeSlice t l c=>
   simp only [evR,ew,ao6]at h ⊢
   split at h
   ·rename_i el k1 nl k2 nc e2 e3 e4
    cases hb:bt [(B.τ t).ok,(B.τ el).ok,B.z el,gl (B.σ el).size (B.τ el).size]with
    | false=>
     rw [hb]at h
     simp only [cond_false,da,Rs.mk.injEq]at h
     obtain ⟨rfl,_⟩:=h
     exact absurd (gw hv) (by simp [ae])
    | true=>
     rw [hb]at h
     simp only [cond_true,Rs.mk.injEq]at h ⊢
     obtain ⟨h1,h2,rfl,rfl⟩:=h
     exact ⟨h1,h2,rfl,rfl⟩
   ·simp only [da,Rs.mk.injEq]at h
    obtain ⟨rfl,_⟩:=h
    exact absurd (gw hv) (by simp [ae])
  case build t ps=>
   simp only [evR,ew,zk]at h ⊢
   rw [arn (M:=M) (M0:=M0) _ (fun x=>(rd env x).strip) (toL ps) _ (fun x hx=>by have:=hm x (by simp only [cu];exact hx);rw [rj this];exact this) (ar9 _)]
   cases hb:bt [(B.τ t).ok,aql B (B.τ t),B.z t]with
   | false=>
    rw [hb]at h
    simp only [cond_false,da,Rs.mk.injEq]at h
    obtain ⟨rfl,_⟩:=h
    exact absurd (gw hv) (by simp [ae])
   | true=>
    rw [hb]at h
    simp only [cond_true]at h ⊢
    split at h
    ·rename_i v0 e0
     simp only [Rs.mk.injEq]at h ⊢
     obtain ⟨h1,h2,rfl,rfl⟩:=h
     exact ⟨h1,h2,rfl,rfl⟩
    ·simp only [da,Rs.mk.injEq]at h
     obtain ⟨rfl,_⟩:=h
     exact absurd (gw hv) (by simp [ae])
  case buildSlice t n p=>
   rw [bc,Bool.and_eq_true]at hk
   have hn0:=Nat.eq_of_beq_eq_true hk.1
   subst hn0
   have hp:toL p=[]:=by
    have:=Nat.eq_of_beq_eq_true hk.2
    revert this
    cases toL p with
    | nil=>intro _;rfl
    | cons a r=>intro h;exact absurd h (by simp only [len];omega)
   ·simp only [evR,ew,hp,acm]at h ⊢
    cases dst with
    | none=>
     simp only [da,Rs.mk.injEq]at h
     obtain ⟨rfl,_⟩:=h
     exact absurd (gw hv) (by simp [ae])
    | some k=>
     cases hel:(B.τ t).el with
     | none=>
      rw [hel]at h
      simp only [da,Rs.mk.injEq]at h
      obtain ⟨rfl,_⟩:=h
      exact absurd (gw hv) (by simp [ae])
     | some el=>
      rw [hel]at h
      simp only [qc,ab7,vi]at h ⊢
      cases hb:bt [(B.τ t).ok,(B.τ el).ok,B.z el,Nat.ble (Nat.mul 0 (B.τ el).size) 16777216,Nat.ble 0 nb,gl (B.σ el).size (B.τ el).size]with
      | false=>
       rw [hb]at h
       simp only [cond_false,da,Rs.mk.injEq]at h
       obtain ⟨rfl,_⟩:=h
       exact absurd (gw hv) (by simp [ae])
      | true=>
       rw [hb]at h
       simp only [cond_true,Rs.mk.injEq]at h ⊢
       obtain ⟨h1,h2,rfl,rfl⟩:=h
       exact ⟨h1,h2,rfl,rfl⟩
  case call c=>
   obtain ⟨callee,args,argTypes⟩:=c
   have hrd:∀ x ∈ toL args,agV M M0 (rd env x).strip:=fun x hx=>by
    have:=hm x (by simp only [cu,mr];exact List.mem_append_right _ hx)
    rw [rj this];exact this
   cases callee with
   | value cx=>
    have hc:=hm cx (by simp only [cu,mr,cu.calO];exact List.mem_append_left _ (by simp))
    simp only [evR,ew]at h ⊢
    cases hf:an8 (rd env cx).strip with
    | none=>
     rw [hf]at h
     simp only [da,Rs.mk.injEq]at h
     obtain ⟨rfl,_⟩:=h
     exact absurd (gw hv) (by simp [ae])
    | some q=>
     obtain ⟨f,cv⟩:=q
     have hcv:agV M M0 cv:=bpz (by rw [rj hc];exact hc) hf
     rw [hf]at h
     cases dst with
     | none=>
      simp only [da,Rs.mk.injEq]at h
      obtain ⟨rfl,_⟩:=h
      exact absurd (gw hv) (by simp [ae])
     | some d=>
      simp only at h ⊢
      obtain ⟨c1,c2⟩:=blk cv hcv
      rw [c1]
      cases hp:Φ f with
      | none=>
       rw [hp]at h
       simp only [da,Rs.mk.injEq]at h
       obtain ⟨rfl,_⟩:=h
       exact absurd (gw hv) (by simp [ae])
      | some ct=>
       rw [hp]at h
       cases hcs:rq M0 cv with
       | none=>
        rw [hcs]at h
        simp only [da,Rs.mk.injEq]at h
        obtain ⟨rfl,_⟩:=h
        exact absurd (gw hv) (by simp [ae])
       | some cs=>
        rw [hcs]at h
        simp only at h ⊢
        have hall:∀ y ∈ ap (sk (fun x=>(rd env x).strip) (toL args)) cs,agV M M0 y:=fun y hy=>by
         rw [mr]at hy
         rcases List.mem_append.1 hy with hy | hy
         ·obtain ⟨x,x1,rfl⟩:=bcv hy;exact hrd x x1
         ·exact c2 cs hcs y hy
        generalize hq:aa3 ct d (ap (sk (fun x=>(rd env x).strip) (toL args)) cs) M0=q at h
        obtain ⟨vc1,v1,e1,N1⟩:=q
        simp only [Rs.mk.injEq]at h
        obtain ⟨rfl,rfl,rfl,rfl⟩:=h
        rw [bhp hall hq (gw hv) he]
   | builtin b=>
    cases b <;> simp only [Bool.false_eq_true]at hk
    simp only [evR,ew]at h ⊢
    split at h
    ·rename_i x t e1 e2
     have hx:=hrd x (by rw [e1];simp)
     simp only [dz,Rs.mk.injEq]at h ⊢
     rw [bjg hx]
     obtain ⟨h1,h2,rfl,rfl⟩:=h
     exact ⟨h1,h2,rfl,rfl⟩
    ·simp only [da,Rs.mk.injEq]at h
     obtain ⟨rfl,_⟩:=h
     exact absurd (gw hv) (by simp [ae])
   | _=>simp at hk
theorem aeu {β:Nat->Value} {M:Mem} {Im:Nat->Prop} {w:World} {k:Nat} (hk:go M k=none):∀ (v:V) (vs:List Value),ai β M Im w v vs->v.ev (.kl k)=v:=by
 intro v
 induction v with
 | p a b iha ihb=>
  intro vs r
  simp only [ai]at r
  obtain ⟨va,vb,_,h1,h2⟩:=r
  simp only [V.ev];rw [iha _ h1,ihb _ h2]
 | ref j π=>
  intro vs r
  simp only [ai]at r
  obtain ⟨ob,_,h1,_⟩:=r
  have hne:j ≠ k:=fun h=>by subst h;rw [hk]at h1;cases h1
  simp only [V.ev,Ev.ref,dv,if_neg hne]
 | ad j π=>
  intro vs r
  simp only [ai]at r
  obtain ⟨_,_,ob,_,_,_,h1,_⟩:=r
  have hne:j ≠ k:=fun h=>by subst h;rw [hk]at h1;cases h1
  simp only [V.ev,Ev.ad,dv,if_neg hne]
 | fn f v ih=>
  intro vs r
  simp only [ai]at r
  obtain ⟨us,_,h⟩:=r
  simp only [V.ev];rw [ih _ h]
 | bx v ih=>
  intro vs r
  simp only [ai]at r
  obtain ⟨_,_,us,_,_,_,h⟩:=r
  simp only [V.ev];rw [ih _ h]
 | ag v=>intro vs r;simp only [ai]at r
 | tup v=>intro vs r;simp only [ai]at r
 | gd _ _ _ v=>intro vs r;simp only [ai]at r
 | ifc t v ih=>
  intro vs r
  simp only [ai]at r
  obtain ⟨u,_,h⟩:=r
  simp only [V.ev];rw [ih _ h]
 | _=>intro vs r;rfl
theorem bmx {β:Nat->Value} {M:Mem} {Im:Nat->Prop} {w:World} {k:Nat} (hk:go M k=none):∀ (v:V),vr v=true->(∀ u,al β M Im w v u->v.ev (.kl k)=v)/\(∀ us,cz β M Im w v us->v.ev (.kl k)=v):=by
 intro v
 induction v with
 | any=>intro _;exact ⟨fun _ _=>rfl,fun _ _=>rfl⟩
 | ag v ih=>
  intro _
  refine ⟨fun u r=>?_,fun us r=>?_⟩
  ·simp only [al]at r;obtain ⟨vs,_,h⟩:=r;simp only [V.ev];rw [aeu hk _ _ h]
  ·simp only [cz]at r
 | tup v ih=>
  intro hg
  refine ⟨fun u r=>?_,fun us r=>?_⟩
  ·simp only [al]at r;obtain ⟨vs,_,h⟩:=r;simp only [V.ev];rw [(ih hg).2 _ h]
  ·simp only [cz]at r
 | gd _ _ _ v=>intro hg;cases hg
 | ifc t v ih=>
  intro hg
  refine ⟨fun u r=>?_,fun us r=>?_⟩
  ·simp only [al]at r;exact aeu hk _ _ r
  ·simp only [cz]at r
 | p a b iha ihb=>
  intro hg
  simp only [vr,bc,Bool.and_eq_true]at hg
  refine ⟨fun u r=>?_,fun us r=>?_⟩
  ·simp only [al]at r;exact aeu hk _ _ r
  ·simp only [cz]at r
   obtain ⟨u,us',_,h1,h2⟩:=r
   simp only [V.ev];rw [(iha hg.1).1 _ h1,(ihb hg.2).2 _ h2]
 | u=>intro _;exact ⟨fun _ _=>rfl,fun _ _=>rfl⟩
 | ref j π=>intro _;exact ⟨fun u r=>by simp only [al]at r;exact aeu hk _ _ r,fun us r=>by simp only [cz]at r⟩
 | ad j π=>intro _;exact ⟨fun u r=>by simp only [al]at r;exact aeu hk _ _ r,fun us r=>by simp only [cz]at r⟩
 | d t x=>intro _;exact ⟨fun _ _=>rfl,fun _ _=>rfl⟩
 | nl=>intro _;exact ⟨fun _ _=>rfl,fun _ _=>rfl⟩
 | np=>intro _;exact ⟨fun _ _=>rfl,fun _ _=>rfl⟩
 | fn f v=>intro _;exact ⟨fun u r=>by simp only [al]at r;exact aeu hk _ _ r,fun us r=>by simp only [cz]at r⟩
 | bx v=>intro _;exact ⟨fun u r=>by simp only [al]at r;exact aeu hk _ _ r,fun us r=>by simp only [cz]at r⟩
theorem bgb:∀ {e:List Ev} {N:Mem},klB e N=true->∀ {v:V},(∀ k ∈ cj N,v.ev (.kl k)=v)->v.evs e=v
 | [],[],_,v,_=>rfl
 | [],_::_,h,_,_=>by simp [klB]at h
 | x::e,[],h,_,_=>by cases x <;> simp [klB]at h
 | x::e,(j,ob)::N,h,v,hk=>by
  cases x with
  | kl k=>
   simp only [klB,bc,Bool.and_eq_true]at h
   have:=Nat.eq_of_beq_eq_true h.1
   subst this
   simp only [V.evs]
   rw [hk k (by simp [cj])]
   exact bgb h.2 fun k hk'=>hk k (by simp [cj,hk'])
  | _=>simp [klB]at h
theorem ae1:∀ {ks:List Nat} {M:Mem},ahd ks M=true->∀ k ∈ ks,go M k=none
 | [],_,_,k,hk=>by cases hk
 | j::r,M,h,k,hk=>by
  simp only [ahd,bc,Bool.and_eq_true]at h
  rcases List.mem_cons.1 hk with rfl | hk
  ·cases hg:go M k with
   | none=>rfl
   | some _=>rw [hg]at h;exact absurd h.1 (by simp [isN])
  ·exact ae1 h.2 k hk
theorem xo:∀ {N:Mem} {k:Nat},k ∈ cj N<->go N k ≠ none
 | [],k=>by simp [cj,go]
 | (j,ob)::N,k=>by
  simp only [cj,List.mem_cons,fx]
  by_cases e:j=k
  ·subst e;simp
  ·rw [if_neg e,← xo (N:=N)]
   simp [Ne.symm e]
theorem aqi:∀ {ks:List Nat} {M:Mem} {k:Nat},k ∉ ks->go (rp ks M) k=go M k
 | [],_,_,_=>rfl
 | j::r,M,k,h=>by
  simp only [rp]
  rw [aqi (fun hh=>h (by simp [hh])),fo (fun hh=>h (by simp [hh]))]
theorem ati {t:Nat}:∀ {env:Env},w6 env=true->vr (gt env t)=true
 | [],_=>rfl
 | (k,v)::r,h=>by
  simp only [w6,bc,Bool.and_eq_true]at h
  rw [im]
  split
  ·exact h.1
  ·exact ati h.2
structure Hst (D:Bool) (ks as:List Nat) (B:Tab) (Φ:FuncId->Option Ct) (M0:Mem) (o:Oper) (e e':Env) (N:Mem) (X X':Mem) (d:Nat) (v:V) (vc:List Prop) (ev:List Ev):Prop where
 g:o.guard=none
 dst:o.dst=some d
 k:amv (ap X M0) o.op e=true
 r:∃ N',evR B Φ o e (ap X M0)=⟨vc,v,ev,N'⟩/\N=jx (len ev) N'
 hv:ae vc
 kl:klB ev N=true
 n0:ahd (cj N) M0=true
 nX:ahd (cj N) X=true
 gd:vr v=true
 dt:D=true->yq o.op=true->bxK B as o.op e=true\/w9 ks e (cu o.op)=true/\ksV ks v=true
 he:e'=(d,v)::e
 x:X'=ap N X
theorem asm {ks as:List Nat} {M0:Mem}:∀ (D:List Bool) (ops:List Oper) (e:Env) (x:Mem) (K:Env->Mem->Prop),hx D ks as B Φ M0 ops e x K->
  ∃ (E:Nat->Env) (X N:Nat->Mem),E 0=e/\X 0=x/\(∀ j o,ops[j]? = some o->∃ d v vc ev,Hst (D.getD j false) ks as B Φ M0 o (E j) (E (j+1)) (N j) (X j) (X (j+1)) d v vc ev)/\K (E ops.length) (X ops.length)
 | D,[],e,x,K,h=>⟨fun _=>e,fun _=>x,fun _=>[],rfl,rfl,fun j o h=>by simp at h,h⟩
 | D,o::r,e,x,K,h=>by
  have key:∃ e' x' N,(∃ d v vc ev,Hst (ajo D) ks as B Φ M0 o e e' N x x' d v vc ev)/\hx (ahf D) ks as B Φ M0 r e' x' K:=by
   simp only [hx]at h
   split at h
   ·rename_i d hg hd
    cases hk:amv (ap x M0) o.op e with
    | false=>rw [hk]at h;exact h.elim
    | true=>
     rw [hk]at h
     simp only [cond_true]at h
     generalize hq:evR B Φ o e (ap x M0)=q at h
     obtain ⟨vc,v,ev,N'⟩:=q
     simp only at h
     generalize hN:jx (len ev) N'=N at h
     cases hb:bt [klB ev N,ahd (cj N) M0,ahd (cj N) x,vr v,orb (neg (ajo D)) (orb (neg (yq o.op)) (orb (bxK B as o.op e) (nob (w9 ks e (cu o.op)) (ksV ks v))))]with
     | false=>rw [hb]at h;exact h.elim
     | true=>
      rw [hb]at h
      simp only [cond_true,od]at h
      simp only [br,b8,Bool.and_true,Bool.and_eq_true]at hb
      exact ⟨_,_,N,⟨d,v,vc,ev,⟨hg,hd,hk,⟨N',hq,hN.symm⟩,h.1,hb.1,hb.2.1,hb.2.2.1,hb.2.2.2.1,fun hD hk=>by
       have h5:=hb.2.2.2.2
       rw [hD,hk]at h5
       simpa using h5,rfl,rfl⟩⟩,h.2⟩
   ·exact h.elim
  obtain ⟨e',x',N,h1,h2⟩:=key
  obtain ⟨E,X,Ns,i1,i2,i3,i4⟩:=asm (ahf D) r e' x' K h2
  refine ⟨fun j=>match j with | 0=>e | j+1=>E j,fun j=>match j with | 0=>x | j+1=>X j,fun j=>match j with | 0=>N | j+1=>Ns j,rfl,rfl,fun j o' hj=>?_,by simpa using i4⟩
  cases j with
  | zero=>
   simp only [List.getElem?_cons_zero,Option.some.injEq]at hj
   subst hj
   simp only
   rw [i1,i2]
   have e:D.getD 0 false=ajo D:=by cases D <;> rfl
   rw [e]
   exact h1
  | succ j=>
   simp only [List.getElem?_cons_succ]at hj
   have e:D.getD (j+1) false=(ahf D).getD j false:=by cases D <;> simp [ahf]
   rw [e]
   exact i3 j o' hj
theorem bcz {α:Type} {x:Option α} (h:isN x=true):x=none:=by cases x <;> first | rfl | cases h
theorem bis {o:Op} (h:yq o=true):∀ x ∈ o.operands,x ∈ cu o:=by
 unfold yq at h
 cases o <;> simp [acs,am3,ar1]at h <;> simp [Op.operands,cu]
 intro x q hq
 exact ae8 (q:=(q,x)) (by simpa using hq)
theorem bju {B:Tab} {t:TypeId} {ps:List (Nat×Operand)} {f:Operand->V} {M:Mem}:(zk B t ps f M).ev=[]/\(zk B t ps f M).M=M:=by
 unfold zk
 cases bt [(B.τ t).ok,aql B (B.τ t),B.z t]with
 | false=>exact ⟨rfl,rfl⟩
 | true=>
  simp only [cond_true]
  split <;> exact ⟨rfl,rfl⟩
theorem bf1 {o:Oper} {env:Env} {M:Mem} {vc:List Prop} {v:V} {ev:List Ev} {N':Mem} (hk:yq o.op=true) (hr:evR B Φ o env M=⟨vc,v,ev,N'⟩) (hkl:klB ev (jx (len ev) N')=true):ev=[]:=by
 obtain ⟨dst,op,ty',pos,after,guard⟩:=o
 unfold yq at hk
 cases op <;> simp [acs,am3,ar1]at hk
 case build t ps=>
  simp only [evR,ew]at hr
  have h:=@bju B t (toL ps) (fun x=>(rd env x).strip) M
  generalize zk B t (toL ps) (fun x=>(rd env x).strip) M=q at hr h
  obtain ⟨a1,a2,a3,a4⟩:=q
  simp only [Rs.mk.injEq]at hr
  exact hr.2.2.1.symm.trans h.1
 case load t x=>
  simp only [evR,ew,sj]at hr
  split at hr
  ·rename_i r hr'
   unfold ab6 at hr'
   split at hr'
   ·split at hr'
    ·simp only [Option.some.injEq]at hr'
     subst hr'
     revert hr
     cases bt _ <;> intro hr
     ·simp only [cond_false,da,Rs.mk.injEq]at hr;exact hr.2.2.1.symm
     ·simp only [cond_true,Rs.mk.injEq]at hr
      rw [← hr.2.2.1]at hkl
      exfalso
      generalize jx _ N'=Z at hkl
      cases Z <;> simp [klB]at hkl
    ·cases hr'
   ·cases hr'
  ·simp only [dz,Rs.mk.injEq]at hr;exact hr.2.2.1.symm
 all_goals (simp only [evR,ew,dz,Rs.mk.injEq]at hr;exact hr.2.2.1.symm)
def AgM (ks:List Nat) (M' M:Mem):Prop:=∀ k,inN k ks=true->go M' k=go M k
theorem AgM.refl (ks:List Nat) (M:Mem):AgM ks M M:=fun _ _=>rfl
theorem zh {ks:List Nat} {j k:Nat} (hk:inN k ks=true) (hj:neg (inN j ks)=true):Nat.beq k j=false:=by
 cases h:Nat.beq k j with
 | false=>rfl
 | true=>
  have:=Nat.eq_of_beq_eq_true h
  subst this
  rw [hk]at hj;cases hj
theorem bns {ks:List Nat} {k:Nat} {π:b9} (hk:inN k ks=true) (e:Ev) (he:lq ks e=true):(V.ref k π).ev e=.ref k π:=by
 cases e with
 | mv r k'=>simp only [lq,bc,Bool.and_eq_true]at he;simp only [V.ev,Ev.ref,zh hk he.1,cond_false]
 | kl r=>simp only [lq]at he;simp only [V.ev,Ev.ref,zh hk he,cond_false]
 | cut r o o'=>simp only [lq]at he;simp only [V.ev,Ev.ref,zh hk he,cond_false]
 | fz r ob=>simp only [lq]at he;simp only [V.ev,Ev.ref,zh hk he,cond_false]
 | un r j=>simp only [lq,bc,Bool.and_eq_true]at he;simp only [V.ev,Ev.ref,zh hk he.1,cond_false]
 | tk r o o'=>simp only [lq]at he;simp only [V.ev,Ev.ref,zh hk he,cond_false]
theorem bqh {ks:List Nat} {k:Nat} {π:b9} (hk:inN k ks=true) (e:Ev) (he:lq ks e=true):(V.ad k π).ev e=.ad k π:=by
 cases e with
 | mv r k'=>simp only [lq,bc,Bool.and_eq_true]at he;simp only [V.ev,Ev.ad,zh hk he.1,cond_false]
 | kl r=>simp only [lq]at he;simp only [V.ev,Ev.ad,zh hk he,cond_false]
 | cut r o o'=>simp only [lq]at he;simp only [V.ev,Ev.ad,zh hk he,cond_false]
 | fz r ob=>simp only [lq]at he;simp only [V.ev,Ev.ad,zh hk he,cond_false]
 | un r j=>simp only [lq,bc,Bool.and_eq_true]at he;simp only [V.ev,Ev.ad,zh hk he.1,cond_false]
 | tk r o o'=>simp only [lq]at he;simp only [V.ev,Ev.ad,zh hk he,cond_false]
theorem axc:∀ e:List Ev,gx [] e=true
 | []=>rfl
 | x::e=>by cases x <;> simp [gx,lq,inN,neg,axc e]
theorem vj {ks:List Nat}:∀ {a b:List Ev},gx ks (ap a b)=true->gx ks a=true/\gx ks b=true
 | [],b,h=>⟨rfl,h⟩
 | x::a,b,h=>by
  simp only [ap,gx,bc,Bool.and_eq_true]at h ⊢
  obtain ⟨h1,h2⟩:=vj h.2
  exact ⟨⟨h.1,h1⟩,h2⟩
theorem AgM.trans {ks:List Nat} {a b c:Mem} (h:AgM ks a b) (g:AgM ks b c):AgM ks a c:=fun k hk=>(h k hk).trans (g k hk)
theorem ux {ks:List Nat} {k:Nat} {M:Mem} (h:neg (inN k ks)=true):AgM ks (del k M) M:=fun j hj=>fo (fun e=>by subst e;rw [hj]at h;cases h) M
theorem alc {ks:List Nat} {k:Nat} {ob:Ob} {M:Mem} (h:neg (inN k ks)=true):AgM ks (put k ob M) M:=fun j hj=>kv ob (fun e=>by subst e;rw [hj]at h;cases h) M
theorem rh {ks:List Nat}:∀ (v:V) (M:Mem),gx ks (cf M v).1=true->AgM ks (cf M v).2 M
 | .ref k π,M,h=>by
  simp only [cf]at h ⊢
  split
  ·rename_i ob hg
   rw [hg]at h
   simp only [gx,lq,bc,Bool.and_eq_true]at h
   exact ux h.1
  ·exact AgM.refl _ _
 | .ad k π,M,h=>by
  simp only [cf]at h ⊢
  split
  ·rename_i ob hg
   rw [hg]at h
   simp only [gx,lq,bc,Bool.and_eq_true]at h
   exact ux h.1
  ·exact AgM.refl _ _
 | .p a b,M,h=>by
  simp only [cf]at h ⊢
  obtain ⟨h1,h2⟩:=vj h
  exact (rh b _ h2).trans (rh a M h1)
 | .ag v,M,h=>by simp only [cf]at h ⊢;exact rh v M h
 | .fn _ v,M,h=>by simp only [cf]at h ⊢;exact rh v M h
 | .ifc _ v,M,h=>by simp only [cf]at h ⊢;exact rh v M h
 | .bx v,M,h=>by simp only [cf]at h ⊢;exact rh v M h
 | .tup v,M,h=>by simp only [cf]at h ⊢;exact rh v M h
 | .gd _ _ _ v,M,h=>by simp only [cf]at h ⊢;exact rh v M h
 | .any,M,_=>AgM.refl _ _
 | .nl,M,_=>AgM.refl _ _
 | .np,M,_=>AgM.refl _ _
 | .u,M,_=>AgM.refl _ _
 | .d _ _,M,_=>AgM.refl _ _
theorem ank {ks:List Nat}:∀ (vs:List V) (M:Mem),gx ks (qg M vs).1=true->AgM ks (qg M vs).2 M
 | [],M,_=>AgM.refl _ _
 | v::r,M,h=>by
  simp only [qg]at h ⊢
  obtain ⟨h1,h2⟩:=vj h
  exact (ank r _ h2).trans (rh v M h1)
theorem bet {ks:List Nat}:∀ {l:List Nat},gx ks (klL l)=true->∀ k ∈ l,neg (inN k ks)=true
 | [],_,k,h=>by cases h
 | a::l,h,k,hk=>by
  simp only [klL,gx,lq,bc,Bool.and_eq_true]at h
  rcases List.mem_cons.1 hk with e | e
  ·subst e;exact h.1
  ·exact bet h.2 k e
theorem bde {ks:List Nat} {N M:Mem} (h:gx ks (klL (cj N))=true):AgM ks (ap N (rp (cj N) M)) M:=fun k hk=>by
 have hn:k ∉ cj N:=fun hm=>by have:=bet h k hm;rw [hk]at this;cases this
 have hg:go N k=none:=Decidable.byContradiction fun e=>hn (xo.2 e)
 rw [aec,hg,aqi hn]
theorem bd0 {ks:List Nat} {ct:Ct} {d:Nat} {vs:List V} {M:Mem} {vc:List Prop} {v:V} {e:List Ev} {M1:Mem} (h:aa3 ct d vs M=⟨vc,v,e,M1⟩) (hv:ae vc) (he:gx ks e=true):AgM ks M1 M:=by
 unfold aa3 at h
 split at h
 ·exact (cn h hv).elim
 ·unfold ahx at h
  split at h
  ·split at h
   ·cases hb:nob _ _ with
    | false=>rw [hb]at h;exact (cn h hv).elim
    | true=>
     rw [hb]at h
     simp only [cond_true]at h
     split at h
     ·split at h
      ·(try simp only at h)
       cases hi:inN _ _ with
       | true=>rw [hi]at h;exact (cn h hv).elim
       | false=>
        rw [hi]at h
        simp only [cond_false,Rs.mk.injEq]at h
        obtain ⟨_,_,rfl,rfl⟩:=h
        obtain ⟨h1,h2⟩:=vj he
        simp only [gx,bc,Bool.and_eq_true]at h2
        exact (bde h2.2).trans ((alc (by simpa only [lq]using h2.1)).trans (ank _ _ h1))
      ·exact (cn h hv).elim
     ·exact (cn h hv).elim
   ·exact (cn h hv).elim
  ·exact (cn h hv).elim
 ·exact (cn h hv).elim
 ·exact (cn h hv).elim
 ·cases hb:shp _ _ with
  | false=>rw [hb]at h;exact (cn h hv).elim
  | true=>
   rw [hb]at h
   simp only [cond_true]at h
   split at h
   ·split at h
    ·simp only [Rs.mk.injEq]at h
     obtain ⟨_,_,rfl,rfl⟩:=h
     exact bde he
    ·exact (cn h hv).elim
   ·split at h
    ·simp only [Rs.mk.injEq]at h
     obtain ⟨_,_,rfl,rfl⟩:=h
     obtain ⟨h1,h2⟩:=vj he
     exact (bde h2).trans (ank _ _ h1)
    ·exact (cn h hv).elim
theorem au3 {ks:List Nat} {d:Nat} {ob:Ob} {M1 M:Mem} (h:neg (inN d ks)=true) (g:AgM ks M1 M):AgM ks ((d,ob)::del d M1) M:=fun k hk=>by
 have hne:k ≠ d:=fun e=>by subst e;rw [hk]at h;cases h
 have hb:Nat.beq d k=false:=by cases q:Nat.beq d k with
  | false=>rfl
  | true=>exact absurd (Nat.eq_of_beq_eq_true q).symm hne
 simp only [go,hb,cond_false]
 rw [fo hne]
 exact g k hk
theorem ajn {ks:List Nat} {M M':Mem} {x:V} {ev:List Ev} {t:T} {m:List t.den} (h:ahp M x=some (.dat ev M' t m)) (he:gx ks ev=true):AgM ks M' M:=by
 unfold ahp at h
 split at h
 ·cases h
 ·cases h;exact AgM.refl _ _
 ·split at h
  ·cases h
  ·split at h
   ·cases h
    simp only [gx,bc,Bool.and_eq_true,lq]at he
    exact ux he.1
   ·cases h
    simp only [gx,bc,Bool.and_eq_true,lq]at he
    exact ux he.1
   ·cases h
  ·cases h
 ·cases h
theorem aoz {ks:List Nat} {b k j:Nat} {e e':O} {l:List e.strip.den} {m:List e'.strip.den} {ev:List Ev} {M1 M0 M:Mem} {vc:List Prop} {v:V} {e2:List Ev} {M2:Mem} (h:af0 b k e l j e' m ev M1 M0=⟨vc,v,e2,M2⟩) (hv:ae vc) (he:gx ks e2=true) (g:gx ks ev=true->AgM ks M1 M):AgM ks M2 M:=by
 unfold af0 at h
 split at h
 ·simp only [Rs.mk.injEq]at h
  obtain ⟨_,_,rfl,rfl⟩:=h
  obtain ⟨h1,h2⟩:=vj he
  simp only [gx,bc,Bool.and_eq_true,lq]at h2
  exact au3 h2.2.1 ((ux h2.1).trans (g h1))
 ·split at h
  ·simp only [Rs.mk.injEq]at h
   obtain ⟨_,_,rfl,rfl⟩:=h
   obtain ⟨h1,h2⟩:=vj he
   simp only [gx,bc,Bool.and_eq_true,lq]at h2
   exact au3 h2.2.1 ((ux h2.1).trans (g h1))
  ·exact (cn h hv).elim
theorem apl {ks:List Nat} {b k:Nat} {e:O} {l:List e.strip.den} {t:T} {m:List t.den} {ev:List Ev} {M1 M0 M:Mem} {vc:List Prop} {v:V} {e2:List Ev} {M2:Mem} (h:af2 b k e l t m ev M1 M0=⟨vc,v,e2,M2⟩) (hv:ae vc) (he:gx ks e2=true) (g:gx ks ev=true->AgM ks M1 M):AgM ks M2 M:=by
 unfold af2 at h
 split at h
 ·simp only [Rs.mk.injEq]at h
  obtain ⟨_,_,rfl,rfl⟩:=h
  obtain ⟨h1,h2⟩:=vj he
  simp only [gx,bc,Bool.and_eq_true,lq]at h2
  exact au3 h2.1 (g h1)
 ·exact (cn h hv).elim
theorem bkn {ks:List Nat} {B:Tab} {dst:Option Nat} {t:TypeId} {s x:V} {M:Mem} {vc:List Prop} {v:V} {e:List Ev} {M1:Mem} (h:afi B dst t s x M=⟨vc,v,e,M1⟩) (hv:ae vc) (he:gx ks e=true):AgM ks M1 M:=by
 unfold afi at h
 split at h
 ·rename_i el d src _ hsrc
  cases hb:bt [(B.τ t).ok,(B.τ el).ok,neg (Nat.beq (B.τ el).bytes 0),B.z el,gl (B.σ el).size (B.τ el).size]with
  | false=>rw [hb]at h;exact (cn h hv).elim
  | true=>
   rw [hb]at h
   simp only [cond_true]at h
   split at h
   ·split at h
    ·cases h;exact AgM.refl _ _
    ·rename_i j e' m
     cases hc:bt [qa j d,gl e'.strip.size (B.τ el).size]with
     | false=>rw [hc]at h;exact (cn h hv).elim
     | true=>
      rw [hc]at h
      simp only [cond_true,Rs.mk.injEq]at h
      obtain ⟨_,_,rfl,rfl⟩:=h
      simp only [gx,bc,Bool.and_eq_true,lq]at he
      exact au3 he.2.1 (ux he.1)
    ·rename_i ev M' t' m
     cases hc:gl t'.size (B.τ el).size with
     | false=>rw [hc]at h;exact (cn h hv).elim
     | true=>
      rw [hc]at h
      simp only [cond_true,Rs.mk.injEq]at h
      obtain ⟨_,_,rfl,rfl⟩:=h
      obtain ⟨h1,h2⟩:=vj he
      simp only [gx,bc,Bool.and_eq_true,lq]at h2
      exact au3 h2.1 (ajn hsrc h1)
   ·rename_i k π
    split at h
    ·rename_i o l _
     cases hc:bt [gl o.strip.size (B.τ el).size,Nat.ble (Nat.succ k) gid]with
     | false=>rw [hc]at h;exact (cn h hv).elim
     | true=>
      rw [hc]at h
      simp only [cond_true]at h
      split at h
      ·cases h;exact AgM.refl _ _
      ·rename_i j e' m
       cases hd:neg (qa j k)with
       | true=>rw [hd]at h;exact (cn h hv).elim
       | false=>
        rw [hd]at h
        refine aoz h hv he fun h1=>?_
        simp only [gx,bc,Bool.and_eq_true,lq]at h1
        exact ux h1.1
      ·split at h
       ·refine apl h hv he fun h1=>?_
        obtain ⟨h2,h3⟩:=vj h1
        simp only [gx,bc,Bool.and_eq_true,lq]at h3
        exact (ux h3.1).trans (ajn hsrc h2)
       ·exact (cn h hv).elim
    ·rename_i ob _ _
     split at h
     ·rename_i o l ob' _ _
      cases hc:bt [gl o.strip.size (B.τ el).size,neg (Nat.beq d k),Nat.ble (Nat.succ k) gid]with
      | false=>rw [hc]at h;exact (cn h hv).elim
      | true=>
       rw [hc]at h
       simp only [cond_true]at h
       split at h
       ·cases h;exact AgM.refl _ _
       ·rename_i j e' m
        cases hd:bt [qa j k,qa j d]with
        | false=>rw [hd]at h;exact (cn h hv).elim
        | true=>
         rw [hd]at h
         refine aoz h hv he fun h1=>?_
         simp only [gx,bc,Bool.and_eq_true,lq]at h1
         exact alc h1.1
       ·split at h
        ·refine apl h hv he fun h1=>?_
         obtain ⟨h2,h3⟩:=vj h1
         simp only [gx,bc,Bool.and_eq_true,lq]at h3
         exact (alc h3.1).trans (ajn hsrc h2)
        ·exact (cn h hv).elim
     ·split at h
      ·rename_i o l _ _ _ ob' _
       cases hc:bt [gl o.strip.size (B.τ el).size,neg (Nat.beq d k),Nat.ble (Nat.succ k) gid]with
       | false=>rw [hc]at h;exact (cn h hv).elim
       | true=>
        rw [hc]at h
        simp only [cond_true]at h
        split at h
        ·exact (cn h hv).elim
        ·rename_i j e' m
         cases hd:bt [qa j k,qa j d]with
         | false=>rw [hd]at h;exact (cn h hv).elim
         | true=>
          rw [hd]at h
          refine aoz h hv he fun h1=>?_
          simp only [gx,bc,Bool.and_eq_true,lq]at h1
          exact alc h1.1
        ·split at h
         ·refine apl h hv he fun h1=>?_
          obtain ⟨h2,h3⟩:=vj h1
          simp only [gx,bc,Bool.and_eq_true,lq]at h3
          exact (alc h3.1).trans (ajn hsrc h2)
         ·exact (cn h hv).elim
      ·exact (cn h hv).elim
     ·exact (cn h hv).elim
    ·exact (cn h hv).elim
   ·exact (cn h hv).elim
 ·exact (cn h hv).elim
theorem bae {ks:List Nat} {k r:Nat} {ρ:b9} {M:Mem} {q:Ob} {e:List Ev} {M':Mem} (h:adb k r ρ M=some (q,e,M')) (he:gx ks e=true):AgM ks M' M:=by
 unfold adb at h
 cases hb:neg (qa r k)with
 | true=>rw [hb]at h;cases h
 | false=>
  rw [hb]at h
  simp only [cond_false]at h
  split at h
  ·split at h
   ·split at h
    ·cases h
     simp only [gx,bc,Bool.and_eq_true,lq]at he
     exact ux he.1
    ·cases hi:ajy ρ with
     | true=>
      rw [hi]at h
      simp only [cond_true,Option.some.injEq,Prod.mk.injEq]at h
      obtain ⟨_,rfl,rfl⟩:=h
      simp only [gx,bc,Bool.and_eq_true,lq]at he
      exact ux he.1
     | false=>
      rw [hi]at h
      simp only [cond_false]at h
      split at h
      ·simp only [Option.some.injEq,Prod.mk.injEq]at h
       obtain ⟨_,rfl,rfl⟩:=h
       simp only [gx,bc,Bool.and_eq_true,lq]at he
       exact alc he.1
      ·cases h
   ·cases h
  ·cases h
theorem bdk {ks:List Nat} {k r:Nat} {ρ:b9} {M:Mem} {q:Ob} {e:List Ev} {M':Mem} (h:apj k r ρ M=some (q,e,M')) (he:gx ks e=true):AgM ks M' M:=by
 unfold apj at h
 cases hb:neg (qa r k)with
 | true=>rw [hb]at h;cases h
 | false=>
  rw [hb]at h
  simp only [cond_false]at h
  split at h
  ·cases h
   simp only [gx,bc,Bool.and_eq_true,lq]at he
   exact ux he.1
  ·split at h
   ·cases h
    simp only [gx,bc,Bool.and_eq_true,lq]at he
    exact ux he.1
   ·cases h
  ·cases h
theorem qm {ks:List Nat} {k:Nat} {t:T} {v:V} {M:Mem} {q:Ob} {e:List Ev} {M':Mem} (ht:∀ a b,t=.p a b->∀ x y,v ≠ .p x y) (h:conv k t v M=some (q,e,M')) (he:gx ks e=true):AgM ks M' M:=by
 cases v with
 | p a b=>cases t with
  | p t s=>exact absurd rfl (ht _ _ rfl _ _)
  | _=>simp [conv]at h
 | u=>cases t <;> simp only [conv]at h <;> cases h <;> exact AgM.refl _ _
 | d _ _=>cases t <;> simp only [conv]at h <;> cases h <;> exact AgM.refl _ _
 | nl=>cases t <;> simp only [conv]at h <;> cases h <;> exact AgM.refl _ _
 | np=>cases t <;> simp only [conv]at h <;> cases h <;> exact AgM.refl _ _
 | fn f v=>cases v <;> cases t <;> simp only [conv]at h <;> cases h <;> exact AgM.refl _ _
 | ref r ρ=>cases t <;> simp only [conv]at h <;> exact bae h he
 | ad r ρ=>cases t <;> simp only [conv]at h <;> exact bdk h he
 | _=>cases t <;> simp only [conv]at h <;> cases h
theorem anu {ks:List Nat} {k:Nat}:(t:T)->(v:V)->(M:Mem)->(q:Ob)->(e:List Ev)->(M':Mem)->conv k t v M=some (q,e,M')->gx ks e=true->AgM ks M' M
 | .p t s,v,M,q,e,M',h,he=>by
  by_cases hv:∃ x y,v=.p x y
  ·obtain ⟨x,y,rfl⟩:=hv
   simp only [conv]at h
   split at h
   ·rename_i q1 e1 M1 h1
    split at h
    ·rename_i q2 e2 M2 h2
     cases h
     obtain ⟨g1,g2⟩:=vj he
     exact (anu s _ _ _ _ _ h2 g2).trans (anu t _ _ _ _ _ h1 g1)
    ·cases h
   ·cases h
  ·exact qm (fun _ _ _ x y e=>hv ⟨x,y,e⟩) h he
 | .int _,_,_,_,_,_,h,he=>qm (fun _ _ e=>by cases e) h he
 | .bool,_,_,_,_,_,h,he=>qm (fun _ _ e=>by cases e) h he
 | .str,_,_,_,_,_,h,he=>qm (fun _ _ e=>by cases e) h he
 | .u,_,_,_,_,_,h,he=>qm (fun _ _ e=>by cases e) h he
 | .sl _,_,_,_,_,_,h,he=>qm (fun _ _ e=>by cases e) h he
 | .pt _,_,_,_,_,_,h,he=>qm (fun _ _ e=>by cases e) h he
 | .fn _ _,_,_,_,_,_,h,he=>qm (fun _ _ e=>by cases e) h he
 | .ifc _ _,_,_,_,_,_,h,he=>qm (fun _ _ e=>by cases e) h he
 | .mp _ _,_,_,_,_,_,h,he=>qm (fun _ _ e=>by cases e) h he
 | .op _,_,_,_,_,_,h,he=>qm (fun _ _ e=>by cases e) h he
 | .ns _,_,_,_,_,_,h,he=>qm (fun _ _ e=>by cases e) h he
 | .any,_,_,_,_,_,h,he=>qm (fun _ _ e=>by cases e) h he
termination_by t=>SizeOf.sizeOf t
theorem ao2 {ks:List Nat} {k:Nat} {o:O} {v:V} {M:Mem} {x:o.strip.den} {e:List Ev} {M':Mem} (h:ad6 k o v M=some (x,e,M')) (he:gx ks e=true):AgM ks M' M:=by
 unfold ad6 at h
 split at h
 ·generalize hz:cf M v=z at h
  obtain ⟨e1,M1⟩:=z
  simp only at h
  split at h
  ·cases h
   have:=rh (ks:=ks) v M (by rw [hz];exact he)
   rw [hz]at this
   exact this
  ·cases h
 ·split at h
  ·rename_i q e1 M1 h1
   split at h
   ·cases h
    exact anu _ _ _ _ _ _ h1 he
   ·cases h
  ·cases h
theorem beh {ks:List Nat} {k:Nat} {o:O} {v:V} {M:Mem} {x:o.strip.den} {e:List Ev} {M':Mem} (h:ahr k o v M=some (x,e,M')) (he:gx ks e=true):AgM ks M' M:=by
 unfold ahr at h
 split at h
 ·split at h
  ·rename_i h1
   cases h
   exact ao2 h1 he
  ·cases h
 ·exact ao2 h he
theorem agm {ks:List Nat} {k:Nat} {o:O}:∀ (vs:List V) (ev:List Ev) (M:Mem) (l:List o.strip.den) (e:List Ev) (M':Mem),ph k o ev vs M=some (l,e,M')->gx ks e=true->AgM ks M' M/\gx ks ev=true
 | [],ev,M,l,e,M',h,he=>by
  simp only [ph]at h
  cases h
  exact ⟨AgM.refl _ _,he⟩
 | v::r,ev,M,l,e,M',h,he=>by
  simp only [ph]at h
  split at h
  ·rename_i x e1 M1 h1
   split at h
   ·rename_i l2 e2 M2 h2
    cases h
    obtain ⟨g1,g2⟩:=agm r _ _ _ _ _ h2 he
    obtain ⟨g3,g4⟩:=vj g2
    exact ⟨g1.trans (beh h1 g4),g3⟩
   ·cases h
  ·cases h
theorem bf4 {ks:List Nat} {d:Nat} {ob:Ob} {M1 M:Mem} (h:neg (inN d ks)=true) (g:AgM ks M1 M):AgM ks ((d,ob)::M1) M:=fun k hk=>by
 have hne:k ≠ d:=fun e=>by subst e;rw [hk]at h;cases h
 have hb:Nat.beq d k=false:=by cases q:Nat.beq d k with
  | false=>rfl
  | true=>exact absurd (Nat.eq_of_beq_eq_true q).symm hne
 simp only [go,hb,cond_false]
 exact g k hk
theorem bke {ks:List Nat} {B:Tab} {t:TypeId} {n:Nat} {ps:List (Nat×Operand)} {f:Operand->V} {d:Option Nat} {M:Mem} {vc:List Prop} {v:V} {e:List Ev} {M1:Mem} (h:acm B t n ps f d M=⟨vc,v,e,M1⟩) (hv:ae vc) (he:gx ks e=true):AgM ks M1 M:=by
 unfold acm at h
 split at h
 ·rename_i k el _
  split at h
  ·cases hb:bt [(B.τ t).ok,(B.τ el).ok,B.z el,Nat.ble (Nat.mul n (B.τ el).size) 16777216,Nat.ble n nb,gl (B.σ el).size (B.τ el).size]with
   | false=>rw [hb]at h;exact (cn h hv).elim
   | true=>
    rw [hb]at h
    simp only [cond_true]at h
    split at h
    ·cases h;exact AgM.refl _ _
    ·split at h
     ·split at h
      ·rename_i hc
       cases h
       simp only [gx,bc,Bool.and_eq_true,lq]at he
       exact bf4 he.1 ((agm _ _ _ _ _ _ hc he.2).1.trans (ux he.1))
      ·split at h
       ·rename_i hc
        cases h
        simp only [gx,bc,Bool.and_eq_true,lq]at he
        exact bf4 he.1 ((agm _ _ _ _ _ _ hc he.2).1.trans (ux he.1))
       ·exact (cn h hv).elim
     ·exact (cn h hv).elim
  ·exact (cn h hv).elim
 ·exact (cn h hv).elim
theorem bgt {ks:List Nat} {o:Oper} {env:Env} {M M1:Mem} {vc:List Prop} {v:V} {e:List Ev} (hc:avq o=true) (h:evR B Φ o env M=⟨vc,v,e,M1⟩) (hv:ae vc) (he:gx ks e=true):AgM ks M1 M:=by
 unfold avq at hc
 split at hc
 ·rename_i c hop
  split at hc
  ·rename_i cx hcal
   have key:∀ q:Rs,ew B Φ o (fun x=>(rd env x).strip) M=q->ae q.vc->gx ks q.ev=true->AgM ks q.M M:=fun q hq hv he=>by
    obtain ⟨vc,v,e,M1⟩:=q
    simp only [ew,hop,hcal]at hq
    split at hq
    ·split at hq
     ·exact bd0 hq hv he
     ·exact (cn hq hv).elim
    ·exact (cn hq hv).elim
   unfold evR at h
   rw [hop]at h
   simp only [Rs.mk.injEq]at h
   obtain ⟨rfl,rfl,rfl,rfl⟩:=h
   exact key _ rfl (gw hv) he
  ·rename_i hcal
   have key:∀ q:Rs,ew B Φ o (fun x=>(rd env x).strip) M=q->ae q.vc->gx ks q.ev=true->AgM ks q.M M:=fun q hq hv he=>by
    obtain ⟨vc,v,e,M1⟩:=q
    simp only [ew,hop,hcal]at hq
    split at hq
    ·rename_i t t' _ _
     cases hb:Nat.beq t t' with
     | false=>rw [hb]at hq;exact (cn hq hv).elim
     | true=>rw [hb]at hq;exact bkn hq hv he
    ·exact (cn hq hv).elim
   unfold evR at h
   rw [hop]at h
   simp only [Rs.mk.injEq]at h
   obtain ⟨rfl,rfl,rfl,rfl⟩:=h
   exact key _ rfl (gw hv) he
  ·cases hc
 ·rename_i t n ps hop
  unfold evR at h
  rw [hop]at h
  simp only [Rs.mk.injEq]at h
  obtain ⟨rfl,rfl,rfl,rfl⟩:=h
  have key:∀ q:Rs,ew B Φ o (fun x=>(rd env x).strip) M=q->ae q.vc->gx ks q.ev=true->AgM ks q.M M:=fun q hq hv he=>by
   obtain ⟨vc,v,e,M1⟩:=q
   simp only [ew,hop]at hq
   exact bke hq hv he
  exact key _ rfl (gw hv) he
 ·rename_i hop
  unfold evR at h
  rw [hop]at h
  simp only [Rs.mk.injEq]at h
  obtain ⟨rfl,rfl,rfl,rfl⟩:=h
  simp only [ew,hop,dz]
  exact AgM.refl ks M
 ·rename_i hop
  unfold evR at h
  rw [hop]at h
  simp only [Rs.mk.injEq]at h
  obtain ⟨rfl,rfl,rfl,rfl⟩:=h
  simp only [ew,hop,dz]
  exact AgM.refl ks M
 ·rename_i hop
  unfold evR at h
  rw [hop]at h
  simp only [Rs.mk.injEq]at h
  obtain ⟨rfl,rfl,rfl,rfl⟩:=h
  simp only [ew,hop,dz]
  exact AgM.refl ks M
 ·cases hc
theorem an4 {ks:List Nat} {M' M0:Mem} (hM:∀ k,inN k ks=true->go M0 k ≠ none->go M' k=go M0 k):∀ v:V,ksV ks v=true->ad5 M0 v=true->agV M' M0 v
 | .d _ _,_,_=>trivial
 | .nl,_,_=>trivial
 | .np,_,_=>trivial
 | .u,_,_=>trivial
 | .p a b,h,g=>by
  simp only [ksV,ad5,bc,Bool.and_eq_true]at h g
  exact ⟨an4 hM a h.1 g.1,an4 hM b h.2 g.2⟩
 | .ag v,h,g=>an4 hM v h g
 | .fn f v,h,g=>an4 hM v h g
 | .bx v,h,g=>an4 hM v h g
 | .ref k π,h,g=>by
  have hn:go M0 k ≠ none:=fun e=>by simp [ad5,e,isN,neg]at g
  exact ⟨hM k h hn,hn⟩
 | .ad k π,h,g=>by
  have hn:go M0 k ≠ none:=fun e=>by simp [ad5,e,isN,neg]at g
  exact ⟨hM k h hn,hn⟩
 | .any,h,_=>by cases h
 | .tup _,h,_=>by cases h
 | .gd _ _ _ _,h,_=>by cases h
 | .ifc _ _,h,_=>by cases h
theorem ak4 {ks:List Nat} (e:Ev) (he:lq ks e=true):∀ v:V,ksV ks v=true->v.ev e=v
 | .d _ _,_=>rfl
 | .nl,_=>rfl
 | .np,_=>rfl
 | .u,_=>rfl
 | .p a b,h=>by
  simp only [ksV,bc,Bool.and_eq_true]at h
  simp only [V.ev,ak4 e he a h.1,ak4 e he b h.2]
 | .ag v,h=>by simp only [V.ev,ak4 e he v h]
 | .fn f v,h=>by simp only [V.ev,ak4 e he v h]
 | .bx v,h=>by simp only [V.ev,ak4 e he v h]
 | .ref k π,h=>bns h e he
 | .ad k π,h=>bqh h e he
 | .any,h=>by cases h
 | .tup _,h=>by cases h
 | .gd _ _ _ _,h=>by cases h
 | .ifc _ _,h=>by cases h
theorem avk {ks:List Nat}:∀ (e:List Ev),gx ks e=true->∀ v:V,ksV ks v=true->v.evs e=v
 | [],_,_,_=>rfl
 | x::e,he,v,hv=>by
  simp only [gx,bc,Bool.and_eq_true]at he
  simp only [V.evs,ak4 x he.1 v hv]
  exact avk e he.2 v hv
theorem aj8 {ks:List Nat} {env:Env}:∀ {l:List Operand},w9 ks env l=true->∀ x ∈ l,ksV ks (rd env x)=true
 | [],_,x,hx=>by cases hx
 | a::l,h,x,hx=>by
  simp only [w9,bc,Bool.and_eq_true]at h
  rcases List.mem_cons.1 hx with e | e
  ·subst e;exact h.1
  ·exact aj8 h.2 x e
theorem anq {ks:List Nat} {env env':Env}:∀ {l:List Operand},(∀ x ∈ l,rd env x=rd env' x)->w9 ks env l=w9 ks env' l
 | [],_=>rfl
 | a::l,h=>by
  have h1:w9 ks env l=w9 ks env' l:=anq fun x hx=>h x (List.mem_cons_of_mem _ hx)
  simp only [w9,h a (List.mem_cons_self ..),h1]
def FlI (B:Tab) (Φ:FuncId->Option Ct) (ks as:List Nat) (x:Oper) (env:Env) (M:Mem) (y:V):Prop:=
 (∃ t0,(x.op=.move (.tmp t0)\/x.op=.assign (.tmp t0))/\su (gt env t0)=false/\gt env t0=y)\/(∃ t0 k v,x.op=.extract (.tmp t0) k/\gt env t0=.tup v/\nth v k=some y)\/
 (yq x.op=true/\w9 ks env (cu x.op)=true/\ksV ks y=true/\∃ vc,ae vc/\∀ M',AgM ks M' M->evR B Φ x env M'=⟨vc,y,[],M'⟩)\/
 (∃ t t0 k,x.op=.load t (.tmp t0)/\gt env t0=.bx (.ad k [.de])/\y=.ad k [.de]/\inN k as=true/\bhz (B.τ t)=true)
theorem bor (e:Ev) (v:V) (h:su v=false):su (v.ev e)=false:=by
 cases v with
 | ref k π=>simp only [V.ev];exact bdo k π e
 | ad k π=>simp only [V.ev];exact bf7 k π e
 | gd _ _ _ _=>cases h
 | _=>rfl
theorem ba5:∀ (e:List Ev) (v:V),su v=false->su (v.evs e)=false
 | [],_,h=>h
 | x::e,v,h=>by simp only [V.evs];exact ba5 e _ (bor x v h)
theorem bjr (e:Ev):∀ (v:V) (k:Nat) (y:V),nth v k=some y->nth (v.ev e) k=some (y.ev e)
 | .p a b,0,y,h=>by simp only [nth,Option.some.injEq]at h;subst h;rfl
 | .p a b,k+1,y,h=>by simp only [nth]at h;simp only [V.ev,nth];exact bjr e b k y h
 | .any,_,_,h=>by simp [nth]at h
 | .nl,_,_,h=>by simp [nth]at h
 | .np,_,_,h=>by simp [nth]at h
 | .u,_,_,h=>by simp [nth]at h
 | .d _ _,_,_,h=>by simp [nth]at h
 | .ref _ _,_,_,h=>by simp [nth]at h
 | .ad _ _,_,_,h=>by simp [nth]at h
 | .ag _,_,_,h=>by simp [nth]at h
 | .tup _,_,_,h=>by simp [nth]at h
 | .gd _ _ _ _,_,_,h=>by simp [nth]at h
 | .fn _ _,_,_,h=>by simp [nth]at h
 | .ifc _ _,_,_,h=>by simp [nth]at h
 | .bx _,_,_,h=>by simp [nth]at h
theorem bfx:∀ (e:List Ev) (v:V) (k:Nat) (y:V),nth v k=some y->nth (v.evs e) k=some (y.evs e)
 | [],_,_,_,h=>h
 | x::e,v,k,y,h=>by simp only [V.evs];exact bfx e _ k _ (bjr x v k y h)
theorem bf8:∀ (e:List Ev) (v:V),(V.tup v).evs e=.tup (v.evs e)
 | [],_=>rfl
 | x::e,v=>by simp only [V.evs,V.ev];exact bf8 e _
theorem bnz {as:List Nat} {k:Nat} (hk:inN k as=true) (x:Ev) (h:ahe as x=true):(V.ad k [.de]).ev x=.ad k [.de]:=by
 have ne:∀ {j:Nat},neg (inN j as)=true->Nat.beq k j=false:=fun {j} hj=>by
  cases hb:Nat.beq k j with
  | false=>rfl
  | true=>
   have:=Nat.eq_of_beq_eq_true hb
   subst this
   rw [hk]at hj;cases hj
 cases x with
 | kl r=>simp only [ahe]at h;simp only [V.ev,Ev.ad,ne h,cond_false]
 | fz r ob=>simp only [ahe]at h;simp only [V.ev,Ev.ad,ne h,cond_false]
 | mv r k'=>simp only [ahe]at h;simp only [V.ev,Ev.ad,ne h,cond_false]
 | un r k'=>simp only [ahe]at h;simp only [V.ev,Ev.ad,ne h,cond_false]
 | tk r o o'=>
  simp only [ahe,nx,Bool.or_eq_true]at h
  simp only [V.ev,Ev.ad]
  rcases h with h | h
  ·rw [ne h];rfl
  ·rw [h];cases Nat.beq k r <;> rfl
 | cut r o o'=>
  simp only [ahe,nx,Bool.or_eq_true]at h
  simp only [V.ev,Ev.ad]
  rcases h with h | h
  ·rw [ne h];rfl
  ·rw [h];cases Nat.beq k r <;> rfl
theorem as8 {as:List Nat} {k:Nat} (hk:inN k as=true):∀ e:List Ev,ans as e=true->(V.ad k [.de]).evs e=.ad k [.de]
 | [],_=>rfl
 | x::e,h=>by
  simp only [ans,bc,Bool.and_eq_true]at h
  simp only [V.evs,bnz hk x h.1]
  exact as8 hk e h.2
theorem bk5:∀ (e:List Ev) (v:V),(V.bx v).evs e=.bx (v.evs e)
 | [],_=>rfl
 | x::e,v=>by simp only [V.evs,V.ev];exact bk5 e _
theorem FlI.look {ks as:List Nat} {x:Oper} {env:Env} {M M1:Mem} {y:V} (h:FlI B Φ ks as x env M y) {env':Env} {e:List Ev} (hkp:ans as e=true) (hd:yq x.op=true->(gx ks e=true/\AgM ks M1 M)\/(amv M1 x.op env'=true/\w9 ks env' (cu x.op)=true/\ksV ks (y.evs e)=true/\evR B Φ x env' M1=⟨[],y.evs e,[],M1⟩)) (he:∀ t0,Operand.tmp t0 ∈ x.op.operands->gt env' t0=(gt env t0).evs e):FlI B Φ ks as x env' M1 (y.evs e):=by
 rcases h with ⟨t0,ho,hg,rfl⟩ | ⟨t0,k,v,ho,hv,hn⟩ | ⟨h1,h2,h3,vc,h4,h5⟩ | ⟨t,t0,k,ho,hv,rfl,hk,hb⟩
 rotate_left 3
 ·have he:=he t0 (by simp [ho,Op.operands])
  refine .inr (.inr (.inr ⟨t,t0,k,ho,by rw [he,hv,bk5,as8 hk e hkp],as8 hk e hkp,hk,hb⟩))
 ·have he:=he t0 (by rcases ho with ho | ho <;> simp [ho,Op.operands])
  exact .inl ⟨t0,ho,by rw [he];exact ba5 e _ hg,he⟩
 ·have he:=he t0 (by simp [ho,Op.operands])
  exact .inr (.inl ⟨t0,k,v.evs e,ho,by rw [he,hv,bf8],bfx e v k y hn⟩)
 ·rcases hd h1 with ⟨hd1,hd2⟩ | ⟨g1,g2,g3,g4⟩
  rotate_left
  ·refine .inr (.inr (.inl ⟨h1,g2,g3,[],trivial,fun M' hM=>?_⟩))
   rw [bb5 (M:=M') g1 (fun hlv q hq=>an4 (ks:=ks) (fun k hk _=>hM k hk) _ (aj8 g2 _ hq) (ahm hlv _ hq)) g4 trivial rfl]
   rfl
  have hr:∀ q ∈ x.op.operands,rd env' q=rd env q:=fun q hq=>by
   cases q with
   | tmp t=>
    have hkq:=aj8 h2 _ (bis h1 _ hq)
    simp only [rd]at hkq ⊢
    rw [he t hq,avk e hd1 _ hkq]
   | const c=>rfl
   | global g=>rfl
   | func f=>rfl
  refine .inr (.inr (.inl ⟨h1,?_,by rw [avk e hd1 y h3];exact h3,vc,h4,fun M' hM=>?_⟩))
  ·rw [anq fun q hq=>hr q (ais x q hq)];exact h2
  ·rw [aa0 x hr,h5 M' fun k hk=>(hM k hk).trans (hd2 k hk),avk e hd1 y h3]
theorem FlI.same {ks as:List Nat} {x:Oper} {env:Env} {M:Mem} {y:V} (h:FlI B Φ ks as x env M y) {env':Env} (he:∀ t0,Operand.tmp t0 ∈ x.op.operands->gt env' t0=gt env t0):FlI B Φ ks as x env' M y:=by
 have hr:∀ q ∈ x.op.operands,rd env' q=rd env q:=fun q hq=>by
  cases q with
  | tmp t=>exact he t hq
  | const c=>rfl
  | global g=>rfl
  | func f=>rfl
 rcases h with ⟨t0,ho,hg,hy⟩ | ⟨t0,k,v,ho,hv,hn⟩ | ⟨h1,h2,h3,vc,h4,h5⟩ | ⟨t,t0,k,ho,hv,hy,hk,hb⟩
 ·have he:=he t0 (by rcases ho with ho | ho <;> simp [ho,Op.operands])
  exact .inl ⟨t0,ho,by rw [he];exact hg,by rw [he];exact hy⟩
 ·have he:=he t0 (by simp [ho,Op.operands])
  exact .inr (.inl ⟨t0,k,v,ho,by rw [he];exact hv,hn⟩)
 ·refine .inr (.inr (.inl ⟨h1,?_,h3,vc,h4,fun M' hM=>?_⟩))
  ·rw [anq fun q hq=>hr q (ais x q hq)];exact h2
  ·rw [aa0 x hr];exact h5 M' hM
 ·have he:=he t0 (by simp [ho,Op.operands])
  exact .inr (.inr (.inr ⟨t,t0,k,ho,by rw [he];exact hv,hy,hk,hb⟩))
theorem FlI.run {ks as:List Nat} {x:Oper} {env:Env} {y:V} {M:Mem} (h:FlI B Φ ks as x env M y):∃ vc,ae vc/\evR B Φ x env M=⟨vc,y,[],M⟩:=by
 have ns:∀ v:V,su v=false->v.strip=v:=fun v hv=>by cases v <;> first | rfl | cases hv
 have nn:∀ t,su (gt env t)=false->nf (rd env) [.tmp t]=[]:=fun t ht=>by
  simp only [nf,rd]
  split
  ·rename_i e;rw [e]at ht;cases ht
  ·rfl
 rcases h with ⟨t0,ho,hg,rfl⟩ | ⟨t0,k,v,ho,hv,hn⟩ | ⟨h1,h2,h3,vc,h4,h5⟩ | ⟨t,t0,k,ho,hv,rfl,hk,hb⟩
 rotate_left 3
 ·have hg:su (gt env t0)=false:=by rw [hv];rfl
  have hs:(V.bx (.ad k [.de])).strip=.bx (.ad k [.de]):=rfl
  simp only [bhz,br,b8,Bool.and_true,Bool.and_eq_true,iv,beq_iff_eq,ro,Bool.not_eq_true']at hb
  refine ⟨[],trivial,?_⟩
  simp only [evR,ho,ew,cu,nn t0 hg,ap,rd,hv,hs,sj,ab6,dz,ur,hb.1,hb.2.1,hb.2.2,l8,V.size,ac1,d5,br,b8,Bool.and_true,iv,beq_self_eq_true,nx,Bool.or_true,Bool.and_self,cond_true,cond_false]
 ·refine ⟨[],trivial,?_⟩
  rcases ho with ho | ho <;> simp only [evR,ho,ew,dz,cu,nn t0 hg,ap,rd,ns _ hg]
 ·have hg:su (gt env t0)=false:=by rw [hv];rfl
  have hs:(V.tup v).strip=.tup v:=rfl
  refine ⟨[],trivial,?_⟩
  simp only [evR,ho,ew,dz,cu,nn t0 hg,ap,rd,hv,hs,aqs,hn,d5]
 ·exact ⟨vc,h4,h5 M (AgM.refl ks M)⟩
theorem FlI.of {ks as:List Nat} {x:Oper} {env:Env} {M M' M1:Mem} {vc:List Prop} {v:V} {e:List Ev} (hx:ayw x.op=true) (hn:∀ t,su (gt env t)=false) (h:evR B Φ x env M=⟨vc,v,e,M'⟩) (hv:ae vc):FlI B Φ ks as x env M1 v:=by
 have ns:∀ v:V,su v=false->v.strip=v:=fun v hv=>by cases v <;> first | rfl | cases hv
 unfold ayw at hx
 split at hx
 ·rename_i t0 ho
  simp only [evR,ho,ew,dz,rd,ns _ (hn t0),Rs.mk.injEq]at h
  exact .inl ⟨t0,.inl ho,hn t0,h.2.1⟩
 ·rename_i t0 ho
  simp only [evR,ho,ew,dz,rd,ns _ (hn t0),Rs.mk.injEq]at h
  exact .inl ⟨t0,.inr ho,hn t0,h.2.1⟩
 ·rename_i t0 k ho
  simp only [evR,ho,ew,dz,rd,ns _ (hn t0),Rs.mk.injEq]at h
  obtain ⟨h1,h2,_⟩:=h
  rw [← h1]at hv
  have hv:=gw hv
  unfold aqs at hv h2
  split at hv
  ·rename_i w hw
   split at hv
   ·rename_i y hy
    rw [hw]at h2
    simp only [hy,d5]at h2
    exact .inr (.inl ⟨t0,k,w,ho,hw,by rw [← h2];exact hy⟩)
   ·exact absurd hv (by simp [bad,ae])
  ·exact absurd hv (by simp [bad,ae])
 ·cases hx
section
variable {F:Fr} {all:Array Oper} {m:Nat} {E:Nat->Env} {X N:Nat->Mem} {M0:Mem} {D R:Bool} {Ds:List Bool} {ks as:List Nat}
structure Hctx (D R:Bool) (Ds:List Bool) (ks as:List Nat) (B:Tab) (Φ:FuncId->Option Ct) (all:Array Oper) (m:Nat) (E:Nat->Env) (X N:Nat->Mem) (M0:Mem):Prop where
 hb:ww 0 all.toList=true
 hm:m<=all.size
 ht:bgw D R all (g8 [] all.toList) m=true
 hf:bhy all (g8 [] all.toList) m=true
 hdr:af9 all (g8 [] all.toList) m=true
 hE:∀ (j:Nat) (o:Oper),all[j]? = some o->j < m->∃ d v vc ev,Hst (Ds.getD j false) ks as B Φ M0 o (E j) (E (j+1)) (N j) (X j) (X (j+1)) d v vc ev
 hX:X 0=[]
 h0:∀ t,vr (gt (E 0) t)=true
 hR:R=false->ks=[]
 hD:D=true->∀ i,i < m->tq all.size (g8 [] all.toList) m i=true->Ds.getD i false=true
structure Hsta (all:Array Oper) (m:Nat) (E:Nat->Env) (N:Nat->Mem) (M0:Mem) (listed:Array Bool) (env:Env) (M:Mem):Prop where
 a:∀ t,(∀ (i:Nat) (o:Oper),all[i]? = some o->isL listed i->o.dst ≠ some t)->gt env t=gt (E 0) t
 b:∀ (i:Nat) (o:Oper) (t:Nat),all[i]? = some o->isL listed i->o.dst=some t->gt env t=gt (E (i+1)) t
 c:∀ k,(∀ (i:Nat),i < all.size->isL listed i->k ∉ cj (N i))->go M k=go M0 k
 d:∀ (i:Nat) (k:Nat),i < all.size->isL listed i->k ∈ cj (N i)->go M k=go (N i) k
theorem Hctx.get (C:Hctx D R Ds ks as B Φ all m E X N M0) {i:Nat} (h:i < m):all[i]? = some (all[i]'(Nat.lt_of_lt_of_le h C.hm)):=Array.getElem?_eq_getElem _
theorem Hctx.xs (C:Hctx D R Ds ks as B Φ all m E X N M0):∀ (j:Nat),j<=m->∀ k,(∀ i,i < j->k ∈ cj (N i)->go (X j) k=go (N i) k/\∀ i',i' < j->k ∈ cj (N i')->i'=i)/\((∀ i,i < j->k ∉ cj (N i))->go (X j) k=none)
 | 0,_,k=>⟨fun i h=>by omega,fun _=>by rw [C.hX];rfl⟩
 | j+1,hj,k=>by
  obtain ⟨d,v,vc,ev,H⟩:=C.hE j _ (C.get (by omega)) (by omega)
  obtain ⟨h1,h2⟩:=C.xs j (by omega) k
  rw [H.x,aec]
  by_cases hkj:k ∈ cj (N j)
  ·have hn:=ae1 H.nX k hkj
   have none_old:∀ i,i < j->k ∉ cj (N i):=fun i hi hk=>by
    have:=(h1 i hi hk).1
    rw [hn]at this
    exact xo.1 hk this.symm
   obtain ⟨ob,hob⟩:∃ ob,go (N j) k=some ob:=by
    cases hg:go (N j) k with
    | none=>exact absurd hg (xo.1 hkj)
    | some ob=>exact ⟨ob,rfl⟩
   refine ⟨fun i hi hk=>?_,fun h=>absurd hkj (h j (by omega))⟩
   have hij:i=j:=by
    rcases Nat.lt_or_ge i j with h | h
    ·exact absurd hk (none_old i h)
    ·omega
   subst hij
   rw [hob]
   refine ⟨rfl,fun i' hi' hk'=>?_⟩
   rcases Nat.lt_or_ge i' i with h | h
   ·exact absurd hk' (none_old i' h)
   ·omega
  ·have hgn:go (N j) k=none:=by
    cases hg:go (N j) k with
    | none=>rfl
    | some ob=>exact absurd (xo.2 (by rw [hg];simp)) hkj
   rw [hgn]
   simp only
   refine ⟨fun i hi hk=>?_,fun h=>h2 fun i hi=>h i (by omega)⟩
   have hij:i < j:=by
    rcases Nat.lt_or_ge i j with h | h
    ·exact h
    ·have:i=j:=by omega
     subst this;exact absurd hk hkj
   refine ⟨(h1 i hij hk).1,fun i' hi' hk'=>?_⟩
   have hij':i' < j:=by
    rcases Nat.lt_or_ge i' j with h | h
    ·exact h
    ·have:i'=j:=by omega
     subst this;exact absurd hk' hkj
   exact (h1 i hij hk).2 i' hij' hk'
theorem Hctx.uniq (C:Hctx D R Ds ks as B Φ all m E X N M0) {i j:Nat} {x y:Oper} {t:Nat} (hi:i < m) (hj:j < m) (hx:all[i]? = some x) (hy:all[j]? = some y) (h1:x.dst=some t) (h2:y.dst=some t):i=j:=by
 rcases Nat.decEq i j with h | h
 ·exact absurd h2 (amr (mh C.hdr hi hj h hx hy) h1)
 ·exact h
theorem Hctx.gts (C:Hctx D R Ds ks as B Φ all m E X N M0) (j t:Nat) (hj:j<=m) :
  ((∀ (i:Nat) (o:Oper),all[i]? = some o->i < j->o.dst ≠ some t)->gt (E j) t=gt (E 0) t)/\
  (∀ (i:Nat) (o:Oper),all[i]? = some o->i < j->o.dst=some t->gt (E j) t=gt (E (i+1)) t):=by
 have hm:=C.hm
 have hlen:(all.toList.take m).length=m:=by simp [hm]
 have take_lt:∀ {i:Nat} {o:Oper},(all.toList.take m)[i]? = some o->i < m/\all[i]? = some o:=fun {i o} h=>by
  have h1:=(List.getElem?_eq_some_iff.1 h).1
  rw [hlen]at h1
  rw [List.getElem?_take_of_lt h1,px]at h
  exact ⟨h1,h⟩
 have lt_take:∀ {i:Nat} {o:Oper},i < m->all[i]? = some o->(all.toList.take m)[i]? = some o:=fun {i o} h1 h=>by
  rw [List.getElem?_take_of_lt h1,px];exact h
 have hw:∀ (j:Nat) (o:Oper),(all.toList.take m)[j]? = some o->E (j+1)=wr o.dst (match all[j]? with | some o=>(match o.dst with | some d=>gt (E (j+1)) d | none=>.any) | none=>.any) (E j):=fun j o hj=>by
  obtain ⟨h1,h2⟩:=take_lt hj
  obtain ⟨d,v,vc,ev,H⟩:=C.hE j o h2 h1
  rw [h2]
  simp only [H.dst,wr]
  rw [H.he]
  simp only [im,if_true]
 obtain ⟨a1,a2⟩:=ane hw j t (by omega)
 refine ⟨fun h=>a1 fun i o hi=>h i o (take_lt hi).2,fun i o hi hlt hd=>?_⟩
 rw [a2 i o (lt_take (by omega) hi) hlt hd fun i' o' hi' hl' hd'=>C.uniq (take_lt hi').1 (by omega) (take_lt hi').2 hi hd' hd]
 simp only [hi,hd]
theorem Hctx.step (C:Hctx D R Ds ks as B Φ all m E X N M0) {listed:Array Bool} (hs:listed.size=all.size) (hl:∀ i,i < all.size->isL listed i->i < m) (hdn:ac5 all listed) {env:Env} {M:Mem} (S:Hsta all m E N M0 listed env M) {p:Ow} {a:Act} {w:World} (hst:St F p env M a w)
  {j:Nat} {o:Oper} (ho:all[j]? = some o) (hjm:j < m) (hnl:¬ isL listed j)
  (hrd:∀ e ∈ o.after,Region.binds .any e=true->isL listed e.on):tw B Φ (toL all) [o] env M (fun env' M'=>Hsta all m E N M0 (listed.setIfInBounds j true) env' M'):=by
 have hjs:=(Array.getElem?_eq_some_iff.1 ho).1
 have hset:∀ i,isL (listed.setIfInBounds j true) i<->i=j\/isL listed i:=fun i=>ale (by rw [hs];exact hjs)
 have hlm:∀ {i:Nat} {x:Oper},all[i]? = some x->isL listed i->i < m:=fun h1 h2=>hl _ (Array.getElem?_eq_some_iff.1 h1).1 h2
 have hlook:∀ t ∈ o.looksAt all,gt env t=gt (E j) t:=fun t htl=>by
  by_cases hw:∃ (i:Nat) (x:Oper),all[i]? = some x/\i < m/\x.dst=some t
  ·obtain ⟨i,x,e1,e2,e3⟩:=hw
   by_cases hij:i < j
   ·have hpair:=pq (mh C.hdr e2 hjm (by omega) e1 ho) e3 htl
    rw [if_pos hij]at hpair
    have hli:=jk hdn C.hb j o ho hrd i hpair
    rw [S.b i x t e1 hli e3,(C.gts j t (by omega)).2 i x e1 hij e3]
   ·have hnli:¬ isL listed i:=fun hli=>by
     by_cases e:i=j
     ·subst e;exact hnl hli
     ·have hpair:=pq (mh C.hdr e2 hjm e e1 ho) e3 htl
      rw [if_neg hij]at hpair
      exact hnl (jk hdn C.hb i x e1 (fun e' he' hb'=>hdn i x e1 hli e' he' hb') j hpair)
    rw [S.a t fun i' o' h1' h2' h3'=>hnli (C.uniq (hlm h1' h2') e2 h1' e1 h3' e3 ▸ h2')]
    exact ((C.gts j t (by omega)).1 fun i' o' h1' h2' h3'=>hij (C.uniq (by omega) e2 h1' e1 h3' e3 ▸ h2')).symm
  ·rw [S.a t fun i x h1 h2 h3=>hw ⟨i,x,h1,hlm h1 h2,h3⟩]
   exact ((C.gts j t (by omega)).1 fun i x h1 h2 h3=>hw ⟨i,x,h1,by omega,h3⟩).symm
 have hrdE:∀ x ∈ o.op.operands,rd env x=rd (E j) x:=fun x hx=>by
  cases x with
  | tmp t=>exact hlook t (List.mem_append_left _ (List.mem_filterMap.2 ⟨.tmp t,by simpa using hx,rfl⟩))
  | const c=>rfl
  | global g=>rfl
  | func f=>rfl
 obtain ⟨d,v,vc,ev,H⟩:=C.hE j o ho hjm
 have hkey:∀ k,go (ap (X j) M0) k ≠ none->go M k ≠ none->go M k=go (ap (X j) M0) k:=fun k h1 h2=>by
  obtain ⟨x1,x2⟩:=C.xs j (by omega) k
  rw [aec]at h1 ⊢
  by_cases hw:∃ i,i < m/\k ∈ cj (N i)
  ·obtain ⟨i,hi,hk⟩:=hw
   have gone:go M0 k=none:=by
    obtain ⟨d',v',vc',ev',H'⟩:=C.hE i _ (C.get hi) hi
    exact ae1 H'.n0 k hk
   have one:∀ i',i' < m->k ∈ cj (N i')->i'=i:=fun i' hi' hk'=>((C.xs m (Nat.le_refl _) k).1 i hi hk).2 i' hi' hk'
   have hli:isL listed i:=Classical.byContradiction fun hn=>h2 (by
    rw [S.c k fun i' hi' hl' hk'=>hn (one i' (hl i' hi' hl') hk' ▸ hl'),gone])
   rw [S.d i k (Nat.lt_of_lt_of_le hi C.hm) hli hk]
   by_cases hij:i < j
   ·rw [(x1 i hij hk).1]
    cases hg:go (N i) k with
    | none=>exact absurd hg (xo.1 hk)
    | some ob=>rfl
   ·rw [x2 fun i' hi' hk'=>hij (one i' (by omega) hk' ▸ hi'),gone]at h1
    exact absurd rfl h1
  ·rw [x2 fun i hi hk=>hw ⟨i,by omega,hk⟩]
   simp only
   exact S.c k fun i hi hli hk=>hw ⟨i,hl i hi hli,hk⟩
 have agr:alb (ap (X j) M0) (E j) (cu o.op)=true->∀ x ∈ cu o.op,agV M (ap (X j) M0) (rd (E j) x):=fun hlv x hx=>by
  by_cases hxt:∃ t,x=.tmp t
  ·obtain ⟨t,rfl⟩:=hxt
   have hrel:=hst.slots t
   have e1:gt env t=gt (E j) t:=by simpa only [rd]using hrdE (.tmp t) (ais o _ hx)
   rw [e1]at hrel
   exact bpw hkey _ (ahm hlv _ hx) _ hrel
  ·exact bqy x fun t h=>hxt ⟨t,h⟩
 have hr:evR B Φ o env M=⟨vc,v,ev,ap (N j) (rp (cj (N j)) M)⟩:=by
  rw [aa0 o hrdE]
  obtain ⟨N',hr,hN⟩:=H.r
  have hkl:=H.kl
  rw [hN]at hkl ⊢
  exact bb5 H.k agr hr H.hv hkl
 have hdis:∀ i,i < all.size->isL listed i->∀ k,k ∈ cj (N i)->k ∉ cj (N j):=fun i hi hli k h1 h2=>by
  have him:=hl i hi hli
  have:=((C.xs m (Nat.le_refl _) k).1 i him h1).2 j hjm h2
  subst this;exact hnl hli
 have hgone:∀ k ∈ cj (N j),go M k=none:=fun k hk=>by
  rw [S.c k fun i hi hli h=>hdis i hi hli k h hk]
  exact ae1 H.n0 k hk
 have hng:∀ t,vr (gt env t)=true:=fun t=>by
  by_cases hw:∃ (i:Nat) (x:Oper),all[i]? = some x/\isL listed i/\x.dst=some t
  ·obtain ⟨i,x,e1,e2,e3⟩:=hw
   rw [S.b i x t e1 e2 e3]
   obtain ⟨d',v',vc',ev',H'⟩:=C.hE i x e1 (hlm e1 e2)
   have:d'=t:=by have:=H'.dst;rw [e3]at this;exact (Option.some.inj this).symm
   subst this
   rw [H'.he,im,if_pos rfl]
   exact H'.gd
  ·rw [S.a t fun i x h1 h2 h3=>hw ⟨i,x,h1,h2,h3⟩]
   exact C.h0 t
 have stab:∀ t,gt (rr env ev) t=gt env t:=fun t=>by
  rw [uc]
  exact bgb H.kl fun k hk=>(bmx (hgone k hk) (gt env t) (hng t)).1 _ (hst.slots t)
 simp only [tw,H.g,hr,od,H.dst,wr]
 refine ⟨H.hv,fun t ht=>?_,fun i x t hi hli hdx=>?_,fun k hk=>?_,fun i k hi hli hk=>?_⟩
 ·have htd:d ≠ t:=fun h=>ht j o ho ((hset j).2 (.inl rfl)) (by rw [H.dst,h])
  rw [im,if_neg htd,stab]
  exact S.a t fun i x hi hl'=>ht i x hi ((hset i).2 (.inr hl'))
 ·rw [im]
  by_cases hij:i=j
  ·subst hij;rw [ho]at hi;cases hi;rw [H.dst]at hdx;cases hdx
   rw [if_pos rfl,H.he,im,if_pos rfl]
  ·have hli':=((hset i).1 hli).resolve_left hij
   have htd:d ≠ t:=fun h=>hij (C.uniq (hlm hi hli') hjm hi ho hdx (by rw [H.dst,h]))
   rw [if_neg htd,stab]
   exact S.b i x t hi hli' hdx
 ·have hkj:k ∉ cj (N j):=hk j hjs ((hset j).2 (.inl rfl))
  have hgn:go (N j) k=none:=by
   cases hg:go (N j) k with
   | none=>rfl
   | some ob=>exact absurd (xo.2 (by rw [hg];simp)) hkj
  rw [aec,hgn]
  simp only
  rw [aqi hkj]
  exact S.c k fun i hi hli=>hk i hi ((hset i).2 (.inr hli))
 ·rw [aec]
  by_cases hij:i=j
  ·subst hij
   cases hg:go (N i) k with
   | none=>exact absurd hg (xo.1 hk)
   | some ob=>rfl
  ·have hli':=((hset i).1 hli).resolve_left hij
   have hkj:=hdis i hi hli' k hk
   have hgn:go (N j) k=none:=by
    cases hg:go (N j) k with
    | none=>rfl
    | some ob=>exact absurd (xo.2 (by rw [hg];simp)) hkj
   rw [hgn]
   simp only
   rw [aqi hkj]
   exact S.d i k hi hli' hk
theorem ajq {D R:Bool} {ms:List Nat} (h:bgw D R all ms m=true) {j:Nat} (hm:m<=j) {y:Oper} (hy:all[j]? = some y):y.guard=none/\∀ i,i < j->(ms.getD j 0).testBit i=true\/(i < m/\∃ x,all[i]? = some x/\flt D R all x y=true):=by
 have hj:=(Array.getElem?_eq_some_iff.1 hy).1
 have:=List.all_eq_true.1 h j (by simpa using hj)
 rw [hy]at this
 simp only [Bool.or_eq_true,Bool.and_eq_true]at this
 rcases this with h1 | ⟨h1,h2⟩
 ·rw [Nat.blt_eq]at h1;omega
 ·refine ⟨bcz h1,fun i hi=>?_⟩
  have h3:=List.all_eq_true.1 h2 i (by simpa using hi)
  simp only [Bool.or_eq_true,Bool.and_eq_true]at h3
  rcases h3 with h3 | ⟨h3,h4⟩
  ·exact .inl h3
  ·right
   rw [Nat.blt_eq]at h3
   refine ⟨h3,?_⟩
   cases hx:all[i]? with
   | none=>rw [hx]at h4;cases h4
   | some x=>rw [hx]at h4;exact ⟨x,rfl,h4⟩
theorem an7 {D R:Bool} {x y:Oper} (h:flt D R all x y=true):x.guard=none/\(bhb D x.op=true/\(R=true->yq x.op=true->avq y=true))/\∃ t,x.dst=some t/\t ∉ y.looksAt all/\∀ u,y.dst=some u->u ≠ t/\u ∉ x.looksAt all:=by
 unfold flt at h
 simp only [bc,Bool.and_eq_true]at h
 obtain ⟨h1,⟨h2,h2'⟩,h3⟩:=h
 refine ⟨bcz h1,⟨h2,fun hR hk=>?_⟩,?_⟩
 ·rw [hR]at h2'
  simp only [nx,ro,Bool.not_true,Bool.false_or,Bool.or_eq_true]at h2'
  rcases h2' with h | h
  ·exfalso
   unfold ayw at h
   unfold yq at hk
   split at h
   ·rename_i ho;rw [ho]at hk;simp [acs,am3,ar1]at hk
   ·rename_i ho;rw [ho]at hk;simp [acs,am3,ar1]at hk
   ·rename_i ho;rw [ho]at hk;simp [acs,am3,ar1]at hk
   ·cases h
  ·exact h
 cases hd:x.dst with
 | none=>rw [hd]at h3;cases h3
 | some t=>
  rw [hd]at h3
  simp only [bc,Bool.and_eq_true,ro,Bool.not_eq_true']at h3
  refine ⟨t,rfl,fun ht=>?_,fun u hu=>?_⟩
  ·have:(acr all y).contains t=true:=by simpa [acr]using ht
   rw [h3.1]at this;cases this
  ·rw [hu]at h3
   have h4:=h3.2
   simp only [Bool.and_eq_true,Bool.not_eq_true']at h4
   refine ⟨fun e=>?_,fun ht=>?_⟩
   ·subst e;rw [Nat.beq_refl]at h4;exact absurd h4.1 (by simp)
   ·have:(acr all x).contains u=true:=by simpa [acr]using ht
    rw [h4.2]at this;cases this
theorem azc {ms:List Nat} {i:Nat} (h:tq all.size ms m i=true):∃ j,m<=j/\j < all.size/\(ms.getD j 0).testBit i=false:=by
 obtain ⟨j,h1,h2⟩:=List.any_eq_true.1 h
 simp only [Bool.and_eq_true,Bool.not_eq_true']at h2
 refine ⟨j,?_,by simpa using h1,h2.2⟩
 rcases Nat.lt_or_ge j m with h | h
 ·have hb:Nat.blt j m=true:=by rw [Nat.blt_eq];exact h
  rw [hb]at h2;exact absurd h2.1 (by simp)
 ·exact h
theorem bl9 {ms:List Nat} {i j:Nat} (h:tq all.size ms m i=false) (hj:j < all.size) (hm:m<=j):(ms.getD j 0).testBit i=true:=by
 cases ht:(ms.getD j 0).testBit i with
 | true=>rfl
 | false=>
  have:tq all.size ms m i=true:=List.any_eq_true.2 ⟨j,by simpa using hj,by
   simp only [Bool.and_eq_true,Bool.not_eq_true']
   refine ⟨?_,ht⟩
   cases hb:Nat.blt j m with
   | false=>rfl
   | true=>rw [Nat.blt_eq]at hb;omega⟩
  rw [h]at this;cases this
theorem azu {ms:List Nat} (h:bhy all ms m=true) {i j:Nat} (hi:i < m) (hj:j < m) (hne:i<=j) (fi:tq all.size ms m i=true) (fj:tq all.size ms m j=true) {x y:Oper} (hx:all[i]? = some x) (hy:all[j]? = some y) {u:Nat} (hu:y.dst=some u):u ∉ x.looksAt all:=by
 have h1:=List.all_eq_true.1 h i (by simpa using hi)
 rw [fi]at h1
 simp only [Bool.not_true,Bool.false_or]at h1
 have h2:=List.all_eq_true.1 h1 j (by simpa using hj)
 rw [fj,hx,hy]at h2
 simp only [Bool.not_true,Bool.or_false,Bool.or_eq_true,hu,Bool.not_eq_true']at h2
 rcases h2 with h2 | h2
 ·rw [Nat.blt_eq]at h2;omega
 ·intro ht
  have:(acr all x).contains u=true:=by simpa [acr]using ht
  rw [h2]at this;cases this
structure Bsta (B:Tab) (Φ:FuncId->Option Ct) (ks as:List Nat) (all:Array Oper) (m c:Nat) (listed:Array Bool) (env Ec:Env) (M:Mem):Prop where
 h:∀ i,i < m->isL listed i\/tq all.size (g8 [] all.toList) m i=true/\∃ x t,all[i]? = some x/\x.guard=none/\x.dst=some t/\FlI B Φ ks as x Ec M (gt Ec t)
 a:∀ t,(∀ (i:Nat) (x:Oper),i < m->all[i]? = some x->¬ isL listed i->x.dst ≠ some t)->gt env t=gt Ec t
theorem ant (l:List Bool) (n:Nat):ajo (l.drop n)=l.getD n false:=by
 induction l generalizing n with
 | nil=>simp [ajo]
 | cons a l ih=>cases n with
  | zero=>rfl
  | succ n=>simpa using ih n
theorem bhx (l:List Bool) (n:Nat):ahf (l.drop n)=l.drop (n+1):=by
 induction l generalizing n with
 | nil=>simp [ahf]
 | cons a l ih=>cases n with
  | zero=>rfl
  | succ n=>simpa using ih n
theorem bkb {l:List Oper} {m j i:Nat} (hm:m<=j) (hj:j < l.length) (hi:i < m) (hb:((g8 [] l).getD j 0).testBit i=false):(abe l m).getD (j - m) false=true:=by
 unfold abe
 have hl:len l=l.length:=avn l
 rw [List.getD_eq_getElem?_getD,List.getElem?_map,List.getElem?_range (by rw [hl];show j - m < l.length - m;omega)]
 simp only [Option.map_some,Option.getD_some,List.any_eq_true,List.mem_range]
 refine ⟨i,hi,?_⟩
 rw [show Nat.add m (j - m)=j from by show m+(j - m)=j;omega,hb]
 rfl
theorem ahy:∀ {a b:b9},ao1 a b=true->a=b
 | [],[],_=>rfl
 | .l::a,.l::b,h=>by rw [ahy (a:=a) (b:=b) h]
 | .r::a,.r::b,h=>by rw [ahy (a:=a) (b:=b) h]
 | .de::a,.de::b,h=>by rw [ahy (a:=a) (b:=b) h]
 | .ix i::a,.ix j::b,h=>by
  simp only [ao1,bc,Bool.and_eq_true]at h
  rw [Nat.eq_of_beq_eq_true h.1,ahy h.2]
 | [],_::_,h=>by cases h
 | .l::_,[],h=>by cases h
 | .r::_,[],h=>by cases h
 | .de::_,[],h=>by cases h
 | .ix _::_,[],h=>by cases h
 | .l::_,.r::_,h=>by cases h
 | .l::_,.de::_,h=>by cases h
 | .l::_,.ix _::_,h=>by cases h
 | .r::_,.l::_,h=>by cases h
 | .r::_,.de::_,h=>by cases h
 | .r::_,.ix _::_,h=>by cases h
 | .de::_,.l::_,h=>by cases h
 | .de::_,.r::_,h=>by cases h
 | .de::_,.ix _::_,h=>by cases h
 | .ix _::_,.l::_,h=>by cases h
 | .ix _::_,.r::_,h=>by cases h
 | .ix _::_,.de::_,h=>by cases h
theorem boe {a b:V} (h:blh a b=true):a=b:=by
 cases a <;> cases b <;> simp only [blh,Bool.false_eq_true]at h
 ·simp only [bc,Bool.and_eq_true]at h;rw [Nat.eq_of_beq_eq_true h.1,ahy h.2]
 ·simp only [bc,Bool.and_eq_true]at h;rw [Nat.eq_of_beq_eq_true h.1,ahy h.2]
theorem bge {ks:List Nat} {x:Oper} {env:Env} {M:Mem}:∀ {ls:List Oper},stB B Φ ks ls env M=true->x ∈ ls->∃ d v M2,x.dst=some d/\evR B Φ x env M=⟨[],v,[],M2⟩/\v=gt env d/\amv M x.op env=true/\w9 ks env (cu x.op)=true/\ksV ks v=true
 | [],_,h=>by cases h
 | o::r,h,hx=>by
  simp only [stB]at h
  split at h
  ·rename_i d v M2 h1 h2
   simp only [bc,Bool.and_eq_true]at h
   rcases List.mem_cons.1 hx with rfl | hx
   ·exact ⟨d,v,M2,h1,h2,boe h.2.1,h.1.1,h.1.2.1,h.1.2.2⟩
   ·exact bge h.2.2 hx
  ·cases h
theorem ay9:∀ (bs:List Bool) (l:List Oper) (i:Nat) (x:Oper),bs.getD i false=true->l[i]? = some x->yq x.op=true->x ∈ aqt bs l
 | [],_,_,_,h,_,_=>by simp at h
 | _::_,[],_,_,_,h,_=>by simp at h
 | b::bs,o::r,0,x,hb,hx,hk=>by
  simp only [List.getElem?_cons_zero,Option.some.injEq]at hx
  subst hx
  simp only [List.getD_cons_zero]at hb
  subst hb
  simp only [aqt,hk,bc,Bool.and_self,cond_true]
  exact List.mem_cons_self
 | b::bs,o::r,i+1,x,hb,hx,hk=>by
  have:=ay9 bs r i x (by simpa using hb) (by simpa using hx) hk
  simp only [aqt]
  cases nob b (yq o.op)with
  | true=>exact List.mem_cons_of_mem _ this
  | false=>exact this
theorem bjw {all:Array Oper} {m i j:Nat} {x:Oper} (hm:m<=j) (hj:j < all.size) (hi:i < m) (hx:all[i]? = some x) (hb:((g8 [] all.toList).getD j 0).testBit i=false) (hk:yq x.op=true):x ∈ (acw all.toList m).getD (j - m) []:=by
 unfold acw
 have hl:len all.toList=all.size:=by rw [avn];rfl
 rw [List.getD_eq_getElem?_getD,List.getElem?_map,List.getElem?_range (by rw [hl];show j - m < all.size - m;omega)]
 simp only [Option.map_some,Option.getD_some]
 refine ay9 _ _ i x ?_ ?_ hk
 ·rw [List.getD_eq_getElem?_getD,List.getElem?_map,List.getElem?_range hi]
  simp only [Option.map_some,Option.getD_some]
  rw [show Nat.add m (j - m)=j from by show m+(j - m)=j;omega,hb]
  rfl
 ·rw [aiz,List.getElem?_take_of_lt hi,Array.getElem?_toList];exact hx
theorem bmo (l:List (List Oper)) (n:Nat):hdP (l.drop n)=l.getD n []:=by
 induction l generalizing n with
 | nil=>simp [hdP]
 | cons a l ih=>cases n with
  | zero=>rfl
  | succ n=>simpa using ih n
theorem bmv (l:List (List Oper)) (n:Nat):tlP (l.drop n)=l.drop (n+1):=by
 induction l generalizing n with
 | nil=>simp [tlP]
 | cons a l ih=>cases n with
  | zero=>rfl
  | succ n=>simpa using ih n
theorem boh {τ:Ty} {M:Mem} {d:Option Nat} {x:V} {r:Rs} (h:ab6 τ M d x=some r) (h1:r.vc=[]) (h2:r.ev=[]):False:=by
 unfold ab6 at h
 split at h
 ·split at h
  ·simp only [Option.some.injEq]at h
   subst h
   revert h1 h2
   generalize bt _=b
   cases b with
   | true=>intro _ h;simp at h
   | false=>intro h _;simp [da]at h
  ·cases h
 ·cases h
theorem bo9 {τ:Ty} {M:Mem} {d:Option Nat} {x:V} (h1:(sj τ M d x).vc=[]) (h2:(sj τ M d x).ev=[]):(sj τ M d x).M=M:=by
 unfold sj at h1 h2 ⊢
 cases hr:ab6 τ M d x with
 | some r=>simp only [hr]at h1 h2;exact (boh hr h1 h2).elim
 | none=>rfl
theorem bq5 {x:Oper} {env:Env} {M M2:Mem} {v:V} (hk:yq x.op=true) (h:evR B Φ x env M=⟨[],v,[],M2⟩):M2=M:=by
 obtain ⟨dst,op,ty',pos,after,guard⟩:=x
 have h1:(evR B Φ ⟨dst,op,ty',pos,after,guard⟩ env M).vc=[]:=by rw [h]
 have h3:(evR B Φ ⟨dst,op,ty',pos,after,guard⟩ env M).ev=[]:=by rw [h]
 have h4:(evR B Φ ⟨dst,op,ty',pos,after,guard⟩ env M).M=M2:=by rw [h]
 rw [← h4]
 clear h h4
 unfold yq at hk
 cases op <;> simp only [acs,am3,ar1,nx,Bool.or_false,Bool.or_true,bc,ro,Bool.and_eq_true,Bool.not_eq_true',Bool.false_eq_true,false_and]at hk
 case load t y=>
  exact bo9 (τ:=B.τ _) (ayd h1).2 h3
 case build t ps=>exact bju.2
 all_goals first | rfl | exact absurd hk (by simp)
theorem bn2 (hΦ:m7 P Φ) (hB:TabOk P B) (Q:Exit->Act->World->Prop) (K:Env->Mem->Prop) (hQ:∀ p env M a w,St F p env M a w->K env M->Q .normal a w) (hb:ww 0 all.toList=true) (ht:bgw D R all (g8 [] all.toList) m=true) (hR:R=false->ks=[]) (hff:bhy all (g8 [] all.toList) m=true)
  (huq:∀ (i j:Nat) (x y:Oper) (t:Nat),i < m->j < m->all[i]? = some x->all[j]? = some y->x.dst=some t->y.dst=some t->i=j) (hdr:af9 all (g8 [] all.toList) m=true)
  (hco:l7 F.nt all.toList=true) (hfv:∀ o ∈ all.toList,∀ k,o.dst=some k->F.fv k=none) :
  ∀ (fuel:Nat) (listed:Array Bool) (c:Nat) (p:Ow) (env Ec:Env) (M:Mem) (a:Act) (w:World),listed.size=all.size->(∀ i,m<=i->i < all.size->(isL listed i<->i < c))->m<=c->unl listed all.size<=fuel->ac5 all listed->Bsta B Φ ks as all m c listed env Ec M->ad8 ks as B Φ ((acw all.toList m).drop (c - m)) ((abe all.toList m).drop (c - m)) (all.toList.drop c) Ec M=true->
   St F p env M a w->tw B Φ (toL all) (all.toList.drop c) Ec M K->wpAny P .any all Q fuel listed a w:=by
 intro fuel
 have done:∀ (listed:Array Bool) (c:Nat) (p:Ow) (env Ec:Env) (M:Mem) (a:Act) (w:World),listed.size=all.size->(∀ i,m<=i->i < all.size->(isL listed i<->i < c))->m<=c->Region.ready .any all listed=[]->Bsta B Φ ks as all m c listed env Ec M->St F p env M a w->tw B Φ (toL all) (all.toList.drop c) Ec M K->Q .normal a w:=by
  intro listed c p env Ec M a w hs hl hmc hr S hst hk
  have hall:=abi hs hb hr
  have hc:all.toList.length<=c:=by
   rcases Nat.lt_or_ge c all.size with h | h
   ·have:=(hl c hmc h).1 (hall c h);omega
   ·simpa using h
  rw [List.drop_eq_nil_of_le hc]at hk
  simp only [tw]at hk
  exact hQ p Ec M a w (hst.weak fun t=>.inr (S.a t fun i x h1 h2 h3=>absurd (hall i (Array.getElem?_eq_some_iff.1 h2).1) h3).symm) hk
 have noready:∀ (listed:Array Bool),listed.size=all.size->unl listed all.size=0->Region.ready .any all listed=[]:=by
  intro listed hs hu
  cases hr:Region.ready .any all listed with
  | nil=>rfl
  | cons i r=>
   obtain ⟨o,h1,h2,_⟩:=pu (j:=i) (by rw [hr];simp)
   have hi:=(Array.getElem?_eq_some_iff.1 h1).1
   have:=ac7 hu i hi
   unfold isL at this
   simp [hs,hi]at this h2
   rw [this]at h2;cases h2
 induction fuel with
 | zero=>
  intro listed c p env Ec M a w hs hl hm hu _ S hck hst hk
  have hr:=noready listed hs (by omega)
  exact ⟨hr,done listed c p env Ec M a w hs hl hm hr S hst hk⟩
 | succ fuel ih=>
  intro listed c p env Ec M a w hs hl hm hu hdn S hck hst hk
  refine ⟨fun hr=>done listed c p env Ec M a w hs hl hm hr S hst hk,fun j hj=>?_⟩
  obtain ⟨o,h1,h2,h3⟩:=pu hj
  have hjs:=(Array.getElem?_eq_some_iff.1 h1).1
  have hnl:¬ isL listed j:=by
   unfold isL;simp [hs,hjs]at h2 ⊢;exact h2
  have hmem:o ∈ all.toList:=by rw [Array.mem_toList_iff];exact Array.mem_of_getElem? h1
  have hset:∀ i,isL (listed.setIfInBounds j true) i<->i=j\/isL listed i:=fun i=>ale (by rw [hs];exact hjs)
  have hul:=aeq (by rw [hs];exact hjs) hnl all.size hjs
  by_cases hjm:j < m
  ·rcases S.h j hjm with h | ⟨fj,x,t,e1,e2,e3,e4⟩
   ·exact absurd h hnl
   rw [h1]at e1;cases e1
   have hop:∀ q ∈ o.op.operands,rd env q=rd Ec q:=fun q hq=>by
    cases q with
    | tmp t0=>
     have hlk:t0 ∈ o.looksAt all:=List.mem_append_left _ (List.mem_filterMap.2 ⟨.tmp t0,by simpa using hq,rfl⟩)
     refine S.a t0 fun i x hi hx hn hd=>?_
     rcases S.h i hi with h | ⟨fi,_⟩
     ·exact hn h
     rcases Nat.lt_or_ge i j with hij | hij
     ·have hpair:=pq (mh hdr hi hjm (by omega) hx h1) hd hlk
      rw [if_pos hij]at hpair
      exact hn (jk hdn hb j o h1 h3 i hpair)
     ·exact azu hff hjm hi hij fj fi h1 hx hd hlk
    | const c=>rfl
    | global g=>rfl
    | func f=>rfl
   obtain ⟨vc,hvc,hr0⟩:=e4.run (M:=M)
   have hr:evR B Φ o env M=⟨vc,gt Ec t,[],M⟩:=by rw [aa0 o hop];exact hr0
   refine wpOp_mono (fun a' w' ⟨p',env',M',q1,q2,q3⟩=>?_) (ahv (rest:=[]) (K:=fun env' M'=>env'=(t,gt Ec t)::env/\M'=M) hΦ hB hst (by simp only [tw,e2,hr,e3,od,wr,rr];exact ⟨hvc,trivial,trivial⟩) (t7 hco hmem) (hfv o hmem) h1 Q)
   subst q2;subst q3
   refine ih _ c p' _ Ec _ a' w' (by simpa using hs) (fun i hi his=>?_) hm (by omega) (hdn.set hj) ⟨fun i hi=>?_,fun t' ht'=>?_⟩ hck q1 hk
   ·rw [hset]
    exact ⟨fun h=>h.elim (fun h=>by omega) (hl i hi his).1,fun h=>.inr ((hl i hi his).2 h)⟩
   ·rcases S.h i hi with h | h
    ·exact .inl ((hset i).2 (.inr h))
    ·exact .inr h
   ·rw [im]
    by_cases htt:t=t'
    ·subst htt;rw [if_pos rfl]
    ·rw [if_neg htt]
     refine S.a t' fun i x hi hx hn hd=>?_
     by_cases hij:i=j
     ·subst hij;rw [h1]at hx;cases hx;rw [e3]at hd;cases hd;exact htt rfl
     ·exact ht' i x hi hx (fun h=>((hset i).1 h).elim hij hn) hd
  ·have hmj:m<=j:=by omega
   obtain ⟨hg,hsp⟩:=ajq ht hmj h1
   have hcj:c<=j:=by
    rcases Nat.lt_or_ge j c with h | h
    ·exact absurd ((hl j hmj hjs).2 h) hnl
    ·exact h
   have hjc:j=c:=by
    rcases Nat.lt_or_ge c j with h | h
    ·rcases hsp c h with hb1 | ⟨hb1,_⟩
     ·have:=jk hdn hb j o h1 h3 c hb1
      have:=(hl c hm (by omega)).1 this
      omega
     ·omega
    ·omega
   subst hjc
   have aym:∀ {i:Nat},i < m->¬ isL listed i->∃ x,all[i]? = some x/\flt D R all x o=true:=fun {i} hi hn=>by
    rcases hsp i (by omega)with hb1 | ⟨_,h⟩
    ·exact absurd (jk hdn hb j o h1 h3 i hb1) hn
    ·exact h
   have hdrop:all.toList.drop j=o::all.toList.drop (j+1):=by
    rw [List.drop_eq_getElem_cons (by simpa using hjs)]
    congr 1
    have:=(Array.getElem?_eq_some_iff.1 h1).2
    simpa using this
   rw [hdrop]at hk hck
   have hlook:∀ t ∈ o.looksAt all,gt env t=gt Ec t:=fun t htl=>S.a t fun i x hi hx hn hd=>by
    obtain ⟨x',hx',hf⟩:=aym hi hn
    rw [hx]at hx';cases hx'
    obtain ⟨_,_,t',ht',hnot,_⟩:=an7 hf
    rw [hd]at ht';cases ht'
    exact hnot htl
   have hrdE:∀ x ∈ o.op.operands,rd env x=rd Ec x:=fun x hx=>by
    cases x with
    | tmp t=>exact hlook t (List.mem_append_left _ (List.mem_filterMap.2 ⟨.tmp t,by simpa using hx,rfl⟩))
    | const c=>rfl
    | global g=>rfl
    | func f=>rfl
   have hev:evR B Φ o env M=evR B Φ o Ec M:=aa0 o hrdE
   simp only [tw,hg]at hk
   generalize hq:evR B Φ o Ec M=q at hk
   obtain ⟨vc,v,e,M1⟩:=q
   simp only [od]at hk
   simp only [ad8,hq,bc,Bool.and_eq_true,nx,Bool.or_eq_true,ro,Bool.not_eq_true',ant,bhx,bmo,bmv]at hck
   rw [show j - m+1=j+1 - m from by omega]at hck
   refine wpOp_mono (fun a' w' ⟨p',env',M',q1,q2,q3⟩=>?_) (ahv (rest:=[]) (K:=fun env' M'=>env'=wr o.dst v (rr env e)/\M'=M1) hΦ hB hst (by simp only [tw,hg,hev,hq,od];exact ⟨hk.1,trivial,trivial⟩) (t7 hco hmem) (hfv o hmem) h1 Q)
   subst q2;subst q3
   refine ih _ (j+1) p' _ (wr o.dst v (rr Ec e)) _ a' w' (by simpa using hs) (fun i hi his=>?_) (by omega) (by omega) (hdn.set hj) ⟨fun i hi=>?_,fun t' ht'=>?_⟩ hck.2 q1 hk.2
   ·rw [hset,hl i hi his];omega
   ·rcases S.h i hi with h | ⟨f0,x,t1,f1,f2,f3,f4⟩
    ·exact .inl ((hset i).2 (.inr h))
    ·by_cases hn:isL listed i
     ·exact .inl ((hset i).2 (.inr hn))
     obtain ⟨x',hx',hf⟩:=aym hi hn
     rw [f1]at hx';cases hx'
     obtain ⟨_,⟨_,hcv⟩,t',ht',_,hu⟩:=an7 hf
     rw [f3]at ht';cases ht'
     have hflag:ajo ((abe all.toList m).drop (j - m))=true:=by
      have hbit:((g8 [] all.toList).getD j 0).testBit i=false:=by
       cases hb1:((g8 [] all.toList).getD j 0).testBit i with
       | false=>rfl
       | true=>exact absurd (jk hdn hb j o h1 h3 i hb1) hn
      rw [ant]
      exact bkb hmj (by simpa using hjs) hi hbit
     rw [ant]at hflag
     have hbit:((g8 [] all.toList).getD j 0).testBit i=false:=by
      cases hb1:((g8 [] all.toList).getD j 0).testBit i with
      | false=>rfl
      | true=>exact absurd (jk hdn hb j o h1 h3 i hb1) hn
     have hdo:yq x.op=true->(gx ks e=true/\AgM ks M' M)\/(amv M' x.op (wr o.dst v (rr Ec e))=true/\w9 ks (wr o.dst v (rr Ec e)) (cu x.op)=true/\ksV ks ((gt Ec t1).evs e)=true/\evR B Φ x (wr o.dst v (rr Ec e)) M'=⟨[],(gt Ec t1).evs e,[],M'⟩):=fun hdk=>by
      have hk2:=hck.1.2.resolve_left (by rw [hflag];simp)
      cases hRR:R with
      | false=>rw [hR hRR];exact .inl ⟨axc e,fun k hk=>by cases hk⟩
      | true=>
       have hcall:=hcv hRR hdk
       rcases hk2 with h | h | h | h
       ·have:ks=[]:=by
         revert h
         cases ks with
         | nil=>intro _;rfl
         | cons _ _=>intro h;cases h
        rw [this];exact .inl ⟨axc e,fun k hk=>by cases hk⟩
       ·rw [hcall]at h;cases h
       ·exact .inl ⟨h,bgt hcall hq hk.1 h⟩
       ·obtain ⟨d2,v2,M2,s1,s2,s3,s5,s6,s7⟩:=bge h (bjw hmj (by simpa using hjs) hi f1 hbit hdk)
        rw [f3]at s1
        cases s1
        have s4:=bq5 hdk s2
        subst s4
        have e2:v2=(gt Ec t1).evs e:=by rw [s3,ahk,if_neg (fun h=>(hu t1 h).1 rfl),uc]
        rw [e2]at s7 s2
        exact .inr ⟨s5,s6,s7,s2⟩
     refine .inr ⟨f0,x,t1,f1,f2,f3,?_⟩
     have e1:gt (wr o.dst v (rr Ec e)) t1=(gt Ec t1).evs e:=by
      rw [ahk,if_neg (fun h=>(hu t1 h).1 rfl),uc]
     rw [e1]
     refine f4.look hck.1.1 hdo fun t0 g1=>?_
     have hlk:t0 ∈ x.looksAt all:=List.mem_append_left _ (List.mem_filterMap.2 ⟨.tmp t0,by simpa using g1,rfl⟩)
     rw [ahk,if_neg (fun h=>(hu t0 h).2 hlk),uc]
   ·rw [ahk,ahk]
    split
    ·rfl
    ·rw [uc,uc,S.a t' fun i x hi hx hn hd=>ht' i x hi hx (fun h=>((hset i).1 h).elim (fun h=>by omega) hn) hd]
theorem Hctx.nogd (C:Hctx D R Ds ks as B Φ all m E X N M0) {j:Nat} (hj:j<=m) (t:Nat):su (gt (E j) t)=false:=by
 have key:vr (gt (E j) t)=true:=by
  by_cases hw:∃ (i:Nat) (x:Oper),all[i]? = some x/\i < j/\x.dst=some t
  ·obtain ⟨i,x,e1,e2,e3⟩:=hw
   rw [(C.gts j t hj).2 i x e1 e2 e3]
   obtain ⟨d',v',vc',ev',H'⟩:=C.hE i x e1 (by omega)
   have:d'=t:=by have:=H'.dst;rw [e3]at this;exact (Option.some.inj this).symm
   subst this
   rw [H'.he,im,if_pos rfl]
   exact H'.gd
  ·rw [(C.gts j t hj).1 fun i o h1 h2 h3=>hw ⟨i,o,h1,h2,h3⟩]
   exact C.h0 t
 cases hv:gt (E j) t with
 | gd _ _ _ _=>rw [hv]at key;cases key
 | _=>rfl
theorem Hctx.grow (C:Hctx D R Ds ks as B Φ all m E X N M0) {i:Nat} (hi:i<=m) {k:Nat} (hg:go (ap (X i) M0) k ≠ none):go (ap (X m) M0) k=go (ap (X i) M0) k:=by
 have step:∀ j,j < m->go (ap (X j) M0) k ≠ none->go (ap (X (j+1)) M0) k=go (ap (X j) M0) k:=fun j hj hg=>by
  obtain ⟨d,v,vc,ev,H⟩:=C.hE j _ (C.get hj) hj
  have hn:k ∉ cj (N j):=fun hm=>by
   have h1:=ae1 H.n0 k hm
   have h2:=ae1 H.nX k hm
   rw [aec,h2]at hg
   exact hg h1
  have hN:go (N j) k=none:=Decidable.byContradiction fun e=>hn (xo.2 e)
  rw [H.x,aec,aec,aec,hN]
 have key:∀ n,i+n<=m->go (ap (X (i+n)) M0) k=go (ap (X i) M0) k:=fun n=>by
  induction n with
  | zero=>intro _;rfl
  | succ n ih=>
   intro hn
   have h1:=ih (by omega)
   rw [← Nat.add_assoc,step (i+n) (by omega) (by rw [h1];exact hg),h1]
 have:=key (m - i) (by omega)
 rwa [show i+(m - i)=m by omega]at this
theorem Hctx.turn (C:Hctx D R Ds ks as B Φ all m E X N M0) {listed:Array Bool} {env:Env} {M:Mem} (hl:∀ i,i < all.size->isL listed i->i < m) (hdn:ac5 all listed) (S:Hsta all m E N M0 listed env M) (hall:∀ i,i < m->tq all.size (g8 [] all.toList) m i=false->isL listed i) :
  Bsta B Φ ks as all m m listed env (E m) (ap (X m) M0):=by
 have hlm:∀ {i:Nat} {x:Oper},all[i]? = some x->isL listed i->i < m:=fun h1 h2=>hl _ (Array.getElem?_eq_some_iff.1 h1).1 h2
 refine ⟨fun i hi=>?_,fun t ht=>?_⟩
 ·by_cases hn:isL listed i
  ·exact .inl hn
  right
  have fi:tq all.size (g8 [] all.toList) m i=true:=by
   cases h:tq all.size (g8 [] all.toList) m i with
   | true=>rfl
   | false=>exact absurd (hall i hi h) hn
  refine ⟨fi,?_⟩
  obtain ⟨j,hj1,hj2,hj3⟩:=azc fi
  obtain ⟨_,hsp⟩:=ajq C.ht hj1 (Array.getElem?_eq_getElem hj2)
  rcases hsp i (by omega)with h | ⟨_,x,hx,hf⟩
  ·rw [hj3]at h;cases h
  obtain ⟨g1,g2,t,g3,_,_⟩:=an7 hf
  obtain ⟨d,v,vc,ev,H⟩:=C.hE i x hx hi
  have hd:d=t:=by have:=H.dst;rw [g3]at this;exact (Option.some.inj this).symm
  subst hd
  obtain ⟨N',hr,hN⟩:=H.r
  have hF:FlI B Φ ks as x (E i) (ap (X m) M0) v:=by
   rw [bhb,nx,Bool.or_eq_true]at g2
   rcases g2.1 with g2 | g2
   ·exact FlI.of (B:=B) (Φ:=Φ) g2 (fun t=>C.nogd (by omega) t) hr H.hv
   ·simp only [bc,Bool.and_eq_true]at g2
    rcases H.dt (C.hD g2.1 i hi fi) g2.2 with hbx | ⟨q1,q2⟩
    ·have h4:∃ t t0 k,x.op=.load t (.tmp t0)/\gt (E i) t0=.bx (.ad k [.de])/\inN k as=true/\bhz (B.τ t)=true:=by
      unfold bxK at hbx
      split at hbx
      ·rename_i t t0 ho
       split at hbx
       ·rename_i k π hg
        simp only [br,b8,Bool.and_true,Bool.and_eq_true]at hbx
        exact ⟨t,t0,k,ho,by rw [hg,bfr hbx.1],hbx.2.1,hbx.2.2⟩
       ·cases hbx
      ·cases hbx
     obtain ⟨t,t0,k,ho,hg,hk,hb⟩:=h4
     obtain ⟨vc',_,hrun⟩:=FlI.run (M:=ap (X i) M0) (B:=B) (Φ:=Φ) (ks:=ks) (as:=as) (x:=x) (env:=E i) (y:=.ad k [.de]) (.inr (.inr (.inr ⟨t,t0,k,ho,hg,rfl,hk,hb⟩)))
     rw [hr]at hrun
     simp only [Rs.mk.injEq]at hrun
     exact .inr (.inr (.inr ⟨t,t0,k,ho,hg,hrun.2.1,hk,hb⟩))
    have hkl:=H.kl
    rw [hN]at hkl
    have hev:ev=[]:=bf1 g2.2 hr hkl
    subst hev
    refine .inr (.inr (.inl ⟨g2.2,q1,q2,vc,H.hv,fun M' hM=>?_⟩))
    rw [bb5 (M:=M') H.k (fun hlv q hq=>an4 (ks:=ks) (fun k hk hg=>(hM k hk).trans (C.grow (by omega) hg)) _ (aj8 q1 _ hq) (ahm hlv _ hq)) hr H.hv hkl]
    rfl
  refine ⟨x,d,hx,g1,g3,?_⟩
  have hv:gt (E m) d=v:=by
   rw [(C.gts m d (Nat.le_refl _)).2 i x hx hi g3,H.he,im,if_pos rfl]
  rw [hv]
  refine hF.same fun t0 k1=>?_
  have hlk:t0 ∈ x.looksAt all:=List.mem_append_left _ (List.mem_filterMap.2 ⟨.tmp t0,by simpa using k1,rfl⟩)
  by_cases hw:∃ (i':Nat) (x':Oper),all[i']? = some x'/\i' < m/\x'.dst=some t0
  ·obtain ⟨i',x',e1,e2,e3⟩:=hw
   by_cases hii:i' < i
   ·rw [(C.gts m t0 (Nat.le_refl _)).2 i' x' e1 e2 e3,(C.gts i t0 (by omega)).2 i' x' e1 hii e3]
   ·exfalso
    have fi':tq all.size (g8 [] all.toList) m i'=true:=by
     cases h:tq all.size (g8 [] all.toList) m i' with
     | true=>rfl
     | false=>
      exfalso
      have hli:=hall i' e2 h
      by_cases e:i'=i
      ·subst e;exact hn hli
      ·have hpair:=pq (mh C.hdr e2 hi e e1 hx) e3 hlk
       rw [if_neg hii]at hpair
       exact hn (jk hdn C.hb i' x' e1 (fun e' he' hb'=>hdn i' x' e1 hli e' he' hb') i hpair)
    exact azu C.hf hi e2 (by omega) fi fi' hx e1 e3 hlk
  ·rw [(C.gts m t0 (Nat.le_refl _)).1 fun i x h1 h2 h3=>hw ⟨i,x,h1,h2,h3⟩,(C.gts i t0 (by omega)).1 fun i x h1 h2 h3=>hw ⟨i,x,h1,by omega,h3⟩]
 ·obtain ⟨g1,g2⟩:=C.gts m t (Nat.le_refl _)
  by_cases hw:∃ (i:Nat) (x:Oper),all[i]? = some x/\i < m/\x.dst=some t
  ·obtain ⟨i,x,e1,e2,e3⟩:=hw
   have hli:isL listed i:=Classical.byContradiction fun hn=>ht i x e2 e1 hn e3
   rw [g2 i x e1 e2 e3,S.b i x t e1 hli e3]
  ·rw [g1 fun i o h1 h2 h3=>hw ⟨i,o,h1,h2,h3⟩,S.a t fun i o h1 h2 h3=>hw ⟨i,o,h1,hlm h1 h2,h3⟩]
theorem Hctx.flN (C:Hctx D R Ds ks as B Φ all m E X N M0) {i:Nat} (hi:i < m) (fi:tq all.size (g8 [] all.toList) m i=true):cj (N i)=[]:=by
 obtain ⟨j,hj1,hj2,hj3⟩:=azc fi
 obtain ⟨_,hsp⟩:=ajq C.ht hj1 (Array.getElem?_eq_getElem hj2)
 rcases hsp i (by omega)with h | ⟨_,x,hx,hf⟩
 ·rw [hj3]at h;cases h
 obtain ⟨_,g2,_⟩:=an7 hf
 obtain ⟨d,v,vc,ev,H⟩:=C.hE i x hx hi
 obtain ⟨N',hr,hN⟩:=H.r
 have he:ev=[]:=by
  rw [bhb,nx,Bool.or_eq_true]at g2
  rcases g2.1 with g2 | g2
  ·unfold ayw at g2
   split at g2
   ·rename_i ho;simp only [evR,ho,ew,dz,Rs.mk.injEq]at hr;exact hr.2.2.1.symm
   ·rename_i ho;simp only [evR,ho,ew,dz,Rs.mk.injEq]at hr;exact hr.2.2.1.symm
   ·rename_i ho;simp only [evR,ho,ew,dz,Rs.mk.injEq]at hr;exact hr.2.2.1.symm
   ·cases g2
  ·simp only [bc,Bool.and_eq_true]at g2
   have hkl:=H.kl
   rw [hN]at hkl
   exact bf1 g2.2 hr hkl
 rw [hN,he];rfl
theorem Hctx.fin (C:Hctx D R Ds ks as B Φ all m E X N M0) {listed:Array Bool} {env:Env} {M:Mem} (hl:∀ i,i < all.size->isL listed i->i < m) (S:Hsta all m E N M0 listed env M) (hall:∀ i,i < m->tq all.size (g8 [] all.toList) m i=false->isL listed i) :
  ∀ k,go (ap (X m) M0) k=go M k:=by
 have hm:=C.hm
 intro k
 rw [aec]
 obtain ⟨x1,x2⟩:=C.xs m (Nat.le_refl _) k
 by_cases hw:∃ i,i < m/\k ∈ cj (N i)
 ·obtain ⟨i,h1,h2⟩:=hw
  have hli:isL listed i:=by
   cases h:tq all.size (g8 [] all.toList) m i with
   | false=>exact hall i h1 h
   | true=>rw [C.flN h1 h]at h2;cases h2
  rw [(x1 i h1 h2).1,S.d i k (by omega) hli h2]
  cases hg:go (N i) k with
  | none=>exact absurd hg (xo.1 h2)
  | some ob=>rfl
 ·rw [x2 fun i h1 h2=>hw ⟨i,h1,h2⟩]
  simp only
  exact (S.c k fun i hi hli h2=>hw ⟨i,hl i hi hli,h2⟩).symm
theorem Hctx.any (hΦ:m7 P Φ) (hB:TabOk P B) (C:Hctx D R Ds ks as B Φ all m E X N M0) (Q:Exit->Act->World->Prop) (K:Env->Mem->Prop) (hQ:∀ p env M a w,St F p env M a w->K env M->Q .normal a w) (hco:l7 F.nt all.toList=true) (hfv:∀ o ∈ all.toList,∀ k,o.dst=some k->F.fv k=none)
  (hlast:tw B Φ (toL all) (all.toList.drop m) (E m) (ap (X m) M0) K) (hck:ad8 ks as B Φ (acw all.toList m) (abe all.toList m) (all.toList.drop m) (E m) (ap (X m) M0)=true) :
  ∀ (fuel:Nat) (listed:Array Bool) (p:Ow) (env:Env) (M:Mem) (a:Act) (w:World),listed.size=all.size->(∀ i,i < all.size->isL listed i->i < m)->unl listed all.size<=fuel->ac5 all listed->Hsta all m E N M0 listed env M->St F p env M a w->wpAny P .any all Q fuel listed a w:=by
 have hm:=C.hm
 have huq:∀ (i j:Nat) (x y:Oper) (t:Nat),i < m->j < m->all[i]? = some x->all[j]? = some y->x.dst=some t->y.dst=some t->i=j:=fun i j x y t hi hj hx hy h1 h2=>C.uniq hi hj hx hy h1 h2
 have last:∀ (fuel:Nat) (listed:Array Bool) (p:Ow) (env:Env) (M:Mem) (a:Act) (w:World),listed.size=all.size->(∀ i,i < all.size->isL listed i->i < m)->unl listed all.size<=fuel->ac5 all listed->Hsta all m E N M0 listed env M->St F p env M a w->(∀ i,i < m->tq all.size (g8 [] all.toList) m i=false->isL listed i)->wpAny P .any all Q fuel listed a w:=by
  intro fuel listed p env M a w hs hl hu hdn S hst hall
  exact bn2 hΦ hB Q K hQ C.hb C.ht C.hR C.hf huq C.hdr hco hfv fuel listed m p env (E m) (ap (X m) M0) a w hs (fun i hi his=>⟨fun h=>hl i his h,fun h=>absurd h (by omega)⟩) (Nat.le_refl _) hu hdn (C.turn hl hdn S hall) (by rw [Nat.sub_self];exact hck) (hst.same (C.fin hl S hall) fun _=>rfl) hlast
 intro fuel
 induction fuel with
 | zero=>
  intro listed p env M a w hs hl hu hdn S hst
  exact last 0 listed p env M a w hs hl hu hdn S hst fun i hi _=>ac7 (Nat.le_zero.1 hu) i (by omega)
 | succ fuel ih=>
  intro listed p env M a w hs hl hu hdn S hst
  by_cases hall:∀ i,i < m->tq all.size (g8 [] all.toList) m i=false->isL listed i
  ·exact last (fuel+1) listed p env M a w hs hl hu hdn S hst hall
  ·refine ⟨fun hr=>absurd (fun i hi _=>abi hs C.hb hr i (by omega)) hall,fun j hj=>?_⟩
   obtain ⟨o,h1,h2,h3⟩:=pu hj
   have hjs:=(Array.getElem?_eq_some_iff.1 h1).1
   have hnl:¬ isL listed j:=by
    unfold isL;simp [hs,hjs]at h2 ⊢;exact h2
   have hjm:j < m:=by
    rcases Nat.lt_or_ge j m with h | h
    ·exact h
    ·exact absurd (fun i _ hf=>jk hdn C.hb j o h1 h3 i (bl9 hf hjs h)) hall
   have hmem:o ∈ all.toList:=by rw [Array.mem_toList_iff];exact Array.mem_of_getElem? h1
   refine wpOp_mono (fun a' w' ⟨p',env',M',e1,e2⟩=>ih _ p' env' M' a' w' (by simpa using hs) (fun i hi hli=>?_) ?_ (hdn.set hj) e2 e1) (ahv hΦ hB hst (C.step hs hl hdn S hst h1 hjm hnl h3) (t7 hco hmem) (hfv o hmem) h1 Q)
   ·rcases (ale (by rw [hs];exact hjs)).1 hli with h | h
    ·omega
    ·exact hl i hi h
   ·have:=aeq (by rw [hs];exact hjs) hnl all.size hjs
    omega
theorem bbw (hΦ:m7 P Φ) (hB:TabOk P B) {ops:Array Oper} {cut:Nat} (hco:l7 F.nt (toL ops)=true) (hfv:∀ o ∈ toL ops,∀ k,o.dst=some k->F.fv k=none) (hr:akq D R (toL ops) cut=true) (hR:R=false->ks=[]) (hD:D=true->∀ i,i < cut->tq (toL ops).length (g8 [] (toL ops)) cut i=true->Ds.getD i false=true) {K:Env->Mem->Prop} {Q:Exit->Act->World->Prop}
  (hQ:∀ p env M a w,St F p env M a w->K env M->Q .normal a w) {p:Ow} {env:Env} {M:Mem} {a:Act} {w:World} (h:St F p env M a w) (hn:w6 env=true)
  (hk:hx Ds ks as B Φ M (jx cut (toL ops)) env [] (fun env X=>bif nob (nogd env) (ad8 ks as B Φ (acw (toL ops) cut) (abe (toL ops) cut) (oh cut (toL ops)) env (ap X M))then twG B Φ (toL ops) (oh cut (toL ops)) env (ap X M) K else False)):wpAny P .any ops Q ops.size (Array.replicate ops.size false) a { w with drawn:=w.drawn+1 }:=by
 rw [ge]at hco hfv hr
 rw [aiz,aoc]at hk
 simp only [akq,Bool.and_eq_true]at hr
 obtain ⟨h1,h2,h3,h5,h4⟩:=hr
 obtain ⟨E,X,N,e0,x0,e1,e2⟩:=asm _ _ _ _ _ hk
 have hm:cut<=ops.toList.length:=Nat.le_of_ble_eq_true h2
 have hm':cut<=ops.size:=by simpa using hm
 rw [ge,List.length_take,Nat.min_eq_left hm]at e2
 cases hng0:nob (nogd (E cut)) (ad8 ks as B Φ (acw ops.toList cut) (abe ops.toList cut) (ops.toList.drop cut) (E cut) (ap (X cut) M))with
 | false=>rw [hng0]at e2;exact e2.elim
 | true=>
 rw [hng0]at e2
 simp only [cond_true]at e2
 simp only [bc,Bool.and_eq_true]at hng0
 obtain ⟨hng,hck⟩:=hng0
 replace e2:=ah5 (B:=B) (Φ:=Φ) _ _ _ (ah7 hng) e2
 have C:Hctx D R Ds ks as B Φ ops cut E X N M:={
  hR:=hR
  hD:=fun h i hi hf=>hD h i hi (by rw [ge];simpa using hf)
  hb:=h1
  hm:=hm'
  ht:=by simpa using h3
  hf:=by simpa using h5
  hdr:=by simpa using h4
  hE:=fun j o ho hj=>e1 j o (by rw [ge,List.getElem?_take_of_lt hj,px];exact ho)
  hX:=x0
  h0:=fun t=>by rw [e0];exact ati hn }
 exact C.any hΦ hB Q K hQ hco hfv (by simpa only [ge]using e2) hck _ _ p env M a _ (by simp) (fun i _ hi=>absurd hi xw) (au0 _ _) (fun j o _ hi=>absurd hi xw)
  ⟨fun t _=>by rw [e0],fun i o t _ hi=>absurd hi xw,fun k _=>rfl,fun i k _ hi=>absurd hi xw⟩ h.drew
theorem bfg (hΦ:m7 P Φ) (hB:TabOk P B) (hmix:P.follows .mixedOrders=true) {id:Nat} {ops:Array Oper} {cut:Nat} (hco:l7 F.nt (toL ops)=true) (hfv:∀ o ∈ toL ops,∀ k,o.dst=some k->F.fv k=none) (hr:akq D R (toL ops) cut=true) (hR:R=false->ks=[]) (hD:D=true->∀ i,i < cut->tq (toL ops).length (g8 [] (toL ops)) cut i=true->Ds.getD i false=true) {K:Env->Mem->Prop} {Q:Exit->Act->World->Prop}
  (hQ:∀ p env M a w,St F p env M a w->K env M->Q .normal a w) {p:Ow} {env:Env} {M:Mem} {a:Act} {w:World} (h:St F p env M a w) (hn:w6 env=true)
  (hk:hx Ds ks as B Φ M (jx cut (toL ops)) env [] (fun env X=>bif nob (nogd env) (ad8 ks as B Φ (acw (toL ops) cut) (abe (toL ops) cut) (oh cut (toL ops)) env (ap X M))then twG B Φ (toL ops) (oh cut (toL ops)) env (ap X M) K else False)):(Code.region id ops true).wp P Q a w:=
 wp_region_any hmix (bbw hΦ hB hco hfv hr hR hD hQ h hn hk)
end
end
end Go.Bm
/- The gi machine:calls that give this or that;drawn regions whose operations are put into another order. -/
namespace Go.Bm
open Go.RowKit
section
variable {F:Fr} {p p' p'':Ow} {env env':Env} {M M' M'':Mem} {a a':Act} {w w' w'':World} {P:Program} {B:Tab} {Φ:FuncId->Option Ct}
theorem bj0 {Im Im':Nat->Prop} {w:World} (hI:∀ b,Im b->Im' b):(rt:List (Bool×O))->(x:js rt)->(S:Nat->Prop)->(us:List Value)->(∀ b,S b->Im' b)->kg Im w rt x S us->kg Im' w (fzL rt) (fzX rt x) (fun _=>False) us
 | [],_,_,_,_,h=>h
 | q::r,x,S,us,hS,h=>by
  obtain ⟨u,us',vs,S1,S2,h1,h2,h3,h4,h5,_,h7,h8⟩:=h
  refine ⟨u,us',vs,fun _=>False,fun _=>False,h1,h2,h3,fun _ h=>h.elim,fun _ h=>h.elim,fun _ h=>h.elim,?_,bj0 hI r x.2 S2 us' (fun b hb=>hS b (h5 b hb)) h8⟩
  simp only [Rel]
  exact Rel.frz hI q.2 x.1 S1 vs (fun b hb=>hS b (h4 b hb)) h7
theorem bq1 {f:FuncId} {ct:Ct} (h:dg P f ct) (hm:ct.mu=none):dg P f (fzCt ct):=by
 obtain ⟨h1,h2⟩:=h
 rw [hm]at h2
 refine ⟨h1,fun A w us x hA hr hp=>?_⟩
 refine (h2 A w us x hA hr hp).mono fun e w' he=>?_
 obtain ⟨rs,S,q1,q2,q3,q4⟩:=he
 refine ⟨rs,fun _=>False,q1,q2,fun _ h=>h.elim,bj0 (fun b hb=>⟨hb.1,hb.2.1.elim (fun h=>.inl ⟨rfl,h.2⟩) .inr,fun h=>h⟩) _ _ S rs (fun b hb=>⟨(q3 b hb).2,.inr (q3 b hb).1,fun h=>h⟩) q4⟩
theorem bk6 (hΦ:m7 P Φ):m7 P (arz Φ):=by
 intro f c hc
 unfold arz at hc
 cases hf:Φ f with
 | none=>rw [hf]at hc;cases hc
 | some ct=>
  rw [hf]at hc
  simp only at hc
  cases hm:ct.mu with
  | none=>rw [hm]at hc;simp only [Option.some.injEq]at hc;rw [← hc];exact bq1 (hΦ f ct hf) hm
  | some _=>rw [hm]at hc;simp only [Option.some.injEq]at hc;rw [← hc];exact hΦ f ct hf
theorem bpa (hΦ:m7 P Φ) (hB:TabOk P B) (all:Array Oper) (Q:Exit->Act->World->Prop) (K:Env->Mem->Prop) (hQ:∀ p env M a w,St F p env M a w->K env M->Q .normal a w) :
  ∀ (ops:List Oper) (p:Ow) (env:Env) (M:Mem) (a:Act) (w:World),l7 F.nt ops=true->(∀ o ∈ ops,∀ k,o.dst=some k->F.fv k=none)->St F p env M a w->twS B Φ (toL all) ops env M K->wpList P all Q ops a w:=
 fun _ _ _ _ _ _ _ _ _ h=>False.elim h
theorem bkm (hΦ:m7 P Φ) (hB:TabOk P B) (all:Array Oper) (Q:Exit->Act->World->Prop) (K:Env->Mem->Prop) (hQ:∀ p env M a w,St F p env M a w->K env M->Q .normal a w) :
  ∀ (ops:List Oper) (p:Ow) (env:Env) (M:Mem) (a:Act) (w:World),l7 F.nt ops=true->(∀ o ∈ ops,∀ k,o.dst=some k->F.fv k=none)->ac4 (toL all) ops env->St F p env M a w->twQ B Φ (toL all) ops env M K->wpList P all Q ops a w
 | [],p,env,M,a,w,_,_,_,h,hk=>hQ p env M a w h hk
 | o::rest,p,env,M,a,w,hc,hfv,hI,h,hk=>by
  simp only [twQ]at hk
  have hc1:=t7 hc (List.mem_cons_self)
  have hdst:=bdn hc1 (hfv o (by simp))
  have ih:∀ p' env' M' a' w',ac4 (toL all) rest env'->St F p' env' M' a' w'->twQ B Φ (toL all) rest env' M' K->wpList P all Q rest a' w':=fun p' env' M' a' w' h0 h1 h2=>bkm hΦ hB all Q K hQ rest p' env' M' a' w' (adu hc).2.2.2 (fun o' ho'=>hfv o' (by simp [ho'])) h0 h1 h2
  have step:tw B Φ (toL all) [o] env M (fun env M=>ac4 (toL all) rest env/\twQ B Φ (toL all) rest env M K)->wpList P all Q (o::rest) a w:=fun h1=>by
   have hst:=aw2 hΦ hB all h h1 hc1 (hfv o (by simp)) Q
   unfold wpList
   split at hst
   ·rename_i hw
    rw [if_pos hw]
    exact hst.imp (Oper.wp_mono (fun a' w' ⟨p',env',M',h1,h2⟩=>ih p' env' M' a' w' h2.1 h1 h2.2)) id
   ·rename_i hw
    rw [if_neg hw]
    obtain ⟨p',env',M',h1,h2⟩:=hst
    exact ih p' env' M' _ w h2.1 h1 h2.2
  cases hgd:o.guard with
  | none=>
   rw [hgd]at hk
   refine step ?_
   simp only [tw]
   rw [hgd]
   obtain ⟨vc,he,hvc⟩:=ak9 (B:=B) (Φ:=Φ) hI bd3 o M
   rw [he]
   generalize evG B Φ (toL all) [] o env M=q at hk hvc ⊢
   obtain ⟨vc',v,e,M'⟩:=q
   simp only at hk hvc ⊢
   cases hv:su v with
   | true=>rw [hv]at hk;exact hk.elim
   | false=>
    rw [hv]at hk
    simp only [cond_false,od]at hk
    rw [od]
    exact ⟨hvc hk.1,aj0 hI hv ⟨e,fun t=>uc t e env⟩,hk.2⟩
  | some g=>
   obtain ⟨j,want⟩:=g
   rw [hgd]at hk
   simp only at hk
   cases hd:tj (toL all) j with
   | none=>rw [hd]at hk;exact hk.elim
   | some dj=>
    rw [hd]at hk
    simp only at hk
    have hdj:(all[j]?).bind (·.dst)=some dj:=by rw [← ars];exact hd
    have hw:Region.wanted o (yielded all a.tmps)=(yB (a.tmps.getD dj undef) == some want):=by simp only [Region.wanted,hgd,aoa hdj]
    have hev:(evR B Φ o env M).av=(evG B Φ (toL all) (mn (toL all) env 8 j want) o env M).av/\(evR B Φ o env M).ev=(evG B Φ (toL all) (mn (toL all) env 8 j want) o env M).ev/\(evR B Φ o env M).M=(evG B Φ (toL all) (mn (toL all) env 8 j want) o env M).M:=by
     unfold evR evG
     split
     ·simp only [ad1,au9,dz]
      cases bt [_,_,_] <;> simp [bad]
     ·exact ⟨rfl,rfl,rfl⟩
    have hgood:gc (gt env dj) want->∃ vc,evR B Φ o env M=⟨vc,(evG B Φ (toL all) (mn (toL all) env 8 j want) o env M).av,(evG B Φ (toL all) (mn (toL all) env 8 j want) o env M).ev,(evG B Φ (toL all) (mn (toL all) env 8 j want) o env M).M⟩/\(ae (evG B Φ (toL all) (mn (toL all) env 8 j want) o env M).vc->ae vc):=
     fun hG=>ak9 (B:=B) (Φ:=Φ) hI (am6 hI 8 j want dj hd hG) o M
    generalize evG B Φ (toL all) (mn (toL all) env 8 j want) o env M=q at hk hev hgood
    obtain ⟨vc',v,e,M'⟩:=q
    simp only [bt]at hk hev hgood
    cases h1:lx (gt env dj) <;> rw [h1]at hk <;> try exact hk.elim
    cases h4:wIn dj (o::rest) <;> rw [h4]at hk <;> try exact hk.elim
    simp only [neg,cond_true,cond_false]at hk
    have hy:=baw _ _ want h1 (h.slots dj)
    cases hqf:nob (ni o) (fresh M e)with
    | true=>
     rw [hqf]at hk
     simp only [cond_true]at hk
     simp only [bc,Bool.and_eq_true]at hqf
     refine step ?_
     simp only [tw]
     rw [hgd]
     simp only [hd]
     generalize hq2:evR B Φ o env M=q2 at hev hgood
     obtain ⟨vc2,v2,e2,M2⟩:=q2
     simp only at hev
     obtain ⟨rfl,rfl,rfl⟩:=hev
     simp only [bt,h1,hqf.1,hqf.2,cond_true,ah2]at hk ⊢
     refine ⟨fun hG=>?_,agd hI hd h1 h4,hk.2⟩
     obtain ⟨vc3,e3,h3⟩:=hgood hG
     cases e3
     exact h3 (hk.1 hG)
    | false=>
     rw [hqf]at hk
     simp only [cond_false]at hk
     cases hv:su v with
     | true=>rw [hv]at hk;exact hk.elim
     | false=>
     rw [hv]at hk
     simp only [cond_false,ifP,od]at hk
     unfold wpList
     rw [hw]
     by_cases hG:gc (gt env dj) want
     ·rw [if_pos (hy.2 hG)]
      obtain ⟨vc3,e3,h3⟩:=hgood hG
      obtain ⟨k1,k2⟩:=hk.1 hG
      refine .inl (Oper.wp_mono (fun a' w' ⟨u,g1,p',g2,g3,g4,_⟩=>?_) (aph hΦ hB h hc1 (by rw [e3];exact h3 k1) Q))
      rw [e3]at g2 g4
      rw [g1]
      exact ih p' _ _ _ w' (aj0 hI hv ⟨e,fun t=>uc t e env⟩) ((h.tr g2 g3).wrO _ u g4 hdst) k2
     ·rw [if_neg (fun hh=>hG (hy.1 hh))]
      exact ih p _ _ _ w (agd hI hd h1 h4) (h.wrO _ undef (by simp only [al];exact ⟨fun hn=>absurd hn hG,fun _=>trivial⟩) hdst) (hk.2 hG)
theorem boo {α β:Type} (f:α->β) (l:List α):bgx f l=l.map f:=by
 induction l with
 | nil=>rfl
 | cons x l ih=>simp only [bgx,ih,List.map_cons]
theorem ape {σ:List Nat} {o:Oper} {e:Edge}:e ∈ (aa2 σ o).after<->∃ e' ∈ o.after,e=bmt σ e':=by
 unfold aa2
 simp only [boo,ge,List.mem_toArray,List.mem_map,Array.mem_toList_iff]
 exact ⟨fun ⟨a,h1,h2⟩=>⟨a,h1,h2.symm⟩,fun ⟨a,h1,h2⟩=>⟨a,h1,h2.symm⟩⟩
theorem an0 {σ:List Nat} {l:List Oper} {o':Oper}:∀ {ks:List Nat},o' ∈ zf σ l ks->∃ o ∈ l,o'=aa2 σ o
 | [],h=>by cases h
 | k::r,h=>by
  simp only [zf]at h
  split at h
  ·rename_i o ho
   rcases List.mem_cons.1 h with h | h
   ·rw [zm]at ho
    exact ⟨o,List.mem_of_getElem? ho,h⟩
   ·exact an0 h
  ·exact an0 h
theorem ary {σ:List Nat} {l:List Oper}:∀ {ks:List Nat},(∀ k ∈ ks,k < l.length)->(zf σ l ks).length=ks.length/\∀ (j i:Nat) (o:Oper),ks[j]? = some i->l[i]? = some o->(zf σ l ks)[j]? = some (aa2 σ o)
 | [],_=>⟨rfl,fun j i o h=>by simp at h⟩
 | k::r,h=>by
  obtain ⟨h1,h2⟩:=ary (σ:=σ) (l:=l) (ks:=r) fun x hx=>h x (by simp [hx])
  have hk:=h k (by simp)
  obtain ⟨o,ho⟩:∃ o,l[k]? = some o:=⟨_,List.getElem?_eq_getElem hk⟩
  have e:zf σ l (k::r)=aa2 σ o::zf σ l r:=by
   simp only [zf,zm,ho]
  rw [e]
  refine ⟨by simp [h1],fun j i o' hj hi=>?_⟩
  cases j with
  | zero=>simp at hj;subst hj;rw [ho]at hi;cases hi;rfl
  | succ j=>simp at hj ⊢;exact h2 j i o' hj hi
theorem ae0 {L:Array Bool} {j:Nat} (h:j < L.size):L.getD j true=L.getD j false:=by simp [h]
structure Perm (ops ops':Array Oper) (σ:List Nat) (n:Nat):Prop where
 s:ops.size=n
 s':ops'.size=n
 f:∀ i,i < n->plc σ i < n/\σ[plc σ i]? = some i
 g:∀ k,k < n->∃ i,σ[k]? = some i/\i < n/\plc σ i=k
 op:∀ (k i:Nat) (o:Oper),σ[k]? = some i->ops[i]? = some o->ops'[k]? = some (aa2 σ o)
 gd:∀ (i:Nat) (o:Oper),ops[i]? = some o->o.guard=none
 bk:∀ (i:Nat) (o:Oper),ops[i]? = some o->∀ e ∈ o.after,Region.binds .any e=true->e.on < n
theorem Perm.ready {ops ops':Array Oper} {σ:List Nat} {n:Nat} (H:Perm ops ops' σ n) {L L':Array Bool} (hL:L.size=n) (hL':L'.size=n) (hr:∀ i,i < n->L'.getD (plc σ i) true=L.getD i true) {i:Nat} (hi:i < n) :
  i ∈ Region.ready .any ops L<->plc σ i ∈ Region.ready .any ops' L':=by
 obtain ⟨f1,f2⟩:=H.f i hi
 obtain ⟨o,ho⟩:∃ o,ops[i]? = some o:=⟨_,Array.getElem?_eq_getElem (by rw [H.s];exact hi)⟩
 have ho':=H.op _ _ _ f2 ho
 rw [mem_ready,mem_ready,hr i hi]
 constructor
 ·rintro ⟨h1,o1,h2,h3⟩
  rw [ho]at h2;cases h2
  refine ⟨h1,_,ho',fun e he hb=>?_⟩
  obtain ⟨e',k1,rfl⟩:=ape.1 he
  have hn:=H.bk i o ho e' k1 hb
  have hp:=H.f _ hn
  have k2:=h3 e' k1 hb
  rw [← ae0 (by rw [hL];exact hn),← hr _ hn,ae0 (by rw [hL'];exact hp.1)]at k2
  exact k2
 ·rintro ⟨h1,o1,h2,h3⟩
  rw [ho']at h2;cases h2
  refine ⟨h1,_,ho,fun e he hb=>?_⟩
  have hn:=H.bk i o ho e he hb
  have hp:=H.f _ hn
  have k2:=h3 (bmt σ e) (ape.2 ⟨e,he,rfl⟩) hb
  rw [← ae0 (by rw [hL];exact hn),← hr _ hn,ae0 (by rw [hL'];exact hp.1)]
  exact k2
theorem avc {ops ops':Array Oper} {σ:List Nat} {n:Nat} {Q:Exit->Act->World->Prop} (H:Perm ops ops' σ n):∀ (fuel:Nat) (L L':Array Bool) (a:Act) (w:World),L.size=n->L'.size=n->(∀ i,i < n->L'.getD (plc σ i) true=L.getD i true)->
  wpAny P .any ops' Q fuel L' a w->wpAny P .any ops Q fuel L a w:=by
 have nil:∀ (L L':Array Bool),L.size=n->L'.size=n->(∀ i,i < n->L'.getD (plc σ i) true=L.getD i true)->(Region.ready .any ops L=[]<->Region.ready .any ops' L'=[]):=by
  intro L L' h1 h2 h3
  have lt:∀ {ops:Array Oper} {L:Array Bool} {i:Nat},i ∈ Region.ready .any ops L->i < ops.size:=fun h=>by
   obtain ⟨_,o,ho,_⟩:=mem_ready.1 h
   exact (Array.getElem?_eq_some_iff.1 ho).1
  constructor
  ·intro h
   cases hr:Region.ready .any ops' L' with
   | nil=>rfl
   | cons k r=>
    have hk:k ∈ Region.ready .any ops' L':=by rw [hr];simp
    have hkn:=lt hk
    rw [H.s']at hkn
    obtain ⟨i,i1,i2,i3⟩:=H.g k hkn
    rw [← i3]at hk
    have:=(H.ready h1 h2 h3 i2).2 hk
    rw [h]at this;cases this
  ·intro h
   cases hr:Region.ready .any ops L with
   | nil=>rfl
   | cons i r=>
    have hi:i ∈ Region.ready .any ops L:=by rw [hr];simp
    have hin:=lt hi
    rw [H.s]at hin
    have:=(H.ready h1 h2 h3 hin).1 hi
    rw [h]at this;cases this
 intro fuel
 induction fuel with
 | zero=>
  intro L L' a w h1 h2 h3 h
  exact ⟨(nil L L' h1 h2 h3).2 h.1,h.2⟩
 | succ fuel ih=>
  intro L L' a w h1 h2 h3 h
  refine ⟨fun hn=>h.1 ((nil L L' h1 h2 h3).1 hn),fun i hi=>?_⟩
  obtain ⟨_,o,ho,_⟩:=mem_ready.1 hi
  have hin:=(Array.getElem?_eq_some_iff.1 ho).1
  rw [H.s]at hin
  have hk:=h.2 _ ((H.ready h1 h2 h3 hin).1 hi)
  obtain ⟨f1,f2⟩:=H.f i hin
  have ho':=H.op _ _ _ f2 ho
  have hg:=H.gd i o ho
  have e:∀ K:Act->World->Prop,wpOp P ops' Q (plc σ i) K a w->wpOp P ops Q i K a w:=by
   intro K hh
   unfold wpOp at hh ⊢
   rw [ho']at hh
   rw [ho]
   have g1:Region.wanted o (yielded ops a.tmps)=true:=by simp [Region.wanted,hg]
   have g2:Region.wanted (aa2 σ o) (yielded ops' a.tmps)=true:=by simp [Region.wanted,aa2,hg]
   simp only [g2,if_true]at hh
   simp only [g1,if_true]
   exact hh
  refine wpOp_mono (fun a' w' hh=>ih _ _ a' w' (by simpa using h1) (by simpa using h2) (fun j hj=>?_) hh) (e _ hk)
  by_cases hji:j=i
  ·subst hji
   simp [h1,h2,hin,f1]
  ·have hne:plc σ i ≠ plc σ j:=fun hh=>by
    have:=(H.f j hj).2
    rw [← hh,f2]at this
    cases this;exact hji rfl
   rw [getD_set_ne true hne,getD_set_ne true (Ne.symm hji)]
   exact h3 j hj
theorem ajm:∀ {l:List Oper},aqq l=true->∀ o ∈ l,o.guard=none
 | [],_,_,h=>by cases h
 | o::r,h,o',ho'=>by
  simp only [aqq,bc,Bool.and_eq_true]at h
  rcases List.mem_cons.1 ho' with e | e
  ·subst e
   have:=h.1
   cases hg:o'.guard with
   | none=>rfl
   | some g=>rw [hg]at this;cases this
  ·exact ajm h.2 o' e
theorem amm {α:Type}:∀ l:List α,len l=l.length
 | []=>rfl
 | _::r=>by rw [len,amm r];rfl
theorem bnc (b:Bool):nob b true=b:=by cases b <;> rfl
theorem bmf {m i:Nat} (h:i < m):(ab7 true m).getD i false=true:=by
 rw [axo,List.getD_eq_getElem?_getD,List.getElem?_replicate,if_pos h];rfl
theorem bb4 {l:List Oper} {m i:Nat} (h:i < m) (hf:tq l.length (g8 [] l) m i=true):(ba1 l m).getD i false=true:=by
 unfold ba1
 rw [List.getD_eq_getElem?_getD,List.getElem?_map,List.getElem?_range h]
 simp only [Option.map_some,Option.getD_some,amm]
 exact hf
theorem bco:∀ e:List Ev,ans [] e=true
 | []=>rfl
 | x::e=>by
  have h:ahe [] x=true:=by cases x <;> rfl
  simp only [ans,h,bco e,bc,Bool.and_self]
theorem aiq:∀ (ls:List (List Oper)) (fs:List Bool) (l:List Oper) (env:Env) (M:Mem),ad8 [] [] B Φ ls fs l env M=true
 | _,_,[],_,_=>rfl
 | ls,fs,o::r,env,M=>by
  have e:nilK []=true:=rfl
  simp only [ad8,e,bco,nx,Bool.true_or,Bool.or_true,bc,Bool.true_and]
  exact aiq _ _ r _ _
theorem bga (hΦ:m7 P Φ) (hB:TabOk P B) (hmix:P.follows .mixedOrders=true) {R R2:Bool} {Ds:List Bool} {ks as:List Nat} {id:Nat} {ops:Array Oper} {cut:Nat} (hco:l7 F.nt (gq R (toL ops))=true) (hfv:∀ o ∈ toL ops,∀ k,o.dst=some k->F.fv k=none) (hr:bh2 R R2 (toL ops) cut=true) (hR:R2=false->ks=[]) (hD:∀ i,i < cut->tq (gq R (toL ops)).length (g8 [] (gq R (toL ops))) cut i=true->Ds.getD i false=true) {K:Env->Mem->Prop} {Q:Exit->Act->World->Prop}
  (hQ:∀ p env M a w,St F p env M a w->K env M->Q .normal a w) {p:Ow} {env:Env} {M:Mem} {a:Act} {w:World} (h:St F p env M a w) (hn:w6 env=true)
  (hk:hx Ds ks as B Φ M (jx cut (gq R (toL ops))) env [] (fun env X=>bif nob (nogd env) (ad8 ks as B Φ (acw (gq R (toL ops)) cut) (abe (gq R (toL ops)) cut) (oh cut (gq R (toL ops))) env (ap X M))then twG B Φ (gq R (toL ops)) (oh cut (gq R (toL ops))) env (ap X M) K else False)):(Code.region id ops true).wp P Q a w:=by
 simp only [bh2,Bool.and_eq_true]at hr
 obtain ⟨h1,h2,h3,h4⟩:=hr
 simp only [avu,Bool.and_eq_true,List.all_eq_true,List.mem_range,amm]at h2
 obtain ⟨⟨p1,p2⟩,p3⟩:=h2
 have p1:=Nat.eq_of_beq_eq_true p1
 have hσ:gq R (toL ops)=zf (avw R (toL ops)) (toL ops) (avw R (toL ops)):=rfl
 generalize avw R (toL ops)=σ at *
 have hg:∀ k,k < (toL ops).length->∃ i,σ[k]? = some i/\i < (toL ops).length/\plc σ i=k:=fun k hk=>by
  have:=p3 k hk
  cases hs:ng σ k with
  | none=>rw [hs]at this;cases this
  | some i=>
   rw [hs]at this
   simp only [Bool.and_eq_true,Nat.blt_eq]at this
   rw [zm]at hs
   exact ⟨i,hs,this.1,Nat.eq_of_beq_eq_true this.2⟩
 have hmem:∀ k ∈ σ,k < (toL ops).length:=fun k hk=>by
  obtain ⟨j,hj,rfl⟩:=List.getElem_of_mem hk
  obtain ⟨i,i1,i2,_⟩:=hg j (by omega)
  rw [List.getElem?_eq_getElem hj]at i1
  cases i1
  exact i2
 obtain ⟨g1,g2⟩:=ary (σ:=σ) (l:=toL ops) hmem
 have hsz:(toL ops).length=ops.size:=by rw [ge];simp
 have H:Perm ops ⟨gq R (toL ops)⟩ σ ops.size:={
  s:=rfl
  s':=by show (gq R (toL ops)).length=ops.size;rw [hσ,g1,p1,hsz]
  f:=fun i hi=>by
   have:=p2 i (by rw [hsz];exact hi)
   simp only [Nat.blt_eq]at this
   refine ⟨by rw [← hsz];exact this.1,?_⟩
   have h5:=this.2
   rw [zm]at h5
   cases hs:σ[plc σ i]? with
   | none=>rw [hs]at h5;cases h5
   | some k=>rw [hs]at h5;rw [Nat.eq_of_beq_eq_true h5]
  g:=fun k hk=>by
   obtain ⟨i,i1,i2,i3⟩:=hg k (by rw [hsz];exact hk)
   exact ⟨i,i1,by rw [← hsz];exact i2,i3⟩
  op:=fun k i o hk ho=>by
   have:=g2 k i o hk (by rw [ge];simpa using ho)
   rw [← hσ]at this
   simpa using this
  gd:=fun i o ho=>ajm h3 o (by rw [ge,Array.mem_toList_iff];exact Array.mem_of_getElem? ho)
  bk:=fun i o ho e he hb=>by
   have:=ad9 (toL ops) 0 h1 i o (by rw [ge];simpa using ho) e he hb
   have hi:=(Array.getElem?_eq_some_iff.1 ho).1
   omega }
 refine wp_region_any hmix (avc H _ _ (Array.replicate ops.size false) a _ (by simp) (by simp) (fun i hi=>?_) ?_)
 ·have:=(H.f i hi).1
  simp [hi,this]
 ·have hz:(⟨gq R (toL ops)⟩:Array Oper).size=ops.size:=H.s'
  have:=bbw (F:=F) (ops:=⟨gq R (toL ops)⟩) (cut:=cut) (K:=K) (Q:=Q) (P:=P) hΦ hB (by exact hco) (fun o ho k hk=>by
   obtain ⟨o',q1,rfl⟩:=an0 (by rw [← hσ];exact ho)
   exact hfv o' q1 k hk) h4 hR (fun _=>hD) hQ h hn hk
  rw [hz]at this
  exact this
end
end Go.Bm
/- A drawn region where an allocation may come before an operation that writes,or behind it:both ways are walked. -/
namespace Go.Bm
open Go.RowKit
section
variable {P:Program} {B:Tab} {Φ:FuncId->Option Ct} {F:Fr}
theorem wn:∀ (j i:Nat) (l:List Oper),(rk j i l).length=l.length
 | _,_,[]=>by simp [rk]
 | 0,i,o::r=>rfl
 | j+1,i,o::r=>congrArg (·+1) (wn j i r)
theorem alp:∀ (j i:Nat) (l:List Oper) (k:Nat),k ≠ j->(rk j i l)[k]? = l[k]?
 | _,_,[],_,_=>by simp [rk]
 | 0,i,o::r,0,h=>absurd rfl h
 | 0,i,o::r,k+1,_=>rfl
 | j+1,i,o::r,0,_=>rfl
 | j+1,i,o::r,k+1,h=>by
  show (rk j i r)[k]? = r[k]?
  exact alp j i r k (fun e=>h (by rw [e]))
theorem awl:∀ (j i:Nat) (l:List Oper) (o:Oper),l[j]? = some o->(rk j i l)[j]? = some (am5 i o)
 | _,_,[],o,h=>by simp at h
 | 0,i,o::r,o',h=>by simp at h;subst h;rfl
 | j+1,i,o::r,o',h=>by
  show (rk j i r)[j]? = _
  exact awl j i r o' (by simpa using h)
structure AddE (ops ops':Array Oper) (j i:Nat):Prop where
 s:ops'.size=ops.size
 ne:∀ k,k ≠ j->ops'[k]? = ops[k]?
 at_:∀ o,ops[j]? = some o->ops'[j]? = some (am5 i o)
 gd:∀ (k:Nat) (o:Oper),ops[k]? = some o->o.guard=none
theorem AddE.of {l:List Oper} {j i:Nat} (hg:aqq l=true):AddE ⟨l⟩ ⟨rk j i l⟩ j i:={
 s:=wn j i l
 ne:=fun k hk=>by simpa using alp j i l k hk
 at_:=fun o ho=>by simpa using awl j i l o (by simpa using ho)
 gd:=fun k o ho=>ajm hg o (List.mem_of_getElem? (by simpa using ho)) }
theorem ahq {i:Nat} {o:Oper} {e:Edge}:e ∈ (am5 i o).after<->e ∈ o.after\/e=⟨i,.data⟩:=by
 unfold am5
 simp only [mr,ge,List.mem_toArray,List.mem_append,Array.mem_toList_iff,List.mem_singleton]
theorem AddE.op {ops ops':Array Oper} {j i:Nat} (H:AddE ops ops' j i) {Q:Exit->Act->World->Prop} {k:Nat} {K:Act->World->Prop} {a:Act} {w:World} (h:wpOp P ops' Q k K a w):wpOp P ops Q k K a w:=by
 unfold wpOp at h ⊢
 cases ho:ops[k]? with
 | none=>
  have h1:ops'[k]? = none:=by
   have:=Array.getElem?_eq_none_iff.1 ho
   rw [Array.getElem?_eq_none_iff,H.s];exact this
  rw [h1]at h;exact h
 | some o=>
  have hg:=H.gd k o ho
  have g1:∀ y,Region.wanted o y=true:=fun y=>by simp [Region.wanted,hg]
  by_cases e:k=j
  ·subst e
   rw [H.at_ o ho]at h
   have g2:∀ y,Region.wanted (am5 i o) y=true:=fun y=>by simp [Region.wanted,am5,hg]
   simp only [g2,if_true]at h
   simp only [g1,if_true]
   exact h
  ·rw [H.ne k e,ho]at h
   simp only [g1,if_true]at h ⊢
   exact h
theorem AddE.ready {ops ops':Array Oper} {j i:Nat} (H:AddE ops ops' j i) {L:Array Bool} {k:Nat} :
  k ∈ Region.ready .any ops' L<->k ∈ Region.ready .any ops L/\(k=j->L.getD i false=true):=by
 rw [mem_ready,mem_ready]
 by_cases e:k=j
 ·subst e
  constructor
  ·rintro ⟨h1,o',h2,h3⟩
   cases ho:ops[k]? with
   | none=>
    have:ops'[k]? = none:=by
     have:=Array.getElem?_eq_none_iff.1 ho
     rw [Array.getElem?_eq_none_iff,H.s];exact this
    rw [this]at h2;cases h2
   | some o=>
    rw [H.at_ o ho]at h2
    cases h2
    exact ⟨⟨h1,o,rfl,fun e he hb=>h3 e (ahq.2 (.inl he)) hb⟩,fun _=>h3 ⟨i,.data⟩ (ahq.2 (.inr rfl)) rfl⟩
  ·rintro ⟨⟨h1,o,h2,h3⟩,h4⟩
   refine ⟨h1,_,H.at_ o h2,fun e he hb=>?_⟩
   rcases ahq.1 he with he | he
   ·exact h3 e he hb
   ·subst he;exact h4 rfl
 ·rw [H.ne k e]
  exact ⟨fun h=>⟨h,fun h'=>absurd h' e⟩,fun h=>h.1⟩
theorem bci {ops ops':Array Oper} {j i:Nat} (H:AddE ops ops' j i) {Q:Exit->Act->World->Prop}:∀ (fuel:Nat) (L:Array Bool) (a:Act) (w:World),L.getD i false=true->wpAny P .any ops' Q fuel L a w->wpAny P .any ops Q fuel L a w:=by
 have nil:∀ {L:Array Bool},L.getD i false=true->(Region.ready .any ops L=[]<->Region.ready .any ops' L=[]):=fun {L} hL=>by
  rw [List.eq_nil_iff_forall_not_mem,List.eq_nil_iff_forall_not_mem]
  exact ⟨fun h k hk=>h k (H.ready.1 hk).1,fun h k hk=>h k (H.ready.2 ⟨hk,fun _=>hL⟩)⟩
 intro fuel
 induction fuel with
 | zero=>exact fun L a w hL h=>⟨(nil hL).2 h.1,h.2⟩
 | succ fuel ih=>
  intro L a w hL h
  refine ⟨fun hn=>h.1 ((nil hL).1 hn),fun k hk=>?_⟩
  exact wpOp_mono (fun a' w' hh=>ih _ a' w' (getD_set_true hL) hh) (H.op (h.2 k (H.ready.2 ⟨hk,fun _=>hL⟩)))
theorem bgd {M0:Mem} {o o':Oper} (e1:o'.op=o.op) (e2:o'.dst=o.dst) {D D':Bool} {ks as ks' as':List Nat} {E E1 E1':Env} {N N' X X1 X1':Mem} {d d':Nat} {v v':V} {vc vc':List Prop} {ev ev':List Ev}
  (h:Hst D ks as B Φ M0 o E E1 N X X1 d v vc ev) (h':Hst D' ks' as' B Φ M0 o' E E1' N' X X1' d' v' vc' ev'):E1=E1'/\X1=X1'/\N=N':=by
 obtain ⟨n,r1,r2⟩:=h.r
 obtain ⟨n',r1',r2'⟩:=h'.r
 have hr:evR B Φ o' E (ap X M0)=evR B Φ o E (ap X M0):=by
  cases o;cases o';cases e1;cases e2;rfl
 rw [hr,r1]at r1'
 cases r1'
 have hd:=h.dst
 have hd':=h'.dst
 rw [e2,hd]at hd'
 cases hd'
 subst r2;subst r2'
 exact ⟨h.he.trans h'.he.symm,h.x.trans h'.x.symm,rfl⟩
theorem bn8 (hΦ:m7 P Φ) (hB:TabOk P B) {ops A opsB Bp:Array Oper} {i j:Nat} {σ:List Nat} {E X N E' X' N':Nat->_} {M0:Mem} (HA:AddE ops A j i) (HB:AddE ops opsB i j) (HP:Perm opsB Bp σ ops.size) (hij:i < j) (hj:j < ops.size) (hsm:∀ k,k < i->plc σ k=k)
  (hb:ww 0 ops.toList=true)
  (CA:Hctx false false [] [] [] B Φ A i E X N M0) (CB:Hctx false false [] [] [] B Φ Bp (i+1) E' X' N' M0) (hE:∀ k,k<=i->E k=E' k) (hN:∀ k,k < i->N k=N' k)
  (Q:Exit->Act->World->Prop) (K:Env->Mem->Prop) (hQ:∀ p env M a w,St F p env M a w->K env M->Q .normal a w)
  (coA:l7 F.nt A.toList=true) (fvA:∀ o ∈ A.toList,∀ k,o.dst=some k->F.fv k=none) (coB:l7 F.nt Bp.toList=true) (fvB:∀ o ∈ Bp.toList,∀ k,o.dst=some k->F.fv k=none)
  (lA:tw B Φ (toL A) (A.toList.drop i) (E i) (ap (X i) M0) K) (lB:tw B Φ (toL Bp) (Bp.toList.drop (i+1)) (E' (i+1)) (ap (X' (i+1)) M0) K) :
  ∀ (fuel:Nat) (L:Array Bool) (p:Ow) (env:Env) (M:Mem) (a:Act) (w:World),L.size=A.size->(∀ k,k < A.size->isL L k->k < i)->unl L A.size<=fuel->ac5 A L->Hsta A i E N M0 L env M->St F p env M a w->wpAny P .any ops Q fuel L a w:=by
 have sA:=HA.s
 have sB:=HP.s'
 have ltA:∀ {L:Array Bool},L.size=A.size->(∀ k,k < A.size->isL L k->k < i)->∀ k,isL L k->k < i:=fun {L} hs hl k hk=>by
  rcases Nat.lt_or_ge k A.size with h | h
  ·exact hl k h hk
  ·unfold isL at hk
   rw [Array.getD_eq_getD_getElem?,Array.getElem?_eq_none (by omega)]at hk
   cases hk
 have small:∀ k,k < i->∀ o,A[k]? = some o->Bp[k]? = some (aa2 σ o):=fun k hk o ho=>by
  have h1:opsB[k]? = some o:=by rw [HB.ne k (by omega),← HA.ne k (by omega)];exact ho
  have h2:=(HP.f k (by omega)).2
  rw [hsm k hk]at h2
  exact HP.op k k o h2 h1
 have small2:∀ k,k < i->∀ o',Bp[k]? = some o'->∃ o,A[k]? = some o/\o'=aa2 σ o:=fun k hk o' ho'=>by
  obtain ⟨o,ho⟩:∃ o,A[k]? = some o:=⟨_,Array.getElem?_eq_getElem (by omega)⟩
  have:=small k hk o ho
  rw [this]at ho'
  cases ho'
  exact ⟨o,ho,rfl⟩
 intro fuel
 induction fuel with
 | zero=>
  intro L p env M a w hs hl hu hdn S hst
  have:=ltA hs hl i (ac7 (Nat.le_zero.1 hu) i (by omega))
  omega
 | succ fuel ih=>
  intro L p env M a w hs hl hu hdn S hst
  have hlt:=ltA hs hl
  have hfalse:∀ k,i<=k->L.getD k false=false:=fun k hk=>by
   cases h:L.getD k false with
   | false=>rfl
   | true=>have:=hlt k h;omega
  refine ⟨fun hr=>?_,fun k hk=>?_⟩
  ·have:=hlt i (abi (by rw [hs,sA]) hb hr i (by omega))
   omega
  obtain ⟨o,h1,h2,h3⟩:=pu hk
  have hks:=(Array.getElem?_eq_some_iff.1 h1).1
  have hnl:¬ isL L k:=by
   unfold isL;simp [hs,sA,hks]at h2 ⊢;exact h2
  by_cases ekj:k=j
  ·-- the allocation comes first
   subst ekj
   have S2:Hsta Bp (i+1) E' N' M0 L env M:={
    a:=fun t ht=>by
     rw [← hE 0 (by omega)]
     exact S.a t fun q o' hq hl'=>fun hd=>ht q (aa2 σ o') (small q (hlt q hl') o' hq) hl' hd
    b:=fun q o' t hq hl' hd=>by
     obtain ⟨o0,g1,rfl⟩:=small2 q (hlt q hl') o' hq
     rw [← hE (q+1) (by have:=hlt q hl';omega)]
     exact S.b q o0 t g1 hl' hd
    c:=fun t ht=>S.c t fun q hq hl'=>by rw [hN q (hlt q hl')];exact ht q (by omega) hl'
    d:=fun q t hq hl' ht=>by
     rw [← hN q (hlt q hl')]at ht ⊢
     exact S.d q t (by omega) hl' ht }
   have hdB:ac5 Bp L:=fun q o' hq hl' e he hb'=>by
    have hqi:=hlt q hl'
    obtain ⟨o0,g1,rfl⟩:=small2 q hqi o' hq
    obtain ⟨e',k1,rfl⟩:=ape.1 he
    have k2:=hdn q o0 g1 hl' e' k1 hb'
    show isL L (plc σ e'.on)
    rw [hsm _ (hlt _ k2)]
    exact k2
   have hany:=CB.any hΦ hB Q K hQ coB fvB lB (aiq _ _ _ _ _) (fuel+1) L p env M a w (by omega) (fun q hq hl'=>by have:=hlt q hl';omega) (by rw [sB,← sA];exact hu) hdB S2 hst
   have hbk:=avc HP (fuel+1) L L a w (by omega) (by omega) (fun q hq=>?_) hany
   ·have hkB:k ∈ Region.ready .any opsB L:=HB.ready.2 ⟨hk,fun e=>by omega⟩
    exact wpOp_mono (fun a' w' hh=>bci HB fuel _ a' w' (by simp [hs,sA,hks]) hh) (HB.op (hbk.2 k hkB))
   ·by_cases hqi:q < i
    ·rw [hsm q hqi]
    ·have hp:=HP.f q hq
     have hpi:i<=plc σ q:=by
      rcases Nat.lt_or_ge (plc σ q) i with h | h
      ·have h5:=(HP.f (plc σ q) (by omega)).2
       rw [hsm _ h]at h5
       rw [hp.2]at h5
       have:=Option.some.inj h5
       omega
      ·exact h
     rw [ae0 (by omega),ae0 (by omega),hfalse _ hpi,hfalse q (by omega)]
  by_cases eki:k=i
  ·subst eki
   have hany:=CA.any hΦ hB Q K hQ coA fvA lA (aiq _ _ _ _ _) (fuel+1) L p env M a w hs hl hu hdn S hst
   have hkA:k ∈ Region.ready .any A L:=HA.ready.2 ⟨hk,fun e=>absurd e ekj⟩
   exact wpOp_mono (fun a' w' hh=>bci HA fuel _ a' w' (by simp [hs,sA,hks]) hh) (HA.op (hany.2 k hkA))
  have hkA:k ∈ Region.ready .any A L:=HA.ready.2 ⟨hk,fun e=>absurd e ekj⟩
  have hoA:A[k]? = some o:=by rw [HA.ne k ekj];exact h1
  have hki:k < i:=by
   rcases Nat.lt_or_ge k i with h | h
   ·exact h
   ·have hf:=(ajq CA.ht (m:=i) h hoA).2 i (by omega)
    rcases hf with hf | ⟨hf,_⟩
    ·have:=hlt i (jk hdn CA.hb k o hoA h3 i hf)
     omega
    ·omega
  have hmem:o ∈ A.toList:=by rw [Array.mem_toList_iff];exact Array.mem_of_getElem? hoA
  refine HA.op (wpOp_mono (fun a' w' ⟨p',env',M',e1,e2⟩=>ih _ p' env' M' a' w' (by simpa using hs) (fun q hq hlq=>?_) ?_ (hdn.set hkA) e2 e1) (ahv hΦ hB hst (CA.step hs hl hdn S hst hoA hki hnl h3) (t7 coA hmem) (fvA o hmem) hoA Q))
  ·rcases (ale (by rw [hs,sA];exact hks)).1 hlq with h | h
   ·omega
   ·exact hl q hq h
  ·have:=aeq (by rw [hs,sA];exact hks) hnl A.size (by rw [sA];exact hks)
   omega
theorem bkj {l:List Oper} {m:Nat} {env:Env} {M:Mem} {K:Env->Mem->Prop} (hr:akq false false l m=true) (h:hxT B Φ l m env M K):∃ (E:Nat->Env) (X N:Nat->Mem),E 0=env/\X 0=[]/\Hctx false false [] [] [] B Φ ⟨l⟩ m E X N M/\tw B Φ (toL (⟨l⟩:Array Oper)) ((⟨l⟩:Array Oper).toList.drop m) (E m) (ap (X m) M) K:=by
 unfold hxT at h
 cases hn:w6 env with
 | false=>rw [hn]at h;exact h.elim
 | true=>
 rw [hn]at h
 simp only [cond_true]at h
 rw [aiz]at h
 simp only [akq,Bool.and_eq_true]at hr
 obtain ⟨h1,h2,h3,h5,h4⟩:=hr
 obtain ⟨E,X,N,e0,x0,e1,e2⟩:=asm _ _ _ _ _ h
 have hm:m<=l.length:=Nat.le_of_ble_eq_true h2
 rw [List.length_take,Nat.min_eq_left hm]at e2
 cases hng:nogd (E m)with
 | false=>rw [hng]at e2;exact e2.elim
 | true=>
 rw [hng]at e2
 simp only [cond_true]at e2
 replace e2:=ah5 (B:=B) (Φ:=Φ) _ _ _ (ah7 hng) e2
 rw [aoc]at e2
 refine ⟨E,X,N,e0,x0,{
  hR:=fun _=>rfl
  hD:=fun h=>by cases h
  hb:=h1
  hm:=hm
  ht:=by simpa using h3
  hf:=by simpa using h5
  hdr:=by simpa using h4
  hE:=fun j o ho hj=>e1 j o (by rw [List.getElem?_take_of_lt hj];simpa using ho)
  hX:=x0
  h0:=fun t=>by rw [e0];exact ati hn },e2⟩
theorem bpo (hΦ:m7 P Φ) (hB:TabOk P B) (hmix:P.follows .mixedOrders=true) {id:Nat} {ops:Array Oper} (hfv:∀ o ∈ toL ops,∀ k,o.dst=some k->F.fv k=none) (hr:bhj F.nt (toL ops)=true) {K:Env->Mem->Prop} {Q:Exit->Act->World->Prop}
  (hQ:∀ p env M a w,St F p env M a w->K env M->Q .normal a w) {p:Ow} {env:Env} {M:Mem} {a:Act} {w:World} (h:St F p env M a w)
  (hA:hxT B Φ (ax2 (toL ops)) (ab2 0 (toL ops)) env M K) (hB':hxT B Φ (bbb (toL ops)) (Nat.succ (ab2 0 (toL ops))) env M K):(Code.region id ops true).wp P Q a w:=by
 obtain ⟨l⟩:=ops
 simp only [toL]at hfv hr hA hB'
 simp only [bhj,bc,Bool.and_eq_true,Nat.blt_eq]at hr
 obtain ⟨r1,r2,r3,r4,r5,r6,r7,r8,r9,r10⟩:=hr
 obtain ⟨E,X,N,e0,x0,CA,lA⟩:=bkj r9 hA
 obtain ⟨E',X',N',e0',x0',CB,lB⟩:=bkj r10 hB'
 have hAl:(ax2 l).length=l.length:=wn _ _ _
 unfold ax2 at *
 unfold bbb at *
 generalize ab2 0 l=i at *
 generalize akr 0 l=j at *
 have HA:AddE (⟨l⟩:Array Oper) ⟨rk j i l⟩ j i:=AddE.of r1
 have HB:AddE (⟨l⟩:Array Oper) ⟨rk i j l⟩ i j:=AddE.of r1
 simp only [avu,Bool.and_eq_true,List.all_eq_true,List.mem_range,amm]at r5
 simp only [bkw,List.all_eq_true,List.mem_range]at r6
 simp only [amm]at r6 r8 r10 CB lB
 generalize mvS i j l.length=σ at *
 obtain ⟨⟨p1,p2⟩,p3⟩:=r5
 have p1:=Nat.eq_of_beq_eq_true p1
 have hg:∀ k,k < l.length->∃ i,σ[k]? = some i/\i < l.length/\plc σ i=k:=fun k hk=>by
  have:=p3 k hk
  cases hs:ng σ k with
  | none=>rw [hs]at this;cases this
  | some i=>
   rw [hs]at this
   simp only [Bool.and_eq_true,Nat.blt_eq]at this
   rw [zm]at hs
   exact ⟨i,hs,this.1,Nat.eq_of_beq_eq_true this.2⟩
 have hmem:∀ k ∈ σ,k < (rk i j l).length:=fun k hk=>by
  rw [wn]
  obtain ⟨q,hq,rfl⟩:=List.getElem_of_mem hk
  obtain ⟨i,i1,i2,_⟩:=hg q (by omega)
  rw [List.getElem?_eq_getElem hq]at i1
  cases i1
  exact i2
 obtain ⟨g1,g2⟩:=ary (σ:=σ) (l:=rk i j l) hmem
 have HP:Perm (⟨rk i j l⟩:Array Oper) ⟨zf σ (rk i j l) σ⟩ σ (⟨l⟩:Array Oper).size:={
  s:=wn i j l
  s':=by show (zf σ (rk i j l) σ).length=l.length;rw [g1,p1]
  f:=fun q hq=>by
   have:=p2 q hq
   simp only [Nat.blt_eq]at this
   refine ⟨this.1,?_⟩
   have h5:=this.2
   rw [zm]at h5
   cases hs:σ[plc σ q]? with
   | none=>rw [hs]at h5;cases h5
   | some k=>rw [hs]at h5;rw [Nat.eq_of_beq_eq_true h5]
  g:=fun k hk=>by
   obtain ⟨q,i1,i2,i3⟩:=hg k hk
   exact ⟨q,i1,i2,i3⟩
  op:=fun k q o hk ho=>by
   have:=g2 k q o hk (by simpa using ho)
   simpa using this
  gd:=fun q o ho=>by
   by_cases e:q=i
   ·subst e
    obtain ⟨o0,h0⟩:∃ o0,l[q]? = some o0:=⟨_,List.getElem?_eq_getElem (by omega)⟩
    have h1:=HB.at_ o0 (by simpa using h0)
    rw [h1]at ho
    cases ho
    exact ajm r1 o0 (List.mem_of_getElem? h0)
   ·rw [HB.ne q e]at ho
    exact HB.gd q o ho
  bk:=fun q o ho e he hb=>by
   have key:∀ (o0:Oper),l[q]? = some o0->e ∈ o0.after->e.on < l.length:=fun o0 h0 h1=>by
    have:=ad9 l 0 r4 q o0 h0 e h1 hb
    have hq:=(List.getElem?_eq_some_iff.1 h0).1
    omega
   by_cases e1:q=i
   ·subst e1
    obtain ⟨o0,h0⟩:∃ o0,l[q]? = some o0:=⟨_,List.getElem?_eq_getElem (by omega)⟩
    have h1:=HB.at_ o0 (by simpa using h0)
    rw [h1]at ho
    cases ho
    rcases ahq.1 he with he | he
    ·exact key o0 h0 he
    ·subst he;exact r3
   ·rw [HB.ne q e1]at ho
    exact key o (by simpa using ho) he }
 have small:∀ k,k < i->∀ o,(rk j i l)[k]? = some o->(zf σ (rk i j l) σ)[k]? = some (aa2 σ o):=fun k hk o ho=>by
  have h1:(rk i j l)[k]? = some o:=by rw [alp i j l k (by omega),← alp j i l k (by omega)];exact ho
  have h2:=(HP.f k (by show k < l.length;omega)).2
  rw [Nat.eq_of_beq_eq_true (r6 k hk)]at h2
  exact g2 k k o h2 h1
 have hsame:∀ k,k<=i->E k=E' k/\X k=X' k:=by
  intro k
  induction k with
  | zero=>exact fun _=>⟨e0.trans e0'.symm,x0.trans x0'.symm⟩
  | succ k ih=>
   intro hk
   obtain ⟨q1,q2⟩:=ih (by omega)
   obtain ⟨o,ho⟩:∃ o,(rk j i l)[k]? = some o:=⟨_,List.getElem?_eq_getElem (by rw [wn];omega)⟩
   obtain ⟨d,v,vc,ev,H1⟩:=CA.hE k o (by simpa using ho) (by omega)
   obtain ⟨d',v',vc',ev',H2⟩:=CB.hE k (aa2 σ o) (by simpa using small k (by omega) o ho) (by omega)
   rw [← q1,← q2]at H2
   obtain ⟨g1,g2,_⟩:=bgd (o:=o) (o':=aa2 σ o) rfl rfl H1 H2
   exact ⟨g1,g2⟩
 have hN:∀ k,k < i->N k=N' k:=fun k hk=>by
  obtain ⟨q1,q2⟩:=hsame k (by omega)
  obtain ⟨o,ho⟩:∃ o,(rk j i l)[k]? = some o:=⟨_,List.getElem?_eq_getElem (by rw [wn];omega)⟩
  obtain ⟨d,v,vc,ev,H1⟩:=CA.hE k o (by simpa using ho) (by omega)
  obtain ⟨d',v',vc',ev',H2⟩:=CB.hE k (aa2 σ o) (by simpa using small k (by omega) o ho) (by omega)
  rw [← q1,← q2]at H2
  exact (bgd (o:=o) (o':=aa2 σ o) rfl rfl H1 H2).2.2
 have fvE:∀ (j i:Nat) (o:Oper),o ∈ rk j i l->∀ k,o.dst=some k->F.fv k=none:=fun j i o ho k hk=>by
  obtain ⟨q,hq⟩:=List.getElem?_of_mem ho
  by_cases e:q=j
  ·subst e
   have hql:=(List.getElem?_eq_some_iff.1 hq).1
   rw [wn]at hql
   have h1:=awl q i l _ (List.getElem?_eq_getElem hql)
   rw [h1]at hq
   cases hq
   exact hfv _ (List.getElem_mem hql) k hk
  ·rw [alp j i l q e]at hq
   exact hfv o (List.mem_of_getElem? hq) k hk
 refine wp_region_any hmix (bn8 hΦ hB HA HB HP r2 r3 (fun k hk=>Nat.eq_of_beq_eq_true (r6 k hk)) r4 CA CB (fun k hk=>(hsame k hk).1) hN Q K hQ r7 (fun o ho k hk=>fvE _ _ o ho k hk) r8 (fun o ho k hk=>?_) lA lB _ _ p env M a _ ?_ (fun k _ hi=>absurd hi xw) ?_ (fun k o _ hi=>absurd hi xw)
  ⟨fun t _=>by rw [e0],fun q o t _ hi=>absurd hi xw,fun k _=>rfl,fun q k _ hi=>absurd hi xw⟩ h.drew)
 ·obtain ⟨o',q1,rfl⟩:=an0 ho
  exact fvE _ _ o' q1 k hk
 ·show (Array.replicate l.length false).size=(rk j i l).length
  rw [wn];simp
 ·show unl _ (rk j i l).length<=l.length
  rw [wn];exact au0 _ _
end
end Go.Bm
