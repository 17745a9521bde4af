/- The typed machine that the walks of this claim go by: its data, its operations and the proof that each is sound. No condition. -/
import Derived.Test.YtgcfmnhbleipdaaGreatDoorBmThree
set_option linter.unusedVariables false
set_option linter.unusedSimpArgs false
set_option linter.unusedSectionVars false
/- The du machine:the state is read back. -/
namespace Go.Bm
open Go.RowKit
abbrev a18:=@Bool.or_eq_false_iff
abbrev a2d:=@Bool.not_eq_false'
abbrev a35:=@Bool.or_true
abbrev a2s:=@Code.wp_mono
abbrev a3k:=@Decidable.byContradiction
abbrev a3l:=@List.getD_cons_zero
section
variable {F:Fr} {p p' p'':Ow} {env:Env} {M M' M'':Mem} {a:Act} {w w' w'':World}
theorem Tr.mv(h:Hp F p M w){j k:Nat}{ob:Ob}(hj:go M j=some ob)(hk:go M k=none)(hg:j<gid) :
  Tr F p M w [.mv j k] ⟨fun i=>if i=k then p.β j else p.β i,fun i=>if i=k then p.σ j else p.σ i,p.L⟩ ((k,ob)::del j M) w:=by
 generalize hp':(⟨fun i=>if i=k then p.β j else p.β i,fun i=>if i=k then p.σ j else p.σ i,p.L⟩:Ow)=p';have hjk:j≠k:=by rintro rfl;rw[hj]at hk;cases hk
 have hβk:p'.β k=p.β j:=by rw[←hp'];simp
 have hσk:p'.σ k=p.σ j:=by rw[←hp'];simp
 have hβ:∀i,i≠k->p'.β i=p.β i:=fun i hi=>by rw[←hp'];simp[hi]
 have hσ:∀i,i≠k->p'.σ i=p.σ i:=fun i hi=>by rw[←hp'];simp[hi]
 have hL:p'.L=p.L:=by rw[←hp']
 have hgk:go ((k,ob)::Bm.del j M) k=some ob:=kg _ _ _;have hgi:∀i,i≠k->i≠j->go ((k,ob)::Bm.del j M) i=go M i:=fun i h1 h2=>by rw[dh,ds (a0v h1),dn h2]
 have hgj:go ((k,ob)::Bm.del j M) j=none:=by rw[dh,ds (a0v hjk),cz]
 have hlive:∀i,ck ((k,ob)::Bm.del j M) i->i=k\/(i≠k/\i≠j/\ck M i):=fun i hi=>by
  by_cases e:i=k
  ·exact .inl e
  ·by_cases e':i=j
   ·subst e';unfold ck at hi;rw[hgj]at hi;cases hi
   ·refine .inr ⟨e,e',?_⟩;unfold ck at hi⊢;rwa [hgi i e e']at hi
 have hlj:=bw hj
 have hkeep:gl (Imm F p M w) (Imm F p' ((k,ob)::Bm.del j M) w) w w:=fun b hb=>by
  refine⟨⟨hb.1,hb.2.1,by rw[hL];exact hb.2.2.1,fun i hi=>?_⟩,rfl⟩;rcases hlive i hi with rfl|⟨h1,h2,h3⟩
  ·rw[hσk];exact hb.2.2.2 j hlj
  ·rw[hσ i h1];exact hb.2.2.2 i h3
 have hne:∀i,ck M i->i≠k:=fun i hi e=>by subst e;unfold ck at hi;rw[hk]at hi;cases hi
 refine Tr.one _ hkeep (fun i π vs r=>?_) (fun i π v r=>?_) ⟨fun i o hi=>?_,fun i i' b hne' hi hi' hb=>?_,fun i b hi hb=>?_,fun b hb=>?_,h.os,h.tape,h.output,h.size,h.old⟩
 ·simp only[Ev.ref,cq];have hik:i≠k:=by obtain⟨o,_,h1,_⟩:=r;exact hne i (bw h1)
  split
  ·rename_i e;subst e;simp only[aa];obtain⟨o,pl,h1,h2,h3,h4⟩:=r;rw[hj]at h1;cases h1;exact⟨ob,pl,hgk,h2,h3,by rw[hβk];exact h4⟩
  ·rename_i e;simp only[aa];exact r.same h (hgi i hik e) (hβ i hik) (fun _ _ _=>rfl)
 ·simp only[Ev.ad,cq];have hik:i≠k:=by obtain⟨o,_,_,_,h1,_⟩:=r;exact hne i (bw h1)
  split
  ·rename_i e;subst e;simp only[aa];obtain⟨o,us,b,off,h1,h2,h3,h4,h5,h6⟩:=r;rw[hj]at h1;cases h1;exact⟨v,rfl,ob,us,b,off,hgk,h2,h3,h4,by rw[hβk];exact h5,h6⟩
  ·rename_i e;simp only[aa];exact⟨v,rfl,r.same h (hgi i hik e) (hβ i hik) (fun _ _ _=>rfl)⟩
 ·rcases hlive i (bw hi)with rfl|⟨h1,h2,h3⟩
  ·rw[hgk]at hi;cases hi;rw[hβk,hσk];exact Rel.keep hkeep _ _ _ _ (fun _ _=>rfl) (h.objs j ob hj)
  ·rw[hgi i h1 h2]at hi;rw[hβ i h1,hσ i h1];exact Rel.keep hkeep _ _ _ _ (fun _ _=>rfl) (h.objs i o hi)
 ·rcases hlive i hi with e|⟨h1,h2,h3⟩
  ·rcases hlive i' hi' with e'|⟨h1',h2',h3'⟩
   ·exact absurd (e.trans e'.symm) hne'
   ·rw[e,hσk]at hb;rw[hσ i' h1'];exact h.sep j i' b (a0v h2') hlj h3' hb
  ·rw[hσ i h1]at hb;rcases hlive i' hi' with e'|⟨h1',h2',h3'⟩
   ·rw[e',hσk];exact h.sep i j b h2 h3 hlj hb
   ·rw[hσ i' h1'];exact h.sep i i' b hne' h3 h3' hb
 ·rcases hlive i hi with e|⟨h1,h2,h3⟩
  ·rw[e,hσk]at hb;obtain⟨o1,o2⟩:=h.own j b hlj hb;exact⟨o1,o2.elim (fun h=>by have:=h.1;omega) .inr⟩
  ·rw[hσ i h1]at hb;exact h.own i b h3 hb
 ·rw[hL]at hb;obtain⟨l1,l2,l3⟩:=h.lim b hb;refine⟨l1,l2,fun i hi=>?_⟩;rcases hlive i hi with e|⟨h1,h2,h3⟩
  ·rw[e,hσk];exact l3 j hlj
  ·rw[hσ i h1];exact l3 i h3
theorem St.desc(h:St F p env M a w)(t:Nat)(x:V)(hx:af p.β M (Imm F p M w) w x (a.tmps.getD t undef)):St F p ((t,x)::env) M a w:=by
 refine⟨h.defers,h.nt,h.fix,h.ik,h.lz,fun t'=>?_,h.hp⟩;rw[jt];by_cases e:t=t'
 ·subst e;rw[d0 rfl];exact hx
 ·rw[ds e];exact h.slots t'
theorem nf(os:Obs):(ss:Shs)->(p:Ow)->(env:Env)->(M:Mem)->St F p env M a w->∃p',St F p' (qf os ss env M).1 (qf os ss env M).2 a w
 |[],p,env,M,h=>⟨p,h⟩
 |(t,.d _)::r,p,env,M,h=>by simp only[qf];exact nf os r p env M h
 |(t,.ad _ _)::r,p,env,M,h=>by simp only[qf];exact nf os r p env M h
 |(t,.fn _)::r,p,env,M,h=>by simp only[qf];exact nf os r p env M h
 |(t,.bx _)::r,p,env,M,h=>by simp only[qf];exact nf os r p env M h
 |(t,.fc _ _)::r,p,env,M,h=>by simp only[qf];exact nf os r p env M h
 |(t,.pr _ _)::r,p,env,M,h=>by simp only[qf];exact nf os r p env M h
 |(t,.u)::r,p,env,M,h=>by simp only[qf];exact nf os r p env M h
 |(t,.ref _ (_::_))::r,p,env,M,h=>by simp only[qf];exact nf os r p env M h
 |(t,.ref k [])::r,p,env,M,h=>by
  simp only[qf];split
  ·rename_i o hnl _;have hs:=h.slots t;rw[hnl]at hs;simp only[af,aa,a0h,a0c]at hs;have h1:St F p (evE (.kl k) env) (del k M) a w:=h.tr (Tr.kl h.hp k) h.lz;obtain⟨oa,hs⟩:=hs;have h2:=Tr.new h1.hp k (cz k M) (.slice oa 0 0) (fun _=>False) ⟨.sl o,[]⟩ ⟨rfl,⟨rfl,a0f _⟩,rfl,a0f _,fun _ _ _=>rfl⟩ (fun b hb=>hb.elim) (fun _=>ai2 o oa);have h3:St F _ (evE (.kl k) env) ((k,⟨.sl o,[]⟩)::del k M) a w:=h1.tr h2 (fun b hb=>hb);refine nf os r _ _ _ (h3.desc t (.ref k []) ?_);simp only[af,aa];refine⟨⟨.sl o,[]⟩,none,kg _ _ _,by simp only[gok],⟨⟨.sl o,[]⟩,by simp only[get]⟩,?_⟩;rw[x4,hs];simp only[res]
  ·rename_i j x
   cases hb:orb (Nat.beq j k) (neg (Nat.ble (Nat.succ j) gid))with
   |true=>simp only[a0b];exact nf os r p env M h
   |false=>
    simp only[a0g];simp only[lu,jq,a18,a2d]at hb;split
    ·rename_i ob hj;have hjk:j≠k:=by rintro rfl;simp at hb
     have h1:St F p (evE (.kl k) env) (del k M) a w:=h.tr (Tr.kl h.hp k) h.lz;have h2:=Tr.mv h1.hp (j:=j) (k:=k) (ob:=ob) (by rw[dn hjk];exact hj) (cz k M) (a17 hb.2);have h3:St F _ (evE (.mv j k) (evE (.kl k) env)) ((k,ob)::del j (del k M)) a w:=h1.tr h2 h1.lz;exact nf os r _ _ _ h3
    ·exact nf os r p env M h
  ·exact nf os r p env M h
theorem acj:(os:Obs)->(p:Ow)->(env:Env)->(M:Mem)->St F p env M a w->∃p',St F p' (adc os env M).1 (adc os env M).2 a w
 |[],p,env,M,h=>⟨p,h⟩
 |(k,o)::r,p,env,M,h=>by
  unfold adc;split
  ·exact⟨p,h⟩
  ·rename_i k' e r' heq;cases heq;split
   ·rename_i e' l hg;split
    ·rename_i l' hl';have hq:=vr hl';simp only[Ob.mk.injEq,O.sl.injEq]at hq;obtain⟨rfl,hq⟩:=hq;cases hq;have t1:=Tr.relab (ob':=⟨.sl (.op e'),zv l⟩) h.hp hg (fun ρ=>by cases ρ with|nil=>rfl|cons s _=>cases s <;> rfl) (fun Im r=>bb3 r);exact acj r _ _ _ (h.tr t1 h.lz)
    ·exact acj r _ _ _ h
   ·exact acj r _ _ _ h
  ·rename_i heq;cases heq;exact acj r _ _ _ h
theorem sy(os:Obs):(ks:List Nat)->(M:Mem)->(env:Env)->St F p env M a w->St F p (pb os ks M env).1 (pb os ks M env).2 a w
 |[],M,env,h=>h
 |k::r,M,env,h=>by
  simp only[pb]
  cases inO k os with
  |true=>simp only[a0b];exact sy os r M env h
  |false=>
   simp only[a0g];split
   ·rename_i ob hk;have h1:St F p (evE (.fz k ob) env) (del k M) a w:=h.tr (Tr.frz h.hp k ob hk) h.lz;exact sy os r _ _ h1
   ·exact sy os r M env h
theorem am2(M:Mem):(os:Obs)->(x:q6 os)->vm M os=some x->∀k ob,go (kj os x) k=some ob->oOf k os=some ob.o/\∃q,go M k=some q/\wkO q ob.o=some ob.x
 |[],x,h,k,ob,hk=>by simp[kj,go]at hk
 |(j,o)::r,x,h,k,ob,hk=>by
  simp only[vm]at h;split at h
  ·rename_i q hq;split at h
   ·rename_i y z hy hz;cases h;simp only[kj]at hk;rw[dh]at hk;simp only[oOf,cq];by_cases e:j=k
    ·subst e;rw[d0 rfl]at hk⊢;cases hk;exact⟨rfl,q,hq,hy⟩
    ·rw[ds e]at hk⊢;exact am2 M r z hz k ob hk
   ·cases h
  ·cases h
theorem ahl(M:Mem):(os:Obs)->(x:q6 os)->vm M os=some x->∀k o,oOf k os=some o->∃y,go (kj os x) k=some ⟨o,y⟩
 |[],x,h,k,o,hk=>by simp[oOf]at hk
 |(j,o')::r,x,h,k,o,hk=>by
  simp only[vm]at h;split at h
  ·rename_i q hq;split at h
   ·rename_i y z hy hz;cases h;simp only[oOf,cq]at hk;simp only[kj];rw[dh];by_cases e:j=k
    ·subst e;rw[d0 rfl]at hk⊢;cases hk;exact⟨y,rfl⟩
    ·rw[ds e]at hk⊢;exact ahl M r z hz k o hk
   ·cases h
  ·cases h
theorem z6{q:Ob}{o:O}{x:o.strip.den}(h:wkO q o=some x):q.o.wk o=true/\n5 o.strip q.x=some x:=by
 unfold wkO at h
 cases hw:q.o.wk o with
 |false=>rw[hw]at h;cases h
 |true=>rw[hw]at h;exact⟨rfl,h⟩
theorem bm7(h:Hp F p M w)(hL:∀b,¬p.L b)(os:Obs)(x:q6 os)(hx:vm M os=some x):∃p',p'.β=p.β/\(∀b,¬p'.L b)/\gl (Imm F p M w) (Imm F p' (kj os x) w) w w/\Hp F p' (kj os x) w:=by
 classical
 have hall:∀k ob,go (kj os x) k=some ob->ck M k/\Wk (Imm F p M w) w ob.o ob.x (p.σ k) [p.β k]:=fun k ob hk=>by obtain⟨_,q,h1,h2⟩:=am2 M os x hx k ob hk;obtain⟨h3,h4⟩:=z6 h2;exact⟨bw h1,xj q.o ob.o h3 q.x ob.x _ _ h4 (h.objs k q h1)⟩
 let σ':Nat->Nat->Prop:=fun k=>if hk:∃ob,go (kj os x) k=some ob then (hall k hk.choose hk.choose_spec).2.choose else fun _=>False
 have hσ:∀k ob,go (kj os x) k=some ob->(∀b,σ' k b->p.σ k b)/\∀Im':Nat->Prop,(∀b,Imm F p M w b->Im' b)->(∀b,p.σ k b->¬σ' k b->Im' b)->Rel Im' w ob.o ob.x (σ' k) [p.β k]:=fun k ob hk=>by
  have hex:∃ob,go (kj os x) k=some ob:=⟨ob,hk⟩;have e1:σ' k=(hall k hex.choose hex.choose_spec).2.choose:=by simp only[σ',dif_pos hex]
  have h2:=(hall k hex.choose hex.choose_spec).2.choose_spec;have e2:ob=hex.choose:=a20 (hk.symm.trans hex.choose_spec);rw[e1,e2];exact h2
 have hlv:∀k,ck (kj os x) k->ck M k/\∀b,σ' k b->p.σ k b:=fun k hk=>by obtain⟨ob,ho⟩:=ai5 hk;exact⟨(hall k ob ho).1,(hσ k ob ho).1⟩
 have hkeep:gl (Imm F p M w) (Imm F ⟨p.β,σ',fun _=>False⟩ (kj os x) w) w w:=fun b hb=>⟨⟨hb.1,hb.2.1,fun h=>h,fun k hk hs=>hb.2.2.2 k (hlv k hk).1 ((hlv k hk).2 b hs)⟩,rfl⟩;refine⟨⟨p.β,σ',fun _=>False⟩,rfl,fun b hb=>hb,hkeep,⟨fun k ob hk=>?_,fun k k' b hne hk hk' hb hb'=>?_,fun k b hk hb=>?_,fun b hb=>hb.elim,h.os,h.tape,h.output,h.size,h.old⟩⟩
 ·refine (hσ k ob hk).2 _ (fun b hb=>(hkeep b hb).1) (fun b hb hn=>?_);have hlk:=(hall k ob hk).1;obtain⟨o1,o2⟩:=h.own k b hlk hb;refine⟨o1,o2.elim (fun h=>.inr (.inl h.2)) (fun h=>.inr (.inr h)),fun h=>h,fun j hj hs=>?_⟩;by_cases e:j=k
  ·subst e;exact hn hs
  ·exact h.sep k j b (a0v e) hlk (hlv j hj).1 hb ((hlv j hj).2 b hs)
 ·exact h.sep k k' b hne (hlv k hk).1 (hlv k' hk').1 ((hlv k hk).2 b hb) ((hlv k' hk').2 b hb')
 ·exact h.own k b (hlv k hk).1 ((hlv k hk).2 b hb)
theorem am1:(a b:bg)->peq a b=true->a=b
 |[],[],_=>rfl
 |.l::a,.l::b,h=>by simp only[peq]at h;rw[am1 a b h]
 |.r::a,.r::b,h=>by simp only[peq]at h;rw[am1 a b h]
 |.de::a,.de::b,h=>by simp only[peq]at h;rw[am1 a b h]
 |[],_::_,h=>by simp[peq]at h
 |.ix _::_,[],h=>by simp[peq]at h
 |.l::_,[],h=>by simp[peq]at h
 |.r::_,[],h=>by simp[peq]at h
 |.de::_,[],h=>by simp[peq]at h
 |.ix _::_,_::_,h=>by simp[peq]at h
 |.l::_,.r::_,h=>by simp[peq]at h
 |.l::_,.de::_,h=>by simp[peq]at h
 |.l::_,.ix _::_,h=>by simp[peq]at h
 |.r::_,.l::_,h=>by simp[peq]at h
 |.r::_,.de::_,h=>by simp[peq]at h
 |.r::_,.ix _::_,h=>by simp[peq]at h
 |.de::_,.l::_,h=>by simp[peq]at h
 |.de::_,.r::_,h=>by simp[peq]at h
 |.de::_,.ix _::_,h=>by simp[peq]at h
theorem avx{os:Obs}{x:q6 os}(hx:vm M os=some x){k:Nat}{q:Ob}{o:O}(hq:go M k=some q)(ho:oOf k os=some o)(he:q.o.beq o=true):go (kj os x) k=some q:=by obtain⟨y,hy⟩:=ahl M os x hx k o ho;obtain⟨_,q',h1,h2⟩:=am2 M os x hx k _ hy;rw[hq]at h1;cases h1;have:=(z6 h2).2;have e:=O.beq_eq he;obtain⟨qo,qx⟩:=q;simp only at e this;subst e;rw[vl]at this;cases this;exact hy
theorem bhv(hβ:p'.β=p.β){os:Obs}{x:q6 os}(hx:vm M os=some x){k:Nat}{π:bg}{vs:List Value}(h:Ref p.β M w k π vs)(hok:aw0 M os k π=true):Ref p'.β (kj os x) w k π vs:=by
 unfold aw0 at hok;split at hok
 ·rename_i q o hq ho;simp only[lu,a07]at hok;rcases hok with hn|he
  ·cases π with
   |cons _ _=>simp[yv]at hn
   |nil=>obtain⟨y,hy⟩:=ahl M os x hx k o ho;obtain⟨ob,pl,h1,h2,h3,h4⟩:=h;simp only[res,a0d,a0k]at h4;exact⟨⟨o,y⟩,none,hy,by simp only[gok],⟨⟨o,y⟩,by simp only[get]⟩,by simp only[res,hβ,h4.1]⟩
  ·have:=avx hx hq ho he;obtain⟨ob,pl,h1,h2,h3,h4⟩:=h;rw[hq]at h1;cases h1;exact⟨q,pl,this,h2,h3,by rw[hβ];exact h4⟩
 ·cases hok
theorem bln(hp:Hp F p M w)(hβ:p'.β=p.β){os:Obs}{x:q6 os}(hx:vm M os=some x){k:Nat}{π:bg}{v:Value}(h:Adr p.β M w k π v)(hok:bdc M os k π=true):Adr p'.β (kj os x) w k π v:=by
 unfold bdc at hok;split at hok
 ·rename_i q o hq ho;simp only[lu,a07]at hok;rcases hok with hn|he
  ·obtain⟨y,hy⟩:=ahl M os x hx k o ho;obtain⟨m,s1,s2⟩:=ape hn;obtain⟨ob,us0,b0,off0,k1,k2,k3,k4,k5,rfl⟩:=h;rw[hq]at k1;cases k1;obtain⟨ρ1,o1,rfl,e1,f1⟩:=adv s1;obtain⟨ρ2,o2,e2',e2,f2⟩:=adv s2;simp only[a0h,a0e]at e2';subst e2';subst e2;obtain⟨qo,qx⟩:=q;simp only at e1;subst e1;have hr:=hp.objs k _ hq;simp only[Rel]at hr;obtain⟨bb,us1,ty',S1,r1,r2,r3,r4,r5⟩:=hr;simp only[a0h,a0c]at r1;rw[r1]at k5;simp only[res]at k5;obtain⟨_,_,us2,q3⟩:=rl w ρ1 o1 m f1 qx (cellsOf w bb 0 o1.size) (some (bb,0));rw[q3]at k5;simp only[a0d,a0k]at k5;obtain⟨q1,q2,us3,q3'⟩:=rl w ρ1 o2 m f2 y (cellsOf w bb 0 o2.size) (some (bb,0));refine⟨_,us3,b0,off0,hy,by simpa only [gok]using q2,by simpa only [get]using q1,by simp only[cm],?_,rfl⟩;rw[hβ,r1];simp only[res];rw[q3',k5.2]
  ·have:=avx hx hq ho he;obtain⟨ob,us,b,off,h1,h2,h3,h4,h5,h6⟩:=h;rw[hq]at h1;cases h1;exact⟨q,us,b,off,this,h2,h3,h4,by rw[hβ];exact h5,h6⟩
 ·cases hok
theorem ags(hp:Hp F p M w)(hβ:p'.β=p.β){os:Obs}{x:q6 os}(hx:vm M os=some x)(hk:gl (Imm F p M w) (Imm F p' (kj os x) w) w w):(s:Sh)->(v:V)->(vs:List Value)->(y:s.den)->aa p.β M (Imm F p M w) w v vs->s.read M os v=some y->aa p'.β (kj os x) (Imm F p' (kj os x) w) w (s.put y) vs
 |.d t,v,vs,y,r,h=>by simp only[Sh.read]at h;simp only[Sh.put];exact fw t y vs (ah.keep hk _ _ _ (aar v t vs y r h))
 |.ref k π,v,vs,y,r,h=>by
  cases v <;> simp only[Sh.read]at h <;> try (cases h;done)
  rename_i k' π'
  cases hb:nob (aw0 M os k π) (nob (Nat.beq k k') (peq π π'))with
  |false=>rw[hb]at h;cases h
  |true=>simp only[ak,a0a]at hb;have e1:=a0t hb.2.1;have e2:=am1 _ _ hb.2.2;subst e1;subst e2;simp only[aa]at r;simp only[Sh.put,aa];exact bhv hβ hx r hb.1
 |.ad k π,v,vs,y,r,h=>by
  cases v <;> simp only[Sh.read]at h <;> try (cases h;done)
  rename_i k' π'
  cases hb:nob (bdc M os k π) (nob (Nat.beq k k') (peq π π'))with
  |false=>rw[hb]at h;cases h
  |true=>simp only[ak,a0a]at hb;have e1:=a0t hb.2.1;have e2:=am1 _ _ hb.2.2;subst e1;subst e2;simp only[aa]at r;obtain⟨z,rfl,r⟩:=r;simp only[Sh.put,aa];exact⟨z,rfl,bln hp hβ hx r hb.1⟩
 |.fn f,v,vs,y,r,h=>by
  cases v <;> (try simp only[Sh.read]at h) <;> try (cases h;done)
  rename_i f' v';cases v' <;> (try simp only[Sh.read]at h) <;> try (cases h;done)
  simp only[cq]at h;split at h
  ·rename_i e;subst e;simp only[aa]at r;simp only[Sh.put,aa];exact r
  ·cases h
 |.bx s,v,vs,y,r,h=>by
  cases v <;> simp only[Sh.read]at h <;> try (cases h;done)
  simp only[aa]at r;obtain⟨b,o,us,h1,h2,h3,h4⟩:=r;simp only[Sh.put,aa];exact⟨b,o,us,h1,(hk b h2).1,h3,ags hp hβ hx hk s _ _ y h4 h⟩
 |.fc f s,v,vs,y,r,h=>by
  cases v <;> simp only[Sh.read]at h <;> try (cases h;done)
  simp only[cq]at h;split at h
  ·rename_i e;subst e;simp only[aa]at r;obtain⟨us,h1,h2⟩:=r;simp only[Sh.put,aa];exact⟨us,h1,ags hp hβ hx hk s _ _ y h2 h⟩
  ·cases h
 |.pr a b,v,vs,y,r,h=>by
  cases v <;> simp only[Sh.read]at h <;> try (cases h;done)
  split at h
  ·rename_i z1 z2 h1 h2;simp only[aa]at r;obtain⟨va,vb,e,ra,rb⟩:=r;cases h;simp only[Sh.put,aa];exact⟨va,vb,e,ags hp hβ hx hk a _ _ _ ra h1,ags hp hβ hx hk b _ _ _ rb h2⟩
  ·cases h
 |.u,v,vs,y,r,h=>by
  cases v <;> simp only[Sh.read]at h <;> try (cases h;done)
  simp only[Sh.put];simpa only [aa]using r
theorem bl7(hp:Hp F p M w)(hβ:p'.β=p.β){os:Obs}{x:q6 os}(hx:vm M os=some x)(hk:gl (Imm F p M w) (Imm F p' (kj os x) w) w w)(s:Sh)(v:V)(u:Value)(y:s.den)(r:af p.β M (Imm F p M w) w v u)(h:s.read M os v=some y):af p'.β (kj os x) (Imm F p' (kj os x) w) w (s.put y) u:=by
 have key:aa p.β M (Imm F p M w) w v [u]->af p'.β (kj os x) (Imm F p' (kj os x) w) w (s.put y) u:=fun r=>au (ags hp hβ hx hk s v [u] y r h)
 cases v with
 |any=>cases s with
  |d t=>cases t <;> simp[Sh.read,V.as]at h
  |_=>simp[Sh.read]at h
 |ag z=>cases s with
  |d t=>cases t <;> simp[Sh.read,V.as]at h
  |_=>simp[Sh.read]at h
 |tup z=>cases s with
  |d t=>cases t <;> simp[Sh.read,V.as]at h
  |_=>simp[Sh.read]at h
 |gd _ _ _ z=>cases s with
  |d t=>cases t <;> simp[Sh.read,V.as]at h
  |_=>simp[Sh.read]at h
 |_=>exact key (by simpa only [af]using r)
theorem ay9(hp:Hp F p M w)(hβ:p'.β=p.β){os:Obs}{x:q6 os}(hx:vm M os=some x)(hk:gl (Imm F p M w) (Imm F p' (kj os x) w) w w)(hs:∀t,af p.β M (Imm F p M w) w (gt env t) (a.tmps.getD t undef)) :
  (ss:Shs)->(y:y4 ss)->an1 M os env ss=some y->∀t,af p'.β (kj os x) (Imm F p' (kj os x) w) w (gt (ajx ss y) t) (a.tmps.getD t undef)
 |[],y,h,t=>by simp only[ajx,gt,af]
 |(t',s)::r,y,h,t=>by
  simp only[an1]at h;split at h
  ·rename_i z1 z2 h1 h2;cases h;simp only[ajx];rw[jt];split
   ·rename_i e;subst e;exact bl7 hp hβ hx hk s _ _ z1 (hs t') h1
   ·exact ay9 hp hβ hx hk hs r z2 h2 t
  ·cases h
theorem vd{β β':Nat->Value}{Im Im':Nat->Prop}(hk:gl Im Im' w w'):(v:V)->cw v=true->(∀vs,aa β M Im w v vs->aa β' M' Im' w' v vs)/\∀u,af β M Im w v u->af β' M' Im' w' v u
 |.d t x,_=>⟨fun vs r=>by simp only[aa]at r⊢;exact ah.keep hk t x vs r,fun u r=>by rw[az]at r⊢;exact ah.keep hk t x _ r⟩
 |.nl,_=>⟨fun vs r=>by simpa only [aa]using r,fun u r=>by simpa only [af,aa]using r⟩
 |.np,_=>⟨fun vs r=>by simpa only [aa]using r,fun u r=>by simpa only [af,aa]using r⟩
 |.u,_=>⟨fun vs r=>by simpa only [aa]using r,fun u r=>by simpa only [af,aa]using r⟩
 |.p a b,h=>by
  simp only[cw,ak,a0a]at h;have key:∀vs,aa β M Im w (.p a b) vs->aa β' M' Im' w' (.p a b) vs:=fun vs r=>by simp only[aa]at r⊢;obtain⟨va,vb,e,h1,h2⟩:=r;exact⟨va,vb,e,(vd hk a h.1).1 va h1,(vd hk b h.2).1 vb h2⟩
  exact⟨key,fun u r=>by simp only[af]at r⊢;exact key _ r⟩
 |.ag v,h=>by simp only[cw]at h;refine⟨fun vs r=>by simp only[aa]at r,fun u r=>?_⟩;simp only[af]at r⊢;obtain⟨vs,e,h1⟩:=r;exact⟨vs,e,(vd hk v h).1 vs h1⟩
 |.fn f v,h=>by
  simp only[cw]at h;have key:∀vs,aa β M Im w (.fn f v) vs->aa β' M' Im' w' (.fn f v) vs:=fun vs r=>by simp only[aa]at r⊢;obtain⟨us,e,h1⟩:=r;exact⟨us,e,(vd hk v h).1 us h1⟩
  exact⟨key,fun u r=>by simp only[af]at r⊢;exact key _ r⟩
 |.bx v,h=>by
  simp only[cw]at h;have key:∀vs,aa β M Im w (.bx v) vs->aa β' M' Im' w' (.bx v) vs:=fun vs r=>by simp only[aa]at r⊢;obtain⟨b,o,us,e,h1,h2,h3⟩:=r;exact⟨b,o,us,e,(hk b h1).1,h2.keep (hk b h1).2,(vd hk v h).1 us h3⟩
  exact⟨key,fun u r=>by simp only[af]at r⊢;exact key _ r⟩
 |.any,h=>by simp[cw]at h
 |.ref _ _,h=>by simp[cw]at h
 |.ad _ _,h=>by simp[cw]at h
 |.tup _,h=>by simp[cw]at h
 |.gd _ _ _ _,h=>by simp[cw]at h
 |.ifc _ _,h=>by simp[cw]at h
theorem ao1(h:St F p env M a w){ss:Shs}{os:Obs}{q:(y4 ss×q6 os)×Env}(hr:ahi ss os env M=some q) :
  ∃p',St F p' (ajx ss q.1.1) (kj os q.1.2) a w/\∀t,cw (gt q.2 t)=true->af p'.β (kj os q.1.2) (Imm F p' (kj os q.1.2) w) w (gt q.2 t) (a.tmps.getD t undef):=by
 unfold ahi at hr;obtain⟨p0,h0⟩:=nf os ss p env M h;generalize qf os ss env M=z0 at hr h0;obtain⟨env0,M0⟩:=z0;simp only at hr h0;obtain⟨p1,h1⟩:=acj os p0 env0 M0 h0;generalize adc os env0 M0=z1 at hr h1;obtain⟨env1,M1⟩:=z1;simp only at hr h1;have h2:=sy os (bz M1) M1 env1 h1;generalize pb os (bz M1) M1 env1=z2 at hr h2;obtain⟨env2,M2⟩:=z2;simp only at hr h2;split at hr
 ·rename_i y x hy hx;cases hr;obtain⟨p',e1,e2,e3,e4⟩:=bm7 h2.hp h2.lz os x hx;refine⟨p',⟨h2.defers,h2.nt,h2.fix,fun b hb=>⟨(e3 b (h2.ik b hb).1).1,(h2.ik b hb).2⟩,e2,ay9 h2.hp e1 hx e3 h2.slots ss y hy,e4⟩,fun t ht=>(vd e3 _ ht).2 _ (h2.slots t)⟩
 ·cases hr
end
end Go.Bm
/- The du machine:code keeps the law that is read off it. -/
namespace Go.Bm
open Go.RowKit
theorem ly:(t:T)->(x:t.den)->t.ok x->ae (t.oks x)
 |.int k,x,h=>by simp only[T.oks,cr,c8,a0c];simpa only [T.ok]using h
 |.p a b,x,h=>by simp only[T.ok]at h;simp only[T.oks,qh];exact⟨ly a _ h.1,ly b _ h.2⟩
 |.sl e,x,h=>by simp only[T.oks,cr,c8,a0c];exact h
 |.pt t,x,h=>by simp only[T.ok]at h;simp only[T.oks];exact ly t x h
 |.fn _ t,x,h=>by simp only[T.ok]at h;simp only[T.oks];exact ly t x h
 |.ifc _ t,x,h=>by simp only[T.ok]at h;simp only[T.oks];exact ly t x h
 |.mp k v,x,h=>by simp only[T.oks,cr,c8,a0c];exact h
 |.op t,x,h=>by simp only[T.oks,cr,c8,a0c];exact h
 |.ns t,x,h=>by simp only[T.oks,cr,c8,a0c];exact h
 |.er _,x,h=>by simp only[T.oks,c8]
 |.str,x,h=>by simp only[T.oks,cr,c8,a0c];simpa only [T.ok]using h
 |.bool,x,h=>by simp only[T.oks,c8]
 |.u,x,h=>by simp only[T.oks,c8]
 |.any,x,h=>by simp only[T.oks,c8]
def bmr:Nat->List Nat->Bool
 |i,σ=>(List.range i).all fun k=>Nat.beq (plc σ k) k
def bkq(nt:Nat)(l:List Oper):Bool:=nob (asn l) (nob (Nat.blt (zy 0 l) (ako 0 l)) (nob (Nat.blt (ako 0 l) l.length) (nob (vo 0 l) (nob (ayr (mvS (zy 0 l) (ako 0 l) (len l)) l.length) (nob (bmr (zy 0 l) (mvS (zy 0 l) (ako 0 l) (len l))) (nob (k9 nt (bdf l)) (nob (k9 nt (bd5 l)) (nob (amp false false (bdf l) (zy 0 l)) (amp false false (bd5 l) (Nat.succ (zy 0 l)))))))))))
def okC(nt:Nat)(cut:Nat->Nat):Code->Bool
 |.region id ops draw=>nob (k9 nt (toL ops)) (bif draw then (bif Nat.beq (cut id) 999999 then bj3 (toL ops)else bif Nat.beq (cut id) 999998 then bkq nt (toL ops)else bif Nat.ble 10000 (cut id)then nob (k9 nt (gz (hrC (cut id)) (toL ops))) (bef (hrC (cut id)) true (toL ops) (mC (cut id)))else bif Nat.ble 2000 (cut id)then nob (k9 nt (gz false (toL ops))) (bef false false (toL ops) (Nat.sub (cut id) (bij (cut id))))else bif Nat.ble 1000 (cut id)then amp false false (toL ops) (Nat.sub (cut id) 1000)else bif Nat.ble 500 (cut id)then amp false false (toL ops) (Nat.sub (cut id) 500)else bdo (toL ops) (cut id))else true)
 |.seq a b=>nob (okC nt cut a) (okC nt cut b)
 |.cond _ a b=>nob (okC nt cut a) (okC nt cut b)
 |.block _ c=>okC nt cut c
 |.loop c=>okC nt cut c
 |.scope c=>okC nt cut c
 |_=>true
def ab0(fv:Nat->Option Value):Code->Prop
 |.region _ ops _=>∀o∈toL ops,∀k,o.dst=some k->fv k=none
 |.seq a b=>ab0 fv a/\ab0 fv b
 |.cond _ a b=>ab0 fv a/\ab0 fv b
 |.block _ c=>ab0 fv c
 |.loop c=>ab0 fv c
 |.scope c=>ab0 fv c
 |_=>True
theorem qb:(c:Code)->ab0 (fun _=>none) c
 |.region _ _ _=>fun _ _ _ _=>rfl
 |.seq a b=>⟨qb a,qb b⟩
 |.cond _ a b=>⟨qb a,qb b⟩
 |.block _ c=>qb c
 |.loop c=>qb c
 |.scope c=>qb c
 |.skip=>trivial
 |.ret=>trivial
 |.exit _=>trivial
 |.goto _=>trivial
 |.label _=>trivial
 |.rangeFunc _ _ _ _=>trivial
 |.refuse _=>trivial
def yz(fv:Nat->Option Value)(ks:List Nat)(a:Act):Nat->Option Value:=fun t=>bif u7 t ks then some (a.tmps.getD t undef)else fv t
def mkF(F:Fr)(I:Nat->Prop)(w:World)(ks:List Nat)(a:Act):Fr:=⟨F.w0,w,F.A,F.R,I,F.nt,yz F.fv ks a⟩
theorem ayu{ks:List Nat}:{l:List Oper}->axh ks l=true->∀o∈l,∀k,o.dst=some k->u7 k ks=false
 |[],_,o,ho,_,_=>by cases ho
 |x::r,h,o,ho,k,hk=>by
  simp only[axh]at h;rcases a0u.1 ho with rfl|ho
  ·rw[hk]at h;simp only at h
   cases hm:u7 k ks with
   |false=>rfl
   |true=>rw[hm]at h;cases h
  ·refine ayu ?_ o ho k hk;split at h
   ·rename_i d _
    cases hm:u7 d ks with
    |false=>rw[hm]at h;exact h
    |true=>rw[hm]at h;cases h
   ·exact h
theorem pe{fv:Nat->Option Value}{ks:List Nat}{a:Act}:(c:Code)->noW ks c=true->ab0 fv c->ab0 (yz fv ks a) c
 |.region id ops draw,h,hf=>fun o ho k hk=>by simp only[noW]at h;unfold yz;rw[ayu h o ho k hk];exact hf o ho k hk
 |.seq x y,h,hf=>by simp only[noW,ak,a0a]at h;exact⟨pe x h.1 hf.1,pe y h.2 hf.2⟩
 |.cond _ x y,h,hf=>by simp only[noW,ak,a0a]at h;exact⟨pe x h.1 hf.1,pe y h.2 hf.2⟩
 |.block _ c,h,hf=>by simp only[noW]at h;exact pe c h hf
 |.loop c,h,hf=>by simp only[noW]at h;exact pe c h hf
 |.scope c,h,hf=>by simp only[noW]at h;exact pe c h hf
 |.skip,_,_=>trivial
 |.ret,_,_=>trivial
 |.exit _,_,_=>trivial
 |.goto _,_,_=>trivial
 |.label _,_,_=>trivial
 |.rangeFunc _ _ _ _,_,_=>trivial
 |.refuse _,_,_=>trivial
def wo(F:Fr)(K:Ex->Env->Mem->Prop):Exit->Act->World->Prop
 |.normal,a,w=>∃p env M,St F p env M a w/\K .nm env M
 |.exit id,a,w=>∃p env M,St F p env M a w/\K (.ex id) env M
 |.ret,a,w=>∃p env M,St F p env M a w/\K .rt env M
 |.goto l,a,w=>∃p env M,St F p env M a w/\K (.go l) env M
 |_,_,_=>False
section
variable {F:Fr} {p p' p'':Ow} {env env':Env} {M M' M'':Mem} {a a':Act} {w w' w'':World} {P:Program} {B:Tab} {Φ:FuncId->Option Ct}
theorem ay1:∀(env:Env) (t:Nat),gt (clr env) t=.any\/gt (clr env) t=gt env t
 |[],t=>.inl rfl
 |(k,v)::r,t=>by
  simp only[clr];split
  ·rw[jt,jt];split
   ·exact .inl rfl
   ·exact ay1 r t
  ·rw[jt,jt];split
   ·exact .inr rfl
   ·exact ay1 r t
theorem bka:∀(x y:Env) (t:Nat),gt (ap x y) t=gt x t\/gt (ap x y) t=gt y t
 |[],y,t=>.inr rfl
 |(k,v)::r,y,t=>by
  simp only[ap];rw[jt,jt];split
  ·exact .inl rfl
  ·exact bka r y t
theorem bah(env:Env):∀(ks:List Nat) (t:Nat),gt (afw env ks) t=.any\/(u7 t ks=true/\cw (gt env t)=true/\gt (afw env ks) t=gt env t)
 |[],t=>.inl rfl
 |k::r,t=>by
  simp only[afw];have ih:=bah env r t;have hm:u7 t r=true->u7 t (k::r)=true:=fun h=>by simp only[u7,lu,h,a35]
  cases hd:cw (gt env k)with
  |false=>
   simp only[a0g];rcases ih with h|⟨h1,h2,h3⟩
   ·exact .inl h
   ·exact .inr ⟨hm h1,h2,h3⟩
  |true=>
   simp only[a0b];rw[jt];split
   ·rename_i e;subst e;exact .inr ⟨by simp[u7],hd,rfl⟩
   ·rcases ih with h|⟨h1,h2,h3⟩
    ·exact .inl h
    ·exact .inr ⟨hm h1,h2,h3⟩
theorem St.fwd(h:St F p env M a w)(ks:List Nat):St (mkF F (Imm F p M w) w ks a) p env M a w:=by
 refine⟨h.defers,h.nt,fun t v ht=>?_,fun b hb=>⟨hb,rfl⟩,h.lz,h.slots,⟨h.hp.objs,h.hp.sep,h.hp.own,h.hp.lim,h.hp.os,h.hp.tape,h.hp.output,h.hp.size,h.hp.old⟩⟩;simp only[mkF,yz]at ht
 cases hm:u7 t ks with
 |true=>rw[hm]at ht;simpa using ht
 |false=>rw[hm]at ht;exact h.fix t v ht
theorem St.back(h:St F p env M a w){ks:List Nat}(h':St (mkF F (Imm F p M w) w ks a) p' env' M' a' w'):St F p' env' M' a' w':=by
 refine⟨h'.defers,h'.nt,fun t v ht=>?_,fun b hb=>?_,h'.lz,h'.slots,⟨h'.hp.objs,h'.hp.sep,h'.hp.own,h'.hp.lim,h'.hp.os,h'.hp.tape,h'.hp.output,h'.hp.size,h'.hp.old⟩⟩
 ·cases hm:u7 t ks with
  |true=>rw[h'.fix t (a.tmps.getD t undef) (by simp only[mkF,yz,hm,a0b])];exact h.fix t v ht
  |false=>exact h'.fix t v (by simp only[mkF,yz,hm,a0g];exact ht)
 ·obtain⟨h1,h2⟩:=h.ik b hb;obtain⟨h3,h4⟩:=h'.ik b h1;exact⟨h3,h4.trans h2⟩
theorem St.add{ks:List Nat}{envK:Env}(hK:∀t,cw (gt envK t)=true->af p.β M (Imm F p M w) w (gt envK t) (a.tmps.getD t undef))(h':St (mkF F (Imm F p M w) w ks a) p' env' M' a' w'):St (mkF F (Imm F p M w) w ks a) p' (ap env' (afw envK ks)) M' a' w':=by
 refine⟨h'.defers,h'.nt,h'.fix,h'.ik,h'.lz,fun t=>?_,h'.hp⟩;rcases bka env' (afw envK ks) t with e|e
 ·rw[e];exact h'.slots t
 ·rw[e];rcases bah envK ks t with e'|⟨h1,h2,h3⟩
  ·rw[e'];simp only[af]
  ·rw[h3,h'.fix t (a.tmps.getD t undef) (by simp only[mkF,yz,h1,a0b])];exact (vd (fun b hb=>h'.ik b hb) _ h2).2 _ (hK t h2)
theorem adl{os:Obs}:(s:Sh)->(v:V)->(vs:List Value)->(y:s.den)->aa p.β M (Imm F p M w) w v vs->s.read M os v=some y->ae (s.oks y)
 |.d t,v,vs,y,r,h=>by simp only[Sh.read]at h;simp only[Sh.oks];exact ly _ _ (ah.ok _ _ _ (aar v t vs y r h))
 |.ref _ _,_,_,_,_,_=>by simp only[Sh.oks,c8]
 |.ad _ _,_,_,_,_,_=>by simp only[Sh.oks,c8]
 |.fn _,_,_,_,_,_=>by simp only[Sh.oks,c8]
 |.u,_,_,_,_,_=>by simp only[Sh.oks,c8]
 |.bx s,v,vs,y,r,h=>by
  cases v <;> simp only[Sh.read]at h <;> try (cases h;done)
  simp only[aa]at r;obtain⟨b,o,us,h1,h2,h3,h4⟩:=r;simp only[Sh.oks];exact adl s _ _ y h4 h
 |.fc f s,v,vs,y,r,h=>by
  cases v <;> simp only[Sh.read]at h <;> try (cases h;done)
  simp only[cq]at h;split at h
  ·simp only[aa]at r;obtain⟨us,h1,h2⟩:=r;simp only[Sh.oks];exact adl s _ _ y h2 h
  ·cases h
 |.pr a b,v,vs,y,r,h=>by
  cases v <;> simp only[Sh.read]at h <;> try (cases h;done)
  split at h
  ·rename_i z1 z2 h1 h2;simp only[aa]at r;obtain⟨va,vb,e,ra,rb⟩:=r;cases h;simp only[Sh.oks,qh];exact⟨adl a _ _ _ ra h1,adl b _ _ _ rb h2⟩
  ·cases h
theorem au4{os:Obs}(hs:∀t,af p.β M (Imm F p M w) w (gt env t) (a.tmps.getD t undef)):(ss:Shs)->(y:y4 ss)->an1 M os env ss=some y->ae (okS ss y)
 |[],y,h=>by simp only[okS,c8]
 |(t,s)::r,y,h=>by
  simp only[an1]at h;split at h
  ·rename_i z1 z2 h1 h2;cases h;have ih:=au4 hs r z2 h2;simp only[okS,qh];refine⟨?_,ih⟩
   have key:∀v:V,s.read M os v=some z1->af p.β M (Imm F p M w) w v (a.tmps.getD t undef)->ae (s.oks z1):=fun v h1 r=>by
    cases v with
    |any=>cases s with
     |d t=>cases t <;> simp[Sh.read,V.as]at h1
     |_=>simp[Sh.read]at h1
    |ag z=>cases s with
     |d t=>cases t <;> simp[Sh.read,V.as]at h1
     |_=>simp[Sh.read]at h1
    |tup z=>cases s with
     |d t=>cases t <;> simp[Sh.read,V.as]at h1
     |_=>simp[Sh.read]at h1
    |gd _ _ _ z=>cases s with
     |d t=>cases t <;> simp[Sh.read,V.as]at h1
     |_=>simp[Sh.read]at h1
    |_=>exact adl s _ _ _ (by simpa only [af]using r) h1
   exact key _ h1 (hs t)
  ·cases h
theorem avs(hp:Hp F p M w):(os:Obs)->(x:q6 os)->vm M os=some x->ae (okO os x)
 |[],x,h=>by simp only[okO,c8]
 |(k,o)::r,x,h=>by
  simp only[vm]at h;split at h
  ·rename_i q hq;split at h
   ·rename_i y z hy hz;cases h;simp only[okO,qh];refine⟨ly _ _ ?_,avs hp r z hz⟩;obtain⟨e,h1⟩:=aba (z6 hy).2;have hok:=(hp.objs k q hq).ok;subst h1;exact cast_ok e hok
   ·cases h
  ·cases h
where
 cast_ok:∀{s t:T} {x:s.den} (e:s=t),s.ok x->t.ok (e▸x):=fun e h=>by subst e;exact h
theorem alv(h:St F p env M a w){ss:Shs}{os:Obs}{q:(y4 ss×q6 os)×Env}(hr:ahi ss os env M=some q):ae (okS ss q.1.1)/\ae (okO os q.1.2):=by
 unfold ahi at hr;obtain⟨p0,h0⟩:=nf os ss p env M h;generalize qf os ss env M=z0 at hr h0;obtain⟨env0,M0⟩:=z0;simp only at hr h0;obtain⟨p1,h1⟩:=acj os p0 env0 M0 h0;generalize adc os env0 M0=z1 at hr h1;obtain⟨env1,M1⟩:=z1;simp only at hr h1;have h2:=sy os (bz M1) M1 env1 h1;generalize pb os (bz M1) M1 env1=z2 at hr h2;obtain⟨env2,M2⟩:=z2;simp only at hr h2;split at hr
 ·rename_i y x hy hx;cases hr;exact⟨au4 h2.slots ss y hy,avs h2.hp os x hx⟩
 ·cases hr
theorem auc(h:St F p env M a w){ss:Shs}{os:Obs}{ks:List Nat}{c:Code}{K:Ex->Env->Mem->Prop}
  (hc:c.wp P (wo (mkF F (Imm F p M w) w ks a) (afd ss os (onK ss os ks env K) K)) a w):c.wp P (wo F K) a w:=by
 refine a2s (fun e a' w' hl=>?_) hc
 cases e with
 |normal=>
  obtain⟨p1,env1,M1,h1,h2⟩:=hl;simp only[afd,bdy]at h2;split at h2
  ·rename_i s hs;obtain⟨p2,h4,_⟩:=ao1 h1 hs;obtain⟨o1,o2⟩:=alv h1 hs;simp only[onK,ax2]at h2;exact⟨p2,_,_,h.back (St.add (fun t _=>h.slots t) h4),h2 o1 o2⟩
  ·exact h2.elim
 |exit id=>obtain⟨p1,env1,M1,h1,h2⟩:=hl;exact⟨p1,env1,M1,h.back h1,h2⟩
 |ret=>obtain⟨p1,env1,M1,h1,h2⟩:=hl;exact⟨p1,env1,M1,h.back h1,h2⟩
 |goto l=>obtain⟨p1,env1,M1,h1,h2⟩:=hl;exact⟨p1,env1,M1,h.back h1,h2⟩
 |panic ch=>exact hl.elim
 |outgrown=>exact hl.elim
theorem bl6(hΦ:qj P F Φ)(hB:TabOk P B)(hmix:P.follows .mixedOrders=true){id:Nat}{ops:Array Oper}{cut:Nat}(hco:k9 F.nt (toL ops)=true)(hfv:∀o∈toL ops,∀k,o.dst=some k->F.fv k=none)(hr:bdo (toL ops) cut=true){K:Env->Mem->Prop}{Q:Exit->Act->World->Prop}
  (hQ:∀p env M a w,St F p env M a w->K env M->Q .normal a w) (h:St F p env M a w) (hk:dw B Φ (toL ops) (fa cut (toL ops)) env M (fun env=>tw B Φ (toL ops) (q9 cut (toL ops)) env M K)):(Code.region id ops true).wp P Q a w:=by
 rw[di]at hco hfv hr;rw[ak1,ao0]at hk;simp only[bdo,a0a]at hr;obtain⟨h1,h2,h3,h4⟩:=hr;obtain⟨E,V,e0,e1,e2⟩:=au7 _ _ _ _ hk;have hm:cut<=ops.toList.length:=a17 h2;rw[di,a1c,a3w hm]at e2;refine wp_region_any hmix ?_;have:=bhi (F:=F) (M:=M) (p:=p) (all:=ops) hΦ hB Q K hQ h1 cut (by simpa using hm) (by simpa using h3) (by simpa using h4) hco hfv E V (by simpa only [di]using e1) (by simpa only [di]using e2);exact this _ _ env a _ (by simp) (fun i _ hi=>absurd hi ack) (ayj _ _) (fun j o _ hi=>absurd hi ack) (fun t=>⟨fun _=>by rw[e0],fun i o _ hi=>absurd hi ack⟩) h.drew
theorem av5{c:Code}{Q':Exit->Act->World->Prop}{ι:Type}(I:ι->Act->World->Prop)(μ:ι->Nat)
  (round:∀i a w,I i a w->c.wp P (Exit.then (fun a' w'=>∃i',μ i'<μ i/\I i' a' w') Q') a w):∀i a w,I i a w->(Code.loop c).wp P Q' a w:=by
 intro i a w h0 b k cs
 have key:∀n i a w,μ i=n->I i a w->∃e a' w',Q' e a' w'/\Arrives P (lone (b.at a (.code c::.inLoop c::k)) cs w) b k cs e a' w':=by
  intro n
  induction n using Nat.strongRecOn with
  |_ n ih=>
   intro i a w hn hI;obtain⟨e,a1,w1,hq,harr⟩:=round i a w hI b (.inLoop c::k) cs
   cases e with
   |normal=>obtain⟨i',hlt,hI'⟩:=hq;obtain⟨e2,a2,w2,hq2,harr2⟩:=ih (μ i') (hn▸hlt) i' a1 w1 rfl hI';exact⟨e2,a2,w2,hq2,.of_steps (Steps.trans harr (.one step_inLoop)) harr2⟩
   |exit id=>exact⟨_,a1,w1,hq,.pass (x:=.inLoop c) rfl (fun _ _=>.inl (by simp)) harr⟩
   |goto l=>exact⟨_,a1,w1,hq,.pass (x:=.inLoop c) rfl (fun _ _=>.inl (by simp)) harr⟩
   |ret=>exact⟨_,a1,w1,hq,.pass (x:=.inLoop c) rfl (fun _ _=>.inl (by simp)) harr⟩
   |panic ch=>exact⟨_,a1,w1,hq,.pass (x:=.inLoop c) rfl (fun _ _=>.inl (by simp)) harr⟩
   |outgrown=>exact⟨_,a1,w1,hq,.pass (x:=.inLoop c) rfl (fun _ _=>.inl (by simp)) harr⟩
 obtain⟨e,a',w',hq,harr⟩:=key _ i a w rfl h0;exact⟨e,a',w',hq,.of_steps (.one step_loop) harr⟩
end
end Go.Bm
/- The du machine:guards known where they hold. -/
namespace Go.Bm
open Go.RowKit
def ach(all rest:List Oper)(env:Env):Prop:=∀t j w P v,gt env t=.gd j w P v->∃d,tb all j=some d/\P=gc (gt env d) w/\ju (gt env d)=true/\wIn d rest=false
def Fs(all:List Oper)(env:Env)(fs:List (Nat×Bool)):Prop:=∀j w,aqd fs j w=true->∀d,tb all j=some d->gc (gt env d) w
theorem bb4{a b:Bool}(h:auk a b=true):a=b:=by cases a <;> cases b <;> simp[auk,neg]at h <;> rfl
theorem bh4{t:Nat}{o:Option Nat}(h:ak5 t o=true):o=some t:=by
 cases o with
 |none=>cases h
 |some d=>rw[a0t h]
theorem bdv(t:Nat):ak5 t (some t)=true:=a3n t
theorem apy{all rest:List Oper}{env:Env}(hI:ach all rest env):∀(n j:Nat) (w:Bool) (d:Nat),tb all j=some d->gc (gt env d) w->Fs all env (r8 all env n j w)
 |0,_,_,_,_,_=>fun _ _ h=>by cases h
 |n+1,j,w,d,hd,hg=>by
  intro i w' hm d' hd';simp only[r8,aqd]at hm
  cases hb:nob (Nat.beq j i) (auk w w')with
  |true=>simp only[ak,a0a]at hb;have h1:=a0t hb.1;have h2:=bb4 hb.2;subst h1 h2;rw[hd]at hd';cases hd';exact hg
  |false=>
   rw[hb]at hm;simp only[a0g,hd]at hm
   cases hv:gt env d with
   |gd i2 w2 P2 v2=>rw[hv]at hm;obtain⟨d2,h1,h2,_,_⟩:=hI _ _ _ _ _ hv;rw[hv]at hg;simp only[gc]at hg;exact apy hI n i2 w2 d2 h1 (h2▸hg.1) i w' hm d' hd'
   |_=>rw[hv]at hm;simp[aqd]at hm
theorem bkk{env:Env}{x:Operand}{j:Nat}{w:Bool}{P:Prop}{v:V}(h:rd env x=.gd j w P v):∃t,gt env t=.gd j w P v:=by
 cases x with
 |tmp t=>exact⟨t,h⟩
 |const v=>
  simp only[rd]at h;unfold rdV at h;split at h <;> try cases h
  ·cases hb:nob (Nat.beq _ 0) (Nat.beq _ 0) <;> rw[hb]at h <;> cases h
 |func f=>cases h
 |global _=>cases h
theorem alt{all rest:List Oper}{env:Env}{fs:List (Nat×Bool)}(hI:ach all rest env)(hf:Fs all env fs):∀(l:List Operand),ae (po (fun x=>unG fs (rd env x)) l)->ae (po (rd env) l)
 |[],_=>trivial
 |x::r,h=>by
  simp only[po]at h⊢
  cases hv:rd env x with
  |gd j w P v=>
   rw[hv]at h;simp only[unG]at h
   cases hm:aqd fs j w with
   |true=>
    rw[hm]at h;obtain⟨t,ht⟩:=bkk hv;obtain⟨d,h1,h2,_,_⟩:=hI _ _ _ _ _ ht;refine⟨h2▸hf j w hm d h1,alt hI hf r ?_⟩;simp only[a0b]at h;split at h
    ·exact h.2
    ·exact h
   |false=>rw[hm]at h;exact⟨h.1,alt hI hf r h.2⟩
  |_=>rw[hv]at h;exact alt hI hf r h
theorem aqv{all rest:List Oper}{env:Env}{fs:List (Nat×Bool)}(hI:ach all rest env)(hf:Fs all env fs){c a:Operand}{side:Bool}(hb:(rd env c).strip.isB=true)(hc:ae (po (rd env) [c]))
  (h:ae (adb (rd env c).strip.boolV side (awm all c side (unG fs (rd env a))))):ae (adb (rd env c).strip.boolV side (rd env a)):=by
 cases hv:rd env a with
 |gd j w P v=>
  obtain⟨t,ht⟩:=bkk hv;obtain⟨d,h1,h2,h3,_⟩:=hI _ _ _ _ _ ht;simp only[adb,cr,c8,a0c];rw[hv]at h;simp only[unG]at h
  cases hm:aqd fs j w with
  |true=>exact fun _=>h2▸hf j w hm d h1
  |false=>
   rw[hm]at h;simp only[a0g]at h;unfold awm at h;split at h
   ·rename_i t' j' w' P' x' heq;cases heq
    cases hs:nob (ak5 t' (tb all j)) (auk w side)with
    |false=>rw[hs]at h;exact h.1
    |true=>
     simp only[ak,a0a]at hs;have e1:=bh4 hs.1;have e2:=bb4 hs.2;rw[h1]at e1;cases e1;subst e2;intro hcb;subst h2;simp only[rd]at hb hcb hc;simp only[po]at hc
     cases hg:gt env d with
     |gd i w' P' v'=>simp only[rd,hg]at hc;rw[hg]at hb hcb;simp only[V.strip]at hb hcb;refine⟨hc.1,?_⟩;cases v' <;> simp only[V.isB,a01]at hb;rename_i tt x;cases tt <;> simp only[a01]at hb;exact hcb
     |d tt x=>rw[hg]at hb hcb;cases tt <;> simp only[V.strip,V.isB,a01]at hb;exact hcb
     |_=>rw[hg]at hb;simp[V.strip,V.isB]at hb
   ·exact h.1
 |_=>simp only[adb,c8]
variable {B:Tab} {Φ:FuncId->Option Ct}
theorem ask{all rest:List Oper}{env:Env}{fs:List (Nat×Bool)}(hI:ach all rest env)(hf:Fs all env fs)(o:Oper)(M:Mem) :
  ∃vc,evR B Φ o env M=⟨vc,(evG B Φ all fs o env M).av,(evG B Φ all fs o env M).ev,(evG B Φ all fs o env M).M⟩/\(ae (evG B Φ all fs o env M).vc->ae vc):=by
 unfold evR evG;split
 ·rename_i c a b _;simp only[ad6,aw3,cp]
  cases hb:ba [(rd env c).strip.isB,(rd env a).strip.isB,(rd env b).strip.isB]with
  |false=>exact⟨_,rfl,id⟩
  |true=>
   refine⟨_,rfl,fun h=>?_⟩
   have hcB:(rd env c).strip.isB=true:=by
    simp only[ba]at hb
    cases hc:(rd env c).strip.isB with
    |true=>rfl
    |false=>rw[hc]at hb;cases hb
   simp only[a0b,qh]at h⊢;have hc:=alt hI hf [c] h.1;exact⟨hc,aqv hI hf hcB hc h.2.1,aqv hI hf hcB hc h.2.2⟩
 ·generalize c6 B Φ o (fun x=>(rd env x).strip) M=q;obtain⟨vc,v,e,M'⟩:=q;refine⟨_,rfl,fun h=>?_⟩;simp only[qh]at h⊢;exact⟨alt hI hf _ h.1,h.2⟩
theorem bk3:∀(e:List Ev) (v:V),ju v=true->v.evs e=v:=by
 intro e
 induction e with
 |nil=>intro v _;rfl
 |cons x e ih=>
  intro v h
  have key:∀v:V,ju v=true->v.ev x=v:=by
   intro v
   induction v with
   |gd j w P v ihv=>intro h;simp only[ju]at h;simp only[V.ev,ihv h]
   |d t y=>intro _;rfl
   |_=>intro h;simp[ju]at h
  simp only[V.evs,key v h];exact ih v h
theorem apn{d:Nat}{o:Oper}{r:List Oper}(h:wIn d (o::r)=false):o.dst≠some d/\wIn d r=false:=by
 simp only[wIn]at h
 cases hs:ak5 d o.dst with
 |true=>rw[hs]at h;cases h
 |false=>rw[hs]at h;refine⟨fun he=>?_,h⟩;rw[he,bdv]at hs;cases hs
theorem bam{d:Nat}:∀{a b:List Oper},wIn d (a++b)=false<->wIn d a=false/\wIn d b=false
 |[],b=>by simp[wIn]
 |o::a,b=>by
  simp only[a2p,wIn]
  cases ak5 d o.dst with
  |true=>simp
  |false=>simpa using bam
theorem ama(d:Option Nat)(v:V)(env:Env)(t:Nat):gt (wr d v env) t=if d=some t then v else gt env t:=ac4 d v env t
theorem avq:∀(t:T) (x:t.den),tj (jp t x)=false:=by intro t x;cases t <;> rfl
theorem az0(k:Nat)(π:bg)(e:Ev):tj (e.ref k π)=false:=by
 cases e with
 |fz r ob=>
  simp only[Ev.ref]
  cases Nat.beq k r with
  |false=>rfl
  |true=>
   simp only[a0b];split
   ·exact avq _ _
   ·rfl
 |cut r o o'=>simp only[Ev.ref];cases Nat.beq k r <;> cases yv π <;> rfl
 |mv r k'=>simp only[Ev.ref];cases Nat.beq k r <;> rfl
 |kl r=>simp only[Ev.ref];cases Nat.beq k r <;> rfl
 |un r j=>simp only[Ev.ref];cases Nat.beq k r <;> rfl
 |tk r o o'=>simp only[Ev.ref];cases Nat.beq k r <;> cases orb (yv π) (awn (trk π o) (trk π o')) <;> rfl
theorem bbf(k:Nat)(π:bg)(e:Ev):tj (e.ad k π)=false:=by
 cases e with
 |fz r ob=>
  simp only[Ev.ad]
  cases Nat.beq k r with
  |false=>rfl
  |true=>simp only[a0b];split <;> rfl
 |cut r o o'=>simp only[Ev.ad];cases Nat.beq k r <;> cases yg (qp π o) (qp π o') <;> rfl
 |tk r o o'=>simp only[Ev.ad];cases Nat.beq k r <;> cases yg (qp π o) (qp π o') <;> rfl
 |mv r k'=>simp only[Ev.ad];cases Nat.beq k r <;> rfl
 |kl r=>simp only[Ev.ad];cases Nat.beq k r <;> rfl
 |un r j=>
  simp only[Ev.ad]
  cases Nat.beq k r with
  |false=>rfl
  |true=>simp only[a0b];split <;> rfl
theorem au0{all:List Oper}{o:Oper}{rest:List Oper}{env env':Env}{v:V}(hI:ach all (o::rest) env)(hv:tj v=false)
  (he:∃e,∀t,gt env' t=(gt env t).evs e):ach all rest (wr o.dst v env'):=by
 obtain⟨e,he⟩:=he;intro t j w P x hx;rw[ama]at hx;split at hx
 ·subst hx;cases hv
 ·rw[he]at hx
  have hsh:∃y,gt env t=.gd j w P y:=by
   clear he;generalize gt env t=q at hx
   induction e generalizing q with
   |nil=>exact⟨x,hx⟩
   |cons z e ih=>
    simp only[V.evs]at hx;obtain⟨y,hy⟩:=ih _ hx
    cases q with
    |gd j' w' P' v'=>simp only[V.ev,V.gd.injEq]at hy;obtain⟨rfl,rfl,rfl,_⟩:=hy;exact⟨v',rfl⟩
    |ref k π=>have:=az0 k π z;simp only[V.ev]at hy;rw[hy]at this;cases this
    |ad k π=>have:=bbf k π z;simp only[V.ev]at hy;rw[hy]at this;cases this
    |_=>simp[V.ev]at hy
  obtain⟨y,hy⟩:=hsh;obtain⟨d,h1,h2,h3,h4⟩:=hI t j w P y hy;obtain⟨h5,h6⟩:=apn h4;have h7:gt (wr o.dst v env') d=gt env d:=by rw[ama,ds h5,he,bk3 e _ h3]
  exact⟨d,h1,h7▸h2,h7▸h3,h6⟩
theorem al6{all:List Oper}{o:Oper}{rest:List Oper}{env:Env}{j dj:Nat}{w:Bool}{v:V}(hI:ach all (o::rest) env)(hd:tb all j=some dj)(hg:ju (gt env dj)=true)(hw:wIn dj (o::rest)=false) :
  ach all rest (wr o.dst (.gd j w (gc (gt env dj) w) v) env):=by
 intro t i w' P x hx;rw[ama]at hx;split at hx
 ·cases hx;obtain⟨h5,h6⟩:=apn hw;have h7:∀q,gt (wr o.dst q env) dj=gt env dj:=fun q=>by rw[ama,ds h5]
  exact⟨dj,hd,by rw[h7],by rw[h7];exact hg,h6⟩
 ·obtain⟨d,h1,h2,h3,h4⟩:=hI t i w' P x hx;obtain⟨h5,h6⟩:=apn h4;have h7:∀q,gt (wr o.dst q env) d=gt env d:=fun q=>by rw[ama,ds h5]
  exact⟨d,h1,by rw[h7];exact h2,by rw[h7];exact h3,h6⟩
theorem bgk{all:List Oper}{env:Env}:Fs all env []:=fun _ _ h=>by cases h
theorem agq{all:List Oper}{K:Env->Mem->Prop}:∀(ops:List Oper) (env:Env) (M:Mem),ach all ops env->twG B Φ all ops env M K->tw B Φ all ops env M K
 |[],_,_,_,h=>h
 |o::rest,env,M,hI,h=>by
  simp only[twG]at h;simp only[tw]
  cases hgd:o.guard with
  |none=>
   rw[hgd]at h;obtain⟨vc,he,hvc⟩:=ask (B:=B) (Φ:=Φ) hI bgk o M;rw[he];generalize evG B Φ all [] o env M=q at h hvc⊢;obtain⟨vc',v,e,M'⟩:=q;simp only at h hvc⊢
   cases hv:tj v with
   |true=>rw[hv]at h;exact h.elim
   |false=>rw[hv]at h;simp only[a0g,ql]at h;rw[ql];exact⟨hvc h.1,agq rest _ _ (au0 hI hv ⟨e,fun t=>sv t e env⟩) h.2⟩
  |some g=>
   obtain⟨j,want⟩:=g;rw[hgd]at h;simp only at h⊢
   cases hd:tb all j with
   |none=>rw[hd]at h;exact h.elim
   |some dj=>
    rw[hd]at h;simp only at h⊢;by_cases hG:gc (gt env dj) want
    ·obtain⟨vc,he,hvc⟩:=ask (B:=B) (Φ:=Φ) hI (apy hI 8 j want dj hd hG) o M;rw[he];generalize evG B Φ all (r8 all env 8 j want) o env M=q at h hvc⊢;obtain⟨vc',v,e,M'⟩:=q;simp only[ba]at h hvc⊢;cases h1:ju (gt env dj) <;> rw[h1]at h <;> try exact h.elim
     cases h2:m6 o <;> rw[h2]at h <;> try exact h.elim
     cases h3:fb M e <;> rw[h3]at h <;> try exact h.elim
     cases h4:wIn dj (o::rest) <;> rw[h4]at h <;> try exact h.elim
     simp only[neg,a0b,a0g,ai1]at h⊢;exact⟨fun g=>hvc (h.1 g),agq rest _ _ (al6 hI hd h1 h4) h.2⟩
    ·have hev:(evR B Φ o env M).av=(evG B Φ all (r8 all env 8 j want) o env M).av/\(evR B Φ o env M).ev=(evG B Φ all (r8 all env 8 j want) o env M).ev/\(evR B Φ o env M).M=(evG B Φ all (r8 all env 8 j want) o env M).M:=by
      unfold evR evG;split
      ·simp only[ad6,aw3,cp];cases ba [_,_,_] <;> simp[bad]
      ·exact⟨rfl,rfl,rfl⟩
     generalize evG B Φ all (r8 all env 8 j want) o env M=q at h hev⊢;generalize evR B Φ o env M=q2 at hev⊢;obtain⟨vc',v,e,M'⟩:=q;obtain⟨vc2,v2,e2,M2⟩:=q2;simp only at hev;obtain⟨rfl,rfl,rfl⟩:=hev;simp only[ba]at h⊢;cases h1:ju (gt env dj) <;> rw[h1]at h <;> try exact h.elim
     cases h2:m6 o <;> rw[h2]at h <;> try exact h.elim
     cases h3:fb M e2 <;> rw[h3]at h <;> try exact h.elim
     cases h4:wIn dj (o::rest) <;> rw[h4]at h <;> try exact h.elim
     simp only[neg,a0b,a0g,ai1]at h⊢;exact⟨fun g=>absurd g hG,agq rest _ _ (al6 hI hd h1 h4) h.2⟩
theorem bnj{M M':Mem}(v:V):tj (avF M M' v)=false:=by
 cases v with
 |ref k π=>
  simp only[avF];split
  ·rfl
  ·split
   ·exact avq _ _
   ·rfl
 |ad k π=>
  simp only[avF];split
  ·rfl
  ·split <;> rfl
 |_=>rfl
theorem azg{all tl:List Oper}{K K':Env->Prop}(hK:∀env,ach all tl env->K' env->K env):∀(ops:List Oper) (env:Env) (M:Mem),ach all (ops++tl) env->dwG B Φ all tl ops env M K'->dw B Φ all ops env M K
 |[],env,_,hI,h=>hK env hI h
 |o::rest,env,M,hI,h=>by
  simp only[dwG]at h;simp only[dw]
  cases hgd:o.guard with
  |none=>
   rw[hgd]at h;obtain⟨vc,he,hvc⟩:=ask (B:=B) (Φ:=Φ) hI bgk o M;rw[he];generalize evG B Φ all [] o env M=q at h hvc⊢;obtain⟨vc',v,e,M'⟩:=q;simp only[ba]at h hvc⊢;cases h2:m6 o <;> rw[h2]at h <;> try exact h.elim
   cases h3:fb M e <;> rw[h3]at h <;> try exact h.elim
   simp only[a0b,ql]at h;simp only[a0b];rw[ql];exact⟨hvc h.1,azg hK rest _ _ (au0 hI (bnj v) ⟨[],fun t=>rfl⟩) h.2⟩
  |some g=>
   obtain⟨j,want⟩:=g;rw[hgd]at h;simp only at h⊢
   cases hd:tb all j with
   |none=>rw[hd]at h;exact h.elim
   |some dj=>
    rw[hd]at h;simp only at h⊢
    have hev:(evR B Φ o env M).av=(evG B Φ all (r8 all env 8 j want) o env M).av/\(evR B Φ o env M).ev=(evG B Φ all (r8 all env 8 j want) o env M).ev/\(evR B Φ o env M).M=(evG B Φ all (r8 all env 8 j want) o env M).M/\
      (gc (gt env dj) want->ae (evG B Φ all (r8 all env 8 j want) o env M).vc->ae (evR B Φ o env M).vc):=by
     refine⟨?_,?_,?_,fun hG=>?_⟩
     ·unfold evR evG;split
      ·simp only[ad6,aw3,cp];cases ba [_,_,_] <;> rfl
      ·rfl
     ·unfold evR evG;split <;> rfl
     ·unfold evR evG;split <;> rfl
     ·obtain⟨vc,he,hvc⟩:=ask (B:=B) (Φ:=Φ) hI (apy hI 8 j want dj hd hG) o M;rw[he];exact hvc
    generalize evG B Φ all (r8 all env 8 j want) o env M=q at h hev⊢;generalize evR B Φ o env M=q2 at hev⊢;obtain⟨vc',v,e,M'⟩:=q;obtain⟨vc2,v2,e2,M2⟩:=q2;simp only at hev;obtain⟨rfl,rfl,rfl,hvc⟩:=hev;simp only[ba]at h⊢;cases h1:ju (gt env dj) <;> rw[h1]at h <;> try exact h.elim
    cases h2:m6 o <;> rw[h2]at h <;> try exact h.elim
    cases h3:fb M e2 <;> rw[h3]at h <;> try exact h.elim
    cases h4:wIn dj (o::rest) <;> rw[h4]at h <;> try exact h.elim
    cases h5:wIn dj tl <;> rw[h5]at h <;> try exact h.elim
    simp only[neg,a0b,a0g,ai1]at h⊢;have h6:wIn dj (o::(rest++tl))=false:=by have:=(bam (a:=o::rest) (b:=tl)).2 ⟨h4,h5⟩;simpa using this
    exact⟨fun g=>hvc g (h.1 g),azg hK rest _ _ (al6 hI hd h1 h6) h.2⟩
theorem agc{all rest:List Oper}:∀{env:Env},nogd env=true->ach all rest env:=by
 intro env h t j w P v hx;exfalso
 induction env with
 |nil=>simp[gt]at hx
 |cons p env ih=>
  obtain⟨k,u0⟩:=p;simp only[nogd]at h
  cases hu:tj u0 with
  |true=>rw[hu]at h;cases h
  |false=>
   rw[hu]at h;simp only[gt]at hx
   cases hb:Nat.beq k t with
   |true=>rw[hb]at hx;simp only[a0b]at hx;subst hx;cases hu
   |false=>rw[hb]at hx;exact ih h hx
end Go.Bm
/- The du machine:drawn regions that make boxes and fill them. -/
namespace Go.Bm
open Go.RowKit
variable {B:Tab} {Φ:FuncId->Option Ct}
theorem aax{env:Env}:∀{l:List Operand},agx env l=true->∀x∈l,cw (rd env x)=true
 |[],_,x,h=>by cases h
 |y::l,hd,x,h=>by
  simp only[agx,ak,a0a]at hd
  cases h with
  |head=>exact hd.1
  |tail _ h=>exact aax hd.2 x h
theorem aqa(k:Nat)(M M':Mem):∀(t:T) (v:V),cw v=true->∀q e X,conv k t v M'=some (q,e,X)->e=[]/\X=M'/\conv k t v M=some (q,[],M):=by
 intro t v
 induction v generalizing t with
 |p a b iha ihb=>
  intro h q e X hc;simp only[cw,ak,a0a]at h;cases t <;> simp only[conv]at hc <;> try cases hc
  rename_i t1 t2
  cases h1:conv k t1 a M' with
  |none=>rw[h1]at hc;cases hc
  |some r=>
   obtain⟨q1,e1,X1⟩:=r;rw[h1]at hc;obtain⟨rfl,hX1,i1⟩:=iha _ h.1 _ _ _ h1;rw[hX1]at hc;simp only[V.evs]at hc
   cases h2:conv k t2 b M' with
   |none=>rw[h2]at hc;cases hc
   |some r2=>obtain⟨q2,e2,X2⟩:=r2;rw[h2]at hc;obtain⟨rfl,hX2,i2⟩:=ihb _ h.2 _ _ _ h2;cases hc;refine⟨rfl,hX2,?_⟩;simp only[conv,i1,V.evs,i2,ap]
 |u=>intro _ q e X hc;cases t <;> simp only[conv]at hc⊢ <;> cases hc <;> exact⟨rfl,rfl,rfl⟩
 |d t' x=>intro _ q e X hc;cases t <;> simp only[conv]at hc⊢ <;> cases hc <;> exact⟨rfl,rfl,rfl⟩
 |nl=>intro _ q e X hc;cases t <;> simp only[conv]at hc⊢ <;> cases hc <;> exact⟨rfl,rfl,rfl⟩
 |np=>intro _ q e X hc;cases t <;> simp only[conv]at hc⊢ <;> cases hc <;> exact⟨rfl,rfl,rfl⟩
 |fn f v ih=>intro h q e X hc;cases v <;> cases t <;> simp only[conv]at hc⊢ <;> cases hc <;> exact⟨rfl,rfl,rfl⟩
 |ag v ih=>intro _ q e X hc;cases t <;> simp only[conv]at hc <;> cases hc
 |bx v ih=>intro _ q e X hc;cases t <;> simp only[conv]at hc <;> cases hc
 |_=>intro h;cases h
theorem bhd{v:V}(h:cw v=true):cw v.cells=true:=by cases v <;> exact h
def boa(B:Tab)(Φ:FuncId->Option Ct)(o:Oper)(e:Env)(x:Mem)(e':Env)(x':Mem):Prop:=
 o.guard=none/\(
  (∃ty d,o.op=.alloc ty/\o.dst=some d/\ba [(B.τ ty).ok,B.z ty]=true/\go x d=none/\e'=(d,.ad d [.de])::e/\x'=(d,bkf B ty)::x)\/
  (∃t d y ob ob',o.op=.store t (.tmp d) y/\o.dst=none/\go x d=some ob/\cw (rd e y)=true/\bou d (gt e d)=true/\one1 d (ab3 B t (.ad d [.de]) (rd e y) [(d,ob)])=some ob'/\e'=e/\x'=put d ob' x)\/
  (∃d vc v,o.dst=some d/\w4 o.op=true/\agx e (b8 o.op)=true/\evR B Φ o e []=⟨vc,v,[],[]⟩/\cw v=true/\ae vc/\e'=(d,v)::e/\x'=x))
theorem St.same{F:Fr}{p:Ow}{env env':Env}{M M':Mem}{a:Act}{w:World}(h:St F p env M a w)(hM:∀k,go M' k=go M k)(he:∀t,gt env' t=gt env t):St F p env' M' a w:=by
 have hl:∀k,ck M' k<->ck M k:=fun k=>by simp only[ck,hM]
 have hi:Imm F p M' w=Imm F p M w:=by
  funext b
  simp only[Imm,hl]
 have hp:Hp F p M' w:=by refine⟨fun k ob hk=>?_,fun k k' b h1 h2 h3=>h.hp.sep k k' b h1 ((hl k).1 h2) ((hl k').1 h3),fun k b h1=>h.hp.own k b ((hl k).1 h1),fun b hb=>⟨(h.hp.lim b hb).1,(h.hp.lim b hb).2.1,fun k hk=>(h.hp.lim b hb).2.2 k ((hl k).1 hk)⟩,h.hp.os,h.hp.tape,h.hp.output,h.hp.size,h.hp.old⟩;rw[hi];exact h.hp.objs k ob (by rw[←hM];exact hk)
 have ht:Tr F p M w [] p M' w:=Tr.zero (by rw[hi];exact gl.refl _ _) (fun k π vs r=>r.same h.hp (hM k) rfl fun _ _ _=>rfl) (fun k π v r=>r.same h.hp (hM k) rfl fun _ _ _=>rfl) hp;exact (h.tr ht h.lz).weak fun t=>.inr (by rw[he];rfl)
section
variable {F:Fr} {P:Program} {all:Array Oper} {E:Nat->Env} {X:Nat->Mem} {M0:Mem}
structure Sta (B:Tab) (all:Array Oper) (E:Nat->Env) (X:Nat->Mem) (M0:Mem) (listed:Array Bool) (env:Env) (M:Mem):Prop where
 a:∀t,(∀(i:Nat) (o:Oper),all[i]? = some o->isL listed i->o.dst≠some t)->gt env t=gt (E 0) t
 b:∀(i:Nat) (o:Oper) (t:Nat),all[i]? = some o->isL listed i->o.dst=some t->gt env t=gt (E (i+1)) t
 c:∀k,(∀(i:Nat) (o:Oper) (ty:TypeId),all[i]? = some o->isL listed i->o.op=.alloc ty->o.dst≠some k)->go M k=go M0 k
 d:∀(i:Nat) (o:Oper) (k:Nat) (ty:TypeId),all[i]? = some o->isL listed i->o.op=.alloc ty->o.dst=some k->(∀(s:Nat) (o':Oper),all[s]? = some o'->isL listed s->tgt o'≠some k)->go M k=some (bkf B ty)
 s:∀(s:Nat) (o:Oper) (k:Nat),all[s]? = some o->isL listed s->tgt o=some k->go M k=go (X (s+1)) k
structure Ctx (B:Tab) (Φ:FuncId->Option Ct) (all:Array Oper) (E:Nat->Env) (X:Nat->Mem) (M0:Mem):Prop where
 hb:vo 0 all.toList=true
 hdr:ad1 all (d9 [] all.toList) all.size=true
 hnd:ayp (bd9 all.toList)=true
 hE:∀(j:Nat) (o:Oper),all[j]? = some o->boa B Φ o (E j) (X j) (E (j+1)) (X (j+1))
 hX:X 0=[]
 h0:∀t (i:Nat) (o:Oper) (ty:TypeId) (k:Nat),all[i]? = some o->o.op=.alloc ty->o.dst=some k->(gt (E 0) t).ev (.kl k)=gt (E 0) t
 hM:∀(i:Nat) (o:Oper) (ty:TypeId) (k:Nat),all[i]? = some o->o.op=.alloc ty->o.dst=some k->go M0 k=none
theorem aue{listed:Array Bool}{i j:Nat}(hj:j<listed.size):isL (listed.setIfInBounds j true) i<->i=j\/isL listed i:=by
 by_cases e:i=j
 ·subst e;simp[isL,hj]
 ·unfold isL;rw[a2q false (a0v e)];simp[e]
theorem ac3(X M:Mem)(k:Nat):go (ap X M) k=match go X k with|some ob=>some ob|none=>go M k:=by
 induction X with
 |nil=>rfl
 |cons x X ih=>
  obtain⟨j,ob⟩:=x;simp only[ap,dh];split
  ·rfl
  ·exact ih
theorem bmj(hΦ:qj P F Φ)(hB:TabOk P B)(hmix:P.follows .mixedOrders=true){id:Nat}{ops:Array Oper}(hco:k9 F.nt (toL ops)=true)(hfv:∀o∈toL ops,∀k,o.dst=some k->F.fv k=none)(hr:bj3 (toL ops)=true){K:Env->Mem->Prop}{Q:Exit->Act->World->Prop}
  (hQ:∀p env M a w,St F p env M a w->K env M->Q .normal a w) {p:Ow} {env:Env} {M:Mem} {a:Act} {w:World} (h:St F p env M a w)
  (hk:bx B Φ (toL ops) (klE (ace (toL ops)) env) [] (fun env X=>K env (ap X (klM (ace (toL ops)) M)))):(Code.region id ops true).wp P Q a w:=by
 exact False.elim hk
end
end Go.Bm
/- The du machine:drawn regions whose calls give own trees. -/
namespace Go.Bm
open Go.RowKit
section
variable {P:Program} {B:Tab} {Φ:FuncId->Option Ct}
def agK(M M0:Mem)(k:Nat):Prop:=go M k=go M0 k/\go M0 k≠none
def agV(M M0:Mem):V->Prop
 |.p a b=>agV M M0 a/\agV M M0 b
 |.ag v=>agV M M0 v
 |.fn _ v=>agV M M0 v
 |.bx v=>agV M M0 v
 |.ref k _=>agK M M0 k
 |.ad k _=>agK M M0 k
 |.gd _ _ _ _=>False
 |.ifc _ _=>False
 |.tup _=>False
 |_=>True
section
variable {M0 M:Mem}
theorem bgg{k:Nat}(h:agK M M0 k):go M k=go M0 k:=h.1
theorem vt{k:Nat}(h:agK M M0 k)(π:bg):mt M k π=mt M0 k π:=by unfold mt;rw[bgg h]
theorem ak0:∀v:V,agV M M0 v->v.size M=v.size M0
 |.d _ _,_=>rfl
 |.nl,_=>rfl
 |.np,_=>rfl
 |.u,_=>rfl
 |.p a b,h=>by simp only[agV]at h;simp only[V.size,ak0 a h.1,ak0 b h.2]
 |.ag v,h=>rfl
 |.fn f v,h=>rfl
 |.bx v,h=>rfl
 |.any,h=>rfl
 |.ref k π,h=>by simp only[V.size,vt h]
 |.ad _ _,h=>rfl
 |.tup _,h=>by cases h
 |.gd _ _ _ _,h=>by cases h
 |.ifc _ _,h=>by cases h
theorem yn(v:V)(n:Nat)(h:agV M M0 v):jl M v n=jl M0 v n:=by simp only[jl,ak0 v h]
theorem aah:∀v:V,cw v=true->agV M M0 v
 |.p a b,h=>by simp only[cw,ak,a0a]at h;simp only[agV];exact⟨aah a h.1,aah b h.2⟩
 |.ag v,h=>aah v h
 |.fn f v,h=>aah v h
 |.bx v,h=>aah v h
 |.d _ _,_=>trivial
 |.nl,_=>trivial
 |.np,_=>trivial
 |.u,_=>trivial
 |.any,h=>by cases h
 |.ref _ _,h=>by cases h
 |.ad _ _,h=>by cases h
 |.tup _,h=>by cases h
 |.gd _ _ _ _,h=>by cases h
 |.ifc _ _,h=>by cases h
theorem azk:∀(t:T) (x:t.den),cw (jp t x)=true:=by
 intro t
 induction t with
 |p a b iha ihb=>intro x;simp only[jp,cw,ak,a0a];exact⟨iha x.1,ihb x.2⟩
 |_=>intro x;rfl
theorem blg{k:Nat}(h:agK M M0 k):∀(π:bg) (o:O) (x:o.strip.den),agV M M0 (toV k π o x):=by
 intro π o x
 cases o with
 |fz t=>simp only[toV];exact aah _ (azk _ _)
 |_=>exact h
theorem ago:∀(π:bg) (v:V),agV M M0 v->gm M π v=gm M0 π v/\∀n x,gm M0 π v=some (n,x)->agV M M0 x
 |[],v,h=>by simp only[gm,a0d,a0k];exact⟨trivial,fun n x e=>e.2▸h⟩
 |.l::π,.p a b,h=>by simp only[agV]at h;simp only[gm];exact ago π a h.1
 |.r::π,.p a b,h=>by
  simp only[agV]at h;obtain⟨e1,e2⟩:=ago π b h.2;simp only[gm,e1,ak0 a h.1];refine⟨trivial,fun n x hx=>?_⟩;split at hx
  ·rename_i m n' x' _ h2;cases hx;exact e2 _ _ h2
  ·cases hx
 |s::π,.ref k ρ,h=>by
  have hk:agK M M0 k:=h
  have e:∀M:Mem,gm M (s::π) (.ref k ρ)=(match mt M k ρ,mt M k (ap ρ (s::π))with
   |some q,some q'=>(match ca (s::π) q.o.strip with|some n=>some (n,toV k (ap ρ (s::π)) q'.o q'.x)|none=>none)
   |_,_=>none):=fun M=>by cases s <;> rfl
  rw[e,e,vt hk,vt hk];refine⟨rfl,fun n x hx=>?_⟩;split at hx
  ·split at hx
   ·cases hx;exact blg hk _ _ _
   ·cases hx
  ·cases hx
 |.de::π,.p a b,_=>by simp[gm]
 |.ix _::π,.p a b,_=>by simp[gm]
 |.l::π,.d _ _,_=>by simp[gm]
 |.r::π,.d _ _,_=>by simp[gm]
 |.de::π,.d _ _,_=>by simp[gm]
 |.ix _::π,.d _ _,_=>by simp[gm]
 |_::π,.nl,_=>by simp[gm]
 |_::π,.np,_=>by simp[gm]
 |_::π,.u,_=>by simp[gm]
 |_::π,.ag _,_=>by simp[gm]
 |_::π,.fn _ _,_=>by simp[gm]
 |_::π,.bx _,_=>by simp[gm]
 |_::_,.any,h=>by simp[gm]
 |_::_,.ad _ _,h=>by simp[gm]
 |_::_,.tup _,h=>by cases h
 |_::_,.gd _ _ _ _,h=>by cases h
 |_::_,.ifc _ _,h=>by cases h
theorem azy(x:V)(π:bg)(off:Nat)(h:agV M M0 x):akh M x π off=akh M0 x π off:=by
 cases x with
 |ad k ρ=>simp only[akh,vt h]
 |bx v=>simp only[agV]at h;simp only[akh,(ago π v h).1]
 |d t y=>cases t <;> rfl
 |_=>rfl
theorem bdh(τ:Ty)(x:V)(i:Nat)(h:agV M M0 x):agi τ M x i=agi τ M0 x i:=by simp only[agi,azy x _ _ h]
theorem bfv{B:Tab}(τ:Ty)(x:V)(i:Nat)(h:agV M M0 x):ake B τ M x i=ake B τ M0 x i:=by
 unfold ake;split
 ·rename_i off ft _ v _;simp only[agV]at h;obtain⟨e1,e2⟩:=ago (ae1 (len τ.fld) i) v h;rw[e1]
  cases hs:gm M0 (ae1 (len τ.fld) i) v with
  |none=>rfl
  |some q=>obtain⟨n,w⟩:=q;simp only[yn w _ (e2 _ _ hs)]
 ·rfl
theorem be0{B:Tab}(τ:Ty)(x i:V)(h:agV M M0 x):akg B τ M x i=akg B τ M0 x i:=by
 unfold akg;split
 ·cases x with
  |ref k π=>simp only[vt h]
  |d t x=>cases t <;> rfl
  |_=>rfl
 ·rfl
theorem bgh{B:Tab}(τ:Ty)(x i:V)(h:agV M M0 x):aj0 B τ M x i=aj0 B τ M0 x i:=by
 unfold aj0;split
 ·simp only[bc7,azy x _ _ h]
 ·exact be0 τ x i h
theorem bi3(τ:Ty)(d:Option Nat){x:V}(h:agV M M0 x):(zr τ M d x=none)=(zr τ M0 d x=none):=by
 cases x <;> try rfl
 rename_i k π;have hg:=h;simp only[agV]at hg
 cases π with
 |nil=>rfl
 |cons s π=>
  cases s <;> try rfl
  cases π with
  |nil=>
   cases d with
   |none=>rfl
   |some d=>simp only[zr,bgg hg];generalize go M0 k=z;split <;> simp
  |cons _ _=>rfl
theorem beg(τ:Ty)(x:V)(h:agV M M0 x):wg τ M x=wg τ M0 x:=by
 cases x with
 |ad k π=>simp only[wg,vt h]
 |bx v=>simp only[agV]at h;simp only[wg,yn _ _ h]
 |d t x=>cases t <;> rfl
 |_=>rfl
theorem baa{B:Tab}{s d:TypeId}{x:V}(h:agV M M0 x):acw B s d M x=acw B s d M0 x:=by
 have:auf M x=auf M0 x:=by
  cases x with
  |ref k π=>simp only[auf,vt h]
  |_=>rfl
 simp only[acw,this]
theorem bf7{τ:Ty}{x:V}(h:agV M M0 x):akb τ M x=akb τ M0 x:=by
 cases x with
 |ref k π=>simp only[akb,vt h]
 |d t y=>cases t <;> first|rfl|(rename_i t y;cases t <;> rfl)|(rename_i t;cases t <;> rfl)
 |_=>rfl
theorem azf{k:Nat}(h:agK M M0 k)(π:bg)(t:T):amn M k π t=amn M0 k π t:=by unfold amn;rw[vt h]
theorem bjj:∀(v:V) (t:T),agV M M0 v->v.view M t=v.view M0 t:=by
 intro v
 induction v with
 |p a b iha ihb=>intro t h;simp only[agV]at h;cases t <;> first|rfl|(simp only[V.view];rw[iha _ h.1,ihb _ h.2])
 |fn f v ih=>intro t h;cases t <;> first|rfl|(simp only[V.view];rw[ih _ h])
 |bx v ih=>intro t h;cases t <;> first|rfl|(simp only[V.view];rw[ih _ h])
 |ref k π=>intro t h;cases t <;> simp only[V.view] <;> exact azf h _ _
 |ad k π=>intro t h;cases t <;> first|rfl|(simp only[V.view];exact azf h _ _)
 |gd _ _ _ _=>intro t h;cases h
 |any=>intro t h;cases t <;> rfl
 |tup _=>intro t h;cases h
 |ifc _ _=>intro t h;cases h
 |ag v=>intro t h;cases t <;> rfl
 |d t' x=>intro t h;cases t <;> rfl
 |nl=>intro t h;cases t <;> rfl
 |np=>intro t h;cases t <;> rfl
 |u=>intro t h;cases t <;> rfl
theorem au3{v:V}(h:agV M M0 v):agV M M0 v.cells:=by cases v <;> exact h
theorem avh:∀(vs:List V) (ts:List T),(∀v∈vs,agV M M0 v)->ua M vs ts=ua M0 vs ts
 |[],[],_=>rfl
 |[],_::_,_=>rfl
 |_::_,[],_=>rfl
 |v::r,t::ts,h=>by simp only[ua];rw[bjj v.cells t (au3 (h v (by simp))),avh r ts fun x hx=>h x (by simp[hx])]
theorem biz:∀(v:V) (M:Mem),(br M v).1=[]\/∃k ob r,(br M v).1=.fz k ob::r:=by
 intro v
 induction v with
 |p a b iha ihb=>
  intro M;simp only[br];rcases iha M with h|⟨k,ob,r,h⟩
  ·rw[h];rcases ihb (br M a).2 with h2|⟨k,ob,r,h2⟩
   ·rw[h2];exact .inl rfl
   ·rw[h2];exact .inr ⟨k,ob,r,rfl⟩
  ·rw[h];exact .inr ⟨k,ob,_,rfl⟩
 |ref k π=>intro M;simp only[br];cases go M k <;> simp
 |ad k π=>intro M;simp only[br];cases go M k <;> simp
 |ag v ih=>intro M;simp only[br];exact ih M
 |fn f v ih=>intro M;simp only[br];exact ih M
 |ifc f v ih=>intro M;simp only[br];exact ih M
 |bx v ih=>intro M;simp only[br];exact ih M
 |tup v ih=>intro M;simp only[br];exact ih M
 |gd _ _ _ v ih=>intro M;simp only[br];exact ih M
 |_=>intro M;exact .inl rfl
theorem auz:∀(vs:List V) (M:Mem),(l8 M vs).1=[]\/∃k ob r,(l8 M vs).1=.fz k ob::r
 |[],M=>.inl rfl
 |v::vs,M=>by
  simp only[l8];rcases biz v M with h|⟨k,ob,r,h⟩
  ·rw[h];rcases auz vs (br M v).2 with h2|⟨k,ob,r,h2⟩
   ·rw[h2];exact .inl rfl
   ·rw[h2];exact .inr ⟨k,ob,r,rfl⟩
  ·rw[h];exact .inr ⟨k,ob,_,rfl⟩
theorem at7{α:Type}{a b:List α}(h:ap a b=[]):a=[]/\b=[]:=by cases a <;> simp[ap]at h⊢;exact h
theorem blp:∀(v:V),agV M M0 v->(br M0 v).1=[]->∀M1:Mem,br M1 v=([],M1):=by
 intro v
 induction v with
 |p a b iha ihb=>intro h e M1;simp only[agV]at h;simp only[br]at e⊢;obtain⟨e1,e2⟩:=at7 e;have ha:=iha h.1 e1;rw[ha M0]at e2;simp only at e2;rw[ha M1];simp only;rw[ihb h.2 e2 M1];rfl
 |fn f v ih=>intro h e M1;simp only[br]at e⊢;exact ih h e M1
 |bx v ih=>intro h e M1;simp only[br]at e⊢;exact ih h e M1
 |ag v ih=>intro h e M1;simp only[br]at e⊢;exact ih h e M1
 |ref k π=>
  intro h e M1;simp only[br]at e
  cases hg:go M0 k with
  |none=>exact absurd hg h.2
  |some ob=>rw[hg]at e;cases e
 |ad k π=>
  intro h e M1;simp only[br]at e
  cases hg:go M0 k with
  |none=>exact absurd hg h.2
  |some ob=>rw[hg]at e;cases e
 |gd _ _ _ _=>intro h;cases h
 |any=>intro h e M1;rfl
 |tup _=>intro h;cases h
 |ifc _ _=>intro h;cases h
 |d t' x=>intro h e M1;rfl
 |nl=>intro h e M1;rfl
 |np=>intro h e M1;rfl
 |u=>intro h e M1;rfl
theorem azm:∀vs:List V,(∀v∈vs,agV M M0 v)->(l8 M0 vs).1=[]->∀M1:Mem,l8 M1 vs=([],M1)
 |[],_,_,_=>rfl
 |v::r,h,e,M1=>by simp only[l8]at e⊢;obtain⟨e1,e2⟩:=at7 e;have ha:=blp v (h v (by simp)) e1;rw[ha M0]at e2;simp only at e2;rw[ha M1];simp only;rw[azm r (fun x hx=>h x (by simp[hx])) e2 M1];rfl
theorem ayw:∀vs:List V,pu [] vs=vs
 |[]=>rfl
 |v::r=>by simp only[pu,V.evs];rw[ayw r]
theorem apx:∀(π:bg) (v x:V),agV M M0 v->agV M M0 x->∀v',ig π v x=some v'->agV M M0 v'
 |[],v,x,_,hx,v',h=>by simp only[ig,a0d]at h;subst h;exact hx
 |.l::π,v,x,hv,hx,v',h=>by
  cases v with
  |p a b=>
   simp only[agV]at hv;simp only[ig]at h
   cases hs:ig π a x with
   |none=>rw[hs]at h;cases h
   |some a'=>rw[hs]at h;simp only[a0d]at h;subst h;exact⟨apx π a x hv.1 hx a' hs,hv.2⟩
  |_=>simp[ig]at h
 |.r::π,v,x,hv,hx,v',h=>by
  cases v with
  |p a b=>
   simp only[agV]at hv;simp only[ig]at h
   cases hs:ig π b x with
   |none=>rw[hs]at h;cases h
   |some b'=>rw[hs]at h;simp only[a0d]at h;subst h;exact⟨hv.1,apx π b x hv.2 hx b' hs⟩
  |_=>simp[ig]at h
 |.ix _::_,v,x,_,_,v',h=>by cases v <;> simp[ig]at h
 |.de::_,v,x,_,_,v',h=>by cases v <;> simp[ig]at h
theorem ao5:∀t:T,agV M M0 (sd t)
 |.p a b=>⟨ao5 a,ao5 b⟩
 |.sl _=>trivial
 |.u=>trivial
 |.pt _=>trivial
 |.fn _ _=>trivial
 |.ifc _ _=>trivial
 |.mp _ _=>trivial
 |.op _=>trivial
 |.ns _=>trivial
 |.er _=>trivial
 |.int _=>trivial
 |.bool=>trivial
 |.str=>trivial
 |.any=>trivial
theorem aoj(place:Nat->Option (bg×Nat×Nat))(f:Operand->V):∀(ps:List (Nat×Operand)) (v:V),(∀x∈b8.snds ps,agV M M0 (f x))->agV M M0 v->rm M place f ps v=rm M0 place f ps v
 |[],_,_,_=>rfl
 |(i,x)::r,v,hf,hv=>by
  simp only[rm]
  cases place i with
  |none=>rfl
  |some q=>
   obtain⟨π,off,n⟩:=q;simp only;obtain⟨e1,e2⟩:=ago π v hv;rw[e1];have hx:=au3 (hf x (by simp[b8.snds]))
   cases hs:gm M0 π v with
   |none=>rfl
   |some q=>
    obtain⟨m,w⟩:=q;simp only[yn w n (e2 m w hs),yn _ n hx]
    cases hq:ig π v (f x).cells with
    |none=>rfl
    |some v'=>simp only[aoj place f r v' (fun y hy=>hf y (by simp[b8.snds,hy])) (apx π v _ hv hx v' hq)]
theorem bia:∀(v:V),agV M M0 v->pg M v=pg M0 v/\∀cs,pg M0 v=some cs->∀c∈cs,agV M M0 c:=by
 intro v
 induction v with
 |p a b iha ihb=>
  intro h;simp only[agV]at h;obtain⟨h1,h2⟩:=ihb h.2;simp only[pg];rw[h1,yn a 1 h.1];refine⟨rfl,fun cs hcs=>?_⟩
  cases hb:pg M0 b with
  |none=>rw[hb]at hcs;cases hcs
  |some r=>
   rw[hb]at hcs;simp only at hcs
   cases hz:jl M0 a 1 with
   |false=>rw[hz]at hcs;cases hcs
   |true=>
    rw[hz]at hcs;simp only[a0b,a0d]at hcs;subst hcs;intro c hc;rcases a0u.1 hc with rfl|hc
    ·exact h.1
    ·exact h2 r hb c hc
 |u=>intro _;exact⟨rfl,fun cs h=>by simp only[pg,a0d]at h;subst h;intro c hc;cases hc⟩
 |_=>intro _;exact⟨rfl,fun cs h=>by simp[pg]at h⟩
theorem bm6{x v:V}{f:FuncId}(h:agV M M0 x)(hf:aic x=some (f,v)):agV M M0 v:=by
 cases x with
 |fn g y=>simp only[aic,a0d,a0k]at hf;obtain⟨_,rfl⟩:=hf;exact h
 |d t y=>
  cases t with
  |fn g t=>simp only[aic,a0d,a0k]at hf;obtain⟨_,rfl⟩:=hf;exact aah _ (azk _ _)
  |_=>simp[aic]at hf
 |_=>simp[aic]at hf
theorem nq{v:V}(h:agV M M0 v):v.strip=v:=by cases v <;> first|rfl|cases h
theorem aja{β:Nat->Value}{Im:Nat->Prop}{w:World}(hk:∀k,go M0 k≠none->go M k≠none->go M k=go M0 k):∀(v:V),aam M0 v=true->∀vs,aa β M Im w v vs->agV M M0 v:=by
 have key:∀k,neg (isN (go M0 k))=true->go M k≠none->agK M M0 k:=fun k h h2=>by
  have:go M0 k≠none:=fun e=>by rw[e]at h;cases h
  exact⟨hk k this h2,this⟩
 intro v
 induction v with
 |p a b iha ihb=>intro h vs r;simp only[aam,ak,a0a]at h;simp only[aa]at r;obtain⟨va,vb,_,h1,h2⟩:=r;exact⟨iha h.1 _ h1,ihb h.2 _ h2⟩
 |ref j π=>intro h vs r;simp only[aa]at r;obtain⟨ob,_,h1,_⟩:=r;exact key j h (by rw[h1];simp)
 |ad j π=>intro h vs r;simp only[aa]at r;obtain⟨_,_,ob,_,_,_,h1,_⟩:=r;exact key j h (by rw[h1];simp)
 |fn f v ih=>intro h vs r;simp only[aa]at r;obtain⟨us,_,h1⟩:=r;exact ih h _ h1
 |bx v ih=>intro h vs r;simp only[aa]at r;obtain⟨_,_,us,_,_,_,h1⟩:=r;exact ih h _ h1
 |ag v=>intro h vs r;simp only[aa]at r
 |tup v=>intro h;cases h
 |gd _ _ _ v=>intro h;cases h
 |ifc _ v=>intro h;cases h
 |_=>intro h vs r;trivial
theorem bnf{β:Nat->Value}{Im:Nat->Prop}{w:World}(hk:∀k,go M0 k≠none->go M k≠none->go M k=go M0 k)(v:V)(h:aam M0 v=true)(u:Value)(r:af β M Im w v u):agV M M0 v:=by
 cases v with
 |ag v=>simp only[af]at r;obtain⟨vs,_,r⟩:=r;exact aja hk v h _ r
 |any=>trivial
 |tup v=>cases h
 |gd _ _ _ v=>cases h
 |ifc _ v=>cases h
 |p a b=>simp only[af]at r;exact aja hk _ h _ r
 |u=>trivial
 |ref j π=>simp only[af]at r;exact aja hk _ h _ r
 |ad j π=>simp only[af]at r;exact aja hk _ h _ r
 |d t x=>trivial
 |nl=>trivial
 |np=>trivial
 |fn f v=>simp only[af]at r;exact aja hk _ h _ r
 |bx v=>simp only[af]at r;exact aja hk _ h _ r
theorem aff{env:Env}:∀{l:List Operand},ajg M0 env l=true->∀x∈l,aam M0 (rd env x)=true
 |[],_,x,h=>by cases h
 |y::l,hd,x,h=>by
  simp only[ajg,ak,a0a]at hd
  cases h with
  |head=>exact hd.1
  |tail _ h=>exact aff hd.2 x h
theorem bo1{env:Env}(x:Operand)(h:∀t,x≠.tmp t):agV M M0 (rd env x):=by
 cases x with
 |tmp t=>exact absurd rfl (h t)
 |const v=>
  cases v with
  |slice a n m=>
   simp only[rd]
   cases a with
   |none=>simp only[rdV];cases nob (Nat.beq n 0) (Nat.beq m 0) <;> trivial
   |some _=>trivial
  |pointer a=>cases a <;> trivial
  |_=>trivial
 |func f=>trivial
 |global g=>trivial
end
theorem bc{M:Mem}{vc:List Prop}{v:V}{e:List Ev}{N:Mem}(h:bp M=⟨vc,v,e,N⟩)(hv:ae vc):False:=by simp only[bp,Rs.mk.injEq]at h;rw[←h.1]at hv;simp[ae]at hv
theorem dq{f:Operand->V}{l:List Operand}{vc:List Prop}(h:ae (ap (po f l) vc)):ae vc:=by rw[qh]at h;exact h.2
theorem bcj{ks:Mem}{r:Mem}:fa (len (klL (bz ks))) (ap ks r)=ks:=by
 induction ks with
 |nil=>simp[bz,klL,len,fa]
 |cons q ks ih=>obtain⟨k,ob⟩:=q;simp only[bz,klL,len,ap,fa];rw[ih]
theorem biq{k:Nat}{ob:Ob}{r e:List Ev}{N:Mem}(h:klB (ap (.fz k ob::r) e) N=true):False:=by cases N <;> simp[ap,klB]at h
theorem bl2{k:Nat}{o:O}{r:List Ev}:∀(e:List Ev) (N:Mem),klB (ap e (.cut k o o::r)) N=false:=fun e=>by
 induction e with
 |nil=>intro N;cases N <;> rfl
 |cons x e ih=>intro N;cases x <;> cases N <;> first|rfl|(rename_i q N;obtain⟨j,ob⟩:=q;simp only[ap,klB,ih,ak,Bool.and_false])
theorem avr{k:Nat}{W:Wt}{d:Nat}{r:List V}{M:Mem}{vc:List Prop}{v:V}{e:List Ev}{N N':Mem}(h:u5 k W d r M=⟨vc,v,e,N⟩)(hv:ae vc)(he:klB e N'=true):False:=by
 unfold u5 at h
 cases hb:shp r W.ag with
 |false=>rw[hb]at h;exact bc h hv
 |true=>
  rw[hb]at h;simp only[a0b]at h;split at h
  ·split at h
   ·(try simp only at h)
    cases hi:inN _ _ with
    |true=>rw[hi]at h;exact bc h hv
    |false=>rw[hi]at h;simp only[a0g,Rs.mk.injEq]at h;obtain⟨_,_,rfl,_⟩:=h;rw[bl2]at he;cases he
   ·exact bc h hv
  ·exact bc h hv
theorem bi7{W:Wt}{d:Nat}{r:List V}{M:Mem}{vc:List Prop}{v:V}{e:List Ev}{N N':Mem}(h:aae W d r M=⟨vc,v,e,N⟩)(hv:ae vc)(he:klB e N'=true):False:=by
 unfold aae at h;split at h
 ·split at h
  ·cases hb:aj1 W.o with
   |false=>rw[hb]at h;exact bc h hv
   |true=>rw[hb]at h;exact avr h hv he
  ·split at h
   ·cases hb:slO W.o with
    |false=>rw[hb]at h;exact bc h hv
    |true=>rw[hb]at h;exact avr h hv he
   ·exact bc h hv
 ·exact bc h hv
theorem bnq{W:Wc}{r:List V}{M:Mem}{vc:List Prop}{v:V}{e:List Ev}{N N':Mem}(h:ahh W r M=⟨vc,v,e,N⟩)(hv:ae vc)(he:klB e N'=true):False:=by
 unfold ahh at h;split at h
 ·cases hb:nob _ _ with
  |false=>rw[hb]at h;exact bc h hv
  |true=>
   rw[hb]at h;simp only[a0b]at h;split at h
   ·split at h
    ·simp only[Rs.mk.injEq]at h;obtain⟨_,_,rfl,_⟩:=h;cases N' <;> simp[klB]at he
    ·exact bc h hv
   ·exact bc h hv
 ·exact bc h hv
theorem ber{M0 M:Mem}{ct:Ct}{d:Nat}{vs:List V}(hd:∀v∈vs,agV M M0 v){vc:List Prop}{v:V}{e:List Ev}{N:Mem}(h:w5 ct d vs M0=⟨vc,v,e,N⟩)(hv:ae vc)(he:klB e (fa (len e) N)=true) :
  w5 ct d vs M=⟨vc,v,e,ap (fa (len e) N) (pf (bz (fa (len e) N)) M)⟩:=by
 unfold w5 at h⊢
 cases hmu:ct.mu with
 |some mu=>
  cases mu with
  |m m=>rw[hmu]at h;exfalso;simp only at h;exact (bc h hv).elim
  |w W=>rw[hmu]at h;exact (bi7 h hv he).elim
  |c W=>rw[hmu]at h;exact (bnq h hv he).elim
  |s s=>rw[hmu]at h;exact (bc h hv).elim
  |a W=>
   rw[hmu]at h;exfalso
   have hcut:∀(e:List Ev) (k:Nat) (o:O) (r:List Ev) (N:Mem),klB (ap e (.cut k o o::r)) N=false:=fun e k o r=>by
    induction e with
    |nil=>intro N;cases N <;> rfl
    |cons x e ih=>intro N;cases x <;> cases N <;> first|rfl|(rename_i q N;obtain⟨j,ob⟩:=q;simp only[ap,klB,ih,ak,Bool.and_false])
   simp only at h;unfold afh at h;split at h
   ·split at h
    ·generalize ba [aex W.o W.way,_,_]=b at h
     cases b with
     |false=>exact bc h hv
     |true=>
     simp only[a0b]at h;split at h
     ·split at h
      ·simp only[Rs.mk.injEq]at h;obtain⟨_,_,rfl,_⟩:=h;rw[hcut]at he;cases he
      ·exact bc h hv
     ·exact bc h hv
    ·exact bc h hv
   ·exact bc h hv
 |none=>
  rw[hmu]at h;simp only at h⊢
  cases hs:shp vs ct.ga with
  |false=>rw[hs]at h;exact (bc h hv).elim
  |true=>
   rw[hs]at h;simp only[a0b]at h⊢
   cases hsh:ct.sh with
   |false=>
    rw[hsh]at h;simp only at h⊢;rw[avh vs ct.args hd]
    cases hx:ua M0 vs ct.args with
    |none=>rw[hx]at h;exact (bc h hv).elim
    |some x=>rw[hx]at h;simp only at h⊢;generalize newL d 0 ct.rt (ct.res x)=q at h⊢;obtain⟨v',N',_⟩:=q;simp only[Rs.mk.injEq]at h⊢;obtain⟨rfl,rfl,rfl,rfl⟩:=h;rw[bcj];exact⟨rfl,rfl,rfl,rfl⟩
   |true=>
    rw[hsh]at h;simp only at h⊢;rcases auz vs M0 with hn|⟨k,ob,r,hn⟩
    ·have hf:=azm vs hd hn;rw[hf M0]at h;rw[hf M];simp only[ayw]at h⊢
     cases hx:asL vs ct.args with
     |none=>rw[hx]at h;exact (bc h hv).elim
     |some x=>rw[hx]at h;simp only at h⊢;generalize newL d 0 ct.rt (ct.res x)=q at h⊢;obtain⟨v',N',_⟩:=q;simp only[Rs.mk.injEq]at h⊢;obtain⟨rfl,rfl,rfl,rfl⟩:=h;have:∀l:List Ev,ap [] l=l:=fun _=>rfl;rw[this,bcj];exact⟨rfl,rfl,rfl,rfl⟩
    ·exfalso;generalize l8 M0 vs=q at h hn;obtain⟨e1,M1⟩:=q;simp only at hn h;subst hn;split at h
     ·simp only[Rs.mk.injEq]at h;obtain⟨_,_,rfl,_⟩:=h;exact biq he
     ·exact bc h hv
theorem azu{f:Operand->V}:∀{l:List Operand} {v:V},v∈qc f l->∃x∈l,f x=v
 |[],v,h=>by cases h
 |x::r,v,h=>by
  simp only[qc]at h;rcases a0u.1 h with rfl|h
  ·exact⟨x,by simp,rfl⟩
  ·obtain⟨y,h1,h2⟩:=azu h;exact⟨y,by simp[h1],h2⟩
theorem afi(e:Ev):∀v:V,cw v=true->v.ev e=v
 |.d _ _,_=>rfl
 |.nl,_=>rfl
 |.np,_=>rfl
 |.u,_=>rfl
 |.p a b,h=>by simp only[cw,ak,a0a]at h;simp only[V.ev,afi e a h.1,afi e b h.2]
 |.ag v,h=>by simp only[cw]at h;simp only[V.ev,afi e v h]
 |.fn _ v,h=>by simp only[cw]at h;simp only[V.ev,afi e v h]
 |.bx v,h=>by simp only[cw]at h;simp only[V.ev,afi e v h]
 |.any,h=>by cases h
 |.ref _ _,h=>by cases h
 |.ad _ _,h=>by cases h
 |.tup _,h=>by cases h
 |.gd _ _ _ _,h=>by cases h
 |.ifc _ _,h=>by cases h
theorem bav:∀(e:List Ev) (v:V),cw v=true->v.evs e=v
 |[],_,_=>rfl
 |x::e,v,h=>by simp only[V.evs,afi x v h];exact bav e v h
theorem bbm{k:Nat}(v:V)(t:T)(M:Mem)(h:cw v=true)(q:Ob)(e:List Ev)(M':Mem)(hc:conv k t v M=some (q,e,M')):e=[]/\M'=M/\∀M1,conv k t v M1=some (q,[],M1):=⟨(aqa k M M t v h q e M' hc).1,(aqa k M M t v h q e M' hc).2.1,fun M1=>(aqa k M1 M t v h q e M' hc).2.2⟩
theorem abw:∀(v:V) (M:Mem),cw v=true->br M v=([],M)
 |.p a b,M,h=>by simp only[cw,ak,a0a]at h;simp only[br,abw a M h.1,abw b M h.2,ap]
 |.ag v,M,h=>by simp only[cw]at h;simp only[br,abw v M h]
 |.fn _ v,M,h=>by simp only[cw]at h;simp only[br,abw v M h]
 |.bx v,M,h=>by simp only[cw]at h;simp only[br,abw v M h]
 |.d _ _,_,_=>rfl
 |.nl,_,_=>rfl
 |.np,_,_=>rfl
 |.u,_,_=>rfl
 |.any,_,h=>by cases h
 |.ref _ _,_,h=>by cases h
 |.ad _ _,_,h=>by cases h
 |.tup _,_,h=>by cases h
 |.gd _ _ _ _,_,h=>by cases h
 |.ifc _ _,_,h=>by cases h
theorem ark{k:Nat}{v:V}{o:O}{M:Mem}(h:cw v=true){x:o.strip.den}{e:List Ev}{M':Mem}(hc:abh k o v M=some (x,e,M')):e=[]/\M'=M/\∀M1,abh k o v M1=some (x,[],M1):=by
 unfold abh at hc⊢;split at hc
 ·rename_i t;simp only[abw v _ h,V.evs]at hc⊢;split at hc
  ·rename_i y hy;simp only[a0d,a0k]at hc;obtain⟨rfl,rfl,rfl⟩:=hc;exact⟨rfl,rfl,fun _=>rfl⟩
  ·cases hc
 ·split at hc
  ·rename_i q e1 M1 hq;obtain⟨rfl,rfl,h3⟩:=bbm v _ _ h _ _ _ hq;split at hc
   ·rename_i y hy;simp only[a0d,a0k]at hc;obtain⟨rfl,rfl,rfl⟩:=hc;exact⟨rfl,rfl,fun M2=>by simp only[h3,hy]⟩
   ·cases hc
  ·cases hc
theorem bf1{k:Nat}{v:V}{o:O}{M:Mem}(h:cw v=true){x:o.strip.den}{e:List Ev}{M':Mem}(hc:afa k o v M=some (x,e,M')):e=[]/\M'=M/\∀M1,afa k o v M1=some (x,[],M1):=by
 unfold afa at hc⊢;split at hc
 ·split at hc
  ·rename_i y ev M1 hq;obtain⟨rfl,rfl,h3⟩:=ark h hq;simp only[a0d,a0k]at hc;obtain⟨rfl,rfl,rfl⟩:=hc;exact⟨rfl,rfl,fun M2=>by simp only[h3]⟩
  ·cases hc
 ·exact ark h hc
theorem ac0{k:Nat}{o:O}:∀(l:List V),(∀v∈l,cw v=true)->∀(M:Mem) (x:List o.strip.den) (e:List Ev) (M':Mem),ny k o [] l M=some (x,e,M')->e=[]/\M'=M/\∀M1,ny k o [] l M1=some (x,[],M1)
 |[],_,M,x,e,M',hc=>by simp only[ny,a0d,a0k]at hc;obtain⟨rfl,rfl,rfl⟩:=hc;exact⟨rfl,rfl,fun _=>rfl⟩
 |v::r,h,M,x,e,M',hc=>by
  simp only[ny,V.evs]at hc;split at hc
  ·rename_i y e1 M1 h1;obtain⟨rfl,rfl,h3⟩:=bf1 (h v (by simp)) h1;simp only[ap]at hc;split at hc
   ·rename_i z e2 M2 h2;obtain⟨rfl,rfl,h4⟩:=ac0 r (fun w hw=>h w (by simp[hw])) _ _ _ _ h2;simp only[a0d,a0k]at hc;obtain⟨rfl,rfl,rfl⟩:=hc;exact⟨rfl,rfl,fun M2=>by simp only[ny,V.evs,h3,ap,h4]⟩
   ·cases hc
  ·cases hc
theorem apr:∀t:T,cw (sd t)=true
 |.p a b=>by simp only[sd,cw,apr a,apr b];rfl
 |.sl _=>rfl
 |.u=>rfl
 |.pt _=>rfl
 |.fn _ _=>rfl
 |.ifc _ _=>rfl
 |.mp _ _=>rfl
 |.op _=>rfl
 |.ns _=>rfl
 |.er _=>rfl
 |.int _=>rfl
 |.bool=>rfl
 |.str=>rfl
 |.any=>rfl
theorem ayn{α:Type}{y x:α}:∀{l:List α} {i:Nat},x∈alz l i y->x∈l\/x=y
 |[],_,h=>by cases h
 |z::r,0,h=>by simp only[alz,a0u]at h⊢;rcases h with h|h <;> simp[h]
 |z::r,i+1,h=>by
  simp only[alz,a0u]at h⊢;rcases h with h|h
  ·simp[h]
  ·rcases ayn h with h|h <;> simp[h]
theorem ax3{α:Type}{y x:α}:∀{n:Nat},x∈aav y n->x=y
 |0,h=>by cases h
 |n+1,h=>by
  simp only[aav,a0u]at h;rcases h with h|h
  ·exact h
  ·exact ax3 h
theorem aht{v:V}(h:cw v=true):v.strip=v:=by cases v <;> first|rfl|cases h
theorem aok{M:Mem}{sz:Nat}{f:Operand->V}:∀(ps:List (Nat×Operand)) (l r:List V),(∀q∈ps,cw (f q.2)=true)->(∀v∈l,cw v=true)->oy M sz f ps l=some r->(∀v∈r,cw v=true)/\∀M1,oy M1 sz f ps l=some r
 |[],l,r,_,hl,h=>by simp only[oy,a0d]at h;subst h;exact⟨hl,fun _=>rfl⟩
 |(i,x)::ps,l,r,hp,hl,h=>by
  simp only[oy]at h;have hx:=bhd (hp _ (a3a))
  cases hb:nob (Nat.ble (Nat.succ i) (len l)) (jl M (f x).cells sz)with
  |false=>rw[hb]at h;cases h
  |true=>
   rw[hb]at h;simp only[a0b]at h
   obtain⟨h1,h2⟩:=aok ps _ r (fun q hq=>hp q (by simp[hq])) (fun v hv=>by
    rcases ayn hv with hv|hv
    ·exact hl v hv
    ·rw[hv];exact hx) h
   refine⟨h1,fun M1=>?_⟩;simp only[oy];rw[yn (M:=M1) (M0:=M) _ _ (aah _ hx),hb];exact h2 M1
theorem ayl(e:List Ev):∀l:List V,(∀v∈l,cw v=true)->pu e l=l
 |[],_=>rfl
 |v::r,h=>by simp only[pu];rw[bav e v (h v (by simp)),ayl e r fun w hw=>h w (by simp[hw])]
theorem bfd{B:Tab}{t:TypeId}{n:Nat}{ps:List (Nat×Operand)}{f:Operand->V}{d:Option Nat}{M M0:Mem}(hp:∀q∈ps,cw (f q.2)=true){vc:List Prop}{v:V}{e:List Ev}{N:Mem}(h:zn B t n ps f d M0=⟨vc,v,e,N⟩)(hv:ae vc) :
  zn B t n ps f d M=⟨vc,v,e,ap (fa (len e) N) (pf (bz (fa (len e) N)) M)⟩:=by
 unfold zn at h⊢;split at h
 ·rename_i k el hel;split at h
  ·rename_i l hl;obtain⟨hd,hl1⟩:=aok ps _ l hp (fun v hv=>by rw[ax3 hv];exact apr _) hl;simp only[hl1 M]
   cases hb:ba [(B.τ t).ok,(B.τ el).ok,B.z el,Nat.ble (Nat.mul n (B.τ el).size) 16777216,Nat.ble n nb,dy (B.σ el).size (B.τ el).size]with
   |false=>rw[hb]at h;exact (bc h hv).elim
   |true=>
    rw[hb]at h;simp only[a0b,ayl _ l hd]at h⊢
    cases l with
    |nil=>simp only[Rs.mk.injEq]at h;obtain⟨rfl,rfl,rfl,rfl⟩:=h;rfl
    |cons v0 r=>
     simp only at h⊢;split at h
     ·rename_i q e1 M1 hq;obtain⟨rfl,rfl,hq1⟩:=bbm v0 _ _ (hd v0 (by simp)) _ _ _ hq;simp only[hq1];split at h
      ·rename_i x ev M2 hx;obtain⟨rfl,rfl,hx1⟩:=ac0 _ hd _ _ _ _ hx;simp only[hx1];simp only[Rs.mk.injEq]at h;obtain⟨rfl,rfl,rfl,rfl⟩:=h;rfl
      ·rename_i hx
       have hx1:∀M1,ny k q.o [] (v0::r) M1=none:=fun M1=>by
        cases hc:ny k q.o [] (v0::r) M1 with
        |none=>rfl
        |some z=>obtain⟨z1,z2,z3⟩:=z;have:=(ac0 _ hd _ _ _ _ hc).2.2 (del k M0);rw[hx]at this;cases this
       simp only[hx1];split at h
       ·rename_i x ev M2 hx;obtain⟨rfl,rfl,hx1⟩:=ac0 _ hd _ _ _ _ hx;simp only[hx1];simp only[Rs.mk.injEq]at h;obtain⟨rfl,rfl,rfl,rfl⟩:=h;rfl
       ·exact (bc h hv).elim
     ·exact (bc h hv).elim
  ·exact (bc h hv).elim
 ·exact (bc h hv).elim
theorem bg2{B:Tab}{d:Option Nat}{t:TypeId}{x y:V}{M M0:Mem}(hx:cw x=true)(hy:cw y=true){vc:List Prop}{v:V}{e:List Ev}{N:Mem}(h:acy B d t x y M0=⟨vc,v,e,N⟩)(hv:ae vc) :
  acy B d t x y M=⟨vc,v,e,ap (fa (len e) N) (pf (bz (fa (len e) N)) M)⟩:=by
 unfold acy at h⊢
 cases he:(B.τ t).el with
 |none=>rw[he]at h;exact (bc h hv).elim
 |some el=>
 cases d with
 |none=>rw[he]at h;exact (bc h hv).elim
 |some k=>
 rw[he]at h
 try simp only at h⊢
 cases y with
 |nl=>
  simp only[ae2]at h⊢
  cases hb:ba [(B.τ t).ok,(B.τ el).ok,neg (Nat.beq (B.τ el).bytes 0),B.z el,dy (B.σ el).size (B.τ el).size]with
  |false=>rw[hb]at h;exact (bc h hv).elim
  |true=>
   rw[hb]at h;simp only[a0b]at h⊢
   cases x with
   |nl=>simp only[Rs.mk.injEq]at h⊢;obtain⟨rfl,rfl,rfl,rfl⟩:=h;exact⟨rfl,rfl,rfl,rfl⟩
   |ref _ _=>cases hx
   |_=>exact (bc h hv).elim
 |d s l=>
  cases s with
  |sl s=>
   simp only[ae2]at h⊢
   cases hb:ba [(B.τ t).ok,(B.τ el).ok,neg (Nat.beq (B.τ el).bytes 0),B.z el,dy (B.σ el).size (B.τ el).size]with
   |false=>rw[hb]at h;exact (bc h hv).elim
   |true=>
    rw[hb]at h;simp only[a0b]at h⊢
    cases x with
    |nl=>
     simp only at h⊢
     cases hc:dy s.size (B.τ el).size with
     |false=>rw[hc]at h;exact (bc h hv).elim
     |true=>rw[hc]at h;simp only[a0b,Rs.mk.injEq]at h⊢;obtain⟨rfl,rfl,rfl,rfl⟩:=h;exact⟨rfl,rfl,rfl,rfl⟩
    |ref _ _=>cases hx
    |_=>exact (bc h hv).elim
  |_=>simp only[ae2]at h;exact (bc h hv).elim
 |ref _ _=>cases hy
 |_=>simp only[ae2]at h;exact (bc h hv).elim
theorem bgc{B:Tab}{t:TypeId}{d:Option Nat}{ρ:Operand->V}{x:Operand}{lo hi:Option Operand}{M0:Mem}(M:Mem)(hx:cw (ρ x)=true){vc:List Prop}{v:V}{e:List Ev}{N:Mem}(h:vx B t d ρ x lo hi M0=⟨vc,v,e,N⟩)(hv:ae vc) :
  vx B t d ρ x lo hi M=⟨vc,v,e,M⟩/\e=[]:=by
 unfold vx at h⊢
 cases hn:nsT (B.σ t)with
 |true=>
  exfalso;rw[hn]at h;simp only[a0b,ae6]at h;split at h
  ·rename_i hr _ _ _
   first|(rw[hr]at hx;cases hx)|(exfalso;simp_all[cw])
  ·simp only[bp,Rs.mk.injEq]at h;obtain⟨rfl,_⟩:=h;exact hv.1
 |false=>
  rw[hn]at h;simp only[a0g,ak9]at h⊢;split at h
  ·rename_i hr;rw[hr]at hx;cases hx
  ·simp only[cp,Rs.mk.injEq]at h⊢;obtain⟨h1,h2,rfl,rfl⟩:=h;simp only[h1,h2,and_self]
theorem azt{M0 M:Mem}{o:Oper}{env:Env}(hk:ahx M0 o.op env=true)(ag:ajg M0 env (b8 o.op)=true->∀x∈b8 o.op,agV M M0 (rd env x)){vc:List Prop}{v:V}{e:List Ev}{N:Mem}(h:evR B Φ o env M0=⟨vc,v,e,N⟩)(hv:ae vc)(he:klB e (fa (len e) N)=true) :
  evR B Φ o env M=⟨vc,v,e,ap (fa (len e) N) (pf (bz (fa (len e) N)) M)⟩:=by
 have tk:∀N:Mem,fa (len ([]:List Ev)) N=[]:=fun _=>rfl;obtain⟨dst,op,ty',pos,after,guard⟩:=o;simp only[ahx,lu,ak,a07,a0a]at hk;rcases hk with hk|(hk|hk)|⟨hk|hk,hd⟩;rotate_left
 ·cases op <;> simp only[sldK,a01]at hk;rename_i t x lo hi mx
  cases mx with
  |some _=>cases hk
  |none=>
  simp only[evR,c6]at h⊢;have hx:cw (rd env x)=true:=aax hk _ (by simp[b8,jy]);generalize hq:vx B t dst (fun x=>(rd env x).strip) x lo hi M0=q at h;obtain⟨vc',v',e',N'⟩:=q;simp only[Rs.mk.injEq]at h;obtain⟨rfl,rfl,rfl,rfl⟩:=h;obtain⟨k1,k2⟩:=bgc M (by simp only[aht hx];exact hx) hq (dq hv);subst k2;simp only[k1,tk,ap,pf,bz]
 rotate_right
 ·cases op <;> simp only[acx,a01]at hk <;> simp only[evR,c6,cp,Rs.mk.injEq]at h⊢ <;> obtain⟨h1,h2,rfl,rfl⟩:=h <;> exact⟨h1,h2,rfl,rfl⟩
 ·cases op <;> simp only[litK,a01]at hk
  case call c=>
   split at hk
   ·rename_i hcal;simp only[evR,c6,hcal]at h⊢;split at h
    ·rename_i x y t t' hxy htt
     cases hb:Nat.beq t t' with
     |false=>rw[hb]at h;simp only[a0g,bp,Rs.mk.injEq]at h;obtain⟨rfl,_⟩:=h;exact absurd (dq hv) (by simp[ae])
     |true=>rw[hb]at h;simp only[a0b]at h⊢;generalize hq:acy B dst t ((rd env x).strip) ((rd env y).strip) M0=q at h;obtain⟨vc',v',e',N'⟩:=q;simp only[Rs.mk.injEq]at h;obtain⟨rfl,rfl,rfl,rfl⟩:=h;have hx:cw (rd env x)=true:=aax hk _ (by show x∈ap (b8.calO c.callee) (toL c.args);rw[hcal,hxy,jy];simp);have hy:cw (rd env y)=true:=aax hk _ (by show y∈ap (b8.calO c.callee) (toL c.args);rw[hcal,hxy,jy];simp);rw[bg2 (M:=M) (by rw[aht hx];exact hx) (by rw[aht hy];exact hy) hq (dq hv)]
    ·simp only[bp,Rs.mk.injEq]at h;obtain⟨rfl,_⟩:=h;exact absurd (dq hv) (by simp[ae])
   ·cases hk
  rename_i t n ps;simp only[evR,c6]at h⊢;generalize hq:zn B t n (toL ps) (fun x=>(rd env x).strip) dst M0=q at h;obtain⟨vc',v',e',N'⟩:=q;simp only[Rs.mk.injEq]at h;obtain⟨rfl,rfl,rfl,rfl⟩:=h;have hm:∀q∈toL ps,cw ((fun x=>(rd env x).strip) q.2)=true:=fun q hq=>by have:cw (rd env q.2)=true:=aax hk _ (by simp only[b8];exact aco (by rw[←di];exact hq));simp only[aht this];exact this
  rw[bfd (M:=M) hm hq (dq hv)]
 ·have hm:=ag hd;cases op <;> simp only[w4,a01]at hk <;> simp only[b8]at hm
  case load t x=>
   have hx:=hm x (by simp);simp only[evR,c6,Rs.mk.injEq]at h⊢;obtain⟨h1,h2,h3,h4⟩:=h
   have hn:zr (B.τ t) M0 dst ((rd env x).strip)=none:=by
    cases htk:zr (B.τ t) M0 dst ((rd env x).strip)with
    |none=>rfl
    |some R=>
     exfalso;simp only[rk,htk]at h1 h2 h3 h4;unfold zr at htk;split at htk
     ·split at htk
      ·cases htk
       cases hb:ba [(B.τ t).ok,dy (B.τ t).size 1,neg (B.τ t).agg,_,_]with
       |false=>rw[hb]at h1;simp only[a0g,bp]at h1;subst h1;exact absurd (dq hv) (by simp[ae])
       |true=>rw[hb]at h3;simp only[a0b]at h3;subst h3;revert he;generalize fa _ N=N1;cases N1 <;> simp[klB]
      ·cases htk
     ·cases htk
   have hn':zr (B.τ t) M dst ((rd env x).strip)=none:=by rw[nq hx]at hn⊢;rw[bi3 _ _ hx];exact hn
   simp only[rk,hn,cp]at h1 h2 h3 h4;subst h3;simp only[rk,hn',cp];rw[nq hx]at h1 h2⊢;rw[beg _ _ hx];simp only[tk,ap,pf,bz,a0c];exact⟨h1,h2⟩
  all_goals simp only[evR,c6,cp,Rs.mk.injEq]at h⊢
  all_goals obtain⟨h1,h2,rfl,rfl⟩:=h
  case fieldAddr t x i=>have hx:=hm x (by simp);rw[nq hx,bdh _ _ _ hx,←nq hx];exact⟨h1,h2,rfl,rfl⟩
  case field t x i=>have hx:=hm x (by simp);rw[nq hx,bfv _ _ _ hx,←nq hx];exact⟨h1,h2,rfl,rfl⟩
  case indexAddr t x i=>have hx:=hm x (by simp);rw[nq hx,bgh _ _ _ hx,←nq hx];exact⟨h1,h2,rfl,rfl⟩
  case convert s d x=>have hx:=hm x (by simp);rw[nq hx,baa hx,←nq hx];exact⟨h1,h2,rfl,rfl⟩
  all_goals exact⟨h1,h2,rfl,rfl⟩
 ·have hm:=ag hd;cases op <;> simp only[newK,a01]at hk
  case alloc t=>
   simp only[evR,c6,ax8]at h⊢
   cases dst with
   |none=>simp only[bp,Rs.mk.injEq]at h;obtain⟨rfl,_⟩:=h;exact absurd (dq hv) (by simp[ae])
   |some k=>
    simp only at h⊢
    cases hb:ba [(B.τ t).ok,B.z t]with
    |false=>rw[hb]at h;simp only[a0g,bp,Rs.mk.injEq]at h;obtain⟨rfl,_⟩:=h;exact absurd (dq hv) (by simp[ae])
    |true=>rw[hb]at h;simp only[a0b,Rs.mk.injEq]at h⊢;obtain⟨h1,h2,rfl,rfl⟩:=h;exact⟨h1,h2,rfl,rfl⟩
  case makeSlice t l c=>
   simp only[evR,c6,amx]at h⊢;split at h
   ·rename_i el k1 nl k2 nc e2 e3 e4
    cases hb:ba [(B.τ t).ok,(B.τ el).ok,B.z el,dy (B.σ el).size (B.τ el).size]with
    |false=>rw[hb]at h;simp only[a0g,bp,Rs.mk.injEq]at h;obtain⟨rfl,_⟩:=h;exact absurd (dq hv) (by simp[ae])
    |true=>rw[hb]at h;simp only[a0b,Rs.mk.injEq]at h⊢;obtain⟨h1,h2,rfl,rfl⟩:=h;exact⟨h1,h2,rfl,rfl⟩
   ·simp only[bp,Rs.mk.injEq]at h;obtain⟨rfl,_⟩:=h;exact absurd (dq hv) (by simp[ae])
  case build t ps=>
   simp only[evR,c6,wl]at h⊢;rw[aoj (M:=M) (M0:=M0) _ (fun x=>(rd env x).strip) (toL ps) _ (fun x hx=>by have:=hm x (by simp only[b8];exact hx);rw[nq this];exact this) (ao5 _)]
   cases hb:ba [(B.τ t).ok,an5 B (B.τ t),B.z t]with
   |false=>rw[hb]at h;simp only[a0g,bp,Rs.mk.injEq]at h;obtain⟨rfl,_⟩:=h;exact absurd (dq hv) (by simp[ae])
   |true=>
    rw[hb]at h;simp only[a0b]at h⊢;split at h
    ·rename_i v0 e0;simp only[Rs.mk.injEq]at h⊢;obtain⟨h1,h2,rfl,rfl⟩:=h;exact⟨h1,h2,rfl,rfl⟩
    ·simp only[bp,Rs.mk.injEq]at h;obtain⟨rfl,_⟩:=h;exact absurd (dq hv) (by simp[ae])
  case buildSlice t n p=>
   rw[ak,a0a]at hk;have hn0:=a0t hk.1;subst hn0
   have hp:toL p=[]:=by
    have:=a0t hk.2;revert this
    cases toL p with
    |nil=>intro _;rfl
    |cons a r=>intro h;exact absurd h (by simp only[len];omega)
   ·simp only[evR,c6,hp,zn]at h⊢
    cases dst with
    |none=>simp only[bp,Rs.mk.injEq]at h;obtain⟨rfl,_⟩:=h;exact absurd (dq hv) (by simp[ae])
    |some k=>
     cases hel:(B.τ t).el with
     |none=>rw[hel]at h;simp only[bp,Rs.mk.injEq]at h;obtain⟨rfl,_⟩:=h;exact absurd (dq hv) (by simp[ae])
     |some el=>
      rw[hel]at h;simp only[oy,aav,pu]at h⊢
      cases hb:ba [(B.τ t).ok,(B.τ el).ok,B.z el,Nat.ble (Nat.mul 0 (B.τ el).size) 16777216,Nat.ble 0 nb,dy (B.σ el).size (B.τ el).size]with
      |false=>rw[hb]at h;simp only[a0g,bp,Rs.mk.injEq]at h;obtain⟨rfl,_⟩:=h;exact absurd (dq hv) (by simp[ae])
      |true=>rw[hb]at h;simp only[a0b,Rs.mk.injEq]at h⊢;obtain⟨h1,h2,rfl,rfl⟩:=h;exact⟨h1,h2,rfl,rfl⟩
  case call c=>
   obtain⟨callee,args,argTypes⟩:=c;have hrd:∀x∈toL args,agV M M0 (rd env x).strip:=fun x hx=>by have:=hm x (by simp only[b8,jy];exact a2h _ hx);rw[nq this];exact this
   cases callee with
   |value cx=>
    have hc:=hm cx (by simp only[b8,jy,b8.calO];exact a1q _ (by simp));simp only[evR,c6]at h⊢
    cases hf:aic (rd env cx).strip with
    |none=>rw[hf]at h;simp only[bp,Rs.mk.injEq]at h;obtain⟨rfl,_⟩:=h;exact absurd (dq hv) (by simp[ae])
    |some q=>
     obtain⟨f,cv⟩:=q;have hcv:agV M M0 cv:=bm6 (by rw[nq hc];exact hc) hf;rw[hf]at h
     cases dst with
     |none=>simp only[bp,Rs.mk.injEq]at h;obtain⟨rfl,_⟩:=h;exact absurd (dq hv) (by simp[ae])
     |some d=>
      simp only at h⊢;obtain⟨c1,c2⟩:=bia cv hcv;rw[c1]
      cases hp:Φ f with
      |none=>rw[hp]at h;simp only[bp,Rs.mk.injEq]at h;obtain⟨rfl,_⟩:=h;exact absurd (dq hv) (by simp[ae])
      |some ct=>
       rw[hp]at h
       cases hcs:pg M0 cv with
       |none=>rw[hcs]at h;simp only[bp,Rs.mk.injEq]at h;obtain⟨rfl,_⟩:=h;exact absurd (dq hv) (by simp[ae])
       |some cs=>
        rw[hcs]at h;simp only at h⊢
        have hall:∀y∈ap (qc (fun x=>(rd env x).strip) (toL args)) cs,agV M M0 y:=fun y hy=>by
         rw[jy]at hy;rcases a1m.1 hy with hy|hy
         ·obtain⟨x,x1,rfl⟩:=azu hy;exact hrd x x1
         ·exact c2 cs hcs y hy
        generalize hq:w5 ct d (ap (qc (fun x=>(rd env x).strip) (toL args)) cs) M0=q at h;obtain⟨vc1,v1,e1,N1⟩:=q;simp only[Rs.mk.injEq]at h;obtain⟨rfl,rfl,rfl,rfl⟩:=h;rw[ber hall hq (dq hv) he]
   |builtin b=>
    cases b <;> simp only[a01]at hk;simp only[evR,c6]at h⊢;split at h
    ·rename_i x t e1 e2;have hx:=hrd x (by rw[e1];simp);simp only[cp,Rs.mk.injEq]at h⊢;rw[bf7 hx];obtain⟨h1,h2,rfl,rfl⟩:=h;exact⟨h1,h2,rfl,rfl⟩
    ·simp only[bp,Rs.mk.injEq]at h;obtain⟨rfl,_⟩:=h;exact absurd (dq hv) (by simp[ae])
   |_=>simp at hk
theorem abz{β:Nat->Value}{M:Mem}{Im:Nat->Prop}{w:World}{k:Nat}(hk:go M k=none):∀(v:V) (vs:List Value),aa β M Im w v vs->v.ev (.kl k)=v:=by
 intro v
 induction v with
 |p a b iha ihb=>intro vs r;simp only[aa]at r;obtain⟨va,vb,_,h1,h2⟩:=r;simp only[V.ev];rw[iha _ h1,ihb _ h2]
 |ref j π=>
  intro vs r;simp only[aa]at r;obtain⟨ob,_,h1,_⟩:=r;have hne:j≠k:=fun h=>by subst h;rw[hk]at h1;cases h1
  simp only[V.ev,Ev.ref,cq,ds hne]
 |ad j π=>
  intro vs r;simp only[aa]at r;obtain⟨_,_,ob,_,_,_,h1,_⟩:=r;have hne:j≠k:=fun h=>by subst h;rw[hk]at h1;cases h1
  simp only[V.ev,Ev.ad,cq,ds hne]
 |fn f v ih=>intro vs r;simp only[aa]at r;obtain⟨us,_,h⟩:=r;simp only[V.ev];rw[ih _ h]
 |bx v ih=>intro vs r;simp only[aa]at r;obtain⟨_,_,us,_,_,_,h⟩:=r;simp only[V.ev];rw[ih _ h]
 |ag v=>intro vs r;simp only[aa]at r
 |tup v=>intro vs r;simp only[aa]at r
 |gd _ _ _ v=>intro vs r;simp only[aa]at r
 |ifc t v ih=>intro vs r;simp only[aa]at r;obtain⟨u,_,h⟩:=r;simp only[V.ev];rw[ih _ h]
 |_=>intro vs r;rfl
theorem bjp{β:Nat->Value}{M:Mem}{Im:Nat->Prop}{w:World}{k:Nat}(hk:go M k=none):∀(v:V),tg v=true->(∀u,af β M Im w v u->v.ev (.kl k)=v)/\(∀us,b9 β M Im w v us->v.ev (.kl k)=v):=by
 intro v
 induction v with
 |any=>intro _;exact⟨fun _ _=>rfl,fun _ _=>rfl⟩
 |ag v ih=>
  intro _;refine⟨fun u r=>?_,fun us r=>?_⟩
  ·simp only[af]at r;obtain⟨vs,_,h⟩:=r;simp only[V.ev];rw[abz hk _ _ h]
  ·simp only[b9]at r
 |tup v ih=>
  intro hg;refine⟨fun u r=>?_,fun us r=>?_⟩
  ·simp only[af]at r;obtain⟨vs,_,h⟩:=r;simp only[V.ev];rw[(ih hg).2 _ h]
  ·simp only[b9]at r
 |gd _ _ _ v=>intro hg;cases hg
 |ifc t v ih=>
  intro hg;refine⟨fun u r=>?_,fun us r=>?_⟩
  ·simp only[af]at r;exact abz hk _ _ r
  ·simp only[b9]at r
 |p a b iha ihb=>
  intro hg;simp only[tg,ak,a0a]at hg;refine⟨fun u r=>?_,fun us r=>?_⟩
  ·simp only[af]at r;exact abz hk _ _ r
  ·simp only[b9]at r;obtain⟨u,us',_,h1,h2⟩:=r;simp only[V.ev];rw[(iha hg.1).1 _ h1,(ihb hg.2).2 _ h2]
 |u=>intro _;exact⟨fun _ _=>rfl,fun _ _=>rfl⟩
 |ref j π=>intro _;exact⟨fun u r=>by simp only[af]at r;exact abz hk _ _ r,fun us r=>by simp only[b9]at r⟩
 |ad j π=>intro _;exact⟨fun u r=>by simp only[af]at r;exact abz hk _ _ r,fun us r=>by simp only[b9]at r⟩
 |d t x=>intro _;exact⟨fun _ _=>rfl,fun _ _=>rfl⟩
 |nl=>intro _;exact⟨fun _ _=>rfl,fun _ _=>rfl⟩
 |np=>intro _;exact⟨fun _ _=>rfl,fun _ _=>rfl⟩
 |fn f v=>intro _;exact⟨fun u r=>by simp only[af]at r;exact abz hk _ _ r,fun us r=>by simp only[b9]at r⟩
 |bx v=>intro _;exact⟨fun u r=>by simp only[af]at r;exact abz hk _ _ r,fun us r=>by simp only[b9]at r⟩
theorem bcu:∀{e:List Ev} {N:Mem},klB e N=true->∀{v:V},(∀k∈bz N,v.ev (.kl k)=v)->v.evs e=v
 |[],[],_,v,_=>rfl
 |[],_::_,h,_,_=>by simp[klB]at h
 |x::e,[],h,_,_=>by cases x <;> simp[klB]at h
 |x::e,(j,ob)::N,h,v,hk=>by
  cases x with
  |kl k=>simp only[klB,ak,a0a]at h;have:=a0t h.1;subst this;simp only[V.evs];rw[hk k (by simp[bz])];exact bcu h.2 fun k hk'=>hk k (by simp[bz,hk'])
  |_=>simp[klB]at h
theorem acm:∀{ks:List Nat} {M:Mem},ae9 ks M=true->∀k∈ks,go M k=none
 |[],_,_,k,hk=>by cases hk
 |j::r,M,h,k,hk=>by
  simp only[ae9,ak,a0a]at h;rcases a0u.1 hk with rfl|hk
  ·cases hg:go M k with
   |none=>rfl
   |some _=>rw[hg]at h;exact absurd h.1 (by simp[isN])
  ·exact acm h.2 k hk
theorem uw:∀{N:Mem} {k:Nat},k∈bz N<->go N k≠none
 |[],k=>by simp[bz,go]
 |(j,ob)::N,k=>by
  simp only[bz,a0u,dh];by_cases e:j=k
  ·subst e;simp
  ·rw[ds e,←uw (N:=N)];simp[a0v e]
theorem an3:∀{ks:List Nat} {M:Mem} {k:Nat},k∉ks->go (pf ks M) k=go M k
 |[],_,_,_=>rfl
 |j::r,M,k,h=>by simp only[pf];rw[an3 (fun hh=>h (by simp[hh])),dn (fun hh=>h (by simp[hh]))]
theorem ax4{t:Nat}:∀{env:Env},wy env=true->tg (gt env t)=true
 |[],_=>rfl
 |(k,v)::r,h=>by
  simp only[wy,ak,a0a]at h;rw[jt];split
  ·exact h.1
  ·exact ax4 h.2
structure Hst (D:Bool) (ks as:List Nat) (B:Tab) (Φ:FuncId->Option Ct) (M0:Mem) (o:Oper) (e e':Env) (N:Mem) (X X':Mem) (d:Nat) (v:V) (vc:List Prop) (ev:List Ev):Prop where
 g:o.guard=none
 dst:o.dst=some d
 k:ahx (ap X M0) o.op e=true
 r:∃N',evR B Φ o e (ap X M0)=⟨vc,v,ev,N'⟩/\N=fa (len ev) N'
 hv:ae vc
 kl:klB ev N=true
 n0:ae9 (bz N) M0=true
 nX:ae9 (bz N) X=true
 gd:tg v=true
 dt:D=true->sn o.op=true->bxK B as o.op e=true\/sw ks e (b8 o.op)=true/\ksV ks v=true
 he:e'=(d,v)::e
 x:X'=ap N X
theorem ay2{ks as:List Nat}{M0:Mem}:∀(D:List Bool) (ops:List Oper) (e:Env) (x:Mem) (K:Env->Mem->Prop),hx D ks as B Φ M0 ops e x K->
  ∃(E:Nat->Env) (X N:Nat->Mem),E 0=e/\X 0=x/\(∀j o,ops[j]? = some o->∃d v vc ev,Hst (D.getD j false) ks as B Φ M0 o (E j) (E (j+1)) (N j) (X j) (X (j+1)) d v vc ev)/\K (E ops.length) (X ops.length)
 |D,[],e,x,K,h=>⟨fun _=>e,fun _=>x,fun _=>[],rfl,rfl,fun j o h=>by simp at h,h⟩
 |D,o::r,e,x,K,h=>by
  have key:∃e' x' N,(∃d v vc ev,Hst (ahs D) ks as B Φ M0 o e e' N x x' d v vc ev)/\hx (ahn D) ks as B Φ M0 r e' x' K:=by
   simp only[hx]at h;split at h
   ·rename_i d hg hd
    cases hk:ahx (ap x M0) o.op e with
    |false=>rw[hk]at h;exact h.elim
    |true=>
     rw[hk]at h;simp only[a0b]at h;generalize hq:evR B Φ o e (ap x M0)=q at h;obtain⟨vc,v,ev,N'⟩:=q;simp only at h;generalize hN:fa (len ev) N'=N at h
     cases hb:ba [klB ev N,ae9 (bz N) M0,ae9 (bz N) x,tg v,orb (neg (ahs D)) (orb (neg (sn o.op)) (orb (bxK B as o.op e) (nob (sw ks e (b8 o.op)) (ksV ks v))))]with
     |false=>rw[hb]at h;exact h.elim
     |true=>rw[hb]at h;simp only[a0b,ql]at h;simp only[am,a7,a0j,a0a]at hb;exact⟨_,_,N,⟨d,v,vc,ev,⟨hg,hd,hk,⟨N',hq,hN.symm⟩,h.1,hb.1,hb.2.1,hb.2.2.1,hb.2.2.2.1,fun hD hk=>by have h5:=hb.2.2.2.2;rw[hD,hk]at h5;simpa using h5,rfl,rfl⟩⟩,h.2⟩
   ·exact h.elim
  obtain⟨e',x',N,h1,h2⟩:=key;obtain⟨E,X,Ns,i1,i2,i3,i4⟩:=ay2 (ahn D) r e' x' K h2;refine⟨fun j=>match j with|0=>e|j+1=>E j,fun j=>match j with|0=>x|j+1=>X j,fun j=>match j with|0=>N|j+1=>Ns j,rfl,rfl,fun j o' hj=>?_,by simpa using i4⟩
  cases j with
  |zero=>
   simp only[a1w,a0d]at hj;subst hj;simp only;rw[i1,i2];have e:D.getD 0 false=ahs D:=by cases D <;> rfl
   rw[e];exact h1
  |succ j=>
   simp only[a2o]at hj;have e:D.getD (j+1) false=(ahn D).getD j false:=by cases D <;> simp[ahn]
   rw[e];exact i3 j o' hj
theorem ayc{α:Type}{x:Option α}(h:isN x=true):x=none:=by cases x <;> first|rfl|cases h
theorem bhg{o:Op}(h:sn o=true):∀x∈o.operands,x∈b8 o:=by
 unfold sn at h
 cases o with
 |slice t x lo hi mx=>
  cases mx with
  |some _=>simp[w4,acx,zp]at h
  |none=>cases lo <;> cases hi <;> simp[Op.operands,b8,b8.optL,jy]
 |call c=>
  obtain⟨callee,args,tys⟩:=c
  cases callee with
  |builtin b=>simp[Op.operands,Call.operands,b8,b8.calO,di,jy]
  |_=>simp[w4,acx,zp]at h
 |_=>
  simp[w4,acx,zp]at h <;> simp[Op.operands,b8]
  try (intro x q hq;exact aco (q:=(q,x)) (by simpa using hq))
theorem be9{B:Tab}{t:TypeId}{ps:List (Nat×Operand)}{f:Operand->V}{M:Mem}:(wl B t ps f M).ev=[]/\(wl B t ps f M).M=M:=by
 unfold wl
 cases ba [(B.τ t).ok,an5 B (B.τ t),B.z t]with
 |false=>exact⟨rfl,rfl⟩
 |true=>simp only[a0b];split <;> exact⟨rfl,rfl⟩
theorem bn6{r:Nat}{M:Mem}{e:List Ev}(h:klB (.kl r::e) (fa (len (Ev.kl r::e)) (del r M))=true):False:=by
 have hg:=cz r M
 cases hd:del r M with
 |nil=>rw[hd]at h;simp[len,fa,klB]at h
 |cons q N=>obtain⟨j,ob⟩:=q;rw[hd]at h hg;simp only[len,fa,klB,ak,a0a]at h;have:=a0t h.1;subst this;simp[dh]at hg
theorem be5{B:Tab}{t:TypeId}{d:Option Nat}{ρ:Operand->V}{x:Operand}{lo hi:Option Operand}{M:Mem}{vc:List Prop}{v:V}{e:List Ev}{N:Mem}(h:vx B t d ρ x lo hi M=⟨vc,v,e,N⟩)(hk:klB e (fa (len e) N)=true):e=[]/\N=M:=by
 have bad:∀{vc:List Prop} {v:V} {e:List Ev} {N:Mem},bp M=⟨vc,v,e,N⟩->e=[]/\N=M:=fun h=>by simp only[bp,Rs.mk.injEq]at h;exact⟨h.2.2.1.symm,h.2.2.2.symm⟩
 unfold vx at h
 cases hn:nsT (B.σ t)with
 |true=>
  rw[hn]at h;simp only[a0b,ae6]at h;split at h
  ·split at h
   ·cases hb:ba _ with
    |false=>rw[hb]at h;exact bad h
    |true=>rw[hb]at h;simp only[am,m9,a0a]at hb;simp only[a0b,Rs.mk.injEq]at h;obtain⟨_,_,rfl,rfl⟩:=h;simp only[len,fa,klB,ak,a0a]at hk;have:=hb.1.1;rw[jq,hk.1]at this;cases this
   ·exact bad h
  ·exact bad h
 |false=>
  rw[hn]at h;simp only[a0g,ak9]at h;split at h
  ·split at h
   ·rename_i r π _ q e1 M1 hc
    (try simp only at h)
    simp only[Rs.mk.injEq]at h;obtain⟨_,_,rfl,rfl⟩:=h;exfalso;unfold ye at hc;generalize neg (m9 _ gid)=b at hc
    cases b with
    |true=>cases hc
    |false=>
     simp only[a0g]at hc;split at hc
     ·split at hc
      ·split at hc
       ·cases hc;exact bn6 hk
       ·cases hi:ae3 _ with
        |true=>rw[hi]at hc;simp only[a0b,a0d,a0k]at hc;obtain⟨_,rfl,_⟩:=hc;generalize fa _ _=Z at hk;cases Z <;> simp[klB]at hk
        |false=>
         rw[hi]at hc;simp only[a0g]at hc;split at hc
         ·cases hc;generalize fa _ _=Z at hk;cases Z <;> simp[klB]at hk
         ·cases hc
      ·cases hc
     ·cases hc
   ·exact bad h
  ·simp only[cp,Rs.mk.injEq]at h;exact⟨h.2.2.1.symm,h.2.2.2.symm⟩
theorem bfn{B:Tab}{c:Call}{dst:Option Nat}{ty':TypeId}{pos:String}{after:Array Edge}{guard:Option (Nat×Bool)}{env:Env}{M:Mem}(hk:zp (.call c)=true){vc:List Prop}{v:V}{e:List Ev}{N:Mem}(h:evR B Φ ⟨dst,.call c,ty',pos,after,guard⟩ env M=⟨vc,v,e,N⟩):e=[]/\N=M:=by
 simp only[zp]at hk;split at hk
 ·rename_i hcal;simp only[evR,c6,hcal]at h;split at h <;> simp only[cp,bp,Rs.mk.injEq]at h <;> exact⟨h.2.2.1.symm,h.2.2.2.symm⟩
 ·cases hk
theorem bbv{o:Oper}{env:Env}{M:Mem}{vc:List Prop}{v:V}{ev:List Ev}{N':Mem}(hk:sn o.op=true)(hr:evR B Φ o env M=⟨vc,v,ev,N'⟩)(hkl:klB ev (fa (len ev) N')=true):ev=[]:=by
 obtain⟨dst,op,ty',pos,after,guard⟩:=o;unfold sn at hk;rcases Classical.em (∃c,op=.call c)with⟨c,rfl⟩|hcc
 ·have hb:zp (.call c)=true:=by simpa[w4,acx]using hk
  exact (bfn hb hr).1
 cases op <;> simp[w4,acx]at hk <;> try (simp[zp]at hk;done)
 case call c=>exact absurd ⟨c,rfl⟩ hcc
 case slice t x lo hi mx=>
  cases mx with
  |some _=>simp[zp]at hk
  |none=>
  simp only[evR,c6]at hr;generalize hq:vx B t dst (fun x=>(rd env x).strip) x lo hi M=q at hr;obtain⟨a1,a2,a3,a4⟩:=q;simp only[Rs.mk.injEq]at hr;obtain⟨_,_,rfl,rfl⟩:=hr;exact (be5 hq hkl).1
 case build t ps=>simp only[evR,c6]at hr;have h:=@be9 B t (toL ps) (fun x=>(rd env x).strip) M;generalize wl B t (toL ps) (fun x=>(rd env x).strip) M=q at hr h;obtain⟨a1,a2,a3,a4⟩:=q;simp only[Rs.mk.injEq]at hr;exact hr.2.2.1.symm.trans h.1
 case load t x=>
  simp only[evR,c6,rk]at hr;split at hr
  ·rename_i r hr';unfold zr at hr';split at hr'
   ·split at hr'
    ·simp only[a0d]at hr';subst hr';revert hr;cases ba _ <;> intro hr
     ·simp only[a0g,bp,Rs.mk.injEq]at hr;exact hr.2.2.1.symm
     ·simp only[a0b,Rs.mk.injEq]at hr;rw[←hr.2.2.1]at hkl;exfalso;generalize fa _ N'=Z at hkl;cases Z <;> simp[klB]at hkl
    ·cases hr'
   ·cases hr'
  ·simp only[cp,Rs.mk.injEq]at hr;exact hr.2.2.1.symm
 all_goals (simp only[evR,c6,cp,Rs.mk.injEq]at hr;exact hr.2.2.1.symm)
def AgM(ks:List Nat)(M' M:Mem):Prop:=∀k,inN k ks=true->go M' k=go M k
theorem AgM.refl(ks:List Nat)(M:Mem):AgM ks M M:=fun _ _=>rfl
theorem v7{ks:List Nat}{j k:Nat}(hk:inN k ks=true)(hj:neg (inN j ks)=true):Nat.beq k j=false:=by
 cases h:Nat.beq k j with
 |false=>rfl
 |true=>have:=a0t h;subst this;rw[hk]at hj;cases hj
theorem blh{ks:List Nat}{k:Nat}{π:bg}(hk:inN k ks=true)(e:Ev)(he:ij ks e=true):(V.ref k π).ev e=.ref k π:=by
 cases e with
 |mv r k'=>simp only[ij,ak,a0a]at he;simp only[V.ev,Ev.ref,v7 hk he.1,a0g]
 |kl r=>simp only[ij]at he;simp only[V.ev,Ev.ref,v7 hk he,a0g]
 |cut r o o'=>simp only[ij]at he;simp only[V.ev,Ev.ref,v7 hk he,a0g]
 |fz r ob=>simp only[ij]at he;simp only[V.ev,Ev.ref,v7 hk he,a0g]
 |un r j=>simp only[ij,ak,a0a]at he;simp only[V.ev,Ev.ref,v7 hk he.1,a0g]
 |tk r o o'=>simp only[ij]at he;simp only[V.ev,Ev.ref,v7 hk he,a0g]
theorem bnw{ks:List Nat}{k:Nat}{π:bg}(hk:inN k ks=true)(e:Ev)(he:ij ks e=true):(V.ad k π).ev e=.ad k π:=by
 cases e with
 |mv r k'=>simp only[ij,ak,a0a]at he;simp only[V.ev,Ev.ad,v7 hk he.1,a0g]
 |kl r=>simp only[ij]at he;simp only[V.ev,Ev.ad,v7 hk he,a0g]
 |cut r o o'=>simp only[ij]at he;simp only[V.ev,Ev.ad,v7 hk he,a0g]
 |fz r ob=>simp only[ij]at he;simp only[V.ev,Ev.ad,v7 hk he,a0g]
 |un r j=>simp only[ij,ak,a0a]at he;simp only[V.ev,Ev.ad,v7 hk he.1,a0g]
 |tk r o o'=>simp only[ij]at he;simp only[V.ev,Ev.ad,v7 hk he,a0g]
theorem ann:∀e:List Ev,c7 [] e=true
 |[]=>rfl
 |x::e=>by cases x <;> simp[c7,ij,inN,neg,ann e]
theorem o8{ks:List Nat}:∀{a b:List Ev},c7 ks (ap a b)=true->c7 ks a=true/\c7 ks b=true
 |[],b,h=>⟨rfl,h⟩
 |x::a,b,h=>by simp only[ap,c7,ak,a0a]at h⊢;obtain⟨h1,h2⟩:=o8 h.2;exact⟨⟨h.1,h1⟩,h2⟩
theorem AgM.trans{ks:List Nat}{a b c:Mem}(h:AgM ks a b)(g:AgM ks b c):AgM ks a c:=fun k hk=>(h k hk).trans (g k hk)
theorem qv{ks:List Nat}{k:Nat}{M:Mem}(h:neg (inN k ks)=true):AgM ks (del k M) M:=fun j hj=>dn (fun e=>by subst e;rw[hj]at h;cases h) M
theorem y8{ks:List Nat}{k:Nat}{ob:Ob}{M:Mem}(h:neg (inN k ks)=true):AgM ks (put k ob M) M:=fun j hj=>nh ob (fun e=>by subst e;rw[hj]at h;cases h) M
theorem pn{ks:List Nat}:∀(v:V) (M:Mem),c7 ks (br M v).1=true->AgM ks (br M v).2 M
 |.ref k π,M,h=>by
  simp only[br]at h⊢;split
  ·rename_i ob hg;rw[hg]at h;simp only[c7,ij,ak,a0a]at h;exact qv h.1
  ·exact AgM.refl _ _
 |.ad k π,M,h=>by
  simp only[br]at h⊢;split
  ·rename_i ob hg;rw[hg]at h;simp only[c7,ij,ak,a0a]at h;exact qv h.1
  ·exact AgM.refl _ _
 |.p a b,M,h=>by simp only[br]at h⊢;obtain⟨h1,h2⟩:=o8 h;exact (pn b _ h2).trans (pn a M h1)
 |.ag v,M,h=>by simp only[br]at h⊢;exact pn v M h
 |.fn _ v,M,h=>by simp only[br]at h⊢;exact pn v M h
 |.ifc _ v,M,h=>by simp only[br]at h⊢;exact pn v M h
 |.bx v,M,h=>by simp only[br]at h⊢;exact pn v M h
 |.tup v,M,h=>by simp only[br]at h⊢;exact pn v M h
 |.gd _ _ _ v,M,h=>by simp only[br]at h⊢;exact pn v M h
 |.any,M,_=>AgM.refl _ _
 |.nl,M,_=>AgM.refl _ _
 |.np,M,_=>AgM.refl _ _
 |.u,M,_=>AgM.refl _ _
 |.d _ _,M,_=>AgM.refl _ _
theorem ae0{ks:List Nat}:∀(vs:List V) (M:Mem),c7 ks (l8 M vs).1=true->AgM ks (l8 M vs).2 M
 |[],M,_=>AgM.refl _ _
 |v::r,M,h=>by simp only[l8]at h⊢;obtain⟨h1,h2⟩:=o8 h;exact (ae0 r _ h2).trans (pn v M h1)
theorem bas{ks:List Nat}:∀{l:List Nat},c7 ks (klL l)=true->∀k∈l,neg (inN k ks)=true
 |[],_,k,h=>by cases h
 |a::l,h,k,hk=>by
  simp only[klL,c7,ij,ak,a0a]at h;rcases a0u.1 hk with e|e
  ·subst e;exact h.1
  ·exact bas h.2 k e
theorem ayi{ks:List Nat}{N M:Mem}(h:c7 ks (klL (bz N))=true):AgM ks (ap N (pf (bz N) M)) M:=fun k hk=>by
 have hn:k∉bz N:=fun hm=>by have:=bas h k hm;rw[hk]at this;cases this
 have hg:go N k=none:=a3k fun e=>hn (uw.2 e);rw[ac3,hg,an3 hn]
theorem aml{ks:List Nat}{k:Nat}{W:Wt}{d:Nat}{r:List V}{M:Mem}{vc:List Prop}{v:V}{e:List Ev}{M1:Mem}(h:u5 k W d r M=⟨vc,v,e,M1⟩)(hv:ae vc)(he:c7 ks e=true):AgM ks M1 M:=by
 unfold u5 at h
 cases hb:shp r W.ag with
 |false=>rw[hb]at h;exact (bc h hv).elim
 |true=>
  rw[hb]at h;simp only[a0b]at h;split at h
  ·split at h
   ·(try simp only at h)
    cases hi:inN _ _ with
    |true=>rw[hi]at h;exact (bc h hv).elim
    |false=>rw[hi]at h;simp only[a0g,Rs.mk.injEq]at h;obtain⟨_,_,rfl,rfl⟩:=h;obtain⟨h1,h2⟩:=o8 he;simp only[c7,ak,a0a]at h2;exact (ayi h2.2).trans ((y8 (by simpa only [ij]using h2.1)).trans (ae0 _ _ h1))
   ·exact (bc h hv).elim
  ·exact (bc h hv).elim
theorem bab{ks:List Nat}{W:Wt}{d:Nat}{r:List V}{M:Mem}{vc:List Prop}{v:V}{e:List Ev}{M1:Mem}(h:aae W d r M=⟨vc,v,e,M1⟩)(hv:ae vc)(he:c7 ks e=true):AgM ks M1 M:=by
 unfold aae at h;split at h
 ·split at h
  ·cases hb:aj1 W.o with
   |false=>rw[hb]at h;exact (bc h hv).elim
   |true=>rw[hb]at h;exact aml h hv he
  ·split at h
   ·cases hb:slO W.o with
    |false=>rw[hb]at h;exact (bc h hv).elim
    |true=>rw[hb]at h;exact aml h hv he
   ·exact (bc h hv).elim
 ·exact (bc h hv).elim
theorem bfk{ks:List Nat}{W:Wc}{r:List V}{M:Mem}{vc:List Prop}{v:V}{e:List Ev}{M1:Mem}(h:ahh W r M=⟨vc,v,e,M1⟩)(hv:ae vc)(he:c7 ks e=true):AgM ks M1 M:=by
 unfold ahh at h;split at h
 ·cases hb:nob _ _ with
  |false=>rw[hb]at h;exact (bc h hv).elim
  |true=>
   rw[hb]at h;simp only[a0b]at h;split at h
   ·split at h
    ·simp only[Rs.mk.injEq]at h;obtain⟨_,_,rfl,rfl⟩:=h;simp only[c7,ak,a0a]at he;exact y8 (by simpa only [ij]using he.1)
    ·exact (bc h hv).elim
   ·exact (bc h hv).elim
 ·exact (bc h hv).elim
theorem ay3{ks:List Nat}{ct:Ct}{d:Nat}{vs:List V}{M:Mem}{vc:List Prop}{v:V}{e:List Ev}{M1:Mem}(h:w5 ct d vs M=⟨vc,v,e,M1⟩)(hv:ae vc)(he:c7 ks e=true):AgM ks M1 M:=by
 unfold w5 at h;split at h
 ·exact bfk h hv he
 ·exact (bc h hv).elim
 ·exact bab h hv he
 ·exact (bc h hv).elim
 ·unfold afh at h;split at h
  ·split at h
   ·cases hb:ba _ with
    |false=>rw[hb]at h;exact (bc h hv).elim
    |true=>
     rw[hb]at h;simp only[a0b]at h;split at h
     ·split at h
      ·simp only[Rs.mk.injEq]at h;obtain⟨_,_,rfl,rfl⟩:=h;obtain⟨h1,h2⟩:=o8 he;simp only[c7,ak,a0a]at h2;exact (y8 (by simpa only [ij]using h2.1)).trans (ae0 _ _ h1)
      ·exact (bc h hv).elim
     ·exact (bc h hv).elim
   ·exact (bc h hv).elim
  ·exact (bc h hv).elim
 ·cases hb:shp _ _ with
  |false=>rw[hb]at h;exact (bc h hv).elim
  |true=>
   rw[hb]at h;simp only[a0b]at h;split at h
   ·split at h
    ·simp only[Rs.mk.injEq]at h;obtain⟨_,_,rfl,rfl⟩:=h;exact ayi he
    ·exact (bc h hv).elim
   ·split at h
    ·simp only[Rs.mk.injEq]at h;obtain⟨_,_,rfl,rfl⟩:=h;obtain⟨h1,h2⟩:=o8 he;exact (ayi h2).trans (ae0 _ _ h1)
    ·exact (bc h hv).elim
theorem ase{ks:List Nat}{d:Nat}{ob:Ob}{M1 M:Mem}(h:neg (inN d ks)=true)(g:AgM ks M1 M):AgM ks ((d,ob)::del d M1) M:=fun k hk=>by
 have hne:k≠d:=fun e=>by subst e;rw[hk]at h;cases h
 have hb:Nat.beq d k=false:=by cases q:Nat.beq d k with
  |false=>rfl
  |true=>exact absurd (a0t q).symm hne
 simp only[go,hb,a0g];rw[dn hne];exact g k hk
theorem ahq{ks:List Nat}{M M':Mem}{x:V}{ev:List Ev}{t:T}{m:List t.den}(h:ae2 M x=some (.dat ev M' t m))(he:c7 ks ev=true):AgM ks M' M:=by
 unfold ae2 at h;split at h
 ·cases h
 ·cases h;exact AgM.refl _ _
 ·split at h
  ·cases h
  ·split at h
   ·cases h;simp only[c7,ak,a0a,ij]at he;exact qv he.1
   ·cases h;simp only[c7,ak,a0a,ij]at he;exact qv he.1
   ·cases h
  ·cases h
 ·cases h
theorem alk{ks:List Nat}{b k j:Nat}{e e':O}{l:List e.strip.den}{m:List e'.strip.den}{ev:List Ev}{M1 M0 M:Mem}{vc:List Prop}{v:V}{e2:List Ev}{M2:Mem}(h:adh b k e l j e' m ev M1 M0=⟨vc,v,e2,M2⟩)(hv:ae vc)(he:c7 ks e2=true)(g:c7 ks ev=true->AgM ks M1 M):AgM ks M2 M:=by
 unfold adh at h;split at h
 ·simp only[Rs.mk.injEq]at h;obtain⟨_,_,rfl,rfl⟩:=h;obtain⟨h1,h2⟩:=o8 he;simp only[c7,ak,a0a,ij]at h2;exact ase h2.2.1 ((qv h2.1).trans (g h1))
 ·split at h
  ·simp only[Rs.mk.injEq]at h;obtain⟨_,_,rfl,rfl⟩:=h;obtain⟨h1,h2⟩:=o8 he;simp only[c7,ak,a0a,ij]at h2;exact ase h2.2.1 ((qv h2.1).trans (g h1))
  ·exact (bc h hv).elim
theorem ame{ks:List Nat}{b k:Nat}{e:O}{l:List e.strip.den}{t:T}{m:List t.den}{ev:List Ev}{M1 M0 M:Mem}{vc:List Prop}{v:V}{e2:List Ev}{M2:Mem}(h:ad8 b k e l t m ev M1 M0=⟨vc,v,e2,M2⟩)(hv:ae vc)(he:c7 ks e2=true)(g:c7 ks ev=true->AgM ks M1 M):AgM ks M2 M:=by
 unfold ad8 at h;split at h
 ·simp only[Rs.mk.injEq]at h;obtain⟨_,_,rfl,rfl⟩:=h;obtain⟨h1,h2⟩:=o8 he;simp only[c7,ak,a0a,ij]at h2;exact ase h2.1 (g h1)
 ·exact (bc h hv).elim
theorem be3{ks:List Nat}{B:Tab}{dst:Option Nat}{t:TypeId}{s x:V}{M:Mem}{vc:List Prop}{v:V}{e:List Ev}{M1:Mem}(h:acy B dst t s x M=⟨vc,v,e,M1⟩)(hv:ae vc)(he:c7 ks e=true):AgM ks M1 M:=by
 unfold acy at h;split at h
 ·rename_i el d src _ hsrc
  cases hb:ba [(B.τ t).ok,(B.τ el).ok,neg (Nat.beq (B.τ el).bytes 0),B.z el,dy (B.σ el).size (B.τ el).size]with
  |false=>rw[hb]at h;exact (bc h hv).elim
  |true=>
   rw[hb]at h;simp only[a0b]at h;split at h
   ·split at h
    ·cases h;exact AgM.refl _ _
    ·rename_i j e' m
     cases hc:ba [m9 j d,dy e'.strip.size (B.τ el).size]with
     |false=>rw[hc]at h;exact (bc h hv).elim
     |true=>rw[hc]at h;simp only[a0b,Rs.mk.injEq]at h;obtain⟨_,_,rfl,rfl⟩:=h;simp only[c7,ak,a0a,ij]at he;exact ase he.2.1 (qv he.1)
    ·rename_i ev M' t' m
     cases hc:dy t'.size (B.τ el).size with
     |false=>rw[hc]at h;exact (bc h hv).elim
     |true=>rw[hc]at h;simp only[a0b,Rs.mk.injEq]at h;obtain⟨_,_,rfl,rfl⟩:=h;obtain⟨h1,h2⟩:=o8 he;simp only[c7,ak,a0a,ij]at h2;exact ase h2.1 (ahq hsrc h1)
   ·rename_i k π;split at h
    ·rename_i o l _
     cases hc:ba [dy o.strip.size (B.τ el).size,Nat.ble (Nat.succ k) gid]with
     |false=>rw[hc]at h;exact (bc h hv).elim
     |true=>
      rw[hc]at h;simp only[a0b]at h;split at h
      ·cases h;exact AgM.refl _ _
      ·rename_i j e' m
       cases hd:neg (m9 j k)with
       |true=>rw[hd]at h;exact (bc h hv).elim
       |false=>rw[hd]at h;refine alk h hv he fun h1=>?_;simp only[c7,ak,a0a,ij]at h1;exact qv h1.1
      ·split at h
       ·refine ame h hv he fun h1=>?_;obtain⟨h2,h3⟩:=o8 h1;simp only[c7,ak,a0a,ij]at h3;exact (qv h3.1).trans (ahq hsrc h2)
       ·exact (bc h hv).elim
    ·rename_i ob _ _;split at h
     ·rename_i o l ob' _ _
      cases hc:ba [dy o.strip.size (B.τ el).size,neg (Nat.beq d k),Nat.ble (Nat.succ k) gid]with
      |false=>rw[hc]at h;exact (bc h hv).elim
      |true=>
       rw[hc]at h;simp only[a0b]at h;split at h
       ·cases h;exact AgM.refl _ _
       ·rename_i j e' m
        cases hd:ba [m9 j k,m9 j d]with
        |false=>rw[hd]at h;exact (bc h hv).elim
        |true=>rw[hd]at h;refine alk h hv he fun h1=>?_;simp only[c7,ak,a0a,ij]at h1;exact y8 h1.1
       ·split at h
        ·refine ame h hv he fun h1=>?_;obtain⟨h2,h3⟩:=o8 h1;simp only[c7,ak,a0a,ij]at h3;exact (y8 h3.1).trans (ahq hsrc h2)
        ·exact (bc h hv).elim
     ·split at h
      ·rename_i o l _ _ _ ob' _
       cases hc:ba [dy o.strip.size (B.τ el).size,neg (Nat.beq d k),Nat.ble (Nat.succ k) gid]with
       |false=>rw[hc]at h;exact (bc h hv).elim
       |true=>
        rw[hc]at h;simp only[a0b]at h;split at h
        ·exact (bc h hv).elim
        ·rename_i j e' m
         cases hd:ba [m9 j k,m9 j d]with
         |false=>rw[hd]at h;exact (bc h hv).elim
         |true=>rw[hd]at h;refine alk h hv he fun h1=>?_;simp only[c7,ak,a0a,ij]at h1;exact y8 h1.1
        ·split at h
         ·refine ame h hv he fun h1=>?_;obtain⟨h2,h3⟩:=o8 h1;simp only[c7,ak,a0a,ij]at h3;exact (y8 h3.1).trans (ahq hsrc h2)
         ·exact (bc h hv).elim
      ·exact (bc h hv).elim
     ·exact (bc h hv).elim
    ·exact (bc h hv).elim
   ·exact (bc h hv).elim
 ·exact (bc h hv).elim
theorem av2{ks:List Nat}{k r:Nat}{ρ:bg}{M:Mem}{q:Ob}{e:List Ev}{M':Mem}(h:ye k r ρ M=some (q,e,M'))(he:c7 ks e=true):AgM ks M' M:=by
 unfold ye at h
 cases hb:neg (m9 r k)with
 |true=>rw[hb]at h;cases h
 |false=>
  rw[hb]at h;simp only[a0g]at h;split at h
  ·split at h
   ·split at h
    ·cases h;simp only[c7,ak,a0a,ij]at he;exact qv he.1
    ·cases hi:ae3 ρ with
     |true=>rw[hi]at h;simp only[a0b,a0d,a0k]at h;obtain⟨_,rfl,rfl⟩:=h;simp only[c7,ak,a0a,ij]at he;exact qv he.1
     |false=>
      rw[hi]at h;simp only[a0g]at h;split at h
      ·simp only[a0d,a0k]at h;obtain⟨_,rfl,rfl⟩:=h;simp only[c7,ak,a0a,ij]at he;exact y8 he.1
      ·cases h
   ·cases h
  ·cases h
theorem ay5{ks:List Nat}{k r:Nat}{ρ:bg}{M:Mem}{q:Ob}{e:List Ev}{M':Mem}(h:al3 k r ρ M=some (q,e,M'))(he:c7 ks e=true):AgM ks M' M:=by
 unfold al3 at h
 cases hb:neg (m9 r k)with
 |true=>rw[hb]at h;cases h
 |false=>
  rw[hb]at h;simp only[a0g]at h;split at h
  ·cases h;simp only[c7,ak,a0a,ij]at he;exact qv he.1
  ·split at h
   ·cases h;simp only[c7,ak,a0a,ij]at he;exact qv he.1
   ·cases h
  ·cases h
theorem oq{ks:List Nat}{k:Nat}{t:T}{v:V}{M:Mem}{q:Ob}{e:List Ev}{M':Mem}(ht:∀a b,t=.p a b->∀x y,v≠.p x y)(h:conv k t v M=some (q,e,M'))(he:c7 ks e=true):AgM ks M' M:=by
 cases v with
 |p a b=>cases t with
  |p t s=>exact absurd rfl (ht _ _ rfl _ _)
  |_=>simp[conv]at h
 |u=>cases t <;> simp only[conv]at h <;> cases h <;> exact AgM.refl _ _
 |d _ _=>cases t <;> simp only[conv]at h <;> cases h <;> exact AgM.refl _ _
 |nl=>cases t <;> simp only[conv]at h <;> cases h <;> exact AgM.refl _ _
 |np=>cases t <;> simp only[conv]at h <;> cases h <;> exact AgM.refl _ _
 |fn f v=>cases v <;> cases t <;> simp only[conv]at h <;> cases h <;> exact AgM.refl _ _
 |ref r ρ=>cases t <;> simp only[conv]at h <;> exact av2 h he
 |ad r ρ=>cases t <;> simp only[conv]at h <;> exact ay5 h he
 |_=>cases t <;> simp only[conv]at h <;> cases h
theorem aey{ks:List Nat}{k:Nat}:(t:T)->(v:V)->(M:Mem)->(q:Ob)->(e:List Ev)->(M':Mem)->conv k t v M=some (q,e,M')->c7 ks e=true->AgM ks M' M
 |.p t s,v,M,q,e,M',h,he=>by
  by_cases hv:∃x y,v=.p x y
  ·obtain⟨x,y,rfl⟩:=hv;simp only[conv]at h;split at h
   ·rename_i q1 e1 M1 h1;split at h
    ·rename_i q2 e2 M2 h2;cases h;obtain⟨g1,g2⟩:=o8 he;exact (aey s _ _ _ _ _ h2 g2).trans (aey t _ _ _ _ _ h1 g1)
    ·cases h
   ·cases h
  ·exact oq (fun _ _ _ x y e=>hv ⟨x,y,e⟩) h he
 |.int _,_,_,_,_,_,h,he=>oq (fun _ _ e=>by cases e) h he
 |.bool,_,_,_,_,_,h,he=>oq (fun _ _ e=>by cases e) h he
 |.str,_,_,_,_,_,h,he=>oq (fun _ _ e=>by cases e) h he
 |.u,_,_,_,_,_,h,he=>oq (fun _ _ e=>by cases e) h he
 |.sl _,_,_,_,_,_,h,he=>oq (fun _ _ e=>by cases e) h he
 |.pt _,_,_,_,_,_,h,he=>oq (fun _ _ e=>by cases e) h he
 |.fn _ _,_,_,_,_,_,h,he=>oq (fun _ _ e=>by cases e) h he
 |.ifc _ _,_,_,_,_,_,h,he=>oq (fun _ _ e=>by cases e) h he
 |.mp _ _,_,_,_,_,_,h,he=>oq (fun _ _ e=>by cases e) h he
 |.op _,_,_,_,_,_,h,he=>oq (fun _ _ e=>by cases e) h he
 |.ns _,_,_,_,_,_,h,he=>oq (fun _ _ e=>by cases e) h he
 |.er _,_,_,_,_,_,h,he=>oq (fun _ _ e=>by cases e) h he
 |.any,_,_,_,_,_,h,he=>oq (fun _ _ e=>by cases e) h he
termination_by t=>SizeOf.sizeOf t
theorem aln{ks:List Nat}{k:Nat}{o:O}{v:V}{M:Mem}{x:o.strip.den}{e:List Ev}{M':Mem}(h:abh k o v M=some (x,e,M'))(he:c7 ks e=true):AgM ks M' M:=by
 unfold abh at h;split at h
 ·generalize hz:br M v=z at h;obtain⟨e1,M1⟩:=z;simp only at h;split at h
  ·cases h;have:=pn (ks:=ks) v M (by rw[hz];exact he);rw[hz]at this;exact this
  ·cases h
 ·split at h
  ·rename_i q e1 M1 h1;split at h
   ·cases h;exact aey _ _ _ _ _ _ h1 he
   ·cases h
  ·cases h
theorem aon{ks:List Nat}{k:Nat}{o:O}{v:V}{M:Mem}{x:o.strip.den}{e:List Ev}{M':Mem}(h:afa k o v M=some (x,e,M'))(he:c7 ks e=true):AgM ks M' M:=by
 unfold afa at h;split at h
 ·split at h
  ·rename_i h1;cases h;exact aln h1 he
  ·cases h
 ·exact aln h he
theorem aem{ks:List Nat}{k:Nat}{o:O}:∀(vs:List V) (ev:List Ev) (M:Mem) (l:List o.strip.den) (e:List Ev) (M':Mem),ny k o ev vs M=some (l,e,M')->c7 ks e=true->AgM ks M' M/\c7 ks ev=true
 |[],ev,M,l,e,M',h,he=>by simp only[ny]at h;cases h;exact⟨AgM.refl _ _,he⟩
 |v::r,ev,M,l,e,M',h,he=>by
  simp only[ny]at h;split at h
  ·rename_i x e1 M1 h1;split at h
   ·rename_i l2 e2 M2 h2;cases h;obtain⟨g1,g2⟩:=aem r _ _ _ _ _ h2 he;obtain⟨g3,g4⟩:=o8 g2;exact⟨g1.trans (aon h1 g4),g3⟩
   ·cases h
  ·cases h
theorem auu{ks:List Nat}{d:Nat}{ob:Ob}{M1 M:Mem}(h:neg (inN d ks)=true)(g:AgM ks M1 M):AgM ks ((d,ob)::M1) M:=fun k hk=>by
 have hne:k≠d:=fun e=>by subst e;rw[hk]at h;cases h
 have hb:Nat.beq d k=false:=by cases q:Nat.beq d k with
  |false=>rfl
  |true=>exact absurd (a0t q).symm hne
 simp only[go,hb,a0g];exact g k hk
theorem bgt{ks:List Nat}{B:Tab}{t:TypeId}{n:Nat}{ps:List (Nat×Operand)}{f:Operand->V}{d:Option Nat}{M:Mem}{vc:List Prop}{v:V}{e:List Ev}{M1:Mem}(h:zn B t n ps f d M=⟨vc,v,e,M1⟩)(hv:ae vc)(he:c7 ks e=true):AgM ks M1 M:=by
 unfold zn at h;split at h
 ·rename_i k el _;split at h
  ·cases hb:ba [(B.τ t).ok,(B.τ el).ok,B.z el,Nat.ble (Nat.mul n (B.τ el).size) 16777216,Nat.ble n nb,dy (B.σ el).size (B.τ el).size]with
   |false=>rw[hb]at h;exact (bc h hv).elim
   |true=>
    rw[hb]at h;simp only[a0b]at h;split at h
    ·cases h;exact AgM.refl _ _
    ·split at h
     ·split at h
      ·rename_i hc;cases h;simp only[c7,ak,a0a,ij]at he;exact auu he.1 ((aem _ _ _ _ _ _ hc he.2).1.trans (qv he.1))
      ·split at h
       ·rename_i hc;cases h;simp only[c7,ak,a0a,ij]at he;exact auu he.1 ((aem _ _ _ _ _ _ hc he.2).1.trans (qv he.1))
       ·exact (bc h hv).elim
     ·exact (bc h hv).elim
  ·exact (bc h hv).elim
 ·exact (bc h hv).elim
theorem bjh{ks:List Nat}{B:Tab}{t:TypeId}{x y:V}{M:Mem}{vc:List Prop}{v:V}{e:List Ev}{M1:Mem}(h:ab3 B t x y M=⟨vc,v,e,M1⟩)(hv:ae vc)(he:c7 ks e=true):AgM ks M1 M:=by
 unfold ab3 at h;split at h
 ·rename_i k π;split at h
  ·rename_i ob q _ _
   cases hb:ba [(B.τ t).ok,jl M y.cells (B.τ t).size,dy q.o.strip.size (B.τ t).size,neg (isZ (B.τ t).size)]with
   |false=>rw[hb]at h;exact (bc h hv).elim
   |true=>
    rw[hb]at h;simp only[a0b]at h;split at h
    ·rename_i z e1 M' hc
     have fr:c7 ks e1=true->AgM ks M' M:=fun g=>by
      cases hi:ae3 π with
      |true=>
       rw[hi]at hc;simp only[a0b]at hc;split at hc
       ·rename_i hw;cases hc;exact aon hw g
       ·cases hc
      |false=>rw[hi]at hc;simp only[a0g]at hc;exact aey _ _ _ _ _ _ hc g
     split at h
     ·cases hs:dy z.o.strip.size (B.τ t).size with
      |false=>rw[hs]at h;exact (bc h hv).elim
      |true=>
       rw[hs]at h;simp only[a0b]at h;split at h
       ·cases h;obtain⟨g1,g2⟩:=o8 he;simp only[c7,ij,ak,a0a]at g2;exact (y8 g2.1).trans (fr g1)
       ·cases h;obtain⟨g1,g2⟩:=o8 he;simp only[c7,ij,ak,a0a]at g2;exact (y8 g2.1).trans (fr g1)
     ·exact (bc h hv).elim
    ·exact (bc h hv).elim
  ·exact (bc h hv).elim
 ·exact (bc h hv).elim
theorem bnk{x y:V}{M:Mem}{r:Rs}:(y9 x y M r).vc=r.vc:=by
 unfold y9;split
 ·split
  ·rename_i a b _ _ _ _ _ _ _;generalize nob (Nat.blt _ gid) _=bb;cases bb <;> rfl
  ·rfl
 ·rfl
theorem bgu{ks:List Nat}{x y:V}{M:Mem}{r:Rs}(g:c7 ks r.ev=true->AgM ks r.M M):c7 ks (y9 x y M r).ev=true->AgM ks (y9 x y M r).M M:=by
 unfold y9;split
 ·split
  ·generalize nob (Nat.blt _ gid) _=bb
   cases bb with
   |true=>simp only[a0b];intro he;obtain⟨g1,g2⟩:=o8 he;simp only[c7,ij,ak,a0a]at g2;exact auu g2.1.2 ((qv g2.1.1).trans (g g1))
   |false=>simp only[a0g];exact g
  ·exact g
 ·exact g
theorem bff{ks:List Nat}{o:Oper}{env:Env}{M M1:Mem}{vc:List Prop}{v:V}{e:List Ev}(hc:ayt o=true)(h:evR B Φ o env M=⟨vc,v,e,M1⟩)(hv:ae vc)(he:c7 ks e=true):AgM ks M1 M:=by
 unfold ayt at hc;split at hc
 ·rename_i t x y hop;unfold evR at h;rw[hop]at h;simp only[Rs.mk.injEq]at h;obtain⟨rfl,rfl,rfl,rfl⟩:=h;have hv2:=dq hv;simp only[c6,hop]at hv2 he⊢;rw[bnk]at hv2;exact bgu (fun g=>bjh rfl hv2 g) he
 ·cases hc
theorem bet{ks:List Nat}{o:Oper}{env:Env}{M M1:Mem}{vc:List Prop}{v:V}{e:List Ev}(hc:arj o=true)(h:evR B Φ o env M=⟨vc,v,e,M1⟩)(hv:ae vc)(he:c7 ks e=true):AgM ks M1 M:=by
 unfold arj at hc;split at hc
 ·rename_i c hop;split at hc
  ·rename_i cx hcal
   have key:∀q:Rs,c6 B Φ o (fun x=>(rd env x).strip) M=q->ae q.vc->c7 ks q.ev=true->AgM ks q.M M:=fun q hq hv he=>by
    obtain⟨vc,v,e,M1⟩:=q;simp only[c6,hop,hcal]at hq;split at hq
    ·split at hq
     ·exact ay3 hq hv he
     ·exact (bc hq hv).elim
    ·exact (bc hq hv).elim
   unfold evR at h;rw[hop]at h;simp only[Rs.mk.injEq]at h;obtain⟨rfl,rfl,rfl,rfl⟩:=h;exact key _ rfl (dq hv) he
  ·rename_i hcal
   have key:∀q:Rs,c6 B Φ o (fun x=>(rd env x).strip) M=q->ae q.vc->c7 ks q.ev=true->AgM ks q.M M:=fun q hq hv he=>by
    obtain⟨vc,v,e,M1⟩:=q;simp only[c6,hop,hcal]at hq;split at hq
    ·rename_i t t' _ _
     cases hb:Nat.beq t t' with
     |false=>rw[hb]at hq;exact (bc hq hv).elim
     |true=>rw[hb]at hq;exact be3 hq hv he
    ·exact (bc hq hv).elim
   unfold evR at h;rw[hop]at h;simp only[Rs.mk.injEq]at h;obtain⟨rfl,rfl,rfl,rfl⟩:=h;exact key _ rfl (dq hv) he
  ·cases hc
 ·rename_i t n ps hop;unfold evR at h;rw[hop]at h;simp only[Rs.mk.injEq]at h;obtain⟨rfl,rfl,rfl,rfl⟩:=h;have key:∀q:Rs,c6 B Φ o (fun x=>(rd env x).strip) M=q->ae q.vc->c7 ks q.ev=true->AgM ks q.M M:=fun q hq hv he=>by obtain⟨vc,v,e,M1⟩:=q;simp only[c6,hop]at hq;exact bgt hq hv he
  exact key _ rfl (dq hv) he
 ·rename_i hop;unfold evR at h;rw[hop]at h;simp only[Rs.mk.injEq]at h;obtain⟨rfl,rfl,rfl,rfl⟩:=h;simp only[c6,hop,cp];exact AgM.refl ks M
 ·rename_i hop;unfold evR at h;rw[hop]at h;simp only[Rs.mk.injEq]at h;obtain⟨rfl,rfl,rfl,rfl⟩:=h;simp only[c6,hop,cp];exact AgM.refl ks M
 ·rename_i hop;unfold evR at h;rw[hop]at h;simp only[Rs.mk.injEq]at h;obtain⟨rfl,rfl,rfl,rfl⟩:=h;simp only[c6,hop,cp];exact AgM.refl ks M
 ·cases hc
theorem akr{ks:List Nat}{M' M0:Mem}(hM:∀k,inN k ks=true->go M0 k≠none->go M' k=go M0 k):∀v:V,ksV ks v=true->aam M0 v=true->agV M' M0 v
 |.d _ _,_,_=>trivial
 |.nl,_,_=>trivial
 |.np,_,_=>trivial
 |.u,_,_=>trivial
 |.p a b,h,g=>by simp only[ksV,aam,ak,a0a]at h g;exact⟨akr hM a h.1 g.1,akr hM b h.2 g.2⟩
 |.ag v,h,g=>akr hM v h g
 |.fn f v,h,g=>akr hM v h g
 |.bx v,h,g=>akr hM v h g
 |.ref k π,h,g=>by
  have hn:go M0 k≠none:=fun e=>by simp[aam,e,isN,neg]at g
  exact⟨hM k h hn,hn⟩
 |.ad k π,h,g=>by
  have hn:go M0 k≠none:=fun e=>by simp[aam,e,isN,neg]at g
  exact⟨hM k h hn,hn⟩
 |.any,h,_=>by cases h
 |.tup _,h,_=>by cases h
 |.gd _ _ _ _,h,_=>by cases h
 |.ifc _ _,h,_=>by cases h
theorem ain{ks:List Nat}(e:Ev)(he:ij ks e=true):∀v:V,ksV ks v=true->v.ev e=v
 |.d _ _,_=>rfl
 |.nl,_=>rfl
 |.np,_=>rfl
 |.u,_=>rfl
 |.p a b,h=>by simp only[ksV,ak,a0a]at h;simp only[V.ev,ain e he a h.1,ain e he b h.2]
 |.ag v,h=>by simp only[V.ev,ain e he v h]
 |.fn f v,h=>by simp only[V.ev,ain e he v h]
 |.bx v,h=>by simp only[V.ev,ain e he v h]
 |.ref k π,h=>blh h e he
 |.ad k π,h=>bnw h e he
 |.any,h=>by cases h
 |.tup _,h=>by cases h
 |.gd _ _ _ _,h=>by cases h
 |.ifc _ _,h=>by cases h
theorem aqq{ks:List Nat}:∀(e:List Ev),c7 ks e=true->∀v:V,ksV ks v=true->v.evs e=v
 |[],_,_,_=>rfl
 |x::e,he,v,hv=>by simp only[c7,ak,a0a]at he;simp only[V.evs,ain x he.1 v hv];exact aqq e he.2 v hv
theorem ahv{ks:List Nat}{env:Env}:∀{l:List Operand},sw ks env l=true->∀x∈l,ksV ks (rd env x)=true
 |[],_,x,hx=>by cases hx
 |a::l,h,x,hx=>by
  simp only[sw,ak,a0a]at h;rcases a0u.1 hx with e|e
  ·subst e;exact h.1
  ·exact ahv h.2 x e
theorem akk{ks:List Nat}{env env':Env}:∀{l:List Operand},(∀x∈l,rd env x=rd env' x)->sw ks env l=sw ks env' l
 |[],_=>rfl
 |a::l,h=>by have h1:sw ks env l=sw ks env' l:=akk fun x hx=>h x (a2y _ hx);simp only[sw,h a (a3a ..),h1]
def FlI(B:Tab)(Φ:FuncId->Option Ct)(ks as:List Nat)(x:Oper)(env:Env)(M:Mem)(y:V):Prop:=
 (∃t0,(x.op=.move (.tmp t0)\/x.op=.assign (.tmp t0))/\tj (gt env t0)=false/\gt env t0=y)\/(∃t0 k v,x.op=.extract (.tmp t0) k/\gt env t0=.tup v/\nth v k=some y)\/
 (sn x.op=true/\sw ks env (b8 x.op)=true/\ksV ks y=true/\∃vc,ae vc/\∀M',AgM ks M' M->evR B Φ x env M'=⟨vc,y,[],M'⟩)\/
 (∃t t0 k,x.op=.load t (.tmp t0)/\gt env t0=.bx (.ad k [.de])/\y=.ad k [.de]/\inN k as=true/\bc1 (B.τ t)=true)
theorem blz(e:Ev)(v:V)(h:tj v=false):tj (v.ev e)=false:=by
 cases v with
 |ref k π=>simp only[V.ev];exact az0 k π e
 |ad k π=>simp only[V.ev];exact bbf k π e
 |gd _ _ _ _=>cases h
 |_=>rfl
theorem azs:∀(e:List Ev) (v:V),tj v=false->tj (v.evs e)=false
 |[],_,h=>h
 |x::e,v,h=>by simp only[V.evs];exact azs e _ (blz x v h)
theorem bfe(e:Ev):∀(v:V) (k:Nat) (y:V),nth v k=some y->nth (v.ev e) k=some (y.ev e)
 |.p a b,0,y,h=>by simp only[nth,a0d]at h;subst h;rfl
 |.p a b,k+1,y,h=>by simp only[nth]at h;simp only[V.ev,nth];exact bfe e b k y h
 |.any,_,_,h=>by simp[nth]at h
 |.nl,_,_,h=>by simp[nth]at h
 |.np,_,_,h=>by simp[nth]at h
 |.u,_,_,h=>by simp[nth]at h
 |.d _ _,_,_,h=>by simp[nth]at h
 |.ref _ _,_,_,h=>by simp[nth]at h
 |.ad _ _,_,_,h=>by simp[nth]at h
 |.ag _,_,_,h=>by simp[nth]at h
 |.tup _,_,_,h=>by simp[nth]at h
 |.gd _ _ _ _,_,_,h=>by simp[nth]at h
 |.fn _ _,_,_,h=>by simp[nth]at h
 |.ifc _ _,_,_,h=>by simp[nth]at h
 |.bx _,_,_,h=>by simp[nth]at h
theorem bcf:∀(e:List Ev) (v:V) (k:Nat) (y:V),nth v k=some y->nth (v.evs e) k=some (y.evs e)
 |[],_,_,_,h=>h
 |x::e,v,k,y,h=>by simp only[V.evs];exact bcf e _ k _ (bfe x v k y h)
theorem bcq:∀(e:List Ev) (v:V),(V.tup v).evs e=.tup (v.evs e)
 |[],_=>rfl
 |x::e,v=>by simp only[V.evs,V.ev];exact bcq e _
theorem blq{as:List Nat}{k:Nat}(hk:inN k as=true)(x:Ev)(h:afb as x=true):(V.ad k [.de]).ev x=.ad k [.de]:=by
 have ne:∀{j:Nat},neg (inN j as)=true->Nat.beq k j=false:=fun {j} hj=>by
  cases hb:Nat.beq k j with
  |false=>rfl
  |true=>have:=a0t hb;subst this;rw[hk]at hj;cases hj
 cases x with
 |kl r=>simp only[afb]at h;simp only[V.ev,Ev.ad,ne h,a0g]
 |fz r ob=>simp only[afb]at h;simp only[V.ev,Ev.ad,ne h,a0g]
 |mv r k'=>simp only[afb]at h;simp only[V.ev,Ev.ad,ne h,a0g]
 |un r k'=>simp only[afb]at h;simp only[V.ev,Ev.ad,ne h,a0g]
 |tk r o o'=>
  simp only[afb,lu,a07]at h;simp only[V.ev,Ev.ad];rcases h with h|h
  ·rw[ne h];rfl
  ·rw[h];cases Nat.beq k r <;> rfl
 |cut r o o'=>
  simp only[afb,lu,a07]at h;simp only[V.ev,Ev.ad];rcases h with h|h
  ·rw[ne h];rfl
  ·rw[h];cases Nat.beq k r <;> rfl
theorem ao2{as:List Nat}{k:Nat}(hk:inN k as=true):∀e:List Ev,aki as e=true->(V.ad k [.de]).evs e=.ad k [.de]
 |[],_=>rfl
 |x::e,h=>by simp only[aki,ak,a0a]at h;simp only[V.evs,blq hk x h.1];exact ao2 hk e h.2
theorem bf4:∀(e:List Ev) (v:V),(V.bx v).evs e=.bx (v.evs e)
 |[],_=>rfl
 |x::e,v=>by simp only[V.evs,V.ev];exact bf4 e _
theorem FlI.look{ks as:List Nat}{x:Oper}{env:Env}{M M1:Mem}{y:V}(h:FlI B Φ ks as x env M y){env':Env}{e:List Ev}(hkp:aki as e=true)(hd:sn x.op=true->(c7 ks e=true/\AgM ks M1 M)\/(ahx M1 x.op env'=true/\sw ks env' (b8 x.op)=true/\ksV ks (y.evs e)=true/\evR B Φ x env' M1=⟨[],y.evs e,[],M1⟩))(he:∀t0,Operand.tmp t0∈x.op.operands->gt env' t0=(gt env t0).evs e):FlI B Φ ks as x env' M1 (y.evs e):=by
 rcases h with⟨t0,ho,hg,rfl⟩|⟨t0,k,v,ho,hv,hn⟩|⟨h1,h2,h3,vc,h4,h5⟩|⟨t,t0,k,ho,hv,rfl,hk,hb⟩;rotate_left 3
 ·have he:=he t0 (by simp[ho,Op.operands]);refine .inr (.inr (.inr ⟨t,t0,k,ho,by rw[he,hv,bf4,ao2 hk e hkp],ao2 hk e hkp,hk,hb⟩))
 ·have he:=he t0 (by rcases ho with ho|ho <;> simp[ho,Op.operands]);exact .inl ⟨t0,ho,by rw[he];exact azs e _ hg,he⟩
 ·have he:=he t0 (by simp[ho,Op.operands]);exact .inr (.inl ⟨t0,k,v.evs e,ho,by rw[he,hv,bcq],bcf e v k y hn⟩)
 ·rcases hd h1 with⟨hd1,hd2⟩|⟨g1,g2,g3,g4⟩;rotate_left
  ·refine .inr (.inr (.inl ⟨h1,g2,g3,[],trivial,fun M' hM=>?_⟩));rw[azt (M:=M') g1 (fun hlv q hq=>akr (ks:=ks) (fun k hk _=>hM k hk) _ (ahv g2 _ hq) (aff hlv _ hq)) g4 trivial rfl];rfl
  have hr:∀q∈x.op.operands,rd env' q=rd env q:=fun q hq=>by
   cases q with
   |tmp t=>have hkq:=ahv h2 _ (bhg h1 _ hq);simp only[rd]at hkq⊢;rw[he t hq,aqq e hd1 _ hkq]
   |const c=>rfl
   |global g=>rfl
   |func f=>rfl
  refine .inr (.inr (.inl ⟨h1,?_,by rw[aqq e hd1 y h3];exact h3,vc,h4,fun M' hM=>?_⟩))
  ·rw[akk fun q hq=>hr q (agv x q hq)];exact h2
  ·rw[aac x hr,h5 M' fun k hk=>(hM k hk).trans (hd2 k hk),aqq e hd1 y h3]
theorem FlI.same{ks as:List Nat}{x:Oper}{env:Env}{M:Mem}{y:V}(h:FlI B Φ ks as x env M y){env':Env}(he:∀t0,Operand.tmp t0∈x.op.operands->gt env' t0=gt env t0):FlI B Φ ks as x env' M y:=by
 have hr:∀q∈x.op.operands,rd env' q=rd env q:=fun q hq=>by
  cases q with
  |tmp t=>exact he t hq
  |const c=>rfl
  |global g=>rfl
  |func f=>rfl
 rcases h with⟨t0,ho,hg,hy⟩|⟨t0,k,v,ho,hv,hn⟩|⟨h1,h2,h3,vc,h4,h5⟩|⟨t,t0,k,ho,hv,hy,hk,hb⟩
 ·have he:=he t0 (by rcases ho with ho|ho <;> simp[ho,Op.operands]);exact .inl ⟨t0,ho,by rw[he];exact hg,by rw[he];exact hy⟩
 ·have he:=he t0 (by simp[ho,Op.operands]);exact .inr (.inl ⟨t0,k,v,ho,by rw[he];exact hv,hn⟩)
 ·refine .inr (.inr (.inl ⟨h1,?_,h3,vc,h4,fun M' hM=>?_⟩))
  ·rw[akk fun q hq=>hr q (agv x q hq)];exact h2
  ·rw[aac x hr];exact h5 M' hM
 ·have he:=he t0 (by simp[ho,Op.operands]);exact .inr (.inr (.inr ⟨t,t0,k,ho,by rw[he];exact hv,hy,hk,hb⟩))
theorem FlI.run{ks as:List Nat}{x:Oper}{env:Env}{y:V}{M:Mem}(h:FlI B Φ ks as x env M y):∃vc,ae vc/\evR B Φ x env M=⟨vc,y,[],M⟩:=by
 have ns:∀v:V,tj v=false->v.strip=v:=fun v hv=>by cases v <;> first|rfl|cases hv
 have nn:∀t,tj (gt env t)=false->po (rd env) [.tmp t]=[]:=fun t ht=>by
  simp only[po,rd];split
  ·rename_i e;rw[e]at ht;cases ht
  ·rfl
 rcases h with⟨t0,ho,hg,rfl⟩|⟨t0,k,v,ho,hv,hn⟩|⟨h1,h2,h3,vc,h4,h5⟩|⟨t,t0,k,ho,hv,rfl,hk,hb⟩;rotate_left 3
 ·have hg:tj (gt env t0)=false:=by rw[hv];rfl
  have hs:(V.bx (.ad k [.de])).strip=.bx (.ad k [.de]):=rfl;simp only[bc1,am,a7,a0j,a0a,ew,a0s,jq,a1f]at hb;refine⟨[],trivial,?_⟩;simp only[evR,ho,c6,b8,nn t0 hg,ap,rd,hv,hs,rk,zr,cp,wg,hb.1,hb.2.1,hb.2.2,jl,V.size,zt,cc,am,a7,a0j,ew,a3t,lu,a35,a2k,a0b,a0g]
 ·refine⟨[],trivial,?_⟩;rcases ho with ho|ho <;> simp only[evR,ho,c6,cp,b8,nn t0 hg,ap,rd,ns _ hg]
 ·have hg:tj (gt env t0)=false:=by rw[hv];rfl
  have hs:(V.tup v).strip=.tup v:=rfl;refine⟨[],trivial,?_⟩;simp only[evR,ho,c6,cp,b8,nn t0 hg,ap,rd,hv,hs,anv,hn,cc]
 ·exact⟨vc,h4,h5 M (AgM.refl ks M)⟩
theorem FlI.of{ks as:List Nat}{x:Oper}{env:Env}{M M' M1:Mem}{vc:List Prop}{v:V}{e:List Ev}(hx:as4 x.op=true)(hn:∀t,tj (gt env t)=false)(h:evR B Φ x env M=⟨vc,v,e,M'⟩)(hv:ae vc):FlI B Φ ks as x env M1 v:=by
 have ns:∀v:V,tj v=false->v.strip=v:=fun v hv=>by cases v <;> first|rfl|cases hv
 unfold as4 at hx;split at hx
 ·rename_i t0 ho;simp only[evR,ho,c6,cp,rd,ns _ (hn t0),Rs.mk.injEq]at h;exact .inl ⟨t0,.inl ho,hn t0,h.2.1⟩
 ·rename_i t0 ho;simp only[evR,ho,c6,cp,rd,ns _ (hn t0),Rs.mk.injEq]at h;exact .inl ⟨t0,.inr ho,hn t0,h.2.1⟩
 ·rename_i t0 k ho;simp only[evR,ho,c6,cp,rd,ns _ (hn t0),Rs.mk.injEq]at h;obtain⟨h1,h2,_⟩:=h;rw[←h1]at hv;have hv:=dq hv;unfold anv at hv h2;split at hv
  ·rename_i w hw;split at hv
   ·rename_i y hy;rw[hw]at h2;simp only[hy,cc]at h2;exact .inr (.inl ⟨t0,k,w,ho,hw,by rw[←h2];exact hy⟩)
   ·exact absurd hv (by simp[bad,ae])
  ·exact absurd hv (by simp[bad,ae])
 ·cases hx
section
variable {F:Fr} {all:Array Oper} {m:Nat} {E:Nat->Env} {X N:Nat->Mem} {M0:Mem} {D R:Bool} {Ds:List Bool} {ks as:List Nat}
structure Hctx (D R:Bool) (Ds:List Bool) (ks as:List Nat) (B:Tab) (Φ:FuncId->Option Ct) (all:Array Oper) (m:Nat) (E:Nat->Env) (X N:Nat->Mem) (M0:Mem):Prop where
 hb:vo 0 all.toList=true
 hm:m<=all.size
 ht:beh D R all (d9 [] all.toList) m=true
 hf:bed all (d9 [] all.toList) m=true
 hdr:ad1 all (d9 [] all.toList) m=true
 hE:∀(j:Nat) (o:Oper),all[j]? = some o->j<m->∃d v vc ev,Hst (Ds.getD j false) ks as B Φ M0 o (E j) (E (j+1)) (N j) (X j) (X (j+1)) d v vc ev
 hX:X 0=[]
 h0:∀t,tg (gt (E 0) t)=true
 hR:R=false->ks=[]
 hD:D=true->∀i,i<m->qz all.size (d9 [] all.toList) m i=true->Ds.getD i false=true
structure Hsta (all:Array Oper) (m:Nat) (E:Nat->Env) (N:Nat->Mem) (M0:Mem) (listed:Array Bool) (env:Env) (M:Mem):Prop where
 a:∀t,(∀(i:Nat) (o:Oper),all[i]? = some o->isL listed i->o.dst≠some t)->gt env t=gt (E 0) t
 b:∀(i:Nat) (o:Oper) (t:Nat),all[i]? = some o->isL listed i->o.dst=some t->gt env t=gt (E (i+1)) t
 c:∀k,(∀(i:Nat),i<all.size->isL listed i->k∉bz (N i))->go M k=go M0 k
 d:∀(i:Nat) (k:Nat),i<all.size->isL listed i->k∈bz (N i)->go M k=go (N i) k
theorem Hctx.get(C:Hctx D R Ds ks as B Φ all m E X N M0){i:Nat}(h:i<m):all[i]? = some (all[i]'(a2a h C.hm)):=a2x _
theorem Hctx.xs(C:Hctx D R Ds ks as B Φ all m E X N M0):∀(j:Nat),j<=m->∀k,(∀i,i<j->k∈bz (N i)->go (X j) k=go (N i) k/\∀i',i'<j->k∈bz (N i')->i'=i)/\((∀i,i<j->k∉bz (N i))->go (X j) k=none)
 |0,_,k=>⟨fun i h=>by omega,fun _=>by rw[C.hX];rfl⟩
 |j+1,hj,k=>by
  obtain⟨d,v,vc,ev,H⟩:=C.hE j _ (C.get (by omega)) (by omega);obtain⟨h1,h2⟩:=C.xs j (by omega) k;rw[H.x,ac3];by_cases hkj:k∈bz (N j)
  ·have hn:=acm H.nX k hkj;have none_old:∀i,i<j->k∉bz (N i):=fun i hi hk=>by have:=(h1 i hi hk).1;rw[hn]at this;exact uw.1 hk this.symm
   obtain⟨ob,hob⟩:∃ob,go (N j) k=some ob:=by
    cases hg:go (N j) k with
    |none=>exact absurd hg (uw.1 hkj)
    |some ob=>exact⟨ob,rfl⟩
   refine⟨fun i hi hk=>?_,fun h=>absurd hkj (h j (by omega))⟩
   have hij:i=j:=by
    rcases a1l i j with h|h
    ·exact absurd hk (none_old i h)
    ·omega
   subst hij;rw[hob];refine⟨rfl,fun i' hi' hk'=>?_⟩;rcases a1l i' i with h|h
   ·exact absurd hk' (none_old i' h)
   ·omega
  ·have hgn:go (N j) k=none:=by
    cases hg:go (N j) k with
    |none=>rfl
    |some ob=>exact absurd (uw.2 (by rw[hg];simp)) hkj
   rw[hgn];simp only;refine⟨fun i hi hk=>?_,fun h=>h2 fun i hi=>h i (by omega)⟩
   have hij:i<j:=by
    rcases a1l i j with h|h
    ·exact h
    ·have:i=j:=by omega
     subst this;exact absurd hk hkj
   refine⟨(h1 i hij hk).1,fun i' hi' hk'=>?_⟩
   have hij':i'<j:=by
    rcases a1l i' j with h|h
    ·exact h
    ·have:i'=j:=by omega
     subst this;exact absurd hk' hkj
   exact (h1 i hij hk).2 i' hij' hk'
theorem Hctx.uniq(C:Hctx D R Ds ks as B Φ all m E X N M0){i j:Nat}{x y:Oper}{t:Nat}(hi:i<m)(hj:j<m)(hx:all[i]? = some x)(hy:all[j]? = some y)(h1:x.dst=some t)(h2:y.dst=some t):i=j:=by
 rcases Nat.decEq i j with h|h
 ·exact absurd h2 (asq (rh C.hdr hi hj h hx hy) h1)
 ·exact h
theorem Hctx.gts(C:Hctx D R Ds ks as B Φ all m E X N M0)(j t:Nat)(hj:j<=m) :
  ((∀(i:Nat) (o:Oper),all[i]? = some o->i<j->o.dst≠some t)->gt (E j) t=gt (E 0) t)/\
  (∀(i:Nat) (o:Oper),all[i]? = some o->i<j->o.dst=some t->gt (E j) t=gt (E (i+1)) t):=by
 have hm:=C.hm;have hlen:(all.toList.take m).length=m:=by simp[hm]
 have take_lt:∀{i:Nat} {o:Oper},(all.toList.take m)[i]? = some o->i<m/\all[i]? = some o:=fun {i o} h=>by have h1:=(a1k.1 h).1;rw[hlen]at h1;rw[a2z h1,aa1]at h;exact⟨h1,h⟩
 have lt_take:∀{i:Nat} {o:Oper},i<m->all[i]? = some o->(all.toList.take m)[i]? = some o:=fun {i o} h1 h=>by rw[a2z h1,aa1];exact h
 have hw:∀(j:Nat) (o:Oper),(all.toList.take m)[j]? = some o->E (j+1)=wr o.dst (match all[j]? with|some o=>(match o.dst with|some d=>gt (E (j+1)) d|none=>.any)|none=>.any) (E j):=fun j o hj=>by obtain⟨h1,h2⟩:=take_lt hj;obtain⟨d,v,vc,ev,H⟩:=C.hE j o h2 h1;rw[h2];simp only[H.dst,wr];rw[H.he];simp only[jt,a03]
 obtain⟨a1,a2⟩:=ap9 hw j t (by omega);refine⟨fun h=>a1 fun i o hi=>h i o (take_lt hi).2,fun i o hi hlt hd=>?_⟩;rw[a2 i o (lt_take (by omega) hi) hlt hd fun i' o' hi' hl' hd'=>C.uniq (take_lt hi').1 (by omega) (take_lt hi').2 hi hd' hd];simp only[hi,hd]
theorem Hctx.step(C:Hctx D R Ds ks as B Φ all m E X N M0){listed:Array Bool}(hs:listed.size=all.size)(hl:∀i,i<all.size->isL listed i->i<m)(hdn:af8 all listed){env:Env}{M:Mem}(S:Hsta all m E N M0 listed env M){p:Ow}{a:Act}{w:World}(hst:St F p env M a w)
  {j:Nat} {o:Oper} (ho:all[j]? = some o) (hjm:j<m) (hnl:¬isL listed j)
  (hrd:∀e∈o.after,Region.binds .any e=true->isL listed e.on):tw B Φ (toL all) [o] env M (fun env' M'=>Hsta all m E N M0 (listed.setIfInBounds j true) env' M'):=by
 have hjs:=(a00.1 ho).1;have hset:∀i,isL (listed.setIfInBounds j true) i<->i=j\/isL listed i:=fun i=>aue (by rw[hs];exact hjs);have hlm:∀{i:Nat} {x:Oper},all[i]? = some x->isL listed i->i<m:=fun h1 h2=>hl _ (a00.1 h1).1 h2
 have hlook:∀t∈o.looksAt all,gt env t=gt (E j) t:=fun t htl=>by
  by_cases hw:∃(i:Nat) (x:Oper),all[i]? = some x/\i<m/\x.dst=some t
  ·obtain⟨i,x,e1,e2,e3⟩:=hw;by_cases hij:i<j
   ·have hpair:=wi (rh C.hdr e2 hjm (by omega) e1 ho) e3 htl;rw[d0 hij]at hpair;have hli:=ke hdn C.hb j o ho hrd i hpair;rw[S.b i x t e1 hli e3,(C.gts j t (by omega)).2 i x e1 hij e3]
   ·have hnli:¬isL listed i:=fun hli=>by
     by_cases e:i=j
     ·subst e;exact hnl hli
     ·have hpair:=wi (rh C.hdr e2 hjm e e1 ho) e3 htl;rw[ds hij]at hpair;exact hnl (ke hdn C.hb i x e1 (fun e' he' hb'=>hdn i x e1 hli e' he' hb') j hpair)
    rw[S.a t fun i' o' h1' h2' h3'=>hnli (C.uniq (hlm h1' h2') e2 h1' e1 h3' e3▸h2')];exact ((C.gts j t (by omega)).1 fun i' o' h1' h2' h3'=>hij (C.uniq (by omega) e2 h1' e1 h3' e3▸h2')).symm
  ·rw[S.a t fun i x h1 h2 h3=>hw ⟨i,x,h1,hlm h1 h2,h3⟩];exact ((C.gts j t (by omega)).1 fun i x h1 h2 h3=>hw ⟨i,x,h1,by omega,h3⟩).symm
 have hrdE:∀x∈o.op.operands,rd env x=rd (E j) x:=fun x hx=>by
  cases x with
  |tmp t=>exact hlook t (a1q _ (a3j.2 ⟨.tmp t,by simpa using hx,rfl⟩))
  |const c=>rfl
  |global g=>rfl
  |func f=>rfl
 obtain⟨d,v,vc,ev,H⟩:=C.hE j o ho hjm
 have hkey:∀k,go (ap (X j) M0) k≠none->go M k≠none->go M k=go (ap (X j) M0) k:=fun k h1 h2=>by
  obtain⟨x1,x2⟩:=C.xs j (by omega) k;rw[ac3]at h1⊢;by_cases hw:∃i,i<m/\k∈bz (N i)
  ·obtain⟨i,hi,hk⟩:=hw;have gone:go M0 k=none:=by obtain⟨d',v',vc',ev',H'⟩:=C.hE i _ (C.get hi) hi;exact acm H'.n0 k hk
   have one:∀i',i'<m->k∈bz (N i')->i'=i:=fun i' hi' hk'=>((C.xs m (a0f _) k).1 i hi hk).2 i' hi' hk';have hli:isL listed i:=Classical.byContradiction fun hn=>h2 (by rw[S.c k fun i' hi' hl' hk'=>hn (one i' (hl i' hi' hl') hk'▸hl'),gone]);rw[S.d i k (a2a hi C.hm) hli hk];by_cases hij:i<j
   ·rw[(x1 i hij hk).1]
    cases hg:go (N i) k with
    |none=>exact absurd hg (uw.1 hk)
    |some ob=>rfl
   ·rw[x2 fun i' hi' hk'=>hij (one i' (by omega) hk'▸hi'),gone]at h1;exact absurd rfl h1
  ·rw[x2 fun i hi hk=>hw ⟨i,by omega,hk⟩];simp only;exact S.c k fun i hi hli hk=>hw ⟨i,hl i hi hli,hk⟩
 have agr:ajg (ap (X j) M0) (E j) (b8 o.op)=true->∀x∈b8 o.op,agV M (ap (X j) M0) (rd (E j) x):=fun hlv x hx=>by
  by_cases hxt:∃t,x=.tmp t
  ·obtain⟨t,rfl⟩:=hxt;have hrel:=hst.slots t;have e1:gt env t=gt (E j) t:=by simpa only [rd]using hrdE (.tmp t) (agv o _ hx)
   rw[e1]at hrel;exact bnf hkey _ (aff hlv _ hx) _ hrel
  ·exact bo1 x fun t h=>hxt ⟨t,h⟩
 have hr:evR B Φ o env M=⟨vc,v,ev,ap (N j) (pf (bz (N j)) M)⟩:=by rw[aac o hrdE];obtain⟨N',hr,hN⟩:=H.r;have hkl:=H.kl;rw[hN]at hkl⊢;exact azt H.k agr hr H.hv hkl
 have hdis:∀i,i<all.size->isL listed i->∀k,k∈bz (N i)->k∉bz (N j):=fun i hi hli k h1 h2=>by have him:=hl i hi hli;have:=((C.xs m (a0f _) k).1 i him h1).2 j hjm h2;subst this;exact hnl hli
 have hgone:∀k∈bz (N j),go M k=none:=fun k hk=>by rw[S.c k fun i hi hli h=>hdis i hi hli k h hk];exact acm H.n0 k hk
 have hng:∀t,tg (gt env t)=true:=fun t=>by
  by_cases hw:∃(i:Nat) (x:Oper),all[i]? = some x/\isL listed i/\x.dst=some t
  ·obtain⟨i,x,e1,e2,e3⟩:=hw;rw[S.b i x t e1 e2 e3];obtain⟨d',v',vc',ev',H'⟩:=C.hE i x e1 (hlm e1 e2);have:d'=t:=by have:=H'.dst;rw[e3]at this;exact (a20 this).symm
   subst this;rw[H'.he,jt,d0 rfl];exact H'.gd
  ·rw[S.a t fun i x h1 h2 h3=>hw ⟨i,x,h1,h2,h3⟩];exact C.h0 t
 have stab:∀t,gt (pz env ev) t=gt env t:=fun t=>by rw[sv];exact bcu H.kl fun k hk=>(bjp (hgone k hk) (gt env t) (hng t)).1 _ (hst.slots t)
 simp only[tw,H.g,hr,ql,H.dst,wr];refine⟨H.hv,fun t ht=>?_,fun i x t hi hli hdx=>?_,fun k hk=>?_,fun i k hi hli hk=>?_⟩
 ·have htd:d≠t:=fun h=>ht j o ho ((hset j).2 (.inl rfl)) (by rw[H.dst,h]);rw[jt,ds htd,stab];exact S.a t fun i x hi hl'=>ht i x hi ((hset i).2 (.inr hl'))
 ·rw[jt];by_cases hij:i=j
  ·subst hij;rw[ho]at hi;cases hi;rw[H.dst]at hdx;cases hdx;rw[d0 rfl,H.he,jt,d0 rfl]
  ·have hli':=((hset i).1 hli).resolve_left hij;have htd:d≠t:=fun h=>hij (C.uniq (hlm hi hli') hjm hi ho hdx (by rw[H.dst,h]));rw[ds htd,stab];exact S.b i x t hi hli' hdx
 ·have hkj:k∉bz (N j):=hk j hjs ((hset j).2 (.inl rfl))
  have hgn:go (N j) k=none:=by
   cases hg:go (N j) k with
   |none=>rfl
   |some ob=>exact absurd (uw.2 (by rw[hg];simp)) hkj
  rw[ac3,hgn];simp only;rw[an3 hkj];exact S.c k fun i hi hli=>hk i hi ((hset i).2 (.inr hli))
 ·rw[ac3];by_cases hij:i=j
  ·subst hij
   cases hg:go (N i) k with
   |none=>exact absurd hg (uw.1 hk)
   |some ob=>rfl
  ·have hli':=((hset i).1 hli).resolve_left hij;have hkj:=hdis i hi hli' k hk
   have hgn:go (N j) k=none:=by
    cases hg:go (N j) k with
    |none=>rfl
    |some ob=>exact absurd (uw.2 (by rw[hg];simp)) hkj
   rw[hgn];simp only;rw[an3 hkj];exact S.d i k hi hli' hk
theorem al7{D R:Bool}{ms:List Nat}(h:beh D R all ms m=true){j:Nat}(hm:m<=j){y:Oper}(hy:all[j]? = some y):y.guard=none/\∀i,i<j->(ms.getD j 0).testBit i=true\/(i<m/\∃x,all[i]? = some x/\flt D R all x y=true):=by
 have hj:=(a00.1 hy).1;have:=a1d.1 h j (by simpa using hj);rw[hy]at this;simp only[a07,a0a]at this;rcases this with h1|⟨h1,h2⟩
 ·rw[a2r]at h1;omega
 ·refine⟨ayc h1,fun i hi=>?_⟩;have h3:=a1d.1 h2 i (by simpa using hi);simp only[a07,a0a]at h3;rcases h3 with h3|⟨h3,h4⟩
  ·exact .inl h3
  ·right;rw[a2r]at h3;refine⟨h3,?_⟩
   cases hx:all[i]? with
   |none=>rw[hx]at h4;cases h4
   |some x=>rw[hx]at h4;exact⟨x,rfl,h4⟩
theorem au1{x:Oper}:∀{l:List Oper},awr l=true->x∈l->sn x.op=false
 |y::l,h,hm=>by
  simp only[awr,ak,jq,a0a,a1f]at h
  cases hm with
  |head=>exact h.1
  |tail _ hm=>exact au1 h.2 hm
theorem ala{D R:Bool}{x y:Oper}(h:flt D R all x y=true):x.guard=none/\(bes D x.op=true/\(R=true->sn x.op=true->arj y=true\/ayt y=true))/\∃t,x.dst=some t/\t∉y.looksAt all/\∀u,y.dst=some u->u≠t/\u∉x.looksAt all:=by
 unfold flt at h;simp only[ak,a0a]at h;obtain⟨h1,⟨h2,h2'⟩,h3⟩:=h;refine⟨ayc h1,⟨h2,fun hR hk=>?_⟩,?_⟩
 ·rw[hR]at h2';simp only[lu,jq,a3g,a4e,a07]at h2';rcases h2' with h|h|h
  ·exfalso;unfold as4 at h;unfold sn at hk;split at h
   ·rename_i ho;rw[ho]at hk;simp[w4,acx,zp]at hk
   ·rename_i ho;rw[ho]at hk;simp[w4,acx,zp]at hk
   ·rename_i ho;rw[ho]at hk;simp[w4,acx,zp]at hk
   ·cases h
  ·exact .inl h
  ·exact .inr h
 cases hd:x.dst with
 |none=>rw[hd]at h3;cases h3
 |some t=>
  rw[hd]at h3;simp only[ak,a0a,jq,a1f]at h3;refine⟨t,rfl,fun ht=>?_,fun u hu=>?_⟩
  ·have:(zo all y).contains t=true:=by simpa[zo]using ht
   rw[h3.1]at this;cases this
  ·rw[hu]at h3;have h4:=h3.2;simp only[a0a,a1f]at h4;refine⟨fun e=>?_,fun ht=>?_⟩
   ·subst e;rw[a3n]at h4;exact absurd h4.1 (by simp)
   ·have:(zo all x).contains u=true:=by simpa[zo]using ht
    rw[h4.2]at this;cases this
theorem au6{ms:List Nat}{i:Nat}(h:qz all.size ms m i=true):∃j,m<=j/\j<all.size/\(ms.getD j 0).testBit i=false:=by
 obtain⟨j,h1,h2⟩:=List.any_eq_true.1 h;simp only[a0a,a1f]at h2;refine⟨j,?_,by simpa using h1,h2.2⟩;rcases a1l j m with h|h
 ·have hb:Nat.blt j m=true:=by rw[a2r];exact h
  rw[hb]at h2;exact absurd h2.1 (by simp)
 ·exact h
theorem bh6{ms:List Nat}{i j:Nat}(h:qz all.size ms m i=false)(hj:j<all.size)(hm:m<=j):(ms.getD j 0).testBit i=true:=by
 cases ht:(ms.getD j 0).testBit i with
 |true=>rfl
 |false=>
  have:qz all.size ms m i=true:=List.any_eq_true.2 ⟨j,by simpa using hj,by
   simp only[a0a,a1f];refine⟨?_,ht⟩
   cases hb:Nat.blt j m with
   |false=>rfl
   |true=>rw[a2r]at hb;omega⟩
  rw[h]at this;cases this
theorem au8{ms:List Nat}(h:bed all ms m=true){i j:Nat}(hi:i<m)(hj:j<m)(hne:i<=j)(fi:qz all.size ms m i=true)(fj:qz all.size ms m j=true){x y:Oper}(hx:all[i]? = some x)(hy:all[j]? = some y){u:Nat}(hu:y.dst=some u):u∉x.looksAt all:=by
 have h1:=a1d.1 h i (by simpa using hi);rw[fi]at h1;simp only[a3g,a4e]at h1;have h2:=a1d.1 h1 j (by simpa using hj);rw[fj,hx,hy]at h2;simp only[a3g,Bool.or_false,a07,hu,a1f]at h2;rcases h2 with h2|h2
 ·rw[a2r]at h2;omega
 ·intro ht;have:(zo all x).contains u=true:=by simpa[zo]using ht
  rw[h2]at this;cases this
structure Bsta (B:Tab) (Φ:FuncId->Option Ct) (ks as:List Nat) (all:Array Oper) (m c:Nat) (listed:Array Bool) (env Ec:Env) (M:Mem):Prop where
 h:∀i,i<m->isL listed i\/qz all.size (d9 [] all.toList) m i=true/\∃x t,all[i]? = some x/\x.guard=none/\x.dst=some t/\FlI B Φ ks as x Ec M (gt Ec t)
 a:∀t,(∀(i:Nat) (x:Oper),i<m->all[i]? = some x->¬isL listed i->x.dst≠some t)->gt env t=gt Ec t
theorem akw(l:List Bool)(n:Nat):ahs (l.drop n)=l.getD n false:=by
 induction l generalizing n with
 |nil=>simp[ahs]
 |cons a l ih=>cases n with
  |zero=>rfl
  |succ n=>simpa using ih n
theorem bc9(l:List Bool)(n:Nat):ahn (l.drop n)=l.drop (n+1):=by
 induction l generalizing n with
 |nil=>simp[ahn]
 |cons a l ih=>cases n with
  |zero=>rfl
  |succ n=>simpa using ih n
theorem bf8{l:List Oper}{m j i:Nat}(hm:m<=j)(hj:j<l.length)(hi:i<m)(hb:((d9 [] l).getD j 0).testBit i=false):(abe l m).getD (j-m) false=true:=by unfold abe;have hl:len l=l.length:=alu l;rw[a0o,a05,a2b (by rw[hl];show j-m<l.length-m;omega)];simp only[a0z,a02,List.any_eq_true,List.mem_range];refine⟨i,hi,?_⟩;rw[show Nat.add m (j-m)=j from by show m+(j-m)=j;omega,hb];rfl
theorem afn:∀{a b:bg},amw a b=true->a=b
 |[],[],_=>rfl
 |.l::a,.l::b,h=>by rw[afn (a:=a) (b:=b) h]
 |.r::a,.r::b,h=>by rw[afn (a:=a) (b:=b) h]
 |.de::a,.de::b,h=>by rw[afn (a:=a) (b:=b) h]
 |.ix i::a,.ix j::b,h=>by simp only[amw,ak,a0a]at h;rw[a0t h.1,afn h.2]
 |[],_::_,h=>by cases h
 |.l::_,[],h=>by cases h
 |.r::_,[],h=>by cases h
 |.de::_,[],h=>by cases h
 |.ix _::_,[],h=>by cases h
 |.l::_,.r::_,h=>by cases h
 |.l::_,.de::_,h=>by cases h
 |.l::_,.ix _::_,h=>by cases h
 |.r::_,.l::_,h=>by cases h
 |.r::_,.de::_,h=>by cases h
 |.r::_,.ix _::_,h=>by cases h
 |.de::_,.l::_,h=>by cases h
 |.de::_,.r::_,h=>by cases h
 |.de::_,.ix _::_,h=>by cases h
 |.ix _::_,.l::_,h=>by cases h
 |.ix _::_,.r::_,h=>by cases h
 |.ix _::_,.de::_,h=>by cases h
theorem blb{a b:V}(h:bib a b=true):a=b:=by
 cases a <;> cases b <;> simp only[bib,a01]at h
 ·simp only[ak,a0a]at h;rw[a0t h.1,afn h.2]
 ·simp only[ak,a0a]at h;rw[a0t h.1,afn h.2]
theorem atu{ks:List Nat}{x:Oper}{env:Env}{M:Mem}:∀{ls:List Oper},stB B Φ ks ls env M=true->x∈ls->∃d v M2,x.dst=some d/\evR B Φ x env M=⟨[],v,[],M2⟩/\v=gt env d/\ahx M x.op env=true/\sw ks env (b8 x.op)=true/\ksV ks v=true
 |[],_,h=>by cases h
 |o::r,h,hx=>by
  simp only[stB]at h;split at h
  ·rename_i d v M2 h1 h2;simp only[ak,a0a]at h;rcases a0u.1 hx with rfl|hx
   ·exact⟨d,v,M2,h1,h2,blb h.2.1,h.1.1,h.1.2.1,h.1.2.2⟩
   ·exact atu h.2.2 hx
  ·cases h
theorem avb:∀(bs:List Bool) (l:List Oper) (i:Nat) (x:Oper),bs.getD i false=true->l[i]? = some x->sn x.op=true->x∈anh bs l
 |[],_,_,_,h,_,_=>by simp at h
 |_::_,[],_,_,_,h,_=>by simp at h
 |b::bs,o::r,0,x,hb,hx,hk=>by simp only[a1w,a0d]at hx;subst hx;simp only[a3l]at hb;subst hb;simp only[anh,hk,ak,a2k,a0b];exact a3a
 |b::bs,o::r,i+1,x,hb,hx,hk=>by
  have:=avb bs r i x (by simpa using hb) (by simpa using hx) hk;simp only[anh]
  cases nob b (sn o.op)with
  |true=>exact a2y _ this
  |false=>exact this
theorem amv{all:Array Oper}{m i j:Nat}{x:Oper}(hm:m<=j)(hj:j<all.size)(hi:i<m)(hx:all[i]? = some x)(hb:((d9 [] all.toList).getD j 0).testBit i=false)(hk:sn x.op=true):x∈(aaz all.toList m).getD (j-m) []:=by
 unfold aaz;have hl:len all.toList=all.size:=by rw[alu];rfl
 rw[a0o,a05,a2b (by rw[hl];show j-m<all.size-m;omega)];simp only[a0z,a02];refine avb _ _ i x ?_ ?_ hk
 ·rw[a0o,a05,a2b hi];simp only[a0z,a02];rw[show Nat.add m (j-m)=j from by show m+(j-m)=j;omega,hb];rfl
 ·rw[ak1,a2z hi,a2m];exact hx
theorem aqf(l:List (List Oper))(n:Nat):hdP (l.drop n)=l.getD n []:=by
 induction l generalizing n with
 |nil=>simp[hdP]
 |cons a l ih=>cases n with
  |zero=>rfl
  |succ n=>simpa using ih n
theorem bjf(l:List (List Oper))(n:Nat):tlP (l.drop n)=l.drop (n+1):=by
 induction l generalizing n with
 |nil=>simp[tlP]
 |cons a l ih=>cases n with
  |zero=>rfl
  |succ n=>simpa using ih n
theorem blu{τ:Ty}{M:Mem}{d:Option Nat}{x:V}{r:Rs}(h:zr τ M d x=some r)(h1:r.vc=[])(h2:r.ev=[]):False:=by
 unfold zr at h;split at h
 ·split at h
  ·simp only[a0d]at h;subst h;revert h1 h2;generalize ba _=b
   cases b with
   |true=>intro _ h;simp at h
   |false=>intro h _;simp[bp]at h
  ·cases h
 ·cases h
theorem bnd{τ:Ty}{M:Mem}{d:Option Nat}{x:V}(h1:(rk τ M d x).vc=[])(h2:(rk τ M d x).ev=[]):(rk τ M d x).M=M:=by
 unfold rk at h1 h2⊢
 cases hr:zr τ M d x with
 |some r=>simp only[hr]at h1 h2;exact (blu hr h1 h2).elim
 |none=>rfl
theorem bok{B:Tab}{t:TypeId}{d:Option Nat}{ρ:Operand->V}{x:Operand}{lo hi:Option Operand}{M:Mem}(h:(vx B t d ρ x lo hi M).ev=[]):(vx B t d ρ x lo hi M).M=M:=by generalize hq:vx B t d ρ x lo hi M=q at h;obtain⟨a1,a2,a3,a4⟩:=q;simp only at h⊢;subst h;exact (be5 hq rfl).2
theorem bkg{x:Oper}{env:Env}{M M2:Mem}{v:V}(hk:sn x.op=true)(h:evR B Φ x env M=⟨[],v,[],M2⟩):M2=M:=by
 obtain⟨dst,op,ty',pos,after,guard⟩:=x;have h1:(evR B Φ ⟨dst,op,ty',pos,after,guard⟩ env M).vc=[]:=by rw[h]
 have h3:(evR B Φ ⟨dst,op,ty',pos,after,guard⟩ env M).ev=[]:=by rw[h]
 have h4:(evR B Φ ⟨dst,op,ty',pos,after,guard⟩ env M).M=M2:=by rw[h]
 rcases Classical.em (∃c,op=.call c)with⟨c,rfl⟩|hcc
 ·have hb:zp (.call c)=true:=by simpa[sn,w4,acx]using hk
  exact (bfn hb h).2
 rw[←h4];clear h h4;unfold sn at hk;cases op <;> simp only[w4,acx,lu,Bool.or_false,a35,ak,jq,a0a,a1f,a01,false_and]at hk
 case call c=>exact absurd ⟨c,rfl⟩ hcc
 case slice t x lo hi mx=>
  cases mx with
  |some _=>simp[zp]at hk
  |none=>exact bok h3
 all_goals simp only[zp,lu,Bool.or_false,a35,ak,jq,a0a,a1f,a01,false_and]at hk
 case load t y=>exact bnd (τ:=B.τ _) (at7 h1).2 h3
 case build t ps=>exact be9.2
 all_goals first|rfl|exact absurd hk (by simp)
theorem bli(hΦ:qj P F Φ)(hB:TabOk P B)(Q:Exit->Act->World->Prop)(K:Env->Mem->Prop)(hQ:∀p env M a w,St F p env M a w->K env M->Q .normal a w)(hb:vo 0 all.toList=true)(ht:beh D R all (d9 [] all.toList) m=true)(hR:R=false->ks=[])(hff:bed all (d9 [] all.toList) m=true)
  (huq:∀(i j:Nat) (x y:Oper) (t:Nat),i<m->j<m->all[i]? = some x->all[j]? = some y->x.dst=some t->y.dst=some t->i=j) (hdr:ad1 all (d9 [] all.toList) m=true)
  (hco:k9 F.nt all.toList=true) (hfv:∀o∈all.toList,∀k,o.dst=some k->F.fv k=none) :
  ∀(fuel:Nat) (listed:Array Bool) (c:Nat) (p:Ow) (env Ec:Env) (M:Mem) (a:Act) (w:World),listed.size=all.size->(∀i,m<=i->i<all.size->(isL listed i<->i<c))->m<=c->unl listed all.size<=fuel->af8 all listed->Bsta B Φ ks as all m c listed env Ec M->aek ks as B Φ ((aaz all.toList m).drop (c-m)) ((abe all.toList m).drop (c-m)) (all.toList.drop c) Ec M=true->
   St F p env M a w->tw B Φ (toL all) (all.toList.drop c) Ec M K->wpAny P .any all Q fuel listed a w:=by
 intro fuel
 have done:∀(listed:Array Bool) (c:Nat) (p:Ow) (env Ec:Env) (M:Mem) (a:Act) (w:World),listed.size=all.size->(∀i,m<=i->i<all.size->(isL listed i<->i<c))->m<=c->Region.ready .any all listed=[]->Bsta B Φ ks as all m c listed env Ec M->St F p env M a w->tw B Φ (toL all) (all.toList.drop c) Ec M K->Q .normal a w:=by
  intro listed c p env Ec M a w hs hl hmc hr S hst hk;have hall:=ae4 hs hb hr
  have hc:all.toList.length<=c:=by
   rcases a1l c all.size with h|h
   ·have:=(hl c hmc h).1 (hall c h);omega
   ·simpa using h
  rw[a4l hc]at hk;simp only[tw]at hk;exact hQ p Ec M a w (hst.weak fun t=>.inr (S.a t fun i x h1 h2 h3=>absurd (hall i (a00.1 h2).1) h3).symm) hk
 have noready:∀(listed:Array Bool),listed.size=all.size->unl listed all.size=0->Region.ready .any all listed=[]:=by
  intro listed hs hu
  cases hr:Region.ready .any all listed with
  |nil=>rfl
  |cons i r=>obtain⟨o,h1,h2,_⟩:=t6 (j:=i) (by rw[hr];simp);have hi:=(a00.1 h1).1;have:=af0 hu i hi;unfold isL at this;simp[hs,hi]at this h2;rw[this]at h2;cases h2
 induction fuel with
 |zero=>intro listed c p env Ec M a w hs hl hm hu _ S hck hst hk;have hr:=noready listed hs (by omega);exact⟨hr,done listed c p env Ec M a w hs hl hm hr S hst hk⟩
 |succ fuel ih=>
  intro listed c p env Ec M a w hs hl hm hu hdn S hck hst hk;refine⟨fun hr=>done listed c p env Ec M a w hs hl hm hr S hst hk,fun j hj=>?_⟩;obtain⟨o,h1,h2,h3⟩:=t6 hj;have hjs:=(a00.1 h1).1;have hnl:¬isL listed j:=by unfold isL;simp[hs,hjs]at h2⊢;exact h2
  have hmem:o∈all.toList:=by rw[a13];exact a3b h1
  have hset:∀i,isL (listed.setIfInBounds j true) i<->i=j\/isL listed i:=fun i=>aue (by rw[hs];exact hjs);have hul:=aik (by rw[hs];exact hjs) hnl all.size hjs;by_cases hjm:j<m
  ·rcases S.h j hjm with h|⟨fj,x,t,e1,e2,e3,e4⟩
   ·exact absurd h hnl
   rw[h1]at e1;cases e1
   have hop:∀q∈o.op.operands,rd env q=rd Ec q:=fun q hq=>by
    cases q with
    |tmp t0=>
     have hlk:t0∈o.looksAt all:=a1q _ (a3j.2 ⟨.tmp t0,by simpa using hq,rfl⟩);refine S.a t0 fun i x hi hx hn hd=>?_;rcases S.h i hi with h|⟨fi,_⟩
     ·exact hn h
     rcases a1l i j with hij|hij
     ·have hpair:=wi (rh hdr hi hjm (by omega) hx h1) hd hlk;rw[d0 hij]at hpair;exact hn (ke hdn hb j o h1 h3 i hpair)
     ·exact au8 hff hjm hi hij fj fi h1 hx hd hlk
    |const c=>rfl
    |global g=>rfl
    |func f=>rfl
   obtain⟨vc,hvc,hr0⟩:=e4.run (M:=M);have hr:evR B Φ o env M=⟨vc,gt Ec t,[],M⟩:=by rw[aac o hop];exact hr0
   refine wpOp_mono (fun a' w' ⟨p',env',M',q1,q2,q3⟩=>?_) (an4 (rest:=[]) (K:=fun env' M'=>env'=(t,gt Ec t)::env/\M'=M) hΦ hB hst (by simp only[tw,e2,hr,e3,ql,wr,pz];exact⟨hvc,trivial,trivial⟩) (uy hco hmem) (hfv o hmem) h1 Q);subst q2;subst q3;refine ih _ c p' _ Ec _ a' w' (by simpa using hs) (fun i hi his=>?_) hm (by omega) (hdn.set hj) ⟨fun i hi=>?_,fun t' ht'=>?_⟩ hck q1 hk
   ·rw[hset];exact⟨fun h=>h.elim (fun h=>by omega) (hl i hi his).1,fun h=>.inr ((hl i hi his).2 h)⟩
   ·rcases S.h i hi with h|h
    ·exact .inl ((hset i).2 (.inr h))
    ·exact .inr h
   ·rw[jt];by_cases htt:t=t'
    ·subst htt;rw[d0 rfl]
    ·rw[ds htt];refine S.a t' fun i x hi hx hn hd=>?_;by_cases hij:i=j
     ·subst hij;rw[h1]at hx;cases hx;rw[e3]at hd;cases hd;exact htt rfl
     ·exact ht' i x hi hx (fun h=>((hset i).1 h).elim hij hn) hd
  ·have hmj:m<=j:=by omega
   obtain⟨hg,hsp⟩:=al7 ht hmj h1
   have hcj:c<=j:=by
    rcases a1l j c with h|h
    ·exact absurd ((hl j hmj hjs).2 h) hnl
    ·exact h
   have hjc:j=c:=by
    rcases a1l c j with h|h
    ·rcases hsp c h with hb1|⟨hb1,_⟩
     ·have:=ke hdn hb j o h1 h3 c hb1;have:=(hl c hm (by omega)).1 this;omega
     ·omega
    ·omega
   subst hjc
   have atj:∀{i:Nat},i<m->¬isL listed i->∃x,all[i]? = some x/\flt D R all x o=true:=fun {i} hi hn=>by
    rcases hsp i (by omega)with hb1|⟨_,h⟩
    ·exact absurd (ke hdn hb j o h1 h3 i hb1) hn
    ·exact h
   have hdrop:all.toList.drop j=o::all.toList.drop (j+1):=by rw[a4m (by simpa using hjs)];congr 1;have:=(a00.1 h1).2;simpa using this
   rw[hdrop]at hk hck;have hlook:∀t∈o.looksAt all,gt env t=gt Ec t:=fun t htl=>S.a t fun i x hi hx hn hd=>by obtain⟨x',hx',hf⟩:=atj hi hn;rw[hx]at hx';cases hx';obtain⟨_,_,t',ht',hnot,_⟩:=ala hf;rw[hd]at ht';cases ht';exact hnot htl
   have hrdE:∀x∈o.op.operands,rd env x=rd Ec x:=fun x hx=>by
    cases x with
    |tmp t=>exact hlook t (a1q _ (a3j.2 ⟨.tmp t,by simpa using hx,rfl⟩))
    |const c=>rfl
    |global g=>rfl
    |func f=>rfl
   have hev:evR B Φ o env M=evR B Φ o Ec M:=aac o hrdE;simp only[tw,hg]at hk;generalize hq:evR B Φ o Ec M=q at hk;obtain⟨vc,v,e,M1⟩:=q;simp only[ql]at hk;simp only[aek,hq,ak,a0a,lu,a07,jq,a1f,akw,bc9,aqf,bjf]at hck;rw[show j-m+1=j+1-m from by omega]at hck;refine wpOp_mono (fun a' w' ⟨p',env',M',q1,q2,q3⟩=>?_) (an4 (rest:=[]) (K:=fun env' M'=>env'=wr o.dst v (pz env e)/\M'=M1) hΦ hB hst (by simp only[tw,hg,hev,hq,ql];exact⟨hk.1,trivial,trivial⟩) (uy hco hmem) (hfv o hmem) h1 Q);subst q2;subst q3;refine ih _ (j+1) p' _ (wr o.dst v (pz Ec e)) _ a' w' (by simpa using hs) (fun i hi his=>?_) (by omega) (by omega) (hdn.set hj) ⟨fun i hi=>?_,fun t' ht'=>?_⟩ hck.2 q1 hk.2
   ·rw[hset,hl i hi his];omega
   ·rcases S.h i hi with h|⟨f0,x,t1,f1,f2,f3,f4⟩
    ·exact .inl ((hset i).2 (.inr h))
    ·by_cases hn:isL listed i
     ·exact .inl ((hset i).2 (.inr hn))
     obtain⟨x',hx',hf⟩:=atj hi hn;rw[f1]at hx';cases hx';obtain⟨_,⟨_,hcv⟩,t',ht',_,hu⟩:=ala hf;rw[f3]at ht';cases ht'
     have hflag:ahs ((abe all.toList m).drop (j-m))=true:=by
      have hbit:((d9 [] all.toList).getD j 0).testBit i=false:=by
       cases hb1:((d9 [] all.toList).getD j 0).testBit i with
       |false=>rfl
       |true=>exact absurd (ke hdn hb j o h1 h3 i hb1) hn
      rw[akw];exact bf8 hmj (by simpa using hjs) hi hbit
     rw[akw]at hflag
     have hbit:((d9 [] all.toList).getD j 0).testBit i=false:=by
      cases hb1:((d9 [] all.toList).getD j 0).testBit i with
      |false=>rfl
      |true=>exact absurd (ke hdn hb j o h1 h3 i hb1) hn
     have hdo:sn x.op=true->(c7 ks e=true/\AgM ks M' M)\/(ahx M' x.op (wr o.dst v (pz Ec e))=true/\sw ks (wr o.dst v (pz Ec e)) (b8 x.op)=true/\ksV ks ((gt Ec t1).evs e)=true/\evR B Φ x (wr o.dst v (pz Ec e)) M'=⟨[],(gt Ec t1).evs e,[],M'⟩):=fun hdk=>by
      have hk2:=hck.1.1.2.resolve_left (by rw[hflag];simp)
      cases hRR:R with
      |false=>rw[hR hRR];exact .inl ⟨ann e,fun k hk=>by cases hk⟩
      |true=>
       have fin:stB B Φ ks (hdP ((aaz all.toList m).drop (j-m))) (wr o.dst v (pz Ec e)) M'=true->(c7 ks e=true/\AgM ks M' M)\/(ahx M' x.op (wr o.dst v (pz Ec e))=true/\sw ks (wr o.dst v (pz Ec e)) (b8 x.op)=true/\ksV ks ((gt Ec t1).evs e)=true/\evR B Φ x (wr o.dst v (pz Ec e)) M'=⟨[],(gt Ec t1).evs e,[],M'⟩):=fun h=>by
        obtain⟨d2,v2,M2,s1,s2,s3,s5,s6,s7⟩:=atu h (by rw[aqf];exact amv hmj (by simpa using hjs) hi f1 hbit hdk);rw[f3]at s1;cases s1;have s4:=bkg hdk s2;subst s4;have e2:v2=(gt Ec t1).evs e:=by rw[s3,ac4,ds (fun h=>(hu t1 h).1 rfl),sv]
        rw[e2]at s7 s2;exact .inr ⟨s5,s6,s7,s2⟩
       rcases hcv hRR hdk with hcall|hstr;rotate_left
       ·rcases hck.1.2 with h|h|h|h|h
        ·rw[hstr]at h;cases h
        ·have:ks=[]:=by
          revert h
          cases ks with
          |nil=>intro _;rfl
          |cons _ _=>intro h;cases h
         rw[this];exact .inl ⟨ann e,fun k hk=>by cases hk⟩
        ·exfalso;have hin:=amv hmj (by simpa using hjs) hi f1 hbit hdk;have:=au1 h hin;rw[hdk]at this;cases this
        ·exact .inl ⟨h,bff hstr hq hk.1 h⟩
        ·exact fin (by rw[aqf];exact h)
       rcases hk2 with h|h|h|h
       ·have:ks=[]:=by
         revert h
         cases ks with
         |nil=>intro _;rfl
         |cons _ _=>intro h;cases h
        rw[this];exact .inl ⟨ann e,fun k hk=>by cases hk⟩
       ·rw[hcall]at h;cases h
       ·exact .inl ⟨h,bet hcall hq hk.1 h⟩
       ·obtain⟨d2,v2,M2,s1,s2,s3,s5,s6,s7⟩:=atu h (amv hmj (by simpa using hjs) hi f1 hbit hdk);rw[f3]at s1;cases s1;have s4:=bkg hdk s2;subst s4;have e2:v2=(gt Ec t1).evs e:=by rw[s3,ac4,ds (fun h=>(hu t1 h).1 rfl),sv]
        rw[e2]at s7 s2;exact .inr ⟨s5,s6,s7,s2⟩
     refine .inr ⟨f0,x,t1,f1,f2,f3,?_⟩;have e1:gt (wr o.dst v (pz Ec e)) t1=(gt Ec t1).evs e:=by rw[ac4,ds (fun h=>(hu t1 h).1 rfl),sv]
     rw[e1];refine f4.look hck.1.1.1 hdo fun t0 g1=>?_;have hlk:t0∈x.looksAt all:=a1q _ (a3j.2 ⟨.tmp t0,by simpa using g1,rfl⟩);rw[ac4,ds (fun h=>(hu t0 h).2 hlk),sv]
   ·rw[ac4,ac4];split
    ·rfl
    ·rw[sv,sv,S.a t' fun i x hi hx hn hd=>ht' i x hi hx (fun h=>((hset i).1 h).elim (fun h=>by omega) hn) hd]
theorem Hctx.nogd(C:Hctx D R Ds ks as B Φ all m E X N M0){j:Nat}(hj:j<=m)(t:Nat):tj (gt (E j) t)=false:=by
 have key:tg (gt (E j) t)=true:=by
  by_cases hw:∃(i:Nat) (x:Oper),all[i]? = some x/\i<j/\x.dst=some t
  ·obtain⟨i,x,e1,e2,e3⟩:=hw;rw[(C.gts j t hj).2 i x e1 e2 e3];obtain⟨d',v',vc',ev',H'⟩:=C.hE i x e1 (by omega);have:d'=t:=by have:=H'.dst;rw[e3]at this;exact (a20 this).symm
   subst this;rw[H'.he,jt,d0 rfl];exact H'.gd
  ·rw[(C.gts j t hj).1 fun i o h1 h2 h3=>hw ⟨i,o,h1,h2,h3⟩];exact C.h0 t
 cases hv:gt (E j) t with
 |gd _ _ _ _=>rw[hv]at key;cases key
 |_=>rfl
theorem Hctx.grow(C:Hctx D R Ds ks as B Φ all m E X N M0){i:Nat}(hi:i<=m){k:Nat}(hg:go (ap (X i) M0) k≠none):go (ap (X m) M0) k=go (ap (X i) M0) k:=by
 have step:∀j,j<m->go (ap (X j) M0) k≠none->go (ap (X (j+1)) M0) k=go (ap (X j) M0) k:=fun j hj hg=>by
  obtain⟨d,v,vc,ev,H⟩:=C.hE j _ (C.get hj) hj;have hn:k∉bz (N j):=fun hm=>by have h1:=acm H.n0 k hm;have h2:=acm H.nX k hm;rw[ac3,h2]at hg;exact hg h1
  have hN:go (N j) k=none:=a3k fun e=>hn (uw.2 e);rw[H.x,ac3,ac3,ac3,hN]
 have key:∀n,i+n<=m->go (ap (X (i+n)) M0) k=go (ap (X i) M0) k:=fun n=>by
  induction n with
  |zero=>intro _;rfl
  |succ n ih=>intro hn;have h1:=ih (by omega);rw[←a3d,step (i+n) (by omega) (by rw[h1];exact hg),h1]
 have:=key (m-i) (by omega)
 rwa [show i+(m-i)=m by omega]at this
theorem Hctx.turn(C:Hctx D R Ds ks as B Φ all m E X N M0){listed:Array Bool}{env:Env}{M:Mem}(hl:∀i,i<all.size->isL listed i->i<m)(hdn:af8 all listed)(S:Hsta all m E N M0 listed env M)(hall:∀i,i<m->qz all.size (d9 [] all.toList) m i=false->isL listed i) :
  Bsta B Φ ks as all m m listed env (E m) (ap (X m) M0):=by
 have hlm:∀{i:Nat} {x:Oper},all[i]? = some x->isL listed i->i<m:=fun h1 h2=>hl _ (a00.1 h1).1 h2;refine⟨fun i hi=>?_,fun t ht=>?_⟩
 ·by_cases hn:isL listed i
  ·exact .inl hn
  right
  have fi:qz all.size (d9 [] all.toList) m i=true:=by
   cases h:qz all.size (d9 [] all.toList) m i with
   |true=>rfl
   |false=>exact absurd (hall i hi h) hn
  refine⟨fi,?_⟩;obtain⟨j,hj1,hj2,hj3⟩:=au6 fi;obtain⟨_,hsp⟩:=al7 C.ht hj1 (a2x hj2);rcases hsp i (by omega)with h|⟨_,x,hx,hf⟩
  ·rw[hj3]at h;cases h
  obtain⟨g1,g2,t,g3,_,_⟩:=ala hf;obtain⟨d,v,vc,ev,H⟩:=C.hE i x hx hi;have hd:d=t:=by have:=H.dst;rw[g3]at this;exact (a20 this).symm
  subst hd;obtain⟨N',hr,hN⟩:=H.r
  have hF:FlI B Φ ks as x (E i) (ap (X m) M0) v:=by
   rw[bes,lu,a07]at g2;rcases g2.1 with g2|g2
   ·exact FlI.of (B:=B) (Φ:=Φ) g2 (fun t=>C.nogd (by omega) t) hr H.hv
   ·simp only[ak,a0a]at g2;rcases H.dt (C.hD g2.1 i hi fi) g2.2 with hbx|⟨q1,q2⟩
    ·have h4:∃t t0 k,x.op=.load t (.tmp t0)/\gt (E i) t0=.bx (.ad k [.de])/\inN k as=true/\bc1 (B.τ t)=true:=by
      unfold bxK at hbx;split at hbx
      ·rename_i t t0 ho;split at hbx
       ·rename_i k π hg;simp only[am,a7,a0j,a0a]at hbx;exact⟨t,t0,k,ho,by rw[hg,afg hbx.1],hbx.2.1,hbx.2.2⟩
       ·cases hbx
      ·cases hbx
     obtain⟨t,t0,k,ho,hg,hk,hb⟩:=h4;obtain⟨vc',_,hrun⟩:=FlI.run (M:=ap (X i) M0) (B:=B) (Φ:=Φ) (ks:=ks) (as:=as) (x:=x) (env:=E i) (y:=.ad k [.de]) (.inr (.inr (.inr ⟨t,t0,k,ho,hg,rfl,hk,hb⟩)));rw[hr]at hrun;simp only[Rs.mk.injEq]at hrun;exact .inr (.inr (.inr ⟨t,t0,k,ho,hg,hrun.2.1,hk,hb⟩))
    have hkl:=H.kl;rw[hN]at hkl;have hev:ev=[]:=bbv g2.2 hr hkl;subst hev;refine .inr (.inr (.inl ⟨g2.2,q1,q2,vc,H.hv,fun M' hM=>?_⟩));rw[azt (M:=M') H.k (fun hlv q hq=>akr (ks:=ks) (fun k hk hg=>(hM k hk).trans (C.grow (by omega) hg)) _ (ahv q1 _ hq) (aff hlv _ hq)) hr H.hv hkl];rfl
  refine⟨x,d,hx,g1,g3,?_⟩;have hv:gt (E m) d=v:=by rw[(C.gts m d (a0f _)).2 i x hx hi g3,H.he,jt,d0 rfl]
  rw[hv];refine hF.same fun t0 k1=>?_;have hlk:t0∈x.looksAt all:=a1q _ (a3j.2 ⟨.tmp t0,by simpa using k1,rfl⟩);by_cases hw:∃(i':Nat) (x':Oper),all[i']? = some x'/\i'<m/\x'.dst=some t0
  ·obtain⟨i',x',e1,e2,e3⟩:=hw;by_cases hii:i'<i
   ·rw[(C.gts m t0 (a0f _)).2 i' x' e1 e2 e3,(C.gts i t0 (by omega)).2 i' x' e1 hii e3]
   ·exfalso
    have fi':qz all.size (d9 [] all.toList) m i'=true:=by
     cases h:qz all.size (d9 [] all.toList) m i' with
     |true=>rfl
     |false=>
      exfalso;have hli:=hall i' e2 h;by_cases e:i'=i
      ·subst e;exact hn hli
      ·have hpair:=wi (rh C.hdr e2 hi e e1 hx) e3 hlk;rw[ds hii]at hpair;exact hn (ke hdn C.hb i' x' e1 (fun e' he' hb'=>hdn i' x' e1 hli e' he' hb') i hpair)
    exact au8 C.hf hi e2 (by omega) fi fi' hx e1 e3 hlk
  ·rw[(C.gts m t0 (a0f _)).1 fun i x h1 h2 h3=>hw ⟨i,x,h1,h2,h3⟩,(C.gts i t0 (by omega)).1 fun i x h1 h2 h3=>hw ⟨i,x,h1,by omega,h3⟩]
 ·obtain⟨g1,g2⟩:=C.gts m t (a0f _);by_cases hw:∃(i:Nat) (x:Oper),all[i]? = some x/\i<m/\x.dst=some t
  ·obtain⟨i,x,e1,e2,e3⟩:=hw;have hli:isL listed i:=Classical.byContradiction fun hn=>ht i x e2 e1 hn e3;rw[g2 i x e1 e2 e3,S.b i x t e1 hli e3]
  ·rw[g1 fun i o h1 h2 h3=>hw ⟨i,o,h1,h2,h3⟩,S.a t fun i o h1 h2 h3=>hw ⟨i,o,h1,hlm h1 h2,h3⟩]
theorem Hctx.flN(C:Hctx D R Ds ks as B Φ all m E X N M0){i:Nat}(hi:i<m)(fi:qz all.size (d9 [] all.toList) m i=true):bz (N i)=[]:=by
 obtain⟨j,hj1,hj2,hj3⟩:=au6 fi;obtain⟨_,hsp⟩:=al7 C.ht hj1 (a2x hj2);rcases hsp i (by omega)with h|⟨_,x,hx,hf⟩
 ·rw[hj3]at h;cases h
 obtain⟨_,g2,_⟩:=ala hf;obtain⟨d,v,vc,ev,H⟩:=C.hE i x hx hi;obtain⟨N',hr,hN⟩:=H.r
 have he:ev=[]:=by
  rw[bes,lu,a07]at g2;rcases g2.1 with g2|g2
  ·unfold as4 at g2;split at g2
   ·rename_i ho;simp only[evR,ho,c6,cp,Rs.mk.injEq]at hr;exact hr.2.2.1.symm
   ·rename_i ho;simp only[evR,ho,c6,cp,Rs.mk.injEq]at hr;exact hr.2.2.1.symm
   ·rename_i ho;simp only[evR,ho,c6,cp,Rs.mk.injEq]at hr;exact hr.2.2.1.symm
   ·cases g2
  ·simp only[ak,a0a]at g2;have hkl:=H.kl;rw[hN]at hkl;exact bbv g2.2 hr hkl
 rw[hN,he];rfl
theorem Hctx.fin(C:Hctx D R Ds ks as B Φ all m E X N M0){listed:Array Bool}{env:Env}{M:Mem}(hl:∀i,i<all.size->isL listed i->i<m)(S:Hsta all m E N M0 listed env M)(hall:∀i,i<m->qz all.size (d9 [] all.toList) m i=false->isL listed i) :
  ∀k,go (ap (X m) M0) k=go M k:=by
 have hm:=C.hm;intro k;rw[ac3];obtain⟨x1,x2⟩:=C.xs m (a0f _) k;by_cases hw:∃i,i<m/\k∈bz (N i)
 ·obtain⟨i,h1,h2⟩:=hw
  have hli:isL listed i:=by
   cases h:qz all.size (d9 [] all.toList) m i with
   |false=>exact hall i h1 h
   |true=>rw[C.flN h1 h]at h2;cases h2
  rw[(x1 i h1 h2).1,S.d i k (by omega) hli h2]
  cases hg:go (N i) k with
  |none=>exact absurd hg (uw.1 h2)
  |some ob=>rfl
 ·rw[x2 fun i h1 h2=>hw ⟨i,h1,h2⟩];simp only;exact (S.c k fun i hi hli h2=>hw ⟨i,hl i hi hli,h2⟩).symm
theorem Hctx.any(hΦ:qj P F Φ)(hB:TabOk P B)(C:Hctx D R Ds ks as B Φ all m E X N M0)(Q:Exit->Act->World->Prop)(K:Env->Mem->Prop)(hQ:∀p env M a w,St F p env M a w->K env M->Q .normal a w)(hco:k9 F.nt all.toList=true)(hfv:∀o∈all.toList,∀k,o.dst=some k->F.fv k=none)
  (hlast:tw B Φ (toL all) (all.toList.drop m) (E m) (ap (X m) M0) K) (hck:aek ks as B Φ (aaz all.toList m) (abe all.toList m) (all.toList.drop m) (E m) (ap (X m) M0)=true) :
  ∀(fuel:Nat) (listed:Array Bool) (p:Ow) (env:Env) (M:Mem) (a:Act) (w:World),listed.size=all.size->(∀i,i<all.size->isL listed i->i<m)->unl listed all.size<=fuel->af8 all listed->Hsta all m E N M0 listed env M->St F p env M a w->wpAny P .any all Q fuel listed a w:=by
 have hm:=C.hm;have huq:∀(i j:Nat) (x y:Oper) (t:Nat),i<m->j<m->all[i]? = some x->all[j]? = some y->x.dst=some t->y.dst=some t->i=j:=fun i j x y t hi hj hx hy h1 h2=>C.uniq hi hj hx hy h1 h2;have last:∀(fuel:Nat) (listed:Array Bool) (p:Ow) (env:Env) (M:Mem) (a:Act) (w:World),listed.size=all.size->(∀i,i<all.size->isL listed i->i<m)->unl listed all.size<=fuel->af8 all listed->Hsta all m E N M0 listed env M->St F p env M a w->(∀i,i<m->qz all.size (d9 [] all.toList) m i=false->isL listed i)->wpAny P .any all Q fuel listed a w:=by intro fuel listed p env M a w hs hl hu hdn S hst hall;exact bli hΦ hB Q K hQ C.hb C.ht C.hR C.hf huq C.hdr hco hfv fuel listed m p env (E m) (ap (X m) M0) a w hs (fun i hi his=>⟨fun h=>hl i his h,fun h=>absurd h (by omega)⟩) (a0f _) hu hdn (C.turn hl hdn S hall) (by rw[Nat.sub_self];exact hck) (hst.same (C.fin hl S hall) fun _=>rfl) hlast
 intro fuel
 induction fuel with
 |zero=>intro listed p env M a w hs hl hu hdn S hst;exact last 0 listed p env M a w hs hl hu hdn S hst fun i hi _=>af0 (Nat.le_zero.1 hu) i (by omega)
 |succ fuel ih=>
  intro listed p env M a w hs hl hu hdn S hst;by_cases hall:∀i,i<m->qz all.size (d9 [] all.toList) m i=false->isL listed i
  ·exact last (fuel+1) listed p env M a w hs hl hu hdn S hst hall
  ·refine⟨fun hr=>absurd (fun i hi _=>ae4 hs C.hb hr i (by omega)) hall,fun j hj=>?_⟩;obtain⟨o,h1,h2,h3⟩:=t6 hj;have hjs:=(a00.1 h1).1;have hnl:¬isL listed j:=by unfold isL;simp[hs,hjs]at h2⊢;exact h2
   have hjm:j<m:=by
    rcases a1l j m with h|h
    ·exact h
    ·exact absurd (fun i _ hf=>ke hdn C.hb j o h1 h3 i (bh6 hf hjs h)) hall
   have hmem:o∈all.toList:=by rw[a13];exact a3b h1
   refine wpOp_mono (fun a' w' ⟨p',env',M',e1,e2⟩=>ih _ p' env' M' a' w' (by simpa using hs) (fun i hi hli=>?_) ?_ (hdn.set hj) e2 e1) (an4 hΦ hB hst (C.step hs hl hdn S hst h1 hjm hnl h3) (uy hco hmem) (hfv o hmem) h1 Q)
   ·rcases (aue (by rw[hs];exact hjs)).1 hli with h|h
    ·omega
    ·exact hl i hi h
   ·have:=aik (by rw[hs];exact hjs) hnl all.size hjs;omega
theorem axj(hΦ:qj P F Φ)(hB:TabOk P B){ops:Array Oper}{cut:Nat}(hco:k9 F.nt (toL ops)=true)(hfv:∀o∈toL ops,∀k,o.dst=some k->F.fv k=none)(hr:amp D R (toL ops) cut=true)(hR:R=false->ks=[])(hD:D=true->∀i,i<cut->qz (toL ops).length (d9 [] (toL ops)) cut i=true->Ds.getD i false=true){K:Env->Mem->Prop}{Q:Exit->Act->World->Prop}
  (hQ:∀p env M a w,St F p env M a w->K env M->Q .normal a w) {p:Ow} {env:Env} {M:Mem} {a:Act} {w:World} (h:St F p env M a w) (hn:wy env=true)
  (hk:hx Ds ks as B Φ M (fa cut (toL ops)) env [] (fun env X=>bif nob (nogd env) (aek ks as B Φ (aaz (toL ops) cut) (abe (toL ops) cut) (q9 cut (toL ops)) env (ap X M))then twG B Φ (toL ops) (q9 cut (toL ops)) env (ap X M) K else False)):wpAny P .any ops Q ops.size (Array.replicate ops.size false) a { w with drawn:=w.drawn+1 }:=by
 rw[di]at hco hfv hr;rw[ak1,ao0]at hk;simp only[amp,a0a]at hr;obtain⟨h1,h2,h3,h5,h4⟩:=hr;obtain⟨E,X,N,e0,x0,e1,e2⟩:=ay2 _ _ _ _ _ hk;have hm:cut<=ops.toList.length:=a17 h2;have hm':cut<=ops.size:=by simpa using hm
 rw[di,a1c,a3w hm]at e2
 cases hng0:nob (nogd (E cut)) (aek ks as B Φ (aaz ops.toList cut) (abe ops.toList cut) (ops.toList.drop cut) (E cut) (ap (X cut) M))with
 |false=>rw[hng0]at e2;exact e2.elim
 |true=>
 rw[hng0]at e2;simp only[a0b]at e2;simp only[ak,a0a]at hng0;obtain⟨hng,hck⟩:=hng0;replace e2:=agq (B:=B) (Φ:=Φ) _ _ _ (agc hng) e2
 have C:Hctx D R Ds ks as B Φ ops cut E X N M:={
  hR:=hR
  hD:=fun h i hi hf=>hD h i hi (by rw[di];simpa using hf)
  hb:=h1
  hm:=hm'
  ht:=by simpa using h3
  hf:=by simpa using h5
  hdr:=by simpa using h4
  hE:=fun j o ho hj=>e1 j o (by rw[di,a2z hj,aa1];exact ho)
  hX:=x0
  h0:=fun t=>by rw[e0];exact ax4 hn }
 exact C.any hΦ hB Q K hQ hco hfv (by simpa only [di]using e2) hck _ _ p env M a _ (by simp) (fun i _ hi=>absurd hi ack) (ayj _ _) (fun j o _ hi=>absurd hi ack)
  ⟨fun t _=>by rw[e0],fun i o t _ hi=>absurd hi ack,fun k _=>rfl,fun i k _ hi=>absurd hi ack⟩ h.drew
theorem bbl(hΦ:qj P F Φ)(hB:TabOk P B)(hmix:P.follows .mixedOrders=true){id:Nat}{ops:Array Oper}{cut:Nat}(hco:k9 F.nt (toL ops)=true)(hfv:∀o∈toL ops,∀k,o.dst=some k->F.fv k=none)(hr:amp D R (toL ops) cut=true)(hR:R=false->ks=[])(hD:D=true->∀i,i<cut->qz (toL ops).length (d9 [] (toL ops)) cut i=true->Ds.getD i false=true){K:Env->Mem->Prop}{Q:Exit->Act->World->Prop}
  (hQ:∀p env M a w,St F p env M a w->K env M->Q .normal a w) {p:Ow} {env:Env} {M:Mem} {a:Act} {w:World} (h:St F p env M a w) (hn:wy env=true)
  (hk:hx Ds ks as B Φ M (fa cut (toL ops)) env [] (fun env X=>bif nob (nogd env) (aek ks as B Φ (aaz (toL ops) cut) (abe (toL ops) cut) (q9 cut (toL ops)) env (ap X M))then twG B Φ (toL ops) (q9 cut (toL ops)) env (ap X M) K else False)):(Code.region id ops true).wp P Q a w:=
 wp_region_any hmix (axj hΦ hB hco hfv hr hR hD hQ h hn hk)
end
end
end Go.Bm
