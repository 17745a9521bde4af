/- The typed machine that the walks of this claim go by: its data, its operations and the proof that each is sound. No condition. -/
import Derived.Test.YtgcfmnhbleipdaaGreatDoorBmThree
set_option linter.unusedVariables false
set_option linter.unusedSimpArgs false
set_option linter.unusedSectionVars false
/- The du machine:the state is read back. -/
namespace Go.Bm
open Go.RowKit
abbrev a12:=@Bool.or_eq_false_iff
abbrev a1v:=@Bool.not_eq_false'
abbrev a4e:=@Bool.or_true
abbrev a2p:=@Code.wp_mono
abbrev a3u:=@Decidable.byContradiction
abbrev a3v:=@List.getD_cons_zero
section
variable {F:Fr} {p p' p'':Ow} {env:Env} {M M' M'':Mem} {a:Act} {w w' w'':World}
theorem Tr.mv(h:Hp F p M w){j k:Nat}{ob:Ob}(hj:go M j=some ob)(hk:go M k=none)(hg:j<gid) :
  Tr F p M w [.mv j k] ⟨fun i=>if i=k then p.β j else p.β i,fun i=>if i=k then p.σ j else p.σ i,p.L⟩ ((k,ob)::del j M) w:=by
 generalize hp':(⟨fun i=>if i=k then p.β j else p.β i,fun i=>if i=k then p.σ j else p.σ i,p.L⟩:Ow)=p';have hjk:j≠k:=by rintro rfl;rw[hj]at hk;cases hk
 have hβk:p'.β k=p.β j:=by rw[←hp'];simp
 have hσk:p'.σ k=p.σ j:=by rw[←hp'];simp
 have hβ:∀i,i≠k->p'.β i=p.β i:=fun i hi=>by rw[←hp'];simp[hi]
 have hσ:∀i,i≠k->p'.σ i=p.σ i:=fun i hi=>by rw[←hp'];simp[hi]
 have hL:p'.L=p.L:=by rw[←hp']
 have hgk:go ((k,ob)::Bm.del j M) k=some ob:=lk _ _ _;have hgi:∀i,i≠k->i≠j->go ((k,ob)::Bm.del j M) i=go M i:=fun i h1 h2=>by rw[c8,ds (a0w h1),dm h2]
 have hgj:go ((k,ob)::Bm.del j M) j=none:=by rw[c8,ds (a0w hjk),cy]
 have hlive:∀i,bt ((k,ob)::Bm.del j M) i->i=k\/(i≠k/\i≠j/\bt M i):=fun i hi=>by
  by_cases e:i=k
  ·exact .inl e
  ·by_cases e':i=j
   ·subst e';unfold bt at hi;rw[hgj]at hi;cases hi
   ·refine .inr ⟨e,e',?_⟩;unfold bt at hi⊢;rwa [hgi i e e']at hi
 have hlj:=bo hj
 have hkeep:gn (Imm F p M w) (Imm F p' ((k,ob)::Bm.del j M) w) w w:=fun b hb=>by
  refine⟨⟨hb.1,hb.2.1,by rw[hL];exact hb.2.2.1,fun i hi=>?_⟩,rfl⟩;rcases hlive i hi with rfl|⟨h1,h2,h3⟩
  ·rw[hσk];exact hb.2.2.2 j hlj
  ·rw[hσ i h1];exact hb.2.2.2 i h3
 have hne:∀i,bt M i->i≠k:=fun i hi e=>by subst e;unfold bt at hi;rw[hk]at hi;cases hi
 refine Tr.one _ hkeep (fun i π vs r=>?_) (fun i π v r=>?_) ⟨fun i o hi=>?_,fun i i' b hne' hi hi' hb=>?_,fun i b hi hb=>?_,fun b hb=>?_,h.os,h.tape,h.output,h.size,h.old⟩
 ·simp only[Ev.ref,ck];have hik:i≠k:=by obtain⟨o,_,h1,_⟩:=r;exact hne i (bo h1)
  split
  ·rename_i e;subst e;simp only[aa];obtain⟨o,pl,h1,h2,h3,h4⟩:=r;rw[hj]at h1;cases h1;exact⟨ob,pl,hgk,h2,h3,by rw[hβk];exact h4⟩
  ·rename_i e;simp only[aa];exact r.same h (hgi i hik e) (hβ i hik) (fun _ _ _=>rfl)
 ·simp only[Ev.ad,ck];have hik:i≠k:=by obtain⟨o,_,_,_,h1,_⟩:=r;exact hne i (bo h1)
  split
  ·rename_i e;subst e;simp only[aa];obtain⟨o,us,b,off,h1,h2,h3,h4,h5,h6⟩:=r;rw[hj]at h1;cases h1;exact⟨v,rfl,ob,us,b,off,hgk,h2,h3,h4,by rw[hβk];exact h5,h6⟩
  ·rename_i e;simp only[aa];exact⟨v,rfl,r.same h (hgi i hik e) (hβ i hik) (fun _ _ _=>rfl)⟩
 ·rcases hlive i (bo hi)with rfl|⟨h1,h2,h3⟩
  ·rw[hgk]at hi;cases hi;rw[hβk,hσk];exact Rel.keep hkeep _ _ _ _ (fun _ _=>rfl) (h.objs j ob hj)
  ·rw[hgi i h1 h2]at hi;rw[hβ i h1,hσ i h1];exact Rel.keep hkeep _ _ _ _ (fun _ _=>rfl) (h.objs i o hi)
 ·rcases hlive i hi with e|⟨h1,h2,h3⟩
  ·rcases hlive i' hi' with e'|⟨h1',h2',h3'⟩
   ·exact absurd (e.trans e'.symm) hne'
   ·rw[e,hσk]at hb;rw[hσ i' h1'];exact h.sep j i' b (a0w h2') hlj h3' hb
  ·rw[hσ i h1]at hb;rcases hlive i' hi' with e'|⟨h1',h2',h3'⟩
   ·rw[e',hσk];exact h.sep i j b h2 h3 hlj hb
   ·rw[hσ i' h1'];exact h.sep i i' b hne' h3 h3' hb
 ·rcases hlive i hi with e|⟨h1,h2,h3⟩
  ·rw[e,hσk]at hb;obtain⟨o1,o2⟩:=h.own j b hlj hb;exact⟨o1,o2.elim (fun h=>by have:=h.1;omega) .inr⟩
  ·rw[hσ i h1]at hb;exact h.own i b h3 hb
 ·rw[hL]at hb;obtain⟨l1,l2,l3⟩:=h.lim b hb;refine⟨l1,l2,fun i hi=>?_⟩;rcases hlive i hi with e|⟨h1,h2,h3⟩
  ·rw[e,hσk];exact l3 j hlj
  ·rw[hσ i h1];exact l3 i h3
theorem St.desc(h:St F p env M a w)(t:Nat)(x:V)(hx:ah p.β M (Imm F p M w) w x (a.tmps.getD t undef)):St F p ((t,x)::env) M a w:=by
 refine⟨h.defers,h.nt,h.fix,h.ik,h.lz,fun t'=>?_,h.hp⟩;rw[km];by_cases e:t=t'
 ·subst e;rw[d0 rfl];exact hx
 ·rw[ds e];exact h.slots t'
theorem oh(os:Obs):(ss:Shs)->(p:Ow)->(env:Env)->(M:Mem)->St F p env M a w->∃p',St F p' (sd os ss env M).1 (sd os ss env M).2 a w
 |[],p,env,M,h=>⟨p,h⟩
 |(t,.d _)::r,p,env,M,h=>by simp only[sd];exact oh os r p env M h
 |(t,.ad _ _)::r,p,env,M,h=>by simp only[sd];exact oh os r p env M h
 |(t,.fn _)::r,p,env,M,h=>by simp only[sd];exact oh os r p env M h
 |(t,.bx _)::r,p,env,M,h=>by simp only[sd];exact oh os r p env M h
 |(t,.fc _ _)::r,p,env,M,h=>by simp only[sd];exact oh os r p env M h
 |(t,.pr _ _)::r,p,env,M,h=>by simp only[sd];exact oh os r p env M h
 |(t,.u)::r,p,env,M,h=>by simp only[sd];exact oh os r p env M h
 |(t,.ref _ (_::_))::r,p,env,M,h=>by simp only[sd];exact oh os r p env M h
 |(t,.ref k [])::r,p,env,M,h=>by
  simp only[sd];split
  ·rename_i o hnl _;have hs:=h.slots t;rw[hnl]at hs;simp only[ah,aa,a0i,a0b]at hs;have h1:St F p (evE (.kl k) env) (del k M) a w:=h.tr (Tr.kl h.hp k) h.lz;obtain⟨oa,hs⟩:=hs;have h2:=Tr.new h1.hp k (cy k M) (.slice oa 0 0) (fun _=>False) ⟨.sl o,[]⟩ ⟨rfl,⟨rfl,a0f _⟩,rfl,a0f _,fun _ _ _=>rfl⟩ (fun b hb=>hb.elim) (fun _=>ak8 o oa);have h3:St F _ (evE (.kl k) env) ((k,⟨.sl o,[]⟩)::del k M) a w:=h1.tr h2 (fun b hb=>hb);refine oh os r _ _ _ (h3.desc t (.ref k []) ?_);simp only[ah,aa];refine⟨⟨.sl o,[]⟩,none,lk _ _ _,by simp only[gok],⟨⟨.sl o,[]⟩,by simp only[get]⟩,?_⟩;rw[aaf,hs];simp only[res]
  ·rename_i j x
   cases hb:orb (Nat.beq j k) (neg (Nat.ble (Nat.succ j) gid))with
   |true=>simp only[a0c];exact oh os r p env M h
   |false=>
    simp only[a0g];simp only[mi,kh,a12,a1v]at hb;split
    ·rename_i ob hj;have hjk:j≠k:=by rintro rfl;simp at hb
     have h1:St F p (evE (.kl k) env) (del k M) a w:=h.tr (Tr.kl h.hp k) h.lz;have h2:=Tr.mv h1.hp (j:=j) (k:=k) (ob:=ob) (by rw[dm hjk];exact hj) (cy k M) (a15 hb.2);have h3:St F _ (evE (.mv j k) (evE (.kl k) env)) ((k,ob)::del j (del k M)) a w:=h1.tr h2 h1.lz;exact oh os r _ _ _ h3
    ·exact oh os r p env M h
  ·exact oh os r p env M h
theorem aes:(os:Obs)->(p:Ow)->(env:Env)->(M:Mem)->St F p env M a w->∃p',St F p' (afj os env M).1 (afj os env M).2 a w
 |[],p,env,M,h=>⟨p,h⟩
 |(k,o)::r,p,env,M,h=>by
  unfold afj;split
  ·exact⟨p,h⟩
  ·rename_i k' e r' heq;cases heq;split
   ·rename_i e' l hg;split
    ·rename_i l' hl';have hq:=vf hl';simp only[Ob.mk.injEq,O.sl.injEq]at hq;obtain⟨rfl,hq⟩:=hq;cases hq;have t1:=Tr.relab (ob':=⟨.sl (.op e'),ab1 l⟩) h.hp hg (fun ρ=>by cases ρ with|nil=>rfl|cons s _=>cases s <;> rfl) (fun Im r=>bgc r);exact aes r _ _ _ (h.tr t1 h.lz)
    ·exact aes r _ _ _ h
   ·exact aes r _ _ _ h
  ·rename_i heq;cases heq;exact aes r _ _ _ h
theorem vd(os:Obs):(ks:List Nat)->(M:Mem)->(env:Env)->St F p env M a w->St F p (qk os ks M env).1 (qk os ks M env).2 a w
 |[],M,env,h=>h
 |k::r,M,env,h=>by
  simp only[qk]
  cases inO k os with
  |true=>simp only[a0c];exact vd os r M env h
  |false=>
   simp only[a0g];split
   ·rename_i ob hk;have h1:St F p (evE (.fz k ob) env) (del k M) a w:=h.tr (Tr.frz h.hp k ob hk) h.lz;exact vd os r _ _ h1
   ·exact vd os r M env h
theorem ap5(M:Mem):(os:Obs)->(x:tg os)->xh M os=some x->∀k ob,go (lu os x) k=some ob->oOf k os=some ob.o/\∃q,go M k=some q/\wkO q ob.o=some ob.x
 |[],x,h,k,ob,hk=>by simp[lu,go]at hk
 |(j,o)::r,x,h,k,ob,hk=>by
  simp only[xh]at h;split at h
  ·rename_i q hq;split at h
   ·rename_i y z hy hz;cases h;simp only[lu]at hk;rw[c8]at hk;simp only[oOf,ck];by_cases e:j=k
    ·subst e;rw[d0 rfl]at hk⊢;cases hk;exact⟨rfl,q,hq,hy⟩
    ·rw[ds e]at hk⊢;exact ap5 M r z hz k ob hk
   ·cases h
  ·cases h
theorem ajw(M:Mem):(os:Obs)->(x:tg os)->xh M os=some x->∀k o,oOf k os=some o->∃y,go (lu os x) k=some ⟨o,y⟩
 |[],x,h,k,o,hk=>by simp[oOf]at hk
 |(j,o')::r,x,h,k,o,hk=>by
  simp only[xh]at h;split at h
  ·rename_i q hq;split at h
   ·rename_i y z hy hz;cases h;simp only[oOf,ck]at hk;simp only[lu];rw[c8];by_cases e:j=k
    ·subst e;rw[d0 rfl]at hk⊢;cases hk;exact⟨y,rfl⟩
    ·rw[ds e]at hk⊢;exact ajw M r z hz k o hk
   ·cases h
  ·cases h
theorem ab7{q:Ob}{o:O}{x:o.strip.den}(h:wkO q o=some x):q.o.wk o=true/\od o.strip q.x=some x:=by
 unfold wkO at h
 cases hw:q.o.wk o with
 |false=>rw[hw]at h;cases h
 |true=>rw[hw]at h;exact⟨rfl,h⟩
theorem bsf(h:Hp F p M w)(hL:∀b,¬p.L b)(os:Obs)(x:tg os)(hx:xh M os=some x):∃p',p'.β=p.β/\(∀b,¬p'.L b)/\gn (Imm F p M w) (Imm F p' (lu os x) w) w w/\Hp F p' (lu os x) w:=by
 classical
 have hall:∀k ob,go (lu os x) k=some ob->bt M k/\Wk (Imm F p M w) w ob.o ob.x (p.σ k) [p.β k]:=fun k ob hk=>by obtain⟨_,q,h1,h2⟩:=ap5 M os x hx k ob hk;obtain⟨h3,h4⟩:=ab7 h2;exact⟨bo h1,zp q.o ob.o h3 q.x ob.x _ _ h4 (h.objs k q h1)⟩
 let σ':Nat->Nat->Prop:=fun k=>if hk:∃ob,go (lu os x) k=some ob then (hall k hk.choose hk.choose_spec).2.choose else fun _=>False
 have hσ:∀k ob,go (lu os x) k=some ob->(∀b,σ' k b->p.σ k b)/\∀Im':Nat->Prop,(∀b,Imm F p M w b->Im' b)->(∀b,p.σ k b->¬σ' k b->Im' b)->Rel Im' w ob.o ob.x (σ' k) [p.β k]:=fun k ob hk=>by
  have hex:∃ob,go (lu os x) k=some ob:=⟨ob,hk⟩;have e1:σ' k=(hall k hex.choose hex.choose_spec).2.choose:=by simp only[σ',dif_pos hex]
  have h2:=(hall k hex.choose hex.choose_spec).2.choose_spec;have e2:ob=hex.choose:=a28 (hk.symm.trans hex.choose_spec);rw[e1,e2];exact h2
 have hlv:∀k,bt (lu os x) k->bt M k/\∀b,σ' k b->p.σ k b:=fun k hk=>by obtain⟨ob,ho⟩:=ahx hk;exact⟨(hall k ob ho).1,(hσ k ob ho).1⟩
 have hkeep:gn (Imm F p M w) (Imm F ⟨p.β,σ',fun _=>False⟩ (lu os x) w) w w:=fun b hb=>⟨⟨hb.1,hb.2.1,fun h=>h,fun k hk hs=>hb.2.2.2 k (hlv k hk).1 ((hlv k hk).2 b hs)⟩,rfl⟩;refine⟨⟨p.β,σ',fun _=>False⟩,rfl,fun b hb=>hb,hkeep,⟨fun k ob hk=>?_,fun k k' b hne hk hk' hb hb'=>?_,fun k b hk hb=>?_,fun b hb=>hb.elim,h.os,h.tape,h.output,h.size,h.old⟩⟩
 ·refine (hσ k ob hk).2 _ (fun b hb=>(hkeep b hb).1) (fun b hb hn=>?_);have hlk:=(hall k ob hk).1;obtain⟨o1,o2⟩:=h.own k b hlk hb;refine⟨o1,o2.elim (fun h=>.inr (.inl h.2)) (fun h=>.inr (.inr h)),fun h=>h,fun j hj hs=>?_⟩;by_cases e:j=k
  ·subst e;exact hn hs
  ·exact h.sep k j b (a0w e) hlk (hlv j hj).1 hb ((hlv j hj).2 b hs)
 ·exact h.sep k k' b hne (hlv k hk).1 (hlv k' hk').1 ((hlv k hk).2 b hb) ((hlv k' hk').2 b hb')
 ·exact h.own k b (hlv k hk).1 ((hlv k hk).2 b hb)
theorem ap4:(a b:bq)->peq a b=true->a=b
 |[],[],_=>rfl
 |.l::a,.l::b,h=>by simp only[peq]at h;rw[ap4 a b h]
 |.r::a,.r::b,h=>by simp only[peq]at h;rw[ap4 a b h]
 |.de::a,.de::b,h=>by simp only[peq]at h;rw[ap4 a b h]
 |[],_::_,h=>by simp[peq]at h
 |.ix _::_,[],h=>by simp[peq]at h
 |.l::_,[],h=>by simp[peq]at h
 |.r::_,[],h=>by simp[peq]at h
 |.de::_,[],h=>by simp[peq]at h
 |.ix _::_,_::_,h=>by simp[peq]at h
 |.l::_,.r::_,h=>by simp[peq]at h
 |.l::_,.de::_,h=>by simp[peq]at h
 |.l::_,.ix _::_,h=>by simp[peq]at h
 |.r::_,.l::_,h=>by simp[peq]at h
 |.r::_,.de::_,h=>by simp[peq]at h
 |.r::_,.ix _::_,h=>by simp[peq]at h
 |.de::_,.l::_,h=>by simp[peq]at h
 |.de::_,.r::_,h=>by simp[peq]at h
 |.de::_,.ix _::_,h=>by simp[peq]at h
theorem azw{os:Obs}{x:tg os}(hx:xh M os=some x){k:Nat}{q:Ob}{o:O}(hq:go M k=some q)(ho:oOf k os=some o)(he:q.o.beq o=true):go (lu os x) k=some q:=by obtain⟨y,hy⟩:=ajw M os x hx k o ho;obtain⟨_,q',h1,h2⟩:=ap5 M os x hx k _ hy;rw[hq]at h1;cases h1;have:=(ab7 h2).2;have e:=O.beq_eq he;obtain⟨qo,qx⟩:=q;simp only at e this;subst e;rw[xg]at this;cases this;exact hy
theorem bmn(hβ:p'.β=p.β){os:Obs}{x:tg os}(hx:xh M os=some x){k:Nat}{π:bq}{vs:List Value}(h:Ref p.β M w k π vs)(hok:ba2 M os k π=true):Ref p'.β (lu os x) w k π vs:=by
 unfold ba2 at hok;split at hok
 ·rename_i q o hq ho;simp only[mi,a1f]at hok;rcases hok with hn|he
  ·cases π with
   |cons _ _=>simp[w8]at hn
   |nil=>obtain⟨y,hy⟩:=ajw M os x hx k o ho;obtain⟨ob,pl,h1,h2,h3,h4⟩:=h;simp only[res,a0d,a0j]at h4;exact⟨⟨o,y⟩,none,hy,by simp only[gok],⟨⟨o,y⟩,by simp only[get]⟩,by simp only[res,hβ,h4.1]⟩
  ·have:=azw hx hq ho he;obtain⟨ob,pl,h1,h2,h3,h4⟩:=h;rw[hq]at h1;cases h1;exact⟨q,pl,this,h2,h3,by rw[hβ];exact h4⟩
 ·cases hok
theorem bqs(hp:Hp F p M w)(hβ:p'.β=p.β){os:Obs}{x:tg os}(hx:xh M os=some x){k:Nat}{π:bq}{v:Value}(h:Adr p.β M w k π v)(hok:bhp M os k π=true):Adr p'.β (lu os x) w k π v:=by
 unfold bhp at hok;split at hok
 ·rename_i q o hq ho;simp only[mi,a1f]at hok;rcases hok with hn|he
  ·obtain⟨y,hy⟩:=ajw M os x hx k o ho;obtain⟨m,s1,s2⟩:=amk hn;obtain⟨ob,us0,b0,off0,k1,k2,k3,k4,k5,rfl⟩:=h;rw[hq]at k1;cases k1;obtain⟨ρ1,o1,rfl,e1,f1⟩:=zv s1;obtain⟨ρ2,o2,e2',e2,f2⟩:=zv s2;simp only[a0i,a0e]at e2';subst e2';subst e2;obtain⟨qo,qx⟩:=q;simp only at e1;subst e1;have hr:=hp.objs k _ hq;simp only[Rel]at hr;obtain⟨bb,us1,ty',S1,r1,r2,r3,r4,r5⟩:=hr;simp only[a0i,a0b]at r1;rw[r1]at k5;simp only[res]at k5;obtain⟨_,_,us2,q3⟩:=qw w ρ1 o1 m f1 qx (cellsOf w bb 0 o1.size) (some (bb,0));rw[q3]at k5;simp only[a0d,a0j]at k5;obtain⟨q1,q2,us3,q3'⟩:=qw w ρ1 o2 m f2 y (cellsOf w bb 0 o2.size) (some (bb,0));refine⟨_,us3,b0,off0,hy,by simpa only [gok]using q2,by simpa only [get]using q1,by simp only[cm],?_,rfl⟩;rw[hβ,r1];simp only[res];rw[q3',k5.2]
  ·have:=azw hx hq ho he;obtain⟨ob,us,b,off,h1,h2,h3,h4,h5,h6⟩:=h;rw[hq]at h1;cases h1;exact⟨q,us,b,off,this,h2,h3,h4,by rw[hβ];exact h5,h6⟩
 ·cases hok
theorem ai2(hp:Hp F p M w)(hβ:p'.β=p.β){os:Obs}{x:tg os}(hx:xh M os=some x)(hk:gn (Imm F p M w) (Imm F p' (lu os x) w) w w):(s:Sh)->(v:V)->(vs:List Value)->(y:s.den)->aa p.β M (Imm F p M w) w v vs->s.read M os v=some y->aa p'.β (lu os x) (Imm F p' (lu os x) w) w (s.put y) vs
 |.d t,v,vs,y,r,h=>by simp only[Sh.read]at h;simp only[Sh.put];exact fw t y vs (ai.keep hk _ _ _ (aai v t vs y r h))
 |.ref k π,v,vs,y,r,h=>by
  cases v <;> simp only[Sh.read]at h <;> try (cases h;done)
  rename_i k' π'
  cases hb:nob (ba2 M os k π) (nob (Nat.beq k k') (peq π π'))with
  |false=>rw[hb]at h;cases h
  |true=>simp only[am,a0a]at hb;have e1:=a0v hb.2.1;have e2:=ap4 _ _ hb.2.2;subst e1;subst e2;simp only[aa]at r;simp only[Sh.put,aa];exact bmn hβ hx r hb.1
 |.ad k π,v,vs,y,r,h=>by
  cases v <;> simp only[Sh.read]at h <;> try (cases h;done)
  rename_i k' π'
  cases hb:nob (bhp M os k π) (nob (Nat.beq k k') (peq π π'))with
  |false=>rw[hb]at h;cases h
  |true=>simp only[am,a0a]at hb;have e1:=a0v hb.2.1;have e2:=ap4 _ _ hb.2.2;subst e1;subst e2;simp only[aa]at r;obtain⟨z,rfl,r⟩:=r;simp only[Sh.put,aa];exact⟨z,rfl,bqs hp hβ hx r hb.1⟩
 |.fn f,v,vs,y,r,h=>by
  cases v <;> (try simp only[Sh.read]at h) <;> try (cases h;done)
  rename_i f' v';cases v' <;> (try simp only[Sh.read]at h) <;> try (cases h;done)
  simp only[ck]at h;split at h
  ·rename_i e;subst e;simp only[aa]at r;simp only[Sh.put,aa];exact r
  ·cases h
 |.bx s,v,vs,y,r,h=>by
  cases v <;> simp only[Sh.read]at h <;> try (cases h;done)
  simp only[aa]at r;obtain⟨b,o,us,h1,h2,h3,h4⟩:=r;simp only[Sh.put,aa];exact⟨b,o,us,h1,(hk b h2).1,h3,ai2 hp hβ hx hk s _ _ y h4 h⟩
 |.fc f s,v,vs,y,r,h=>by
  cases v <;> simp only[Sh.read]at h <;> try (cases h;done)
  simp only[ck]at h;split at h
  ·rename_i e;subst e;simp only[aa]at r;obtain⟨us,h1,h2⟩:=r;simp only[Sh.put,aa];exact⟨us,h1,ai2 hp hβ hx hk s _ _ y h2 h⟩
  ·cases h
 |.pr a b,v,vs,y,r,h=>by
  cases v <;> simp only[Sh.read]at h <;> try (cases h;done)
  split at h
  ·rename_i z1 z2 h1 h2;simp only[aa]at r;obtain⟨va,vb,e,ra,rb⟩:=r;cases h;simp only[Sh.put,aa];exact⟨va,vb,e,ai2 hp hβ hx hk a _ _ _ ra h1,ai2 hp hβ hx hk b _ _ _ rb h2⟩
  ·cases h
 |.u,v,vs,y,r,h=>by
  cases v <;> simp only[Sh.read]at h <;> try (cases h;done)
  simp only[Sh.put];simpa only [aa]using r
theorem brb(hp:Hp F p M w)(hβ:p'.β=p.β){os:Obs}{x:tg os}(hx:xh M os=some x)(hk:gn (Imm F p M w) (Imm F p' (lu os x) w) w w)(s:Sh)(v:V)(u:Value)(y:s.den)(r:ah p.β M (Imm F p M w) w v u)(h:s.read M os v=some y):ah p'.β (lu os x) (Imm F p' (lu os x) w) w (s.put y) u:=by
 have key:aa p.β M (Imm F p M w) w v [u]->ah p'.β (lu os x) (Imm F p' (lu os x) w) w (s.put y) u:=fun r=>a7 (ai2 hp hβ hx hk s v [u] y r h)
 cases v with
 |any=>cases s with
  |d t=>cases t <;> simp[Sh.read,V.as]at h
  |_=>simp[Sh.read]at h
 |ag z=>cases s with
  |d t=>cases t <;> simp[Sh.read,V.as]at h
  |_=>simp[Sh.read]at h
 |tup z=>cases s with
  |d t=>cases t <;> simp[Sh.read,V.as]at h
  |_=>simp[Sh.read]at h
 |gd _ _ _ z=>cases s with
  |d t=>cases t <;> simp[Sh.read,V.as]at h
  |_=>simp[Sh.read]at h
 |_=>exact key (by simpa only [ah]using r)
theorem bdd(hp:Hp F p M w)(hβ:p'.β=p.β){os:Obs}{x:tg os}(hx:xh M os=some x)(hk:gn (Imm F p M w) (Imm F p' (lu os x) w) w w)(hs:∀t,ah p.β M (Imm F p M w) w (gt env t) (a.tmps.getD t undef)) :
  (ss:Shs)->(y:aba ss)->aq5 M os env ss=some y->∀t,ah p'.β (lu os x) (Imm F p' (lu os x) w) w (gt (al5 ss y) t) (a.tmps.getD t undef)
 |[],y,h,t=>by simp only[al5,gt,ah]
 |(t',s)::r,y,h,t=>by
  simp only[aq5]at h;split at h
  ·rename_i z1 z2 h1 h2;cases h;simp only[al5];rw[km];split
   ·rename_i e;subst e;exact brb hp hβ hx hk s _ _ z1 (hs t') h1
   ·exact bdd hp hβ hx hk hs r z2 h2 t
  ·cases h
theorem w9{β β':Nat->Value}{Im Im':Nat->Prop}(hk:gn Im Im' w w'):(v:V)->cu v=true->(∀vs,aa β M Im w v vs->aa β' M' Im' w' v vs)/\∀u,ah β M Im w v u->ah β' M' Im' w' v u
 |.d t x,_=>⟨fun vs r=>by simp only[aa]at r⊢;exact ai.keep hk t x vs r,fun u r=>by rw[bd]at r⊢;exact ai.keep hk t x _ r⟩
 |.nl,_=>⟨fun vs r=>by simpa only [aa]using r,fun u r=>by simpa only [ah,aa]using r⟩
 |.np,_=>⟨fun vs r=>by simpa only [aa]using r,fun u r=>by simpa only [ah,aa]using r⟩
 |.u,_=>⟨fun vs r=>by simpa only [aa]using r,fun u r=>by simpa only [ah,aa]using r⟩
 |.p a b,h=>by
  simp only[cu,am,a0a]at h;have key:∀vs,aa β M Im w (.p a b) vs->aa β' M' Im' w' (.p a b) vs:=fun vs r=>by simp only[aa]at r⊢;obtain⟨va,vb,e,h1,h2⟩:=r;exact⟨va,vb,e,(w9 hk a h.1).1 va h1,(w9 hk b h.2).1 vb h2⟩
  exact⟨key,fun u r=>by simp only[ah]at r⊢;exact key _ r⟩
 |.ag v,h=>by simp only[cu]at h;refine⟨fun vs r=>by simp only[aa]at r,fun u r=>?_⟩;simp only[ah]at r⊢;obtain⟨vs,e,h1⟩:=r;exact⟨vs,e,(w9 hk v h).1 vs h1⟩
 |.fn f v,h=>by
  simp only[cu]at h;have key:∀vs,aa β M Im w (.fn f v) vs->aa β' M' Im' w' (.fn f v) vs:=fun vs r=>by simp only[aa]at r⊢;obtain⟨us,e,h1⟩:=r;exact⟨us,e,(w9 hk v h).1 us h1⟩
  exact⟨key,fun u r=>by simp only[ah]at r⊢;exact key _ r⟩
 |.bx v,h=>by
  simp only[cu]at h;have key:∀vs,aa β M Im w (.bx v) vs->aa β' M' Im' w' (.bx v) vs:=fun vs r=>by simp only[aa]at r⊢;obtain⟨b,o,us,e,h1,h2,h3⟩:=r;exact⟨b,o,us,e,(hk b h1).1,h2.keep (hk b h1).2,(w9 hk v h).1 us h3⟩
  exact⟨key,fun u r=>by simp only[ah]at r⊢;exact key _ r⟩
 |.any,h=>by simp[cu]at h
 |.ref _ _,h=>by simp[cu]at h
 |.ad _ _,h=>by simp[cu]at h
 |.tup _,h=>by simp[cu]at h
 |.gd _ _ _ _,h=>by simp[cu]at h
 |.ifc _ _,h=>by simp[cu]at h
theorem ask(h:St F p env M a w){ss:Shs}{os:Obs}{q:(aba ss×tg os)×Env}(hr:ajr ss os env M=some q) :
  ∃p',St F p' (al5 ss q.1.1) (lu os q.1.2) a w/\∀t,cu (gt q.2 t)=true->ah p'.β (lu os q.1.2) (Imm F p' (lu os q.1.2) w) w (gt q.2 t) (a.tmps.getD t undef):=by
 unfold ajr at hr;obtain⟨p0,h0⟩:=oh os ss p env M h;generalize sd os ss env M=z0 at hr h0;obtain⟨env0,M0⟩:=z0;simp only at hr h0;obtain⟨p1,h1⟩:=aes os p0 env0 M0 h0;generalize afj os env0 M0=z1 at hr h1;obtain⟨env1,M1⟩:=z1;simp only at hr h1;have h2:=vd os (cc M1) M1 env1 h1;generalize qk os (cc M1) M1 env1=z2 at hr h2;obtain⟨env2,M2⟩:=z2;simp only at hr h2;split at hr
 ·rename_i y x hy hx;cases hr;obtain⟨p',e1,e2,e3,e4⟩:=bsf h2.hp h2.lz os x hx;refine⟨p',⟨h2.defers,h2.nt,h2.fix,fun b hb=>⟨(e3 b (h2.ik b hb).1).1,(h2.ik b hb).2⟩,e2,bdd h2.hp e1 hx e3 h2.slots ss y hy,e4⟩,fun t ht=>(w9 e3 _ ht).2 _ (h2.slots t)⟩
 ·cases hr
end
end Go.Bm
/- The du machine:code keeps the law that is read off it. -/
namespace Go.Bm
open Go.RowKit
theorem lq:(t:T)->(x:t.den)->t.ok x->ab (t.oks x)
 |.int k,x,h=>by simp only[T.oks,cr,da,a0b];simpa only [T.ok]using h
 |.p a b,x,h=>by simp only[T.ok]at h;simp only[T.oks,sf];exact⟨lq a _ h.1,lq b _ h.2⟩
 |.sl e,x,h=>by simp only[T.oks,cr,da,a0b];exact h
 |.pt t,x,h=>by simp only[T.ok]at h;simp only[T.oks];exact lq t x h
 |.fn _ t,x,h=>by simp only[T.ok]at h;simp only[T.oks];exact lq t x h
 |.ifc _ t,x,h=>by simp only[T.ok]at h;simp only[T.oks];exact lq t x h
 |.mp k v,x,h=>by simp only[T.oks,cr,da,a0b];exact h
 |.op t,x,h=>by simp only[T.oks,cr,da,a0b];exact h
 |.ns t,x,h=>by simp only[T.oks,cr,da,a0b];exact h
 |.er _,x,h=>by simp only[T.oks,da]
 |.str,x,h=>by simp only[T.oks,cr,da,a0b];simpa only [T.ok]using h
 |.bool,x,h=>by simp only[T.oks,da]
 |.u,x,h=>by simp only[T.oks,da]
 |.any,x,h=>by simp only[T.oks,da]
def brz:Nat->List Nat->Bool
 |i,σ=>(List.range i).all fun k=>Nat.beq (plc σ k) k
def bpt(nt:Nat)(l:List Oper):Bool:=nob (awb l) (nob (Nat.blt (ab4 0 l) (amy 0 l)) (nob (Nat.blt (amy 0 l) l.length) (nob (xi 0 l) (nob (bcw (mvS (ab4 0 l) (amy 0 l) (len l)) l.length) (nob (brz (ab4 0 l) (mvS (ab4 0 l) (amy 0 l) (len l))) (nob (me nt (bhs l)) (nob (me nt (bis l)) (nob (apo false false (bhs l) (ab4 0 l)) (apo false false (bis l) (Nat.succ (ab4 0 l)))))))))))
def okC(nt:Nat)(cut:Nat->Nat):Code->Bool
 |.region id ops draw=>nob (me nt (toL ops)) (bif draw then (bif Nat.beq (cut id) 999999 then bo4 (toL ops)else bif Nat.beq (cut id) 999998 then bpt nt (toL ops)else bif Nat.ble 10000 (cut id)then nob (me nt (im (hrC (cut id)) (toL ops))) (bi3 (hrC (cut id)) true (toL ops) (mC (cut id)))else bif Nat.ble 2000 (cut id)then nob (me nt (im false (toL ops))) (bi3 false false (toL ops) (Nat.sub (cut id) (bnc (cut id))))else bif Nat.ble 1000 (cut id)then apo false false (toL ops) (Nat.sub (cut id) 1000)else bif Nat.ble 500 (cut id)then apo false false (toL ops) (Nat.sub (cut id) 500)else bh2 (toL ops) (cut id))else true)
 |.seq a b=>nob (okC nt cut a) (okC nt cut b)
 |.cond _ a b=>nob (okC nt cut a) (okC nt cut b)
 |.block _ c=>okC nt cut c
 |.loop c=>okC nt cut c
 |.scope c=>okC nt cut c
 |_=>true
def aea(fv:Nat->Option Value):Code->Prop
 |.region _ ops _=>∀o∈toL ops,∀k,o.dst=some k->fv k=none
 |.seq a b=>aea fv a/\aea fv b
 |.cond _ a b=>aea fv a/\aea fv b
 |.block _ c=>aea fv c
 |.loop c=>aea fv c
 |.scope c=>aea fv c
 |_=>True
theorem qb:(c:Code)->aea (fun _=>none) c
 |.region _ _ _=>fun _ _ _ _=>rfl
 |.seq a b=>⟨qb a,qb b⟩
 |.cond _ a b=>⟨qb a,qb b⟩
 |.block _ c=>qb c
 |.loop c=>qb c
 |.scope c=>qb c
 |.skip=>trivial
 |.ret=>trivial
 |.exit _=>trivial
 |.goto _=>trivial
 |.label _=>trivial
 |.rangeFunc _ _ _ _=>trivial
 |.refuse _=>trivial
def xo(fv:Nat->Option Value)(ks:List Nat)(a:Act):Nat->Option Value:=fun t=>bif vn t ks then some (a.tmps.getD t undef)else fv t
def mkF(F:Fr)(I:Nat->Prop)(w:World)(ks:List Nat)(a:Act):Fr:=⟨F.w0,w,F.A,F.R,I,F.nt,xo F.fv ks a⟩
theorem bcz{ks:List Nat}:{l:List Oper}->bbl ks l=true->∀o∈l,∀k,o.dst=some k->vn k ks=false
 |[],_,o,ho,_,_=>by cases ho
 |x::r,h,o,ho,k,hk=>by
  simp only[bbl]at h;rcases a0s.1 ho with rfl|ho
  ·rw[hk]at h;simp only at h
   cases hm:vn k ks with
   |false=>rfl
   |true=>rw[hm]at h;cases h
  ·refine bcz ?_ o ho k hk;split at h
   ·rename_i d _
    cases hm:vn d ks with
    |false=>rw[hm]at h;exact h
    |true=>rw[hm]at h;cases h
   ·exact h
theorem p7{fv:Nat->Option Value}{ks:List Nat}{a:Act}:(c:Code)->noW ks c=true->aea fv c->aea (xo fv ks a) c
 |.region id ops draw,h,hf=>fun o ho k hk=>by simp only[noW]at h;unfold xo;rw[bcz h o ho k hk];exact hf o ho k hk
 |.seq x y,h,hf=>by simp only[noW,am,a0a]at h;exact⟨p7 x h.1 hf.1,p7 y h.2 hf.2⟩
 |.cond _ x y,h,hf=>by simp only[noW,am,a0a]at h;exact⟨p7 x h.1 hf.1,p7 y h.2 hf.2⟩
 |.block _ c,h,hf=>by simp only[noW]at h;exact p7 c h hf
 |.loop c,h,hf=>by simp only[noW]at h;exact p7 c h hf
 |.scope c,h,hf=>by simp only[noW]at h;exact p7 c h hf
 |.skip,_,_=>trivial
 |.ret,_,_=>trivial
 |.exit _,_,_=>trivial
 |.goto _,_,_=>trivial
 |.label _,_,_=>trivial
 |.rangeFunc _ _ _ _,_,_=>trivial
 |.refuse _,_,_=>trivial
def ym(F:Fr)(K:Ex->Env->Mem->Prop):Exit->Act->World->Prop
 |.normal,a,w=>∃p env M,St F p env M a w/\K .nm env M
 |.exit id,a,w=>∃p env M,St F p env M a w/\K (.ex id) env M
 |.ret,a,w=>∃p env M,St F p env M a w/\K .rt env M
 |.goto l,a,w=>∃p env M,St F p env M a w/\K (.go l) env M
 |_,_,_=>False
section
variable {F:Fr} {p p' p'':Ow} {env env':Env} {M M' M'':Mem} {a a':Act} {w w' w'':World} {P:Program} {B:Tab} {Φ:FuncId->Option Ct}
theorem bc5:∀(env:Env) (t:Nat),gt (clr env) t=.any\/gt (clr env) t=gt env t
 |[],t=>.inl rfl
 |(k,v)::r,t=>by
  simp only[clr];split
  ·rw[km,km];split
   ·exact .inl rfl
   ·exact bc5 r t
  ·rw[km,km];split
   ·exact .inr rfl
   ·exact bc5 r t
theorem bpc:∀(x y:Env) (t:Nat),gt (ap x y) t=gt x t\/gt (ap x y) t=gt y t
 |[],y,t=>.inr rfl
 |(k,v)::r,y,t=>by
  simp only[ap];rw[km,km];split
  ·exact .inl rfl
  ·exact bpc r y t
theorem beu(env:Env):∀(ks:List Nat) (t:Nat),gt (ah8 env ks) t=.any\/(vn t ks=true/\cu (gt env t)=true/\gt (ah8 env ks) t=gt env t)
 |[],t=>.inl rfl
 |k::r,t=>by
  simp only[ah8];have ih:=beu env r t;have hm:vn t r=true->vn t (k::r)=true:=fun h=>by simp only[vn,mi,h,a4e]
  cases hd:cu (gt env k)with
  |false=>
   simp only[a0g];rcases ih with h|⟨h1,h2,h3⟩
   ·exact .inl h
   ·exact .inr ⟨hm h1,h2,h3⟩
  |true=>
   simp only[a0c];rw[km];split
   ·rename_i e;subst e;exact .inr ⟨by simp[vn],hd,rfl⟩
   ·rcases ih with h|⟨h1,h2,h3⟩
    ·exact .inl h
    ·exact .inr ⟨hm h1,h2,h3⟩
theorem St.fwd(h:St F p env M a w)(ks:List Nat):St (mkF F (Imm F p M w) w ks a) p env M a w:=by
 refine⟨h.defers,h.nt,fun t v ht=>?_,fun b hb=>⟨hb,rfl⟩,h.lz,h.slots,⟨h.hp.objs,h.hp.sep,h.hp.own,h.hp.lim,h.hp.os,h.hp.tape,h.hp.output,h.hp.size,h.hp.old⟩⟩;simp only[mkF,xo]at ht
 cases hm:vn t ks with
 |true=>rw[hm]at ht;simpa using ht
 |false=>rw[hm]at ht;exact h.fix t v ht
theorem St.back(h:St F p env M a w){ks:List Nat}(h':St (mkF F (Imm F p M w) w ks a) p' env' M' a' w'):St F p' env' M' a' w':=by
 refine⟨h'.defers,h'.nt,fun t v ht=>?_,fun b hb=>?_,h'.lz,h'.slots,⟨h'.hp.objs,h'.hp.sep,h'.hp.own,h'.hp.lim,h'.hp.os,h'.hp.tape,h'.hp.output,h'.hp.size,h'.hp.old⟩⟩
 ·cases hm:vn t ks with
  |true=>rw[h'.fix t (a.tmps.getD t undef) (by simp only[mkF,xo,hm,a0c])];exact h.fix t v ht
  |false=>exact h'.fix t v (by simp only[mkF,xo,hm,a0g];exact ht)
 ·obtain⟨h1,h2⟩:=h.ik b hb;obtain⟨h3,h4⟩:=h'.ik b h1;exact⟨h3,h4.trans h2⟩
theorem St.add{ks:List Nat}{envK:Env}(hK:∀t,cu (gt envK t)=true->ah p.β M (Imm F p M w) w (gt envK t) (a.tmps.getD t undef))(h':St (mkF F (Imm F p M w) w ks a) p' env' M' a' w'):St (mkF F (Imm F p M w) w ks a) p' (ap env' (ah8 envK ks)) M' a' w':=by
 refine⟨h'.defers,h'.nt,h'.fix,h'.ik,h'.lz,fun t=>?_,h'.hp⟩;rcases bpc env' (ah8 envK ks) t with e|e
 ·rw[e];exact h'.slots t
 ·rw[e];rcases beu envK ks t with e'|⟨h1,h2,h3⟩
  ·rw[e'];simp only[ah]
  ·rw[h3,h'.fix t (a.tmps.getD t undef) (by simp only[mkF,xo,h1,a0c])];exact (w9 (fun b hb=>h'.ik b hb) _ h2).2 _ (hK t h2)
theorem afq{os:Obs}:(s:Sh)->(v:V)->(vs:List Value)->(y:s.den)->aa p.β M (Imm F p M w) w v vs->s.read M os v=some y->ab (s.oks y)
 |.d t,v,vs,y,r,h=>by simp only[Sh.read]at h;simp only[Sh.oks];exact lq _ _ (ai.ok _ _ _ (aai v t vs y r h))
 |.ref _ _,_,_,_,_,_=>by simp only[Sh.oks,da]
 |.ad _ _,_,_,_,_,_=>by simp only[Sh.oks,da]
 |.fn _,_,_,_,_,_=>by simp only[Sh.oks,da]
 |.u,_,_,_,_,_=>by simp only[Sh.oks,da]
 |.bx s,v,vs,y,r,h=>by
  cases v <;> simp only[Sh.read]at h <;> try (cases h;done)
  simp only[aa]at r;obtain⟨b,o,us,h1,h2,h3,h4⟩:=r;simp only[Sh.oks];exact afq s _ _ y h4 h
 |.fc f s,v,vs,y,r,h=>by
  cases v <;> simp only[Sh.read]at h <;> try (cases h;done)
  simp only[ck]at h;split at h
  ·simp only[aa]at r;obtain⟨us,h1,h2⟩:=r;simp only[Sh.oks];exact afq s _ _ y h2 h
  ·cases h
 |.pr a b,v,vs,y,r,h=>by
  cases v <;> simp only[Sh.read]at h <;> try (cases h;done)
  split at h
  ·rename_i z1 z2 h1 h2;simp only[aa]at r;obtain⟨va,vb,e,ra,rb⟩:=r;cases h;simp only[Sh.oks,sf];exact⟨afq a _ _ _ ra h1,afq b _ _ _ rb h2⟩
  ·cases h
theorem ay3{os:Obs}(hs:∀t,ah p.β M (Imm F p M w) w (gt env t) (a.tmps.getD t undef)):(ss:Shs)->(y:aba ss)->aq5 M os env ss=some y->ab (okS ss y)
 |[],y,h=>by simp only[okS,da]
 |(t,s)::r,y,h=>by
  simp only[aq5]at h;split at h
  ·rename_i z1 z2 h1 h2;cases h;have ih:=ay3 hs r z2 h2;simp only[okS,sf];refine⟨?_,ih⟩
   have key:∀v:V,s.read M os v=some z1->ah p.β M (Imm F p M w) w v (a.tmps.getD t undef)->ab (s.oks z1):=fun v h1 r=>by
    cases v with
    |any=>cases s with
     |d t=>cases t <;> simp[Sh.read,V.as]at h1
     |_=>simp[Sh.read]at h1
    |ag z=>cases s with
     |d t=>cases t <;> simp[Sh.read,V.as]at h1
     |_=>simp[Sh.read]at h1
    |tup z=>cases s with
     |d t=>cases t <;> simp[Sh.read,V.as]at h1
     |_=>simp[Sh.read]at h1
    |gd _ _ _ z=>cases s with
     |d t=>cases t <;> simp[Sh.read,V.as]at h1
     |_=>simp[Sh.read]at h1
    |_=>exact afq s _ _ _ (by simpa only [ah]using r) h1
   exact key _ h1 (hs t)
  ·cases h
theorem azr(hp:Hp F p M w):(os:Obs)->(x:tg os)->xh M os=some x->ab (okO os x)
 |[],x,h=>by simp only[okO,da]
 |(k,o)::r,x,h=>by
  simp only[xh]at h;split at h
  ·rename_i q hq;split at h
   ·rename_i y z hy hz;cases h;simp only[okO,sf];refine⟨lq _ _ ?_,azr hp r z hz⟩;obtain⟨e,h1⟩:=adf (ab7 hy).2;have hok:=(hp.objs k q hq).ok;subst h1;exact cast_ok e hok
   ·cases h
  ·cases h
where
 cast_ok:∀{s t:T} {x:s.den} (e:s=t),s.ok x->t.ok (e▸x):=fun e h=>by subst e;exact h
theorem aoo(h:St F p env M a w){ss:Shs}{os:Obs}{q:(aba ss×tg os)×Env}(hr:ajr ss os env M=some q):ab (okS ss q.1.1)/\ab (okO os q.1.2):=by
 unfold ajr at hr;obtain⟨p0,h0⟩:=oh os ss p env M h;generalize sd os ss env M=z0 at hr h0;obtain⟨env0,M0⟩:=z0;simp only at hr h0;obtain⟨p1,h1⟩:=aes os p0 env0 M0 h0;generalize afj os env0 M0=z1 at hr h1;obtain⟨env1,M1⟩:=z1;simp only at hr h1;have h2:=vd os (cc M1) M1 env1 h1;generalize qk os (cc M1) M1 env1=z2 at hr h2;obtain⟨env2,M2⟩:=z2;simp only at hr h2;split at hr
 ·rename_i y x hy hx;cases hr;exact⟨ay3 h2.slots ss y hy,azr h2.hp os x hx⟩
 ·cases hr
theorem ax9(h:St F p env M a w){ss:Shs}{os:Obs}{ks:List Nat}{c:Code}{K:Ex->Env->Mem->Prop}
  (hc:c.wp P (ym (mkF F (Imm F p M w) w ks a) (ahn ss os (onK ss os ks env K) K)) a w):c.wp P (ym F K) a w:=by
 refine a2p (fun e a' w' hl=>?_) hc
 cases e with
 |normal=>
  obtain⟨p1,env1,M1,h1,h2⟩:=hl;simp only[ahn,bij]at h2;split at h2
  ·rename_i s hs;obtain⟨p2,h4,_⟩:=ask h1 hs;obtain⟨o1,o2⟩:=aoo h1 hs;simp only[onK,bb7]at h2;exact⟨p2,_,_,h.back (St.add (fun t _=>h.slots t) h4),h2 o1 o2⟩
  ·exact h2.elim
 |exit id=>obtain⟨p1,env1,M1,h1,h2⟩:=hl;exact⟨p1,env1,M1,h.back h1,h2⟩
 |ret=>obtain⟨p1,env1,M1,h1,h2⟩:=hl;exact⟨p1,env1,M1,h.back h1,h2⟩
 |goto l=>obtain⟨p1,env1,M1,h1,h2⟩:=hl;exact⟨p1,env1,M1,h.back h1,h2⟩
 |panic ch=>exact hl.elim
 |outgrown=>exact hl.elim
theorem bra(hΦ:si P F Φ)(hB:TabOk P B)(hmix:P.follows .mixedOrders=true){id:Nat}{ops:Array Oper}{cut:Nat}(hco:me F.nt (toL ops)=true)(hfv:∀o∈toL ops,∀k,o.dst=some k->F.fv k=none)(hr:bh2 (toL ops) cut=true){K:Env->Mem->Prop}{Q:Exit->Act->World->Prop}
  (hQ:∀p env M a w,St F p env M a w->K env M->Q .normal a w) (h:St F p env M a w) (hk:dw B Φ (toL ops) (fk cut (toL ops)) env M (fun env=>tw B Φ (toL ops) (tj cut (toL ops)) env M K)):(Code.region id ops true).wp P Q a w:=by
 rw[dh]at hco hfv hr;rw[anf,asj]at hk;simp only[bh2,a0a]at hr;obtain⟨h1,h2,h3,h4⟩:=hr;obtain⟨E,V,e0,e1,e2⟩:=ay6 _ _ _ _ hk;have hm:cut<=ops.toList.length:=a15 h2;rw[dh,a1d,a37 hm]at e2;refine wp_region_any hmix ?_;have:=bl9 (F:=F) (M:=M) (p:=p) (all:=ops) hΦ hB Q K hQ h1 cut (by simpa using hm) (by simpa using h3) (by simpa using h4) hco hfv E V (by simpa only [dh]using e1) (by simpa only [dh]using e2);exact this _ _ env a _ (by simp) (fun i _ hi=>absurd hi aet) (bcp _ _) (fun j o _ hi=>absurd hi aet) (fun t=>⟨fun _=>by rw[e0],fun i o _ hi=>absurd hi aet⟩) h.drew
theorem az6{c:Code}{Q':Exit->Act->World->Prop}{ι:Type}(I:ι->Act->World->Prop)(μ:ι->Nat)
  (round:∀i a w,I i a w->c.wp P (Exit.then (fun a' w'=>∃i',μ i'<μ i/\I i' a' w') Q') a w):∀i a w,I i a w->(Code.loop c).wp P Q' a w:=by
 intro i a w h0 b k cs
 have key:∀n i a w,μ i=n->I i a w->∃e a' w',Q' e a' w'/\Arrives P (lone (b.at a (.code c::.inLoop c::k)) cs w) b k cs e a' w':=by
  intro n
  induction n using Nat.strongRecOn with
  |_ n ih=>
   intro i a w hn hI;obtain⟨e,a1,w1,hq,harr⟩:=round i a w hI b (.inLoop c::k) cs
   cases e with
   |normal=>obtain⟨i',hlt,hI'⟩:=hq;obtain⟨e2,a2,w2,hq2,harr2⟩:=ih (μ i') (hn▸hlt) i' a1 w1 rfl hI';exact⟨e2,a2,w2,hq2,.of_steps (Steps.trans harr (.one step_inLoop)) harr2⟩
   |exit id=>exact⟨_,a1,w1,hq,.pass (x:=.inLoop c) rfl (fun _ _=>.inl (by simp)) harr⟩
   |goto l=>exact⟨_,a1,w1,hq,.pass (x:=.inLoop c) rfl (fun _ _=>.inl (by simp)) harr⟩
   |ret=>exact⟨_,a1,w1,hq,.pass (x:=.inLoop c) rfl (fun _ _=>.inl (by simp)) harr⟩
   |panic ch=>exact⟨_,a1,w1,hq,.pass (x:=.inLoop c) rfl (fun _ _=>.inl (by simp)) harr⟩
   |outgrown=>exact⟨_,a1,w1,hq,.pass (x:=.inLoop c) rfl (fun _ _=>.inl (by simp)) harr⟩
 obtain⟨e,a',w',hq,harr⟩:=key _ i a w rfl h0;exact⟨e,a',w',hq,.of_steps (.one step_loop) harr⟩
end
end Go.Bm
/- The du machine:guards known where they hold. -/
namespace Go.Bm
open Go.RowKit
def aeq(all rest:List Oper)(env:Env):Prop:=∀t j w P v,gt env t=.gd j w P v->∃d,vg all j=some d/\P=gc (gt env d) w/\ko (gt env d)=true/\wIn d rest=false
def Fs(all:List Oper)(env:Env)(fs:List (Nat×Bool)):Prop:=∀j w,atx fs j w=true->∀d,vg all j=some d->gc (gt env d) w
theorem bgd{a b:Bool}(h:ayh a b=true):a=b:=by cases a <;> cases b <;> simp[ayh,neg]at h <;> rfl
theorem bmx{t:Nat}{o:Option Nat}(h:anj t o=true):o=some t:=by
 cases o with
 |none=>cases h
 |some d=>rw[a0v h]
theorem bie(t:Nat):anj t (some t)=true:=a3z t
theorem atg{all rest:List Oper}{env:Env}(hI:aeq all rest env):∀(n j:Nat) (w:Bool) (d:Nat),vg all j=some d->gc (gt env d) w->Fs all env (um all env n j w)
 |0,_,_,_,_,_=>fun _ _ h=>by cases h
 |n+1,j,w,d,hd,hg=>by
  intro i w' hm d' hd';simp only[um,atx]at hm
  cases hb:nob (Nat.beq j i) (ayh w w')with
  |true=>simp only[am,a0a]at hb;have h1:=a0v hb.1;have h2:=bgd hb.2;subst h1 h2;rw[hd]at hd';cases hd';exact hg
  |false=>
   rw[hb]at hm;simp only[a0g,hd]at hm
   cases hv:gt env d with
   |gd i2 w2 P2 v2=>rw[hv]at hm;obtain⟨d2,h1,h2,_,_⟩:=hI _ _ _ _ _ hv;rw[hv]at hg;simp only[gc]at hg;exact atg hI n i2 w2 d2 h1 (h2▸hg.1) i w' hm d' hd'
   |_=>rw[hv]at hm;simp[atx]at hm
theorem bpn{env:Env}{x:Operand}{j:Nat}{w:Bool}{P:Prop}{v:V}(h:rd env x=.gd j w P v):∃t,gt env t=.gd j w P v:=by
 cases x with
 |tmp t=>exact⟨t,h⟩
 |const v=>
  simp only[rd]at h;unfold rdV at h;split at h <;> try cases h
  ·cases hb:nob (Nat.beq _ 0) (Nat.beq _ 0) <;> rw[hb]at h <;> cases h
 |func f=>cases h
 |global _=>cases h
theorem aok{all rest:List Oper}{env:Env}{fs:List (Nat×Bool)}(hI:aeq all rest env)(hf:Fs all env fs):∀(l:List Operand),ab (rh (fun x=>unG fs (rd env x)) l)->ab (rh (rd env) l)
 |[],_=>trivial
 |x::r,h=>by
  simp only[rh]at h⊢
  cases hv:rd env x with
  |gd j w P v=>
   rw[hv]at h;simp only[unG]at h
   cases hm:atx fs j w with
   |true=>
    rw[hm]at h;obtain⟨t,ht⟩:=bpn hv;obtain⟨d,h1,h2,_,_⟩:=hI _ _ _ _ _ ht;refine⟨h2▸hf j w hm d h1,aok hI hf r ?_⟩;simp only[a0c]at h;split at h
    ·exact h.2
    ·exact h
   |false=>rw[hm]at h;exact⟨h.1,aok hI hf r h.2⟩
  |_=>rw[hv]at h;exact aok hI hf r h
theorem auh{all rest:List Oper}{env:Env}{fs:List (Nat×Bool)}(hI:aeq all rest env)(hf:Fs all env fs){c a:Operand}{side:Bool}(hb:(rd env c).strip.isB=true)(hc:ab (rh (rd env) [c]))
  (h:ab (afi (rd env c).strip.boolV side (bao all c side (unG fs (rd env a))))):ab (afi (rd env c).strip.boolV side (rd env a)):=by
 cases hv:rd env a with
 |gd j w P v=>
  obtain⟨t,ht⟩:=bpn hv;obtain⟨d,h1,h2,h3,_⟩:=hI _ _ _ _ _ ht;simp only[afi,cr,da,a0b];rw[hv]at h;simp only[unG]at h
  cases hm:atx fs j w with
  |true=>exact fun _=>h2▸hf j w hm d h1
  |false=>
   rw[hm]at h;simp only[a0g]at h;unfold bao at h;split at h
   ·rename_i t' j' w' P' x' heq;cases heq
    cases hs:nob (anj t' (vg all j)) (ayh w side)with
    |false=>rw[hs]at h;exact h.1
    |true=>
     simp only[am,a0a]at hs;have e1:=bmx hs.1;have e2:=bgd hs.2;rw[h1]at e1;cases e1;subst e2;intro hcb;subst h2;simp only[rd]at hb hcb hc;simp only[rh]at hc
     cases hg:gt env d with
     |gd i w' P' v'=>simp only[rd,hg]at hc;rw[hg]at hb hcb;simp only[V.strip]at hb hcb;refine⟨hc.1,?_⟩;cases v' <;> simp only[V.isB,a02]at hb;rename_i tt x;cases tt <;> simp only[a02]at hb;exact hcb
     |d tt x=>rw[hg]at hb hcb;cases tt <;> simp only[V.strip,V.isB,a02]at hb;exact hcb
     |_=>rw[hg]at hb;simp[V.strip,V.isB]at hb
   ·exact h.1
 |_=>simp only[afi,da]
variable {B:Tab} {Φ:FuncId->Option Ct}
theorem av8{all rest:List Oper}{env:Env}{fs:List (Nat×Bool)}(hI:aeq all rest env)(hf:Fs all env fs)(o:Oper)(M:Mem) :
  ∃vc,evR B Φ o env M=⟨vc,(evG B Φ all fs o env M).av,(evG B Φ all fs o env M).ev,(evG B Φ all fs o env M).M⟩/\(ab (evG B Φ all fs o env M).vc->ab vc):=by
 unfold evR evG;split
 ·rename_i c a b _;simp only[af3,ba7,cq]
  cases hb:bg [(rd env c).strip.isB,(rd env a).strip.isB,(rd env b).strip.isB]with
  |false=>exact⟨_,rfl,id⟩
  |true=>
   refine⟨_,rfl,fun h=>?_⟩
   have hcB:(rd env c).strip.isB=true:=by
    simp only[bg]at hb
    cases hc:(rd env c).strip.isB with
    |true=>rfl
    |false=>rw[hc]at hb;cases hb
   simp only[a0c,sf]at h⊢;have hc:=aok hI hf [c] h.1;exact⟨hc,auh hI hf hcB hc h.2.1,auh hI hf hcB hc h.2.2⟩
 ·generalize c6 B Φ o (fun x=>(rd env x).strip) M=q;obtain⟨vc,v,e,M'⟩:=q;refine⟨_,rfl,fun h=>?_⟩;simp only[sf]at h⊢;exact⟨aok hI hf _ h.1,h.2⟩
theorem bp7:∀(e:List Ev) (v:V),ko v=true->v.evs e=v:=by
 intro e
 induction e with
 |nil=>intro v _;rfl
 |cons x e ih=>
  intro v h
  have key:∀v:V,ko v=true->v.ev x=v:=by
   intro v
   induction v with
   |gd j w P v ihv=>intro h;simp only[ko]at h;simp only[V.ev,ihv h]
   |d t y=>intro _;rfl
   |_=>intro h;simp[ko]at h
  simp only[V.evs,key v h];exact ih v h
theorem as3{d:Nat}{o:Oper}{r:List Oper}(h:wIn d (o::r)=false):o.dst≠some d/\wIn d r=false:=by
 simp only[wIn]at h
 cases hs:anj d o.dst with
 |true=>rw[hs]at h;cases h
 |false=>rw[hs]at h;refine⟨fun he=>?_,h⟩;rw[he,bie]at hs;cases hs
theorem bex{d:Nat}:∀{a b:List Oper},wIn d (a++b)=false<->wIn d a=false/\wIn d b=false
 |[],b=>by simp[wIn]
 |o::a,b=>by
  simp only[a2i,wIn]
  cases anj d o.dst with
  |true=>simp
  |false=>simpa using bex
theorem ao7(d:Option Nat)(v:V)(env:Env)(t:Nat):gt (wr d v env) t=if d=some t then v else gt env t:=afb d v env t
theorem azp:∀(t:T) (x:t.den),vo (kg t x)=false:=by intro t x;cases t <;> rfl
theorem bd8(k:Nat)(π:bq)(e:Ev):vo (e.ref k π)=false:=by
 cases e with
 |fz r ob=>
  simp only[Ev.ref]
  cases Nat.beq k r with
  |false=>rfl
  |true=>
   simp only[a0c];split
   ·exact azp _ _
   ·rfl
 |cut r o o'=>simp only[Ev.ref];cases Nat.beq k r <;> cases w8 π <;> rfl
 |mv r k'=>simp only[Ev.ref];cases Nat.beq k r <;> rfl
 |kl r=>simp only[Ev.ref];cases Nat.beq k r <;> rfl
 |un r j=>simp only[Ev.ref];cases Nat.beq k r <;> rfl
 |tk r o o'=>simp only[Ev.ref];cases Nat.beq k r <;> cases orb (w8 π) (bap (trk π o) (trk π o')) <;> rfl
theorem bfp(k:Nat)(π:bq)(e:Ev):vo (e.ad k π)=false:=by
 cases e with
 |fz r ob=>
  simp only[Ev.ad]
  cases Nat.beq k r with
  |false=>rfl
  |true=>simp only[a0c];split <;> rfl
 |cut r o o'=>simp only[Ev.ad];cases Nat.beq k r <;> cases y7 (qu π o) (qu π o') <;> rfl
 |tk r o o'=>simp only[Ev.ad];cases Nat.beq k r <;> cases y7 (qu π o) (qu π o') <;> rfl
 |mv r k'=>simp only[Ev.ad];cases Nat.beq k r <;> rfl
 |kl r=>simp only[Ev.ad];cases Nat.beq k r <;> rfl
 |un r j=>
  simp only[Ev.ad]
  cases Nat.beq k r with
  |false=>rfl
  |true=>simp only[a0c];split <;> rfl
theorem ayx{all:List Oper}{o:Oper}{rest:List Oper}{env env':Env}{v:V}(hI:aeq all (o::rest) env)(hv:vo v=false)
  (he:∃e,∀t,gt env' t=(gt env t).evs e):aeq all rest (wr o.dst v env'):=by
 obtain⟨e,he⟩:=he;intro t j w P x hx;rw[ao7]at hx;split at hx
 ·subst hx;cases hv
 ·rw[he]at hx
  have hsh:∃y,gt env t=.gd j w P y:=by
   clear he;generalize gt env t=q at hx
   induction e generalizing q with
   |nil=>exact⟨x,hx⟩
   |cons z e ih=>
    simp only[V.evs]at hx;obtain⟨y,hy⟩:=ih _ hx
    cases q with
    |gd j' w' P' v'=>simp only[V.ev,V.gd.injEq]at hy;obtain⟨rfl,rfl,rfl,_⟩:=hy;exact⟨v',rfl⟩
    |ref k π=>have:=bd8 k π z;simp only[V.ev]at hy;rw[hy]at this;cases this
    |ad k π=>have:=bfp k π z;simp only[V.ev]at hy;rw[hy]at this;cases this
    |_=>simp[V.ev]at hy
  obtain⟨y,hy⟩:=hsh;obtain⟨d,h1,h2,h3,h4⟩:=hI t j w P y hy;obtain⟨h5,h6⟩:=as3 h4;have h7:gt (wr o.dst v env') d=gt env d:=by rw[ao7,ds h5,he,bp7 e _ h3]
  exact⟨d,h1,h7▸h2,h7▸h3,h6⟩
theorem ao0{all:List Oper}{o:Oper}{rest:List Oper}{env:Env}{j dj:Nat}{w:Bool}{v:V}(hI:aeq all (o::rest) env)(hd:vg all j=some dj)(hg:ko (gt env dj)=true)(hw:wIn dj (o::rest)=false) :
  aeq all rest (wr o.dst (.gd j w (gc (gt env dj) w) v) env):=by
 intro t i w' P x hx;rw[ao7]at hx;split at hx
 ·cases hx;obtain⟨h5,h6⟩:=as3 hw;have h7:∀q,gt (wr o.dst q env) dj=gt env dj:=fun q=>by rw[ao7,ds h5]
  exact⟨dj,hd,by rw[h7],by rw[h7];exact hg,h6⟩
 ·obtain⟨d,h1,h2,h3,h4⟩:=hI t i w' P x hx;obtain⟨h5,h6⟩:=as3 h4;have h7:∀q,gt (wr o.dst q env) d=gt env d:=fun q=>by rw[ao7,ds h5]
  exact⟨d,h1,by rw[h7];exact h2,by rw[h7];exact h3,h6⟩
theorem bk8{all:List Oper}{env:Env}:Fs all env []:=fun _ _ h=>by cases h
theorem ai1{all:List Oper}{K:Env->Mem->Prop}:∀(ops:List Oper) (env:Env) (M:Mem),aeq all ops env->twG B Φ all ops env M K->tw B Φ all ops env M K
 |[],_,_,_,h=>h
 |o::rest,env,M,hI,h=>by
  simp only[twG]at h;simp only[tw]
  cases hgd:o.guard with
  |none=>
   rw[hgd]at h;obtain⟨vc,he,hvc⟩:=av8 (B:=B) (Φ:=Φ) hI bk8 o M;rw[he];generalize evG B Φ all [] o env M=q at h hvc⊢;obtain⟨vc',v,e,M'⟩:=q;simp only at h hvc⊢
   cases hv:vo v with
   |true=>rw[hv]at h;exact h.elim
   |false=>rw[hv]at h;simp only[a0g,sm]at h;rw[sm];exact⟨hvc h.1,ai1 rest _ _ (ayx hI hv ⟨e,fun t=>u5 t e env⟩) h.2⟩
  |some g=>
   obtain⟨j,want⟩:=g;rw[hgd]at h;simp only at h⊢
   cases hd:vg all j with
   |none=>rw[hd]at h;exact h.elim
   |some dj=>
    rw[hd]at h;simp only at h⊢;by_cases hG:gc (gt env dj) want
    ·obtain⟨vc,he,hvc⟩:=av8 (B:=B) (Φ:=Φ) hI (atg hI 8 j want dj hd hG) o M;rw[he];generalize evG B Φ all (um all env 8 j want) o env M=q at h hvc⊢;obtain⟨vc',v,e,M'⟩:=q;simp only[bg]at h hvc⊢;cases h1:ko (gt env dj) <;> rw[h1]at h <;> try exact h.elim
     cases h2:n9 o <;> rw[h2]at h <;> try exact h.elim
     cases h3:fm M e <;> rw[h3]at h <;> try exact h.elim
     cases h4:wIn dj (o::rest) <;> rw[h4]at h <;> try exact h.elim
     simp only[neg,a0c,a0g,ak7]at h⊢;exact⟨fun g=>hvc (h.1 g),ai1 rest _ _ (ao0 hI hd h1 h4) h.2⟩
    ·have hev:(evR B Φ o env M).av=(evG B Φ all (um all env 8 j want) o env M).av/\(evR B Φ o env M).ev=(evG B Φ all (um all env 8 j want) o env M).ev/\(evR B Φ o env M).M=(evG B Φ all (um all env 8 j want) o env M).M:=by
      unfold evR evG;split
      ·simp only[af3,ba7,cq];cases bg [_,_,_] <;> simp[bad]
      ·exact⟨rfl,rfl,rfl⟩
     generalize evG B Φ all (um all env 8 j want) o env M=q at h hev⊢;generalize evR B Φ o env M=q2 at hev⊢;obtain⟨vc',v,e,M'⟩:=q;obtain⟨vc2,v2,e2,M2⟩:=q2;simp only at hev;obtain⟨rfl,rfl,rfl⟩:=hev;simp only[bg]at h⊢;cases h1:ko (gt env dj) <;> rw[h1]at h <;> try exact h.elim
     cases h2:n9 o <;> rw[h2]at h <;> try exact h.elim
     cases h3:fm M e2 <;> rw[h3]at h <;> try exact h.elim
     cases h4:wIn dj (o::rest) <;> rw[h4]at h <;> try exact h.elim
     simp only[neg,a0c,a0g,ak7]at h⊢;exact⟨fun g=>absurd g hG,ai1 rest _ _ (ao0 hI hd h1 h4) h.2⟩
theorem bsr{M M':Mem}(v:V):vo (avF M M' v)=false:=by
 cases v with
 |ref k π=>
  simp only[avF];split
  ·rfl
  ·split
   ·exact azp _ _
   ·rfl
 |ad k π=>
  simp only[avF];split
  ·rfl
  ·split <;> rfl
 |_=>rfl
theorem bdk{all tl:List Oper}{K K':Env->Prop}(hK:∀env,aeq all tl env->K' env->K env):∀(ops:List Oper) (env:Env) (M:Mem),aeq all (ops++tl) env->dwG B Φ all tl ops env M K'->dw B Φ all ops env M K
 |[],env,_,hI,h=>hK env hI h
 |o::rest,env,M,hI,h=>by
  simp only[dwG]at h;simp only[dw]
  cases hgd:o.guard with
  |none=>
   rw[hgd]at h;obtain⟨vc,he,hvc⟩:=av8 (B:=B) (Φ:=Φ) hI bk8 o M;rw[he];generalize evG B Φ all [] o env M=q at h hvc⊢;obtain⟨vc',v,e,M'⟩:=q;simp only[bg]at h hvc⊢;cases h2:n9 o <;> rw[h2]at h <;> try exact h.elim
   cases h3:fm M e <;> rw[h3]at h <;> try exact h.elim
   simp only[a0c,sm]at h;simp only[a0c];rw[sm];exact⟨hvc h.1,bdk hK rest _ _ (ayx hI (bsr v) ⟨[],fun t=>rfl⟩) h.2⟩
  |some g=>
   obtain⟨j,want⟩:=g;rw[hgd]at h;simp only at h⊢
   cases hd:vg all j with
   |none=>rw[hd]at h;exact h.elim
   |some dj=>
    rw[hd]at h;simp only at h⊢
    have hev:(evR B Φ o env M).av=(evG B Φ all (um all env 8 j want) o env M).av/\(evR B Φ o env M).ev=(evG B Φ all (um all env 8 j want) o env M).ev/\(evR B Φ o env M).M=(evG B Φ all (um all env 8 j want) o env M).M/\
      (gc (gt env dj) want->ab (evG B Φ all (um all env 8 j want) o env M).vc->ab (evR B Φ o env M).vc):=by
     refine⟨?_,?_,?_,fun hG=>?_⟩
     ·unfold evR evG;split
      ·simp only[af3,ba7,cq];cases bg [_,_,_] <;> rfl
      ·rfl
     ·unfold evR evG;split <;> rfl
     ·unfold evR evG;split <;> rfl
     ·obtain⟨vc,he,hvc⟩:=av8 (B:=B) (Φ:=Φ) hI (atg hI 8 j want dj hd hG) o M;rw[he];exact hvc
    generalize evG B Φ all (um all env 8 j want) o env M=q at h hev⊢;generalize evR B Φ o env M=q2 at hev⊢;obtain⟨vc',v,e,M'⟩:=q;obtain⟨vc2,v2,e2,M2⟩:=q2;simp only at hev;obtain⟨rfl,rfl,rfl,hvc⟩:=hev;simp only[bg]at h⊢;cases h1:ko (gt env dj) <;> rw[h1]at h <;> try exact h.elim
    cases h2:n9 o <;> rw[h2]at h <;> try exact h.elim
    cases h3:fm M e2 <;> rw[h3]at h <;> try exact h.elim
    cases h4:wIn dj (o::rest) <;> rw[h4]at h <;> try exact h.elim
    cases h5:wIn dj tl <;> rw[h5]at h <;> try exact h.elim
    simp only[neg,a0c,a0g,ak7]at h⊢;have h6:wIn dj (o::(rest++tl))=false:=by have:=(bex (a:=o::rest) (b:=tl)).2 ⟨h4,h5⟩;simpa using this
    exact⟨fun g=>hvc g (h.1 g),bdk hK rest _ _ (ao0 hI hd h1 h6) h.2⟩
theorem aip{all rest:List Oper}:∀{env:Env},nogd env=true->aeq all rest env:=by
 intro env h t j w P v hx;exfalso
 induction env with
 |nil=>simp[gt]at hx
 |cons p env ih=>
  obtain⟨k,u0⟩:=p;simp only[nogd]at h
  cases hu:vo u0 with
  |true=>rw[hu]at h;cases h
  |false=>
   rw[hu]at h;simp only[gt]at hx
   cases hb:Nat.beq k t with
   |true=>rw[hb]at hx;simp only[a0c]at hx;subst hx;cases hu
   |false=>rw[hb]at hx;exact ih h hx
end Go.Bm
/- The du machine:drawn regions that make boxes and fill them. -/
namespace Go.Bm
open Go.RowKit
variable {B:Tab} {Φ:FuncId->Option Ct}
theorem ac2{env:Env}:∀{l:List Operand},ai6 env l=true->∀x∈l,cu (rd env x)=true
 |[],_,x,h=>by cases h
 |y::l,hd,x,h=>by
  simp only[ai6,am,a0a]at hd
  cases h with
  |head=>exact hd.1
  |tail _ h=>exact ac2 hd.2 x h
theorem atu(k:Nat)(M M':Mem):∀(t:T) (v:V),cu v=true->∀q e X,conv k t v M'=some (q,e,X)->e=[]/\X=M'/\conv k t v M=some (q,[],M):=by
 intro t v
 induction v generalizing t with
 |p a b iha ihb=>
  intro h q e X hc;simp only[cu,am,a0a]at h;cases t <;> simp only[conv]at hc <;> try cases hc
  rename_i t1 t2
  cases h1:conv k t1 a M' with
  |none=>rw[h1]at hc;cases hc
  |some r=>
   obtain⟨q1,e1,X1⟩:=r;rw[h1]at hc;obtain⟨rfl,hX1,i1⟩:=iha _ h.1 _ _ _ h1;rw[hX1]at hc;simp only[V.evs]at hc
   cases h2:conv k t2 b M' with
   |none=>rw[h2]at hc;cases hc
   |some r2=>obtain⟨q2,e2,X2⟩:=r2;rw[h2]at hc;obtain⟨rfl,hX2,i2⟩:=ihb _ h.2 _ _ _ h2;cases hc;refine⟨rfl,hX2,?_⟩;simp only[conv,i1,V.evs,i2,ap]
 |u=>intro _ q e X hc;cases t <;> simp only[conv]at hc⊢ <;> cases hc <;> exact⟨rfl,rfl,rfl⟩
 |d t' x=>intro _ q e X hc;cases t <;> simp only[conv]at hc⊢ <;> cases hc <;> exact⟨rfl,rfl,rfl⟩
 |nl=>intro _ q e X hc;cases t <;> simp only[conv]at hc⊢ <;> cases hc <;> exact⟨rfl,rfl,rfl⟩
 |np=>intro _ q e X hc;cases t <;> simp only[conv]at hc⊢ <;> cases hc <;> exact⟨rfl,rfl,rfl⟩
 |fn f v ih=>intro h q e X hc;cases v <;> cases t <;> simp only[conv]at hc⊢ <;> cases hc <;> exact⟨rfl,rfl,rfl⟩
 |ag v ih=>intro _ q e X hc;cases t <;> simp only[conv]at hc <;> cases hc
 |bx v ih=>intro _ q e X hc;cases t <;> simp only[conv]at hc <;> cases hc
 |_=>intro h;cases h
theorem bl4{v:V}(h:cu v=true):cu v.cells=true:=by cases v <;> exact h
def bti(B:Tab)(Φ:FuncId->Option Ct)(o:Oper)(e:Env)(x:Mem)(e':Env)(x':Mem):Prop:=
 o.guard=none/\(
  (∃ty d,o.op=.alloc ty/\o.dst=some d/\bg [(B.τ ty).ok,B.z ty]=true/\go x d=none/\e'=(d,.ad d [.de])::e/\x'=(d,bph B ty)::x)\/
  (∃t d y ob ob',o.op=.store t (.tmp d) y/\o.dst=none/\go x d=some ob/\cu (rd e y)=true/\bt2 d (gt e d)=true/\one1 d (aee B t (.ad d [.de]) (rd e y) [(d,ob)])=some ob'/\e'=e/\x'=put d ob' x)\/
  (∃d vc v,o.dst=some d/\zb o.op=true/\ai6 e (cd o.op)=true/\evR B Φ o e []=⟨vc,v,[],[]⟩/\cu v=true/\ab vc/\e'=(d,v)::e/\x'=x))
theorem St.same{F:Fr}{p:Ow}{env env':Env}{M M':Mem}{a:Act}{w:World}(h:St F p env M a w)(hM:∀k,go M' k=go M k)(he:∀t,gt env' t=gt env t):St F p env' M' a w:=by
 have hl:∀k,bt M' k<->bt M k:=fun k=>by simp only[bt,hM]
 have hi:Imm F p M' w=Imm F p M w:=by
  funext b
  simp only[Imm,hl]
 have hp:Hp F p M' w:=by refine⟨fun k ob hk=>?_,fun k k' b h1 h2 h3=>h.hp.sep k k' b h1 ((hl k).1 h2) ((hl k').1 h3),fun k b h1=>h.hp.own k b ((hl k).1 h1),fun b hb=>⟨(h.hp.lim b hb).1,(h.hp.lim b hb).2.1,fun k hk=>(h.hp.lim b hb).2.2 k ((hl k).1 hk)⟩,h.hp.os,h.hp.tape,h.hp.output,h.hp.size,h.hp.old⟩;rw[hi];exact h.hp.objs k ob (by rw[←hM];exact hk)
 have ht:Tr F p M w [] p M' w:=Tr.zero (by rw[hi];exact gn.refl _ _) (fun k π vs r=>r.same h.hp (hM k) rfl fun _ _ _=>rfl) (fun k π v r=>r.same h.hp (hM k) rfl fun _ _ _=>rfl) hp;exact (h.tr ht h.lz).weak fun t=>.inr (by rw[he];rfl)
section
variable {F:Fr} {P:Program} {all:Array Oper} {E:Nat->Env} {X:Nat->Mem} {M0:Mem}
structure Sta (B:Tab) (all:Array Oper) (E:Nat->Env) (X:Nat->Mem) (M0:Mem) (listed:Array Bool) (env:Env) (M:Mem):Prop where
 a:∀t,(∀(i:Nat) (o:Oper),all[i]? = some o->isL listed i->o.dst≠some t)->gt env t=gt (E 0) t
 b:∀(i:Nat) (o:Oper) (t:Nat),all[i]? = some o->isL listed i->o.dst=some t->gt env t=gt (E (i+1)) t
 c:∀k,(∀(i:Nat) (o:Oper) (ty:TypeId),all[i]? = some o->isL listed i->o.op=.alloc ty->o.dst≠some k)->go M k=go M0 k
 d:∀(i:Nat) (o:Oper) (k:Nat) (ty:TypeId),all[i]? = some o->isL listed i->o.op=.alloc ty->o.dst=some k->(∀(s:Nat) (o':Oper),all[s]? = some o'->isL listed s->tgt o'≠some k)->go M k=some (bph B ty)
 s:∀(s:Nat) (o:Oper) (k:Nat),all[s]? = some o->isL listed s->tgt o=some k->go M k=go (X (s+1)) k
structure Ctx (B:Tab) (Φ:FuncId->Option Ct) (all:Array Oper) (E:Nat->Env) (X:Nat->Mem) (M0:Mem):Prop where
 hb:xi 0 all.toList=true
 hdr:afz all (ew [] all.toList) all.size=true
 hnd:ya (bix all.toList)=true
 hE:∀(j:Nat) (o:Oper),all[j]? = some o->bti B Φ o (E j) (X j) (E (j+1)) (X (j+1))
 hX:X 0=[]
 h0:∀t (i:Nat) (o:Oper) (ty:TypeId) (k:Nat),all[i]? = some o->o.op=.alloc ty->o.dst=some k->(gt (E 0) t).ev (.kl k)=gt (E 0) t
 hM:∀(i:Nat) (o:Oper) (ty:TypeId) (k:Nat),all[i]? = some o->o.op=.alloc ty->o.dst=some k->go M0 k=none
theorem ayb{listed:Array Bool}{i j:Nat}(hj:j<listed.size):isL (listed.setIfInBounds j true) i<->i=j\/isL listed i:=by
 by_cases e:i=j
 ·subst e;simp[isL,hj]
 ·unfold isL;rw[a2x false (a0w e)];simp[e]
theorem acw(X M:Mem)(k:Nat):go (ap X M) k=match go X k with|some ob=>some ob|none=>go M k:=by
 induction X with
 |nil=>rfl
 |cons x X ih=>
  obtain⟨j,ob⟩:=x;simp only[ap,c8];split
  ·rfl
  ·exact ih
theorem brr(hΦ:si P F Φ)(hB:TabOk P B)(hmix:P.follows .mixedOrders=true){id:Nat}{ops:Array Oper}(hco:me F.nt (toL ops)=true)(hfv:∀o∈toL ops,∀k,o.dst=some k->F.fv k=none)(hr:bo4 (toL ops)=true){K:Env->Mem->Prop}{Q:Exit->Act->World->Prop}
  (hQ:∀p env M a w,St F p env M a w->K env M->Q .normal a w) {p:Ow} {env:Env} {M:Mem} {a:Act} {w:World} (h:St F p env M a w)
  (hk:bx B Φ (toL ops) (klE (aen (toL ops)) env) [] (fun env X=>K env (ap X (klM (aen (toL ops)) M)))):(Code.region id ops true).wp P Q a w:=by
 exact False.elim hk
end
end Go.Bm
/- The du machine:drawn regions whose calls give own trees. -/
namespace Go.Bm
open Go.RowKit
section
variable {P:Program} {B:Tab} {Φ:FuncId->Option Ct}
def agK(M M0:Mem)(k:Nat):Prop:=go M k=go M0 k/\go M0 k≠none
def agV(M M0:Mem):V->Prop
 |.p a b=>agV M M0 a/\agV M M0 b
 |.ag v=>agV M M0 v
 |.fn _ v=>agV M M0 v
 |.bx v=>agV M M0 v
 |.ref k _=>agK M M0 k
 |.ad k _=>agK M M0 k
 |.gd _ _ _ _=>False
 |.ifc _ _=>False
 |.tup _=>False
 |_=>True
section
variable {M0 M:Mem}
theorem bk4{k:Nat}(h:agK M M0 k):go M k=go M0 k:=h.1
theorem xl{k:Nat}(h:agK M M0 k)(π:bq):my M k π=my M0 k π:=by unfold my;rw[bk4 h]
theorem ane:∀v:V,agV M M0 v->v.size M=v.size M0
 |.d _ _,_=>rfl
 |.nl,_=>rfl
 |.np,_=>rfl
 |.u,_=>rfl
 |.p a b,h=>by simp only[agV]at h;simp only[V.size,ane a h.1,ane b h.2]
 |.ag v,h=>rfl
 |.fn f v,h=>rfl
 |.bx v,h=>rfl
 |.any,h=>rfl
 |.ref k π,h=>by simp only[V.size,xl h]
 |.ad _ _,h=>rfl
 |.tup _,h=>by cases h
 |.gd _ _ _ _,h=>by cases h
 |.ifc _ _,h=>by cases h
theorem aau(v:V)(n:Nat)(h:agV M M0 v):jx M v n=jx M0 v n:=by simp only[jx,ane v h]
theorem aci:∀v:V,cu v=true->agV M M0 v
 |.p a b,h=>by simp only[cu,am,a0a]at h;simp only[agV];exact⟨aci a h.1,aci b h.2⟩
 |.ag v,h=>aci v h
 |.fn f v,h=>aci v h
 |.bx v,h=>aci v h
 |.d _ _,_=>trivial
 |.nl,_=>trivial
 |.np,_=>trivial
 |.u,_=>trivial
 |.any,h=>by cases h
 |.ref _ _,h=>by cases h
 |.ad _ _,h=>by cases h
 |.tup _,h=>by cases h
 |.gd _ _ _ _,h=>by cases h
 |.ifc _ _,h=>by cases h
theorem bdo:∀(t:T) (x:t.den),cu (kg t x)=true:=by
 intro t
 induction t with
 |p a b iha ihb=>intro x;simp only[kg,cu,am,a0a];exact⟨iha x.1,ihb x.2⟩
 |_=>intro x;rfl
theorem bqk{k:Nat}(h:agK M M0 k):∀(π:bq) (o:O) (x:o.strip.den),agV M M0 (toV k π o x):=by
 intro π o x
 cases o with
 |fz t=>simp only[toV];exact aci _ (bdo _ _)
 |_=>exact h
theorem ai0:∀(π:bq) (v:V),agV M M0 v->gv M π v=gv M0 π v/\∀n x,gv M0 π v=some (n,x)->agV M M0 x
 |[],v,h=>by simp only[gv,a0d,a0j];exact⟨trivial,fun n x e=>e.2▸h⟩
 |.l::π,.p a b,h=>by simp only[agV]at h;simp only[gv];exact ai0 π a h.1
 |.r::π,.p a b,h=>by
  simp only[agV]at h;obtain⟨e1,e2⟩:=ai0 π b h.2;simp only[gv,e1,ane a h.1];refine⟨trivial,fun n x hx=>?_⟩;split at hx
  ·rename_i m n' x' _ h2;cases hx;exact e2 _ _ h2
  ·cases hx
 |s::π,.ref k ρ,h=>by
  have hk:agK M M0 k:=h
  have e:∀M:Mem,gv M (s::π) (.ref k ρ)=(match my M k ρ,my M k (ap ρ (s::π))with
   |some q,some q'=>(match cg (s::π) q.o.strip with|some n=>some (n,toV k (ap ρ (s::π)) q'.o q'.x)|none=>none)
   |_,_=>none):=fun M=>by cases s <;> rfl
  rw[e,e,xl hk,xl hk];refine⟨rfl,fun n x hx=>?_⟩;split at hx
  ·split at hx
   ·cases hx;exact bqk hk _ _ _
   ·cases hx
  ·cases hx
 |.de::π,.p a b,_=>by simp[gv]
 |.ix _::π,.p a b,_=>by simp[gv]
 |.l::π,.d _ _,_=>by simp[gv]
 |.r::π,.d _ _,_=>by simp[gv]
 |.de::π,.d _ _,_=>by simp[gv]
 |.ix _::π,.d _ _,_=>by simp[gv]
 |_::π,.nl,_=>by simp[gv]
 |_::π,.np,_=>by simp[gv]
 |_::π,.u,_=>by simp[gv]
 |_::π,.ag _,_=>by simp[gv]
 |_::π,.fn _ _,_=>by simp[gv]
 |_::π,.bx _,_=>by simp[gv]
 |_::_,.any,h=>by simp[gv]
 |_::_,.ad _ _,h=>by simp[gv]
 |_::_,.tup _,h=>by cases h
 |_::_,.gd _ _ _ _,h=>by cases h
 |_::_,.ifc _ _,h=>by cases h
theorem bd6(x:V)(π:bq)(off:Nat)(h:agV M M0 x):ams M x π off=ams M0 x π off:=by
 cases x with
 |ad k ρ=>simp only[ams,xl h]
 |bx v=>simp only[agV]at h;simp only[ams,(ai0 π v h).1]
 |d t y=>cases t <;> rfl
 |_=>rfl
theorem bhv(τ:Ty)(x:V)(i:Nat)(h:agV M M0 x):aiw τ M x i=aiw τ M0 x i:=by simp only[aiw,bd6 x _ _ h]
theorem bki{B:Tab}(τ:Ty)(x:V)(i:Nat)(h:agV M M0 x):amp B τ M x i=amp B τ M0 x i:=by
 unfold amp;split
 ·rename_i off ft _ v _;simp only[agV]at h;obtain⟨e1,e2⟩:=ai0 (ahb (len τ.fld) i) v h;rw[e1]
  cases hs:gv M0 (ahb (len τ.fld) i) v with
  |none=>rfl
  |some q=>obtain⟨n,w⟩:=q;simp only[aau w _ (e2 _ _ hs)]
 ·rfl
theorem bjn{B:Tab}(τ:Ty)(x i:V)(h:agV M M0 x):amr B τ M x i=amr B τ M0 x i:=by
 unfold amr;split
 ·cases x with
  |ref k π=>simp only[xl h]
  |d t x=>cases t <;> rfl
  |_=>rfl
 ·rfl
theorem bk5{B:Tab}(τ:Ty)(x i:V)(h:agV M M0 x):al8 B τ M x i=al8 B τ M0 x i:=by
 unfold al8;split
 ·simp only[bhk,bd6 x _ _ h]
 ·exact bjn τ x i h
theorem bny(τ:Ty)(d:Option Nat){x:V}(h:agV M M0 x):(abx τ M d x=none)=(abx τ M0 d x=none):=by
 cases x <;> try rfl
 rename_i k π;have hg:=h;simp only[agV]at hg
 cases π with
 |nil=>rfl
 |cons s π=>
  cases s <;> try rfl
  cases π with
  |nil=>
   cases d with
   |none=>rfl
   |some d=>simp only[abx,bk4 hg];generalize go M0 k=z;split <;> simp
  |cons _ _=>rfl
theorem bi4(τ:Ty)(x:V)(h:agV M M0 x):x8 τ M x=x8 τ M0 x:=by
 cases x with
 |ad k π=>simp only[x8,xl h]
 |bx v=>simp only[agV]at h;simp only[x8,aau _ _ h]
 |d t x=>cases t <;> rfl
 |_=>rfl
theorem bem{B:Tab}{s d:TypeId}{x:V}(h:agV M M0 x):ae5 B s d M x=ae5 B s d M0 x:=by
 have:ayc M x=ayc M0 x:=by
  cases x with
  |ref k π=>simp only[ayc,xl h]
  |_=>rfl
 simp only[ae5,this]
theorem bku{τ:Ty}{x:V}(h:agV M M0 x):aml τ M x=aml τ M0 x:=by
 cases x with
 |ref k π=>simp only[aml,xl h]
 |d t y=>cases t <;> first|rfl|(rename_i t y;cases t <;> rfl)|(rename_i t;cases t <;> rfl)
 |_=>rfl
theorem bdj{k:Nat}(h:agK M M0 k)(π:bq)(t:T):apl M k π t=apl M0 k π t:=by unfold apl;rw[xl h]
theorem boh:∀(v:V) (t:T),agV M M0 v->v.view M t=v.view M0 t:=by
 intro v
 induction v with
 |p a b iha ihb=>intro t h;simp only[agV]at h;cases t <;> first|rfl|(simp only[V.view];rw[iha _ h.1,ihb _ h.2])
 |fn f v ih=>intro t h;cases t <;> first|rfl|(simp only[V.view];rw[ih _ h])
 |bx v ih=>intro t h;cases t <;> first|rfl|(simp only[V.view];rw[ih _ h])
 |ref k π=>intro t h;cases t <;> simp only[V.view] <;> exact bdj h _ _
 |ad k π=>intro t h;cases t <;> first|rfl|(simp only[V.view];exact bdj h _ _)
 |gd _ _ _ _=>intro t h;cases h
 |any=>intro t h;cases t <;> rfl
 |tup _=>intro t h;cases h
 |ifc _ _=>intro t h;cases h
 |ag v=>intro t h;cases t <;> rfl
 |d t' x=>intro t h;cases t <;> rfl
 |nl=>intro t h;cases t <;> rfl
 |np=>intro t h;cases t <;> rfl
 |u=>intro t h;cases t <;> rfl
theorem ay2{v:V}(h:agV M M0 v):agV M M0 v.cells:=by cases v <;> exact h
theorem azg:∀(vs:List V) (ts:List T),(∀v∈vs,agV M M0 v)->v6 M vs ts=v6 M0 vs ts
 |[],[],_=>rfl
 |[],_::_,_=>rfl
 |_::_,[],_=>rfl
 |v::r,t::ts,h=>by simp only[v6];rw[boh v.cells t (ay2 (h v (by simp))),azg r ts fun x hx=>h x (by simp[hx])]
theorem bnu:∀(v:V) (M:Mem),(ca M v).1=[]\/∃k ob r,(ca M v).1=.fz k ob::r:=by
 intro v
 induction v with
 |p a b iha ihb=>
  intro M;simp only[ca];rcases iha M with h|⟨k,ob,r,h⟩
  ·rw[h];rcases ihb (ca M a).2 with h2|⟨k,ob,r,h2⟩
   ·rw[h2];exact .inl rfl
   ·rw[h2];exact .inr ⟨k,ob,r,rfl⟩
  ·rw[h];exact .inr ⟨k,ob,_,rfl⟩
 |ref k π=>intro M;simp only[ca];cases go M k <;> simp
 |ad k π=>intro M;simp only[ca];cases go M k <;> simp
 |ag v ih=>intro M;simp only[ca];exact ih M
 |fn f v ih=>intro M;simp only[ca];exact ih M
 |ifc f v ih=>intro M;simp only[ca];exact ih M
 |bx v ih=>intro M;simp only[ca];exact ih M
 |tup v ih=>intro M;simp only[ca];exact ih M
 |gd _ _ _ v ih=>intro M;simp only[ca];exact ih M
 |_=>intro M;exact .inl rfl
theorem ayv:∀(vs:List V) (M:Mem),(mw M vs).1=[]\/∃k ob r,(mw M vs).1=.fz k ob::r
 |[],M=>.inl rfl
 |v::vs,M=>by
  simp only[mw];rcases bnu v M with h|⟨k,ob,r,h⟩
  ·rw[h];rcases ayv vs (ca M v).2 with h2|⟨k,ob,r,h2⟩
   ·rw[h2];exact .inl rfl
   ·rw[h2];exact .inr ⟨k,ob,r,rfl⟩
  ·rw[h];exact .inr ⟨k,ob,_,rfl⟩
theorem ax4{α:Type}{a b:List α}(h:ap a b=[]):a=[]/\b=[]:=by cases a <;> simp[ap]at h⊢;exact h
theorem bqu:∀(v:V),agV M M0 v->(ca M0 v).1=[]->∀M1:Mem,ca M1 v=([],M1):=by
 intro v
 induction v with
 |p a b iha ihb=>intro h e M1;simp only[agV]at h;simp only[ca]at e⊢;obtain⟨e1,e2⟩:=ax4 e;have ha:=iha h.1 e1;rw[ha M0]at e2;simp only at e2;rw[ha M1];simp only;rw[ihb h.2 e2 M1];rfl
 |fn f v ih=>intro h e M1;simp only[ca]at e⊢;exact ih h e M1
 |bx v ih=>intro h e M1;simp only[ca]at e⊢;exact ih h e M1
 |ag v ih=>intro h e M1;simp only[ca]at e⊢;exact ih h e M1
 |ref k π=>
  intro h e M1;simp only[ca]at e
  cases hg:go M0 k with
  |none=>exact absurd hg h.2
  |some ob=>rw[hg]at e;cases e
 |ad k π=>
  intro h e M1;simp only[ca]at e
  cases hg:go M0 k with
  |none=>exact absurd hg h.2
  |some ob=>rw[hg]at e;cases e
 |gd _ _ _ _=>intro h;cases h
 |any=>intro h e M1;rfl
 |tup _=>intro h;cases h
 |ifc _ _=>intro h;cases h
 |d t' x=>intro h e M1;rfl
 |nl=>intro h e M1;rfl
 |np=>intro h e M1;rfl
 |u=>intro h e M1;rfl
theorem bdq:∀vs:List V,(∀v∈vs,agV M M0 v)->(mw M0 vs).1=[]->∀M1:Mem,mw M1 vs=([],M1)
 |[],_,_,_=>rfl
 |v::r,h,e,M1=>by simp only[mw]at e⊢;obtain⟨e1,e2⟩:=ax4 e;have ha:=bqu v (h v (by simp)) e1;rw[ha M0]at e2;simp only at e2;rw[ha M1];simp only;rw[bdq r (fun x hx=>h x (by simp[hx])) e2 M1];rfl
theorem bc0:∀vs:List V,rn [] vs=vs
 |[]=>rfl
 |v::r=>by simp only[rn,V.evs];rw[bc0 r]
theorem atf:∀(π:bq) (v x:V),agV M M0 v->agV M M0 x->∀v',jb π v x=some v'->agV M M0 v'
 |[],v,x,_,hx,v',h=>by simp only[jb,a0d]at h;subst h;exact hx
 |.l::π,v,x,hv,hx,v',h=>by
  cases v with
  |p a b=>
   simp only[agV]at hv;simp only[jb]at h
   cases hs:jb π a x with
   |none=>rw[hs]at h;cases h
   |some a'=>rw[hs]at h;simp only[a0d]at h;subst h;exact⟨atf π a x hv.1 hx a' hs,hv.2⟩
  |_=>simp[jb]at h
 |.r::π,v,x,hv,hx,v',h=>by
  cases v with
  |p a b=>
   simp only[agV]at hv;simp only[jb]at h
   cases hs:jb π b x with
   |none=>rw[hs]at h;cases h
   |some b'=>rw[hs]at h;simp only[a0d]at h;subst h;exact⟨hv.1,atf π b x hv.2 hx b' hs⟩
  |_=>simp[jb]at h
 |.ix _::_,v,x,_,_,v',h=>by cases v <;> simp[jb]at h
 |.de::_,v,x,_,_,v',h=>by cases v <;> simp[jb]at h
theorem asq:∀t:T,agV M M0 (up t)
 |.p a b=>⟨asq a,asq b⟩
 |.sl _=>trivial
 |.u=>trivial
 |.pt _=>trivial
 |.fn _ _=>trivial
 |.ifc _ _=>trivial
 |.mp _ _=>trivial
 |.op _=>trivial
 |.ns _=>trivial
 |.er _=>trivial
 |.int _=>trivial
 |.bool=>trivial
 |.str=>trivial
 |.any=>trivial
theorem ar0(place:Nat->Option (bq×Nat×Nat))(f:Operand->V):∀(ps:List (Nat×Operand)) (v:V),(∀x∈cd.snds ps,agV M M0 (f x))->agV M M0 v->t7 M place f ps v=t7 M0 place f ps v
 |[],_,_,_=>rfl
 |(i,x)::r,v,hf,hv=>by
  simp only[t7]
  cases place i with
  |none=>rfl
  |some q=>
   obtain⟨π,off,n⟩:=q;simp only;obtain⟨e1,e2⟩:=ai0 π v hv;rw[e1];have hx:=ay2 (hf x (by simp[cd.snds]))
   cases hs:gv M0 π v with
   |none=>rfl
   |some q=>
    obtain⟨m,w⟩:=q;simp only[aau w n (e2 m w hs),aau _ n hx]
    cases hq:jb π v (f x).cells with
    |none=>rfl
    |some v'=>simp only[ar0 place f r v' (fun y hy=>hf y (by simp[cd.snds,hy])) (atf π v _ hv hx v' hq)]
theorem bm2:∀(v:V),agV M M0 v->qv M v=qv M0 v/\∀cs,qv M0 v=some cs->∀c∈cs,agV M M0 c:=by
 intro v
 induction v with
 |p a b iha ihb=>
  intro h;simp only[agV]at h;obtain⟨h1,h2⟩:=ihb h.2;simp only[qv];rw[h1,aau a 1 h.1];refine⟨rfl,fun cs hcs=>?_⟩
  cases hb:qv M0 b with
  |none=>rw[hb]at hcs;cases hcs
  |some r=>
   rw[hb]at hcs;simp only at hcs
   cases hz:jx M0 a 1 with
   |false=>rw[hz]at hcs;cases hcs
   |true=>
    rw[hz]at hcs;simp only[a0c,a0d]at hcs;subst hcs;intro c hc;rcases a0s.1 hc with rfl|hc
    ·exact h.1
    ·exact h2 r hb c hc
 |u=>intro _;exact⟨rfl,fun cs h=>by simp only[qv,a0d]at h;subst h;intro c hc;cases hc⟩
 |_=>intro _;exact⟨rfl,fun cs h=>by simp[qv]at h⟩
theorem bse{x v:V}{f:FuncId}(h:agV M M0 x)(hf:ako x=some (f,v)):agV M M0 v:=by
 cases x with
 |fn g y=>simp only[ako,a0d,a0j]at hf;obtain⟨_,rfl⟩:=hf;exact h
 |d t y=>
  cases t with
  |fn g t=>simp only[ako,a0d,a0j]at hf;obtain⟨_,rfl⟩:=hf;exact aci _ (bdo _ _)
  |_=>simp[ako]at hf
 |_=>simp[ako]at hf
theorem om{v:V}(h:agV M M0 v):v.strip=v:=by cases v <;> first|rfl|cases h
theorem alg{β:Nat->Value}{Im:Nat->Prop}{w:World}(hk:∀k,go M0 k≠none->go M k≠none->go M k=go M0 k):∀(v:V),aco M0 v=true->∀vs,aa β M Im w v vs->agV M M0 v:=by
 have key:∀k,neg (isN (go M0 k))=true->go M k≠none->agK M M0 k:=fun k h h2=>by
  have:go M0 k≠none:=fun e=>by rw[e]at h;cases h
  exact⟨hk k this h2,this⟩
 intro v
 induction v with
 |p a b iha ihb=>intro h vs r;simp only[aco,am,a0a]at h;simp only[aa]at r;obtain⟨va,vb,_,h1,h2⟩:=r;exact⟨iha h.1 _ h1,ihb h.2 _ h2⟩
 |ref j π=>intro h vs r;simp only[aa]at r;obtain⟨ob,_,h1,_⟩:=r;exact key j h (by rw[h1];simp)
 |ad j π=>intro h vs r;simp only[aa]at r;obtain⟨_,_,ob,_,_,_,h1,_⟩:=r;exact key j h (by rw[h1];simp)
 |fn f v ih=>intro h vs r;simp only[aa]at r;obtain⟨us,_,h1⟩:=r;exact ih h _ h1
 |bx v ih=>intro h vs r;simp only[aa]at r;obtain⟨_,_,us,_,_,_,h1⟩:=r;exact ih h _ h1
 |ag v=>intro h vs r;simp only[aa]at r
 |tup v=>intro h;cases h
 |gd _ _ _ v=>intro h;cases h
 |ifc _ v=>intro h;cases h
 |_=>intro h vs r;trivial
theorem bsn{β:Nat->Value}{Im:Nat->Prop}{w:World}(hk:∀k,go M0 k≠none->go M k≠none->go M k=go M0 k)(v:V)(h:aco M0 v=true)(u:Value)(r:ah β M Im w v u):agV M M0 v:=by
 cases v with
 |ag v=>simp only[ah]at r;obtain⟨vs,_,r⟩:=r;exact alg hk v h _ r
 |any=>trivial
 |tup v=>cases h
 |gd _ _ _ v=>cases h
 |ifc _ v=>cases h
 |p a b=>simp only[ah]at r;exact alg hk _ h _ r
 |u=>trivial
 |ref j π=>simp only[ah]at r;exact alg hk _ h _ r
 |ad j π=>simp only[ah]at r;exact alg hk _ h _ r
 |d t x=>trivial
 |nl=>trivial
 |np=>trivial
 |fn f v=>simp only[ah]at r;exact alg hk _ h _ r
 |bx v=>simp only[ah]at r;exact alg hk _ h _ r
theorem ahp{env:Env}:∀{l:List Operand},alm M0 env l=true->∀x∈l,aco M0 (rd env x)=true
 |[],_,x,h=>by cases h
 |y::l,hd,x,h=>by
  simp only[alm,am,a0a]at hd
  cases h with
  |head=>exact hd.1
  |tail _ h=>exact ahp hd.2 x h
theorem bt8{env:Env}(x:Operand)(h:∀t,x≠.tmp t):agV M M0 (rd env x):=by
 cases x with
 |tmp t=>exact absurd rfl (h t)
 |const v=>
  cases v with
  |slice a n m=>
   simp only[rd]
   cases a with
   |none=>simp only[rdV];cases nob (Nat.beq n 0) (Nat.beq m 0) <;> trivial
   |some _=>trivial
  |pointer a=>cases a <;> trivial
  |_=>trivial
 |func f=>trivial
 |global g=>trivial
end
theorem be{M:Mem}{vc:List Prop}{v:V}{e:List Ev}{N:Mem}(h:b8 M=⟨vc,v,e,N⟩)(hv:ab vc):False:=by simp only[b8,Rs.mk.injEq]at h;rw[←h.1]at hv;simp[ab]at hv
theorem dq{f:Operand->V}{l:List Operand}{vc:List Prop}(h:ab (ap (rh f l) vc)):ab vc:=by rw[sf]at h;exact h.2
theorem bgu{ks:Mem}{r:Mem}:fk (len (klL (cc ks))) (ap ks r)=ks:=by
 induction ks with
 |nil=>simp[cc,klL,len,fk]
 |cons q ks ih=>obtain⟨k,ob⟩:=q;simp only[cc,klL,len,ap,fk];rw[ih]
theorem bnl{k:Nat}{ob:Ob}{r e:List Ev}{N:Mem}(h:klB (ap (.fz k ob::r) e) N=true):False:=by cases N <;> simp[ap,klB]at h
theorem bq7{k:Nat}{o:O}{r:List Ev}:∀(e:List Ev) (N:Mem),klB (ap e (.cut k o o::r)) N=false:=fun e=>by
 induction e with
 |nil=>intro N;cases N <;> rfl
 |cons x e ih=>intro N;cases x <;> cases N <;> first|rfl|(rename_i q N;obtain⟨j,ob⟩:=q;simp only[ap,klB,ih,am,Bool.and_false])
theorem azq{k:Nat}{W:Wt}{d:Nat}{r:List V}{M:Mem}{vc:List Prop}{v:V}{e:List Ev}{N N':Mem}(h:w5 k W d r M=⟨vc,v,e,N⟩)(hv:ab vc)(he:klB e N'=true):False:=by
 unfold w5 at h
 cases hb:shp r W.ag with
 |false=>rw[hb]at h;exact be h hv
 |true=>
  rw[hb]at h;simp only[a0c]at h;split at h
  ·split at h
   ·(try simp only at h)
    cases hi:inN _ _ with
    |true=>rw[hi]at h;exact be h hv
    |false=>rw[hi]at h;simp only[a0g,Rs.mk.injEq]at h;obtain⟨_,_,rfl,_⟩:=h;rw[bq7]at he;cases he
   ·exact be h hv
  ·exact be h hv
theorem bn3{W:Wt}{d:Nat}{r:List V}{M:Mem}{vc:List Prop}{v:V}{e:List Ev}{N N':Mem}(h:acg W d r M=⟨vc,v,e,N⟩)(hv:ab vc)(he:klB e N'=true):False:=by
 unfold acg at h;split at h
 ·split at h
  ·cases hb:al9 W.o with
   |false=>rw[hb]at h;exact be h hv
   |true=>rw[hb]at h;exact azq h hv he
  ·split at h
   ·cases hb:slO W.o with
    |false=>rw[hb]at h;exact be h hv
    |true=>rw[hb]at h;exact azq h hv he
   ·exact be h hv
 ·exact be h hv
theorem bsy{W:Wc}{r:List V}{M:Mem}{vc:List Prop}{v:V}{e:List Ev}{N N':Mem}(h:ajq W r M=⟨vc,v,e,N⟩)(hv:ab vc)(he:klB e N'=true):False:=by
 unfold ajq at h;split at h
 ·cases hb:nob _ _ with
  |false=>rw[hb]at h;exact be h hv
  |true=>
   rw[hb]at h;simp only[a0c]at h;split at h
   ·split at h
    ·simp only[Rs.mk.injEq]at h;obtain⟨_,_,rfl,_⟩:=h;cases N' <;> simp[klB]at he
    ·exact be h hv
   ·exact be h hv
 ·exact be h hv
theorem bjd{M0 M:Mem}{ct:Ct}{d:Nat}{vs:List V}(hd:∀v∈vs,agV M M0 v){vc:List Prop}{v:V}{e:List Ev}{N:Mem}(h:zc ct d vs M0=⟨vc,v,e,N⟩)(hv:ab vc)(he:klB e (fk (len e) N)=true) :
  zc ct d vs M=⟨vc,v,e,ap (fk (len e) N) (qr (cc (fk (len e) N)) M)⟩:=by
 unfold zc at h⊢
 cases hmu:ct.mu with
 |some mu=>
  cases mu with
  |m m=>
   rw[hmu]at h;exfalso;simp only at h;unfold akz at h;split at h
   ·rename_i v0 kv;generalize bg [shp [v0,kv] [m.g,false],ya (gz v0.cells),neg (al6 (gz v0.cells)),ajv (gz v0.cells)]=b at h
    cases b with
    |false=>exact be h hv
    |true=>
     simp only[a0c]at h;split at h
     ·split at h
      ·simp only[Rs.mk.injEq]at h;obtain⟨_,_,rfl,_⟩:=h;generalize fk (len _) N=N1 at he;cases N1 <;> simp[klB]at he
      ·exact be h hv
     ·exact be h hv
   ·exact be h hv
  |w W=>rw[hmu]at h;exact (bn3 h hv he).elim
  |c W=>rw[hmu]at h;exact (bsy h hv he).elim
  |s s=>rw[hmu]at h;exact (be h hv).elim
  |a W=>
   rw[hmu]at h;exfalso
   have hcut:∀(e:List Ev) (k:Nat) (o:O) (r:List Ev) (N:Mem),klB (ap e (.cut k o o::r)) N=false:=fun e k o r=>by
    induction e with
    |nil=>intro N;cases N <;> rfl
    |cons x e ih=>intro N;cases x <;> cases N <;> first|rfl|(rename_i q N;obtain⟨j,ob⟩:=q;simp only[ap,klB,ih,am,Bool.and_false])
   simp only at h;unfold ahr at h;split at h
   ·split at h
    ·generalize bg [ag7 W.o W.way,_,_]=b at h
     cases b with
     |false=>exact be h hv
     |true=>
     simp only[a0c]at h;split at h
     ·split at h
      ·simp only[Rs.mk.injEq]at h;obtain⟨_,_,rfl,_⟩:=h;rw[hcut]at he;cases he
      ·exact be h hv
     ·exact be h hv
    ·exact be h hv
   ·exact be h hv
 |none=>
  rw[hmu]at h;simp only at h⊢
  cases hs:shp vs ct.ga with
  |false=>rw[hs]at h;exact (be h hv).elim
  |true=>
   rw[hs]at h;simp only[a0c]at h⊢
   cases hsh:ct.sh with
   |false=>
    rw[hsh]at h;simp only at h⊢;rw[azg vs ct.args hd]
    cases hx:v6 M0 vs ct.args with
    |none=>rw[hx]at h;exact (be h hv).elim
    |some x=>rw[hx]at h;simp only at h⊢;generalize newL d 0 ct.rt (ct.res x)=q at h⊢;obtain⟨v',N',_⟩:=q;simp only[Rs.mk.injEq]at h⊢;obtain⟨rfl,rfl,rfl,rfl⟩:=h;rw[bgu];exact⟨rfl,rfl,rfl,rfl⟩
   |true=>
    rw[hsh]at h;simp only at h⊢;rcases ayv vs M0 with hn|⟨k,ob,r,hn⟩
    ·have hf:=bdq vs hd hn;rw[hf M0]at h;rw[hf M];simp only[bc0]at h⊢
     cases hx:asL vs ct.args with
     |none=>rw[hx]at h;exact (be h hv).elim
     |some x=>rw[hx]at h;simp only at h⊢;generalize newL d 0 ct.rt (ct.res x)=q at h⊢;obtain⟨v',N',_⟩:=q;simp only[Rs.mk.injEq]at h⊢;obtain⟨rfl,rfl,rfl,rfl⟩:=h;have:∀l:List Ev,ap [] l=l:=fun _=>rfl;rw[this,bgu];exact⟨rfl,rfl,rfl,rfl⟩
    ·exfalso;generalize mw M0 vs=q at h hn;obtain⟨e1,M1⟩:=q;simp only at hn h;subst hn;split at h
     ·simp only[Rs.mk.injEq]at h;obtain⟨_,_,rfl,_⟩:=h;exact bnl he
     ·exact be h hv
theorem bd0{f:Operand->V}:∀{l:List Operand} {v:V},v∈rz f l->∃x∈l,f x=v
 |[],v,h=>by cases h
 |x::r,v,h=>by
  simp only[rz]at h;rcases a0s.1 h with rfl|h
  ·exact⟨x,by simp,rfl⟩
  ·obtain⟨y,h1,h2⟩:=bd0 h;exact⟨y,by simp[h1],h2⟩
theorem ahs(e:Ev):∀v:V,cu v=true->v.ev e=v
 |.d _ _,_=>rfl
 |.nl,_=>rfl
 |.np,_=>rfl
 |.u,_=>rfl
 |.p a b,h=>by simp only[cu,am,a0a]at h;simp only[V.ev,ahs e a h.1,ahs e b h.2]
 |.ag v,h=>by simp only[cu]at h;simp only[V.ev,ahs e v h]
 |.fn _ v,h=>by simp only[cu]at h;simp only[V.ev,ahs e v h]
 |.bx v,h=>by simp only[cu]at h;simp only[V.ev,ahs e v h]
 |.any,h=>by cases h
 |.ref _ _,h=>by cases h
 |.ad _ _,h=>by cases h
 |.tup _,h=>by cases h
 |.gd _ _ _ _,h=>by cases h
 |.ifc _ _,h=>by cases h
theorem be4:∀(e:List Ev) (v:V),cu v=true->v.evs e=v
 |[],_,_=>rfl
 |x::e,v,h=>by simp only[V.evs,ahs x v h];exact be4 e v h
theorem bfw{k:Nat}(v:V)(t:T)(M:Mem)(h:cu v=true)(q:Ob)(e:List Ev)(M':Mem)(hc:conv k t v M=some (q,e,M')):e=[]/\M'=M/\∀M1,conv k t v M1=some (q,[],M1):=⟨(atu k M M t v h q e M' hc).1,(atu k M M t v h q e M' hc).2.1,fun M1=>(atu k M1 M t v h q e M' hc).2.2⟩
theorem ad6:∀(v:V) (M:Mem),cu v=true->ca M v=([],M)
 |.p a b,M,h=>by simp only[cu,am,a0a]at h;simp only[ca,ad6 a M h.1,ad6 b M h.2,ap]
 |.ag v,M,h=>by simp only[cu]at h;simp only[ca,ad6 v M h]
 |.fn _ v,M,h=>by simp only[cu]at h;simp only[ca,ad6 v M h]
 |.bx v,M,h=>by simp only[cu]at h;simp only[ca,ad6 v M h]
 |.d _ _,_,_=>rfl
 |.nl,_,_=>rfl
 |.np,_,_=>rfl
 |.u,_,_=>rfl
 |.any,_,h=>by cases h
 |.ref _ _,_,h=>by cases h
 |.ad _ _,_,h=>by cases h
 |.tup _,_,h=>by cases h
 |.gd _ _ _ _,_,h=>by cases h
 |.ifc _ _,_,h=>by cases h
theorem au4{k:Nat}{v:V}{o:O}{M:Mem}(h:cu v=true){x:o.strip.den}{e:List Ev}{M':Mem}(hc:adp k o v M=some (x,e,M')):e=[]/\M'=M/\∀M1,adp k o v M1=some (x,[],M1):=by
 unfold adp at hc⊢;split at hc
 ·rename_i t;simp only[ad6 v _ h,V.evs]at hc⊢;split at hc
  ·rename_i y hy;simp only[a0d,a0j]at hc;obtain⟨rfl,rfl,rfl⟩:=hc;exact⟨rfl,rfl,fun _=>rfl⟩
  ·cases hc
 ·split at hc
  ·rename_i q e1 M1 hq;obtain⟨rfl,rfl,h3⟩:=bfw v _ _ h _ _ _ hq;split at hc
   ·rename_i y hy;simp only[a0d,a0j]at hc;obtain⟨rfl,rfl,rfl⟩:=hc;exact⟨rfl,rfl,fun M2=>by simp only[h3,hy]⟩
   ·cases hc
  ·cases hc
theorem bko{k:Nat}{v:V}{o:O}{M:Mem}(h:cu v=true){x:o.strip.den}{e:List Ev}{M':Mem}(hc:ahl k o v M=some (x,e,M')):e=[]/\M'=M/\∀M1,ahl k o v M1=some (x,[],M1):=by
 unfold ahl at hc⊢;split at hc
 ·split at hc
  ·rename_i y ev M1 hq;obtain⟨rfl,rfl,h3⟩:=au4 h hq;simp only[a0d,a0j]at hc;obtain⟨rfl,rfl,rfl⟩:=hc;exact⟨rfl,rfl,fun M2=>by simp only[h3]⟩
  ·cases hc
 ·exact au4 h hc
theorem ae9{k:Nat}{o:O}:∀(l:List V),(∀v∈l,cu v=true)->∀(M:Mem) (x:List o.strip.den) (e:List Ev) (M':Mem),o6 k o [] l M=some (x,e,M')->e=[]/\M'=M/\∀M1,o6 k o [] l M1=some (x,[],M1)
 |[],_,M,x,e,M',hc=>by simp only[o6,a0d,a0j]at hc;obtain⟨rfl,rfl,rfl⟩:=hc;exact⟨rfl,rfl,fun _=>rfl⟩
 |v::r,h,M,x,e,M',hc=>by
  simp only[o6,V.evs]at hc;split at hc
  ·rename_i y e1 M1 h1;obtain⟨rfl,rfl,h3⟩:=bko (h v (by simp)) h1;simp only[ap]at hc;split at hc
   ·rename_i z e2 M2 h2;obtain⟨rfl,rfl,h4⟩:=ae9 r (fun w hw=>h w (by simp[hw])) _ _ _ _ h2;simp only[a0d,a0j]at hc;obtain⟨rfl,rfl,rfl⟩:=hc;exact⟨rfl,rfl,fun M2=>by simp only[o6,V.evs,h3,ap,h4]⟩
   ·cases hc
  ·cases hc
theorem as8:∀t:T,cu (up t)=true
 |.p a b=>by simp only[up,cu,as8 a,as8 b];rfl
 |.sl _=>rfl
 |.u=>rfl
 |.pt _=>rfl
 |.fn _ _=>rfl
 |.ifc _ _=>rfl
 |.mp _ _=>rfl
 |.op _=>rfl
 |.ns _=>rfl
 |.er _=>rfl
 |.int _=>rfl
 |.bool=>rfl
 |.str=>rfl
 |.any=>rfl
theorem bct{α:Type}{y x:α}:∀{l:List α} {i:Nat},x∈aos l i y->x∈l\/x=y
 |[],_,h=>by cases h
 |z::r,0,h=>by simp only[aos,a0s]at h⊢;rcases h with h|h <;> simp[h]
 |z::r,i+1,h=>by
  simp only[aos,a0s]at h⊢;rcases h with h|h
  ·simp[h]
  ·rcases bct h with h|h <;> simp[h]
theorem bb8{α:Type}{y x:α}:∀{n:Nat},x∈ac0 y n->x=y
 |0,h=>by cases h
 |n+1,h=>by
  simp only[ac0,a0s]at h;rcases h with h|h
  ·exact h
  ·exact bb8 h
theorem aj4{v:V}(h:cu v=true):v.strip=v:=by cases v <;> first|rfl|cases h
theorem ar1{M:Mem}{sz:Nat}{f:Operand->V}:∀(ps:List (Nat×Operand)) (l r:List V),(∀q∈ps,cu (f q.2)=true)->(∀v∈l,cu v=true)->p8 M sz f ps l=some r->(∀v∈r,cu v=true)/\∀M1,p8 M1 sz f ps l=some r
 |[],l,r,_,hl,h=>by simp only[p8,a0d]at h;subst h;exact⟨hl,fun _=>rfl⟩
 |(i,x)::ps,l,r,hp,hl,h=>by
  simp only[p8]at h;have hx:=bl4 (hp _ (a3f))
  cases hb:nob (Nat.ble (Nat.succ i) (len l)) (jx M (f x).cells sz)with
  |false=>rw[hb]at h;cases h
  |true=>
   rw[hb]at h;simp only[a0c]at h
   obtain⟨h1,h2⟩:=ar1 ps _ r (fun q hq=>hp q (by simp[hq])) (fun v hv=>by
    rcases bct hv with hv|hv
    ·exact hl v hv
    ·rw[hv];exact hx) h
   refine⟨h1,fun M1=>?_⟩;simp only[p8];rw[aau (M:=M1) (M0:=M) _ _ (aci _ hx),hb];exact h2 M1
theorem bcr(e:List Ev):∀l:List V,(∀v∈l,cu v=true)->rn e l=l
 |[],_=>rfl
 |v::r,h=>by simp only[rn];rw[be4 e v (h v (by simp)),bcr e r fun w hw=>h w (by simp[hw])]
theorem bj0{B:Tab}{t:TypeId}{n:Nat}{ps:List (Nat×Operand)}{f:Operand->V}{d:Option Nat}{M M0:Mem}(hp:∀q∈ps,cu (f q.2)=true){vc:List Prop}{v:V}{e:List Ev}{N:Mem}(h:abr B t n ps f d M0=⟨vc,v,e,N⟩)(hv:ab vc) :
  abr B t n ps f d M=⟨vc,v,e,ap (fk (len e) N) (qr (cc (fk (len e) N)) M)⟩:=by
 unfold abr at h⊢;split at h
 ·rename_i k el hel;split at h
  ·rename_i l hl;obtain⟨hd,hl1⟩:=ar1 ps _ l hp (fun v hv=>by rw[bb8 hv];exact as8 _) hl;simp only[hl1 M]
   cases hb:bg [(B.τ t).ok,(B.τ el).ok,B.z el,Nat.ble (Nat.mul n (B.τ el).size) 16777216,Nat.ble n nb,dz (B.σ el).size (B.τ el).size]with
   |false=>rw[hb]at h;exact (be h hv).elim
   |true=>
    rw[hb]at h;simp only[a0c,bcr _ l hd]at h⊢
    cases l with
    |nil=>simp only[Rs.mk.injEq]at h;obtain⟨rfl,rfl,rfl,rfl⟩:=h;rfl
    |cons v0 r=>
     simp only at h⊢;split at h
     ·rename_i q e1 M1 hq;obtain⟨rfl,rfl,hq1⟩:=bfw v0 _ _ (hd v0 (by simp)) _ _ _ hq;simp only[hq1];split at h
      ·rename_i x ev M2 hx;obtain⟨rfl,rfl,hx1⟩:=ae9 _ hd _ _ _ _ hx;simp only[hx1];simp only[Rs.mk.injEq]at h;obtain⟨rfl,rfl,rfl,rfl⟩:=h;rfl
      ·rename_i hx
       have hx1:∀M1,o6 k q.o [] (v0::r) M1=none:=fun M1=>by
        cases hc:o6 k q.o [] (v0::r) M1 with
        |none=>rfl
        |some z=>obtain⟨z1,z2,z3⟩:=z;have:=(ae9 _ hd _ _ _ _ hc).2.2 (del k M0);rw[hx]at this;cases this
       simp only[hx1];split at h
       ·rename_i x ev M2 hx;obtain⟨rfl,rfl,hx1⟩:=ae9 _ hd _ _ _ _ hx;simp only[hx1];simp only[Rs.mk.injEq]at h;obtain⟨rfl,rfl,rfl,rfl⟩:=h;rfl
       ·exact (be h hv).elim
     ·exact (be h hv).elim
  ·exact (be h hv).elim
 ·exact (be h hv).elim
theorem blr{B:Tab}{d:Option Nat}{t:TypeId}{x y:V}{M M0:Mem}(hx:cu x=true)(hy:cu y=true){vc:List Prop}{v:V}{e:List Ev}{N:Mem}(h:ae7 B d t x y M0=⟨vc,v,e,N⟩)(hv:ab vc) :
  ae7 B d t x y M=⟨vc,v,e,ap (fk (len e) N) (qr (cc (fk (len e) N)) M)⟩:=by
 unfold ae7 at h⊢
 cases he:(B.τ t).el with
 |none=>rw[he]at h;exact (be h hv).elim
 |some el=>
 cases d with
 |none=>rw[he]at h;exact (be h hv).elim
 |some k=>
 rw[he]at h
 try simp only at h⊢
 cases y with
 |nl=>
  simp only[ahe]at h⊢
  cases hb:bg [(B.τ t).ok,(B.τ el).ok,neg (Nat.beq (B.τ el).bytes 0),B.z el,dz (B.σ el).size (B.τ el).size]with
  |false=>rw[hb]at h;exact (be h hv).elim
  |true=>
   rw[hb]at h;simp only[a0c]at h⊢
   cases x with
   |nl=>simp only[Rs.mk.injEq]at h⊢;obtain⟨rfl,rfl,rfl,rfl⟩:=h;exact⟨rfl,rfl,rfl,rfl⟩
   |ref _ _=>cases hx
   |_=>exact (be h hv).elim
 |d s l=>
  cases s with
  |sl s=>
   simp only[ahe]at h⊢
   cases hb:bg [(B.τ t).ok,(B.τ el).ok,neg (Nat.beq (B.τ el).bytes 0),B.z el,dz (B.σ el).size (B.τ el).size]with
   |false=>rw[hb]at h;exact (be h hv).elim
   |true=>
    rw[hb]at h;simp only[a0c]at h⊢
    cases x with
    |nl=>
     simp only at h⊢
     cases hc:dz s.size (B.τ el).size with
     |false=>rw[hc]at h;exact (be h hv).elim
     |true=>rw[hc]at h;simp only[a0c,Rs.mk.injEq]at h⊢;obtain⟨rfl,rfl,rfl,rfl⟩:=h;exact⟨rfl,rfl,rfl,rfl⟩
    |ref _ _=>cases hx
    |_=>exact (be h hv).elim
  |_=>simp only[ahe]at h;exact (be h hv).elim
 |ref _ _=>cases hy
 |_=>simp only[ahe]at h;exact (be h hv).elim
theorem bkz{B:Tab}{t:TypeId}{d:Option Nat}{ρ:Operand->V}{x:Operand}{lo hi:Option Operand}{M0:Mem}(M:Mem)(hx:cu (ρ x)=true){vc:List Prop}{v:V}{e:List Ev}{N:Mem}(h:xq B t d ρ x lo hi M0=⟨vc,v,e,N⟩)(hv:ab vc) :
  xq B t d ρ x lo hi M=⟨vc,v,e,M⟩/\e=[]:=by
 unfold xq at h⊢
 cases hn:nsT (B.σ t)with
 |true=>
  exfalso;rw[hn]at h;simp only[a0c,ahh]at h;split at h
  ·rename_i hr _ _ _
   first|(rw[hr]at hx;cases hx)|(exfalso;simp_all[cu])
  ·simp only[b8,Rs.mk.injEq]at h;obtain⟨rfl,_⟩:=h;exact hv.1
 |false=>
  rw[hn]at h;simp only[a0g,ano]at h⊢;split at h
  ·rename_i hr;rw[hr]at hx;cases hx
  ·simp only[cq,Rs.mk.injEq]at h⊢;obtain⟨h1,h2,rfl,rfl⟩:=h;simp only[h1,h2,and_self]
theorem bdz{M0 M:Mem}{o:Oper}{env:Env}(hk:aj9 M0 o.op env=true)(ag:alm M0 env (cd o.op)=true->∀x∈cd o.op,agV M M0 (rd env x)){vc:List Prop}{v:V}{e:List Ev}{N:Mem}(h:evR B Φ o env M0=⟨vc,v,e,N⟩)(hv:ab vc)(he:klB e (fk (len e) N)=true) :
  evR B Φ o env M=⟨vc,v,e,ap (fk (len e) N) (qr (cc (fk (len e) N)) M)⟩:=by
 have tk:∀N:Mem,fk (len ([]:List Ev)) N=[]:=fun _=>rfl;obtain⟨dst,op,ty',pos,after,guard⟩:=o;simp only[aj9,mi,am,a1f,a0a]at hk;rcases hk with hk|(hk|hk)|⟨hk|hk,hd⟩;rotate_left
 ·cases op <;> simp only[sldK,a02]at hk;rename_i t x lo hi mx
  cases mx with
  |some _=>cases hk
  |none=>
  simp only[evR,c6]at h⊢;have hx:cu (rd env x)=true:=ac2 hk _ (by simp[cd,ic]);generalize hq:xq B t dst (fun x=>(rd env x).strip) x lo hi M0=q at h;obtain⟨vc',v',e',N'⟩:=q;simp only[Rs.mk.injEq]at h;obtain⟨rfl,rfl,rfl,rfl⟩:=h;obtain⟨k1,k2⟩:=bkz M (by simp only[aj4 hx];exact hx) hq (dq hv);subst k2;simp only[k1,tk,ap,qr,cc]
 rotate_right
 ·cases op <;> simp only[ae6,a02]at hk <;> simp only[evR,c6,cq,Rs.mk.injEq]at h⊢ <;> obtain⟨h1,h2,rfl,rfl⟩:=h <;> exact⟨h1,h2,rfl,rfl⟩
 ·cases op <;> simp only[litK,a02]at hk
  case call c=>
   split at hk
   ·rename_i hcal;simp only[evR,c6,hcal]at h⊢;split at h
    ·rename_i x y t t' hxy htt
     cases hb:Nat.beq t t' with
     |false=>rw[hb]at h;simp only[a0g,b8,Rs.mk.injEq]at h;obtain⟨rfl,_⟩:=h;exact absurd (dq hv) (by simp[ab])
     |true=>rw[hb]at h;simp only[a0c]at h⊢;generalize hq:ae7 B dst t ((rd env x).strip) ((rd env y).strip) M0=q at h;obtain⟨vc',v',e',N'⟩:=q;simp only[Rs.mk.injEq]at h;obtain⟨rfl,rfl,rfl,rfl⟩:=h;have hx:cu (rd env x)=true:=ac2 hk _ (by show x∈ap (cd.calO c.callee) (toL c.args);rw[hcal,hxy,ic];simp);have hy:cu (rd env y)=true:=ac2 hk _ (by show y∈ap (cd.calO c.callee) (toL c.args);rw[hcal,hxy,ic];simp);rw[blr (M:=M) (by rw[aj4 hx];exact hx) (by rw[aj4 hy];exact hy) hq (dq hv)]
    ·simp only[b8,Rs.mk.injEq]at h;obtain⟨rfl,_⟩:=h;exact absurd (dq hv) (by simp[ab])
   ·cases hk
  rename_i t n ps;simp only[evR,c6]at h⊢;generalize hq:abr B t n (toL ps) (fun x=>(rd env x).strip) dst M0=q at h;obtain⟨vc',v',e',N'⟩:=q;simp only[Rs.mk.injEq]at h;obtain⟨rfl,rfl,rfl,rfl⟩:=h;have hm:∀q∈toL ps,cu ((fun x=>(rd env x).strip) q.2)=true:=fun q hq=>by have:cu (rd env q.2)=true:=ac2 hk _ (by simp only[cd];exact aey (by rw[←dh];exact hq));simp only[aj4 this];exact this
  rw[bj0 (M:=M) hm hq (dq hv)]
 ·have hm:=ag hd;cases op <;> simp only[zb,a02]at hk <;> simp only[cd]at hm
  case load t x=>
   have hx:=hm x (by simp);simp only[evR,c6,Rs.mk.injEq]at h⊢;obtain⟨h1,h2,h3,h4⟩:=h
   have hn:abx (B.τ t) M0 dst ((rd env x).strip)=none:=by
    cases htk:abx (B.τ t) M0 dst ((rd env x).strip)with
    |none=>rfl
    |some R=>
     exfalso;simp only[tz,htk]at h1 h2 h3 h4;unfold abx at htk;split at htk
     ·split at htk
      ·cases htk
       cases hb:bg [(B.τ t).ok,dz (B.τ t).size 1,neg (B.τ t).agg,_,_]with
       |false=>rw[hb]at h1;simp only[a0g,b8]at h1;subst h1;exact absurd (dq hv) (by simp[ab])
       |true=>rw[hb]at h3;simp only[a0c]at h3;subst h3;revert he;generalize fk _ N=N1;cases N1 <;> simp[klB]
      ·cases htk
     ·cases htk
   have hn':abx (B.τ t) M dst ((rd env x).strip)=none:=by rw[om hx]at hn⊢;rw[bny _ _ hx];exact hn
   simp only[tz,hn,cq]at h1 h2 h3 h4;subst h3;simp only[tz,hn',cq];rw[om hx]at h1 h2⊢;rw[bi4 _ _ hx];simp only[tk,ap,qr,cc,a0b];exact⟨h1,h2⟩
  all_goals simp only[evR,c6,cq,Rs.mk.injEq]at h⊢
  all_goals obtain⟨h1,h2,rfl,rfl⟩:=h
  case fieldAddr t x i=>have hx:=hm x (by simp);rw[om hx,bhv _ _ _ hx,←om hx];exact⟨h1,h2,rfl,rfl⟩
  case field t x i=>have hx:=hm x (by simp);rw[om hx,bki _ _ _ hx,←om hx];exact⟨h1,h2,rfl,rfl⟩
  case indexAddr t x i=>have hx:=hm x (by simp);rw[om hx,bk5 _ _ _ hx,←om hx];exact⟨h1,h2,rfl,rfl⟩
  case convert s d x=>have hx:=hm x (by simp);rw[om hx,bem hx,←om hx];exact⟨h1,h2,rfl,rfl⟩
  all_goals exact⟨h1,h2,rfl,rfl⟩
 ·have hm:=ag hd;cases op <;> simp only[newK,a02]at hk
  case alloc t=>
   simp only[evR,c6,bce]at h⊢
   cases dst with
   |none=>simp only[b8,Rs.mk.injEq]at h;obtain⟨rfl,_⟩:=h;exact absurd (dq hv) (by simp[ab])
   |some k=>
    simp only at h⊢
    cases hb:bg [(B.τ t).ok,B.z t]with
    |false=>rw[hb]at h;simp only[a0g,b8,Rs.mk.injEq]at h;obtain⟨rfl,_⟩:=h;exact absurd (dq hv) (by simp[ab])
    |true=>rw[hb]at h;simp only[a0c,Rs.mk.injEq]at h⊢;obtain⟨h1,h2,rfl,rfl⟩:=h;exact⟨h1,h2,rfl,rfl⟩
  case makeSlice t l c=>
   simp only[evR,c6,ap0]at h⊢;split at h
   ·rename_i el k1 nl k2 nc e2 e3 e4
    cases hb:bg [(B.τ t).ok,(B.τ el).ok,B.z el,dz (B.σ el).size (B.τ el).size]with
    |false=>rw[hb]at h;simp only[a0g,b8,Rs.mk.injEq]at h;obtain⟨rfl,_⟩:=h;exact absurd (dq hv) (by simp[ab])
    |true=>rw[hb]at h;simp only[a0c,Rs.mk.injEq]at h⊢;obtain⟨h1,h2,rfl,rfl⟩:=h;exact⟨h1,h2,rfl,rfl⟩
   ·simp only[b8,Rs.mk.injEq]at h;obtain⟨rfl,_⟩:=h;exact absurd (dq hv) (by simp[ab])
  case build t ps=>
   simp only[evR,c6,yf]at h⊢;rw[ar0 (M:=M) (M0:=M0) _ (fun x=>(rd env x).strip) (toL ps) _ (fun x hx=>by have:=hm x (by simp only[cd];exact hx);rw[om this];exact this) (asq _)]
   cases hb:bg [(B.τ t).ok,aq9 B (B.τ t),B.z t]with
   |false=>rw[hb]at h;simp only[a0g,b8,Rs.mk.injEq]at h;obtain⟨rfl,_⟩:=h;exact absurd (dq hv) (by simp[ab])
   |true=>
    rw[hb]at h;simp only[a0c]at h⊢;split at h
    ·rename_i v0 e0;simp only[Rs.mk.injEq]at h⊢;obtain⟨h1,h2,rfl,rfl⟩:=h;exact⟨h1,h2,rfl,rfl⟩
    ·simp only[b8,Rs.mk.injEq]at h;obtain⟨rfl,_⟩:=h;exact absurd (dq hv) (by simp[ab])
  case buildSlice t n p=>
   rw[am,a0a]at hk;have hn0:=a0v hk.1;subst hn0
   have hp:toL p=[]:=by
    have:=a0v hk.2;revert this
    cases toL p with
    |nil=>intro _;rfl
    |cons a r=>intro h;exact absurd h (by simp only[len];omega)
   ·simp only[evR,c6,hp,abr]at h⊢
    cases dst with
    |none=>simp only[b8,Rs.mk.injEq]at h;obtain⟨rfl,_⟩:=h;exact absurd (dq hv) (by simp[ab])
    |some k=>
     cases hel:(B.τ t).el with
     |none=>rw[hel]at h;simp only[b8,Rs.mk.injEq]at h;obtain⟨rfl,_⟩:=h;exact absurd (dq hv) (by simp[ab])
     |some el=>
      rw[hel]at h;simp only[p8,ac0,rn]at h⊢
      cases hb:bg [(B.τ t).ok,(B.τ el).ok,B.z el,Nat.ble (Nat.mul 0 (B.τ el).size) 16777216,Nat.ble 0 nb,dz (B.σ el).size (B.τ el).size]with
      |false=>rw[hb]at h;simp only[a0g,b8,Rs.mk.injEq]at h;obtain⟨rfl,_⟩:=h;exact absurd (dq hv) (by simp[ab])
      |true=>rw[hb]at h;simp only[a0c,Rs.mk.injEq]at h⊢;obtain⟨h1,h2,rfl,rfl⟩:=h;exact⟨h1,h2,rfl,rfl⟩
  case call c=>
   obtain⟨callee,args,argTypes⟩:=c;have hrd:∀x∈toL args,agV M M0 (rd env x).strip:=fun x hx=>by have:=hm x (by simp only[cd,ic];exact a2n _ hx);rw[om this];exact this
   cases callee with
   |value cx=>
    have hc:=hm cx (by simp only[cd,ic,cd.calO];exact a1t _ (by simp));simp only[evR,c6]at h⊢
    cases hf:ako (rd env cx).strip with
    |none=>rw[hf]at h;simp only[b8,Rs.mk.injEq]at h;obtain⟨rfl,_⟩:=h;exact absurd (dq hv) (by simp[ab])
    |some q=>
     obtain⟨f,cv⟩:=q;have hcv:agV M M0 cv:=bse (by rw[om hc];exact hc) hf;rw[hf]at h
     cases dst with
     |none=>simp only[b8,Rs.mk.injEq]at h;obtain⟨rfl,_⟩:=h;exact absurd (dq hv) (by simp[ab])
     |some d=>
      simp only at h⊢;obtain⟨c1,c2⟩:=bm2 cv hcv;rw[c1]
      cases hp:Φ f with
      |none=>rw[hp]at h;simp only[b8,Rs.mk.injEq]at h;obtain⟨rfl,_⟩:=h;exact absurd (dq hv) (by simp[ab])
      |some ct=>
       rw[hp]at h
       cases hcs:qv M0 cv with
       |none=>rw[hcs]at h;simp only[b8,Rs.mk.injEq]at h;obtain⟨rfl,_⟩:=h;exact absurd (dq hv) (by simp[ab])
       |some cs=>
        rw[hcs]at h;simp only at h⊢
        have hall:∀y∈ap (rz (fun x=>(rd env x).strip) (toL args)) cs,agV M M0 y:=fun y hy=>by
         rw[ic]at hy;rcases a04.1 hy with hy|hy
         ·obtain⟨x,x1,rfl⟩:=bd0 hy;exact hrd x x1
         ·exact c2 cs hcs y hy
        generalize hq:zc ct d (ap (rz (fun x=>(rd env x).strip) (toL args)) cs) M0=q at h;obtain⟨vc1,v1,e1,N1⟩:=q;simp only[Rs.mk.injEq]at h;obtain⟨rfl,rfl,rfl,rfl⟩:=h;rw[bjd hall hq (dq hv) he]
   |builtin b=>
    cases b <;> simp only[a02]at hk;simp only[evR,c6]at h⊢;split at h
    ·rename_i x t e1 e2;have hx:=hrd x (by rw[e1];simp);simp only[cq,Rs.mk.injEq]at h⊢;rw[bku hx];obtain⟨h1,h2,rfl,rfl⟩:=h;exact⟨h1,h2,rfl,rfl⟩
    ·simp only[b8,Rs.mk.injEq]at h;obtain⟨rfl,_⟩:=h;exact absurd (dq hv) (by simp[ab])
   |_=>simp at hk
theorem ad9{β:Nat->Value}{M:Mem}{Im:Nat->Prop}{w:World}{k:Nat}(hk:go M k=none):∀(v:V) (vs:List Value),aa β M Im w v vs->v.ev (.kl k)=v:=by
 intro v
 induction v with
 |p a b iha ihb=>intro vs r;simp only[aa]at r;obtain⟨va,vb,_,h1,h2⟩:=r;simp only[V.ev];rw[iha _ h1,ihb _ h2]
 |ref j π=>
  intro vs r;simp only[aa]at r;obtain⟨ob,_,h1,_⟩:=r;have hne:j≠k:=fun h=>by subst h;rw[hk]at h1;cases h1
  simp only[V.ev,Ev.ref,ck,ds hne]
 |ad j π=>
  intro vs r;simp only[aa]at r;obtain⟨_,_,ob,_,_,_,h1,_⟩:=r;have hne:j≠k:=fun h=>by subst h;rw[hk]at h1;cases h1
  simp only[V.ev,Ev.ad,ck,ds hne]
 |fn f v ih=>intro vs r;simp only[aa]at r;obtain⟨us,_,h⟩:=r;simp only[V.ev];rw[ih _ h]
 |bx v ih=>intro vs r;simp only[aa]at r;obtain⟨_,_,us,_,_,_,h⟩:=r;simp only[V.ev];rw[ih _ h]
 |ag v=>intro vs r;simp only[aa]at r
 |tup v=>intro vs r;simp only[aa]at r
 |gd _ _ _ v=>intro vs r;simp only[aa]at r
 |ifc t v ih=>intro vs r;simp only[aa]at r;obtain⟨u,_,h⟩:=r;simp only[V.ev];rw[ih _ h]
 |_=>intro vs r;rfl
theorem bon{β:Nat->Value}{M:Mem}{Im:Nat->Prop}{w:World}{k:Nat}(hk:go M k=none):∀(v:V),vl v=true->(∀u,ah β M Im w v u->v.ev (.kl k)=v)/\(∀us,cf β M Im w v us->v.ev (.kl k)=v):=by
 intro v
 induction v with
 |any=>intro _;exact⟨fun _ _=>rfl,fun _ _=>rfl⟩
 |ag v ih=>
  intro _;refine⟨fun u r=>?_,fun us r=>?_⟩
  ·simp only[ah]at r;obtain⟨vs,_,h⟩:=r;simp only[V.ev];rw[ad9 hk _ _ h]
  ·simp only[cf]at r
 |tup v ih=>
  intro hg;refine⟨fun u r=>?_,fun us r=>?_⟩
  ·simp only[ah]at r;obtain⟨vs,_,h⟩:=r;simp only[V.ev];rw[(ih hg).2 _ h]
  ·simp only[cf]at r
 |gd _ _ _ v=>intro hg;cases hg
 |ifc t v ih=>
  intro hg;refine⟨fun u r=>?_,fun us r=>?_⟩
  ·simp only[ah]at r;exact ad9 hk _ _ r
  ·simp only[cf]at r
 |p a b iha ihb=>
  intro hg;simp only[vl,am,a0a]at hg;refine⟨fun u r=>?_,fun us r=>?_⟩
  ·simp only[ah]at r;exact ad9 hk _ _ r
  ·simp only[cf]at r;obtain⟨u,us',_,h1,h2⟩:=r;simp only[V.ev];rw[(iha hg.1).1 _ h1,(ihb hg.2).2 _ h2]
 |u=>intro _;exact⟨fun _ _=>rfl,fun _ _=>rfl⟩
 |ref j π=>intro _;exact⟨fun u r=>by simp only[ah]at r;exact ad9 hk _ _ r,fun us r=>by simp only[cf]at r⟩
 |ad j π=>intro _;exact⟨fun u r=>by simp only[ah]at r;exact ad9 hk _ _ r,fun us r=>by simp only[cf]at r⟩
 |d t x=>intro _;exact⟨fun _ _=>rfl,fun _ _=>rfl⟩
 |nl=>intro _;exact⟨fun _ _=>rfl,fun _ _=>rfl⟩
 |np=>intro _;exact⟨fun _ _=>rfl,fun _ _=>rfl⟩
 |fn f v=>intro _;exact⟨fun u r=>by simp only[ah]at r;exact ad9 hk _ _ r,fun us r=>by simp only[cf]at r⟩
 |bx v=>intro _;exact⟨fun u r=>by simp only[ah]at r;exact ad9 hk _ _ r,fun us r=>by simp only[cf]at r⟩
theorem bg5:∀{e:List Ev} {N:Mem},klB e N=true->∀{v:V},(∀k∈cc N,v.ev (.kl k)=v)->v.evs e=v
 |[],[],_,v,_=>rfl
 |[],_::_,h,_,_=>by simp[klB]at h
 |x::e,[],h,_,_=>by cases x <;> simp[klB]at h
 |x::e,(j,ob)::N,h,v,hk=>by
  cases x with
  |kl k=>simp only[klB,am,a0a]at h;have:=a0v h.1;subst this;simp only[V.evs];rw[hk k (by simp[cc])];exact bg5 h.2 fun k hk'=>hk k (by simp[cc,hk'])
  |_=>simp[klB]at h
theorem aev:∀{ks:List Nat} {M:Mem},ahk ks M=true->∀k∈ks,go M k=none
 |[],_,_,k,hk=>by cases hk
 |j::r,M,h,k,hk=>by
  simp only[ahk,am,a0a]at h;rcases a0s.1 hk with rfl|hk
  ·cases hg:go M k with
   |none=>rfl
   |some _=>rw[hg]at h;exact absurd h.1 (by simp[isN])
  ·exact aev h.2 k hk
theorem wv:∀{N:Mem} {k:Nat},k∈cc N<->go N k≠none
 |[],k=>by simp[cc,go]
 |(j,ob)::N,k=>by
  simp only[cc,a0s,c8];by_cases e:j=k
  ·subst e;simp
  ·rw[ds e,←wv (N:=N)];simp[a0w e]
theorem aq7:∀{ks:List Nat} {M:Mem} {k:Nat},k∉ks->go (qr ks M) k=go M k
 |[],_,_,_=>rfl
 |j::r,M,k,h=>by simp only[qr];rw[aq7 (fun hh=>h (by simp[hh])),dm (fun hh=>h (by simp[hh]))]
theorem bb9{t:Nat}:∀{env:Env},y9 env=true->vl (gt env t)=true
 |[],_=>rfl
 |(k,v)::r,h=>by
  simp only[y9,am,a0a]at h;rw[km];split
  ·exact h.1
  ·exact bb9 h.2
structure Hst (D:Bool) (ks as:List Nat) (B:Tab) (Φ:FuncId->Option Ct) (M0:Mem) (o:Oper) (e e':Env) (N:Mem) (X X':Mem) (d:Nat) (v:V) (vc:List Prop) (ev:List Ev):Prop where
 g:o.guard=none
 dst:o.dst=some d
 k:aj9 (ap X M0) o.op e=true
 r:∃N',evR B Φ o e (ap X M0)=⟨vc,v,ev,N'⟩/\N=fk (len ev) N'
 hv:ab vc
 kl:klB ev N=true
 n0:ahk (cc N) M0=true
 nX:ahk (cc N) X=true
 gd:vl v=true
 dt:D=true->uy o.op=true->bxK B as o.op e=true\/u7 ks e (cd o.op)=true/\ksV ks v=true
 he:e'=(d,v)::e
 x:X'=ap N X
theorem bc6{ks as:List Nat}{M0:Mem}:∀(D:List Bool) (ops:List Oper) (e:Env) (x:Mem) (K:Env->Mem->Prop),hx D ks as B Φ M0 ops e x K->
  ∃(E:Nat->Env) (X N:Nat->Mem),E 0=e/\X 0=x/\(∀j o,ops[j]? = some o->∃d v vc ev,Hst (D.getD j false) ks as B Φ M0 o (E j) (E (j+1)) (N j) (X j) (X (j+1)) d v vc ev)/\K (E ops.length) (X ops.length)
 |D,[],e,x,K,h=>⟨fun _=>e,fun _=>x,fun _=>[],rfl,rfl,fun j o h=>by simp at h,h⟩
 |D,o::r,e,x,K,h=>by
  have key:∃e' x' N,(∃d v vc ev,Hst (aj3 D) ks as B Φ M0 o e e' N x x' d v vc ev)/\hx (ajx D) ks as B Φ M0 r e' x' K:=by
   simp only[hx]at h;split at h
   ·rename_i d hg hd
    cases hk:aj9 (ap x M0) o.op e with
    |false=>rw[hk]at h;exact h.elim
    |true=>
     rw[hk]at h;simp only[a0c]at h;generalize hq:evR B Φ o e (ap x M0)=q at h;obtain⟨vc,v,ev,N'⟩:=q;simp only at h;generalize hN:fk (len ev) N'=N at h
     cases hb:bg [klB ev N,ahk (cc N) M0,ahk (cc N) x,vl v,orb (neg (aj3 D)) (orb (neg (uy o.op)) (orb (bxK B as o.op e) (nob (u7 ks e (cd o.op)) (ksV ks v))))]with
     |false=>rw[hb]at h;exact h.elim
     |true=>rw[hb]at h;simp only[a0c,sm]at h;simp only[au,bh,a0k,a0a]at hb;exact⟨_,_,N,⟨d,v,vc,ev,⟨hg,hd,hk,⟨N',hq,hN.symm⟩,h.1,hb.1,hb.2.1,hb.2.2.1,hb.2.2.2.1,fun hD hk=>by have h5:=hb.2.2.2.2;rw[hD,hk]at h5;simpa using h5,rfl,rfl⟩⟩,h.2⟩
   ·exact h.elim
  obtain⟨e',x',N,h1,h2⟩:=key;obtain⟨E,X,Ns,i1,i2,i3,i4⟩:=bc6 (ajx D) r e' x' K h2;refine⟨fun j=>match j with|0=>e|j+1=>E j,fun j=>match j with|0=>x|j+1=>X j,fun j=>match j with|0=>N|j+1=>Ns j,rfl,rfl,fun j o' hj=>?_,by simpa using i4⟩
  cases j with
  |zero=>
   simp only[a1s,a0d]at hj;subst hj;simp only;rw[i1,i2];have e:D.getD 0 false=aj3 D:=by cases D <;> rfl
   rw[e];exact h1
  |succ j=>
   simp only[a2h]at hj;have e:D.getD (j+1) false=(ajx D).getD j false:=by cases D <;> simp[ajx]
   rw[e];exact i3 j o' hj
theorem bch{α:Type}{x:Option α}(h:isN x=true):x=none:=by cases x <;> first|rfl|cases h
theorem bl7{o:Op}(h:uy o=true):∀x∈o.operands,x∈cd o:=by
 unfold uy at h
 cases o with
 |slice t x lo hi mx=>
  cases mx with
  |some _=>simp[zb,ae6,abu]at h
  |none=>cases lo <;> cases hi <;> simp[Op.operands,cd,cd.optL,ic]
 |call c=>
  obtain⟨callee,args,tys⟩:=c
  cases callee with
  |builtin b=>simp[Op.operands,Call.operands,cd,cd.calO,dh,ic]
  |_=>simp[zb,ae6,abu]at h
 |_=>
  simp[zb,ae6,abu]at h <;> simp[Op.operands,cd]
  try (intro x q hq;exact aey (q:=(q,x)) (by simpa using hq))
theorem bjw{B:Tab}{t:TypeId}{ps:List (Nat×Operand)}{f:Operand->V}{M:Mem}:(yf B t ps f M).ev=[]/\(yf B t ps f M).M=M:=by
 unfold yf
 cases bg [(B.τ t).ok,aq9 B (B.τ t),B.z t]with
 |false=>exact⟨rfl,rfl⟩
 |true=>simp only[a0c];split <;> exact⟨rfl,rfl⟩
theorem btd{r:Nat}{M:Mem}{e:List Ev}(h:klB (.kl r::e) (fk (len (Ev.kl r::e)) (del r M))=true):False:=by
 have hg:=cy r M
 cases hd:del r M with
 |nil=>rw[hd]at h;simp[len,fk,klB]at h
 |cons q N=>obtain⟨j,ob⟩:=q;rw[hd]at h hg;simp only[len,fk,klB,am,a0a]at h;have:=a0v h.1;subst this;simp[c8]at hg
theorem bjs{B:Tab}{t:TypeId}{d:Option Nat}{ρ:Operand->V}{x:Operand}{lo hi:Option Operand}{M:Mem}{vc:List Prop}{v:V}{e:List Ev}{N:Mem}(h:xq B t d ρ x lo hi M=⟨vc,v,e,N⟩)(hk:klB e (fk (len e) N)=true):e=[]/\N=M:=by
 have bad:∀{vc:List Prop} {v:V} {e:List Ev} {N:Mem},b8 M=⟨vc,v,e,N⟩->e=[]/\N=M:=fun h=>by simp only[b8,Rs.mk.injEq]at h;exact⟨h.2.2.1.symm,h.2.2.2.symm⟩
 unfold xq at h
 cases hn:nsT (B.σ t)with
 |true=>
  rw[hn]at h;simp only[a0c,ahh]at h;split at h
  ·split at h
   ·cases hb:bg _ with
    |false=>rw[hb]at h;exact bad h
    |true=>rw[hb]at h;simp only[au,og,a0a]at hb;simp only[a0c,Rs.mk.injEq]at h;obtain⟨_,_,rfl,rfl⟩:=h;simp only[len,fk,klB,am,a0a]at hk;have:=hb.1.1;rw[kh,hk.1]at this;cases this
   ·exact bad h
  ·exact bad h
 |false=>
  rw[hn]at h;simp only[a0g,ano]at h;split at h
  ·split at h
   ·rename_i r π _ q e1 M1 hc
    (try simp only at h)
    simp only[Rs.mk.injEq]at h;obtain⟨_,_,rfl,rfl⟩:=h;exfalso;unfold aap at hc;generalize neg (og _ gid)=b at hc
    cases b with
    |true=>cases hc
    |false=>
     simp only[a0g]at hc;split at hc
     ·split at hc
      ·split at hc
       ·cases hc;exact btd hk
       ·cases hi:ahf _ with
        |true=>rw[hi]at hc;simp only[a0c,a0d,a0j]at hc;obtain⟨_,rfl,_⟩:=hc;generalize fk _ _=Z at hk;cases Z <;> simp[klB]at hk
        |false=>
         rw[hi]at hc;simp only[a0g]at hc;split at hc
         ·cases hc;generalize fk _ _=Z at hk;cases Z <;> simp[klB]at hk
         ·cases hc
      ·cases hc
     ·cases hc
   ·exact bad h
  ·simp only[cq,Rs.mk.injEq]at h;exact⟨h.2.2.1.symm,h.2.2.2.symm⟩
theorem bka{B:Tab}{c:Call}{dst:Option Nat}{ty':TypeId}{pos:String}{after:Array Edge}{guard:Option (Nat×Bool)}{env:Env}{M:Mem}(hk:abu (.call c)=true){vc:List Prop}{v:V}{e:List Ev}{N:Mem}(h:evR B Φ ⟨dst,.call c,ty',pos,after,guard⟩ env M=⟨vc,v,e,N⟩):e=[]/\N=M:=by
 simp only[abu]at hk;split at hk
 ·rename_i hcal;simp only[evR,c6,hcal]at h;split at h <;> simp only[cq,b8,Rs.mk.injEq]at h <;> exact⟨h.2.2.1.symm,h.2.2.2.symm⟩
 ·cases hk
theorem bf4{o:Oper}{env:Env}{M:Mem}{vc:List Prop}{v:V}{ev:List Ev}{N':Mem}(hk:uy o.op=true)(hr:evR B Φ o env M=⟨vc,v,ev,N'⟩)(hkl:klB ev (fk (len ev) N')=true):ev=[]:=by
 obtain⟨dst,op,ty',pos,after,guard⟩:=o;unfold uy at hk;rcases Classical.em (∃c,op=.call c)with⟨c,rfl⟩|hcc
 ·have hb:abu (.call c)=true:=by simpa[zb,ae6]using hk
  exact (bka hb hr).1
 cases op <;> simp[zb,ae6]at hk <;> try (simp[abu]at hk;done)
 case call c=>exact absurd ⟨c,rfl⟩ hcc
 case slice t x lo hi mx=>
  cases mx with
  |some _=>simp[abu]at hk
  |none=>
  simp only[evR,c6]at hr;generalize hq:xq B t dst (fun x=>(rd env x).strip) x lo hi M=q at hr;obtain⟨a1,a2,a3,a4⟩:=q;simp only[Rs.mk.injEq]at hr;obtain⟨_,_,rfl,rfl⟩:=hr;exact (bjs hq hkl).1
 case build t ps=>simp only[evR,c6]at hr;have h:=@bjw B t (toL ps) (fun x=>(rd env x).strip) M;generalize yf B t (toL ps) (fun x=>(rd env x).strip) M=q at hr h;obtain⟨a1,a2,a3,a4⟩:=q;simp only[Rs.mk.injEq]at hr;exact hr.2.2.1.symm.trans h.1
 case load t x=>
  simp only[evR,c6,tz]at hr;split at hr
  ·rename_i r hr';unfold abx at hr';split at hr'
   ·split at hr'
    ·simp only[a0d]at hr';subst hr';revert hr;cases bg _ <;> intro hr
     ·simp only[a0g,b8,Rs.mk.injEq]at hr;exact hr.2.2.1.symm
     ·simp only[a0c,Rs.mk.injEq]at hr;rw[←hr.2.2.1]at hkl;exfalso;generalize fk _ N'=Z at hkl;cases Z <;> simp[klB]at hkl
    ·cases hr'
   ·cases hr'
  ·simp only[cq,Rs.mk.injEq]at hr;exact hr.2.2.1.symm
 all_goals (simp only[evR,c6,cq,Rs.mk.injEq]at hr;exact hr.2.2.1.symm)
def AgM(ks:List Nat)(M' M:Mem):Prop:=∀k,inN k ks=true->go M' k=go M k
theorem AgM.refl(ks:List Nat)(M:Mem):AgM ks M M:=fun _ _=>rfl
theorem xw{ks:List Nat}{j k:Nat}(hk:inN k ks=true)(hj:neg (inN j ks)=true):Nat.beq k j=false:=by
 cases h:Nat.beq k j with
 |false=>rfl
 |true=>have:=a0v h;subst this;rw[hk]at hj;cases hj
theorem bqm{ks:List Nat}{k:Nat}{π:bq}(hk:inN k ks=true)(e:Ev)(he:ip ks e=true):(V.ref k π).ev e=.ref k π:=by
 cases e with
 |mv r k'=>simp only[ip,am,a0a]at he;simp only[V.ev,Ev.ref,xw hk he.1,a0g]
 |kl r=>simp only[ip]at he;simp only[V.ev,Ev.ref,xw hk he,a0g]
 |cut r o o'=>simp only[ip]at he;simp only[V.ev,Ev.ref,xw hk he,a0g]
 |fz r ob=>simp only[ip]at he;simp only[V.ev,Ev.ref,xw hk he,a0g]
 |un r j=>simp only[ip,am,a0a]at he;simp only[V.ev,Ev.ref,xw hk he.1,a0g]
 |tk r o o'=>simp only[ip]at he;simp only[V.ev,Ev.ref,xw hk he,a0g]
theorem bs3{ks:List Nat}{k:Nat}{π:bq}(hk:inN k ks=true)(e:Ev)(he:ip ks e=true):(V.ad k π).ev e=.ad k π:=by
 cases e with
 |mv r k'=>simp only[ip,am,a0a]at he;simp only[V.ev,Ev.ad,xw hk he.1,a0g]
 |kl r=>simp only[ip]at he;simp only[V.ev,Ev.ad,xw hk he,a0g]
 |cut r o o'=>simp only[ip]at he;simp only[V.ev,Ev.ad,xw hk he,a0g]
 |fz r ob=>simp only[ip]at he;simp only[V.ev,Ev.ad,xw hk he,a0g]
 |un r j=>simp only[ip,am,a0a]at he;simp only[V.ev,Ev.ad,xw hk he.1,a0g]
 |tk r o o'=>simp only[ip]at he;simp only[V.ev,Ev.ad,xw hk he,a0g]
theorem aqs:∀e:List Ev,cz [] e=true
 |[]=>rfl
 |x::e=>by cases x <;> simp[cz,ip,inN,neg,aqs e]
theorem pn{ks:List Nat}:∀{a b:List Ev},cz ks (ap a b)=true->cz ks a=true/\cz ks b=true
 |[],b,h=>⟨rfl,h⟩
 |x::a,b,h=>by simp only[ap,cz,am,a0a]at h⊢;obtain⟨h1,h2⟩:=pn h.2;exact⟨⟨h.1,h1⟩,h2⟩
theorem AgM.trans{ks:List Nat}{a b c:Mem}(h:AgM ks a b)(g:AgM ks b c):AgM ks a c:=fun k hk=>(h k hk).trans (g k hk)
theorem sy{ks:List Nat}{k:Nat}{M:Mem}(h:neg (inN k ks)=true):AgM ks (del k M) M:=fun j hj=>dm (fun e=>by subst e;rw[hj]at h;cases h) M
theorem zf{ks:List Nat}{k:Nat}{ob:Ob}{M:Mem}(h:neg (inN k ks)=true):AgM ks (put k ob M) M:=fun j hj=>ng ob (fun e=>by subst e;rw[hj]at h;cases h) M
theorem q9{ks:List Nat}:∀(v:V) (M:Mem),cz ks (ca M v).1=true->AgM ks (ca M v).2 M
 |.ref k π,M,h=>by
  simp only[ca]at h⊢;split
  ·rename_i ob hg;rw[hg]at h;simp only[cz,ip,am,a0a]at h;exact sy h.1
  ·exact AgM.refl _ _
 |.ad k π,M,h=>by
  simp only[ca]at h⊢;split
  ·rename_i ob hg;rw[hg]at h;simp only[cz,ip,am,a0a]at h;exact sy h.1
  ·exact AgM.refl _ _
 |.p a b,M,h=>by simp only[ca]at h⊢;obtain⟨h1,h2⟩:=pn h;exact (q9 b _ h2).trans (q9 a M h1)
 |.ag v,M,h=>by simp only[ca]at h⊢;exact q9 v M h
 |.fn _ v,M,h=>by simp only[ca]at h⊢;exact q9 v M h
 |.ifc _ v,M,h=>by simp only[ca]at h⊢;exact q9 v M h
 |.bx v,M,h=>by simp only[ca]at h⊢;exact q9 v M h
 |.tup v,M,h=>by simp only[ca]at h⊢;exact q9 v M h
 |.gd _ _ _ v,M,h=>by simp only[ca]at h⊢;exact q9 v M h
 |.any,M,_=>AgM.refl _ _
 |.nl,M,_=>AgM.refl _ _
 |.np,M,_=>AgM.refl _ _
 |.u,M,_=>AgM.refl _ _
 |.d _ _,M,_=>AgM.refl _ _
theorem aha{ks:List Nat}:∀(vs:List V) (M:Mem),cz ks (mw M vs).1=true->AgM ks (mw M vs).2 M
 |[],M,_=>AgM.refl _ _
 |v::r,M,h=>by simp only[mw]at h⊢;obtain⟨h1,h2⟩:=pn h;exact (aha r _ h2).trans (q9 v M h1)
theorem be1{ks:List Nat}:∀{l:List Nat},cz ks (klL l)=true->∀k∈l,neg (inN k ks)=true
 |[],_,k,h=>by cases h
 |a::l,h,k,hk=>by
  simp only[klL,cz,ip,am,a0a]at h;rcases a0s.1 hk with e|e
  ·subst e;exact h.1
  ·exact be1 h.2 k e
theorem bco{ks:List Nat}{N M:Mem}(h:cz ks (klL (cc N))=true):AgM ks (ap N (qr (cc N) M)) M:=fun k hk=>by
 have hn:k∉cc N:=fun hm=>by have:=be1 h k hm;rw[hk]at this;cases this
 have hg:go N k=none:=a3u fun e=>hn (wv.2 e);rw[acw,hg,aq7 hn]
theorem bhj{ks:List Nat}:∀(o:O) (v:V) (x:o.strip.den) (M:Mem) (e:List Ev) (M':Mem),xk o v x M=some (e,M')->cz ks e=true->AgM ks M' M:=by
 have rf:∀(k:Nat) (π:bq) (o:O) (x:o.strip.den) (M:Mem) (e:List Ev) (M':Mem),arb k π o x M=some (e,M')->cz ks e=true->AgM ks M' M:=fun k π o x M e M' h he=>by
  unfold arb at h;split at h
  ·split at h
   ·simp only[a0d,a0j]at h;obtain⟨rfl,rfl⟩:=h;simp only[cz,ip,am,a0a]at he;exact zf he.1
   ·cases h
  ·cases h
 intro o
 induction o with
 |fz t=>intro v x M e M' h _;simp only[xk,a0d,a0j]at h;obtain⟨rfl,rfl⟩:=h;exact AgM.refl _ _
 |p a b iha ihb=>
  intro v x M e M' h he
  cases v with
  |p v1 v2=>
   simp only[xk]at h;split at h
   ·rename_i e1 M1 h1;split at h
    ·rename_i e2 M2 h2;simp only[a0d,a0j]at h;obtain⟨rfl,rfl⟩:=h;obtain⟨g1,g2⟩:=pn he;exact (ihb _ _ _ _ _ h2 g2).trans (iha _ _ _ _ _ h1 g1)
    ·cases h
   ·cases h
  |ref k π=>simp only[xk]at h;exact rf _ _ _ _ _ _ _ h he
  |_=>simp[xk]at h
 |sl e0 ih=>
  intro v x M e M' h he
  cases v with
  |ref k π=>simp only[xk]at h;exact rf _ _ _ _ _ _ _ h he
  |_=>simp[xk]at h
 |pt _ _=>intro v x M e M' h _;cases v <;> simp[xk]at h
 |mp _ _=>intro v x M e M' h _;cases v <;> simp[xk]at h
 |op _ _=>intro v x M e M' h _;cases v <;> simp[xk]at h
theorem apj{ks:List Nat}{k:Nat}{W:Wt}{d:Nat}{r:List V}{M:Mem}{vc:List Prop}{v:V}{e:List Ev}{M1:Mem}(h:w5 k W d r M=⟨vc,v,e,M1⟩)(hv:ab vc)(he:cz ks e=true):AgM ks M1 M:=by
 unfold w5 at h
 cases hb:shp r W.ag with
 |false=>rw[hb]at h;exact (be h hv).elim
 |true=>
  rw[hb]at h;simp only[a0c]at h;split at h
  ·split at h
   ·(try simp only at h)
    cases hi:inN _ _ with
    |true=>rw[hi]at h;exact (be h hv).elim
    |false=>rw[hi]at h;simp only[a0g,Rs.mk.injEq]at h;obtain⟨_,_,rfl,rfl⟩:=h;obtain⟨h1,h2⟩:=pn he;simp only[cz,am,a0a]at h2;exact (bco h2.2).trans ((zf (by simpa only [ip]using h2.1)).trans (aha _ _ h1))
   ·exact (be h hv).elim
  ·exact (be h hv).elim
theorem ben{ks:List Nat}{W:Wt}{d:Nat}{r:List V}{M:Mem}{vc:List Prop}{v:V}{e:List Ev}{M1:Mem}(h:acg W d r M=⟨vc,v,e,M1⟩)(hv:ab vc)(he:cz ks e=true):AgM ks M1 M:=by
 unfold acg at h;split at h
 ·split at h
  ·cases hb:al9 W.o with
   |false=>rw[hb]at h;exact (be h hv).elim
   |true=>rw[hb]at h;exact apj h hv he
  ·split at h
   ·cases hb:slO W.o with
    |false=>rw[hb]at h;exact (be h hv).elim
    |true=>rw[hb]at h;exact apj h hv he
   ·exact (be h hv).elim
 ·exact (be h hv).elim
theorem bj7{ks:List Nat}{W:Wc}{r:List V}{M:Mem}{vc:List Prop}{v:V}{e:List Ev}{M1:Mem}(h:ajq W r M=⟨vc,v,e,M1⟩)(hv:ab vc)(he:cz ks e=true):AgM ks M1 M:=by
 unfold ajq at h;split at h
 ·cases hb:nob _ _ with
  |false=>rw[hb]at h;exact (be h hv).elim
  |true=>
   rw[hb]at h;simp only[a0c]at h;split at h
   ·split at h
    ·simp only[Rs.mk.injEq]at h;obtain⟨_,_,rfl,rfl⟩:=h;simp only[cz,am,a0a]at he;exact zf (by simpa only [ip]using he.1)
    ·exact (be h hv).elim
   ·exact (be h hv).elim
 ·exact (be h hv).elim
theorem bc7{ks:List Nat}{ct:Ct}{d:Nat}{vs:List V}{M:Mem}{vc:List Prop}{v:V}{e:List Ev}{M1:Mem}(h:zc ct d vs M=⟨vc,v,e,M1⟩)(hv:ab vc)(he:cz ks e=true):AgM ks M1 M:=by
 unfold zc at h;split at h
 ·exact bj7 h hv he
 ·unfold akz at h;split at h
  ·cases hb:bg _ with
   |false=>rw[hb]at h;exact (be h hv).elim
   |true=>
    rw[hb]at h;simp only[a0c]at h;split at h
    ·split at h
     ·rename_i hu;simp only[Rs.mk.injEq]at h;obtain⟨_,_,rfl,rfl⟩:=h;exact bhj _ _ _ _ _ _ hu he
     ·exact (be h hv).elim
    ·exact (be h hv).elim
  ·exact (be h hv).elim
 ·exact ben h hv he
 ·exact (be h hv).elim
 ·unfold ahr at h;split at h
  ·split at h
   ·cases hb:bg _ with
    |false=>rw[hb]at h;exact (be h hv).elim
    |true=>
     rw[hb]at h;simp only[a0c]at h;split at h
     ·split at h
      ·simp only[Rs.mk.injEq]at h;obtain⟨_,_,rfl,rfl⟩:=h;obtain⟨h1,h2⟩:=pn he;simp only[cz,am,a0a]at h2;exact (zf (by simpa only [ip]using h2.1)).trans (aha _ _ h1)
      ·exact (be h hv).elim
     ·exact (be h hv).elim
   ·exact (be h hv).elim
  ·exact (be h hv).elim
 ·cases hb:shp _ _ with
  |false=>rw[hb]at h;exact (be h hv).elim
  |true=>
   rw[hb]at h;simp only[a0c]at h;split at h
   ·split at h
    ·simp only[Rs.mk.injEq]at h;obtain⟨_,_,rfl,rfl⟩:=h;exact bco he
    ·exact (be h hv).elim
   ·split at h
    ·simp only[Rs.mk.injEq]at h;obtain⟨_,_,rfl,rfl⟩:=h;obtain⟨h1,h2⟩:=pn he;exact (bco h2).trans (aha _ _ h1)
    ·exact (be h hv).elim
theorem av2{ks:List Nat}{d:Nat}{ob:Ob}{M1 M:Mem}(h:neg (inN d ks)=true)(g:AgM ks M1 M):AgM ks ((d,ob)::del d M1) M:=fun k hk=>by
 have hne:k≠d:=fun e=>by subst e;rw[hk]at h;cases h
 have hb:Nat.beq d k=false:=by cases q:Nat.beq d k with
  |false=>rfl
  |true=>exact absurd (a0v q).symm hne
 simp only[go,hb,a0g];rw[dm hne];exact g k hk
theorem aj1{ks:List Nat}{M M':Mem}{x:V}{ev:List Ev}{t:T}{m:List t.den}(h:ahe M x=some (.dat ev M' t m))(he:cz ks ev=true):AgM ks M' M:=by
 unfold ahe at h;split at h
 ·cases h
 ·cases h;exact AgM.refl _ _
 ·split at h
  ·cases h
  ·split at h
   ·cases h;simp only[cz,am,a0a,ip]at he;exact sy he.1
   ·cases h;simp only[cz,am,a0a,ip]at he;exact sy he.1
   ·cases h
  ·cases h
 ·cases h
theorem aoa{ks:List Nat}{b k j:Nat}{e e':O}{l:List e.strip.den}{m:List e'.strip.den}{ev:List Ev}{M1 M0 M:Mem}{vc:List Prop}{v:V}{e2:List Ev}{M2:Mem}(h:afm b k e l j e' m ev M1 M0=⟨vc,v,e2,M2⟩)(hv:ab vc)(he:cz ks e2=true)(g:cz ks ev=true->AgM ks M1 M):AgM ks M2 M:=by
 unfold afm at h;split at h
 ·simp only[Rs.mk.injEq]at h;obtain⟨_,_,rfl,rfl⟩:=h;obtain⟨h1,h2⟩:=pn he;simp only[cz,am,a0a,ip]at h2;exact av2 h2.2.1 ((sy h2.1).trans (g h1))
 ·split at h
  ·simp only[Rs.mk.injEq]at h;obtain⟨_,_,rfl,rfl⟩:=h;obtain⟨h1,h2⟩:=pn he;simp only[cz,am,a0a,ip]at h2;exact av2 h2.2.1 ((sy h2.1).trans (g h1))
  ·exact (be h hv).elim
theorem apc{ks:List Nat}{b k:Nat}{e:O}{l:List e.strip.den}{t:T}{m:List t.den}{ev:List Ev}{M1 M0 M:Mem}{vc:List Prop}{v:V}{e2:List Ev}{M2:Mem}(h:af4 b k e l t m ev M1 M0=⟨vc,v,e2,M2⟩)(hv:ab vc)(he:cz ks e2=true)(g:cz ks ev=true->AgM ks M1 M):AgM ks M2 M:=by
 unfold af4 at h;split at h
 ·simp only[Rs.mk.injEq]at h;obtain⟨_,_,rfl,rfl⟩:=h;obtain⟨h1,h2⟩:=pn he;simp only[cz,am,a0a,ip]at h2;exact av2 h2.1 (g h1)
 ·exact (be h hv).elim
theorem bjq{ks:List Nat}{B:Tab}{dst:Option Nat}{t:TypeId}{s x:V}{M:Mem}{vc:List Prop}{v:V}{e:List Ev}{M1:Mem}(h:ae7 B dst t s x M=⟨vc,v,e,M1⟩)(hv:ab vc)(he:cz ks e=true):AgM ks M1 M:=by
 unfold ae7 at h;split at h
 ·rename_i el d src _ hsrc
  cases hb:bg [(B.τ t).ok,(B.τ el).ok,neg (Nat.beq (B.τ el).bytes 0),B.z el,dz (B.σ el).size (B.τ el).size]with
  |false=>rw[hb]at h;exact (be h hv).elim
  |true=>
   rw[hb]at h;simp only[a0c]at h;split at h
   ·split at h
    ·cases h;exact AgM.refl _ _
    ·rename_i j e' m
     cases hc:bg [og j d,dz e'.strip.size (B.τ el).size]with
     |false=>rw[hc]at h;exact (be h hv).elim
     |true=>rw[hc]at h;simp only[a0c,Rs.mk.injEq]at h;obtain⟨_,_,rfl,rfl⟩:=h;simp only[cz,am,a0a,ip]at he;exact av2 he.2.1 (sy he.1)
    ·rename_i ev M' t' m
     cases hc:dz t'.size (B.τ el).size with
     |false=>rw[hc]at h;exact (be h hv).elim
     |true=>rw[hc]at h;simp only[a0c,Rs.mk.injEq]at h;obtain⟨_,_,rfl,rfl⟩:=h;obtain⟨h1,h2⟩:=pn he;simp only[cz,am,a0a,ip]at h2;exact av2 h2.1 (aj1 hsrc h1)
   ·rename_i k π;split at h
    ·rename_i o l _
     cases hc:bg [dz o.strip.size (B.τ el).size,Nat.ble (Nat.succ k) gid]with
     |false=>rw[hc]at h;exact (be h hv).elim
     |true=>
      rw[hc]at h;simp only[a0c]at h;split at h
      ·cases h;exact AgM.refl _ _
      ·rename_i j e' m
       cases hd:neg (og j k)with
       |true=>rw[hd]at h;exact (be h hv).elim
       |false=>rw[hd]at h;refine aoa h hv he fun h1=>?_;simp only[cz,am,a0a,ip]at h1;exact sy h1.1
      ·split at h
       ·refine apc h hv he fun h1=>?_;obtain⟨h2,h3⟩:=pn h1;simp only[cz,am,a0a,ip]at h3;exact (sy h3.1).trans (aj1 hsrc h2)
       ·exact (be h hv).elim
    ·rename_i ob _ _;split at h
     ·rename_i o l ob' _ _
      cases hc:bg [dz o.strip.size (B.τ el).size,neg (Nat.beq d k),Nat.ble (Nat.succ k) gid]with
      |false=>rw[hc]at h;exact (be h hv).elim
      |true=>
       rw[hc]at h;simp only[a0c]at h;split at h
       ·cases h;exact AgM.refl _ _
       ·rename_i j e' m
        cases hd:bg [og j k,og j d]with
        |false=>rw[hd]at h;exact (be h hv).elim
        |true=>rw[hd]at h;refine aoa h hv he fun h1=>?_;simp only[cz,am,a0a,ip]at h1;exact zf h1.1
       ·split at h
        ·refine apc h hv he fun h1=>?_;obtain⟨h2,h3⟩:=pn h1;simp only[cz,am,a0a,ip]at h3;exact (zf h3.1).trans (aj1 hsrc h2)
        ·exact (be h hv).elim
     ·split at h
      ·rename_i o l _ _ _ ob' _
       cases hc:bg [dz o.strip.size (B.τ el).size,neg (Nat.beq d k),Nat.ble (Nat.succ k) gid]with
       |false=>rw[hc]at h;exact (be h hv).elim
       |true=>
        rw[hc]at h;simp only[a0c]at h;split at h
        ·exact (be h hv).elim
        ·rename_i j e' m
         cases hd:bg [og j k,og j d]with
         |false=>rw[hd]at h;exact (be h hv).elim
         |true=>rw[hd]at h;refine aoa h hv he fun h1=>?_;simp only[cz,am,a0a,ip]at h1;exact zf h1.1
        ·split at h
         ·refine apc h hv he fun h1=>?_;obtain⟨h2,h3⟩:=pn h1;simp only[cz,am,a0a,ip]at h3;exact (zf h3.1).trans (aj1 hsrc h2)
         ·exact (be h hv).elim
      ·exact (be h hv).elim
     ·exact (be h hv).elim
    ·exact (be h hv).elim
   ·exact (be h hv).elim
 ·exact (be h hv).elim
theorem az2{ks:List Nat}{k r:Nat}{ρ:bq}{M:Mem}{q:Ob}{e:List Ev}{M':Mem}(h:aap k r ρ M=some (q,e,M'))(he:cz ks e=true):AgM ks M' M:=by
 unfold aap at h
 cases hb:neg (og r k)with
 |true=>rw[hb]at h;cases h
 |false=>
  rw[hb]at h;simp only[a0g]at h;split at h
  ·split at h
   ·split at h
    ·cases h;simp only[cz,am,a0a,ip]at he;exact sy he.1
    ·cases hi:ahf ρ with
     |true=>rw[hi]at h;simp only[a0c,a0d,a0j]at h;obtain⟨_,rfl,rfl⟩:=h;simp only[cz,am,a0a,ip]at he;exact sy he.1
     |false=>
      rw[hi]at h;simp only[a0g]at h;split at h
      ·simp only[a0d,a0j]at h;obtain⟨_,rfl,rfl⟩:=h;simp only[cz,am,a0a,ip]at he;exact zf he.1
      ·cases h
   ·cases h
  ·cases h
theorem bda{ks:List Nat}{k r:Nat}{ρ:bq}{M:Mem}{q:Ob}{e:List Ev}{M':Mem}(h:aox k r ρ M=some (q,e,M'))(he:cz ks e=true):AgM ks M' M:=by
 unfold aox at h
 cases hb:neg (og r k)with
 |true=>rw[hb]at h;cases h
 |false=>
  rw[hb]at h;simp only[a0g]at h;split at h
  ·cases h;simp only[cz,am,a0a,ip]at he;exact sy he.1
  ·split at h
   ·cases h;simp only[cz,am,a0a,ip]at he;exact sy he.1
   ·cases h
  ·cases h
theorem pp{ks:List Nat}{k:Nat}{t:T}{v:V}{M:Mem}{q:Ob}{e:List Ev}{M':Mem}(ht:∀a b,t=.p a b->∀x y,v≠.p x y)(h:conv k t v M=some (q,e,M'))(he:cz ks e=true):AgM ks M' M:=by
 cases v with
 |p a b=>cases t with
  |p t s=>exact absurd rfl (ht _ _ rfl _ _)
  |_=>simp[conv]at h
 |u=>cases t <;> simp only[conv]at h <;> cases h <;> exact AgM.refl _ _
 |d _ _=>cases t <;> simp only[conv]at h <;> cases h <;> exact AgM.refl _ _
 |nl=>cases t <;> simp only[conv]at h <;> cases h <;> exact AgM.refl _ _
 |np=>cases t <;> simp only[conv]at h <;> cases h <;> exact AgM.refl _ _
 |fn f v=>cases v <;> cases t <;> simp only[conv]at h <;> cases h <;> exact AgM.refl _ _
 |ref r ρ=>cases t <;> simp only[conv]at h <;> exact az2 h he
 |ad r ρ=>cases t <;> simp only[conv]at h <;> exact bda h he
 |_=>cases t <;> simp only[conv]at h <;> cases h
theorem ag8{ks:List Nat}{k:Nat}:(t:T)->(v:V)->(M:Mem)->(q:Ob)->(e:List Ev)->(M':Mem)->conv k t v M=some (q,e,M')->cz ks e=true->AgM ks M' M
 |.p t s,v,M,q,e,M',h,he=>by
  by_cases hv:∃x y,v=.p x y
  ·obtain⟨x,y,rfl⟩:=hv;simp only[conv]at h;split at h
   ·rename_i q1 e1 M1 h1;split at h
    ·rename_i q2 e2 M2 h2;cases h;obtain⟨g1,g2⟩:=pn he;exact (ag8 s _ _ _ _ _ h2 g2).trans (ag8 t _ _ _ _ _ h1 g1)
    ·cases h
   ·cases h
  ·exact pp (fun _ _ _ x y e=>hv ⟨x,y,e⟩) h he
 |.int _,_,_,_,_,_,h,he=>pp (fun _ _ e=>by cases e) h he
 |.bool,_,_,_,_,_,h,he=>pp (fun _ _ e=>by cases e) h he
 |.str,_,_,_,_,_,h,he=>pp (fun _ _ e=>by cases e) h he
 |.u,_,_,_,_,_,h,he=>pp (fun _ _ e=>by cases e) h he
 |.sl _,_,_,_,_,_,h,he=>pp (fun _ _ e=>by cases e) h he
 |.pt _,_,_,_,_,_,h,he=>pp (fun _ _ e=>by cases e) h he
 |.fn _ _,_,_,_,_,_,h,he=>pp (fun _ _ e=>by cases e) h he
 |.ifc _ _,_,_,_,_,_,h,he=>pp (fun _ _ e=>by cases e) h he
 |.mp _ _,_,_,_,_,_,h,he=>pp (fun _ _ e=>by cases e) h he
 |.op _,_,_,_,_,_,h,he=>pp (fun _ _ e=>by cases e) h he
 |.ns _,_,_,_,_,_,h,he=>pp (fun _ _ e=>by cases e) h he
 |.er _,_,_,_,_,_,h,he=>pp (fun _ _ e=>by cases e) h he
 |.any,_,_,_,_,_,h,he=>pp (fun _ _ e=>by cases e) h he
termination_by t=>SizeOf.sizeOf t
theorem aoc{ks:List Nat}{k:Nat}{o:O}{v:V}{M:Mem}{x:o.strip.den}{e:List Ev}{M':Mem}(h:adp k o v M=some (x,e,M'))(he:cz ks e=true):AgM ks M' M:=by
 unfold adp at h;split at h
 ·generalize hz:ca M v=z at h;obtain⟨e1,M1⟩:=z;simp only at h;split at h
  ·cases h;have:=q9 (ks:=ks) v M (by rw[hz];exact he);rw[hz]at this;exact this
  ·cases h
 ·split at h
  ·rename_i q e1 M1 h1;split at h
   ·cases h;exact ag8 _ _ _ _ _ _ h1 he
   ·cases h
  ·cases h
theorem ar4{ks:List Nat}{k:Nat}{o:O}{v:V}{M:Mem}{x:o.strip.den}{e:List Ev}{M':Mem}(h:ahl k o v M=some (x,e,M'))(he:cz ks e=true):AgM ks M' M:=by
 unfold ahl at h;split at h
 ·split at h
  ·rename_i h1;cases h;exact aoc h1 he
  ·cases h
 ·exact aoc h he
theorem agn{ks:List Nat}{k:Nat}{o:O}:∀(vs:List V) (ev:List Ev) (M:Mem) (l:List o.strip.den) (e:List Ev) (M':Mem),o6 k o ev vs M=some (l,e,M')->cz ks e=true->AgM ks M' M/\cz ks ev=true
 |[],ev,M,l,e,M',h,he=>by simp only[o6]at h;cases h;exact⟨AgM.refl _ _,he⟩
 |v::r,ev,M,l,e,M',h,he=>by
  simp only[o6]at h;split at h
  ·rename_i x e1 M1 h1;split at h
   ·rename_i l2 e2 M2 h2;cases h;obtain⟨g1,g2⟩:=agn r _ _ _ _ _ h2 he;obtain⟨g3,g4⟩:=pn g2;exact⟨g1.trans (ar4 h1 g4),g3⟩
   ·cases h
  ·cases h
theorem ayr{ks:List Nat}{d:Nat}{ob:Ob}{M1 M:Mem}(h:neg (inN d ks)=true)(g:AgM ks M1 M):AgM ks ((d,ob)::M1) M:=fun k hk=>by
 have hne:k≠d:=fun e=>by subst e;rw[hk]at h;cases h
 have hb:Nat.beq d k=false:=by cases q:Nat.beq d k with
  |false=>rfl
  |true=>exact absurd (a0v q).symm hne
 simp only[go,hb,a0g];exact g k hk
theorem blg{ks:List Nat}{B:Tab}{t:TypeId}{n:Nat}{ps:List (Nat×Operand)}{f:Operand->V}{d:Option Nat}{M:Mem}{vc:List Prop}{v:V}{e:List Ev}{M1:Mem}(h:abr B t n ps f d M=⟨vc,v,e,M1⟩)(hv:ab vc)(he:cz ks e=true):AgM ks M1 M:=by
 unfold abr at h;split at h
 ·rename_i k el _;split at h
  ·cases hb:bg [(B.τ t).ok,(B.τ el).ok,B.z el,Nat.ble (Nat.mul n (B.τ el).size) 16777216,Nat.ble n nb,dz (B.σ el).size (B.τ el).size]with
   |false=>rw[hb]at h;exact (be h hv).elim
   |true=>
    rw[hb]at h;simp only[a0c]at h;split at h
    ·cases h;exact AgM.refl _ _
    ·split at h
     ·split at h
      ·rename_i hc;cases h;simp only[cz,am,a0a,ip]at he;exact ayr he.1 ((agn _ _ _ _ _ _ hc he.2).1.trans (sy he.1))
      ·split at h
       ·rename_i hc;cases h;simp only[cz,am,a0a,ip]at he;exact ayr he.1 ((agn _ _ _ _ _ _ hc he.2).1.trans (sy he.1))
       ·exact (be h hv).elim
     ·exact (be h hv).elim
  ·exact (be h hv).elim
 ·exact (be h hv).elim
theorem bof{ks:List Nat}{B:Tab}{t:TypeId}{x y:V}{M:Mem}{vc:List Prop}{v:V}{e:List Ev}{M1:Mem}(h:aee B t x y M=⟨vc,v,e,M1⟩)(hv:ab vc)(he:cz ks e=true):AgM ks M1 M:=by
 unfold aee at h;split at h
 ·rename_i k π;split at h
  ·rename_i ob q _ _
   cases hb:bg [(B.τ t).ok,jx M y.cells (B.τ t).size,dz q.o.strip.size (B.τ t).size,neg (isZ (B.τ t).size)]with
   |false=>rw[hb]at h;exact (be h hv).elim
   |true=>
    rw[hb]at h;simp only[a0c]at h;split at h
    ·rename_i z e1 M' hc
     have fr:cz ks e1=true->AgM ks M' M:=fun g=>by
      cases hi:ahf π with
      |true=>
       rw[hi]at hc;simp only[a0c]at hc;split at hc
       ·rename_i hw;cases hc;exact ar4 hw g
       ·cases hc
      |false=>rw[hi]at hc;simp only[a0g]at hc;exact ag8 _ _ _ _ _ _ hc g
     split at h
     ·cases hs:dz z.o.strip.size (B.τ t).size with
      |false=>rw[hs]at h;exact (be h hv).elim
      |true=>
       rw[hs]at h;simp only[a0c]at h;split at h
       ·cases h;obtain⟨g1,g2⟩:=pn he;simp only[cz,ip,am,a0a]at g2;exact (zf g2.1).trans (fr g1)
       ·cases h;obtain⟨g1,g2⟩:=pn he;simp only[cz,ip,am,a0a]at g2;exact (zf g2.1).trans (fr g1)
     ·exact (be h hv).elim
    ·exact (be h hv).elim
  ·exact (be h hv).elim
 ·exact (be h hv).elim
theorem bss{x y:V}{M:Mem}{r:Rs}:(abe x y M r).vc=r.vc:=by
 unfold abe;split
 ·split
  ·rename_i a b _ _ _ _ _ _ _;generalize nob (Nat.blt _ gid) _=bb;cases bb <;> rfl
  ·rfl
 ·rfl
theorem blh{ks:List Nat}{x y:V}{M:Mem}{r:Rs}(g:cz ks r.ev=true->AgM ks r.M M):cz ks (abe x y M r).ev=true->AgM ks (abe x y M r).M M:=by
 unfold abe;split
 ·split
  ·generalize nob (Nat.blt _ gid) _=bb
   cases bb with
   |true=>simp only[a0c];intro he;obtain⟨g1,g2⟩:=pn he;simp only[cz,ip,am,a0a]at g2;exact ayr g2.1.2 ((sy g2.1.1).trans (g g1))
   |false=>simp only[a0g];exact g
  ·exact g
 ·exact g
theorem bj2{ks:List Nat}{o:Oper}{env:Env}{M M1:Mem}{vc:List Prop}{v:V}{e:List Ev}(hc:bcy o=true)(h:evR B Φ o env M=⟨vc,v,e,M1⟩)(hv:ab vc)(he:cz ks e=true):AgM ks M1 M:=by
 unfold bcy at hc;split at hc
 ·rename_i t x y hop;unfold evR at h;rw[hop]at h;simp only[Rs.mk.injEq]at h;obtain⟨rfl,rfl,rfl,rfl⟩:=h;have hv2:=dq hv;simp only[c6,hop]at hv2 he⊢;rw[bss]at hv2;exact blh (fun g=>bof rfl hv2 g) he
 ·cases hc
theorem bjg{ks:List Nat}{o:Oper}{env:Env}{M M1:Mem}{vc:List Prop}{v:V}{e:List Ev}(hc:au3 o=true)(h:evR B Φ o env M=⟨vc,v,e,M1⟩)(hv:ab vc)(he:cz ks e=true):AgM ks M1 M:=by
 unfold au3 at hc;split at hc
 ·rename_i c hop;split at hc
  ·rename_i cx hcal
   have key:∀q:Rs,c6 B Φ o (fun x=>(rd env x).strip) M=q->ab q.vc->cz ks q.ev=true->AgM ks q.M M:=fun q hq hv he=>by
    obtain⟨vc,v,e,M1⟩:=q;simp only[c6,hop,hcal]at hq;split at hq
    ·split at hq
     ·exact bc7 hq hv he
     ·exact (be hq hv).elim
    ·exact (be hq hv).elim
   unfold evR at h;rw[hop]at h;simp only[Rs.mk.injEq]at h;obtain⟨rfl,rfl,rfl,rfl⟩:=h;exact key _ rfl (dq hv) he
  ·rename_i hcal
   have key:∀q:Rs,c6 B Φ o (fun x=>(rd env x).strip) M=q->ab q.vc->cz ks q.ev=true->AgM ks q.M M:=fun q hq hv he=>by
    obtain⟨vc,v,e,M1⟩:=q;simp only[c6,hop,hcal]at hq;split at hq
    ·rename_i t t' _ _
     cases hb:Nat.beq t t' with
     |false=>rw[hb]at hq;exact (be hq hv).elim
     |true=>rw[hb]at hq;exact bjq hq hv he
    ·exact (be hq hv).elim
   unfold evR at h;rw[hop]at h;simp only[Rs.mk.injEq]at h;obtain⟨rfl,rfl,rfl,rfl⟩:=h;exact key _ rfl (dq hv) he
  ·cases hc
 ·rename_i t n ps hop;unfold evR at h;rw[hop]at h;simp only[Rs.mk.injEq]at h;obtain⟨rfl,rfl,rfl,rfl⟩:=h;have key:∀q:Rs,c6 B Φ o (fun x=>(rd env x).strip) M=q->ab q.vc->cz ks q.ev=true->AgM ks q.M M:=fun q hq hv he=>by obtain⟨vc,v,e,M1⟩:=q;simp only[c6,hop]at hq;exact blg hq hv he
  exact key _ rfl (dq hv) he
 ·rename_i hop;unfold evR at h;rw[hop]at h;simp only[Rs.mk.injEq]at h;obtain⟨rfl,rfl,rfl,rfl⟩:=h;simp only[c6,hop,cq];exact AgM.refl ks M
 ·rename_i hop;unfold evR at h;rw[hop]at h;simp only[Rs.mk.injEq]at h;obtain⟨rfl,rfl,rfl,rfl⟩:=h;simp only[c6,hop,cq];exact AgM.refl ks M
 ·rename_i hop;unfold evR at h;rw[hop]at h;simp only[Rs.mk.injEq]at h;obtain⟨rfl,rfl,rfl,rfl⟩:=h;simp only[c6,hop,cq];exact AgM.refl ks M
 ·cases hc
theorem am1{ks:List Nat}{M' M0:Mem}(hM:∀k,inN k ks=true->go M0 k≠none->go M' k=go M0 k):∀v:V,ksV ks v=true->aco M0 v=true->agV M' M0 v
 |.d _ _,_,_=>trivial
 |.nl,_,_=>trivial
 |.np,_,_=>trivial
 |.u,_,_=>trivial
 |.p a b,h,g=>by simp only[ksV,aco,am,a0a]at h g;exact⟨am1 hM a h.1 g.1,am1 hM b h.2 g.2⟩
 |.ag v,h,g=>am1 hM v h g
 |.fn f v,h,g=>am1 hM v h g
 |.bx v,h,g=>am1 hM v h g
 |.ref k π,h,g=>by
  have hn:go M0 k≠none:=fun e=>by simp[aco,e,isN,neg]at g
  exact⟨hM k h hn,hn⟩
 |.ad k π,h,g=>by
  have hn:go M0 k≠none:=fun e=>by simp[aco,e,isN,neg]at g
  exact⟨hM k h hn,hn⟩
 |.any,h,_=>by cases h
 |.tup _,h,_=>by cases h
 |.gd _ _ _ _,h,_=>by cases h
 |.ifc _ _,h,_=>by cases h
theorem ak0{ks:List Nat}(e:Ev)(he:ip ks e=true):∀v:V,ksV ks v=true->v.ev e=v
 |.d _ _,_=>rfl
 |.nl,_=>rfl
 |.np,_=>rfl
 |.u,_=>rfl
 |.p a b,h=>by simp only[ksV,am,a0a]at h;simp only[V.ev,ak0 e he a h.1,ak0 e he b h.2]
 |.ag v,h=>by simp only[V.ev,ak0 e he v h]
 |.fn f v,h=>by simp only[V.ev,ak0 e he v h]
 |.bx v,h=>by simp only[V.ev,ak0 e he v h]
 |.ref k π,h=>bqm h e he
 |.ad k π,h=>bs3 h e he
 |.any,h=>by cases h
 |.tup _,h=>by cases h
 |.gd _ _ _ _,h=>by cases h
 |.ifc _ _,h=>by cases h
theorem aud{ks:List Nat}:∀(e:List Ev),cz ks e=true->∀v:V,ksV ks v=true->v.evs e=v
 |[],_,_,_=>rfl
 |x::e,he,v,hv=>by simp only[cz,am,a0a]at he;simp only[V.evs,ak0 x he.1 v hv];exact aud e he.2 v hv
theorem aj6{ks:List Nat}{env:Env}:∀{l:List Operand},u7 ks env l=true->∀x∈l,ksV ks (rd env x)=true
 |[],_,x,hx=>by cases hx
 |a::l,h,x,hx=>by
  simp only[u7,am,a0a]at h;rcases a0s.1 hx with e|e
  ·subst e;exact h.1
  ·exact aj6 h.2 x e
theorem amw{ks:List Nat}{env env':Env}:∀{l:List Operand},(∀x∈l,rd env x=rd env' x)->u7 ks env l=u7 ks env' l
 |[],_=>rfl
 |a::l,h=>by have h1:u7 ks env l=u7 ks env' l:=amw fun x hx=>h x (a26 _ hx);simp only[u7,h a (a3f ..),h1]
def FlI(B:Tab)(Φ:FuncId->Option Ct)(ks as:List Nat)(x:Oper)(env:Env)(M:Mem)(y:V):Prop:=
 (∃t0,(x.op=.move (.tmp t0)\/x.op=.assign (.tmp t0))/\vo (gt env t0)=false/\gt env t0=y)\/(∃t0 k v,x.op=.extract (.tmp t0) k/\gt env t0=.tup v/\nth v k=some y)\/
 (uy x.op=true/\u7 ks env (cd x.op)=true/\ksV ks y=true/\∃vc,ab vc/\∀M',AgM ks M' M->evR B Φ x env M'=⟨vc,y,[],M'⟩)\/
 (∃t t0 k,x.op=.load t (.tmp t0)/\gt env t0=.bx (.ad k [.de])/\y=.ad k [.de]/\inN k as=true/\bhc (B.τ t)=true)
theorem bq4(e:Ev)(v:V)(h:vo v=false):vo (v.ev e)=false:=by
 cases v with
 |ref k π=>simp only[V.ev];exact bd8 k π e
 |ad k π=>simp only[V.ev];exact bfp k π e
 |gd _ _ _ _=>cases h
 |_=>rfl
theorem bdy:∀(e:List Ev) (v:V),vo v=false->vo (v.evs e)=false
 |[],_,h=>h
 |x::e,v,h=>by simp only[V.evs];exact bdy e _ (bq4 x v h)
theorem bj1(e:Ev):∀(v:V) (k:Nat) (y:V),nth v k=some y->nth (v.ev e) k=some (y.ev e)
 |.p a b,0,y,h=>by simp only[nth,a0d]at h;subst h;rfl
 |.p a b,k+1,y,h=>by simp only[nth]at h;simp only[V.ev,nth];exact bj1 e b k y h
 |.any,_,_,h=>by simp[nth]at h
 |.nl,_,_,h=>by simp[nth]at h
 |.np,_,_,h=>by simp[nth]at h
 |.u,_,_,h=>by simp[nth]at h
 |.d _ _,_,_,h=>by simp[nth]at h
 |.ref _ _,_,_,h=>by simp[nth]at h
 |.ad _ _,_,_,h=>by simp[nth]at h
 |.ag _,_,_,h=>by simp[nth]at h
 |.tup _,_,_,h=>by simp[nth]at h
 |.gd _ _ _ _,_,_,h=>by simp[nth]at h
 |.fn _ _,_,_,h=>by simp[nth]at h
 |.ifc _ _,_,_,h=>by simp[nth]at h
 |.bx _,_,_,h=>by simp[nth]at h
theorem bgp:∀(e:List Ev) (v:V) (k:Nat) (y:V),nth v k=some y->nth (v.evs e) k=some (y.evs e)
 |[],_,_,_,h=>h
 |x::e,v,k,y,h=>by simp only[V.evs];exact bgp e _ k _ (bj1 x v k y h)
theorem bg1:∀(e:List Ev) (v:V),(V.tup v).evs e=.tup (v.evs e)
 |[],_=>rfl
 |x::e,v=>by simp only[V.evs,V.ev];exact bg1 e _
theorem bqw{as:List Nat}{k:Nat}(hk:inN k as=true)(x:Ev)(h:ahm as x=true):(V.ad k [.de]).ev x=.ad k [.de]:=by
 have ne:∀{j:Nat},neg (inN j as)=true->Nat.beq k j=false:=fun {j} hj=>by
  cases hb:Nat.beq k j with
  |false=>rfl
  |true=>have:=a0v hb;subst this;rw[hk]at hj;cases hj
 cases x with
 |kl r=>simp only[ahm]at h;simp only[V.ev,Ev.ad,ne h,a0g]
 |fz r ob=>simp only[ahm]at h;simp only[V.ev,Ev.ad,ne h,a0g]
 |mv r k'=>simp only[ahm]at h;simp only[V.ev,Ev.ad,ne h,a0g]
 |un r k'=>simp only[ahm]at h;simp only[V.ev,Ev.ad,ne h,a0g]
 |tk r o o'=>
  simp only[ahm,mi,a1f]at h;simp only[V.ev,Ev.ad];rcases h with h|h
  ·rw[ne h];rfl
  ·rw[h];cases Nat.beq k r <;> rfl
 |cut r o o'=>
  simp only[ahm,mi,a1f]at h;simp only[V.ev,Ev.ad];rcases h with h|h
  ·rw[ne h];rfl
  ·rw[h];cases Nat.beq k r <;> rfl
theorem asn{as:List Nat}{k:Nat}(hk:inN k as=true):∀e:List Ev,amt as e=true->(V.ad k [.de]).evs e=.ad k [.de]
 |[],_=>rfl
 |x::e,h=>by simp only[amt,am,a0a]at h;simp only[V.evs,bqw hk x h.1];exact asn hk e h.2
theorem bkr:∀(e:List Ev) (v:V),(V.bx v).evs e=.bx (v.evs e)
 |[],_=>rfl
 |x::e,v=>by simp only[V.evs,V.ev];exact bkr e _
theorem FlI.look{ks as:List Nat}{x:Oper}{env:Env}{M M1:Mem}{y:V}(h:FlI B Φ ks as x env M y){env':Env}{e:List Ev}(hkp:amt as e=true)(hd:uy x.op=true->(cz ks e=true/\AgM ks M1 M)\/(aj9 M1 x.op env'=true/\u7 ks env' (cd x.op)=true/\ksV ks (y.evs e)=true/\evR B Φ x env' M1=⟨[],y.evs e,[],M1⟩))(he:∀t0,Operand.tmp t0∈x.op.operands->gt env' t0=(gt env t0).evs e):FlI B Φ ks as x env' M1 (y.evs e):=by
 rcases h with⟨t0,ho,hg,rfl⟩|⟨t0,k,v,ho,hv,hn⟩|⟨h1,h2,h3,vc,h4,h5⟩|⟨t,t0,k,ho,hv,rfl,hk,hb⟩;rotate_left 3
 ·have he:=he t0 (by simp[ho,Op.operands]);refine .inr (.inr (.inr ⟨t,t0,k,ho,by rw[he,hv,bkr,asn hk e hkp],asn hk e hkp,hk,hb⟩))
 ·have he:=he t0 (by rcases ho with ho|ho <;> simp[ho,Op.operands]);exact .inl ⟨t0,ho,by rw[he];exact bdy e _ hg,he⟩
 ·have he:=he t0 (by simp[ho,Op.operands]);exact .inr (.inl ⟨t0,k,v.evs e,ho,by rw[he,hv,bg1],bgp e v k y hn⟩)
 ·rcases hd h1 with⟨hd1,hd2⟩|⟨g1,g2,g3,g4⟩;rotate_left
  ·refine .inr (.inr (.inl ⟨h1,g2,g3,[],trivial,fun M' hM=>?_⟩));rw[bdz (M:=M') g1 (fun hlv q hq=>am1 (ks:=ks) (fun k hk _=>hM k hk) _ (aj6 g2 _ hq) (ahp hlv _ hq)) g4 trivial rfl];rfl
  have hr:∀q∈x.op.operands,rd env' q=rd env q:=fun q hq=>by
   cases q with
   |tmp t=>have hkq:=aj6 h2 _ (bl7 h1 _ hq);simp only[rd]at hkq⊢;rw[he t hq,aud e hd1 _ hkq]
   |const c=>rfl
   |global g=>rfl
   |func f=>rfl
  refine .inr (.inr (.inl ⟨h1,?_,by rw[aud e hd1 y h3];exact h3,vc,h4,fun M' hM=>?_⟩))
  ·rw[amw fun q hq=>hr q (ai4 x q hq)];exact h2
  ·rw[ace x hr,h5 M' fun k hk=>(hM k hk).trans (hd2 k hk),aud e hd1 y h3]
theorem FlI.same{ks as:List Nat}{x:Oper}{env:Env}{M:Mem}{y:V}(h:FlI B Φ ks as x env M y){env':Env}(he:∀t0,Operand.tmp t0∈x.op.operands->gt env' t0=gt env t0):FlI B Φ ks as x env' M y:=by
 have hr:∀q∈x.op.operands,rd env' q=rd env q:=fun q hq=>by
  cases q with
  |tmp t=>exact he t hq
  |const c=>rfl
  |global g=>rfl
  |func f=>rfl
 rcases h with⟨t0,ho,hg,hy⟩|⟨t0,k,v,ho,hv,hn⟩|⟨h1,h2,h3,vc,h4,h5⟩|⟨t,t0,k,ho,hv,hy,hk,hb⟩
 ·have he:=he t0 (by rcases ho with ho|ho <;> simp[ho,Op.operands]);exact .inl ⟨t0,ho,by rw[he];exact hg,by rw[he];exact hy⟩
 ·have he:=he t0 (by simp[ho,Op.operands]);exact .inr (.inl ⟨t0,k,v,ho,by rw[he];exact hv,hn⟩)
 ·refine .inr (.inr (.inl ⟨h1,?_,h3,vc,h4,fun M' hM=>?_⟩))
  ·rw[amw fun q hq=>hr q (ai4 x q hq)];exact h2
  ·rw[ace x hr];exact h5 M' hM
 ·have he:=he t0 (by simp[ho,Op.operands]);exact .inr (.inr (.inr ⟨t,t0,k,ho,by rw[he];exact hv,hy,hk,hb⟩))
theorem FlI.run{ks as:List Nat}{x:Oper}{env:Env}{y:V}{M:Mem}(h:FlI B Φ ks as x env M y):∃vc,ab vc/\evR B Φ x env M=⟨vc,y,[],M⟩:=by
 have ns:∀v:V,vo v=false->v.strip=v:=fun v hv=>by cases v <;> first|rfl|cases hv
 have nn:∀t,vo (gt env t)=false->rh (rd env) [.tmp t]=[]:=fun t ht=>by
  simp only[rh,rd];split
  ·rename_i e;rw[e]at ht;cases ht
  ·rfl
 rcases h with⟨t0,ho,hg,rfl⟩|⟨t0,k,v,ho,hv,hn⟩|⟨h1,h2,h3,vc,h4,h5⟩|⟨t,t0,k,ho,hv,rfl,hk,hb⟩;rotate_left 3
 ·have hg:vo (gt env t0)=false:=by rw[hv];rfl
  have hs:(V.bx (.ad k [.de])).strip=.bx (.ad k [.de]):=rfl;simp only[bhc,au,bh,a0k,a0a,fe,a0t,kh,a1i]at hb;refine⟨[],trivial,?_⟩;simp only[evR,ho,c6,cd,nn t0 hg,ap,rd,hv,hs,tz,abx,cq,x8,hb.1,hb.2.1,hb.2.2,jx,V.size,xd,ci,au,bh,a0k,fe,a34,mi,a4e,a2r,a0c,a0g]
 ·refine⟨[],trivial,?_⟩;rcases ho with ho|ho <;> simp only[evR,ho,c6,cq,cd,nn t0 hg,ap,rd,ns _ hg]
 ·have hg:vo (gt env t0)=false:=by rw[hv];rfl
  have hs:(V.tup v).strip=.tup v:=rfl;refine⟨[],trivial,?_⟩;simp only[evR,ho,c6,cq,cd,nn t0 hg,ap,rd,hv,hs,aq0,hn,ci]
 ·exact⟨vc,h4,h5 M (AgM.refl ks M)⟩
theorem FlI.of{ks as:List Nat}{x:Oper}{env:Env}{M M' M1:Mem}{vc:List Prop}{v:V}{e:List Ev}(hx:awv x.op=true)(hn:∀t,vo (gt env t)=false)(h:evR B Φ x env M=⟨vc,v,e,M'⟩)(hv:ab vc):FlI B Φ ks as x env M1 v:=by
 have ns:∀v:V,vo v=false->v.strip=v:=fun v hv=>by cases v <;> first|rfl|cases hv
 unfold awv at hx;split at hx
 ·rename_i t0 ho;simp only[evR,ho,c6,cq,rd,ns _ (hn t0),Rs.mk.injEq]at h;exact .inl ⟨t0,.inl ho,hn t0,h.2.1⟩
 ·rename_i t0 ho;simp only[evR,ho,c6,cq,rd,ns _ (hn t0),Rs.mk.injEq]at h;exact .inl ⟨t0,.inr ho,hn t0,h.2.1⟩
 ·rename_i t0 k ho;simp only[evR,ho,c6,cq,rd,ns _ (hn t0),Rs.mk.injEq]at h;obtain⟨h1,h2,_⟩:=h;rw[←h1]at hv;have hv:=dq hv;unfold aq0 at hv h2;split at hv
  ·rename_i w hw;split at hv
   ·rename_i y hy;rw[hw]at h2;simp only[hy,ci]at h2;exact .inr (.inl ⟨t0,k,w,ho,hw,by rw[←h2];exact hy⟩)
   ·exact absurd hv (by simp[bad,ab])
  ·exact absurd hv (by simp[bad,ab])
 ·cases hx
section
variable {F:Fr} {all:Array Oper} {m:Nat} {E:Nat->Env} {X N:Nat->Mem} {M0:Mem} {D R:Bool} {Ds:List Bool} {ks as:List Nat}
structure Hctx (D R:Bool) (Ds:List Bool) (ks as:List Nat) (B:Tab) (Φ:FuncId->Option Ct) (all:Array Oper) (m:Nat) (E:Nat->Env) (X N:Nat->Mem) (M0:Mem):Prop where
 hb:xi 0 all.toList=true
 hm:m<=all.size
 ht:bi5 D R all (ew [] all.toList) m=true
 hf:bi1 all (ew [] all.toList) m=true
 hdr:afz all (ew [] all.toList) m=true
 hE:∀(j:Nat) (o:Oper),all[j]? = some o->j<m->∃d v vc ev,Hst (Ds.getD j false) ks as B Φ M0 o (E j) (E (j+1)) (N j) (X j) (X (j+1)) d v vc ev
 hX:X 0=[]
 h0:∀t,vl (gt (E 0) t)=true
 hR:R=false->ks=[]
 hD:D=true->∀i,i<m->tc all.size (ew [] all.toList) m i=true->Ds.getD i false=true
structure Hsta (all:Array Oper) (m:Nat) (E:Nat->Env) (N:Nat->Mem) (M0:Mem) (listed:Array Bool) (env:Env) (M:Mem):Prop where
 a:∀t,(∀(i:Nat) (o:Oper),all[i]? = some o->isL listed i->o.dst≠some t)->gt env t=gt (E 0) t
 b:∀(i:Nat) (o:Oper) (t:Nat),all[i]? = some o->isL listed i->o.dst=some t->gt env t=gt (E (i+1)) t
 c:∀k,(∀(i:Nat),i<all.size->isL listed i->k∉cc (N i))->go M k=go M0 k
 d:∀(i:Nat) (k:Nat),i<all.size->isL listed i->k∈cc (N i)->go M k=go (N i) k
theorem Hctx.get(C:Hctx D R Ds ks as B Φ all m E X N M0){i:Nat}(h:i<m):all[i]? = some (all[i]'(a1o h C.hm)):=a23 _
theorem Hctx.xs(C:Hctx D R Ds ks as B Φ all m E X N M0):∀(j:Nat),j<=m->∀k,(∀i,i<j->k∈cc (N i)->go (X j) k=go (N i) k/\∀i',i'<j->k∈cc (N i')->i'=i)/\((∀i,i<j->k∉cc (N i))->go (X j) k=none)
 |0,_,k=>⟨fun i h=>by omega,fun _=>by rw[C.hX];rfl⟩
 |j+1,hj,k=>by
  obtain⟨d,v,vc,ev,H⟩:=C.hE j _ (C.get (by omega)) (by omega);obtain⟨h1,h2⟩:=C.xs j (by omega) k;rw[H.x,acw];by_cases hkj:k∈cc (N j)
  ·have hn:=aev H.nX k hkj;have none_old:∀i,i<j->k∉cc (N i):=fun i hi hk=>by have:=(h1 i hi hk).1;rw[hn]at this;exact wv.1 hk this.symm
   obtain⟨ob,hob⟩:∃ob,go (N j) k=some ob:=by
    cases hg:go (N j) k with
    |none=>exact absurd hg (wv.1 hkj)
    |some ob=>exact⟨ob,rfl⟩
   refine⟨fun i hi hk=>?_,fun h=>absurd hkj (h j (by omega))⟩
   have hij:i=j:=by
    rcases a1m i j with h|h
    ·exact absurd hk (none_old i h)
    ·omega
   subst hij;rw[hob];refine⟨rfl,fun i' hi' hk'=>?_⟩;rcases a1m i' i with h|h
   ·exact absurd hk' (none_old i' h)
   ·omega
  ·have hgn:go (N j) k=none:=by
    cases hg:go (N j) k with
    |none=>rfl
    |some ob=>exact absurd (wv.2 (by rw[hg];simp)) hkj
   rw[hgn];simp only;refine⟨fun i hi hk=>?_,fun h=>h2 fun i hi=>h i (by omega)⟩
   have hij:i<j:=by
    rcases a1m i j with h|h
    ·exact h
    ·have:i=j:=by omega
     subst this;exact absurd hk hkj
   refine⟨(h1 i hij hk).1,fun i' hi' hk'=>?_⟩
   have hij':i'<j:=by
    rcases a1m i' j with h|h
    ·exact h
    ·have:i'=j:=by omega
     subst this;exact absurd hk' hkj
   exact (h1 i hij hk).2 i' hij' hk'
theorem Hctx.uniq(C:Hctx D R Ds ks as B Φ all m E X N M0){i j:Nat}{x y:Oper}{t:Nat}(hi:i<m)(hj:j<m)(hx:all[i]? = some x)(hy:all[j]? = some y)(h1:x.dst=some t)(h2:y.dst=some t):i=j:=by
 rcases Nat.decEq i j with h|h
 ·exact absurd h2 (awf (tm C.hdr hi hj h hx hy) h1)
 ·exact h
theorem Hctx.gts(C:Hctx D R Ds ks as B Φ all m E X N M0)(j t:Nat)(hj:j<=m) :
  ((∀(i:Nat) (o:Oper),all[i]? = some o->i<j->o.dst≠some t)->gt (E j) t=gt (E 0) t)/\
  (∀(i:Nat) (o:Oper),all[i]? = some o->i<j->o.dst=some t->gt (E j) t=gt (E (i+1)) t):=by
 have hm:=C.hm;have hlen:(all.toList.take m).length=m:=by simp[hm]
 have take_lt:∀{i:Nat} {o:Oper},(all.toList.take m)[i]? = some o->i<m/\all[i]? = some o:=fun {i o} h=>by have h1:=(a1k.1 h).1;rw[hlen]at h1;rw[a27 h1,ac6]at h;exact⟨h1,h⟩
 have lt_take:∀{i:Nat} {o:Oper},i<m->all[i]? = some o->(all.toList.take m)[i]? = some o:=fun {i o} h1 h=>by rw[a27 h1,ac6];exact h
 have hw:∀(j:Nat) (o:Oper),(all.toList.take m)[j]? = some o->E (j+1)=wr o.dst (match all[j]? with|some o=>(match o.dst with|some d=>gt (E (j+1)) d|none=>.any)|none=>.any) (E j):=fun j o hj=>by obtain⟨h1,h2⟩:=take_lt hj;obtain⟨d,v,vc,ev,H⟩:=C.hE j o h2 h1;rw[h2];simp only[H.dst,wr];rw[H.he];simp only[km,a01]
 obtain⟨a1,a2⟩:=att hw j t (by omega);refine⟨fun h=>a1 fun i o hi=>h i o (take_lt hi).2,fun i o hi hlt hd=>?_⟩;rw[a2 i o (lt_take (by omega) hi) hlt hd fun i' o' hi' hl' hd'=>C.uniq (take_lt hi').1 (by omega) (take_lt hi').2 hi hd' hd];simp only[hi,hd]
theorem Hctx.step(C:Hctx D R Ds ks as B Φ all m E X N M0){listed:Array Bool}(hs:listed.size=all.size)(hl:∀i,i<all.size->isL listed i->i<m)(hdn:aik all listed){env:Env}{M:Mem}(S:Hsta all m E N M0 listed env M){p:Ow}{a:Act}{w:World}(hst:St F p env M a w)
  {j:Nat} {o:Oper} (ho:all[j]? = some o) (hjm:j<m) (hnl:¬isL listed j)
  (hrd:∀e∈o.after,Region.binds .any e=true->isL listed e.on):tw B Φ (toL all) [o] env M (fun env' M'=>Hsta all m E N M0 (listed.setIfInBounds j true) env' M'):=by
 have hjs:=(a03.1 ho).1;have hset:∀i,isL (listed.setIfInBounds j true) i<->i=j\/isL listed i:=fun i=>ayb (by rw[hs];exact hjs);have hlm:∀{i:Nat} {x:Oper},all[i]? = some x->isL listed i->i<m:=fun h1 h2=>hl _ (a03.1 h1).1 h2
 have hlook:∀t∈o.looksAt all,gt env t=gt (E j) t:=fun t htl=>by
  by_cases hw:∃(i:Nat) (x:Oper),all[i]? = some x/\i<m/\x.dst=some t
  ·obtain⟨i,x,e1,e2,e3⟩:=hw;by_cases hij:i<j
   ·have hpair:=yd (tm C.hdr e2 hjm (by omega) e1 ho) e3 htl;rw[d0 hij]at hpair;have hli:=lh hdn C.hb j o ho hrd i hpair;rw[S.b i x t e1 hli e3,(C.gts j t (by omega)).2 i x e1 hij e3]
   ·have hnli:¬isL listed i:=fun hli=>by
     by_cases e:i=j
     ·subst e;exact hnl hli
     ·have hpair:=yd (tm C.hdr e2 hjm e e1 ho) e3 htl;rw[ds hij]at hpair;exact hnl (lh hdn C.hb i x e1 (fun e' he' hb'=>hdn i x e1 hli e' he' hb') j hpair)
    rw[S.a t fun i' o' h1' h2' h3'=>hnli (C.uniq (hlm h1' h2') e2 h1' e1 h3' e3▸h2')];exact ((C.gts j t (by omega)).1 fun i' o' h1' h2' h3'=>hij (C.uniq (by omega) e2 h1' e1 h3' e3▸h2')).symm
  ·rw[S.a t fun i x h1 h2 h3=>hw ⟨i,x,h1,hlm h1 h2,h3⟩];exact ((C.gts j t (by omega)).1 fun i x h1 h2 h3=>hw ⟨i,x,h1,by omega,h3⟩).symm
 have hrdE:∀x∈o.op.operands,rd env x=rd (E j) x:=fun x hx=>by
  cases x with
  |tmp t=>exact hlook t (a1t _ (a3t.2 ⟨.tmp t,by simpa using hx,rfl⟩))
  |const c=>rfl
  |global g=>rfl
  |func f=>rfl
 obtain⟨d,v,vc,ev,H⟩:=C.hE j o ho hjm
 have hkey:∀k,go (ap (X j) M0) k≠none->go M k≠none->go M k=go (ap (X j) M0) k:=fun k h1 h2=>by
  obtain⟨x1,x2⟩:=C.xs j (by omega) k;rw[acw]at h1⊢;by_cases hw:∃i,i<m/\k∈cc (N i)
  ·obtain⟨i,hi,hk⟩:=hw;have gone:go M0 k=none:=by obtain⟨d',v',vc',ev',H'⟩:=C.hE i _ (C.get hi) hi;exact aev H'.n0 k hk
   have one:∀i',i'<m->k∈cc (N i')->i'=i:=fun i' hi' hk'=>((C.xs m (a0f _) k).1 i hi hk).2 i' hi' hk';have hli:isL listed i:=Classical.byContradiction fun hn=>h2 (by rw[S.c k fun i' hi' hl' hk'=>hn (one i' (hl i' hi' hl') hk'▸hl'),gone]);rw[S.d i k (a1o hi C.hm) hli hk];by_cases hij:i<j
   ·rw[(x1 i hij hk).1]
    cases hg:go (N i) k with
    |none=>exact absurd hg (wv.1 hk)
    |some ob=>rfl
   ·rw[x2 fun i' hi' hk'=>hij (one i' (by omega) hk'▸hi'),gone]at h1;exact absurd rfl h1
  ·rw[x2 fun i hi hk=>hw ⟨i,by omega,hk⟩];simp only;exact S.c k fun i hi hli hk=>hw ⟨i,hl i hi hli,hk⟩
 have agr:alm (ap (X j) M0) (E j) (cd o.op)=true->∀x∈cd o.op,agV M (ap (X j) M0) (rd (E j) x):=fun hlv x hx=>by
  by_cases hxt:∃t,x=.tmp t
  ·obtain⟨t,rfl⟩:=hxt;have hrel:=hst.slots t;have e1:gt env t=gt (E j) t:=by simpa only [rd]using hrdE (.tmp t) (ai4 o _ hx)
   rw[e1]at hrel;exact bsn hkey _ (ahp hlv _ hx) _ hrel
  ·exact bt8 x fun t h=>hxt ⟨t,h⟩
 have hr:evR B Φ o env M=⟨vc,v,ev,ap (N j) (qr (cc (N j)) M)⟩:=by rw[ace o hrdE];obtain⟨N',hr,hN⟩:=H.r;have hkl:=H.kl;rw[hN]at hkl⊢;exact bdz H.k agr hr H.hv hkl
 have hdis:∀i,i<all.size->isL listed i->∀k,k∈cc (N i)->k∉cc (N j):=fun i hi hli k h1 h2=>by have him:=hl i hi hli;have:=((C.xs m (a0f _) k).1 i him h1).2 j hjm h2;subst this;exact hnl hli
 have hgone:∀k∈cc (N j),go M k=none:=fun k hk=>by rw[S.c k fun i hi hli h=>hdis i hi hli k h hk];exact aev H.n0 k hk
 have hng:∀t,vl (gt env t)=true:=fun t=>by
  by_cases hw:∃(i:Nat) (x:Oper),all[i]? = some x/\isL listed i/\x.dst=some t
  ·obtain⟨i,x,e1,e2,e3⟩:=hw;rw[S.b i x t e1 e2 e3];obtain⟨d',v',vc',ev',H'⟩:=C.hE i x e1 (hlm e1 e2);have:d'=t:=by have:=H'.dst;rw[e3]at this;exact (a28 this).symm
   subst this;rw[H'.he,km,d0 rfl];exact H'.gd
  ·rw[S.a t fun i x h1 h2 h3=>hw ⟨i,x,h1,h2,h3⟩];exact C.h0 t
 have stab:∀t,gt (rp env ev) t=gt env t:=fun t=>by rw[u5];exact bg5 H.kl fun k hk=>(bon (hgone k hk) (gt env t) (hng t)).1 _ (hst.slots t)
 simp only[tw,H.g,hr,sm,H.dst,wr];refine⟨H.hv,fun t ht=>?_,fun i x t hi hli hdx=>?_,fun k hk=>?_,fun i k hi hli hk=>?_⟩
 ·have htd:d≠t:=fun h=>ht j o ho ((hset j).2 (.inl rfl)) (by rw[H.dst,h]);rw[km,ds htd,stab];exact S.a t fun i x hi hl'=>ht i x hi ((hset i).2 (.inr hl'))
 ·rw[km];by_cases hij:i=j
  ·subst hij;rw[ho]at hi;cases hi;rw[H.dst]at hdx;cases hdx;rw[d0 rfl,H.he,km,d0 rfl]
  ·have hli':=((hset i).1 hli).resolve_left hij;have htd:d≠t:=fun h=>hij (C.uniq (hlm hi hli') hjm hi ho hdx (by rw[H.dst,h]));rw[ds htd,stab];exact S.b i x t hi hli' hdx
 ·have hkj:k∉cc (N j):=hk j hjs ((hset j).2 (.inl rfl))
  have hgn:go (N j) k=none:=by
   cases hg:go (N j) k with
   |none=>rfl
   |some ob=>exact absurd (wv.2 (by rw[hg];simp)) hkj
  rw[acw,hgn];simp only;rw[aq7 hkj];exact S.c k fun i hi hli=>hk i hi ((hset i).2 (.inr hli))
 ·rw[acw];by_cases hij:i=j
  ·subst hij
   cases hg:go (N i) k with
   |none=>exact absurd hg (wv.1 hk)
   |some ob=>rfl
  ·have hli':=((hset i).1 hli).resolve_left hij;have hkj:=hdis i hi hli' k hk
   have hgn:go (N j) k=none:=by
    cases hg:go (N j) k with
    |none=>rfl
    |some ob=>exact absurd (wv.2 (by rw[hg];simp)) hkj
   rw[hgn];simp only;rw[aq7 hkj];exact S.d i k hi hli' hk
theorem ao2{D R:Bool}{ms:List Nat}(h:bi5 D R all ms m=true){j:Nat}(hm:m<=j){y:Oper}(hy:all[j]? = some y):y.guard=none/\∀i,i<j->(ms.getD j 0).testBit i=true\/(i<m/\∃x,all[i]? = some x/\flt D R all x y=true):=by
 have hj:=(a03.1 hy).1;have:=a1l.1 h j (by simpa using hj);rw[hy]at this;simp only[a1f,a0a]at this;rcases this with h1|⟨h1,h2⟩
 ·rw[a2y]at h1;omega
 ·refine⟨bch h1,fun i hi=>?_⟩;have h3:=a1l.1 h2 i (by simpa using hi);simp only[a1f,a0a]at h3;rcases h3 with h3|⟨h3,h4⟩
  ·exact .inl h3
  ·right;rw[a2y]at h3;refine⟨h3,?_⟩
   cases hx:all[i]? with
   |none=>rw[hx]at h4;cases h4
   |some x=>rw[hx]at h4;exact⟨x,rfl,h4⟩
theorem ay0{x:Oper}:∀{l:List Oper},bat l=true->x∈l->uy x.op=false
 |y::l,h,hm=>by
  simp only[bat,am,kh,a0a,a1i]at h
  cases hm with
  |head=>exact h.1
  |tail _ hm=>exact ay0 h.2 hm
theorem anp{D R:Bool}{x y:Oper}(h:flt D R all x y=true):x.guard=none/\(bjf D x.op=true/\(R=true->uy x.op=true->au3 y=true\/bcy y=true))/\∃t,x.dst=some t/\t∉y.looksAt all/\∀u,y.dst=some u->u≠t/\u∉x.looksAt all:=by
 unfold flt at h;simp only[am,a0a]at h;obtain⟨h1,⟨h2,h2'⟩,h3⟩:=h;refine⟨bch h1,⟨h2,fun hR hk=>?_⟩,?_⟩
 ·rw[hR]at h2';simp only[mi,kh,a3o,a4n,a1f]at h2';rcases h2' with h|h|h
  ·exfalso;unfold awv at h;unfold uy at hk;split at h
   ·rename_i ho;rw[ho]at hk;simp[zb,ae6,abu]at hk
   ·rename_i ho;rw[ho]at hk;simp[zb,ae6,abu]at hk
   ·rename_i ho;rw[ho]at hk;simp[zb,ae6,abu]at hk
   ·cases h
  ·exact .inl h
  ·exact .inr h
 cases hd:x.dst with
 |none=>rw[hd]at h3;cases h3
 |some t=>
  rw[hd]at h3;simp only[am,a0a,kh,a1i]at h3;refine⟨t,rfl,fun ht=>?_,fun u hu=>?_⟩
  ·have:(abs all y).contains t=true:=by simpa[abs]using ht
   rw[h3.1]at this;cases this
  ·rw[hu]at h3;have h4:=h3.2;simp only[a0a,a1i]at h4;refine⟨fun e=>?_,fun ht=>?_⟩
   ·subst e;rw[a3z]at h4;exact absurd h4.1 (by simp)
   ·have:(abs all x).contains u=true:=by simpa[abs]using ht
    rw[h4.2]at this;cases this
theorem ay5{ms:List Nat}{i:Nat}(h:tc all.size ms m i=true):∃j,m<=j/\j<all.size/\(ms.getD j 0).testBit i=false:=by
 obtain⟨j,h1,h2⟩:=List.any_eq_true.1 h;simp only[a0a,a1i]at h2;refine⟨j,?_,by simpa using h1,h2.2⟩;rcases a1m j m with h|h
 ·have hb:Nat.blt j m=true:=by rw[a2y];exact h
  rw[hb]at h2;exact absurd h2.1 (by simp)
 ·exact h
theorem bmy{ms:List Nat}{i j:Nat}(h:tc all.size ms m i=false)(hj:j<all.size)(hm:m<=j):(ms.getD j 0).testBit i=true:=by
 cases ht:(ms.getD j 0).testBit i with
 |true=>rfl
 |false=>
  have:tc all.size ms m i=true:=List.any_eq_true.2 ⟨j,by simpa using hj,by
   simp only[a0a,a1i];refine⟨?_,ht⟩
   cases hb:Nat.blt j m with
   |false=>rfl
   |true=>rw[a2y]at hb;omega⟩
  rw[h]at this;cases this
theorem ay7{ms:List Nat}(h:bi1 all ms m=true){i j:Nat}(hi:i<m)(hj:j<m)(hne:i<=j)(fi:tc all.size ms m i=true)(fj:tc all.size ms m j=true){x y:Oper}(hx:all[i]? = some x)(hy:all[j]? = some y){u:Nat}(hu:y.dst=some u):u∉x.looksAt all:=by
 have h1:=a1l.1 h i (by simpa using hi);rw[fi]at h1;simp only[a3o,a4n]at h1;have h2:=a1l.1 h1 j (by simpa using hj);rw[fj,hx,hy]at h2;simp only[a3o,Bool.or_false,a1f,hu,a1i]at h2;rcases h2 with h2|h2
 ·rw[a2y]at h2;omega
 ·intro ht;have:(abs all x).contains u=true:=by simpa[abs]using ht
  rw[h2]at this;cases this
structure Bsta (B:Tab) (Φ:FuncId->Option Ct) (ks as:List Nat) (all:Array Oper) (m c:Nat) (listed:Array Bool) (env Ec:Env) (M:Mem):Prop where
 h:∀i,i<m->isL listed i\/tc all.size (ew [] all.toList) m i=true/\∃x t,all[i]? = some x/\x.guard=none/\x.dst=some t/\FlI B Φ ks as x Ec M (gt Ec t)
 a:∀t,(∀(i:Nat) (x:Oper),i<m->all[i]? = some x->¬isL listed i->x.dst≠some t)->gt env t=gt Ec t
theorem am6(l:List Bool)(n:Nat):aj3 (l.drop n)=l.getD n false:=by
 induction l generalizing n with
 |nil=>simp[aj3]
 |cons a l ih=>cases n with
  |zero=>rfl
  |succ n=>simpa using ih n
theorem bhm(l:List Bool)(n:Nat):ajx (l.drop n)=l.drop (n+1):=by
 induction l generalizing n with
 |nil=>simp[ajx]
 |cons a l ih=>cases n with
  |zero=>rfl
  |succ n=>simpa using ih n
theorem bkv{l:List Oper}{m j i:Nat}(hm:m<=j)(hj:j<l.length)(hi:i<m)(hb:((ew [] l).getD j 0).testBit i=false):(adj l m).getD (j-m) false=true:=by unfold adj;have hl:len l=l.length:=aol l;rw[a0n,a1b,a2g (by rw[hl];show j-m<l.length-m;omega)];simp only[a00,a0z,List.any_eq_true,List.mem_range];refine⟨i,hi,?_⟩;rw[show Nat.add m (j-m)=j from by show m+(j-m)=j;omega,hb];rfl
theorem ahz:∀{a b:bq},apy a b=true->a=b
 |[],[],_=>rfl
 |.l::a,.l::b,h=>by rw[ahz (a:=a) (b:=b) h]
 |.r::a,.r::b,h=>by rw[ahz (a:=a) (b:=b) h]
 |.de::a,.de::b,h=>by rw[ahz (a:=a) (b:=b) h]
 |.ix i::a,.ix j::b,h=>by simp only[apy,am,a0a]at h;rw[a0v h.1,ahz h.2]
 |[],_::_,h=>by cases h
 |.l::_,[],h=>by cases h
 |.r::_,[],h=>by cases h
 |.de::_,[],h=>by cases h
 |.ix _::_,[],h=>by cases h
 |.l::_,.r::_,h=>by cases h
 |.l::_,.de::_,h=>by cases h
 |.l::_,.ix _::_,h=>by cases h
 |.r::_,.l::_,h=>by cases h
 |.r::_,.de::_,h=>by cases h
 |.r::_,.ix _::_,h=>by cases h
 |.de::_,.l::_,h=>by cases h
 |.de::_,.r::_,h=>by cases h
 |.de::_,.ix _::_,h=>by cases h
 |.ix _::_,.l::_,h=>by cases h
 |.ix _::_,.r::_,h=>by cases h
 |.ix _::_,.de::_,h=>by cases h
theorem bqg{a b:V}(h:bm3 a b=true):a=b:=by
 cases a <;> cases b <;> simp only[bm3,a02]at h
 ·simp only[am,a0a]at h;rw[a0v h.1,ahz h.2]
 ·simp only[am,a0a]at h;rw[a0v h.1,ahz h.2]
theorem axo{ks:List Nat}{x:Oper}{env:Env}{M:Mem}:∀{ls:List Oper},stB B Φ ks ls env M=true->x∈ls->∃d v M2,x.dst=some d/\evR B Φ x env M=⟨[],v,[],M2⟩/\v=gt env d/\aj9 M x.op env=true/\u7 ks env (cd x.op)=true/\ksV ks v=true
 |[],_,h=>by cases h
 |o::r,h,hx=>by
  simp only[stB]at h;split at h
  ·rename_i d v M2 h1 h2;simp only[am,a0a]at h;rcases a0s.1 hx with rfl|hx
   ·exact⟨d,v,M2,h1,h2,bqg h.2.1,h.1.1,h.1.2.1,h.1.2.2⟩
   ·exact axo h.2.2 hx
  ·cases h
theorem aza:∀(bs:List Bool) (l:List Oper) (i:Nat) (x:Oper),bs.getD i false=true->l[i]? = some x->uy x.op=true->x∈aqk bs l
 |[],_,_,_,h,_,_=>by simp at h
 |_::_,[],_,_,_,h,_=>by simp at h
 |b::bs,o::r,0,x,hb,hx,hk=>by simp only[a1s,a0d]at hx;subst hx;simp only[a3v]at hb;subst hb;simp only[aqk,hk,am,a2r,a0c];exact a3f
 |b::bs,o::r,i+1,x,hb,hx,hk=>by
  have:=aza bs r i x (by simpa using hb) (by simpa using hx) hk;simp only[aqk]
  cases nob b (uy o.op)with
  |true=>exact a26 _ this
  |false=>exact this
theorem apw{all:Array Oper}{m i j:Nat}{x:Oper}(hm:m<=j)(hj:j<all.size)(hi:i<m)(hx:all[i]? = some x)(hb:((ew [] all.toList).getD j 0).testBit i=false)(hk:uy x.op=true):x∈(ac4 all.toList m).getD (j-m) []:=by
 unfold ac4;have hl:len all.toList=all.size:=by rw[aol];rfl
 rw[a0n,a1b,a2g (by rw[hl];show j-m<all.size-m;omega)];simp only[a00,a0z];refine aza _ _ i x ?_ ?_ hk
 ·rw[a0n,a1b,a2g hi];simp only[a00,a0z];rw[show Nat.add m (j-m)=j from by show m+(j-m)=j;omega,hb];rfl
 ·rw[anf,a27 hi,a2t];exact hx
theorem atz(l:List (List Oper))(n:Nat):hdP (l.drop n)=l.getD n []:=by
 induction l generalizing n with
 |nil=>simp[hdP]
 |cons a l ih=>cases n with
  |zero=>rfl
  |succ n=>simpa using ih n
theorem bod(l:List (List Oper))(n:Nat):tlP (l.drop n)=l.drop (n+1):=by
 induction l generalizing n with
 |nil=>simp[tlP]
 |cons a l ih=>cases n with
  |zero=>rfl
  |succ n=>simpa using ih n
theorem bqz{τ:Ty}{M:Mem}{d:Option Nat}{x:V}{r:Rs}(h:abx τ M d x=some r)(h1:r.vc=[])(h2:r.ev=[]):False:=by
 unfold abx at h;split at h
 ·split at h
  ·simp only[a0d]at h;subst h;revert h1 h2;generalize bg _=b
   cases b with
   |true=>intro _ h;simp at h
   |false=>intro h _;simp[b8]at h
  ·cases h
 ·cases h
theorem bsl{τ:Ty}{M:Mem}{d:Option Nat}{x:V}(h1:(tz τ M d x).vc=[])(h2:(tz τ M d x).ev=[]):(tz τ M d x).M=M:=by
 unfold tz at h1 h2⊢
 cases hr:abx τ M d x with
 |some r=>simp only[hr]at h1 h2;exact (bqz hr h1 h2).elim
 |none=>rfl
theorem btt{B:Tab}{t:TypeId}{d:Option Nat}{ρ:Operand->V}{x:Operand}{lo hi:Option Operand}{M:Mem}(h:(xq B t d ρ x lo hi M).ev=[]):(xq B t d ρ x lo hi M).M=M:=by generalize hq:xq B t d ρ x lo hi M=q at h;obtain⟨a1,a2,a3,a4⟩:=q;simp only at h⊢;subst h;exact (bjs hq rfl).2
theorem bpi{x:Oper}{env:Env}{M M2:Mem}{v:V}(hk:uy x.op=true)(h:evR B Φ x env M=⟨[],v,[],M2⟩):M2=M:=by
 obtain⟨dst,op,ty',pos,after,guard⟩:=x;have h1:(evR B Φ ⟨dst,op,ty',pos,after,guard⟩ env M).vc=[]:=by rw[h]
 have h3:(evR B Φ ⟨dst,op,ty',pos,after,guard⟩ env M).ev=[]:=by rw[h]
 have h4:(evR B Φ ⟨dst,op,ty',pos,after,guard⟩ env M).M=M2:=by rw[h]
 rcases Classical.em (∃c,op=.call c)with⟨c,rfl⟩|hcc
 ·have hb:abu (.call c)=true:=by simpa[uy,zb,ae6]using hk
  exact (bka hb h).2
 rw[←h4];clear h h4;unfold uy at hk;cases op <;> simp only[zb,ae6,mi,Bool.or_false,a4e,am,kh,a0a,a1i,a02,false_and]at hk
 case call c=>exact absurd ⟨c,rfl⟩ hcc
 case slice t x lo hi mx=>
  cases mx with
  |some _=>simp[abu]at hk
  |none=>exact btt h3
 all_goals simp only[abu,mi,Bool.or_false,a4e,am,kh,a0a,a1i,a02,false_and]at hk
 case load t y=>exact bsl (τ:=B.τ _) (ax4 h1).2 h3
 case build t ps=>exact bjw.2
 all_goals first|rfl|exact absurd hk (by simp)
theorem bqn(hΦ:si P F Φ)(hB:TabOk P B)(Q:Exit->Act->World->Prop)(K:Env->Mem->Prop)(hQ:∀p env M a w,St F p env M a w->K env M->Q .normal a w)(hb:xi 0 all.toList=true)(ht:bi5 D R all (ew [] all.toList) m=true)(hR:R=false->ks=[])(hff:bi1 all (ew [] all.toList) m=true)
  (huq:∀(i j:Nat) (x y:Oper) (t:Nat),i<m->j<m->all[i]? = some x->all[j]? = some y->x.dst=some t->y.dst=some t->i=j) (hdr:afz all (ew [] all.toList) m=true)
  (hco:me F.nt all.toList=true) (hfv:∀o∈all.toList,∀k,o.dst=some k->F.fv k=none) :
  ∀(fuel:Nat) (listed:Array Bool) (c:Nat) (p:Ow) (env Ec:Env) (M:Mem) (a:Act) (w:World),listed.size=all.size->(∀i,m<=i->i<all.size->(isL listed i<->i<c))->m<=c->unl listed all.size<=fuel->aik all listed->Bsta B Φ ks as all m c listed env Ec M->agk ks as B Φ ((ac4 all.toList m).drop (c-m)) ((adj all.toList m).drop (c-m)) (all.toList.drop c) Ec M=true->
   St F p env M a w->tw B Φ (toL all) (all.toList.drop c) Ec M K->wpAny P .any all Q fuel listed a w:=by
 intro fuel
 have done:∀(listed:Array Bool) (c:Nat) (p:Ow) (env Ec:Env) (M:Mem) (a:Act) (w:World),listed.size=all.size->(∀i,m<=i->i<all.size->(isL listed i<->i<c))->m<=c->Region.ready .any all listed=[]->Bsta B Φ ks as all m c listed env Ec M->St F p env M a w->tw B Φ (toL all) (all.toList.drop c) Ec M K->Q .normal a w:=by
  intro listed c p env Ec M a w hs hl hmc hr S hst hk;have hall:=ahg hs hb hr
  have hc:all.toList.length<=c:=by
   rcases a1m c all.size with h|h
   ·have:=(hl c hmc h).1 (hall c h);omega
   ·simpa using h
  rw[a4x hc]at hk;simp only[tw]at hk;exact hQ p Ec M a w (hst.weak fun t=>.inr (S.a t fun i x h1 h2 h3=>absurd (hall i (a03.1 h2).1) h3).symm) hk
 have noready:∀(listed:Array Bool),listed.size=all.size->unl listed all.size=0->Region.ready .any all listed=[]:=by
  intro listed hs hu
  cases hr:Region.ready .any all listed with
  |nil=>rfl
  |cons i r=>obtain⟨o,h1,h2,_⟩:=vw (j:=i) (by rw[hr];simp);have hi:=(a03.1 h1).1;have:=aic hu i hi;unfold isL at this;simp[hs,hi]at this h2;rw[this]at h2;cases h2
 induction fuel with
 |zero=>intro listed c p env Ec M a w hs hl hm hu _ S hck hst hk;have hr:=noready listed hs (by omega);exact⟨hr,done listed c p env Ec M a w hs hl hm hr S hst hk⟩
 |succ fuel ih=>
  intro listed c p env Ec M a w hs hl hm hu hdn S hck hst hk;refine⟨fun hr=>done listed c p env Ec M a w hs hl hm hr S hst hk,fun j hj=>?_⟩;obtain⟨o,h1,h2,h3⟩:=vw hj;have hjs:=(a03.1 h1).1;have hnl:¬isL listed j:=by unfold isL;simp[hs,hjs]at h2⊢;exact h2
  have hmem:o∈all.toList:=by rw[a17];exact a3g h1
  have hset:∀i,isL (listed.setIfInBounds j true) i<->i=j\/isL listed i:=fun i=>ayb (by rw[hs];exact hjs);have hul:=akx (by rw[hs];exact hjs) hnl all.size hjs;by_cases hjm:j<m
  ·rcases S.h j hjm with h|⟨fj,x,t,e1,e2,e3,e4⟩
   ·exact absurd h hnl
   rw[h1]at e1;cases e1
   have hop:∀q∈o.op.operands,rd env q=rd Ec q:=fun q hq=>by
    cases q with
    |tmp t0=>
     have hlk:t0∈o.looksAt all:=a1t _ (a3t.2 ⟨.tmp t0,by simpa using hq,rfl⟩);refine S.a t0 fun i x hi hx hn hd=>?_;rcases S.h i hi with h|⟨fi,_⟩
     ·exact hn h
     rcases a1m i j with hij|hij
     ·have hpair:=yd (tm hdr hi hjm (by omega) hx h1) hd hlk;rw[d0 hij]at hpair;exact hn (lh hdn hb j o h1 h3 i hpair)
     ·exact ay7 hff hjm hi hij fj fi h1 hx hd hlk
    |const c=>rfl
    |global g=>rfl
    |func f=>rfl
   obtain⟨vc,hvc,hr0⟩:=e4.run (M:=M);have hr:evR B Φ o env M=⟨vc,gt Ec t,[],M⟩:=by rw[ace o hop];exact hr0
   refine wpOp_mono (fun a' w' ⟨p',env',M',q1,q2,q3⟩=>?_) (aq8 (rest:=[]) (K:=fun env' M'=>env'=(t,gt Ec t)::env/\M'=M) hΦ hB hst (by simp only[tw,e2,hr,e3,sm,wr,rp];exact⟨hvc,trivial,trivial⟩) (wx hco hmem) (hfv o hmem) h1 Q);subst q2;subst q3;refine ih _ c p' _ Ec _ a' w' (by simpa using hs) (fun i hi his=>?_) hm (by omega) (hdn.set hj) ⟨fun i hi=>?_,fun t' ht'=>?_⟩ hck q1 hk
   ·rw[hset];exact⟨fun h=>h.elim (fun h=>by omega) (hl i hi his).1,fun h=>.inr ((hl i hi his).2 h)⟩
   ·rcases S.h i hi with h|h
    ·exact .inl ((hset i).2 (.inr h))
    ·exact .inr h
   ·rw[km];by_cases htt:t=t'
    ·subst htt;rw[d0 rfl]
    ·rw[ds htt];refine S.a t' fun i x hi hx hn hd=>?_;by_cases hij:i=j
     ·subst hij;rw[h1]at hx;cases hx;rw[e3]at hd;cases hd;exact htt rfl
     ·exact ht' i x hi hx (fun h=>((hset i).1 h).elim hij hn) hd
  ·have hmj:m<=j:=by omega
   obtain⟨hg,hsp⟩:=ao2 ht hmj h1
   have hcj:c<=j:=by
    rcases a1m j c with h|h
    ·exact absurd ((hl j hmj hjs).2 h) hnl
    ·exact h
   have hjc:j=c:=by
    rcases a1m c j with h|h
    ·rcases hsp c h with hb1|⟨hb1,_⟩
     ·have:=lh hdn hb j o h1 h3 c hb1;have:=(hl c hm (by omega)).1 this;omega
     ·omega
    ·omega
   subst hjc
   have axc:∀{i:Nat},i<m->¬isL listed i->∃x,all[i]? = some x/\flt D R all x o=true:=fun {i} hi hn=>by
    rcases hsp i (by omega)with hb1|⟨_,h⟩
    ·exact absurd (lh hdn hb j o h1 h3 i hb1) hn
    ·exact h
   have hdrop:all.toList.drop j=o::all.toList.drop (j+1):=by rw[a4d (by simpa using hjs)];congr 1;have:=(a03.1 h1).2;simpa using this
   rw[hdrop]at hk hck;have hlook:∀t∈o.looksAt all,gt env t=gt Ec t:=fun t htl=>S.a t fun i x hi hx hn hd=>by obtain⟨x',hx',hf⟩:=axc hi hn;rw[hx]at hx';cases hx';obtain⟨_,_,t',ht',hnot,_⟩:=anp hf;rw[hd]at ht';cases ht';exact hnot htl
   have hrdE:∀x∈o.op.operands,rd env x=rd Ec x:=fun x hx=>by
    cases x with
    |tmp t=>exact hlook t (a1t _ (a3t.2 ⟨.tmp t,by simpa using hx,rfl⟩))
    |const c=>rfl
    |global g=>rfl
    |func f=>rfl
   have hev:evR B Φ o env M=evR B Φ o Ec M:=ace o hrdE;simp only[tw,hg]at hk;generalize hq:evR B Φ o Ec M=q at hk;obtain⟨vc,v,e,M1⟩:=q;simp only[sm]at hk;simp only[agk,hq,am,a0a,mi,a1f,kh,a1i,am6,bhm,atz,bod]at hck;rw[show j-m+1=j+1-m from by omega]at hck;refine wpOp_mono (fun a' w' ⟨p',env',M',q1,q2,q3⟩=>?_) (aq8 (rest:=[]) (K:=fun env' M'=>env'=wr o.dst v (rp env e)/\M'=M1) hΦ hB hst (by simp only[tw,hg,hev,hq,sm];exact⟨hk.1,trivial,trivial⟩) (wx hco hmem) (hfv o hmem) h1 Q);subst q2;subst q3;refine ih _ (j+1) p' _ (wr o.dst v (rp Ec e)) _ a' w' (by simpa using hs) (fun i hi his=>?_) (by omega) (by omega) (hdn.set hj) ⟨fun i hi=>?_,fun t' ht'=>?_⟩ hck.2 q1 hk.2
   ·rw[hset,hl i hi his];omega
   ·rcases S.h i hi with h|⟨f0,x,t1,f1,f2,f3,f4⟩
    ·exact .inl ((hset i).2 (.inr h))
    ·by_cases hn:isL listed i
     ·exact .inl ((hset i).2 (.inr hn))
     obtain⟨x',hx',hf⟩:=axc hi hn;rw[f1]at hx';cases hx';obtain⟨_,⟨_,hcv⟩,t',ht',_,hu⟩:=anp hf;rw[f3]at ht';cases ht'
     have hflag:aj3 ((adj all.toList m).drop (j-m))=true:=by
      have hbit:((ew [] all.toList).getD j 0).testBit i=false:=by
       cases hb1:((ew [] all.toList).getD j 0).testBit i with
       |false=>rfl
       |true=>exact absurd (lh hdn hb j o h1 h3 i hb1) hn
      rw[am6];exact bkv hmj (by simpa using hjs) hi hbit
     rw[am6]at hflag
     have hbit:((ew [] all.toList).getD j 0).testBit i=false:=by
      cases hb1:((ew [] all.toList).getD j 0).testBit i with
      |false=>rfl
      |true=>exact absurd (lh hdn hb j o h1 h3 i hb1) hn
     have hdo:uy x.op=true->(cz ks e=true/\AgM ks M' M)\/(aj9 M' x.op (wr o.dst v (rp Ec e))=true/\u7 ks (wr o.dst v (rp Ec e)) (cd x.op)=true/\ksV ks ((gt Ec t1).evs e)=true/\evR B Φ x (wr o.dst v (rp Ec e)) M'=⟨[],(gt Ec t1).evs e,[],M'⟩):=fun hdk=>by
      have hk2:=hck.1.1.2.resolve_left (by rw[hflag];simp)
      cases hRR:R with
      |false=>rw[hR hRR];exact .inl ⟨aqs e,fun k hk=>by cases hk⟩
      |true=>
       have fin:stB B Φ ks (hdP ((ac4 all.toList m).drop (j-m))) (wr o.dst v (rp Ec e)) M'=true->(cz ks e=true/\AgM ks M' M)\/(aj9 M' x.op (wr o.dst v (rp Ec e))=true/\u7 ks (wr o.dst v (rp Ec e)) (cd x.op)=true/\ksV ks ((gt Ec t1).evs e)=true/\evR B Φ x (wr o.dst v (rp Ec e)) M'=⟨[],(gt Ec t1).evs e,[],M'⟩):=fun h=>by
        obtain⟨d2,v2,M2,s1,s2,s3,s5,s6,s7⟩:=axo h (by rw[atz];exact apw hmj (by simpa using hjs) hi f1 hbit hdk);rw[f3]at s1;cases s1;have s4:=bpi hdk s2;subst s4;have e2:v2=(gt Ec t1).evs e:=by rw[s3,afb,ds (fun h=>(hu t1 h).1 rfl),u5]
        rw[e2]at s7 s2;exact .inr ⟨s5,s6,s7,s2⟩
       rcases hcv hRR hdk with hcall|hstr;rotate_left
       ·rcases hck.1.2 with h|h|h|h|h
        ·rw[hstr]at h;cases h
        ·have:ks=[]:=by
          revert h
          cases ks with
          |nil=>intro _;rfl
          |cons _ _=>intro h;cases h
         rw[this];exact .inl ⟨aqs e,fun k hk=>by cases hk⟩
        ·exfalso;have hin:=apw hmj (by simpa using hjs) hi f1 hbit hdk;have:=ay0 h hin;rw[hdk]at this;cases this
        ·exact .inl ⟨h,bj2 hstr hq hk.1 h⟩
        ·exact fin (by rw[atz];exact h)
       rcases hk2 with h|h|h|h
       ·have:ks=[]:=by
         revert h
         cases ks with
         |nil=>intro _;rfl
         |cons _ _=>intro h;cases h
        rw[this];exact .inl ⟨aqs e,fun k hk=>by cases hk⟩
       ·rw[hcall]at h;cases h
       ·exact .inl ⟨h,bjg hcall hq hk.1 h⟩
       ·obtain⟨d2,v2,M2,s1,s2,s3,s5,s6,s7⟩:=axo h (apw hmj (by simpa using hjs) hi f1 hbit hdk);rw[f3]at s1;cases s1;have s4:=bpi hdk s2;subst s4;have e2:v2=(gt Ec t1).evs e:=by rw[s3,afb,ds (fun h=>(hu t1 h).1 rfl),u5]
        rw[e2]at s7 s2;exact .inr ⟨s5,s6,s7,s2⟩
     refine .inr ⟨f0,x,t1,f1,f2,f3,?_⟩;have e1:gt (wr o.dst v (rp Ec e)) t1=(gt Ec t1).evs e:=by rw[afb,ds (fun h=>(hu t1 h).1 rfl),u5]
     rw[e1];refine f4.look hck.1.1.1 hdo fun t0 g1=>?_;have hlk:t0∈x.looksAt all:=a1t _ (a3t.2 ⟨.tmp t0,by simpa using g1,rfl⟩);rw[afb,ds (fun h=>(hu t0 h).2 hlk),u5]
   ·rw[afb,afb];split
    ·rfl
    ·rw[u5,u5,S.a t' fun i x hi hx hn hd=>ht' i x hi hx (fun h=>((hset i).1 h).elim (fun h=>by omega) hn) hd]
theorem Hctx.nogd(C:Hctx D R Ds ks as B Φ all m E X N M0){j:Nat}(hj:j<=m)(t:Nat):vo (gt (E j) t)=false:=by
 have key:vl (gt (E j) t)=true:=by
  by_cases hw:∃(i:Nat) (x:Oper),all[i]? = some x/\i<j/\x.dst=some t
  ·obtain⟨i,x,e1,e2,e3⟩:=hw;rw[(C.gts j t hj).2 i x e1 e2 e3];obtain⟨d',v',vc',ev',H'⟩:=C.hE i x e1 (by omega);have:d'=t:=by have:=H'.dst;rw[e3]at this;exact (a28 this).symm
   subst this;rw[H'.he,km,d0 rfl];exact H'.gd
  ·rw[(C.gts j t hj).1 fun i o h1 h2 h3=>hw ⟨i,o,h1,h2,h3⟩];exact C.h0 t
 cases hv:gt (E j) t with
 |gd _ _ _ _=>rw[hv]at key;cases key
 |_=>rfl
theorem Hctx.grow(C:Hctx D R Ds ks as B Φ all m E X N M0){i:Nat}(hi:i<=m){k:Nat}(hg:go (ap (X i) M0) k≠none):go (ap (X m) M0) k=go (ap (X i) M0) k:=by
 have step:∀j,j<m->go (ap (X j) M0) k≠none->go (ap (X (j+1)) M0) k=go (ap (X j) M0) k:=fun j hj hg=>by
  obtain⟨d,v,vc,ev,H⟩:=C.hE j _ (C.get hj) hj;have hn:k∉cc (N j):=fun hm=>by have h1:=aev H.n0 k hm;have h2:=aev H.nX k hm;rw[acw,h2]at hg;exact hg h1
  have hN:go (N j) k=none:=a3u fun e=>hn (wv.2 e);rw[H.x,acw,acw,acw,hN]
 have key:∀n,i+n<=m->go (ap (X (i+n)) M0) k=go (ap (X i) M0) k:=fun n=>by
  induction n with
  |zero=>intro _;rfl
  |succ n ih=>intro hn;have h1:=ih (by omega);rw[←a3k,step (i+n) (by omega) (by rw[h1];exact hg),h1]
 have:=key (m-i) (by omega)
 rwa [show i+(m-i)=m by omega]at this
theorem Hctx.turn(C:Hctx D R Ds ks as B Φ all m E X N M0){listed:Array Bool}{env:Env}{M:Mem}(hl:∀i,i<all.size->isL listed i->i<m)(hdn:aik all listed)(S:Hsta all m E N M0 listed env M)(hall:∀i,i<m->tc all.size (ew [] all.toList) m i=false->isL listed i) :
  Bsta B Φ ks as all m m listed env (E m) (ap (X m) M0):=by
 have hlm:∀{i:Nat} {x:Oper},all[i]? = some x->isL listed i->i<m:=fun h1 h2=>hl _ (a03.1 h1).1 h2;refine⟨fun i hi=>?_,fun t ht=>?_⟩
 ·by_cases hn:isL listed i
  ·exact .inl hn
  right
  have fi:tc all.size (ew [] all.toList) m i=true:=by
   cases h:tc all.size (ew [] all.toList) m i with
   |true=>rfl
   |false=>exact absurd (hall i hi h) hn
  refine⟨fi,?_⟩;obtain⟨j,hj1,hj2,hj3⟩:=ay5 fi;obtain⟨_,hsp⟩:=ao2 C.ht hj1 (a23 hj2);rcases hsp i (by omega)with h|⟨_,x,hx,hf⟩
  ·rw[hj3]at h;cases h
  obtain⟨g1,g2,t,g3,_,_⟩:=anp hf;obtain⟨d,v,vc,ev,H⟩:=C.hE i x hx hi;have hd:d=t:=by have:=H.dst;rw[g3]at this;exact (a28 this).symm
  subst hd;obtain⟨N',hr,hN⟩:=H.r
  have hF:FlI B Φ ks as x (E i) (ap (X m) M0) v:=by
   rw[bjf,mi,a1f]at g2;rcases g2.1 with g2|g2
   ·exact FlI.of (B:=B) (Φ:=Φ) g2 (fun t=>C.nogd (by omega) t) hr H.hv
   ·simp only[am,a0a]at g2;rcases H.dt (C.hD g2.1 i hi fi) g2.2 with hbx|⟨q1,q2⟩
    ·have h4:∃t t0 k,x.op=.load t (.tmp t0)/\gt (E i) t0=.bx (.ad k [.de])/\inN k as=true/\bhc (B.τ t)=true:=by
      unfold bxK at hbx;split at hbx
      ·rename_i t t0 ho;split at hbx
       ·rename_i k π hg;simp only[au,bh,a0k,a0a]at hbx;exact⟨t,t0,k,ho,by rw[hg,ahq hbx.1],hbx.2.1,hbx.2.2⟩
       ·cases hbx
      ·cases hbx
     obtain⟨t,t0,k,ho,hg,hk,hb⟩:=h4;obtain⟨vc',_,hrun⟩:=FlI.run (M:=ap (X i) M0) (B:=B) (Φ:=Φ) (ks:=ks) (as:=as) (x:=x) (env:=E i) (y:=.ad k [.de]) (.inr (.inr (.inr ⟨t,t0,k,ho,hg,rfl,hk,hb⟩)));rw[hr]at hrun;simp only[Rs.mk.injEq]at hrun;exact .inr (.inr (.inr ⟨t,t0,k,ho,hg,hrun.2.1,hk,hb⟩))
    have hkl:=H.kl;rw[hN]at hkl;have hev:ev=[]:=bf4 g2.2 hr hkl;subst hev;refine .inr (.inr (.inl ⟨g2.2,q1,q2,vc,H.hv,fun M' hM=>?_⟩));rw[bdz (M:=M') H.k (fun hlv q hq=>am1 (ks:=ks) (fun k hk hg=>(hM k hk).trans (C.grow (by omega) hg)) _ (aj6 q1 _ hq) (ahp hlv _ hq)) hr H.hv hkl];rfl
  refine⟨x,d,hx,g1,g3,?_⟩;have hv:gt (E m) d=v:=by rw[(C.gts m d (a0f _)).2 i x hx hi g3,H.he,km,d0 rfl]
  rw[hv];refine hF.same fun t0 k1=>?_;have hlk:t0∈x.looksAt all:=a1t _ (a3t.2 ⟨.tmp t0,by simpa using k1,rfl⟩);by_cases hw:∃(i':Nat) (x':Oper),all[i']? = some x'/\i'<m/\x'.dst=some t0
  ·obtain⟨i',x',e1,e2,e3⟩:=hw;by_cases hii:i'<i
   ·rw[(C.gts m t0 (a0f _)).2 i' x' e1 e2 e3,(C.gts i t0 (by omega)).2 i' x' e1 hii e3]
   ·exfalso
    have fi':tc all.size (ew [] all.toList) m i'=true:=by
     cases h:tc all.size (ew [] all.toList) m i' with
     |true=>rfl
     |false=>
      exfalso;have hli:=hall i' e2 h;by_cases e:i'=i
      ·subst e;exact hn hli
      ·have hpair:=yd (tm C.hdr e2 hi e e1 hx) e3 hlk;rw[ds hii]at hpair;exact hn (lh hdn C.hb i' x' e1 (fun e' he' hb'=>hdn i' x' e1 hli e' he' hb') i hpair)
    exact ay7 C.hf hi e2 (by omega) fi fi' hx e1 e3 hlk
  ·rw[(C.gts m t0 (a0f _)).1 fun i x h1 h2 h3=>hw ⟨i,x,h1,h2,h3⟩,(C.gts i t0 (by omega)).1 fun i x h1 h2 h3=>hw ⟨i,x,h1,by omega,h3⟩]
 ·obtain⟨g1,g2⟩:=C.gts m t (a0f _);by_cases hw:∃(i:Nat) (x:Oper),all[i]? = some x/\i<m/\x.dst=some t
  ·obtain⟨i,x,e1,e2,e3⟩:=hw;have hli:isL listed i:=Classical.byContradiction fun hn=>ht i x e2 e1 hn e3;rw[g2 i x e1 e2 e3,S.b i x t e1 hli e3]
  ·rw[g1 fun i o h1 h2 h3=>hw ⟨i,o,h1,h2,h3⟩,S.a t fun i o h1 h2 h3=>hw ⟨i,o,h1,hlm h1 h2,h3⟩]
theorem Hctx.flN(C:Hctx D R Ds ks as B Φ all m E X N M0){i:Nat}(hi:i<m)(fi:tc all.size (ew [] all.toList) m i=true):cc (N i)=[]:=by
 obtain⟨j,hj1,hj2,hj3⟩:=ay5 fi;obtain⟨_,hsp⟩:=ao2 C.ht hj1 (a23 hj2);rcases hsp i (by omega)with h|⟨_,x,hx,hf⟩
 ·rw[hj3]at h;cases h
 obtain⟨_,g2,_⟩:=anp hf;obtain⟨d,v,vc,ev,H⟩:=C.hE i x hx hi;obtain⟨N',hr,hN⟩:=H.r
 have he:ev=[]:=by
  rw[bjf,mi,a1f]at g2;rcases g2.1 with g2|g2
  ·unfold awv at g2;split at g2
   ·rename_i ho;simp only[evR,ho,c6,cq,Rs.mk.injEq]at hr;exact hr.2.2.1.symm
   ·rename_i ho;simp only[evR,ho,c6,cq,Rs.mk.injEq]at hr;exact hr.2.2.1.symm
   ·rename_i ho;simp only[evR,ho,c6,cq,Rs.mk.injEq]at hr;exact hr.2.2.1.symm
   ·cases g2
  ·simp only[am,a0a]at g2;have hkl:=H.kl;rw[hN]at hkl;exact bf4 g2.2 hr hkl
 rw[hN,he];rfl
theorem Hctx.fin(C:Hctx D R Ds ks as B Φ all m E X N M0){listed:Array Bool}{env:Env}{M:Mem}(hl:∀i,i<all.size->isL listed i->i<m)(S:Hsta all m E N M0 listed env M)(hall:∀i,i<m->tc all.size (ew [] all.toList) m i=false->isL listed i) :
  ∀k,go (ap (X m) M0) k=go M k:=by
 have hm:=C.hm;intro k;rw[acw];obtain⟨x1,x2⟩:=C.xs m (a0f _) k;by_cases hw:∃i,i<m/\k∈cc (N i)
 ·obtain⟨i,h1,h2⟩:=hw
  have hli:isL listed i:=by
   cases h:tc all.size (ew [] all.toList) m i with
   |false=>exact hall i h1 h
   |true=>rw[C.flN h1 h]at h2;cases h2
  rw[(x1 i h1 h2).1,S.d i k (by omega) hli h2]
  cases hg:go (N i) k with
  |none=>exact absurd hg (wv.1 h2)
  |some ob=>rfl
 ·rw[x2 fun i h1 h2=>hw ⟨i,h1,h2⟩];simp only;exact (S.c k fun i hi hli h2=>hw ⟨i,hl i hi hli,h2⟩).symm
theorem Hctx.any(hΦ:si P F Φ)(hB:TabOk P B)(C:Hctx D R Ds ks as B Φ all m E X N M0)(Q:Exit->Act->World->Prop)(K:Env->Mem->Prop)(hQ:∀p env M a w,St F p env M a w->K env M->Q .normal a w)(hco:me F.nt all.toList=true)(hfv:∀o∈all.toList,∀k,o.dst=some k->F.fv k=none)
  (hlast:tw B Φ (toL all) (all.toList.drop m) (E m) (ap (X m) M0) K) (hck:agk ks as B Φ (ac4 all.toList m) (adj all.toList m) (all.toList.drop m) (E m) (ap (X m) M0)=true) :
  ∀(fuel:Nat) (listed:Array Bool) (p:Ow) (env:Env) (M:Mem) (a:Act) (w:World),listed.size=all.size->(∀i,i<all.size->isL listed i->i<m)->unl listed all.size<=fuel->aik all listed->Hsta all m E N M0 listed env M->St F p env M a w->wpAny P .any all Q fuel listed a w:=by
 have hm:=C.hm;have huq:∀(i j:Nat) (x y:Oper) (t:Nat),i<m->j<m->all[i]? = some x->all[j]? = some y->x.dst=some t->y.dst=some t->i=j:=fun i j x y t hi hj hx hy h1 h2=>C.uniq hi hj hx hy h1 h2;have last:∀(fuel:Nat) (listed:Array Bool) (p:Ow) (env:Env) (M:Mem) (a:Act) (w:World),listed.size=all.size->(∀i,i<all.size->isL listed i->i<m)->unl listed all.size<=fuel->aik all listed->Hsta all m E N M0 listed env M->St F p env M a w->(∀i,i<m->tc all.size (ew [] all.toList) m i=false->isL listed i)->wpAny P .any all Q fuel listed a w:=by intro fuel listed p env M a w hs hl hu hdn S hst hall;exact bqn hΦ hB Q K hQ C.hb C.ht C.hR C.hf huq C.hdr hco hfv fuel listed m p env (E m) (ap (X m) M0) a w hs (fun i hi his=>⟨fun h=>hl i his h,fun h=>absurd h (by omega)⟩) (a0f _) hu hdn (C.turn hl hdn S hall) (by rw[Nat.sub_self];exact hck) (hst.same (C.fin hl S hall) fun _=>rfl) hlast
 intro fuel
 induction fuel with
 |zero=>intro listed p env M a w hs hl hu hdn S hst;exact last 0 listed p env M a w hs hl hu hdn S hst fun i hi _=>aic (Nat.le_zero.1 hu) i (by omega)
 |succ fuel ih=>
  intro listed p env M a w hs hl hu hdn S hst;by_cases hall:∀i,i<m->tc all.size (ew [] all.toList) m i=false->isL listed i
  ·exact last (fuel+1) listed p env M a w hs hl hu hdn S hst hall
  ·refine⟨fun hr=>absurd (fun i hi _=>ahg hs C.hb hr i (by omega)) hall,fun j hj=>?_⟩;obtain⟨o,h1,h2,h3⟩:=vw hj;have hjs:=(a03.1 h1).1;have hnl:¬isL listed j:=by unfold isL;simp[hs,hjs]at h2⊢;exact h2
   have hjm:j<m:=by
    rcases a1m j m with h|h
    ·exact h
    ·exact absurd (fun i _ hf=>lh hdn C.hb j o h1 h3 i (bmy hf hjs h)) hall
   have hmem:o∈all.toList:=by rw[a17];exact a3g h1
   refine wpOp_mono (fun a' w' ⟨p',env',M',e1,e2⟩=>ih _ p' env' M' a' w' (by simpa using hs) (fun i hi hli=>?_) ?_ (hdn.set hj) e2 e1) (aq8 hΦ hB hst (C.step hs hl hdn S hst h1 hjm hnl h3) (wx hco hmem) (hfv o hmem) h1 Q)
   ·rcases (ayb (by rw[hs];exact hjs)).1 hli with h|h
    ·omega
    ·exact hl i hi h
   ·have:=akx (by rw[hs];exact hjs) hnl all.size hjs;omega
theorem bbn(hΦ:si P F Φ)(hB:TabOk P B){ops:Array Oper}{cut:Nat}(hco:me F.nt (toL ops)=true)(hfv:∀o∈toL ops,∀k,o.dst=some k->F.fv k=none)(hr:apo D R (toL ops) cut=true)(hR:R=false->ks=[])(hD:D=true->∀i,i<cut->tc (toL ops).length (ew [] (toL ops)) cut i=true->Ds.getD i false=true){K:Env->Mem->Prop}{Q:Exit->Act->World->Prop}
  (hQ:∀p env M a w,St F p env M a w->K env M->Q .normal a w) {p:Ow} {env:Env} {M:Mem} {a:Act} {w:World} (h:St F p env M a w) (hn:y9 env=true)
  (hk:hx Ds ks as B Φ M (fk cut (toL ops)) env [] (fun env X=>bif nob (nogd env) (agk ks as B Φ (ac4 (toL ops) cut) (adj (toL ops) cut) (tj cut (toL ops)) env (ap X M))then twG B Φ (toL ops) (tj cut (toL ops)) env (ap X M) K else False)):wpAny P .any ops Q ops.size (Array.replicate ops.size false) a { w with drawn:=w.drawn+1 }:=by
 rw[dh]at hco hfv hr;rw[anf,asj]at hk;simp only[apo,a0a]at hr;obtain⟨h1,h2,h3,h5,h4⟩:=hr;obtain⟨E,X,N,e0,x0,e1,e2⟩:=bc6 _ _ _ _ _ hk;have hm:cut<=ops.toList.length:=a15 h2;have hm':cut<=ops.size:=by simpa using hm
 rw[dh,a1d,a37 hm]at e2
 cases hng0:nob (nogd (E cut)) (agk ks as B Φ (ac4 ops.toList cut) (adj ops.toList cut) (ops.toList.drop cut) (E cut) (ap (X cut) M))with
 |false=>rw[hng0]at e2;exact e2.elim
 |true=>
 rw[hng0]at e2;simp only[a0c]at e2;simp only[am,a0a]at hng0;obtain⟨hng,hck⟩:=hng0;replace e2:=ai1 (B:=B) (Φ:=Φ) _ _ _ (aip hng) e2
 have C:Hctx D R Ds ks as B Φ ops cut E X N M:={
  hR:=hR
  hD:=fun h i hi hf=>hD h i hi (by rw[dh];simpa using hf)
  hb:=h1
  hm:=hm'
  ht:=by simpa using h3
  hf:=by simpa using h5
  hdr:=by simpa using h4
  hE:=fun j o ho hj=>e1 j o (by rw[dh,a27 hj,ac6];exact ho)
  hX:=x0
  h0:=fun t=>by rw[e0];exact bb9 hn }
 exact C.any hΦ hB Q K hQ hco hfv (by simpa only [dh]using e2) hck _ _ p env M a _ (by simp) (fun i _ hi=>absurd hi aet) (bcp _ _) (fun j o _ hi=>absurd hi aet)
  ⟨fun t _=>by rw[e0],fun i o t _ hi=>absurd hi aet,fun k _=>rfl,fun i k _ hi=>absurd hi aet⟩ h.drew
theorem bfv(hΦ:si P F Φ)(hB:TabOk P B)(hmix:P.follows .mixedOrders=true){id:Nat}{ops:Array Oper}{cut:Nat}(hco:me F.nt (toL ops)=true)(hfv:∀o∈toL ops,∀k,o.dst=some k->F.fv k=none)(hr:apo D R (toL ops) cut=true)(hR:R=false->ks=[])(hD:D=true->∀i,i<cut->tc (toL ops).length (ew [] (toL ops)) cut i=true->Ds.getD i false=true){K:Env->Mem->Prop}{Q:Exit->Act->World->Prop}
  (hQ:∀p env M a w,St F p env M a w->K env M->Q .normal a w) {p:Ow} {env:Env} {M:Mem} {a:Act} {w:World} (h:St F p env M a w) (hn:y9 env=true)
  (hk:hx Ds ks as B Φ M (fk cut (toL ops)) env [] (fun env X=>bif nob (nogd env) (agk ks as B Φ (ac4 (toL ops) cut) (adj (toL ops) cut) (tj cut (toL ops)) env (ap X M))then twG B Φ (toL ops) (tj cut (toL ops)) env (ap X M) K else False)):(Code.region id ops true).wp P Q a w:=
 wp_region_any hmix (bbn hΦ hB hco hfv hr hR hD hQ h hn hk)
end
end
end Go.Bm
