/- The typed machine that the walks of this claim go by: its data, its operations and the proof that each is sound. No condition. -/
import Derived.Test.YtimfdllgcnabjaaGreatBmThree
set_option linter.unusedVariables false
set_option linter.unusedSimpArgs false
set_option linter.unusedSectionVars false
/- The ff machine:the state is read back. -/
namespace Go.Bm
open Go.RowKit
abbrev a2j:=@Bool.or_eq_false_iff
abbrev a2t:=@Bool.not_eq_false'
abbrev a4b:=@Bool.or_true
abbrev a2u:=@Code.wp_mono
abbrev a41:=@wp_region_any
abbrev a3g:=@Array.getElem?_eq_getElem
abbrev a29:=@Decidable.byContradiction
abbrev a4c:=@Classical.byContradiction
abbrev a42:=@List.mem_range
abbrev a31:=@List.getD_cons_zero
abbrev a4d:=@Nat.sub_self
section
variable {F:Fr} {p p' p'':Ow} {env:Env} {M M' M'':Mem} {a:Act} {w w' w'':World}
theorem Tr.mv(h:Hp F p M w){j k:Nat}{ob:Ob}(hj:go M j=some ob)(hk:go M k=none)(hg:j<gid) :
  Tr F p M w [.mv j k] ⟨fun i=>if i=k then p.β j else p.β i,fun i=>if i=k then p.σ j else p.σ i,p.L⟩ ((k,ob)::del j M) w:=by
 generalize hp':(⟨fun i=>if i=k then p.β j else p.β i,fun i=>if i=k then p.σ j else p.σ i,p.L⟩:Ow)=p';have hjk:j≠k:=by rintro rfl;rw[hj]at hk;cases hk
 have hβk:p'.β k=p.β j:=by rw[←hp'];simp
 have hσk:p'.σ k=p.σ j:=by rw[←hp'];simp
 have hβ:∀i,i≠k->p'.β i=p.β i:=fun i hi=>by rw[←hp'];simp[hi]
 have hσ:∀i,i≠k->p'.σ i=p.σ i:=fun i hi=>by rw[←hp'];simp[hi]
 have hL:p'.L=p.L:=by rw[←hp']
 have hgk:go ((k,ob)::Bm.del j M) k=some ob:=qd _ _ _;have hgi:∀i,i≠k->i≠j->go ((k,ob)::Bm.del j M) i=go M i:=fun i h1 h2=>by rw[dn,ds (a0u h1),dx h2]
 have hgj:go ((k,ob)::Bm.del j M) j=none:=by rw[dn,ds (a0u hjk),dy]
 have hlive:∀i,c6 ((k,ob)::Bm.del j M) i->i=k\/(i≠k/\i≠j/\c6 M i):=fun i hi=>by
  by_cases e:i=k
  ·exact .inl e
  ·by_cases e':i=j
   ·subst e';unfold c6 at hi;rw[hgj]at hi;cases hi
   ·refine .inr ⟨e,e',?_⟩;unfold c6 at hi⊢;rwa [hgi i e e']at hi
 have hlj:=cq hj
 have hkeep:ju (Imm F p M w) (Imm F p' ((k,ob)::Bm.del j M) w) w w:=fun b hb=>by
  refine⟨⟨hb.1,hb.2.1,by rw[hL];exact hb.2.2.1,fun i hi=>?_⟩,rfl⟩;rcases hlive i hi with rfl|⟨h1,h2,h3⟩
  ·rw[hσk];exact hb.2.2.2 j hlj
  ·rw[hσ i h1];exact hb.2.2.2 i h3
 have hne:∀i,c6 M i->i≠k:=fun i hi e=>by subst e;unfold c6 at hi;rw[hk]at hi;cases hi
 refine Tr.one _ hkeep (fun i π vs r=>?_) (fun i π v r=>?_) ⟨fun i o hi=>?_,fun i i' b hne' hi hi' hb=>?_,fun i b hi hb=>?_,fun b hb=>?_,h.os,h.tape,h.output,h.size,h.old⟩
 ·simp only[Ev.ref,dg];have hik:i≠k:=by obtain⟨o,_,h1,_⟩:=r;exact hne i (cq h1)
  split
  ·rename_i e;subst e;simp only[ak];obtain⟨o,pl,h1,h2,h3,h4⟩:=r;rw[hj]at h1;cases h1;exact⟨ob,pl,hgk,h2,h3,by rw[hβk];exact h4⟩
  ·rename_i e;simp only[ak];exact r.same h (hgi i hik e) (hβ i hik) (fun _ _ _=>rfl)
 ·simp only[Ev.ad,dg];have hik:i≠k:=by obtain⟨o,_,_,_,h1,_⟩:=r;exact hne i (cq h1)
  split
  ·rename_i e;subst e;simp only[ak];obtain⟨o,us,b,off,h1,h2,h3,h4,h5,h6⟩:=r;rw[hj]at h1;cases h1;exact⟨v,rfl,ob,us,b,off,hgk,h2,h3,h4,by rw[hβk];exact h5,h6⟩
  ·rename_i e;simp only[ak];exact⟨v,rfl,r.same h (hgi i hik e) (hβ i hik) (fun _ _ _=>rfl)⟩
 ·rcases hlive i (cq hi)with rfl|⟨h1,h2,h3⟩
  ·rw[hgk]at hi;cases hi;rw[hβk,hσk];exact Rel.keep hkeep _ _ _ _ (fun _ _=>rfl) (h.objs j ob hj)
  ·rw[hgi i h1 h2]at hi;rw[hβ i h1,hσ i h1];exact Rel.keep hkeep _ _ _ _ (fun _ _=>rfl) (h.objs i o hi)
 ·rcases hlive i hi with e|⟨h1,h2,h3⟩
  ·rcases hlive i' hi' with e'|⟨h1',h2',h3'⟩
   ·exact absurd (e.trans e'.symm) hne'
   ·rw[e,hσk]at hb;rw[hσ i' h1'];exact h.sep j i' b (a0u h2') hlj h3' hb
  ·rw[hσ i h1]at hb;rcases hlive i' hi' with e'|⟨h1',h2',h3'⟩
   ·rw[e',hσk];exact h.sep i j b h2 h3 hlj hb
   ·rw[hσ i' h1'];exact h.sep i i' b hne' h3 h3' hb
 ·rcases hlive i hi with e|⟨h1,h2,h3⟩
  ·rw[e,hσk]at hb;obtain⟨o1,o2⟩:=h.own j b hlj hb;exact⟨o1,o2.elim (fun h=>by have:=h.1;omega) .inr⟩
  ·rw[hσ i h1]at hb;exact h.own i b h3 hb
 ·rw[hL]at hb;obtain⟨l1,l2,l3⟩:=h.lim b hb;refine⟨l1,l2,fun i hi=>?_⟩;rcases hlive i hi with e|⟨h1,h2,h3⟩
  ·rw[e,hσk];exact l3 j hlj
  ·rw[hσ i h1];exact l3 i h3
theorem St.desc(h:St F p env M a w)(t:Nat)(x:V)(hx:ao p.β M (Imm F p M w) w x (a.tmps.getD t undef)):St F p ((t,x)::env) M a w:=by
 refine⟨h.defers,h.nt,h.fix,h.ik,h.lz,fun t'=>?_,h.hp⟩;rw[iy];by_cases e:t=t'
 ·subst e;rw[a0a rfl];exact hx
 ·rw[ds e];exact h.slots t'
theorem qf(os:Obs):(ss:Shs)->(p:Ow)->(env:Env)->(M:Mem)->St F p env M a w->∃p',St F p' (um os ss env M).1 (um os ss env M).2 a w
 |[],p,env,M,h=>⟨p,h⟩
 |(t,.d _)::r,p,env,M,h|(t,.ad _ _)::r,p,env,M,h|(t,.fn _)::r,p,env,M,h|(t,.bx _)::r,p,env,M,h|(t,.fc _ _)::r,p,env,M,h|(t,.pr _ _)::r,p,env,M,h|(t,.u)::r,p,env,M,h|(t,.ref _ (_::_))::r,p,env,M,h=>by simp only[um];exact qf os r p env M h
 |(t,.ref k [])::r,p,env,M,h=>by
  simp only[um];split
  ·rename_i o hnl _;have hs:=h.slots t;rw[hnl]at hs;simp only[ao,ak,a0q,a0c]at hs;have h1:St F p (evE (.kl k) env) (del k M) a w:=h.tr (Tr.kl h.hp k) h.lz;obtain⟨oa,hs⟩:=hs;have h2:=Tr.new h1.hp k (dy k M) (.slice oa 0 0) (fun _=>False) ⟨.sl o,[]⟩ ⟨rfl,⟨rfl,a0k _⟩,rfl,a0k _,fun _ _ _=>rfl⟩ (fun b hb=>hb.elim) (fun _=>aqc o oa);have h3:St F _ (evE (.kl k) env) ((k,⟨.sl o,[]⟩)::del k M) a w:=h1.tr h2 (fun b hb=>hb);refine qf os r _ _ _ (h3.desc t (.ref k []) ?_);simp only[ao,ak];refine⟨⟨.sl o,[]⟩,none,qd _ _ _,by simp only[gok],⟨⟨.sl o,[]⟩,by simp only[get]⟩,?_⟩;rw[ain,hs];simp only[res]
  ·rename_i j x
   cases hb:orb (Nat.beq j k) (neg (Nat.ble (Nat.succ j) gid))with
   |true=>simp only[a0d];exact qf os r p env M h
   |false=>
    simp only[a0j];simp only[lq,qu,a2j,a2t]at hb;split
    ·rename_i ob hj;have hjk:j≠k:=by rintro rfl;simp at hb
     have h1:St F p (evE (.kl k) env) (del k M) a w:=h.tr (Tr.kl h.hp k) h.lz;have h2:=Tr.mv h1.hp (j:=j) (k:=k) (ob:=ob) (by rw[dx hjk];exact hj) (dy k M) (a08 hb.2);have h3:St F _ (evE (.mv j k) (evE (.kl k) env)) ((k,ob)::del j (del k M)) a w:=h1.tr h2 h1.lz;exact qf os r _ _ _ h3
    ·exact qf os r p env M h
  ·exact qf os r p env M h
theorem bkr:(os:Obs)->(p:Ow)->(env:Env)->(M:Mem)->St F p env M a w->∃p',St F p' (bcd os env M).1 (bcd os env M).2 a w:=fun _ p _ _ h=>⟨p,h⟩
theorem xj(os:Obs):(ks:List Nat)->(M:Mem)->(env:Env)->St F p env M a w->St F p (ql os ks M env).1 (ql os ks M env).2 a w
 |[],M,env,h=>h
 |k::r,M,env,h=>by
  simp only[ql]
  cases inO k os with
  |true=>simp only[a0d];exact xj os r M env h
  |false=>
   simp only[a0j];split
   ·rename_i ob hk;have h1:St F p (evE (.fz k ob) env) (del k M) a w:=h.tr (Tr.frz h.hp k ob hk) h.lz;exact xj os r _ _ h1
   ·exact xj os r M env h
theorem avn(M:Mem):(os:Obs)->(x:rn os)->aal M os=some x->∀k ob,go (ml os x) k=some ob->oOf k os=some ob.o/\∃q,go M k=some q/\wkO q ob.o=some ob.x
 |[],x,h,k,ob,hk=>by simp[ml,go]at hk
 |(j,o)::r,x,h,k,ob,hk=>by
  simp only[aal]at h;split at h
  ·rename_i q hq;split at h
   ·rename_i y z hy hz;cases h;simp only[ml]at hk;rw[dn]at hk;simp only[oOf,dg];by_cases e:j=k
    ·subst e;rw[a0a rfl]at hk⊢;cases hk;exact⟨rfl,q,hq,hy⟩
    ·rw[ds e]at hk⊢;exact avn M r z hz k ob hk
   ·cases h
  ·cases h
theorem an8(M:Mem):(os:Obs)->(x:rn os)->aal M os=some x->∀k o,oOf k os=some o->∃y,go (ml os x) k=some ⟨o,y⟩
 |[],x,h,k,o,hk=>by simp[oOf]at hk
 |(j,o')::r,x,h,k,o,hk=>by
  simp only[aal]at h;split at h
  ·rename_i q hq;split at h
   ·rename_i y z hy hz;cases h;simp only[oOf,dg]at hk;simp only[ml];rw[dn];by_cases e:j=k
    ·subst e;rw[a0a rfl]at hk⊢;cases hk;exact⟨y,rfl⟩
    ·rw[ds e]at hk⊢;exact an8 M r z hz k o hk
   ·cases h
  ·cases h
theorem afn{q:Ob}{o:O}{x:o.strip.den}(h:wkO q o=some x):q.o.wk o=true/\rj o.strip q.x=some x:=by
 unfold wkO at h
 cases hw:q.o.wk o with
 |false=>rw[hw]at h;cases h
 |true=>rw[hw]at h;exact⟨rfl,h⟩
theorem cb5(h:Hp F p M w)(hL:∀b,¬p.L b)(os:Obs)(x:rn os)(hx:aal M os=some x):∃p',p'.β=p.β/\(∀b,¬p'.L b)/\ju (Imm F p M w) (Imm F p' (ml os x) w) w w/\Hp F p' (ml os x) w:=by
 classical
 have hall:∀k ob,go (ml os x) k=some ob->c6 M k/\Wk (Imm F p M w) w ob.o ob.x (p.σ k) [p.β k]:=fun k ob hk=>by obtain⟨_,q,h1,h2⟩:=avn M os x hx k ob hk;obtain⟨h3,h4⟩:=afn h2;exact⟨cq h1,acg q.o ob.o h3 q.x ob.x _ _ h4 (h.objs k q h1)⟩
 let σ':Nat->Nat->Prop:=fun k=>if hk:∃ob,go (ml os x) k=some ob then (hall k hk.choose hk.choose_spec).2.choose else fun _=>False
 have hσ:∀k ob,go (ml os x) k=some ob->(∀b,σ' k b->p.σ k b)/\∀Im':Nat->Prop,(∀b,Imm F p M w b->Im' b)->(∀b,p.σ k b->¬σ' k b->Im' b)->Rel Im' w ob.o ob.x (σ' k) [p.β k]:=fun k ob hk=>by
  have hex:∃ob,go (ml os x) k=some ob:=⟨ob,hk⟩;have e1:σ' k=(hall k hex.choose hex.choose_spec).2.choose:=by simp only[σ',dif_pos hex]
  have h2:=(hall k hex.choose hex.choose_spec).2.choose_spec;have e2:ob=hex.choose:=a28 (hk.symm.trans hex.choose_spec);rw[e1,e2];exact h2
 have hlv:∀k,c6 (ml os x) k->c6 M k/\∀b,σ' k b->p.σ k b:=fun k hk=>by obtain⟨ob,ho⟩:=bd8 hk;exact⟨(hall k ob ho).1,(hσ k ob ho).1⟩
 have hkeep:ju (Imm F p M w) (Imm F ⟨p.β,σ',fun _=>False⟩ (ml os x) w) w w:=fun b hb=>⟨⟨hb.1,hb.2.1,fun h=>h,fun k hk hs=>hb.2.2.2 k (hlv k hk).1 ((hlv k hk).2 b hs)⟩,rfl⟩;refine⟨⟨p.β,σ',fun _=>False⟩,rfl,fun b hb=>hb,hkeep,⟨fun k ob hk=>?_,fun k k' b hne hk hk' hb hb'=>?_,fun k b hk hb=>?_,fun b hb=>hb.elim,h.os,h.tape,h.output,h.size,h.old⟩⟩
 ·refine (hσ k ob hk).2 _ (fun b hb=>(hkeep b hb).1) (fun b hb hn=>?_);have hlk:=(hall k ob hk).1;obtain⟨o1,o2⟩:=h.own k b hlk hb;refine⟨o1,o2.elim (fun h=>.inr (.inl h.2)) (fun h=>.inr h.r),fun h=>h,fun j hj hs=>?_⟩;by_cases e:j=k
  ·subst e;exact hn hs
  ·exact h.sep k j b (a0u e) hlk (hlv j hj).1 hb ((hlv j hj).2 b hs)
 ·exact h.sep k k' b hne (hlv k hk).1 (hlv k' hk').1 ((hlv k hk).2 b hb) ((hlv k' hk').2 b hb')
 ·exact h.own k b (hlv k hk).1 ((hlv k hk).2 b hb)
theorem avm:(a b:cr)->peq a b=true->a=b
 |[],[],_=>rfl
 |.l::a,.l::b,h|.r::a,.r::b,h|.de::a,.de::b,h=>by simp only[peq]at h;rw[avm a b h]
 |[],_::_,h|.ix _::_,[],h|.l::_,[],h|.r::_,[],h|.de::_,[],h|.ix _::_,_::_,h|.l::_,.r::_,h|.l::_,.de::_,h|.l::_,.ix _::_,h|.r::_,.l::_,h|.r::_,.de::_,h|.r::_,.ix _::_,h|.de::_,.l::_,h|.de::_,.r::_,h|.de::_,.ix _::_,h=>by simp[peq]at h
theorem bgp{os:Obs}{x:rn os}(hx:aal M os=some x){k:Nat}{q:Ob}{o:O}(hq:go M k=some q)(ho:oOf k os=some o)(he:q.o.beq o=true):go (ml os x) k=some q:=by obtain⟨y,hy⟩:=an8 M os x hx k o ho;obtain⟨_,q',h1,h2⟩:=avn M os x hx k _ hy;rw[hq]at h1;cases h1;have:=(afn h2).2;have e:=O.beq_eq he;obtain⟨qo,qx⟩:=q;simp only at e this;subst e;rw[aak]at this;cases this;exact hy
theorem bup(hβ:p'.β=p.β){os:Obs}{x:rn os}(hx:aal M os=some x){k:Nat}{π:cr}{vs:List Value}(h:Ref p.β M w k π vs)(hok:bic M os k π=true):Ref p'.β (ml os x) w k π vs:=by
 unfold bic at hok;split at hok
 ·rename_i q o hq ho;simp only[lq,a09]at hok;rcases hok with hn|he
  ·cases π with
   |cons _ _=>simp[z7]at hn
   |nil=>obtain⟨y,hy⟩:=an8 M os x hx k o ho;obtain⟨ob,pl,h1,h2,h3,h4⟩:=h;simp only[res,a0e,a0n]at h4;exact⟨⟨o,y⟩,none,hy,by simp only[gok],⟨⟨o,y⟩,by simp only[get]⟩,by simp only[res,hβ,h4.1]⟩
  ·have:=bgp hx hq ho he;obtain⟨ob,pl,h1,h2,h3,h4⟩:=h;rw[hq]at h1;cases h1;exact⟨q,pl,this,h2,h3,by rw[hβ];exact h4⟩
 ·cases hok
theorem bz7(hp:Hp F p M w)(hβ:p'.β=p.β){os:Obs}{x:rn os}(hx:aal M os=some x){k:Nat}{π:cr}{v:Value}(h:Adr p.β M w k π v)(hok:bpf M os k π=true):Adr p'.β (ml os x) w k π v:=by
 unfold bpf at hok;split at hok
 ·rename_i q o hq ho;simp only[lq,a09]at hok;rcases hok with hn|he
  ·obtain⟨y,hy⟩:=an8 M os x hx k o ho;obtain⟨m,s1,s2⟩:=arn hn;obtain⟨ob,us0,b0,off0,k1,k2,k3,k4,k5,rfl⟩:=h;rw[hq]at k1;cases k1;obtain⟨ρ1,o1,rfl,e1,f1⟩:=acl s1;obtain⟨ρ2,o2,e2',e2,f2⟩:=acl s2;simp only[a0q,a0f]at e2';subst e2';subst e2;obtain⟨qo,qx⟩:=q;simp only at e1;subst e1;have hr:=hp.objs k _ hq;simp only[Rel]at hr;obtain⟨bb,us1,ty',S1,r1,r2,r3,r4,r5⟩:=hr;simp only[a0q,a0c]at r1;rw[r1]at k5;simp only[res]at k5;obtain⟨_,_,us2,q3⟩:=tx w ρ1 o1 m f1 qx (cellsOf w bb 0 o1.size) (some (bb,0));rw[q3]at k5;simp only[a0e,a0n]at k5;obtain⟨q1,q2,us3,q3'⟩:=tx w ρ1 o2 m f2 y (cellsOf w bb 0 o2.size) (some (bb,0));refine⟨_,us3,b0,off0,hy,by simpa only [gok]using q2,by simpa only [get]using q1,by simp only[dp],?_,rfl⟩;rw[hβ,r1];simp only[res];rw[q3',k5.2]
  ·have:=bgp hx hq ho he;obtain⟨ob,us,b,off,h1,h2,h3,h4,h5,h6⟩:=h;rw[hq]at h1;cases h1;exact⟨q,us,b,off,this,h2,h3,h4,by rw[hβ];exact h5,h6⟩
 ·cases hok
theorem am6(hp:Hp F p M w)(hβ:p'.β=p.β){os:Obs}{x:rn os}(hx:aal M os=some x)(hk:ju (Imm F p M w) (Imm F p' (ml os x) w) w w):(s:Sh)->(v:V)->(vs:List Value)->(y:s.den)->ak p.β M (Imm F p M w) w v vs->s.read M os v=some y->ak p'.β (ml os x) (Imm F p' (ml os x) w) w (s.put y) vs
 |.d t,v,vs,y,r,h=>by simp only[Sh.read]at h;simp only[Sh.put];exact th t y vs (aq.keep hk _ _ _ (aiu v t vs y r h))
 |.ref k π,v,vs,y,r,h=>by
  cases v<;>simp only[Sh.read]at h<;>try (cases h;done)
  rename_i k' π'
  cases hb:nob (bic M os k π) (nob (Nat.beq k k') (peq π π'))with
  |false=>rw[hb]at h;cases h
  |true=>simp only[be,a0b]at hb;have e1:=a0v hb.2.1;have e2:=avm _ _ hb.2.2;subst e1;subst e2;simp only[ak]at r;simp only[Sh.put,ak];exact bup hβ hx r hb.1
 |.ad k π,v,vs,y,r,h=>by
  cases v<;>simp only[Sh.read]at h<;>try (cases h;done)
  rename_i k' π'
  cases hb:nob (bpf M os k π) (nob (Nat.beq k k') (peq π π'))with
  |false=>rw[hb]at h;cases h
  |true=>simp only[be,a0b]at hb;have e1:=a0v hb.2.1;have e2:=avm _ _ hb.2.2;subst e1;subst e2;simp only[ak]at r;obtain⟨z,rfl,r⟩:=r;simp only[Sh.put,ak];exact⟨z,rfl,bz7 hp hβ hx r hb.1⟩
 |.fn f,v,vs,y,r,h=>by
  cases v<;>(try simp only[Sh.read]at h)<;>try (cases h;done)
  rename_i f' v';cases v'<;>(try simp only[Sh.read]at h)<;>try (cases h;done)
  simp only[dg]at h;split at h
  ·rename_i e;subst e;simp only[ak]at r;simp only[Sh.put,ak];exact r
  ·cases h
 |.bx s,v,vs,y,r,h=>by
  cases v<;>simp only[Sh.read]at h<;>try (cases h;done)
  simp only[ak]at r;obtain⟨b,o,us,h1,h2,h3,h4⟩:=r;simp only[Sh.put,ak];exact⟨b,o,us,h1,(hk b h2).1,h3,am6 hp hβ hx hk s _ _ y h4 h⟩
 |.fc f s,v,vs,y,r,h=>by
  cases v<;>simp only[Sh.read]at h<;>try (cases h;done)
  simp only[dg]at h;split at h
  ·rename_i e;subst e;simp only[ak]at r;obtain⟨us,h1,h2⟩:=r;simp only[Sh.put,ak];exact⟨us,h1,am6 hp hβ hx hk s _ _ y h2 h⟩
  ·cases h
 |.pr a b,v,vs,y,r,h=>by
  cases v<;>simp only[Sh.read]at h<;>try (cases h;done)
  split at h
  ·rename_i z1 z2 h1 h2;simp only[ak]at r;obtain⟨va,vb,e,ra,rb⟩:=r;cases h;simp only[Sh.put,ak];exact⟨va,vb,e,am6 hp hβ hx hk a _ _ _ ra h1,am6 hp hβ hx hk b _ _ _ rb h2⟩
  ·cases h
 |.u,v,vs,y,r,h=>by
  cases v<;>simp only[Sh.read]at h<;>try (cases h;done)
  simp only[Sh.put];simpa only [ak]using r
theorem cay(hp:Hp F p M w)(hβ:p'.β=p.β){os:Obs}{x:rn os}(hx:aal M os=some x)(hk:ju (Imm F p M w) (Imm F p' (ml os x) w) w w)(s:Sh)(v:V)(u:Value)(y:s.den)(r:ao p.β M (Imm F p M w) w v u)(h:s.read M os v=some y):ao p'.β (ml os x) (Imm F p' (ml os x) w) w (s.put y) u:=by
 have key:ak p.β M (Imm F p M w) w v [u]->ao p'.β (ml os x) (Imm F p' (ml os x) w) w (s.put y) u:=fun r=>bu (am6 hp hβ hx hk s v [u] y r h)
 cases v with
 |any=>cases s with
  |d t=>cases t<;>simp[Sh.read,V.as]at h
  |_=>simp[Sh.read]at h
 |ag z=>cases s with
  |d t=>cases t<;>simp[Sh.read,V.as]at h
  |_=>simp[Sh.read]at h
 |tup z=>cases s with
  |d t=>cases t<;>simp[Sh.read,V.as]at h
  |_=>simp[Sh.read]at h
 |gd _ _ _ z=>cases s with
  |d t=>cases t<;>simp[Sh.read,V.as]at h
  |_=>simp[Sh.read]at h
 |_=>exact key (by simpa only [ao]using r)
theorem bk9(hp:Hp F p M w)(hβ:p'.β=p.β){os:Obs}{x:rn os}(hx:aal M os=some x)(hk:ju (Imm F p M w) (Imm F p' (ml os x) w) w w)(hs:∀t,ao p.β M (Imm F p M w) w (gt env t) (a.tmps.getD t undef)) :
  (ss:Shs)->(y:wv ss)->awm M os env ss=some y->∀t,ao p'.β (ml os x) (Imm F p' (ml os x) w) w (gt (ao8 ss y) t) (a.tmps.getD t undef)
 |[],y,h,t=>by simp only[ao8,gt,ao]
 |(t',s)::r,y,h,t=>by
  simp only[awm]at h;split at h
  ·rename_i z1 z2 h1 h2;cases h;simp only[ao8];rw[iy];split
   ·rename_i e;subst e;exact cay hp hβ hx hk s _ _ z1 (hs t') h1
   ·exact bk9 hp hβ hx hk hs r z2 h2 t
  ·cases h
theorem z9{β β':Nat->Value}{Im Im':Nat->Prop}(hk:ju Im Im' w w'):(v:V)->ce v=true->(∀vs,ak β M Im w v vs->ak β' M' Im' w' v vs)/\∀u,ao β M Im w v u->ao β' M' Im' w' v u
 |.d t x,_=>⟨fun vs r=>by simp only[ak]at r⊢;exact aq.keep hk t x vs r,fun u r=>by rw[cf]at r⊢;exact aq.keep hk t x _ r⟩
 |.nl,_|.np,_|.u,_=>⟨fun vs r=>by simpa only [ak]using r,fun u r=>by simpa only [ao,ak]using r⟩
 |.p a b,h=>by
  simp only[ce,be,a0b]at h;have key:∀vs,ak β M Im w (.p a b) vs->ak β' M' Im' w' (.p a b) vs:=fun vs r=>by simp only[ak]at r⊢;obtain⟨va,vb,e,h1,h2⟩:=r;exact⟨va,vb,e,(z9 hk a h.1).1 va h1,(z9 hk b h.2).1 vb h2⟩
  exact⟨key,fun u r=>by simp only[ao]at r⊢;exact key _ r⟩
 |.ag v,h=>by simp only[ce]at h;refine⟨fun vs r=>by simp only[ak]at r,fun u r=>?_⟩;simp only[ao]at r⊢;obtain⟨vs,e,h1⟩:=r;exact⟨vs,e,(z9 hk v h).1 vs h1⟩
 |.fn f v,h=>by
  simp only[ce]at h;have key:∀vs,ak β M Im w (.fn f v) vs->ak β' M' Im' w' (.fn f v) vs:=fun vs r=>by simp only[ak]at r⊢;obtain⟨us,e,h1⟩:=r;exact⟨us,e,(z9 hk v h).1 us h1⟩
  exact⟨key,fun u r=>by simp only[ao]at r⊢;exact key _ r⟩
 |.bx v,h=>by
  simp only[ce]at h;have key:∀vs,ak β M Im w (.bx v) vs->ak β' M' Im' w' (.bx v) vs:=fun vs r=>by simp only[ak]at r⊢;obtain⟨b,o,us,e,h1,h2,h3⟩:=r;exact⟨b,o,us,e,(hk b h1).1,h2.keep (hk b h1).2,(z9 hk v h).1 us h3⟩
  exact⟨key,fun u r=>by simp only[ao]at r⊢;exact key _ r⟩
 |.any,h|.ref _ _,h|.ad _ _,h|.tup _,h|.gd _ _ _ _,h|.ifc _ _,h=>by simp[ce]at h
theorem axt(h:St F p env M a w){ss:Shs}{os:Obs}{q:(wv ss×rn os)×Env}(hr:anv ss os env M=some q) :
  ∃p',St F p' (ao8 ss q.1.1) (ml os q.1.2) a w/\∀t,ce (gt q.2 t)=true->ao p'.β (ml os q.1.2) (Imm F p' (ml os q.1.2) w) w (gt q.2 t) (a.tmps.getD t undef):=by
 unfold anv at hr;obtain⟨p0,h0⟩:=qf os ss p env M h;generalize um os ss env M=z0 at hr h0;obtain⟨env0,M0⟩:=z0;simp only at hr h0;obtain⟨p1,h1⟩:=bkr os p0 env0 M0 h0;generalize bcd os env0 M0=z1 at hr h1;obtain⟨env1,M1⟩:=z1;simp only at hr h1;have h2:=xj os (ca M1) M1 env1 h1;generalize ql os (ca M1) M1 env1=z2 at hr h2;obtain⟨env2,M2⟩:=z2;simp only at hr h2;split at hr
 ·rename_i y x hy hx;cases hr;obtain⟨p',e1,e2,e3,e4⟩:=cb5 h2.hp h2.lz os x hx;refine⟨p',⟨h2.defers,h2.nt,h2.fix,fun b hb=>⟨(e3 b (h2.ik b hb).1).1,(h2.ik b hb).2⟩,e2,bk9 h2.hp e1 hx e3 h2.slots ss y hy,e4⟩,fun t ht=>(z9 e3 _ ht).2 _ (h2.slots t)⟩
 ·cases hr
end
end Go.Bm
/- The ff machine:code keeps the law that is read off it. -/
namespace Go.Bm
open Go.RowKit
theorem me:(t:T)->(x:t.den)->t.ok x->ab (t.oks x)
 |.int k,x,h=>by simp only[T.oks,d7,fh,a0c];simpa only [T.ok]using h
 |.p a b,x,h=>by simp only[T.ok]at h;simp only[T.oks,kv];exact⟨me a _ h.1,me b _ h.2⟩
 |.sl e,x,h=>by simp only[T.oks,d7,fh,a0c];exact h
 |.pt t,x,h|.fn _ t,x,h|.ifc _ t,x,h|.ib _ t,x,h=>by simp only[T.ok]at h;simp only[T.oks];exact me t x h
 |.mp k v,x,h|.op t,x,h|.ns t,x,h=>by simp only[T.oks,d7,fh,a0c];exact h
 |.er _,x,h=>by simp only[T.oks,fh]
 |.str,x,h=>by simp only[T.oks,d7,fh,a0c];simpa only [T.ok]using h
 |.bool,x,h|.u,x,h|.any,x,h=>by simp only[T.oks,fh]
def cbr:Nat->List Nat->Bool
 |i,σ=>(List.range i).all fun k=>Nat.beq (plc σ k) k
def byv(nt:Nat)(l:List Oper):Bool:=nob (bb7 l) (nob (Nat.blt (afh 0 l) (ar2 0 l)) (nob (Nat.blt (ar2 0 l) l.length) (nob (aam 0 l) (nob (bkq (mvS (afh 0 l) (ar2 0 l) (len l)) l.length) (nob (cbr (afh 0 l) (mvS (afh 0 l) (ar2 0 l) (len l))) (nob (mr nt (bpi l)) (nob (mr nt (bqa l)) (nob (au7 false false (bpi l) (afh 0 l)) (au7 false false (bqa l) (Nat.succ (afh 0 l)))))))))))
def okC(nt:Nat)(cut:Nat->Nat):Code->Bool
 |.region id ops draw=>nob (mr nt (toL ops)) (bif draw then (bif Nat.beq (cut id) 999999 then bpb (toL ops)else bif Nat.beq (cut id) 999998 then byv nt (toL ops)else bif Nat.ble 10000 (cut id)then nob (mr nt (gv (hrC (cut id)) (toL ops))) (bqq (hrC (cut id)) true (toL ops) (mC (cut id)))else bif Nat.ble 2000 (cut id)then nob (mr nt (gv false (toL ops))) (bqq false false (toL ops) (Nat.sub (cut id) (ayb (cut id))))else bif Nat.ble 1000 (cut id)then au7 false false (toL ops) (Nat.sub (cut id) 1000)else bif Nat.ble 500 (cut id)then au7 false false (toL ops) (Nat.sub (cut id) 500)else bpt (toL ops) (cut id))else true)
 |.seq a b|.cond _ a b=>nob (okC nt cut a) (okC nt cut b)
 |.block _ c|.loop c|.scope c=>okC nt cut c
 |_=>true
def ahp(fv:Nat->Option Value):Code->Prop
 |.region _ ops _=>∀o∈toL ops,∀k,o.dst=some k->fv k=none
 |.seq a b|.cond _ a b=>ahp fv a/\ahp fv b
 |.block _ c|.loop c|.scope c=>ahp fv c
 |_=>True
theorem q9:(c:Code)->ahp (fun _=>none) c
 |.region _ _ _=>fun _ _ _ _=>rfl
 |.seq a b|.cond _ a b=>⟨q9 a,q9 b⟩
 |.block _ c|.loop c|.scope c=>q9 c
 |.skip|.ret|.exit _|.goto _|.label _|.rangeFunc _ _ _ _|.refuse _=>trivial
def ad9(fv:Nat->Option Value)(ks:List Nat)(a:Act):Nat->Option Value:=fun t=>bif x7 t ks then some (a.tmps.getD t undef)else fv t
def mkF(F:Fr)(I:Nat->Prop)(w:World)(ks:List Nat)(a:Act):Fr:=⟨F.w0,w,F.A,F.R,I,F.nt,ad9 F.fv ks a,F.cs⟩
theorem bkv{ks:List Nat}:{l:List Oper}->biy ks l=true->∀o∈l,∀k,o.dst=some k->x7 k ks=false
 |[],_,o,ho,_,_=>by cases ho
 |x::r,h,o,ho,k,hk=>by
  simp only[biy]at h;rcases a0t.1 ho with rfl|ho
  ·rw[hk]at h;simp only at h
   cases hm:x7 k ks with
   |false=>rfl
   |true=>rw[hm]at h;cases h
  ·refine bkv ?_ o ho k hk;split at h
   ·rename_i d _
    cases hm:x7 d ks with
    |false=>rw[hm]at h;exact h
    |true=>rw[hm]at h;cases h
   ·exact h
theorem tn{fv:Nat->Option Value}{ks:List Nat}{a:Act}:(c:Code)->noW ks c=true->ahp fv c->ahp (ad9 fv ks a) c
 |.region id ops draw,h,hf=>fun o ho k hk=>by simp only[noW]at h;unfold ad9;rw[bkv h o ho k hk];exact hf o ho k hk
 |.seq x y,h,hf|.cond _ x y,h,hf=>by simp only[noW,be,a0b]at h;exact⟨tn x h.1 hf.1,tn y h.2 hf.2⟩
 |.block _ c,h,hf|.loop c,h,hf|.scope c,h,hf=>by simp only[noW]at h;exact tn c h hf
 |.skip,_,_|.ret,_,_|.exit _,_,_|.goto _,_,_|.label _,_,_|.rangeFunc _ _ _ _,_,_|.refuse _,_,_=>trivial
def abl(F:Fr)(K:Ex->Env->Mem->Prop):Exit->Act->World->Prop
 |.normal,a,w=>∃p env M,St F p env M a w/\K .nm env M
 |.exit id,a,w=>∃p env M,St F p env M a w/\K (.ex id) env M
 |.ret,a,w=>∃p env M,St F p env M a w/\K .rt env M
 |.goto l,a,w=>∃p env M,St F p env M a w/\K (.go l) env M
 |_,_,_=>False
section
variable {F:Fr} {p p' p'':Ow} {env env':Env} {M M' M'':Mem} {a a':Act} {w w' w'':World} {P:Program} {B:Tab} {Φ:FuncId->Option Ct}
theorem bk1:∀(env:Env)(t:Nat),gt (clr env) t=.any\/gt (clr env) t=gt env t
 |[],t=>.inl rfl
 |(k,v)::r,t=>by
  simp only[clr];split
  ·rw[iy,iy];split
   ·exact .inl rfl
   ·exact bk1 r t
  ·rw[iy,iy];split
   ·exact .inr rfl
   ·exact bk1 r t
theorem bxs:∀(x y:Env)(t:Nat),gt (ap x y) t=gt x t\/gt (ap x y) t=gt y t
 |[],y,t=>.inr rfl
 |(k,v)::r,y,t=>by
  simp only[ap];rw[iy,iy];split
  ·exact .inl rfl
  ·exact bxs r y t
theorem bmr(env:Env):∀(ks:List Nat)(t:Nat),gt (kept env ks) t=.any\/(x7 t ks=true/\ce (gt env t)=true/\gt (kept env ks) t=gt env t)
 |[],t=>.inl rfl
 |k::r,t=>by
  simp only[kept];have ih:=bmr env r t;have hm:x7 t r=true->x7 t (k::r)=true:=fun h=>by simp only[x7,lq,h,a4b]
  cases hd:ce (gt env k)with
  |false=>
   simp only[a0j];rcases ih with h|⟨h1,h2,h3⟩
   ·exact .inl h
   ·exact .inr ⟨hm h1,h2,h3⟩
  |true=>
   simp only[a0d];rw[iy];split
   ·rename_i e;subst e;exact .inr ⟨by simp[x7],hd,rfl⟩
   ·rcases ih with h|⟨h1,h2,h3⟩
    ·exact .inl h
    ·exact .inr ⟨hm h1,h2,h3⟩
theorem St.fwd(h:St F p env M a w)(ks:List Nat):St (mkF F (Imm F p M w) w ks a) p env M a w:=by
 refine⟨h.defers,h.nt,fun t v ht=>?_,fun b hb=>⟨hb,rfl⟩,h.lz,h.slots,⟨h.hp.objs,h.hp.sep,h.hp.own,h.hp.lim,h.hp.os,h.hp.tape,h.hp.output,h.hp.size,h.hp.old⟩⟩;simp only[mkF,ad9]at ht
 cases hm:x7 t ks with
 |true=>rw[hm]at ht;simpa using ht
 |false=>rw[hm]at ht;exact h.fix t v ht
theorem St.back(h:St F p env M a w){ks:List Nat}(h':St (mkF F (Imm F p M w) w ks a) p' env' M' a' w'):St F p' env' M' a' w':=by
 refine⟨h'.defers,h'.nt,fun t v ht=>?_,fun b hb=>?_,h'.lz,h'.slots,⟨h'.hp.objs,h'.hp.sep,h'.hp.own,h'.hp.lim,h'.hp.os,h'.hp.tape,h'.hp.output,h'.hp.size,h'.hp.old⟩⟩
 ·cases hm:x7 t ks with
  |true=>rw[h'.fix t (a.tmps.getD t undef) (by simp only[mkF,ad9,hm,a0d])];exact h.fix t v ht
  |false=>exact h'.fix t v (by simp only[mkF,ad9,hm,a0j];exact ht)
 ·obtain⟨h1,h2⟩:=h.ik b hb;obtain⟨h3,h4⟩:=h'.ik b h1;exact⟨h3,h4.trans h2⟩
theorem St.add{ks:List Nat}{envK:Env}(hK:∀t,ce (gt envK t)=true->ao p.β M (Imm F p M w) w (gt envK t) (a.tmps.getD t undef))(h':St (mkF F (Imm F p M w) w ks a) p' env' M' a' w'):St (mkF F (Imm F p M w) w ks a) p' (ap env' (kept envK ks)) M' a' w':=by
 refine⟨h'.defers,h'.nt,h'.fix,h'.ik,h'.lz,fun t=>?_,h'.hp⟩;rcases bxs env' (kept envK ks) t with e|e
 ·rw[e];exact h'.slots t
 ·rw[e];rcases bmr envK ks t with e'|⟨h1,h2,h3⟩
  ·rw[e'];simp only[ao]
  ·rw[h3,h'.fix t (a.tmps.getD t undef) (by simp only[mkF,ad9,h1,a0d])];exact (z9 (fun b hb=>h'.ik b hb) _ h2).2 _ (hK t h2)
theorem ajf{os:Obs}:(s:Sh)->(v:V)->(vs:List Value)->(y:s.den)->ak p.β M (Imm F p M w) w v vs->s.read M os v=some y->ab (s.oks y)
 |.d t,v,vs,y,r,h=>by simp only[Sh.read]at h;simp only[Sh.oks];exact me _ _ (aq.ok _ _ _ (aiu v t vs y r h))
 |.ref _ _,_,_,_,_,_|.ad _ _,_,_,_,_,_|.fn _,_,_,_,_,_|.u,_,_,_,_,_=>by simp only[Sh.oks,fh]
 |.bx s,v,vs,y,r,h=>by
  cases v<;>simp only[Sh.read]at h<;>try (cases h;done)
  simp only[ak]at r;obtain⟨b,o,us,h1,h2,h3,h4⟩:=r;simp only[Sh.oks];exact ajf s _ _ y h4 h
 |.fc f s,v,vs,y,r,h=>by
  cases v<;>simp only[Sh.read]at h<;>try (cases h;done)
  simp only[dg]at h;split at h
  ·simp only[ak]at r;obtain⟨us,h1,h2⟩:=r;simp only[Sh.oks];exact ajf s _ _ y h2 h
  ·cases h
 |.pr a b,v,vs,y,r,h=>by
  cases v<;>simp only[Sh.read]at h<;>try (cases h;done)
  split at h
  ·rename_i z1 z2 h1 h2;simp only[ak]at r;obtain⟨va,vb,e,ra,rb⟩:=r;cases h;simp only[Sh.oks,kv];exact⟨ajf a _ _ _ ra h1,ajf b _ _ _ rb h2⟩
  ·cases h
theorem bfv{os:Obs}(hs:∀t,ao p.β M (Imm F p M w) w (gt env t) (a.tmps.getD t undef)):(ss:Shs)->(y:wv ss)->awm M os env ss=some y->ab (okS ss y)
 |[],y,h=>by simp only[okS,fh]
 |(t,s)::r,y,h=>by
  simp only[awm]at h;split at h
  ·rename_i z1 z2 h1 h2;cases h;have ih:=bfv hs r z2 h2;simp only[okS,kv];refine⟨?_,ih⟩
   have key:∀v:V,s.read M os v=some z1->ao p.β M (Imm F p M w) w v (a.tmps.getD t undef)->ab (s.oks z1):=fun v h1 r=>by
    cases v with
    |any=>cases s with
     |d t=>cases t<;>simp[Sh.read,V.as]at h1
     |_=>simp[Sh.read]at h1
    |ag z=>cases s with
     |d t=>cases t<;>simp[Sh.read,V.as]at h1
     |_=>simp[Sh.read]at h1
    |tup z=>cases s with
     |d t=>cases t<;>simp[Sh.read,V.as]at h1
     |_=>simp[Sh.read]at h1
    |gd _ _ _ z=>cases s with
     |d t=>cases t<;>simp[Sh.read,V.as]at h1
     |_=>simp[Sh.read]at h1
    |_=>exact ajf s _ _ _ (by simpa only [ao]using r) h1
   exact key _ h1 (hs t)
  ·cases h
theorem bgh(hp:Hp F p M w):(os:Obs)->(x:rn os)->aal M os=some x->ab (okO os x)
 |[],x,h=>by simp only[okO,fh]
 |(k,o)::r,x,h=>by
  simp only[aal]at h;split at h
  ·rename_i q hq;split at h
   ·rename_i y z hy hz;cases h;simp only[okO,kv];refine⟨me _ _ ?_,bgh hp r z hz⟩;obtain⟨e,h1⟩:=ag5 (afn hy).2;have hok:=(hp.objs k q hq).ok;subst h1;exact cast_ok e hok
   ·cases h
  ·cases h
where
 cast_ok:∀{s t:T} {x:s.den} (e:s=t),s.ok x->t.ok (e▸x):=fun e h=>by subst e;exact h
theorem at6(h:St F p env M a w){ss:Shs}{os:Obs}{q:(wv ss×rn os)×Env}(hr:anv ss os env M=some q):ab (okS ss q.1.1)/\ab (okO os q.1.2):=by
 unfold anv at hr;obtain⟨p0,h0⟩:=qf os ss p env M h;generalize um os ss env M=z0 at hr h0;obtain⟨env0,M0⟩:=z0;simp only at hr h0;obtain⟨p1,h1⟩:=bkr os p0 env0 M0 h0;generalize bcd os env0 M0=z1 at hr h1;obtain⟨env1,M1⟩:=z1;simp only at hr h1;have h2:=xj os (ca M1) M1 env1 h1;generalize ql os (ca M1) M1 env1=z2 at hr h2;obtain⟨env2,M2⟩:=z2;simp only at hr h2;split at hr
 ·rename_i y x hy hx;cases hr;exact⟨bfv h2.slots ss y hy,bgh h2.hp os x hx⟩
 ·cases hr
theorem bew(h:St F p env M a w){ss:Shs}{os:Obs}{ks:List Nat}{c:Code}{K:Ex->Env->Mem->Prop}
  (hc:c.wp P (abl (mkF F (Imm F p M w) w ks a) (yo ss os (onK ss os ks env K) K)) a w):c.wp P (abl F K) a w:=by
 refine a2u (fun e a' w' hl=>?_) hc
 cases e with
 |normal=>
  obtain⟨p1,env1,M1,h1,h2⟩:=hl;simp only[yo,bbe]at h2;split at h2
  ·rename_i s hs;obtain⟨p2,h4,_⟩:=axt h1 hs;obtain⟨o1,o2⟩:=at6 h1 hs;simp only[onK,bjr]at h2;exact⟨p2,_,_,h.back (St.add (fun t _=>h.slots t) h4),h2 o1 o2⟩
  ·exact h2.elim
 |exit id|ret|goto l=>obtain⟨p1,env1,M1,h1,h2⟩:=hl;exact⟨p1,env1,M1,h.back h1,h2⟩
 |panic ch|outgrown=>exact hl.elim
theorem cav(hΦ:uw P F Φ)(hB:TabOk P B)(hmix:P.follows .mixedOrders=true){id:Nat}{ops:Array Oper}{cut:Nat}(hco:mr F.nt (toL ops)=true)(hfv:∀o∈toL ops,∀k,o.dst=some k->F.fv k=none)(hr:bpt (toL ops) cut=true){K:Env->Mem->Prop}{Q:Exit->Act->World->Prop}
  (hQ:∀p env M a w,St F p env M a w->K env M->Q .normal a w) (h:St F p env M a w) (hk:dw B Φ (toL ops) (eq cut (toL ops)) env M (fun env=>tw B Φ (toL ops) (nz cut (toL ops)) env M K)):(Code.region id ops true).wp P Q a w:=by
 rw[ew]at hco hfv hr;rw[am5,arb]at hk;simp only[bpt,a0b]at hr;obtain⟨h1,h2,h3,h4⟩:=hr;obtain⟨E,V,e0,e1,e2⟩:=bfz _ _ _ _ hk;have hm:cut<=ops.toList.length:=a08 h2;rw[ew,a03,a39 hm]at e2;refine a41 hmix ?_;have:=bt8 (F:=F) (M:=M) (p:=p) (all:=ops) hΦ hB Q K hQ h1 cut (by simpa using hm) (by simpa using h3) (by simpa using h4) hco hfv E V (by simpa only [ew]using e1) (by simpa only [ew]using e2);exact this _ _ env a _ (by simp) (fun i _ hi=>absurd hi ze) (bbf _ _) (fun j o _ hi=>absurd hi ze) (fun t=>⟨fun _=>by rw[e0],fun i o _ hi=>absurd hi ze⟩) h.drew
theorem bg3{c:Code}{Q':Exit->Act->World->Prop}{ι:Type}(I:ι->Act->World->Prop)(μ:ι->Nat)
  (round:∀i a w,I i a w->c.wp P (Exit.then (fun a' w'=>∃i',μ i'<μ i/\I i' a' w') Q') a w):∀i a w,I i a w->(Code.loop c).wp P Q' a w:=by
 intro i a w h0 b k cs
 have key:∀n i a w,μ i=n->I i a w->∃e a' w',Q' e a' w'/\Arrives P (lone (b.at a (.code c::.inLoop c::k)) cs w) b k cs e a' w':=by
  intro n
  induction n using Nat.strongRecOn with
  |_ n ih=>
   intro i a w hn hI;obtain⟨e,a1,w1,hq,harr⟩:=round i a w hI b (.inLoop c::k) cs
   cases e with
   |normal=>obtain⟨i',hlt,hI'⟩:=hq;obtain⟨e2,a2,w2,hq2,harr2⟩:=ih (μ i') (hn▸hlt) i' a1 w1 rfl hI';exact⟨e2,a2,w2,hq2,.of_steps (Steps.trans harr (.one step_inLoop)) harr2⟩
   |exit id|goto l|ret|panic ch|outgrown=>exact⟨_,a1,w1,hq,.pass (x:=.inLoop c) rfl (fun _ _=>.inl (by simp)) harr⟩
 obtain⟨e,a',w',hq,harr⟩:=key _ i a w rfl h0;exact⟨e,a',w',hq,.of_steps (.one step_loop) harr⟩
end
end Go.Bm
/- The ff machine:guards known where they hold. -/
namespace Go.Bm
open Go.RowKit
def afe(all rest:List Oper)(env:Env):Prop:=∀t j w P v,gt env t=.gd j w P v->∃d,vq all j=some d/\P=gc (gt env d) w/\lx (gt env d)=true/\wIn d rest=false
def Fs(all:List Oper)(env:Env)(fs:List (Nat×Bool)):Prop:=∀j w,azo fs j w=true->∀d,vq all j=some d->gc (gt env d) w
theorem bn5{a b:Bool}(h:be5 a b=true):a=b:=by cases a<;>cases b<;>simp[be5,neg]at h<;>rfl
theorem bux{t:Nat}{o:Option Nat}(h:asu t o=true):o=some t:=by
 cases o with
 |none=>cases h
 |some d=>rw[a0v h]
theorem bp0(t:Nat):asu t (some t)=true:=a3c t
theorem ar6{all rest:List Oper}{env:Env}(hI:afe all rest env):∀(n j:Nat)(w:Bool)(d:Nat),vq all j=some d->gc (gt env d) w->Fs all env (n6 all env n j w)
 |0,_,_,_,_,_=>fun _ _ h=>by cases h
 |n+1,j,w,d,hd,hg=>by
  intro i w' hm d' hd';simp only[n6,azo]at hm
  cases hb:nob (Nat.beq j i) (be5 w w')with
  |true=>simp only[be,a0b]at hb;have h1:=a0v hb.1;have h2:=bn5 hb.2;subst h1 h2;rw[hd]at hd';cases hd';exact hg
  |false=>
   rw[hb]at hm;simp only[a0j,hd]at hm
   cases hv:gt env d with
   |gd i2 w2 P2 v2=>rw[hv]at hm;obtain⟨d2,h1,h2,_,_⟩:=hI _ _ _ _ _ hv;rw[hv]at hg;simp only[gc]at hg;exact ar6 hI n i2 w2 d2 h1 (h2▸hg.1) i w' hm d' hd'
   |_=>rw[hv]at hm;simp[azo]at hm
theorem bye{env:Env}{x:Operand}{j:Nat}{w:Bool}{P:Prop}{v:V}(h:rd env x=.gd j w P v):∃t,gt env t=.gd j w P v:=by
 cases x with
 |tmp t=>exact⟨t,h⟩
 |const v=>
  simp only[rd]at h;unfold rdV at h;split at h<;>try cases h
  ·cases hb:nob (Nat.beq _ 0) (Nat.beq _ 0)<;>rw[hb]at h<;>cases h
 |func f|global _=>cases h
theorem at0{all rest:List Oper}{env:Env}{fs:List (Nat×Bool)}(hI:afe all rest env)(hf:Fs all env fs):∀(l:List Operand),ab (pi (fun x=>unG fs (rd env x)) l)->ab (pi (rd env) l)
 |[],_=>trivial
 |x::r,h=>by
  simp only[pi]at h⊢
  cases hv:rd env x with
  |gd j w P v=>
   rw[hv]at h;simp only[unG]at h
   cases hm:azo fs j w with
   |true=>
    rw[hm]at h;obtain⟨t,ht⟩:=bye hv;obtain⟨d,h1,h2,_,_⟩:=hI _ _ _ _ _ ht;refine⟨h2▸hf j w hm d h1,at0 hI hf r ?_⟩;simp only[a0d]at h;split at h
    ·exact h.2
    ·exact h
   |false=>rw[hm]at h;exact⟨h.1,at0 hI hf r h.2⟩
  |_=>rw[hv]at h;exact at0 hI hf r h
theorem bac{all rest:List Oper}{env:Env}{fs:List (Nat×Bool)}(hI:afe all rest env)(hf:Fs all env fs){c a:Operand}{side:Bool}(hb:(rd env c).strip.isB=true)(hc:ab (pi (rd env) [c]))
  (h:ab (ai6 (rd env c).strip.boolV side (bhv all c side (unG fs (rd env a))))):ab (ai6 (rd env c).strip.boolV side (rd env a)):=by
 cases hv:rd env a with
 |gd j w P v=>
  obtain⟨t,ht⟩:=bye hv;obtain⟨d,h1,h2,h3,_⟩:=hI _ _ _ _ _ ht;simp only[ai6,d7,fh,a0c];rw[hv]at h;simp only[unG]at h
  cases hm:azo fs j w with
  |true=>exact fun _=>h2▸hf j w hm d h1
  |false=>
   rw[hm]at h;simp only[a0j]at h;unfold bhv at h;split at h
   ·rename_i t' j' w' P' x' heq;cases heq
    cases hs:nob (asu t' (vq all j)) (be5 w side)with
    |false=>rw[hs]at h;exact h.1
    |true=>
     simp only[be,a0b]at hs;have e1:=bux hs.1;have e2:=bn5 hs.2;rw[h1]at e1;cases e1;subst e2;intro hcb;subst h2;simp only[rd]at hb hcb hc;simp only[pi]at hc
     cases hg:gt env d with
     |gd i w' P' v'=>simp only[rd,hg]at hc;rw[hg]at hb hcb;simp only[V.strip]at hb hcb;refine⟨hc.1,?_⟩;cases v'<;>simp only[V.isB,a1g]at hb;rename_i tt x;cases tt<;>simp only[a1g]at hb;exact hcb
     |d tt x=>rw[hg]at hb hcb;cases tt<;>simp only[V.strip,V.isB,a1g]at hb;exact hcb
     |_=>rw[hg]at hb;simp[V.strip,V.isB]at hb
   ·exact h.1
 |_=>simp only[ai6,fh]
variable {B:Tab} {Φ:FuncId->Option Ct}
theorem aqv{all rest:List Oper}{env:Env}{fs:List (Nat×Bool)}(hI:afe all rest env)(hf:Fs all env fs)(o:Oper)(M:Mem) :
  ∃vc,evR B Φ o env M=⟨vc,(evG B Φ all fs o env M).av,(evG B Φ all fs o env M).ev,(evG B Φ all fs o env M).M⟩/\(ab (evG B Φ all fs o env M).vc->ab vc):=by
 unfold evR evG;split
 ·rename_i c a b _;simp only[ag6,bb5,dh]
  cases hb:cd [(rd env c).strip.isB,(rd env a).strip.isB,(rd env b).strip.isB]with
  |false=>exact⟨_,rfl,id⟩
  |true=>
   refine⟨_,rfl,fun h=>?_⟩
   have hcB:(rd env c).strip.isB=true:=by
    simp only[cd]at hb
    cases hc:(rd env c).strip.isB with
    |true=>rfl
    |false=>rw[hc]at hb;cases hb
   simp only[a0d,kv]at h⊢;have hc:=at0 hI hf [c] h.1;exact⟨hc,bac hI hf hcB hc h.2.1,bac hI hf hcB hc h.2.2⟩
 ·generalize dz B Φ o (fun x=>(rd env x).strip) M=q;obtain⟨vc,v,e,M'⟩:=q;refine⟨_,rfl,fun h=>?_⟩;simp only[kv]at h⊢;exact⟨at0 hI hf _ h.1,h.2⟩
theorem by5:∀(e:List Ev)(v:V),lx v=true->v.evs e=v:=by
 intro e
 induction e with
 |nil=>intro v _;rfl
 |cons x e ih=>
  intro v h
  have key:∀v:V,lx v=true->v.ev x=v:=by
   intro v
   induction v with
   |gd j w P v ihv=>intro h;simp only[lx]at h;simp only[V.ev,ihv h]
   |d t y=>intro _;rfl
   |_=>intro h;simp[lx]at h
  simp only[V.evs,key v h];exact ih v h
theorem ayk{d:Nat}{o:Oper}{r:List Oper}(h:wIn d (o::r)=false):o.dst≠some d/\wIn d r=false:=by
 simp only[wIn]at h
 cases hs:asu d o.dst with
 |true=>rw[hs]at h;cases h
 |false=>rw[hs]at h;refine⟨fun he=>?_,h⟩;rw[he,bp0]at hs;cases hs
theorem bmv{d:Nat}:∀{a b:List Oper},wIn d (a++b)=false<->wIn d a=false/\wIn d b=false
 |[],b=>by simp[wIn]
 |o::a,b=>by
  simp only[a4y,wIn]
  cases asu d o.dst with
  |true=>simp
  |false=>simpa using bmv
theorem aun(d:Option Nat)(v:V)(env:Env)(t:Nat):gt (wr d v env) t=if d=some t then v else gt env t:=aiz d v env t
theorem bge:∀(t:T)(x:t.den),uy (n9 t x)=false:=by intro t x;cases t<;>rfl
theorem bl9(k:Nat)(π:cr)(e:Ev):uy (e.ref k π)=false:=by
 cases e with
 |fz r ob=>
  simp only[Ev.ref]
  cases Nat.beq k r with
  |false=>rfl
  |true=>
   simp only[a0d];split
   ·exact bge _ _
   ·rfl
 |cut r o o'=>simp only[Ev.ref];cases Nat.beq k r<;>cases z7 π<;>rfl
 |mv r k'|kl r|un r j|kn r j=>simp only[Ev.ref];cases Nat.beq k r<;>rfl
 |tk r o o'=>simp only[Ev.ref];cases Nat.beq k r<;>cases orb (z7 π) (bhw (trk π o) (trk π o'))<;>rfl
theorem bnf(k:Nat)(π:cr)(e:Ev):uy (e.ad k π)=false:=by
 cases e with
 |fz r ob=>
  simp only[Ev.ad]
  cases Nat.beq k r with
  |false=>rfl
  |true=>simp only[a0d];split<;>rfl
 |cut r o o'|tk r o o'=>simp only[Ev.ad];cases Nat.beq k r<;>cases aan (qb π o) (qb π o')<;>rfl
 |mv r k'|kl r=>simp only[Ev.ad];cases Nat.beq k r<;>rfl
 |un r j=>
  simp only[Ev.ad]
  cases Nat.beq k r with
  |false=>rfl
  |true=>simp only[a0d];split<;>rfl
 |kn r j=>
  simp only[Ev.ad]
  cases Nat.beq k r with
  |false=>rfl
  |true=>simp only[a0d];split<;>rfl
theorem an0{all:List Oper}{o:Oper}{rest:List Oper}{env env':Env}{v:V}(hI:afe all (o::rest) env)(hv:uy v=false)
  (he:∃e,∀t,gt env' t=(gt env t).evs e):afe all rest (wr o.dst v env'):=by
 obtain⟨e,he⟩:=he;intro t j w P x hx;rw[aun]at hx;split at hx
 ·subst hx;cases hv
 ·rw[he]at hx
  have hsh:∃y,gt env t=.gd j w P y:=by
   clear he;generalize gt env t=q at hx
   induction e generalizing q with
   |nil=>exact⟨x,hx⟩
   |cons z e ih=>
    simp only[V.evs]at hx;obtain⟨y,hy⟩:=ih _ hx
    cases q with
    |gd j' w' P' v'=>simp only[V.ev,V.gd.injEq]at hy;obtain⟨rfl,rfl,rfl,_⟩:=hy;exact⟨v',rfl⟩
    |ref k π=>have:=bl9 k π z;simp only[V.ev]at hy;rw[hy]at this;cases this
    |ad k π=>have:=bnf k π z;simp only[V.ev]at hy;rw[hy]at this;cases this
    |_=>simp[V.ev]at hy
  obtain⟨y,hy⟩:=hsh;obtain⟨d,h1,h2,h3,h4⟩:=hI t j w P y hy;obtain⟨h5,h6⟩:=ayk h4;have h7:gt (wr o.dst v env') d=gt env d:=by rw[aun,ds h5,he,by5 e _ h3]
  exact⟨d,h1,h7▸h2,h7▸h3,h6⟩
theorem ajr{all:List Oper}{o:Oper}{rest:List Oper}{env:Env}{j dj:Nat}{w:Bool}{v:V}(hI:afe all (o::rest) env)(hd:vq all j=some dj)(hg:lx (gt env dj)=true)(hw:wIn dj (o::rest)=false) :
  afe all rest (wr o.dst (.gd j w (gc (gt env dj) w) v) env):=by
 intro t i w' P x hx;rw[aun]at hx;split at hx
 ·cases hx;obtain⟨h5,h6⟩:=ayk hw;have h7:∀q,gt (wr o.dst q env) dj=gt env dj:=fun q=>by rw[aun,ds h5]
  exact⟨dj,hd,by rw[h7],by rw[h7];exact hg,h6⟩
 ·obtain⟨d,h1,h2,h3,h4⟩:=hI t i w' P x hx;obtain⟨h5,h6⟩:=ayk h4;have h7:∀q,gt (wr o.dst q env) d=gt env d:=fun q=>by rw[aun,ds h5]
  exact⟨d,h1,by rw[h7];exact h2,by rw[h7];exact h3,h6⟩
theorem bkc{all:List Oper}{env:Env}:Fs all env []:=fun _ _ h=>by cases h
theorem aqs{all:List Oper}{K:Env->Mem->Prop}:∀(ops:List Oper)(env:Env)(M:Mem),afe all ops env->twG B Φ all ops env M K->tw B Φ all ops env M K
 |[],_,_,_,h=>h
 |o::rest,env,M,hI,h=>by
  simp only[twG]at h;simp only[tw]
  cases hgd:o.guard with
  |none=>
   rw[hgd]at h;obtain⟨vc,he,hvc⟩:=aqv (B:=B) (Φ:=Φ) hI bkc o M;rw[he];generalize evG B Φ all [] o env M=q at h hvc⊢;obtain⟨vc',v,e,M'⟩:=q;simp only at h hvc⊢
   cases hv:uy v with
   |true=>rw[hv]at h;exact h.elim
   |false=>rw[hv]at h;simp only[a0j,oq]at h;rw[oq];exact⟨hvc h.1,aqs rest _ _ (an0 hI hv ⟨e,fun t=>uu t e env⟩) h.2⟩
  |some g=>
   obtain⟨j,want⟩:=g;rw[hgd]at h;simp only at h⊢
   cases hd:vq all j with
   |none=>rw[hd]at h;exact h.elim
   |some dj=>
    rw[hd]at h;simp only at h⊢;by_cases hG:gc (gt env dj) want
    ·obtain⟨vc,he,hvc⟩:=aqv (B:=B) (Φ:=Φ) hI (ar6 hI 8 j want dj hd hG) o M;rw[he];generalize evG B Φ all (n6 all env 8 j want) o env M=q at h hvc⊢;obtain⟨vc',v,e,M'⟩:=q;simp only[cd]at h hvc⊢;cases h1:lx (gt env dj)<;>rw[h1]at h<;>try exact h.elim
     cases h2:pd o<;>rw[h2]at h<;>try exact h.elim
     cases h3:fresh M e<;>rw[h3]at h<;>try exact h.elim
     cases h4:wIn dj (o::rest)<;>rw[h4]at h<;>try exact h.elim
     simp only[neg,a0d,a0j,aly]at h⊢;exact⟨fun g=>hvc (h.1 g),aqs rest _ _ (ajr hI hd h1 h4) h.2⟩
    ·have hev:(evR B Φ o env M).av=(evG B Φ all (n6 all env 8 j want) o env M).av/\(evR B Φ o env M).ev=(evG B Φ all (n6 all env 8 j want) o env M).ev/\(evR B Φ o env M).M=(evG B Φ all (n6 all env 8 j want) o env M).M:=by
      unfold evR evG;split
      ·simp only[ag6,bb5,dh];cases cd [_,_,_]<;>simp[bad]
      ·exact⟨rfl,rfl,rfl⟩
     generalize evG B Φ all (n6 all env 8 j want) o env M=q at h hev⊢;generalize evR B Φ o env M=q2 at hev⊢;obtain⟨vc',v,e,M'⟩:=q;obtain⟨vc2,v2,e2,M2⟩:=q2;simp only at hev;obtain⟨rfl,rfl,rfl⟩:=hev;simp only[cd]at h⊢;cases h1:lx (gt env dj)<;>rw[h1]at h<;>try exact h.elim
     cases h2:pd o<;>rw[h2]at h<;>try exact h.elim
     cases h3:fresh M e2<;>rw[h3]at h<;>try exact h.elim
     cases h4:wIn dj (o::rest)<;>rw[h4]at h<;>try exact h.elim
     simp only[neg,a0d,a0j,aly]at h⊢;exact⟨fun g=>absurd g hG,aqs rest _ _ (ajr hI hd h1 h4) h.2⟩
theorem cch{M M':Mem}(v:V):uy (avF M M' v)=false:=by
 cases v with
 |ref k π=>
  simp only[avF];split
  ·rfl
  ·split
   ·exact bge _ _
   ·rfl
 |ad k π=>
  simp only[avF];split
  ·rfl
  ·split<;>rfl
 |_=>rfl
theorem blf{all tl:List Oper}{K K':Env->Prop}(hK:∀env,afe all tl env->K' env->K env):∀(ops:List Oper)(env:Env)(M:Mem),afe all (ops++tl) env->dwG B Φ all tl ops env M K'->dw B Φ all ops env M K
 |[],env,_,hI,h=>hK env hI h
 |o::rest,env,M,hI,h=>by
  simp only[dwG]at h;simp only[dw]
  cases hgd:o.guard with
  |none=>
   rw[hgd]at h;obtain⟨vc,he,hvc⟩:=aqv (B:=B) (Φ:=Φ) hI bkc o M;rw[he];generalize evG B Φ all [] o env M=q at h hvc⊢;obtain⟨vc',v,e,M'⟩:=q;simp only[cd]at h hvc⊢;cases h2:pd o<;>rw[h2]at h<;>try exact h.elim
   cases h3:fresh M e<;>rw[h3]at h<;>try exact h.elim
   simp only[a0d,oq]at h;simp only[a0d];rw[oq];exact⟨hvc h.1,blf hK rest _ _ (an0 hI (cch v) ⟨[],fun t=>rfl⟩) h.2⟩
  |some g=>
   obtain⟨j,want⟩:=g;rw[hgd]at h;simp only at h⊢
   cases hd:vq all j with
   |none=>rw[hd]at h;exact h.elim
   |some dj=>
    rw[hd]at h;simp only at h⊢
    have hev:(evR B Φ o env M).av=(evG B Φ all (n6 all env 8 j want) o env M).av/\(evR B Φ o env M).ev=(evG B Φ all (n6 all env 8 j want) o env M).ev/\(evR B Φ o env M).M=(evG B Φ all (n6 all env 8 j want) o env M).M/\
      (gc (gt env dj) want->ab (evG B Φ all (n6 all env 8 j want) o env M).vc->ab (evR B Φ o env M).vc):=by
     refine⟨?_,?_,?_,fun hG=>?_⟩
     ·unfold evR evG;split
      ·simp only[ag6,bb5,dh];cases cd [_,_,_]<;>rfl
      ·rfl
     ·unfold evR evG;split<;>rfl
     ·unfold evR evG;split<;>rfl
     ·obtain⟨vc,he,hvc⟩:=aqv (B:=B) (Φ:=Φ) hI (ar6 hI 8 j want dj hd hG) o M;rw[he];exact hvc
    generalize evG B Φ all (n6 all env 8 j want) o env M=q at h hev⊢;generalize evR B Φ o env M=q2 at hev⊢;obtain⟨vc',v,e,M'⟩:=q;obtain⟨vc2,v2,e2,M2⟩:=q2;simp only at hev;obtain⟨rfl,rfl,rfl,hvc⟩:=hev;simp only[cd]at h⊢;cases h1:lx (gt env dj)<;>rw[h1]at h<;>try exact h.elim
    cases h2:pd o<;>rw[h2]at h<;>try exact h.elim
    cases h3:fresh M e2<;>rw[h3]at h<;>try exact h.elim
    cases h4:wIn dj (o::rest)<;>rw[h4]at h<;>try exact h.elim
    cases h5:wIn dj tl<;>rw[h5]at h<;>try exact h.elim
    simp only[neg,a0d,a0j,aly]at h⊢;have h6:wIn dj (o::(rest++tl))=false:=by have:=(bmv (a:=o::rest) (b:=tl)).2 ⟨h4,h5⟩;simpa using this
    exact⟨fun g=>hvc g (h.1 g),blf hK rest _ _ (ajr hI hd h1 h6) h.2⟩
theorem arx{all rest:List Oper}:∀{env:Env},nogd env=true->afe all rest env:=by
 intro env h t j w P v hx;exfalso
 induction env with
 |nil=>simp[gt]at hx
 |cons p env ih=>
  obtain⟨k,u0⟩:=p;simp only[nogd]at h
  cases hu:uy u0 with
  |true=>rw[hu]at h;cases h
  |false=>
   rw[hu]at h;simp only[gt]at hx
   cases hb:Nat.beq k t with
   |true=>rw[hb]at hx;simp only[a0d]at hx;subst hx;cases hu
   |false=>rw[hb]at hx;exact ih h hx
end Go.Bm
/- The ff machine:drawn regions that make boxes and fill them. -/
namespace Go.Bm
open Go.RowKit
variable {B:Tab} {Φ:FuncId->Option Ct}
theorem anf(e:Ev):∀v:V,ce v=true->v.ev e=v
 |.d _ _,_|.nl,_|.np,_|.u,_=>rfl
 |.p a b,h=>by simp only[ce,be,a0b]at h;simp only[V.ev,anf e a h.1,anf e b h.2]
 |.ag v,h|.fn f v,h|.bx v,h=>by simp only[ce]at h;simp only[V.ev,anf e v h]
 |.any,h|.ref _ _,h|.ad _ _,h|.tup _,h|.gd _ _ _ _,h|.ifc _ _,h=>by cases h
theorem asx(M:Mem):∀v:V,ce v=true->v.size M=v.size []
 |.d _ _,_|.nl,_|.np,_|.u,_=>rfl
 |.p a b,h=>by simp only[ce,be,a0b]at h;simp only[V.size,asx M a h.1,asx M b h.2]
 |.ag v,h|.fn f v,h|.bx v,h=>rfl
 |.any,h|.ref _ _,h|.ad _ _,h|.tup _,h|.gd _ _ _ _,h|.ifc _ _,h=>by cases h
theorem ak9(M:Mem)(v:V)(n:Nat)(h:ce v=true):kx M v n=kx [] v n:=by simp only[kx,asx M v h]
theorem aq7(M:Mem):∀(π:cr)(v:V),ce v=true->fe M π v=fe [] π v/\∀n x,fe [] π v=some (n,x)->ce x=true
 |[],v,h=>by simp only[fe,a0e,a0n];exact⟨trivial,fun n x e=>e.2▸h⟩
 |.l::π,.p a b,h=>by simp only[ce,be,a0b]at h;simp only[fe];exact aq7 M π a h.1
 |.r::π,.p a b,h=>by
  simp only[ce,be,a0b]at h;obtain⟨e1,e2⟩:=aq7 M π b h.2;simp only[fe,e1,asx M a h.1];refine⟨trivial,fun n x hx=>?_⟩;split at hx
  ·rename_i m n' x' _ h2;cases hx;exact e2 _ _ h2
  ·cases hx
 |.de::π,.p a b,_|.ix _::π,.p a b,_|.l::π,.d _ _,_|.r::π,.d _ _,_|.de::π,.d _ _,_|.ix _::π,.d _ _,_|_::π,.nl,_|_::π,.np,_|_::π,.u,_|_::π,.ag _,_|_::π,.fn _ _,_|_::π,.bx _,_=>by simp[fe]
 |_::_,.any,h|_::_,.ref _ _,h|_::_,.ad _ _,h|_::_,.tup _,h|_::_,.gd _ _ _ _,h|_::_,.ifc _ _,h=>by cases h
theorem bke(M:Mem)(x:V)(π:cr)(off:Nat)(h:ce x=true):akc M x π off=akc [] x π off:=by cases x<;>first|rfl|(simp only[ce]at h;simp only[akc,(aq7 M π _ h).1];done)|(cases h;done)|(rename_i t x;cases t<;>rfl)
theorem bqf(τ:Ty)(M:Mem)(x:V)(i:Nat)(h:ce x=true):aen τ M x i=aen τ [] x i:=by simp only[aen,bke M x _ _ h]
theorem bst(τ:Ty)(M:Mem)(x:V)(i:Nat)(h:ce x=true):aix B τ M x i=aix B τ [] x i:=by
 unfold aix;split
 ·rename_i off ft _ v _;simp only[ce]at h;obtain⟨e1,e2⟩:=aq7 M (agl (len τ.fld) i) v h;rw[e1]
  cases hs:fe [] (agl (len τ.fld) i) v with
  |none=>rfl
  |some q=>obtain⟨n,w⟩:=q;simp only[ak9 M w _ (e2 _ _ hs)]
 ·rfl
theorem bre(τ:Ty)(M:Mem)(x i:V)(h:ce x=true):aiy B τ M x i=aiy B τ [] x i:=by
 unfold aiy;split
 ·cases x<;>first|rfl|(cases h;done)|(rename_i t x;cases t<;>rfl)
 ·rfl
theorem br4(τ:Ty)(M:Mem)(x i:V)(h:ce x=true):ait B τ M x i=ait B τ [] x i:=by
 unfold ait;split
 ·simp only[bhq,bke M x _ _ h]
 ·exact bre τ M x i h
theorem bpr(τ:Ty)(M:Mem)(x:V)(h:ce x=true):za τ M x=za τ [] x:=by cases x<;>first|rfl|(simp only[ce]at h;simp only[za,ak9 M _ _ h];done)|(cases h;done)|(rename_i t x;cases t<;>rfl)
theorem afo{v:V}(h:ce v=true):v.strip=v:=by cases v<;>first|rfl|cases h
theorem ac5{env:Env}:∀{l:List Operand},acr env l=true->∀x∈l,ce (rd env x)=true
 |[],_,x,h=>by cases h
 |y::l,hd,x,h=>by
  simp only[acr,be,a0b]at hd
  cases h with
  |head=>exact hd.1
  |tail _ h=>exact ac5 hd.2 x h
theorem bfq{f:Operand->V}:∀(l:List Operand),(∀x∈l,ce (f x)=true)->pi f l=[]
 |[],_=>rfl
 |x::r,h=>by
  have hx:=h x (by simp);simp only[pi];split
  ·rename_i e;rw[e]at hx;cases hx
  ·exact bfq r fun y hy=>h y (by simp[hy])
theorem bmp{s d:TypeId}(M:Mem)(x:V)(h:ce x=true):abj B s d M x=abj B s d [] x:=by
 have:∀N,aze N x=none:=fun N=>by cases x<;>first|rfl|cases h
 simp only[abj,this]
theorem bu1{o:Oper}{env:Env}(M:Mem)(hk:vt o.op=true)(hd:acr env (cy o.op)=true){vc:List Prop}{v:V}(h:evR B Φ o env []=⟨vc,v,[],[]⟩) :
  evR B Φ o env M=⟨vc,v,[],M⟩:=by
 have hm:=ac5 hd;obtain⟨dst,op,ty',pos,after,guard⟩:=o;cases op<;>simp only[vt,a1g]at hk<;>simp only[cy]at hm<;>simp only[evR,dz]at h⊢<;>(try simp only[dh]at h⊢;cases h)
 case load t x=>
  have hx:=hm x (by simp);have hn:∀N:Mem,ape (B.τ t) N dst (rd env x)=none:=fun N=>by generalize rd env x=v at hx;cases v<;>first|rfl|(simp[ce]at hx)
  simp only[afo hx,ul,hn,dh]at h⊢;simp only[bpr _ M _ hx];simp only[Rs.mk.injEq]at h⊢;exact⟨h.1,h.2.1,trivial,trivial⟩
 case fieldAddr t x i=>have hx:=hm x (by simp);simp only[afo hx,bqf _ M _ _ hx]
 case field t x i=>have hx:=hm x (by simp);simp only[afo hx,bst _ M _ _ hx]
 case indexAddr t x i=>have hx:=hm x (by simp);simp only[afo hx,br4 _ M _ _ hx]
 case convert s d x=>have hx:=hm x (by simp);simp only[afo hx,bmp M _ hx]
 all_goals rfl
theorem aij(k:Nat)(M M':Mem):∀(t:T)(v:V),ce v=true->∀q e X,conv k t v M'=some (q,e,X)->e=[]/\X=M'/\conv k t v M=some (q,[],M):=by
 intro t v
 induction v generalizing t with
 |p a b iha ihb=>
  intro h q e X hc;simp only[ce,be,a0b]at h;cases t<;>simp only[conv]at hc<;>try cases hc
  rename_i t1 t2
  cases h1:conv k t1 a M' with
  |none=>rw[h1]at hc;cases hc
  |some r=>
   obtain⟨q1,e1,X1⟩:=r;rw[h1]at hc;obtain⟨rfl,hX1,i1⟩:=iha _ h.1 _ _ _ h1;rw[hX1]at hc;simp only[V.evs]at hc
   cases h2:conv k t2 b M' with
   |none=>rw[h2]at hc;cases hc
   |some r2=>obtain⟨q2,e2,X2⟩:=r2;rw[h2]at hc;obtain⟨rfl,hX2,i2⟩:=ihb _ h.2 _ _ _ h2;cases hc;refine⟨rfl,hX2,?_⟩;simp only[conv,i1,V.evs,i2,ap]
 |u|d t' x|nl|np=>intro _ q e X hc;cases t<;>simp only[conv]at hc⊢<;>cases hc<;>exact⟨rfl,rfl,rfl⟩
 |fn f v ih=>intro h q e X hc;cases v<;>cases t<;>simp only[conv]at hc⊢<;>cases hc<;>exact⟨rfl,rfl,rfl⟩
 |ag v ih|bx v ih=>intro _ q e X hc;cases t<;>simp only[conv]at hc<;>cases hc
 |_=>intro h;cases h
theorem bgn{v:V}(h:ce v=true):ce v.cells=true:=by cases v<;>exact h
theorem bsg(d:Nat)(ob:Ob):go [(d,ob)] d=some ob:=by rw[dn,a0a rfl]
theorem bo4{x y:V}{M:Mem}{r:Rs}(h:ce y=true):aa7 x y M r=r:=by
 unfold aa7;split
 ·cases h
 ·rfl
theorem bwg{k:Nat}{v:V}{M:Mem}(h:ce v=true):azu k v M=none:=by
 unfold azu;split
 ·cases h
 ·rfl
theorem bsl{b:Bool}{k:Nat}{t:T}{v:V}{M:Mem}(h:ce v=true):alg b k t v M=conv k t v M:=by unfold alg;rw[bwg h];cases b<;>rfl
theorem aj1:∀v:V,ce v=true->agd v=false
 |.p a b,h=>by simp only[ce,be,a0b]at h;simp only[agd,aj1 a h.1,aj1 b h.2,lq,Bool.or_self]
 |.bx v,h|.fn _ v,h=>by simp only[ce]at h;simp only[agd];exact aj1 v h
 |.d _ _,_|.nl,_|.np,_|.u,_|.any,_=>rfl
 |.ad _ _,h|.ref _ _,h=>by simp[ce]at h
 |.ag _,_|.tup _,_|.gd _ _ _ _,_|.ifc _ _,_=>rfl
theorem btn{B:Tab}{t:TypeId}{x y:V}{M:Mem}(h:ce y=true):aiv B t x y M=uq B t x y M:=by
 unfold aiv
 have:axv (B.τ t) x y M=none:=by
  unfold axv;split
  ·rw[aj1 _ (by simpa only [ce]using h)];rfl
  ·rfl
 rw[this];exact bo4 h
theorem brm{t:TypeId}{d:Nat}{y:V}{ob ob':Ob}{M:Mem}(hy:ce y=true)(hg:go M d=some ob)(h:bqe d (uq B t (.ad d [.de]) y [(d,ob)])=some ob') :
  ∃v e,uq B t (.ad d [.de]) y M=⟨[],v,[e],put d ob' M⟩/\∃o o',e=.cut d o o'/\aan (qb [.de] o) (qb [.de] o')=true:=by
 have hcy:=bgn hy;simp only[uq,bsg,hg,qh]at h⊢
 cases hq:get [.de] ob.o ob.x with
 |none=>rw[hq]at h;cases h
 |some q=>
  rw[hq]at h;simp only[ak9 M y.cells _ hcy,ak9 [(d,ob)] y.cells _ hcy]at h⊢
  cases hb:cd [(B.τ t).ok,kx [] y.cells (B.τ t).size,gb q.o.strip.size (B.τ t).size,neg (isZ (B.τ t).size)]with
  |false=>rw[hb]at h;cases h
  |true=>
   rw[hb]at h;simp only[a0d,agp,a0j,bsl hcy]at h⊢
   cases hc:conv d (B.σ t) y.cells []with
   |none=>
    exfalso
    cases hc':conv d (B.σ t) y.cells [(d,ob)]with
    |none=>rw[hc']at h;cases h
    |some r=>obtain⟨q',e',X'⟩:=r;obtain⟨_,_,c3⟩:=aij d [] [(d,ob)] _ _ hcy _ _ _ hc';rw[c3]at hc;cases hc
   |some r=>
    obtain⟨z,e,X⟩:=r;obtain⟨rfl,rfl,c1⟩:=aij d M [] _ _ hcy _ _ _ hc;obtain⟨_,_,c2⟩:=aij d [(d,ob)] [] _ _ hcy _ _ _ hc;rw[c2]at h;rw[c1];simp only[bsg,hg]at h⊢
    cases hs:set [.de] ob.o ob.x z with
    |none=>rw[hs]at h;cases h
    |some ob2=>
     rw[hs]at h;simp only at h⊢
     cases hz:gb z.o.strip.size (B.τ t).size with
     |false=>rw[hz]at h;cases h
     |true=>
      rw[hz]at h;simp only[a0d,ap]at h⊢;have hcl:be3 [.de] ob2=none:=rfl;simp only[hcl]at h⊢;have hp:put d ob2 [(d,ob)]=[(d,ob2)]:=by simp only[put,dg,a04]
      rw[hp]at h;simp only[bqe,a3c,a0d,a0e]at h;subst h;refine⟨_,_,rfl,_,_,rfl,?_⟩;obtain⟨oo,xx⟩:=ob;cases oo<;>simp only[set]at hs<;>cases hs;rfl
def azx(B:Tab)(Φ:FuncId->Option Ct)(o:Oper)(e:Env)(x:Mem)(e':Env)(x':Mem):Prop:=
 o.guard=none/\(
  (∃ty d,o.op=.alloc ty/\o.dst=some d/\cd [(B.τ ty).ok,B.z ty]=true/\go x d=none/\e'=(d,.ad d [.de])::e/\x'=(d,alb B ty)::x)\/
  (∃t d y ob ob',o.op=.store t (.tmp d) y/\o.dst=none/\go x d=some ob/\ce (rd e y)=true/\bia d (gt e d)=true/\bqe d (uq B t (.ad d [.de]) (rd e y) [(d,ob)])=some ob'/\e'=e/\x'=put d ob' x)\/
  (∃d vc v,o.dst=some d/\vt o.op=true/\acr e (cy o.op)=true/\evR B Φ o e []=⟨vc,v,[],[]⟩/\ce v=true/\ab vc/\e'=(d,v)::e/\x'=x))
theorem bz0{o:Oper}{env:Env}{k:List Prop->V->Prop}(h:bxP B Φ o env k):∃vc v,vt o.op=true/\acr env (cy o.op)=true/\evR B Φ o env []=⟨vc,v,[],[]⟩/\ce v=true/\k vc v:=by
 unfold bxP at h
 cases hb:nob (vt o.op) (acr env (cy o.op))with
 |false=>rw[hb]at h;exact h.elim
 |true=>
  rw[hb]at h;simp only[be,a0b]at hb;simp only[a0d]at h;split at h
  ·rename_i vc v hp;refine⟨vc,v,hb.1,hb.2,?_⟩;generalize evR B Φ o env []=q at hp;unfold bxu at hp;split at hp
   ·rename_i vc' v'
    cases hd:ce v' with
    |false=>rw[hd]at hp;cases hp
    |true=>rw[hd]at hp;cases hp;exact⟨rfl,hd,h⟩
   ·cases hp
  ·exact h.elim
theorem bjg:∀(ops:List Oper)(e:Env)(x:Mem)(K:Env->Mem->Prop),bx B Φ ops e x K->
  ∃(E:Nat->Env)(X:Nat->Mem),E 0=e/\X 0=x/\(∀j o,ops[j]? = some o->azx B Φ o (E j) (X j) (E (j+1)) (X (j+1)))/\K (E ops.length) (X ops.length)
 |[],e,x,K,h=>⟨fun _=>e,fun _=>x,rfl,rfl,fun j o h=>by simp at h,h⟩
 |o::r,e,x,K,h=>by
  have key:∃e' x',azx B Φ o e x e' x'/\bx B Φ r e' x' K:=by
   simp only[bx]at h;split at h
   ·rename_i ty d hg ho hd;unfold bxA at h
    cases hb:cd [(B.τ ty).ok,B.z ty,isN (go x d)]with
    |false=>rw[hb]at h;exact h.elim
    |true=>
     rw[hb]at h;simp only[br,bz,a0o,a0b]at hb;refine⟨_,_,⟨hg,.inl ⟨ty,d,ho,hd,by simp only[br,bz,hb.1,hb.2.1,a2n],?_,rfl,rfl⟩⟩,h⟩
     cases hx:go x d with
     |none=>rfl
     |some _=>rw[hx]at hb;exact absurd hb.2.2 (by simp[isN])
   ·rename_i t d y hg ho hd;unfold bxS at h;split at h
    ·rename_i ob hx
     cases hb:nob (ce (rd e y)) (bia d (gt e d))with
     |false=>rw[hb]at h;exact h.elim
     |true=>
      rw[hb]at h;simp only[be,a0b]at hb;simp only[a0d]at h;split at h
      ·rename_i ob' h1;exact⟨_,_,⟨hg,.inr (.inl ⟨t,d,y,ob,ob',ho,hd,hx,hb.1,hb.2,h1,rfl,rfl⟩)⟩,h⟩
      ·exact h.elim
    ·exact h.elim
   ·rename_i d hg hd _;obtain⟨vc,v,h1,h2,h3,h4,h5⟩:=bz0 h;rw[oq]at h5;exact⟨_,_,⟨hg,.inr (.inr ⟨d,vc,v,hd,h1,h2,h3,h4,h5.1,rfl,rfl⟩)⟩,h5.2⟩
   ·exact h.elim
  obtain⟨e',x',h1,h2⟩:=key;obtain⟨E,X,i1,i2,i3,i4⟩:=bjg r e' x' K h2;refine⟨fun j=>match j with|0=>e|j+1=>E j,fun j=>match j with|0=>x|j+1=>X j,rfl,rfl,fun j o' hj=>?_,by simpa using i4⟩
  cases j with
  |zero=>simp only[a1u,a0e]at hj;subst hj;simp only;rw[i1,i2];exact h1
  |succ j=>simp only[a2i]at hj;exact i3 j o' hj
theorem bnx{k:Nat}:∀{l:List Nat},k∈l->inN k l=true
 |j::r,h=>by
  simp only[inN]
  cases h with
  |head=>rw[a3c];rfl
  |tail _ h=>cases Nat.beq j k<;>simp[bnx h]
theorem bin{k:Nat}:∀{l:List Oper} {s:Nat} {o:Oper},l[s]? = some o->tgt o=some k->k∈akl l
 |[],s,o,h,_=>by simp at h
 |x::r,0,o,h,ht=>by simp only[a1u,a0e]at h;subst h;simp[akl,ht]
 |x::r,s+1,o,h,ht=>by
  simp only[a2i]at h;have:=bin h ht;simp only[akl];split
  ·exact a1k _ this
  ·exact this
theorem bgj{k:Nat}:∀{l:List Oper},acm (akl l)=true->∀{s s':Nat} {o o':Oper},l[s]? = some o->l[s']? = some o'->tgt o=some k->tgt o'=some k->s=s'
 |[],_,s,_,o,_,h,_,_,_=>by simp at h
 |x::r,hn,s,s',o,o',h,h',ht,ht'=>by
  have hr:acm (akl r)=true:=by
   simp only[akl]at hn;split at hn
   ·rename_i d0 _;simp only[acm]at hn
    cases hi:inN d0 (akl r)with
    |true=>rw[hi]at hn;cases hn
    |false=>rw[hi]at hn;exact hn
   ·exact hn
  have hx:tgt x=some k->∀(s:Nat)(o:Oper),r[s]? = some o->tgt o=some k->False:=fun hx s o ho hto=>by have:=bnx (bin ho hto);simp only[akl,hx,acm,this,a0d]at hn;cases hn
  cases s with
  |zero=>
   simp only[a1u,a0e]at h;subst h
   cases s' with
   |zero=>rfl
   |succ s'=>exact (hx ht s' o' (by simpa using h') ht').elim
  |succ s=>
   simp only[a2i]at h
   cases s' with
   |zero=>simp only[a1u,a0e]at h';subst h';exact (hx ht' s o h ht).elim
   |succ s'=>rw[bgj hr h (by simpa using h') ht ht']
theorem aua{k:Nat}{ty:TypeId}:∀{l:List Oper} {s:Nat} {o:Oper},l[s]? = some o->o.op=.alloc ty->o.dst=some k->k∈tp l
 |[],s,o,h,_,_=>by simp at h
 |x::r,0,o,h,h1,h2=>by simp only[a1u,a0e]at h;subst h;simp[tp,h1,h2]
 |x::r,s+1,o,h,h1,h2=>by
  simp only[a2i]at h;have:=aua h h1 h2;simp only[tp];split
  ·exact a1k _ this
  ·exact this
theorem adj(k:Nat):∀v:V,(v.ev (.kl k)).ev (.kl k)=v.ev (.kl k)
 |.ref r π=>by
  simp only[V.ev,Ev.ref]
  cases h:Nat.beq r k with
  |true=>rfl
  |false=>simp only[a0j,V.ev,Ev.ref,h]
 |.ad r π=>by
  simp only[V.ev,Ev.ad]
  cases h:Nat.beq r k with
  |true=>rfl
  |false=>simp only[a0j,V.ev,Ev.ad,h]
 |.p a b=>by simp only[V.ev,adj k a,adj k b]
 |.ag v|.tup v|.gd _ _ _ v|.fn _ v|.ifc _ v|.bx v=>by simp only[V.ev,adj k v]
 |.any|.nl|.np|.u|.d _ _=>rfl
theorem acw(k j:Nat):∀v:V,(v.ev (.kl k)).ev (.kl j)=(v.ev (.kl j)).ev (.kl k)
 |.ref r π=>by simp only[V.ev,Ev.ref];cases h:Nat.beq r k<;>cases h':Nat.beq r j<;>simp only[a0j,a0d,V.ev,Ev.ref,h,h']
 |.ad r π=>by simp only[V.ev,Ev.ad];cases h:Nat.beq r k<;>cases h':Nat.beq r j<;>simp only[a0j,a0d,V.ev,Ev.ad,h,h']
 |.p a b=>by simp only[V.ev,acw k j a,acw k j b]
 |.ag v|.tup v|.gd _ _ _ v|.fn _ v|.ifc _ v|.bx v=>by simp only[V.ev,acw k j v]
 |.any|.nl|.np|.u|.d _ _=>rfl
theorem af6{k:Nat}{o o':O}:∀v:V,v.ev (.kl k)=v->v.ev (.cut k o o')=v
 |.ref r π,h=>by
  simp only[V.ev,Ev.ref]at h⊢
  cases hb:Nat.beq r k with
  |true=>rw[hb]at h;cases h
  |false=>rfl
 |.ad r π,h=>by
  simp only[V.ev,Ev.ad]at h⊢
  cases hb:Nat.beq r k with
  |true=>rw[hb]at h;cases h
  |false=>rfl
 |.p a b,h=>by simp only[V.ev,V.p.injEq]at h⊢;exact⟨af6 a h.1,af6 b h.2⟩
 |.ag v,h=>by simp only[V.ev,V.ag.injEq]at h⊢;exact af6 v h
 |.tup v,h=>by simp only[V.ev,V.tup.injEq]at h⊢;exact af6 v h
 |.gd _ _ _ v,h=>by simp only[V.ev,V.gd.injEq,a0f]at h⊢;exact af6 v h
 |.fn _ v,h=>by simp only[V.ev,V.fn.injEq,a0f]at h⊢;exact af6 v h
 |.ifc _ v,h=>by simp only[V.ev,V.ifc.injEq,a0f]at h⊢;exact af6 v h
 |.bx v,h=>by simp only[V.ev,V.bx.injEq]at h⊢;exact af6 v h
 |.any,_|.nl,_|.np,_|.u,_|.d _ _,_=>rfl
theorem btp:∀(ids:List Nat)(env:Env)(t k:Nat),k∈ids->(gt (klE ids env) t).ev (.kl k)=gt (klE ids env) t
 |i::r,env,t,k,h=>by
  simp only[klE];by_cases hr:k∈r
  ·exact btp r _ t k hr
  ·have hk:k=i:=by
    cases h with
    |head=>rfl
    |tail _ h=>exact absurd h hr
   subst hk
   have key:∀(r:List Nat)(env:Env),(∀t,(gt env t).ev (.kl k)=gt env t)->∀t,(gt (klE r env) t).ev (.kl k)=gt (klE r env) t:=by
    intro r
    induction r with
    |nil=>intro env h t;exact h t
    |cons j r ih=>intro env h t;simp only[klE];refine ih _ (fun t=>?_) t;rw[ajl,acw,h]
   exact key r _ (fun t=>by rw[ajl,adj]) t
theorem bt3:∀(ids:List Nat)(M:Mem)(k:Nat),k∈ids->go (klM ids M) k=none
 |i::r,M,k,h=>by
  simp only[klM];by_cases hr:k∈r
  ·exact bt3 r _ k hr
  ·have hk:k=i:=by
    cases h with
    |head=>rfl
    |tail _ h=>exact absurd h hr
   subst hk
   have key:∀(r:List Nat)(M:Mem),go M k=none->go (klM r M) k=none:=by
    intro r
    induction r with
    |nil=>intro M h;exact h
    |cons j r ih=>
     intro M h;simp only[klM];refine ih _ ?_;by_cases e:k=j
     ·subst e;exact dy _ _
     ·rw[dx e,h]
   exact key r _ (dy _ _)
theorem St.kls{F:Fr}{a:Act}{w:World}:∀(ids:List Nat) {p:Ow} {env:Env} {M:Mem},St F p env M a w->St F p (klE ids env) (klM ids M) a w
 |[],_,_,_,h=>h
 |k::r,p,env,M,h=>by have:=h.tr (Tr.kl h.hp k) h.lz;exact St.kls r (by simpa only [p8]using this)
theorem St.same{F:Fr}{p:Ow}{env env':Env}{M M':Mem}{a:Act}{w:World}(h:St F p env M a w)(hM:∀k,go M' k=go M k)(he:∀t,gt env' t=gt env t):St F p env' M' a w:=by
 have hl:∀k,c6 M' k<->c6 M k:=fun k=>by simp only[c6,hM]
 have hi:Imm F p M' w=Imm F p M w:=by
  funext b
  simp only[Imm,hl]
 have hp:Hp F p M' w:=by refine⟨fun k ob hk=>?_,fun k k' b h1 h2 h3=>h.hp.sep k k' b h1 ((hl k).1 h2) ((hl k').1 h3),fun k b h1=>h.hp.own k b ((hl k).1 h1),fun b hb=>⟨(h.hp.lim b hb).1,(h.hp.lim b hb).2.1,fun k hk=>(h.hp.lim b hb).2.2 k ((hl k).1 hk)⟩,h.hp.os,h.hp.tape,h.hp.output,h.hp.size,h.hp.old⟩;rw[hi];exact h.hp.objs k ob (by rw[←hM];exact hk)
 have ht:Tr F p M w [] p M' w:=Tr.zero (by rw[hi];exact ju.refl _ _) (fun k π vs r=>r.same h.hp (hM k) rfl fun _ _ _=>rfl) (fun k π v r=>r.same h.hp (hM k) rfl fun _ _ _=>rfl) hp;exact (h.tr ht h.lz).weak fun t=>.inr (by rw[he];rfl)
section
variable {F:Fr} {P:Program} {all:Array Oper} {E:Nat->Env} {X:Nat->Mem} {M0:Mem}
structure Sta (B:Tab) (all:Array Oper) (E:Nat->Env) (X:Nat->Mem) (M0:Mem) (listed:Array Bool) (env:Env) (M:Mem):Prop where
 a:∀t,(∀(i:Nat)(o:Oper),all[i]? = some o->isL listed i->o.dst≠some t)->gt env t=gt (E 0) t
 b:∀(i:Nat)(o:Oper)(t:Nat),all[i]? = some o->isL listed i->o.dst=some t->gt env t=gt (E (i+1)) t
 c:∀k,(∀(i:Nat)(o:Oper)(ty:TypeId),all[i]? = some o->isL listed i->o.op=.alloc ty->o.dst≠some k)->go M k=go M0 k
 d:∀(i:Nat)(o:Oper)(k:Nat)(ty:TypeId),all[i]? = some o->isL listed i->o.op=.alloc ty->o.dst=some k->(∀(s:Nat)(o':Oper),all[s]? = some o'->isL listed s->tgt o'≠some k)->go M k=some (alb B ty)
 s:∀(s:Nat)(o:Oper)(k:Nat),all[s]? = some o->isL listed s->tgt o=some k->go M k=go (X (s+1)) k
structure Ctx (B:Tab) (Φ:FuncId->Option Ct) (all:Array Oper) (E:Nat->Env) (X:Nat->Mem) (M0:Mem):Prop where
 hb:aam 0 all.toList=true
 hdr:ajv all (ij [] all.toList) all.size=true
 hnd:acm (akl all.toList)=true
 hE:∀(j:Nat)(o:Oper),all[j]? = some o->azx B Φ o (E j) (X j) (E (j+1)) (X (j+1))
 hX:X 0=[]
 h0:∀t (i:Nat) (o:Oper) (ty:TypeId) (k:Nat),all[i]? = some o->o.op=.alloc ty->o.dst=some k->(gt (E 0) t).ev (.kl k)=gt (E 0) t
 hM:∀(i:Nat)(o:Oper)(ty:TypeId)(k:Nat),all[i]? = some o->o.op=.alloc ty->o.dst=some k->go M0 k=none
theorem Ctx.uniq(C:Ctx B Φ all E X M0){i j:Nat}{x y:Oper}{t:Nat}(hx:all[i]? = some x)(hy:all[j]? = some y)(h1:x.dst=some t)(h2:y.dst=some t):i=j:=by
 rcases Nat.decEq i j with h|h
 ·exact absurd h2 (asz (mw C.hdr (a0x.1 hx).1 (a0x.1 hy).1 h hx hy) h1)
 ·exact h
theorem Ctx.tuniq(C:Ctx B Φ all E X M0){i j:Nat}{x y:Oper}{t:Nat}(hx:all[i]? = some x)(hy:all[j]? = some y)(h1:tgt x=some t)(h2:tgt y=some t):i=j:=bgj C.hnd (by rw[nx];exact hx) (by rw[nx];exact hy) h1 h2
theorem bww{o:Oper}{e e':Env}{x x':Mem}(h:azx B Φ o e x e' x'):e'=wr o.dst (match o.dst with|some d=>gt e' d|none=>.any) e:=by
 obtain⟨_,⟨ty,d,_,hd,_,_,rfl,_⟩|⟨t,d,y,ob,ob',_,hd,_,_,_,_,rfl,_⟩|⟨d,vc,v,hd,_,_,_,_,_,rfl,_⟩⟩:=h
 ·rw[hd];simp only[wr,iy,a04]
 ·rw[hd];rfl
 ·rw[hd];simp only[wr,iy,a04]
theorem bgv{o:Oper}{e e':Env}{x x':Mem}{t:Nat}(h:azx B Φ o e x e' x')(ht:o.dst=some t):ce (gt e' t)=true\/gt e' t=.ad t [.de]:=by
 obtain⟨_,⟨ty,d,_,hd,_,_,rfl,_⟩|⟨_,d,y,ob,ob',_,hd,_,_,_,_,rfl,_⟩|⟨d,vc,v,hd,_,_,_,hv,_,rfl,_⟩⟩:=h
 ·rw[hd]at ht;cases ht;right;simp only[iy,a04]
 ·rw[hd]at ht;cases ht
 ·rw[hd]at ht;cases ht;left;simp only[iy,a04];exact hv
theorem Ctx.spec(C:Ctx B Φ all E X M0):∀(j:Nat),j<=all.size->∀k ob,go (X j) k=some ob->
  ∃(i:Nat)(o:Oper)(ty:TypeId),i<j/\all[i]? = some o/\o.op=.alloc ty/\o.dst=some k/\((∀(s:Nat)(o':Oper),s<j->all[s]? = some o'->tgt o'≠some k)->ob=alb B ty)
 |0,_,k,ob,h=>by rw[C.hX]at h;cases h
 |j+1,hj,k,ob,h=>by
  have ho:all[j]? = some all[j]:=a3g (by omega)
  have up:∀{ob2},go (X j) k=some ob2->(ob2=ob\/tgt all[j]=some k)->∃(i:Nat)(o:Oper)(ty:TypeId),i<j+1/\all[i]? = some o/\o.op=.alloc ty/\o.dst=some k/\((∀(s:Nat)(o':Oper),s<j+1->all[s]? = some o'->tgt o'≠some k)->ob=alb B ty):=by
   intro ob2 h2 h3;obtain⟨i,o,ty,i1,i2,i3,i4,i5⟩:=C.spec j (by omega) k ob2 h2;refine⟨i,o,ty,by omega,i2,i3,i4,fun hs=>?_⟩;rcases h3 with h3|h3
   ·rw[←h3];exact i5 fun s o' hs'=>hs s o' (by omega)
   ·exact absurd h3 (hs j _ (by omega) ho)
  obtain⟨_,⟨ty,d,hop,hd,_,hx,_,e⟩|⟨t,d,y,ob1,ob',hop,hd,hx,_,_,_,_,e⟩|⟨d,vc,v,hd,_,_,_,hv,_,_,e⟩⟩:=C.hE j _ ho
  ·rw[e,dn]at h;split at h
   ·rename_i hk;subst hk;cases h;exact⟨j,_,ty,by omega,ho,hop,hd,fun _=>rfl⟩
   ·exact up h (.inl rfl)
  ·rw[e]at h;by_cases hk:k=d
   ·subst hk;exact up hx (.inr (by simp only[tgt,hop]))
   ·rw[lu _ hk]at h;exact up h (.inl rfl)
  ·rw[e]at h;exact up h (.inl rfl)
theorem Ctx.fresh(C:Ctx B Φ all E X M0){i:Nat}{o:Oper}{k:Nat}{ty:TypeId}(hi:all[i]? = some o)(h1:o.op=.alloc ty)(h2:o.dst=some k):∀(j:Nat),j<=all.size->i<j->(∀(s:Nat)(o':Oper),s<j->all[s]? = some o'->tgt o'≠some k)->go (X j) k=some (alb B ty)
 |0,_,h,_=>by omega
 |j+1,hj,h,hs=>by
  have ho:all[j]? = some all[j]:=a3g (by omega);obtain⟨_,⟨ty',d,hop,hd,_,hx,_,e⟩|⟨t,d,y,ob1,ob',hop,hd,hx,_,_,_,_,e⟩|⟨d,vc,v,hd,hpk,_,_,hv,_,_,e⟩⟩:=C.hE j _ ho
  ·rw[e,dn];by_cases hk:d=k
   ·subst hk;have:=C.uniq hi ho h2 hd;subst this;rw[hi]at ho;cases ho;rw[a0a rfl];rw[h1]at hop;cases hop;rfl
   ·rw[ds hk];have hij:i≠j:=fun hij=>by subst hij;rw[hi]at ho;cases ho;rw[h2]at hd;cases hd;exact hk rfl
    exact C.fresh hi h1 h2 j (by omega) (by omega) fun s o' hs'=>hs s o' (by omega)
  ·have hij:i≠j:=fun hij=>by subst hij;rw[hi]at ho;cases ho;rw[h2]at hd;cases hd
   have hk:k≠d:=fun hk=>hs j _ (by omega) ho (by subst hk;simp only[tgt,hop]);rw[e,lu _ hk];exact C.fresh hi h1 h2 j (by omega) (by omega) fun s o' hs'=>hs s o' (by omega)
  ·have hij:i≠j:=fun hij=>by subst hij;rw[hi]at ho;cases ho;rw[h1]at hpk;cases hpk
   rw[e];exact C.fresh hi h1 h2 j (by omega) (by omega) fun s o' hs'=>hs s o' (by omega)
theorem Ctx.alloc_of(C:Ctx B Φ all E X M0){s:Nat}{o:Oper}{k:Nat}(hs:all[s]? = some o)(ht:tgt o=some k) :
  ∃(i:Nat)(x:Oper)(ty:TypeId),i<s/\all[i]? = some x/\x.op=.alloc ty/\x.dst=some k/\go (X s) k=some (alb B ty):=by
 have hlt:=(a0x.1 hs).1;obtain⟨_,⟨ty,d,hop,hd,_,hx,_,e⟩|⟨t,d,y,ob1,ob',hop,hd,hx,_,_,_,_,e⟩|⟨d,vc,v,hd,hpk,_,_,hv,_,_,e⟩⟩:=C.hE s _ hs
 ·simp only[tgt,hop]at ht;cases ht
 ·simp only[tgt,hop,a0e]at ht;subst ht;obtain⟨i,x,ty,i1,i2,i3,i4,i5⟩:=C.spec s (by omega) d ob1 hx;refine⟨i,x,ty,i1,i2,i3,i4,?_⟩;rw[hx,i5 fun s' o' h1 h2 h3=>?_];have:=C.tuniq h2 hs h3 (by simp only[tgt,hop]);omega
 ·exfalso;unfold tgt at ht;split at ht
  ·rename_i hop;rw[hop]at hpk;cases hpk
  ·cases ht
theorem Ctx.kept(C:Ctx B Φ all E X M0){s:Nat}{o:Oper}{k:Nat}(hs:all[s]? = some o)(ht:tgt o=some k):∀(j:Nat),j<=all.size->s<j->go (X j) k=go (X (s+1)) k
 |0,_,h=>by omega
 |j+1,hj,h=>by
  by_cases e:s=j
  ·rw[e]
  ·have ho:all[j]? = some all[j]:=a3g (by omega);rw[←C.kept hs ht j (by omega) (by omega)];obtain⟨i,x,ty0,i1,i2,i3,i4,_⟩:=C.alloc_of hs ht;obtain⟨_,⟨ty',d,hop,hd,_,hx,_,e⟩|⟨t,d,y,ob1,ob',hop,hd,hx,_,_,_,_,e⟩|⟨d,vc,v,hd,hpk,_,_,hv,_,_,e⟩⟩:=C.hE j _ ho
   ·rw[e,dn,ds];intro hk;subst hk;have:=C.uniq i2 ho i4 hd;omega
   ·rw[e,lu];intro hk;subst hk;have:=C.tuniq hs ho ht (by simp only[tgt,hop]);omega
   ·rw[e]
theorem Ctx.gts(C:Ctx B Φ all E X M0)(j t:Nat)(hj:j<=all.size) :
  ((∀(i:Nat)(o:Oper),all[i]? = some o->i<j->o.dst≠some t)->gt (E j) t=gt (E 0) t)/\
  (∀(i:Nat)(o:Oper),all[i]? = some o->i<j->o.dst=some t->gt (E j) t=gt (E (i+1)) t):=by
 have hw:∀(j:Nat)(o:Oper),all.toList[j]? = some o->E (j+1)=wr o.dst (match all[j]? with|some o=>(match o.dst with|some d=>gt (E (j+1)) d|none=>.any)|none=>.any) (E j):=fun j o hj=>by rw[nx]at hj;rw[hj];exact bww (C.hE j o hj)
 obtain⟨a1,a2⟩:=asr hw j t (by simpa using hj);refine⟨fun h=>a1 fun i o hi=>h i o (by rwa [nx]at hi),fun i o hi hlt hd=>?_⟩;rw[a2 i o (by rw[nx];exact hi) hlt hd fun i' o' hi' _ hd'=>C.uniq (by rwa [nx]at hi') hi hd' hd];simp only[hi,hd]
theorem awl{listed:Array Bool}{i j:Nat}(hj:j<listed.size):isL (listed.setIfInBounds j true) i<->i=j\/isL listed i:=by
 by_cases e:i=j
 ·subst e;simp[isL,hj]
 ·unfold isL;rw[a2y false (a0u e)];simp[e]
theorem Ctx.step(C:Ctx B Φ all E X M0){listed:Array Bool}(hs:listed.size=all.size)(hdn:ahx all listed){env:Env}{M:Mem}(S:Sta B all E X M0 listed env M){j:Nat}{o:Oper}(ho:all[j]? = some o)(hnl:¬isL listed j)
  (hrd:∀e∈o.after,Region.binds .any e=true->isL listed e.on):tw B Φ (toL all) [o] env M (fun env' M'=>Sta B all E X M0 (listed.setIfInBounds j true) env' M'):=by
 have hjs:=(a0x.1 ho).1;have hset:∀i,isL (listed.setIfInBounds j true) i<->i=j\/isL listed i:=fun i=>awl (by rw[hs];exact hjs)
 have hlook:∀t∈o.looksAt all,gt env t=gt (E j) t:=fun t htl=>by
  by_cases hw:∃(i:Nat)(x:Oper),all[i]? = some x/\x.dst=some t
  ·obtain⟨i,x,e1,e3⟩:=hw;have e2:=(a0x.1 e1).1;by_cases hij:i<j
   ·have hpair:=ro (mw C.hdr e2 hjs (by omega) e1 ho) e3 htl;rw[a0a hij]at hpair;have hli:=j7 hdn C.hb j o ho hrd i hpair;rw[S.b i x t e1 hli e3,(C.gts j t (by omega)).2 i x e1 hij e3]
   ·have hnli:¬isL listed i:=fun hli=>by
     by_cases e:i=j
     ·subst e;exact hnl hli
     ·have hpair:=ro (mw C.hdr e2 hjs e e1 ho) e3 htl;rw[ds hij]at hpair;exact hnl (j7 hdn C.hb i x e1 (fun e' he' hb'=>hdn i x e1 hli e' he' hb') j hpair)
    rw[S.a t fun i' o' h1' h2' h3'=>hnli (C.uniq h1' e1 h3' e3▸h2')];exact ((C.gts j t (by omega)).1 fun i' o' h1' h2' h3'=>hij (C.uniq h1' e1 h3' e3▸h2')).symm
  ·rw[S.a t fun i x h1 h2 h3=>hw ⟨i,x,h1,h3⟩];exact ((C.gts j t (by omega)).1 fun i x h1 h2 h3=>hw ⟨i,x,h1,h3⟩).symm
 have hrdE:∀x∈o.op.operands,rd env x=rd (E j) x:=fun x hx=>by
  cases x with
  |tmp t=>exact hlook t (a2b _ (a20.2 ⟨.tmp t,by simpa using hx,rfl⟩))
  |const c|global g|func f=>rfl
 obtain⟨hg,hk⟩:=C.hE j o ho;simp only[tw,hg];rcases hk with⟨ty,d,hop,hd,hty,hx,he,hxe⟩|⟨t,d,y,ob,ob',hop,hd,hx,hy,hadd,hst,he,hxe⟩|⟨d,vc,v,hd,hpk,hdat,hev,hv,hvc,he,hxe⟩
 ·have hr:evR B Φ o env M=⟨[],.ad d [.de],[.kl d],(d,alb B ty)::del d M⟩:=by simp only[evR,hop,dz,cy,pi,ap,hd,bdu,hty,a0d,alb]
  rw[hr];simp only[conj,hd,wr,p8]
  have stab:∀t,t≠d->(gt env t).ev (.kl d)=gt env t:=fun t htd=>by
   by_cases hw:∃(i:Nat)(x:Oper),all[i]? = some x/\isL listed i/\x.dst=some t
   ·obtain⟨i,x,e1,e2,e3⟩:=hw;rw[S.b i x t e1 e2 e3];rcases bgv (C.hE i x e1) e3 with h|h
    ·exact anf _ _ h
    ·rw[h];simp only[V.ev,Ev.ad,dg,ds htd]
   ·rw[S.a t fun i x h1 h2 h3=>hw ⟨i,x,h1,h2,h3⟩];exact C.h0 t j o ty d ho hop hd
  have nst:∀(s:Nat)(o':Oper),all[s]? = some o'->isL listed s->tgt o'≠some d:=fun s o' h1 h2 h3=>by
   obtain⟨i,x,ty',i1,i2,i3,i4,_⟩:=C.alloc_of h1 h3;have:=C.uniq i2 ho i4 hd;subst this
   have hmm:Operand.tmp d∈o'.op.operands:=by
    unfold tgt at h3;split at h3
    ·rename_i hop';cases h3;simp[hop',Op.operands]
    ·cases h3
   have hlk:d∈o'.looksAt all:=a2b _ (a20.2 ⟨.tmp d,by simpa using hmm,rfl⟩);have hpair:=ro (mw C.hdr hjs (a0x.1 h1).1 (by omega) ho h1) hd hlk;rw[a0a i1]at hpair;exact hnl (j7 hdn C.hb s o' h1 (fun e' he' hb'=>hdn s o' h1 h2 e' he' hb') i hpair)
  refine⟨fun t ht=>?_,fun i x t hi hl hdx=>?_,fun k hk=>?_,fun i x k ty' hi hl h1 h2 hns=>?_,fun s x k hi hl htk=>?_⟩
  ·have htd:d≠t:=fun h=>ht j o ho ((hset j).2 (.inl rfl)) (by rw[hd,h]);rw[iy,ds htd,ajl,stab t (a0u htd)];exact S.a t fun i x hi hl=>ht i x hi ((hset i).2 (.inr hl))
  ·rw[iy];by_cases hij:i=j
   ·subst hij;rw[ho]at hi;cases hi;rw[hd]at hdx;cases hdx;rw[a0a rfl,he,iy,a0a rfl]
   ·have htd:d≠t:=fun h=>hij (C.uniq hi ho hdx (by rw[hd,h]));rw[ds htd,ajl,stab t (a0u htd)];exact S.b i x t hi (((hset i).1 hl).resolve_left hij) hdx
  ·have hkd:d≠k:=fun h=>hk j o ty ho ((hset j).2 (.inl rfl)) hop (by rw[hd,h]);rw[dn,ds hkd,dx (a0u hkd)];exact S.c k fun i x ty' hi hl=>hk i x ty' hi ((hset i).2 (.inr hl))
  ·rw[dn];by_cases hij:i=j
   ·subst hij;rw[ho]at hi;cases hi;rw[hd]at h2;cases h2;rw[a0a rfl];rw[hop]at h1;cases h1;rfl
   ·have hkd:d≠k:=fun h=>hij (C.uniq hi ho h2 (by rw[hd,h]));rw[ds hkd,dx (a0u hkd)];exact S.d i x k ty' hi (((hset i).1 hl).resolve_left hij) h1 h2 fun s o' hs' hl'=>hns s o' hs' ((hset s).2 (.inr hl'))
  ·have hsl:isL listed s:=by
    rcases (hset s).1 hl with h|h
    ·subst h;rw[ho]at hi;cases hi;simp only[tgt,hop]at htk;cases htk
    ·exact h
   have hkd:d≠k:=fun h=>nst s x hi hsl (by rw[htk,h]);rw[dn,ds hkd,dx (a0u hkd)];exact S.s s x k hi hsl htk
 ·have htg:tgt o=some d:=by simp only[tgt,hop]
  have hyr:rd env y=rd (E j) y:=hrdE y (by simp[hop,Op.operands])
  have hdr:gt env d=.ad d [.de]:=by
   have h1:gt env d=gt (E j) d:=by simpa only [rd]using hrdE (.tmp d) (by simp[hop,Op.operands])
   rw[h1];unfold bia at hadd;split at hadd
   ·rename_i k e;rw[e,a0v hadd]
   ·cases hadd
  obtain⟨ia,xa,tya,i1,i2,i3,i4,i5⟩:=C.alloc_of ho htg;have hlk:d∈o.looksAt all:=a2b _ (a20.2 ⟨.tmp d,by simp[hop,Op.operands],rfl⟩);have hla:isL listed ia:=by have hpair:=ro (mw C.hdr (a0x.1 i2).1 hjs (by omega) i2 ho) i4 hlk;rw[a0a i1]at hpair;exact j7 hdn C.hb j o ho hrd ia hpair
  have nst:∀(s:Nat)(o':Oper),all[s]? = some o'->isL listed s->tgt o'≠some d:=fun s o' h1 h2 h3=>by have:=C.tuniq h1 ho h3 htg;subst this;exact hnl h2
  have hgo:go M d=some ob:=by rw[S.d ia xa d tya i2 hla i3 i4 nst,←i5,hx]
  obtain⟨v,e,hs1,oo,oo',hs2,hs3⟩:=brm (M:=M) hy hgo hst
  have hr:evR B Φ o env M=⟨[],v,[e],put d ob' M⟩:=by
   have e1:rd env (.tmp d)=.ad d [.de]:=hdr;have e4:(rd env (.tmp d)).strip=.ad d [.de]:=by rw[e1];rfl
   have e3:(rd env y).strip=rd (E j) y:=by rw[hyr,afo hy]
   have e2:pi (rd env) [y]=[]:=bfq [y] fun z hz=>by simp only[a0s]at hz;subst hz;rw[hyr];exact hy
   have e5:pi (rd env) [.tmp d,y]=[]:=by rw[pi,e1];exact e2
   simp only[evR,hop,dz,cy,e4,e3,hs1,e5,ap,btn hy]
  rw[hr];simp only[conj,hd,wr,p8]
  have stab:∀t,(gt env t).ev e=gt env t:=fun t=>by
   subst hs2;by_cases hw:∃(i:Nat)(x:Oper),all[i]? = some x/\isL listed i/\x.dst=some t
   ·obtain⟨i,x,e1,e2,e3⟩:=hw;rw[S.b i x t e1 e2 e3];rcases bgv (C.hE i x e1) e3 with h|h
    ·exact anf _ _ h
    ·rw[h];simp only[V.ev,Ev.ad,hs3,a0d];cases Nat.beq t d<;>rfl
   ·rw[S.a t fun i x h1 h2 h3=>hw ⟨i,x,h1,h2,h3⟩];exact af6 _ (C.h0 t ia xa tya d i2 i3 i4)
  have hnja:∀(i:Nat)(x:Oper)(ty:TypeId),all[i]? = some x->isL (listed.setIfInBounds j true) i->x.op=.alloc ty->isL listed i:=fun i x ty hi hl hxo=>by
   rcases (hset i).1 hl with h|h
   ·subst h;rw[ho]at hi;cases hi;rw[hop]at hxo;cases hxo
   ·exact h
  refine⟨fun t ht=>?_,fun i x t hi hl hdx=>?_,fun k hk=>?_,fun i x k ty' hi hl h1 h2 hns=>?_,fun s x k hi hl htk=>?_⟩
  ·rw[ajl,stab];exact S.a t fun i x hi hl=>ht i x hi ((hset i).2 (.inr hl))
  ·rw[ajl,stab];rcases (hset i).1 hl with h|h
   ·subst h;rw[ho]at hi;cases hi;rw[hd]at hdx;cases hdx
   ·exact S.b i x t hi h hdx
  ·have hkd:k≠d:=fun h=>hk ia xa tya i2 ((hset ia).2 (.inr hla)) i3 (by rw[i4,h]);rw[lu _ hkd];exact S.c k fun i x ty' hi hl=>hk i x ty' hi ((hset i).2 (.inr hl))
  ·have hkd:k≠d:=fun h=>hns j o ho ((hset j).2 (.inl rfl)) (by rw[htg,h]);rw[lu _ hkd];exact S.d i x k ty' hi (hnja i x ty' hi hl h1) h1 h2 fun s o' hs' hl'=>hns s o' hs' ((hset s).2 (.inr hl'))
  ·rcases (hset s).1 hl with h|h
   ·subst h;rw[ho]at hi;cases hi;rw[htg]at htk;cases htk;rw[my _ _ (cq hgo),hxe,my _ _ (cq hx)]
   ·have hkd:k≠d:=fun hk=>nst s x hi h (by rw[htk,hk]);rw[lu _ hkd];exact S.s s x k hi h htk
 ·have hr:evR B Φ o env M=⟨vc,v,[],M⟩:=by rw[ack o hrdE];exact bu1 M hpk hdat hev
  rw[hr];simp only[oq,hd,wr,p8];have hna:∀ty,o.op≠.alloc ty:=fun ty h=>by rw[h]at hpk;cases hpk
  have hnt:tgt o=none:=by
   unfold tgt;split
   ·rename_i h;rw[h]at hpk;cases hpk
   ·rfl
  have hnja:∀(i:Nat)(x:Oper)(ty:TypeId),all[i]? = some x->isL (listed.setIfInBounds j true) i->x.op=.alloc ty->isL listed i:=fun i x ty hi hl hxo=>by
   rcases (hset i).1 hl with h|h
   ·subst h;rw[ho]at hi;cases hi;exact absurd hxo (hna ty)
   ·exact h
  refine⟨hvc,fun t ht=>?_,fun i x t hi hl hdx=>?_,fun k hk=>?_,fun i x k ty' hi hl h1 h2 hns=>?_,fun s x k hi hl htk=>?_⟩
  ·have htd:d≠t:=fun h=>ht j o ho ((hset j).2 (.inl rfl)) (by rw[hd,h]);rw[iy,ds htd];exact S.a t fun i x hi hl=>ht i x hi ((hset i).2 (.inr hl))
  ·rw[iy];by_cases hij:i=j
   ·subst hij;rw[ho]at hi;cases hi;rw[hd]at hdx;cases hdx;rw[a0a rfl,he,iy,a0a rfl]
   ·have htd:d≠t:=fun h=>hij (C.uniq hi ho hdx (by rw[hd,h]));rw[ds htd];exact S.b i x t hi (((hset i).1 hl).resolve_left hij) hdx
  ·exact S.c k fun i x ty' hi hl=>hk i x ty' hi ((hset i).2 (.inr hl))
  ·exact S.d i x k ty' hi (hnja i x ty' hi hl h1) h1 h2 fun s o' hs' hl'=>hns s o' hs' ((hset s).2 (.inr hl'))
  ·rcases (hset s).1 hl with h|h
   ·subst h;rw[ho]at hi;cases hi;rw[hnt]at htk;cases htk
   ·exact S.s s x k hi h htk
theorem agh(X M:Mem)(k:Nat):go (ap X M) k=match go X k with|some ob=>some ob|none=>go M k:=by
 induction X with
 |nil=>rfl
 |cons x X ih=>
  obtain⟨j,ob⟩:=x;simp only[ap,dn];split
  ·rfl
  ·exact ih
theorem Ctx.fin(C:Ctx B Φ all E X M0){listed:Array Bool}{env:Env}{M:Mem}(S:Sta B all E X M0 listed env M)(hall:∀i,i<all.size->isL listed i) :
  (∀t,gt (E all.size) t=gt env t)/\∀k,go (ap (X all.size) M0) k=go M k:=by
 have hal:∀{i:Nat} {o:Oper},all[i]? = some o->isL listed i:=fun h=>hall _ (a0x.1 h).1;constructor
 ·intro t;obtain⟨g1,g2⟩:=C.gts all.size t (a0k _);by_cases hw:∃(i:Nat)(x:Oper),all[i]? = some x/\x.dst=some t
  ·obtain⟨i,x,e1,e3⟩:=hw;rw[g2 i x e1 (a0x.1 e1).1 e3,S.b i x t e1 (hal e1) e3]
  ·rw[g1 fun i o h1 _ h3=>hw ⟨i,o,h1,h3⟩,S.a t fun i o h1 _ h3=>hw ⟨i,o,h1,h3⟩]
 ·intro k;rw[agh]
  cases hx:go (X all.size) k with
  |none=>
   simp only;refine (S.c k fun i o ty hi _ h1 h2=>?_).symm;by_cases hst:∃(s:Nat)(o':Oper),all[s]? = some o'/\tgt o'=some k
   ·obtain⟨s,o',s1,s2⟩:=hst;have h3:=C.kept s1 s2 all.size (a0k _) (a0x.1 s1).1;obtain⟨_,⟨ty',d,hop,hd,_,hx',_,e⟩|⟨t,d,y,ob1,ob',hop,hd,hx',_,_,_,_,e⟩|⟨d,vc,v,hd,hpk,_,_,hv,_,_,e⟩⟩:=C.hE s _ s1
    ·simp only[tgt,hop]at s2;cases s2
    ·simp only[tgt,hop,a0e]at s2;subst s2;rw[hx,e,my _ _ (cq hx')]at h3;cases h3
    ·unfold tgt at s2;split at s2
     ·rename_i hop;rw[hop]at hpk;cases hpk
     ·cases s2
   ·rw[C.fresh hi h1 h2 all.size (a0k _) (a0x.1 hi).1 fun s o' _ s1 s2=>hst ⟨s,o',s1,s2⟩]at hx;cases hx
  |some ob=>
   simp only;obtain⟨i,o,ty,i1,i2,i3,i4,i5⟩:=C.spec all.size (a0k _) k ob hx;by_cases hst:∃(s:Nat)(o':Oper),all[s]? = some o'/\tgt o'=some k
   ·obtain⟨s,o',s1,s2⟩:=hst;rw[S.s s o' k s1 (hal s1) s2,←C.kept s1 s2 all.size (a0k _) (a0x.1 s1).1,hx]
   ·rw[S.d i o k ty i2 (hal i2) i3 i4 fun s o' s1 _ s2=>hst ⟨s,o',s1,s2⟩,i5 fun s o' _ s1 s2=>hst ⟨s,o',s1,s2⟩]
theorem Ctx.any(hΦ:uw P F Φ)(hB:TabOk P B)(C:Ctx B Φ all E X M0)(Q:Exit->Act->World->Prop)(hco:mr F.nt all.toList=true)(hfv:∀o∈all.toList,∀k,o.dst=some k->F.fv k=none)
  (hQ:∀p a w,St F p (E all.size) (ap (X all.size) M0) a w->Q .normal a w) :
  ∀(fuel:Nat)(listed:Array Bool)(p:Ow)(env:Env)(M:Mem)(a:Act)(w:World),listed.size=all.size->unl listed all.size<=fuel->ahx all listed->Sta B all E X M0 listed env M->St F p env M a w->wpAny P .any all Q fuel listed a w:=by
 intro fuel;have done:∀(listed:Array Bool)(p:Ow)(env:Env)(M:Mem)(a:Act)(w:World),listed.size=all.size->Region.ready .any all listed=[]->Sta B all E X M0 listed env M->St F p env M a w->Q .normal a w:=by intro listed p env M a w hs hr S hst;obtain⟨f1,f2⟩:=C.fin S (agt hs C.hb hr);exact hQ p a w (hst.same f2 f1)
 have noready:∀(listed:Array Bool),listed.size=all.size->unl listed all.size=0->Region.ready .any all listed=[]:=by
  intro listed hs hu
  cases hr:Region.ready .any all listed with
  |nil=>rfl
  |cons i r=>obtain⟨o,h1,h2,_⟩:=t8 (j:=i) (by rw[hr];simp);have hi:=(a0x.1 h1).1;have:=ahs hu i hi;unfold isL at this;simp[hs,hi]at this h2;rw[this]at h2;cases h2
 induction fuel with
 |zero=>intro listed p env M a w hs hu _ S hst;have hr:=noready listed hs (by omega);exact⟨hr,done listed p env M a w hs hr S hst⟩
 |succ fuel ih=>
  intro listed p env M a w hs hu hdn S hst;refine⟨fun hr=>done listed p env M a w hs hr S hst,fun j hj=>?_⟩;obtain⟨o,h1,h2,h3⟩:=t8 hj;have hjs:=(a0x.1 h1).1;have hnl:¬isL listed j:=by unfold isL;simp[hs,hjs]at h2⊢;exact h2
  have hm:o∈all.toList:=by rw[a19];exact a27 h1
  refine a3z (fun a' w' ⟨p',env',M',e1,e2⟩=>ih _ p' env' M' a' w' (by simpa using hs) ?_ (hdn.set hj) e2 e1) (aqu hΦ hB hst (C.step hs hdn S h1 hnl h3) (w9 hco hm) (hfv o hm) h1 Q);have:=alq (by rw[hs];exact hjs) hnl all.size hjs;omega
theorem cbj(hΦ:uw P F Φ)(hB:TabOk P B)(hmix:P.follows .mixedOrders=true){id:Nat}{ops:Array Oper}(hco:mr F.nt (toL ops)=true)(hfv:∀o∈toL ops,∀k,o.dst=some k->F.fv k=none)(hr:bpb (toL ops)=true){K:Env->Mem->Prop}{Q:Exit->Act->World->Prop}
  (hQ:∀p env M a w,St F p env M a w->K env M->Q .normal a w) {p:Ow} {env:Env} {M:Mem} {a:Act} {w:World} (h:St F p env M a w)
  (hk:bx B Φ (toL ops) (klE (tp (toL ops)) env) [] (fun env X=>K env (ap X (klM (tp (toL ops)) M)))):(Code.region id ops true).wp P Q a w:=by
 rw[ew]at hco hfv hr hk;simp only[bpb,a0b]at hr;obtain⟨h1,h2,h3⟩:=hr;obtain⟨E,X,e0,x0,e1,e2⟩:=bjg _ _ _ _ hk;have hlen:ops.toList.length=ops.size:=by simp
 rw[hlen]at e2 h2
 have C:Ctx B Φ ops E X (klM (tp ops.toList) M):={
  hb:=h1
  hdr:=by simpa using h2
  hnd:=h3
  hE:=fun j o ho=>e1 j o (by rw[nx];exact ho)
  hX:=x0
  h0:=fun t i o ty k hi ho hd=>by rw[e0];exact btp _ _ t k (aua (by rw[nx];exact hi) ho hd)
  hM:=fun i o ty k hi ho hd=>bt3 _ _ k (aua (by rw[nx];exact hi) ho hd) }
 refine a41 hmix ?_;have hst:=h.kls (tp ops.toList)
 exact C.any hΦ hB Q hco hfv (fun p a w hs=>hQ p _ _ a w hs e2) _ _ p (klE (tp ops.toList) env) (klM (tp ops.toList) M) a _ (by simp) (bbf _ _) (fun j o _ hi=>absurd hi ze)
  ⟨fun t _=>by rw[e0],fun i o t _ hi=>absurd hi ze,fun k _=>rfl,fun i o k ty _ hi=>absurd hi ze,fun s o k _ hi=>absurd hi ze⟩ hst.drew
end
end Go.Bm
/- The ff machine:drawn regions whose calls give own trees. -/
namespace Go.Bm
open Go.RowKit
section
variable {P:Program} {B:Tab} {Φ:FuncId->Option Ct}
def agK(M M0:Mem)(k:Nat):Prop:=go M k=go M0 k/\go M0 k≠none
def agV(M M0:Mem):V->Prop
 |.p a b=>agV M M0 a/\agV M M0 b
 |.ag v|.fn _ v|.bx v=>agV M M0 v
 |.ref k _|.ad k _=>agK M M0 k
 |.gd _ _ _ _|.ifc _ _|.tup _=>False
 |_=>True
section
variable {M0 M:Mem}
theorem cb8{k:Nat}(h:agK M M0 k):go M k=go M0 k:=h.1
theorem aar{k:Nat}(h:agK M M0 k)(π:cr):qh M k π=qh M0 k π:=by unfold qh;rw[cb8 h]
theorem ask:∀v:V,agV M M0 v->v.size M=v.size M0
 |.d _ _,_|.nl,_|.np,_|.u,_=>rfl
 |.p a b,h=>by simp only[agV]at h;simp only[V.size,ask a h.1,ask b h.2]
 |.ag v,h|.fn f v,h|.bx v,h|.any,h=>rfl
 |.ref k π,h=>by simp only[V.size,aar h]
 |.ad _ _,h=>rfl
 |.tup _,h|.gd _ _ _ _,h|.ifc _ _,h=>by cases h
theorem adu(v:V)(n:Nat)(h:agV M M0 v):kx M v n=kx M0 v n:=by simp only[kx,ask v h]
theorem afy:∀v:V,ce v=true->agV M M0 v
 |.p a b,h=>by simp only[ce,be,a0b]at h;simp only[agV];exact⟨afy a h.1,afy b h.2⟩
 |.ag v,h|.fn f v,h|.bx v,h=>afy v h
 |.d _ _,_|.nl,_|.np,_|.u,_=>trivial
 |.any,h|.ref _ _,h|.ad _ _,h|.tup _,h|.gd _ _ _ _,h|.ifc _ _,h=>by cases h
theorem bll:∀(t:T)(x:t.den),ce (n9 t x)=true:=by
 intro t
 induction t with
 |p a b iha ihb=>intro x;simp only[n9,ce,be,a0b];exact⟨iha x.1,ihb x.2⟩
 |_=>intro x;rfl
theorem bzs{k:Nat}(h:agK M M0 k):∀(π:cr)(o:O)(x:o.strip.den),agV M M0 (toV k π o x):=by
 intro π o x
 cases o with
 |fz t=>simp only[toV];exact afy _ (bll _ _)
 |_=>exact h
theorem am2:∀(π:cr)(v:V),agV M M0 v->fe M π v=fe M0 π v/\∀n x,fe M0 π v=some (n,x)->agV M M0 x
 |[],v,h=>by simp only[fe,a0e,a0n];exact⟨trivial,fun n x e=>e.2▸h⟩
 |.l::π,.p a b,h=>by simp only[agV]at h;simp only[fe];exact am2 π a h.1
 |.r::π,.p a b,h=>by
  simp only[agV]at h;obtain⟨e1,e2⟩:=am2 π b h.2;simp only[fe,e1,ask a h.1];refine⟨trivial,fun n x hx=>?_⟩;split at hx
  ·rename_i m n' x' _ h2;cases hx;exact e2 _ _ h2
  ·cases hx
 |s::π,.ref k ρ,h=>by
  have hk:agK M M0 k:=h
  have e:∀M:Mem,fe M (s::π) (.ref k ρ)=(match qh M k ρ,qh M k (ap ρ (s::π))with
   |some q,some q'=>(match c8 (s::π) q.o.strip with|some n=>some (n,toV k (ap ρ (s::π)) q'.o q'.x)|none=>none)
   |_,_=>none):=fun M=>by cases s<;>rfl
  rw[e,e,aar hk,aar hk];refine⟨rfl,fun n x hx=>?_⟩;split at hx
  ·split at hx
   ·cases hx;exact bzs hk _ _ _
   ·cases hx
  ·cases hx
 |.de::π,.p a b,_|.ix _::π,.p a b,_|.l::π,.d _ _,_|.r::π,.d _ _,_|.de::π,.d _ _,_|.ix _::π,.d _ _,_|_::π,.nl,_|_::π,.np,_|_::π,.u,_|_::π,.ag _,_|_::π,.fn _ _,_|_::π,.bx _,_|_::_,.any,h|_::_,.ad _ _,h=>by simp[fe]
 |_::_,.tup _,h|_::_,.gd _ _ _ _,h|_::_,.ifc _ _,h=>by cases h
theorem bl5(x:V)(π:cr)(off:Nat)(h:agV M M0 x):akc M x π off=akc M0 x π off:=by
 cases x with
 |ad k ρ=>simp only[akc,aar h]
 |bx v=>simp only[agV]at h;simp only[akc,(am2 π v h).1]
 |d t y=>cases t<;>rfl
 |_=>rfl
theorem bpl(τ:Ty)(x:V)(i:Nat)(h:agV M M0 x):aen τ M x i=aen τ M0 x i:=by simp only[aen,bl5 x _ _ h]
theorem bsc{B:Tab}(τ:Ty)(x:V)(i:Nat)(h:agV M M0 x):aix B τ M x i=aix B τ M0 x i:=by
 unfold aix;split
 ·rename_i off ft _ v _;simp only[agV]at h;obtain⟨e1,e2⟩:=am2 (agl (len τ.fld) i) v h;rw[e1]
  cases hs:fe M0 (agl (len τ.fld) i) v with
  |none=>rfl
  |some q=>obtain⟨n,w⟩:=q;simp only[adu w _ (e2 _ _ hs)]
 ·rfl
theorem brf{B:Tab}(τ:Ty)(x i:V)(h:agV M M0 x):aiy B τ M x i=aiy B τ M0 x i:=by
 unfold aiy;split
 ·cases x with
  |ref k π=>simp only[aar h]
  |d t x=>cases t<;>rfl
  |_=>rfl
 ·rfl
theorem bs5{B:Tab}(τ:Ty)(x i:V)(h:agV M M0 x):ait B τ M x i=ait B τ M0 x i:=by
 unfold ait;split
 ·simp only[bhq,bl5 x _ _ h]
 ·exact brf τ x i h
theorem bvz(τ:Ty)(d:Option Nat){x:V}(h:agV M M0 x):(ape τ M d x=none)=(ape τ M0 d x=none):=by rfl
theorem bqs(τ:Ty)(x:V)(h:agV M M0 x):za τ M x=za τ M0 x:=by
 cases x with
 |ad k π=>simp only[za,aar h]
 |bx v=>simp only[agV]at h;simp only[za,adu _ _ h]
 |d t x=>cases t<;>rfl
 |_=>rfl
theorem bmm{B:Tab}{s d:TypeId}{x:V}(h:agV M M0 x):abj B s d M x=abj B s d M0 x:=by
 have:aze M x=aze M0 x:=by
  cases x with
  |ref k π=>simp only[aze,aar h]
  |_=>rfl
 simp only[abj,this]
theorem bsv{τ:Ty}{x:V}(h:agV M M0 x):arq τ M x=arq τ M0 x:=by
 cases x with
 |ref k π=>simp only[arq,aar h]
 |d t y=>cases t<;>first|rfl|(rename_i t y;cases t<;>rfl)|(rename_i t;cases t<;>rfl)
 |_=>rfl
theorem blc{k:Nat}(h:agK M M0 k)(π:cr)(t:T):au4 M k π t=au4 M0 k π t:=by unfold au4;rw[aar h]
theorem bwk:∀(v:V)(t:T),agV M M0 v->v.view M t=v.view M0 t:=by
 intro v
 induction v with
 |p a b iha ihb=>intro t h;simp only[agV]at h;cases t<;>first|rfl|(simp only[V.view];rw[iha _ h.1,ihb _ h.2])
 |fn f v ih|bx v ih=>intro t h;cases t<;>first|rfl|(simp only[V.view];rw[ih _ h])
 |ref k π=>intro t h;cases t<;>simp only[V.view]<;>exact blc h _ _
 |ad k π=>intro t h;cases t<;>first|rfl|(simp only[V.view];exact blc h _ _)
 |gd _ _ _ _=>intro t h;cases h
 |any=>intro t h;cases t<;>rfl
 |tup _|ifc _ _=>intro t h;cases h
 |ag v|d t' x|nl|np|u=>intro t h;cases t<;>rfl
theorem bft{v:V}(h:agV M M0 v):agV M M0 v.cells:=by cases v<;>exact h
theorem bf7:∀(vs:List V)(ts:List T),(∀v∈vs,agV M M0 v)->aaj M vs ts=aaj M0 vs ts
 |[],[],_|[],_::_,_|_::_,[],_=>rfl
 |v::r,t::ts,h=>by simp only[aaj];rw[bwk v.cells t (bft (h v (by simp))),bf7 r ts fun x hx=>h x (by simp[hx])]
theorem bvr:∀(v:V)(M:Mem),(cu M v).1=[]\/∃k ob r,(cu M v).1=.fz k ob::r:=by
 intro v
 induction v with
 |p a b iha ihb=>
  intro M;simp only[cu];rcases iha M with h|⟨k,ob,r,h⟩
  ·rw[h];rcases ihb (cu M a).2 with h2|⟨k,ob,r,h2⟩
   ·rw[h2];exact .inl rfl
   ·rw[h2];exact .inr ⟨k,ob,r,rfl⟩
  ·rw[h];exact .inr ⟨k,ob,_,rfl⟩
 |ref k π|ad k π=>intro M;simp only[cu];cases go M k<;>simp
 |ag v ih|fn f v ih|ifc f v ih|bx v ih|tup v ih|gd _ _ _ v ih=>intro M;simp only[cu];exact ih M
 |_=>intro M;exact .inl rfl
theorem atr:∀(vs:List V)(M:Mem),(qa M vs).1=[]\/∃k ob r,(qa M vs).1=.fz k ob::r
 |[],M=>.inl rfl
 |v::vs,M=>by
  simp only[qa];rcases bvr v M with h|⟨k,ob,r,h⟩
  ·rw[h];rcases atr vs (cu M v).2 with h2|⟨k,ob,r,h2⟩
   ·rw[h2];exact .inl rfl
   ·rw[h2];exact .inr ⟨k,ob,r,rfl⟩
  ·rw[h];exact .inr ⟨k,ob,_,rfl⟩
theorem beo{α:Type}{a b:List α}(h:ap a b=[]):a=[]/\b=[]:=by cases a<;>simp[ap]at h⊢;exact h
theorem bz8:∀(v:V),agV M M0 v->(cu M0 v).1=[]->∀M1:Mem,cu M1 v=([],M1):=by
 intro v
 induction v with
 |p a b iha ihb=>intro h e M1;simp only[agV]at h;simp only[cu]at e⊢;obtain⟨e1,e2⟩:=beo e;have ha:=iha h.1 e1;rw[ha M0]at e2;simp only at e2;rw[ha M1];simp only;rw[ihb h.2 e2 M1];rfl
 |fn f v ih|bx v ih|ag v ih=>intro h e M1;simp only[cu]at e⊢;exact ih h e M1
 |ref k π=>
  intro h e M1;simp only[cu]at e
  cases hg:go M0 k with
  |none=>exact absurd hg h.2
  |some ob=>rw[hg]at e;cases e
 |ad k π=>
  intro h e M1;simp only[cu]at e
  cases hg:go M0 k with
  |none=>exact absurd hg h.2
  |some ob=>rw[hg]at e;cases e
 |gd _ _ _ _=>intro h;cases h
 |any=>intro h e M1;rfl
 |tup _|ifc _ _=>intro h;cases h
 |d t' x|nl|np|u=>intro h e M1;rfl
theorem azi:∀vs:List V,(∀v∈vs,agV M M0 v)->(qa M0 vs).1=[]->∀M1:Mem,qa M1 vs=([],M1)
 |[],_,_,_=>rfl
 |v::r,h,e,M1=>by simp only[qa]at e⊢;obtain⟨e1,e2⟩:=beo e;have ha:=bz8 v (h v (by simp)) e1;rw[ha M0]at e2;simp only at e2;rw[ha M1];simp only;rw[azi r (fun x hx=>h x (by simp[hx])) e2 M1];rfl
theorem ay6:∀vs:List V,ux [] vs=vs
 |[]=>rfl
 |v::r=>by simp only[ux,V.evs];rw[ay6 r]
theorem ay3:∀(π:cr)(v x:V),agV M M0 v->agV M M0 x->∀v',kw π v x=some v'->agV M M0 v'
 |[],v,x,_,hx,v',h=>by simp only[kw,a0e]at h;subst h;exact hx
 |.l::π,v,x,hv,hx,v',h=>by
  cases v with
  |p a b=>
   simp only[agV]at hv;simp only[kw]at h
   cases hs:kw π a x with
   |none=>rw[hs]at h;cases h
   |some a'=>rw[hs]at h;simp only[a0e]at h;subst h;exact⟨ay3 π a x hv.1 hx a' hs,hv.2⟩
  |_=>simp[kw]at h
 |.r::π,v,x,hv,hx,v',h=>by
  cases v with
  |p a b=>
   simp only[agV]at hv;simp only[kw]at h
   cases hs:kw π b x with
   |none=>rw[hs]at h;cases h
   |some b'=>rw[hs]at h;simp only[a0e]at h;subst h;exact⟨hv.1,ay3 π b x hv.2 hx b' hs⟩
  |_=>simp[kw]at h
 |.ix _::_,v,x,_,_,v',h|.de::_,v,x,_,_,v',h=>by cases v<;>simp[kw]at h
theorem axy:∀t:T,agV M M0 (wn t)
 |.p a b=>⟨axy a,axy b⟩
 |.sl _|.u|.pt _|.fn _ _|.ifc _ _|.ib _ _|.mp _ _|.op _|.ns _|.er _|.int _|.bool|.str|.any=>trivial
theorem axi(place:Nat->Option (cr×Nat×Nat))(f:Operand->V):∀(ps:List (Nat×Operand)) (v:V),(∀x∈cy.snds ps,agV M M0 (f x))->agV M M0 v->v6 M place f ps v=v6 M0 place f ps v
 |[],_,_,_=>rfl
 |(i,x)::r,v,hf,hv=>by
  simp only[v6]
  cases place i with
  |none=>rfl
  |some q=>
   obtain⟨π,off,n⟩:=q;simp only;obtain⟨e1,e2⟩:=am2 π v hv;rw[e1];have hx:=bft (hf x (by simp[cy.snds]))
   cases hs:fe M0 π v with
   |none=>rfl
   |some q=>
    obtain⟨m,w⟩:=q;simp only[adu w n (e2 m w hs),adu _ n hx]
    cases hq:kw π v (f x).cells with
    |none=>rfl
    |some v'=>simp only[axi place f r v' (fun y hy=>hf y (by simp[cy.snds,hy])) (ay3 π v _ hv hx v' hq)]
theorem bu5:∀(v:V),agV M M0 v->ub M v=ub M0 v/\∀cs,ub M0 v=some cs->∀c∈cs,agV M M0 c:=by
 intro v
 induction v with
 |p a b iha ihb=>
  intro h;simp only[agV]at h;obtain⟨h1,h2⟩:=ihb h.2;simp only[ub];rw[h1,adu a 1 h.1];refine⟨rfl,fun cs hcs=>?_⟩
  cases hb:ub M0 b with
  |none=>rw[hb]at hcs;cases hcs
  |some r=>
   rw[hb]at hcs;simp only at hcs
   cases hz:kx M0 a 1 with
   |false=>rw[hz]at hcs;cases hcs
   |true=>
    rw[hz]at hcs;simp only[a0d,a0e]at hcs;subst hcs;intro c hc;rcases a0t.1 hc with rfl|hc
    ·exact h.1
    ·exact h2 r hb c hc
 |u=>intro _;exact⟨rfl,fun cs h=>by simp only[ub,a0e]at h;subst h;intro c hc;cases hc⟩
 |_=>intro _;exact⟨rfl,fun cs h=>by simp[ub]at h⟩
theorem cb4{x v:V}{f:FuncId}(h:agV M M0 x)(hf:asj x=some (f,v)):agV M M0 v:=by
 cases x with
 |fn g y=>simp only[asj,a0e,a0n]at hf;obtain⟨_,rfl⟩:=hf;exact h
 |d t y=>
  cases t with
  |fn g t=>simp only[asj,a0e,a0n]at hf;obtain⟨_,rfl⟩:=hf;exact afy _ (bll _ _)
  |_=>simp[asj]at hf
 |_=>simp[asj]at hf
theorem qv{v:V}(h:agV M M0 v):v.strip=v:=by cases v<;>first|rfl|cases h
theorem aqh{β:Nat->Value}{Im:Nat->Prop}{w:World}(hk:∀k,go M0 k≠none->go M k≠none->go M k=go M0 k):∀(v:V),af4 M0 v=true->∀vs,ak β M Im w v vs->agV M M0 v:=by
 have key:∀k,neg (isN (go M0 k))=true->go M k≠none->agK M M0 k:=fun k h h2=>by
  have:go M0 k≠none:=fun e=>by rw[e]at h;cases h
  exact⟨hk k this h2,this⟩
 intro v
 induction v with
 |p a b iha ihb=>intro h vs r;simp only[af4,be,a0b]at h;simp only[ak]at r;obtain⟨va,vb,_,h1,h2⟩:=r;exact⟨iha h.1 _ h1,ihb h.2 _ h2⟩
 |ref j π=>intro h vs r;simp only[ak]at r;obtain⟨ob,_,h1,_⟩:=r;exact key j h (by rw[h1];simp)
 |ad j π=>intro h vs r;simp only[ak]at r;obtain⟨_,_,ob,_,_,_,h1,_⟩:=r;exact key j h (by rw[h1];simp)
 |fn f v ih=>intro h vs r;simp only[ak]at r;obtain⟨us,_,h1⟩:=r;exact ih h _ h1
 |bx v ih=>intro h vs r;simp only[ak]at r;obtain⟨_,_,us,_,_,_,h1⟩:=r;exact ih h _ h1
 |ag v=>intro h vs r;simp only[ak]at r
 |tup v|gd _ _ _ v|ifc _ v=>intro h;cases h
 |_=>intro h vs r;trivial
theorem ccd{β:Nat->Value}{Im:Nat->Prop}{w:World}(hk:∀k,go M0 k≠none->go M k≠none->go M k=go M0 k)(v:V)(h:af4 M0 v=true)(u:Value)(r:ao β M Im w v u):agV M M0 v:=by
 cases v with
 |ag v=>simp only[ao]at r;obtain⟨vs,_,r⟩:=r;exact aqh hk v h _ r
 |any=>trivial
 |tup v|gd _ _ _ v|ifc _ v=>cases h
 |p a b=>simp only[ao]at r;exact aqh hk _ h _ r
 |u=>trivial
 |ref j π|ad j π=>simp only[ao]at r;exact aqh hk _ h _ r
 |d t x|nl|np=>trivial
 |fn f v|bx v=>simp only[ao]at r;exact aqh hk _ h _ r
theorem aln{env:Env}:∀{l:List Operand},aqm M0 env l=true->∀x∈l,af4 M0 (rd env x)=true
 |[],_,x,h=>by cases h
 |y::l,hd,x,h=>by
  simp only[aqm,be,a0b]at hd
  cases h with
  |head=>exact hd.1
  |tail _ h=>exact aln hd.2 x h
theorem cd9{env:Env}(x:Operand)(h:∀t,x≠.tmp t):agV M M0 (rd env x):=by
 cases x with
 |tmp t=>exact absurd rfl (h t)
 |const v=>
  cases v with
  |slice a n m=>
   simp only[rd]
   cases a with
   |none=>simp only[rdV];cases nob (Nat.beq n 0) (Nat.beq m 0)<;>trivial
   |some _=>trivial
  |pointer a=>cases a<;>trivial
  |_=>trivial
 |func f|global g=>trivial
end
theorem bt{M:Mem}{vc:List Prop}{v:V}{e:List Ev}{N:Mem}(h:c7 M=⟨vc,v,e,N⟩)(hv:ab vc):False:=by simp only[c7,Rs.mk.injEq]at h;rw[←h.1]at hv;simp[ab]at hv
theorem ge{f:Operand->V}{l:List Operand}{vc:List Prop}(h:ab (ap (pi f l) vc)):ab vc:=by rw[kv]at h;exact h.2
theorem be1{ks r:Mem}:eq (len (klL (ca ks))) (ap ks r)=ks:=by
 induction ks with
 |nil=>simp[ca,klL,len,eq]
 |cons q ks ih=>obtain⟨k,ob⟩:=q;simp only[ca,klL,len,ap,eq];rw[ih]
theorem bj0{k:Nat}{ob:Ob}{r e:List Ev}{N:Mem}(h:klB (ap (.fz k ob::r) e) N=true):False:=by cases N<;>simp[ap,klB]at h
theorem cal{k:Nat}{o:O}{r:List Ev}:∀(e:List Ev)(N:Mem),klB (ap e (.cut k o o::r)) N=false:=fun e=>by
 induction e with
 |nil=>intro N;cases N<;>rfl
 |cons x e ih=>intro N;cases x<;>cases N<;>first|rfl|(rename_i q N;obtain⟨j,ob⟩:=q;simp only[ap,klB,ih,be,Bool.and_false])
theorem bgg{k:Nat}{W:Wt}{d:Nat}{r:List V}{M:Mem}{vc:List Prop}{v:V}{e:List Ev}{N N':Mem}(h:zv k W d r M=⟨vc,v,e,N⟩)(hv:ab vc)(he:klB e N'=true):False:=by
 unfold zv at h
 cases hb:shp r W.ag with
 |false=>rw[hb]at h;exact bt h hv
 |true=>
  rw[hb]at h;simp only[a0d]at h;split at h
  ·split at h
   ·(try simp only at h)
    cases hi:inN _ _ with
    |true=>rw[hi]at h;exact bt h hv
    |false=>rw[hi]at h;simp only[a0j,Rs.mk.injEq]at h;obtain⟨_,_,rfl,_⟩:=h;rw[cal]at he;cases he
   ·exact bt h hv
  ·exact bt h hv
theorem bv2{W:Wt}{d:Nat}{r:List V}{M:Mem}{vc:List Prop}{v:V}{e:List Ev}{N N':Mem}(h:afu W d r M=⟨vc,v,e,N⟩)(hv:ab vc)(he:klB e N'=true):False:=by
 unfold afu at h;split at h
 ·split at h
  ·cases hb:abw W.o with
   |false=>rw[hb]at h;exact bt h hv
   |true=>rw[hb]at h;exact bgg h hv he
  ·split at h
   ·cases hb:slO W.o with
    |false=>rw[hb]at h;exact bt h hv
    |true=>rw[hb]at h;exact bgg h hv he
   ·exact bt h hv
 ·exact bt h hv
theorem ccr{W:Wc}{r:List V}{M:Mem}{vc:List Prop}{v:V}{e:List Ev}{N N':Mem}(h:az2 W r M=⟨vc,v,e,N⟩)(hv:ab vc)(he:klB e N'=true):False:=by exact bt h hv
theorem bsn:∀(i:Nat)(vs:List V)(v0:V)(r:List V),pkN i vs=some (v0,r)->∀v∈r,v∈vs
 |_,[],_,_,h=>by cases ‹Nat›<;>simp[pkN]at h
 |0,v::vs,v0,r,h=>fun x hx=>by simp only[pkN,a0e,a0n]at h;obtain⟨rfl,rfl⟩:=h;exact a1k _ hx
 |i+1,v::vs,v0,r,h=>fun x hx=>by
  simp only[pkN]at h;split at h
  ·rename_i y s hs;simp only[a0e,a0n]at h;obtain⟨rfl,rfl⟩:=h;rcases a0t.1 hx with rfl|hx
   ·exact a1t
   ·exact a1k _ (bsn i vs y s hs x hx)
  ·cases h
theorem blx:∀(N:Mem)(k:Nat)(rest:Mem),(∀j,j=k\/j∈ca N->go rest j=none)->klB (.kl k::klL (ca N)) (eq (len (Ev.kl k::klL (ca N))) (ap N rest))=false
 |[],k,rest,h=>by
  simp only[ca,klL,len,ap]
  cases rest with
  |nil=>rfl
  |cons q r=>
   obtain⟨j,ob⟩:=q;simp only[eq,klB];have h1:=h k (.inl rfl);rw[dn]at h1
   cases hb:Nat.beq k j with
   |false=>rfl
   |true=>rw[a0a (a0v hb).symm]at h1;cases h1
 |(n,ob)::N,k,rest,h=>by have ih:=blx N n rest (fun j hj=>h j (.inr (by simp only[ca];exact hj.elim (fun e=>e▸a1t) (fun h=>a1k _ h))));simp only[ca,klL,len,ap]at ih⊢;simp only[eq,klB]at ih⊢;rw[ih];cases Nat.beq k n<;>rfl
theorem bq7{M0 M:Mem}{ct:Ct}{d:Nat}{vs:List V}(hd:∀v∈vs,agV M M0 v){vc:List Prop}{v:V}{e:List Ev}{N:Mem}(h:ab8 ct d vs M0=⟨vc,v,e,N⟩)(hv:ab vc)(he:klB e (eq (len e) N)=true) :
  ab8 ct d vs M=⟨vc,v,e,ap (eq (len e) N) (mn (ca (eq (len e) N)) M)⟩:=by
 unfold ab8 at h⊢
 cases hmu:ct.mu with
 |some mu=>
  cases mu with
  |o O=>
   rw[hmu]at h;exfalso;change aor O vs M0=_ at h;unfold aor at h;split at h
   ·simp only[Rs.mk.injEq]at h;obtain⟨_,_,rfl,_⟩:=h;simp only[ae1]at he;generalize eq _ N=N1 at he;cases N1<;>simp[klB]at he
   ·exact bt h hv
  |m m=>rw[hmu]at h;exfalso;simp only at h;exact (bt h hv).elim
  |w W=>rw[hmu]at h;exact (bv2 h hv he).elim
  |k W=>
   rw[hmu]at h;simp only at h⊢;unfold amu at h⊢
   cases hpk:pkN W.i vs with
   |none=>rw[hpk]at h;exact (bt h hv).elim
   |some q=>
   obtain⟨v0,r⟩:=q;rw[hpk]at h;simp only at h⊢
   cases b2:nob (slO W.o) (shp r W.ag)with
   |false=>rw[b2]at h;exact (bt h hv).elim
   |true=>
   rw[b2]at h;simp only[a0d]at h⊢;rcases atr r M0 with hn|⟨k,ob,r',hn⟩
   ·have hf:=azi r (fun v hv=>hd v (bsn _ _ _ _ hpk v hv)) hn;rw[hf M0]at h;rw[hf M];simp only[ay6]at h⊢
    cases hx:asL r W.as with
    |none=>rw[hx]at h;exact (bt h hv).elim
    |some y=>
    rw[hx]at h;simp only at h⊢
    cases hroot:ai3 v0 with
    |some k=>
     exfalso;rw[hroot]at h;simp only at h
     cases hg:Nat.ble (Nat.succ k) gid with
     |false=>rw[hg]at h;exact bt h hv
     |true=>
     rw[hg]at h;simp only[a0d]at h;split at h
     ·split at h
      ·unfold abi at h;generalize newL d 0 W.rt (W.res _ y)=q at h;obtain⟨v',N',_⟩:=q;simp only[Rs.mk.injEq,ap]at h;obtain⟨_,_,rfl,rfl⟩:=h;rw[blx N' k _ (fun j hj=>?_)]at he
       ·cases he
       ·by_cases hj2:j∈ca N'
        ·exact (afs (ca N') _ j).1 (.inl hj2)
        ·rw[(afs (ca N') _ j).2 hj2];rcases hj with rfl|hj
         ·exact dy _ _
         ·exact absurd hj hj2
      ·exact bt h hv
     ·exact bt h hv
    |none=>
     rw[hroot]at h;simp only at h⊢
     cases v0 with
     |nl=>
      try simp only at h⊢
      cases hem:bap W.o with
      |none=>rw[hem]at h;exact (bt h hv).elim
      |some x=>
      rw[hem]at h;simp only at h⊢;unfold abi at h⊢;generalize newL d 0 W.rt (W.res x y)=q at h⊢;obtain⟨v',N',_⟩:=q;simp only[Rs.mk.injEq]at h⊢;obtain⟨rfl,rfl,rfl,rfl⟩:=h;have:∀l:List Ev,ap [] l=l:=fun _=>rfl;rw[this,be1];exact⟨rfl,rfl,rfl,rfl⟩
     |_=>exact (bt h hv).elim
   ·exfalso;generalize qa M0 r=q at h hn;obtain⟨e1,M1⟩:=q;simp only at hn h;subst hn;have key:∀(x:W.o.strip.den)(y:db W.as)(e2:List Ev)(M2:Mem),abi W d x y (ap (.fz k ob::r') e2) M2=⟨vc,v,e,N⟩->False:=fun x y e2 M2 h=>by unfold abi at h;simp only[Rs.mk.injEq]at h;obtain⟨_,_,rfl,_⟩:=h;rw[amt]at he;exact bj0 he
    split at h
    ·split at h
     ·rename_i k' _
      cases hg:Nat.ble (Nat.succ k') gid with
      |false=>rw[hg]at h;exact bt h hv
      |true=>
      rw[hg]at h;simp only[a0d]at h;split at h
      ·split at h
       ·exact key _ _ _ _ h
       ·exact bt h hv
      ·exact bt h hv
     ·split at h
      ·exact key _ _ [] _ (by rw[show ap (Ev.fz k ob::r') []=Ev.fz k ob::r' from agk _];exact h)
      ·exact bt h hv
    ·exact bt h hv
  |c W=>rw[hmu]at h;exact (ccr h hv he).elim
  |s s=>rw[hmu]at h;exact (bt h hv).elim
  |a W=>
   rw[hmu]at h;exfalso
   have hcut:∀(e:List Ev)(k:Nat)(o:O)(r:List Ev)(N:Mem),klB (ap e (.cut k o o::r)) N=false:=fun e k o r=>by
    induction e with
    |nil=>intro N;cases N<;>rfl
    |cons x e ih=>intro N;cases x<;>cases N<;>first|rfl|(rename_i q N;obtain⟨j,ob⟩:=q;simp only[ap,klB,ih,be,Bool.and_false])
   simp only at h;exact (bt h hv).elim
 |none=>
  rw[hmu]at h;simp only at h⊢
  cases hs:shp vs ct.ga with
  |false=>rw[hs]at h;exact (bt h hv).elim
  |true=>
   rw[hs]at h;simp only[a0d]at h⊢
   cases hsh:ct.sh with
   |false=>
    rw[hsh]at h;simp only at h⊢;rw[bf7 vs ct.args hd]
    cases hx:aaj M0 vs ct.args with
    |none=>rw[hx]at h;exact (bt h hv).elim
    |some x=>rw[hx]at h;simp only at h⊢;generalize newL d 0 ct.rt (ct.res x)=q at h⊢;obtain⟨v',N',_⟩:=q;simp only[Rs.mk.injEq]at h⊢;obtain⟨rfl,rfl,rfl,rfl⟩:=h;rw[be1];exact⟨rfl,rfl,rfl,rfl⟩
   |true=>
    rw[hsh]at h;simp only at h⊢;rcases atr vs M0 with hn|⟨k,ob,r,hn⟩
    ·have hf:=azi vs hd hn;rw[hf M0]at h;rw[hf M];simp only[ay6]at h⊢
     cases hx:asL vs ct.args with
     |none=>rw[hx]at h;exact (bt h hv).elim
     |some x=>rw[hx]at h;simp only at h⊢;generalize newL d 0 ct.rt (ct.res x)=q at h⊢;obtain⟨v',N',_⟩:=q;simp only[Rs.mk.injEq]at h⊢;obtain⟨rfl,rfl,rfl,rfl⟩:=h;have:∀l:List Ev,ap [] l=l:=fun _=>rfl;rw[this,be1];exact⟨rfl,rfl,rfl,rfl⟩
    ·exfalso;generalize qa M0 vs=q at h hn;obtain⟨e1,M1⟩:=q;simp only at hn h;subst hn;split at h
     ·simp only[Rs.mk.injEq]at h;obtain⟨_,_,rfl,_⟩:=h;exact bj0 he
     ·exact bt h hv
theorem bl0{f:Operand->V}:∀{l:List Operand} {v:V},v∈ve f l->∃x∈l,f x=v
 |[],v,h=>by cases h
 |x::r,v,h=>by
  simp only[ve]at h;rcases a0t.1 h with rfl|h
  ·exact⟨x,by simp,rfl⟩
  ·obtain⟨y,h1,h2⟩:=bl0 h;exact⟨y,by simp[h1],h2⟩
theorem alv(e:Ev):∀v:V,ce v=true->v.ev e=v
 |.d _ _,_|.nl,_|.np,_|.u,_=>rfl
 |.p a b,h=>by simp only[ce,be,a0b]at h;simp only[V.ev,alv e a h.1,alv e b h.2]
 |.ag v,h|.fn _ v,h|.bx v,h=>by simp only[ce]at h;simp only[V.ev,alv e v h]
 |.any,h|.ref _ _,h|.ad _ _,h|.tup _,h|.gd _ _ _ _,h|.ifc _ _,h=>by cases h
theorem bm3:∀(e:List Ev)(v:V),ce v=true->v.evs e=v
 |[],_,_=>rfl
 |x::e,v,h=>by simp only[V.evs,alv x v h];exact bm3 e v h
theorem bnj{k:Nat}(v:V)(t:T)(M:Mem)(h:ce v=true)(q:Ob)(e:List Ev)(M':Mem)(hc:conv k t v M=some (q,e,M')):e=[]/\M'=M/\∀M1,conv k t v M1=some (q,[],M1):=⟨(aij k M M t v h q e M' hc).1,(aij k M M t v h q e M' hc).2.1,fun M1=>(aij k M1 M t v h q e M' hc).2.2⟩
theorem ahi:∀(v:V)(M:Mem),ce v=true->cu M v=([],M)
 |.p a b,M,h=>by simp only[ce,be,a0b]at h;simp only[cu,ahi a M h.1,ahi b M h.2,ap]
 |.ag v,M,h|.fn _ v,M,h|.bx v,M,h=>by simp only[ce]at h;simp only[cu,ahi v M h]
 |.d _ _,_,_|.nl,_,_|.np,_,_|.u,_,_=>rfl
 |.any,_,h|.ref _ _,_,h|.ad _ _,_,h|.tup _,_,h|.gd _ _ _ _,_,h|.ifc _ _,_,h=>by cases h
theorem baz{k:Nat}{v:V}{o:O}{M:Mem}(h:ce v=true){x:o.strip.den}{e:List Ev}{M':Mem}(hc:aha k o v M=some (x,e,M')):e=[]/\M'=M/\∀M1,aha k o v M1=some (x,[],M1):=by
 unfold aha at hc⊢;split at hc
 ·rename_i t;simp only[ahi v _ h,V.evs]at hc⊢;split at hc
  ·rename_i y hy;simp only[a0e,a0n]at hc;obtain⟨rfl,rfl,rfl⟩:=hc;exact⟨rfl,rfl,fun _=>rfl⟩
  ·cases hc
 ·split at hc
  ·rename_i q e1 M1 hq;obtain⟨rfl,rfl,h3⟩:=bnj v _ _ h _ _ _ hq;split at hc
   ·rename_i y hy;simp only[a0e,a0n]at hc;obtain⟨rfl,rfl,rfl⟩:=hc;exact⟨rfl,rfl,fun M2=>by simp only[h3,hy]⟩
   ·cases hc
  ·cases hc
theorem bsj{k:Nat}{v:V}{o:O}{M:Mem}(h:ce v=true){x:o.strip.den}{e:List Ev}{M':Mem}(hc:alj k o v M=some (x,e,M')):e=[]/\M'=M/\∀M1,alj k o v M1=some (x,[],M1):=by
 unfold alj at hc⊢;split at hc
 ·split at hc
  ·rename_i y ev M1 hq;obtain⟨rfl,rfl,h3⟩:=baz h hq;simp only[a0e,a0n]at hc;obtain⟨rfl,rfl,rfl⟩:=hc;exact⟨rfl,rfl,fun M2=>by simp only[h3]⟩
  ·cases hc
 ·exact baz h hc
theorem aiw{k:Nat}{o:O}:∀(l:List V),(∀v∈l,ce v=true)->∀(M:Mem)(x:List o.strip.den)(e:List Ev)(M':Mem),rg k o [] l M=some (x,e,M')->e=[]/\M'=M/\∀M1,rg k o [] l M1=some (x,[],M1)
 |[],_,M,x,e,M',hc=>by simp only[rg,a0e,a0n]at hc;obtain⟨rfl,rfl,rfl⟩:=hc;exact⟨rfl,rfl,fun _=>rfl⟩
 |v::r,h,M,x,e,M',hc=>by
  simp only[rg,V.evs]at hc;split at hc
  ·rename_i y e1 M1 h1;obtain⟨rfl,rfl,h3⟩:=bsj (h v (by simp)) h1;simp only[ap]at hc;split at hc
   ·rename_i z e2 M2 h2;obtain⟨rfl,rfl,h4⟩:=aiw r (fun w hw=>h w (by simp[hw])) _ _ _ _ h2;simp only[a0e,a0n]at hc;obtain⟨rfl,rfl,rfl⟩:=hc;exact⟨rfl,rfl,fun M2=>by simp only[rg,V.evs,h3,ap,h4]⟩
   ·cases hc
  ·cases hc
theorem ayy:∀t:T,ce (wn t)=true
 |.p a b=>by simp only[wn,ce,ayy a,ayy b];rfl
 |.sl _|.u|.pt _|.fn _ _|.ifc _ _|.ib _ _|.mp _ _|.op _|.ns _|.er _|.int _|.bool|.str|.any=>rfl
theorem bkn{α:Type}{y x:α}:∀{l:List α} {i:Nat},x∈aud l i y->x∈l\/x=y
 |[],_,h=>by cases h
 |z::r,0,h=>by simp only[aud,a0t]at h⊢;rcases h with h|h<;>simp[h]
 |z::r,i+1,h=>by
  simp only[aud,a0t]at h⊢;rcases h with h|h
  ·simp[h]
  ·rcases bkn h with h|h<;>simp[h]
theorem bjt{α:Type}{y x:α}:∀{n:Nat},x∈aae y n->x=y
 |0,h=>by cases h
 |n+1,h=>by
  simp only[aae,a0t]at h;rcases h with h|h
  ·exact h
  ·exact bjt h
theorem aot{v:V}(h:ce v=true):v.strip=v:=by cases v<;>first|rfl|cases h
theorem axj{M:Mem}{sz:Nat}{f:Operand->V}:∀(ps:List (Nat×Operand)) (l r:List V),(∀q∈ps,ce (f q.2)=true)->(∀v∈l,ce v=true)->sj M sz f ps l=some r->(∀v∈r,ce v=true)/\∀M1,sj M1 sz f ps l=some r
 |[],l,r,_,hl,h=>by simp only[sj,a0e]at h;subst h;exact⟨hl,fun _=>rfl⟩
 |(i,x)::ps,l,r,hp,hl,h=>by
  simp only[sj]at h;have hx:=bgn (hp _ (a1t))
  cases hb:nob (Nat.ble (Nat.succ i) (len l)) (kx M (f x).cells sz)with
  |false=>rw[hb]at h;cases h
  |true=>
   rw[hb]at h;simp only[a0d]at h
   obtain⟨h1,h2⟩:=axj ps _ r (fun q hq=>hp q (by simp[hq])) (fun v hv=>by
    rcases bkn hv with hv|hv
    ·exact hl v hv
    ·rw[hv];exact hx) h
   refine⟨h1,fun M1=>?_⟩;simp only[sj];rw[adu (M:=M1) (M0:=M) _ _ (afy _ hx),hb];exact h2 M1
theorem bkm(e:List Ev):∀l:List V,(∀v∈l,ce v=true)->ux e l=l
 |[],_=>rfl
 |v::r,h=>by simp only[ux];rw[bm3 e v (h v (by simp)),bkm e r fun w hw=>h w (by simp[hw])]
theorem brt{B:Tab}{t:TypeId}{n:Nat}{ps:List (Nat×Operand)}{f:Operand->V}{d:Option Nat}{M M0:Mem}(hp:∀q∈ps,ce (f q.2)=true){vc:List Prop}{v:V}{e:List Ev}{N:Mem}(h:aet B t n ps f d M0=⟨vc,v,e,N⟩)(hv:ab vc) :
  aet B t n ps f d M=⟨vc,v,e,ap (eq (len e) N) (mn (ca (eq (len e) N)) M)⟩:=by
 unfold aet at h⊢;split at h
 ·rename_i k el hel;split at h
  ·rename_i l hl;obtain⟨hd,hl1⟩:=axj ps _ l hp (fun v hv=>by rw[bjt hv];exact ayy _) hl;simp only[hl1 M]
   cases hb:cd [(B.τ t).ok,(B.τ el).ok,B.z el,Nat.ble (Nat.mul n (B.τ el).size) 16777216,Nat.ble n nb,gb (B.σ el).size (B.τ el).size]with
   |false=>rw[hb]at h;exact (bt h hv).elim
   |true=>
    rw[hb]at h;simp only[a0d,bkm _ l hd]at h⊢
    cases l with
    |nil=>simp only[Rs.mk.injEq]at h;obtain⟨rfl,rfl,rfl,rfl⟩:=h;rfl
    |cons v0 r=>
     simp only at h⊢;split at h
     ·rename_i q e1 M1 hq;obtain⟨rfl,rfl,hq1⟩:=bnj v0 _ _ (hd v0 (by simp)) _ _ _ hq;simp only[hq1];split at h
      ·rename_i x ev M2 hx;obtain⟨rfl,rfl,hx1⟩:=aiw _ hd _ _ _ _ hx;simp only[hx1];simp only[Rs.mk.injEq]at h;obtain⟨rfl,rfl,rfl,rfl⟩:=h;rfl
      ·rename_i hx
       have hx1:∀M1,rg k q.o [] (v0::r) M1=none:=fun M1=>by
        cases hc:rg k q.o [] (v0::r) M1 with
        |none=>rfl
        |some z=>obtain⟨z1,z2,z3⟩:=z;have:=(aiw _ hd _ _ _ _ hc).2.2 (del k M0);rw[hx]at this;cases this
       simp only[hx1];split at h
       ·rename_i x ev M2 hx;obtain⟨rfl,rfl,hx1⟩:=aiw _ hd _ _ _ _ hx;simp only[hx1];simp only[Rs.mk.injEq]at h;obtain⟨rfl,rfl,rfl,rfl⟩:=h;rfl
       ·exact (bt h hv).elim
     ·exact (bt h hv).elim
  ·exact (bt h hv).elim
 ·exact (bt h hv).elim
theorem btq{B:Tab}{d:Option Nat}{t:TypeId}{x y:V}{M M0:Mem}(hx:ce x=true)(hy:ce y=true){vc:List Prop}{v:V}{e:List Ev}{N:Mem}(h:air B d t x y M0=⟨vc,v,e,N⟩)(hv:ab vc) :
  air B d t x y M=⟨vc,v,e,ap (eq (len e) N) (mn (ca (eq (len e) N)) M)⟩:=by
 unfold air at h⊢
 cases he:(B.τ t).el with
 |none=>rw[he]at h;exact (bt h hv).elim
 |some el=>
 cases d with
 |none=>rw[he]at h;exact (bt h hv).elim
 |some k=>
 rw[he]at h
 try simp only at h⊢
 cases y with
 |nl=>
  simp only[ald]at h⊢
  cases hb:cd [(B.τ t).ok,(B.τ el).ok,neg (Nat.beq (B.τ el).bytes 0),B.z el,gb (B.σ el).size (B.τ el).size]with
  |false=>rw[hb]at h;exact (bt h hv).elim
  |true=>
   rw[hb]at h;simp only[a0d]at h⊢
   cases x with
   |nl=>simp only[Rs.mk.injEq]at h⊢;obtain⟨rfl,rfl,rfl,rfl⟩:=h;exact⟨rfl,rfl,rfl,rfl⟩
   |ref _ _=>cases hx
   |_=>exact (bt h hv).elim
 |d s l=>
  cases s with
  |sl s=>
   simp only[ald]at h⊢
   cases hb:cd [(B.τ t).ok,(B.τ el).ok,neg (Nat.beq (B.τ el).bytes 0),B.z el,gb (B.σ el).size (B.τ el).size]with
   |false=>rw[hb]at h;exact (bt h hv).elim
   |true=>
    rw[hb]at h;simp only[a0d]at h⊢
    cases x with
    |nl=>
     simp only at h⊢
     cases hc:gb s.size (B.τ el).size with
     |false=>rw[hc]at h;exact (bt h hv).elim
     |true=>rw[hc]at h;simp only[a0d,Rs.mk.injEq]at h⊢;obtain⟨rfl,rfl,rfl,rfl⟩:=h;exact⟨rfl,rfl,rfl,rfl⟩
    |ref _ _=>cases hx
    |_=>exact (bt h hv).elim
  |_=>simp only[ald]at h;exact (bt h hv).elim
 |ref _ _=>cases hy
 |_=>simp only[ald]at h;exact (bt h hv).elim
theorem bs1{B:Tab}{t:TypeId}{d:Option Nat}{ρ:Operand->V}{x:Operand}{lo hi:Option Operand}{M0:Mem}(M:Mem)(hx:ce (ρ x)=true){vc:List Prop}{v:V}{e:List Ev}{N:Mem}(h:aav B t d ρ x lo hi M0=⟨vc,v,e,N⟩)(hv:ab vc) :
  aav B t d ρ x lo hi M=⟨vc,v,e,M⟩/\e=[]:=by
 unfold aav at h⊢
 cases hn:nsT (B.σ t)with
 |true=>
  exfalso;rw[hn]at h;simp only[a0d,alf]at h;split at h
  ·rename_i hr _ _ _
   first|(rw[hr]at hx;cases hx)|(exfalso;simp_all[ce])
  ·simp only[c7,Rs.mk.injEq]at h;obtain⟨rfl,_⟩:=h;exact hv.1
 |false=>
  rw[hn]at h;simp only[a0j,as0]at h⊢;split at h
  ·rename_i hr;rw[hr]at hx;cases hx
  ·simp only[dh,Rs.mk.injEq]at h⊢;obtain⟨h1,h2,rfl,rfl⟩:=h;simp only[h1,h2,and_self]
theorem blz{M0 M:Mem}{o:Oper}{env:Env}(hk:ao5 M0 o.op env=true)(ag:aqm M0 env (cy o.op)=true->∀x∈cy o.op,agV M M0 (rd env x)){vc:List Prop}{v:V}{e:List Ev}{N:Mem}(h:evR B Φ o env M0=⟨vc,v,e,N⟩)(hv:ab vc)(he:klB e (eq (len e) N)=true) :
  evR B Φ o env M=⟨vc,v,e,ap (eq (len e) N) (mn (ca (eq (len e) N)) M)⟩:=by
 have tk:∀N:Mem,eq (len ([]:List Ev)) N=[]:=fun _=>rfl;obtain⟨dst,op,ty',pos,after,guard⟩:=o;simp only[ao5,lq,be,a09,a0b]at hk;rcases hk with hk|(hk|hk)|⟨hk|hk,hd⟩;rotate_left
 ·cases op<;>simp only[sldK,a1g]at hk;rename_i t x lo hi mx
  cases mx with
  |some _=>cases hk
  |none=>
  simp only[evR,dz]at h⊢;have hx:ce (rd env x)=true:=ac5 hk _ (by simp[cy,mj]);generalize hq:aav B t dst (fun x=>(rd env x).strip) x lo hi M0=q at h;obtain⟨vc',v',e',N'⟩:=q;simp only[Rs.mk.injEq]at h;obtain⟨rfl,rfl,rfl,rfl⟩:=h;obtain⟨k1,k2⟩:=bs1 M (by simp only[aot hx];exact hx) hq (ge hv);subst k2;simp only[k1,tk,ap,mn,ca]
 rotate_right
 ·cases op<;>simp only[aiq,a1g]at hk<;>simp only[evR,dz,dh,Rs.mk.injEq]at h⊢<;>obtain⟨h1,h2,rfl,rfl⟩:=h<;>exact⟨h1,h2,rfl,rfl⟩
 ·cases op<;>simp only[litK,a1g]at hk
  case call c=>
   split at hk
   ·rename_i hcal;simp only[evR,dz,hcal]at h⊢;split at h
    ·rename_i x y t t' hxy htt
     cases hb:Nat.beq t t' with
     |false=>rw[hb]at h;simp only[a0j,c7,Rs.mk.injEq]at h;obtain⟨rfl,_⟩:=h;exact absurd (ge hv) (by simp[ab])
     |true=>rw[hb]at h;simp only[a0d]at h⊢;generalize hq:air B dst t ((rd env x).strip) ((rd env y).strip) M0=q at h;obtain⟨vc',v',e',N'⟩:=q;simp only[Rs.mk.injEq]at h;obtain⟨rfl,rfl,rfl,rfl⟩:=h;have hx:ce (rd env x)=true:=ac5 hk _ (by show x∈ap (cy.calO c.callee) (toL c.args);rw[hcal,hxy,mj];simp);have hy:ce (rd env y)=true:=ac5 hk _ (by show y∈ap (cy.calO c.callee) (toL c.args);rw[hcal,hxy,mj];simp);rw[btq (M:=M) (by rw[aot hx];exact hx) (by rw[aot hy];exact hy) hq (ge hv)]
    ·simp only[c7,Rs.mk.injEq]at h;obtain⟨rfl,_⟩:=h;exact absurd (ge hv) (by simp[ab])
   ·cases hk
  rename_i t n ps;simp only[evR,dz]at h⊢;generalize hq:aet B t n (toL ps) (fun x=>(rd env x).strip) dst M0=q at h;obtain⟨vc',v',e',N'⟩:=q;simp only[Rs.mk.injEq]at h;obtain⟨rfl,rfl,rfl,rfl⟩:=h;have hm:∀q∈toL ps,ce ((fun x=>(rd env x).strip) q.2)=true:=fun q hq=>by have:ce (rd env q.2)=true:=ac5 hk _ (by simp only[cy];exact ah8 (by rw[←ew];exact hq));simp only[aot this];exact this
  rw[brt (M:=M) hm hq (ge hv)]
 ·have hm:=ag hd;cases op<;>simp only[vt,a1g]at hk<;>simp only[cy]at hm
  case load t x=>
   have hx:=hm x (by simp);simp only[evR,dz,Rs.mk.injEq]at h⊢;obtain⟨h1,h2,h3,h4⟩:=h
   have hn:ape (B.τ t) M0 dst ((rd env x).strip)=none:=by
    cases htk:ape (B.τ t) M0 dst ((rd env x).strip)with
    |none=>rfl
    |some R=>exfalso;simp only[ul,htk]at h1 h2 h3 h4;cases htk
   have hn':ape (B.τ t) M dst ((rd env x).strip)=none:=by rw[qv hx]at hn⊢;rw[bvz _ _ hx];exact hn
   simp only[ul,hn,dh]at h1 h2 h3 h4;subst h3;simp only[ul,hn',dh];rw[qv hx]at h1 h2⊢;rw[bqs _ _ hx];simp only[tk,ap,mn,ca,a0c];exact⟨h1,h2⟩
  all_goals simp only[evR,dz,dh,Rs.mk.injEq]at h⊢
  all_goals obtain⟨h1,h2,rfl,rfl⟩:=h
  case fieldAddr t x i=>have hx:=hm x (by simp);rw[qv hx,bpl _ _ _ hx,←qv hx];exact⟨h1,h2,rfl,rfl⟩
  case field t x i=>have hx:=hm x (by simp);rw[qv hx,bsc _ _ _ hx,←qv hx];exact⟨h1,h2,rfl,rfl⟩
  case indexAddr t x i=>have hx:=hm x (by simp);rw[qv hx,bs5 _ _ _ hx,←qv hx];exact⟨h1,h2,rfl,rfl⟩
  case convert s d x=>have hx:=hm x (by simp);rw[qv hx,bmm hx,←qv hx];exact⟨h1,h2,rfl,rfl⟩
  all_goals exact⟨h1,h2,rfl,rfl⟩
 ·have hm:=ag hd;cases op<;>simp only[newK,a1g]at hk
  case alloc t=>
   simp only[evR,dz,bdu]at h⊢
   cases dst with
   |none=>simp only[c7,Rs.mk.injEq]at h;obtain⟨rfl,_⟩:=h;exact absurd (ge hv) (by simp[ab])
   |some k=>
    simp only at h⊢
    cases hb:cd [(B.τ t).ok,B.z t]with
    |false=>rw[hb]at h;simp only[a0j,c7,Rs.mk.injEq]at h;obtain⟨rfl,_⟩:=h;exact absurd (ge hv) (by simp[ab])
    |true=>rw[hb]at h;simp only[a0d,Rs.mk.injEq]at h⊢;obtain⟨h1,h2,rfl,rfl⟩:=h;exact⟨h1,h2,rfl,rfl⟩
  case makeSlice t l c=>
   simp only[evR,dz,avd]at h⊢;split at h
   ·rename_i el k1 nl k2 nc e2 e3 e4
    cases hb:cd [(B.τ t).ok,(B.τ el).ok,B.z el,gb (B.σ el).size (B.τ el).size]with
    |false=>rw[hb]at h;simp only[a0j,c7,Rs.mk.injEq]at h;obtain⟨rfl,_⟩:=h;exact absurd (ge hv) (by simp[ab])
    |true=>rw[hb]at h;simp only[a0d,Rs.mk.injEq]at h⊢;obtain⟨h1,h2,rfl,rfl⟩:=h;exact⟨h1,h2,rfl,rfl⟩
   ·simp only[c7,Rs.mk.injEq]at h;obtain⟨rfl,_⟩:=h;exact absurd (ge hv) (by simp[ab])
  case build t ps=>
   simp only[evR,dz,abh]at h⊢;rw[axi (M:=M) (M0:=M0) _ (fun x=>(rd env x).strip) (toL ps) _ (fun x hx=>by have:=hm x (by simp only[cy];exact hx);rw[qv this];exact this) (axy _)]
   cases hb:cd [(B.τ t).ok,awp B (B.τ t),B.z t]with
   |false=>rw[hb]at h;simp only[a0j,c7,Rs.mk.injEq]at h;obtain⟨rfl,_⟩:=h;exact absurd (ge hv) (by simp[ab])
   |true=>
    rw[hb]at h;simp only[a0d]at h⊢;split at h
    ·rename_i v0 e0;simp only[Rs.mk.injEq]at h⊢;obtain⟨h1,h2,rfl,rfl⟩:=h;exact⟨h1,h2,rfl,rfl⟩
    ·simp only[c7,Rs.mk.injEq]at h;obtain⟨rfl,_⟩:=h;exact absurd (ge hv) (by simp[ab])
  case buildSlice t n p=>
   rw[be,a0b]at hk;have hn0:=a0v hk.1;subst hn0
   have hp:toL p=[]:=by
    have:=a0v hk.2;revert this
    cases toL p with
    |nil=>intro _;rfl
    |cons a r=>intro h;exact absurd h (by simp only[len];omega)
   ·simp only[evR,dz,hp,aet]at h⊢
    cases dst with
    |none=>simp only[c7,Rs.mk.injEq]at h;obtain⟨rfl,_⟩:=h;exact absurd (ge hv) (by simp[ab])
    |some k=>
     cases hel:(B.τ t).el with
     |none=>rw[hel]at h;simp only[c7,Rs.mk.injEq]at h;obtain⟨rfl,_⟩:=h;exact absurd (ge hv) (by simp[ab])
     |some el=>
      rw[hel]at h;simp only[sj,aae,ux]at h⊢
      cases hb:cd [(B.τ t).ok,(B.τ el).ok,B.z el,Nat.ble (Nat.mul 0 (B.τ el).size) 16777216,Nat.ble 0 nb,gb (B.σ el).size (B.τ el).size]with
      |false=>rw[hb]at h;simp only[a0j,c7,Rs.mk.injEq]at h;obtain⟨rfl,_⟩:=h;exact absurd (ge hv) (by simp[ab])
      |true=>rw[hb]at h;simp only[a0d,Rs.mk.injEq]at h⊢;obtain⟨h1,h2,rfl,rfl⟩:=h;exact⟨h1,h2,rfl,rfl⟩
  case call c=>
   obtain⟨callee,args,argTypes⟩:=c;have hrd:∀x∈toL args,agV M M0 (rd env x).strip:=fun x hx=>by have:=hm x (by simp only[cy,mj];exact a25 _ hx);rw[qv this];exact this
   cases callee with
   |value cx=>
    have hc:=hm cx (by simp only[cy,mj,cy.calO];exact a2b _ (by simp));simp only[evR,dz]at h⊢
    cases hf:asj (rd env cx).strip with
    |none=>rw[hf]at h;simp only[c7,Rs.mk.injEq]at h;obtain⟨rfl,_⟩:=h;exact absurd (ge hv) (by simp[ab])
    |some q=>
     obtain⟨f,cv⟩:=q;have hcv:agV M M0 cv:=cb4 (by rw[qv hc];exact hc) hf;rw[hf]at h
     cases dst with
     |none=>simp only[c7,Rs.mk.injEq]at h;obtain⟨rfl,_⟩:=h;exact absurd (ge hv) (by simp[ab])
     |some d=>
      simp only at h⊢;obtain⟨c1,c2⟩:=bu5 cv hcv;rw[c1]
      cases hp:Φ f with
      |none=>rw[hp]at h;simp only[c7,Rs.mk.injEq]at h;obtain⟨rfl,_⟩:=h;exact absurd (ge hv) (by simp[ab])
      |some ct=>
       rw[hp]at h
       cases hcs:ub M0 cv with
       |none=>rw[hcs]at h;simp only[c7,Rs.mk.injEq]at h;obtain⟨rfl,_⟩:=h;exact absurd (ge hv) (by simp[ab])
       |some cs=>
        rw[hcs]at h;simp only at h⊢
        have hall:∀y∈ap (ve (fun x=>(rd env x).strip) (toL args)) cs,agV M M0 y:=fun y hy=>by
         rw[mj]at hy;rcases a07.1 hy with hy|hy
         ·obtain⟨x,x1,rfl⟩:=bl0 hy;exact hrd x x1
         ·exact c2 cs hcs y hy
        generalize hq:ab8 ct d (ap (ve (fun x=>(rd env x).strip) (toL args)) cs) M0=q at h;obtain⟨vc1,v1,e1,N1⟩:=q;simp only[Rs.mk.injEq]at h;obtain⟨rfl,rfl,rfl,rfl⟩:=h;rw[bq7 hall hq (ge hv) he]
   |builtin b=>
    cases b<;>simp only[a1g]at hk;simp only[evR,dz]at h⊢;split at h
    ·rename_i x t e1 e2;have hx:=hrd x (by rw[e1];simp);simp only[dh,Rs.mk.injEq]at h⊢;rw[bsv hx];obtain⟨h1,h2,rfl,rfl⟩:=h;exact⟨h1,h2,rfl,rfl⟩
    ·simp only[c7,Rs.mk.injEq]at h;obtain⟨rfl,_⟩:=h;exact absurd (ge hv) (by simp[ab])
   |_=>simp at hk
theorem ahk{β:Nat->Value}{M:Mem}{Im:Nat->Prop}{w:World}{k:Nat}(hk:go M k=none):∀(v:V)(vs:List Value),ak β M Im w v vs->v.ev (.kl k)=v:=by
 intro v
 induction v with
 |p a b iha ihb=>intro vs r;simp only[ak]at r;obtain⟨va,vb,_,h1,h2⟩:=r;simp only[V.ev];rw[iha _ h1,ihb _ h2]
 |ref j π=>
  intro vs r;simp only[ak]at r;obtain⟨ob,_,h1,_⟩:=r;have hne:j≠k:=fun h=>by subst h;rw[hk]at h1;cases h1
  simp only[V.ev,Ev.ref,dg,ds hne]
 |ad j π=>
  intro vs r;simp only[ak]at r;obtain⟨_,_,ob,_,_,_,h1,_⟩:=r;have hne:j≠k:=fun h=>by subst h;rw[hk]at h1;cases h1
  simp only[V.ev,Ev.ad,dg,ds hne]
 |fn f v ih=>intro vs r;simp only[ak]at r;obtain⟨us,_,h⟩:=r;simp only[V.ev];rw[ih _ h]
 |bx v ih=>intro vs r;simp only[ak]at r;obtain⟨_,_,us,_,_,_,h⟩:=r;simp only[V.ev];rw[ih _ h]
 |ag v|tup v|gd _ _ _ v=>intro vs r;simp only[ak]at r
 |ifc t v ih=>intro vs r;simp only[ak]at r;obtain⟨u,_,h⟩:=r;simp only[V.ev];rw[ih _ h]
 |_=>intro vs r;rfl
theorem bwr{β:Nat->Value}{M:Mem}{Im:Nat->Prop}{w:World}{k:Nat}(hk:go M k=none):∀(v:V),xv v=true->(∀u,ao β M Im w v u->v.ev (.kl k)=v)/\(∀us,da β M Im w v us->v.ev (.kl k)=v):=by
 intro v
 induction v with
 |any=>intro _;exact⟨fun _ _=>rfl,fun _ _=>rfl⟩
 |ag v ih=>
  intro _;refine⟨fun u r=>?_,fun us r=>?_⟩
  ·simp only[ao]at r;obtain⟨vs,_,h⟩:=r;simp only[V.ev];rw[ahk hk _ _ h]
  ·simp only[da]at r
 |tup v ih=>
  intro hg;refine⟨fun u r=>?_,fun us r=>?_⟩
  ·simp only[ao]at r;obtain⟨vs,_,h⟩:=r;simp only[V.ev];rw[(ih hg).2 _ h]
  ·simp only[da]at r
 |gd _ _ _ v=>intro hg;cases hg
 |ifc t v ih=>
  intro hg;refine⟨fun u r=>?_,fun us r=>?_⟩
  ·simp only[ao]at r;exact ahk hk _ _ r
  ·simp only[da]at r
 |p a b iha ihb=>
  intro hg;simp only[xv,be,a0b]at hg;refine⟨fun u r=>?_,fun us r=>?_⟩
  ·simp only[ao]at r;exact ahk hk _ _ r
  ·simp only[da]at r;obtain⟨u,us',_,h1,h2⟩:=r;simp only[V.ev];rw[(iha hg.1).1 _ h1,(ihb hg.2).2 _ h2]
 |u=>intro _;exact⟨fun _ _=>rfl,fun _ _=>rfl⟩
 |ref j π|ad j π=>intro _;exact⟨fun u r=>by simp only[ao]at r;exact ahk hk _ _ r,fun us r=>by simp only[da]at r⟩
 |d t x|nl|np=>intro _;exact⟨fun _ _=>rfl,fun _ _=>rfl⟩
 |fn f v|bx v=>intro _;exact⟨fun u r=>by simp only[ao]at r;exact ahk hk _ _ r,fun us r=>by simp only[da]at r⟩
theorem bow:∀{e:List Ev} {N:Mem},klB e N=true->∀{v:V},(∀k∈ca N,v.ev (.kl k)=v)->v.evs e=v
 |[],[],_,v,_=>rfl
 |[],_::_,h,_,_=>by simp[klB]at h
 |x::e,[],h,_,_=>by cases x<;>simp[klB]at h
 |x::e,(j,ob)::N,h,v,hk=>by
  cases x with
  |kl k=>simp only[klB,be,a0b]at h;have:=a0v h.1;subst this;simp only[V.evs];rw[hk k (by simp[ca])];exact bow h.2 fun k hk'=>hk k (by simp[ca,hk'])
  |_=>simp[klB]at h
theorem ah7:∀{ks:List Nat} {M:Mem},ali ks M=true->∀k∈ks,go M k=none
 |[],_,_,k,hk=>by cases hk
 |j::r,M,h,k,hk=>by
  simp only[ali,be,a0b]at h;rcases a0t.1 hk with rfl|hk
  ·cases hg:go M k with
   |none=>rfl
   |some _=>rw[hg]at h;exact absurd h.1 (by simp[isN])
  ·exact ah7 h.2 k hk
theorem zp:∀{N:Mem} {k:Nat},k∈ca N<->go N k≠none
 |[],k=>by simp[ca,go]
 |(j,ob)::N,k=>by
  simp only[ca,a0t,dn];by_cases e:j=k
  ·subst e;simp
  ·rw[ds e,←zp (N:=N)];simp[a0u e]
theorem awo:∀{ks:List Nat} {M:Mem} {k:Nat},k∉ks->go (mn ks M) k=go M k
 |[],_,_,_=>rfl
 |j::r,M,k,h=>by simp only[mn];rw[awo (fun hh=>h (by simp[hh])),dx (fun hh=>h (by simp[hh]))]
theorem bjv{t:Nat}:∀{env:Env},ab0 env=true->xv (gt env t)=true
 |[],_=>rfl
 |(k,v)::r,h=>by
  simp only[ab0,be,a0b]at h;rw[iy];split
  ·exact h.1
  ·exact bjv h.2
structure Hst (D:Bool) (ks as:List Nat) (B:Tab) (Φ:FuncId->Option Ct) (M0:Mem) (o:Oper) (e e':Env) (N:Mem) (X X':Mem) (d:Nat) (v:V) (vc:List Prop) (ev:List Ev):Prop where
 g:o.guard=none
 dst:o.dst=some d
 k:ao5 (ap X M0) o.op e=true
 r:∃N',evR B Φ o e (ap X M0)=⟨vc,v,ev,N'⟩/\N=eq (len ev) N'
 hv:ab vc
 kl:klB ev N=true
 n0:ali (ca N) M0=true
 nX:ali (ca N) X=true
 gd:xv v=true
 dt:D=true->ww o.op=true->bxK B as o.op e=true\/w7 ks e (cy o.op)=true/\ksV ks v=true
 he:e'=(d,v)::e
 x:X'=ap N X
theorem bk2{ks as:List Nat}{M0:Mem}:∀(D:List Bool)(ops:List Oper)(e:Env)(x:Mem)(K:Env->Mem->Prop),hx D ks as B Φ M0 ops e x K->
  ∃(E:Nat->Env)(X N:Nat->Mem),E 0=e/\X 0=x/\(∀j o,ops[j]? = some o->∃d v vc ev,Hst (D.getD j false) ks as B Φ M0 o (E j) (E (j+1)) (N j) (X j) (X (j+1)) d v vc ev)/\K (E ops.length) (X ops.length)
 |D,[],e,x,K,h=>⟨fun _=>e,fun _=>x,fun _=>[],rfl,rfl,fun j o h=>by simp at h,h⟩
 |D,o::r,e,x,K,h=>by
  have key:∃e' x' N,(∃d v vc ev,Hst (aoq D) ks as B Φ M0 o e e' N x x' d v vc ev)/\hx (ala D) ks as B Φ M0 r e' x' K:=by
   simp only[hx]at h;split at h
   ·rename_i d hg hd
    cases hk:ao5 (ap x M0) o.op e with
    |false=>rw[hk]at h;exact h.elim
    |true=>
     rw[hk]at h;simp only[a0d]at h;generalize hq:evR B Φ o e (ap x M0)=q at h;obtain⟨vc,v,ev,N'⟩:=q;simp only at h;generalize hN:eq (len ev) N'=N at h
     cases hb:cd [klB ev N,ali (ca N) M0,ali (ca N) x,xv v,orb (neg (aoq D)) (orb (neg (ww o.op)) (orb (bxK B as o.op e) (nob (w7 ks e (cy o.op)) (ksV ks v))))]with
     |false=>rw[hb]at h;exact h.elim
     |true=>rw[hb]at h;simp only[a0d,oq]at h;simp only[br,bz,a0o,a0b]at hb;exact⟨_,_,N,⟨d,v,vc,ev,⟨hg,hd,hk,⟨N',hq,hN.symm⟩,h.1,hb.1,hb.2.1,hb.2.2.1,hb.2.2.2.1,fun hD hk=>by have h5:=hb.2.2.2.2;rw[hD,hk]at h5;simpa using h5,rfl,rfl⟩⟩,h.2⟩
   ·exact h.elim
  obtain⟨e',x',N,h1,h2⟩:=key;obtain⟨E,X,Ns,i1,i2,i3,i4⟩:=bk2 (ala D) r e' x' K h2;refine⟨fun j=>match j with|0=>e|j+1=>E j,fun j=>match j with|0=>x|j+1=>X j,fun j=>match j with|0=>N|j+1=>Ns j,rfl,rfl,fun j o' hj=>?_,by simpa using i4⟩
  cases j with
  |zero=>
   simp only[a1u,a0e]at hj;subst hj;simp only;rw[i1,i2];have e:D.getD 0 false=aoq D:=by cases D<;>rfl
   rw[e];exact h1
  |succ j=>
   simp only[a2i]at hj;have e:D.getD (j+1) false=(ala D).getD j false:=by cases D<;>simp[ala]
   rw[e];exact i3 j o' hj
theorem bj4{α:Type}{x:Option α}(h:isN x=true):x=none:=by cases x<;>first|rfl|cases h
theorem bt2{o:Op}(h:ww o=true):∀x∈o.operands,x∈cy o:=by
 unfold ww at h
 cases o with
 |slice t x lo hi mx=>
  cases mx with
  |some _=>simp[vt,aiq,aez]at h
  |none=>cases lo<;>cases hi<;>simp[Op.operands,cy,cy.optL,mj]
 |call c=>
  obtain⟨callee,args,tys⟩:=c
  cases callee with
  |builtin b=>simp[Op.operands,Call.operands,cy,cy.calO,ew,mj]
  |_=>simp[vt,aiq,aez]at h
 |_=>
  simp[vt,aiq,aez]at h<;>simp[Op.operands,cy]
  try (intro x q hq;exact ah8 (q:=(q,x)) (by simpa using hq))
theorem brp{B:Tab}{t:TypeId}{ps:List (Nat×Operand)}{f:Operand->V}{M:Mem}:(abh B t ps f M).ev=[]/\(abh B t ps f M).M=M:=by
 unfold abh
 cases cd [(B.τ t).ok,awp B (B.τ t),B.z t]with
 |false=>exact⟨rfl,rfl⟩
 |true=>simp only[a0d];split<;>exact⟨rfl,rfl⟩
theorem cc5{r:Nat}{M:Mem}{e:List Ev}(h:klB (.kl r::e) (eq (len (Ev.kl r::e)) (del r M))=true):False:=by
 have hg:=dy r M
 cases hd:del r M with
 |nil=>rw[hd]at h;simp[len,eq,klB]at h
 |cons q N=>obtain⟨j,ob⟩:=q;rw[hd]at h hg;simp only[len,eq,klB,be,a0b]at h;have:=a0v h.1;subst this;simp[dn]at hg
theorem brk{B:Tab}{t:TypeId}{d:Option Nat}{ρ:Operand->V}{x:Operand}{lo hi:Option Operand}{M:Mem}{vc:List Prop}{v:V}{e:List Ev}{N:Mem}(h:aav B t d ρ x lo hi M=⟨vc,v,e,N⟩)(hk:klB e (eq (len e) N)=true):e=[]/\N=M:=by
 have bad:∀{vc:List Prop} {v:V} {e:List Ev} {N:Mem},c7 M=⟨vc,v,e,N⟩->e=[]/\N=M:=fun h=>by simp only[c7,Rs.mk.injEq]at h;exact⟨h.2.2.1.symm,h.2.2.2.symm⟩
 unfold aav at h
 cases hn:nsT (B.σ t)with
 |true=>
  rw[hn]at h;simp only[a0d,alf]at h;split at h
  ·split at h
   ·cases hb:cd _ with
    |false=>rw[hb]at h;exact bad h
    |true=>rw[hb]at h;simp only[br,nq,a0b]at hb;simp only[a0d,Rs.mk.injEq]at h;obtain⟨_,_,rfl,rfl⟩:=h;simp only[len,eq,klB,be,a0b]at hk;have:=hb.1.1;rw[qu,hk.1]at this;cases this
   ·exact bad h
  ·exact bad h
 |false=>
  rw[hn]at h;simp only[a0j,as0]at h;split at h
  ·split at h
   ·rename_i r π _ q e1 M1 hc
    (try simp only at h)
    simp only[Rs.mk.injEq]at h;obtain⟨_,_,rfl,rfl⟩:=h;exfalso;unfold ac4 at hc;generalize neg (nq _ gid)=b at hc
    cases b with
    |true=>cases hc
    |false=>
     simp only[a0j]at hc;split at hc
     ·split at hc
      ·split at hc
       ·cases hc;exact cc5 hk
       ·cases hi:agp _ with
        |true=>rw[hi]at hc;simp only[a0d,a0e,a0n]at hc;obtain⟨_,rfl,_⟩:=hc;generalize eq _ _=Z at hk;cases Z<;>simp[klB]at hk
        |false=>
         rw[hi]at hc;simp only[a0j]at hc;split at hc
         ·cases hc;generalize eq _ _=Z at hk;cases Z<;>simp[klB]at hk
         ·cases hc
      ·cases hc
     ·cases hc
   ·exact bad h
  ·simp only[dh,Rs.mk.injEq]at h;exact⟨h.2.2.1.symm,h.2.2.2.symm⟩
theorem br3{B:Tab}{c:Call}{dst:Option Nat}{ty':TypeId}{pos:String}{after:Array Edge}{guard:Option (Nat×Bool)}{env:Env}{M:Mem}(hk:aez (.call c)=true){vc:List Prop}{v:V}{e:List Ev}{N:Mem}(h:evR B Φ ⟨dst,.call c,ty',pos,after,guard⟩ env M=⟨vc,v,e,N⟩):e=[]/\N=M:=by
 simp only[aez]at hk;split at hk
 ·rename_i hcal;simp only[evR,dz,hcal]at h;split at h<;>simp only[dh,c7,Rs.mk.injEq]at h<;>exact⟨h.2.2.1.symm,h.2.2.2.symm⟩
 ·cases hk
theorem bnt{o:Oper}{env:Env}{M:Mem}{vc:List Prop}{v:V}{ev:List Ev}{N':Mem}(hk:ww o.op=true)(hr:evR B Φ o env M=⟨vc,v,ev,N'⟩)(hkl:klB ev (eq (len ev) N')=true):ev=[]:=by
 obtain⟨dst,op,ty',pos,after,guard⟩:=o;unfold ww at hk;rcases Classical.em (∃c,op=.call c)with⟨c,rfl⟩|hcc
 ·have hb:aez (.call c)=true:=by simpa[vt,aiq]using hk
  exact (br3 hb hr).1
 cases op<;>simp[vt,aiq]at hk<;>try (simp[aez]at hk;done)
 case call c=>exact absurd ⟨c,rfl⟩ hcc
 case slice t x lo hi mx=>
  cases mx with
  |some _=>simp[aez]at hk
  |none=>
  simp only[evR,dz]at hr;generalize hq:aav B t dst (fun x=>(rd env x).strip) x lo hi M=q at hr;obtain⟨a1,a2,a3,a4⟩:=q;simp only[Rs.mk.injEq]at hr;obtain⟨_,_,rfl,rfl⟩:=hr;exact (brk hq hkl).1
 case build t ps=>simp only[evR,dz]at hr;have h:=@brp B t (toL ps) (fun x=>(rd env x).strip) M;generalize abh B t (toL ps) (fun x=>(rd env x).strip) M=q at hr h;obtain⟨a1,a2,a3,a4⟩:=q;simp only[Rs.mk.injEq]at hr;exact hr.2.2.1.symm.trans h.1
 case load t x=>
  simp only[evR,dz,ul]at hr;split at hr
  ·rename_i r hr';cases hr'
  ·simp only[dh,Rs.mk.injEq]at hr;exact hr.2.2.1.symm
 all_goals (simp only[evR,dz,dh,Rs.mk.injEq]at hr;exact hr.2.2.1.symm)
def AgM(ks:List Nat)(M' M:Mem):Prop:=∀k,inN k ks=true->go M' k=go M k
theorem AgM.refl(ks:List Nat)(M:Mem):AgM ks M M:=fun _ _=>rfl
theorem xh{ks:List Nat}{j k:Nat}(hk:inN k ks=true)(hj:neg (inN j ks)=true):Nat.beq k j=false:=by
 cases h:Nat.beq k j with
 |false=>rfl
 |true=>have:=a0v h;subst this;rw[hk]at hj;cases hj
theorem bzv{ks:List Nat}{k:Nat}{π:cr}(hk:inN k ks=true)(e:Ev)(he:jw ks e=true):(V.ref k π).ev e=.ref k π:=by
 cases e with
 |mv r k'=>simp only[jw,be,a0b]at he;simp only[V.ev,Ev.ref,xh hk he.1,a0j]
 |kl r|cut r o o'|fz r ob=>simp only[jw]at he;simp only[V.ev,Ev.ref,xh hk he,a0j]
 |un r j=>simp only[jw,be,a0b]at he;simp only[V.ev,Ev.ref,xh hk he.1,a0j]
 |tk r o o'|kn r v=>simp only[jw]at he;simp only[V.ev,Ev.ref,xh hk he,a0j]
theorem ccx{ks:List Nat}{k:Nat}{π:cr}(hk:inN k ks=true)(e:Ev)(he:jw ks e=true):(V.ad k π).ev e=.ad k π:=by
 cases e with
 |mv r k'=>simp only[jw,be,a0b]at he;simp only[V.ev,Ev.ad,xh hk he.1,a0j]
 |kl r|cut r o o'|fz r ob=>simp only[jw]at he;simp only[V.ev,Ev.ad,xh hk he,a0j]
 |un r j=>simp only[jw,be,a0b]at he;simp only[V.ev,Ev.ad,xh hk he.1,a0j]
 |tk r o o'|kn r v=>simp only[jw]at he;simp only[V.ev,Ev.ad,xh hk he,a0j]
theorem av6:∀e:List Ev,dv [] e=true
 |[]=>rfl
 |x::e=>by cases x<;>simp[dv,jw,inN,neg,av6 e]
theorem r9{ks:List Nat}:∀{a b:List Ev},dv ks (ap a b)=true->dv ks a=true/\dv ks b=true
 |[],b,h=>⟨rfl,h⟩
 |x::a,b,h=>by simp only[ap,dv,be,a0b]at h⊢;obtain⟨h1,h2⟩:=r9 h.2;exact⟨⟨h.1,h1⟩,h2⟩
theorem AgM.trans{ks:List Nat}{a b c:Mem}(h:AgM ks a b)(g:AgM ks b c):AgM ks a c:=fun k hk=>(h k hk).trans (g k hk)
theorem rq{ks:List Nat}{k:Nat}{M:Mem}(h:neg (inN k ks)=true):AgM ks (del k M) M:=fun j hj=>dx (fun e=>by subst e;rw[hj]at h;cases h) M
theorem aej{ks:List Nat}{k:Nat}{ob:Ob}{M:Mem}(h:neg (inN k ks)=true):AgM ks (put k ob M) M:=fun j hj=>lu ob (fun e=>by subst e;rw[hj]at h;cases h) M
theorem t7{ks:List Nat}:∀(v:V)(M:Mem),dv ks (cu M v).1=true->AgM ks (cu M v).2 M
 |.ref k π,M,h=>by
  simp only[cu]at h⊢;split
  ·rename_i ob hg;rw[hg]at h;simp only[dv,jw,be,a0b]at h;exact rq h.1
  ·exact AgM.refl _ _
 |.ad k π,M,h=>by
  simp only[cu]at h⊢;split
  ·rename_i ob hg;rw[hg]at h;simp only[dv,jw,be,a0b]at h;exact rq h.1
  ·exact AgM.refl _ _
 |.p a b,M,h=>by simp only[cu]at h⊢;obtain⟨h1,h2⟩:=r9 h;exact (t7 b _ h2).trans (t7 a M h1)
 |.ag v,M,h|.fn _ v,M,h|.ifc _ v,M,h|.bx v,M,h|.tup v,M,h|.gd _ _ _ v,M,h=>by simp only[cu]at h⊢;exact t7 v M h
 |.any,M,_|.nl,M,_|.np,M,_|.u,M,_|.d _ _,M,_=>AgM.refl _ _
theorem agj{ks:List Nat}:∀(vs:List V)(M:Mem),dv ks (qa M vs).1=true->AgM ks (qa M vs).2 M
 |[],M,_=>AgM.refl _ _
 |v::r,M,h=>by simp only[qa]at h⊢;obtain⟨h1,h2⟩:=r9 h;exact (agj r _ h2).trans (t7 v M h1)
theorem bmy{ks:List Nat}:∀{l:List Nat},dv ks (klL l)=true->∀k∈l,neg (inN k ks)=true
 |[],_,k,h=>by cases h
 |a::l,h,k,hk=>by
  simp only[klL,dv,jw,be,a0b]at h;rcases a0t.1 hk with e|e
  ·subst e;exact h.1
  ·exact bmy h.2 k e
theorem bbc{ks:List Nat}{N M:Mem}(h:dv ks (klL (ca N))=true):AgM ks (ap N (mn (ca N) M)) M:=fun k hk=>by
 have hn:k∉ca N:=fun hm=>by have:=bmy h k hm;rw[hk]at this;cases this
 have hg:go N k=none:=a29 fun e=>hn (zp.2 e);rw[agh,hg,awo hn]
theorem au2{ks:List Nat}{k:Nat}{W:Wt}{d:Nat}{r:List V}{M:Mem}{vc:List Prop}{v:V}{e:List Ev}{M1:Mem}(h:zv k W d r M=⟨vc,v,e,M1⟩)(hv:ab vc)(he:dv ks e=true):AgM ks M1 M:=by
 unfold zv at h
 cases hb:shp r W.ag with
 |false=>rw[hb]at h;exact (bt h hv).elim
 |true=>
  rw[hb]at h;simp only[a0d]at h;split at h
  ·split at h
   ·(try simp only at h)
    cases hi:inN _ _ with
    |true=>rw[hi]at h;exact (bt h hv).elim
    |false=>rw[hi]at h;simp only[a0j,Rs.mk.injEq]at h;obtain⟨_,_,rfl,rfl⟩:=h;obtain⟨h1,h2⟩:=r9 he;simp only[dv,be,a0b]at h2;exact (bbc h2.2).trans ((aej (by simpa only [jw]using h2.1)).trans (agj _ _ h1))
   ·exact (bt h hv).elim
  ·exact (bt h hv).elim
theorem bmo{ks:List Nat}{W:Wt}{d:Nat}{r:List V}{M:Mem}{vc:List Prop}{v:V}{e:List Ev}{M1:Mem}(h:afu W d r M=⟨vc,v,e,M1⟩)(hv:ab vc)(he:dv ks e=true):AgM ks M1 M:=by
 unfold afu at h;split at h
 ·split at h
  ·cases hb:abw W.o with
   |false=>rw[hb]at h;exact (bt h hv).elim
   |true=>rw[hb]at h;exact au2 h hv he
  ·split at h
   ·cases hb:slO W.o with
    |false=>rw[hb]at h;exact (bt h hv).elim
    |true=>rw[hb]at h;exact au2 h hv he
   ·exact (bt h hv).elim
 ·exact (bt h hv).elim
theorem br1{ks:List Nat}{W:Wc}{r:List V}{M:Mem}{vc:List Prop}{v:V}{e:List Ev}{M1:Mem}(h:az2 W r M=⟨vc,v,e,M1⟩)(hv:ab vc)(he:dv ks e=true):AgM ks M1 M:=by exact (bt h hv).elim
theorem bo1{ks:List Nat}{W:Wu}{d:Nat}{r:List V}{M:Mem}{vc:List Prop}{v:V}{e:List Ev}{M1:Mem}(h:amu W d r M=⟨vc,v,e,M1⟩)(hv:ab vc)(he:dv ks e=true):AgM ks M1 M:=by
 have key:∀(x:W.o.strip.den)(y:db W.as)(e2:List Ev)(M2:Mem),abi W d x y e2 M2=⟨vc,v,e,M1⟩->dv ks e2=true/\AgM ks M1 M2:=fun x y e2 M2 h=>by unfold abi at h;simp only[Rs.mk.injEq]at h;obtain⟨_,_,rfl,rfl⟩:=h;obtain⟨h1,h2⟩:=r9 he;exact⟨h1,bbc h2⟩
 unfold amu at h;split at h
 ·rename_i v0 r hpk
  cases b2:nob (slO W.o) (shp r W.ag)with
  |false=>rw[b2]at h;exact (bt h hv).elim
  |true=>
  rw[b2]at h;simp only[a0d]at h;split at h
  ·split at h
   ·rename_i k' _
    cases hg:Nat.ble (Nat.succ k') gid with
    |false=>rw[hg]at h;exact (bt h hv).elim
    |true=>
    rw[hg]at h;simp only[a0d]at h;split at h
    ·split at h
     ·obtain⟨h1,h2⟩:=key _ _ _ _ h;obtain⟨h3,h4⟩:=r9 h1;simp only[dv,be,a0b]at h4;exact h2.trans ((rq (by simpa only [jw]using h4.1)).trans (agj _ _ h3))
     ·exact (bt h hv).elim
    ·exact (bt h hv).elim
   ·split at h
    ·obtain⟨h1,h2⟩:=key _ _ _ _ h;exact h2.trans (agj _ _ h1)
    ·exact (bt h hv).elim
  ·exact (bt h hv).elim
 ·exact (bt h hv).elim
theorem bk6{ks:List Nat}{M:Mem}:∀(l:List (Nat×O×Ob)),dv ks (ae1 l)=true->AgM ks (anj l M) M
 |[],_=>fun _ _=>rfl
 |q::r,h=>by simp only[ae1,dv,be,a0b]at h;exact (aej (by simpa only [jw]using h.1)).trans (bk6 r h.2)
theorem bt7{ks:List Nat}{O:Orc}{vs:List V}{M:Mem}{vc:List Prop}{v:V}{e:List Ev}{M1:Mem}(h:aor O vs M=⟨vc,v,e,M1⟩)(hv:ab vc)(he:dv ks e=true):AgM ks M1 M:=by
 unfold aor at h;split at h
 ·simp only[Rs.mk.injEq]at h;obtain⟨_,_,rfl,rfl⟩:=h;exact bk6 _ he
 ·exact (bt h hv).elim
theorem bk3{ks:List Nat}{ct:Ct}{d:Nat}{vs:List V}{M:Mem}{vc:List Prop}{v:V}{e:List Ev}{M1:Mem}(h:ab8 ct d vs M=⟨vc,v,e,M1⟩)(hv:ab vc)(he:dv ks e=true):AgM ks M1 M:=by
 unfold ab8 at h;split at h
 ·exact bt7 h hv he
 ·exact bo1 h hv he
 ·exact br1 h hv he
 ·exact (bt h hv).elim
 ·exact bmo h hv he
 ·exact (bt h hv).elim
 ·exact (bt h hv).elim
 ·cases hb:shp _ _ with
  |false=>rw[hb]at h;exact (bt h hv).elim
  |true=>
   rw[hb]at h;simp only[a0d]at h;split at h
   ·split at h
    ·simp only[Rs.mk.injEq]at h;obtain⟨_,_,rfl,rfl⟩:=h;exact bbc he
    ·exact (bt h hv).elim
   ·split at h
    ·simp only[Rs.mk.injEq]at h;obtain⟨_,_,rfl,rfl⟩:=h;obtain⟨h1,h2⟩:=r9 he;exact (bbc h2).trans (agj _ _ h1)
    ·exact (bt h hv).elim
theorem bb1{ks:List Nat}{d:Nat}{ob:Ob}{M1 M:Mem}(h:neg (inN d ks)=true)(g:AgM ks M1 M):AgM ks ((d,ob)::del d M1) M:=fun k hk=>by
 have hne:k≠d:=fun e=>by subst e;rw[hk]at h;cases h
 have hb:Nat.beq d k=false:=by cases q:Nat.beq d k with
  |false=>rfl
  |true=>exact absurd (a0v q).symm hne
 simp only[go,hb,a0j];rw[dx hne];exact g k hk
theorem aom{ks:List Nat}{M M':Mem}{x:V}{ev:List Ev}{t:T}{m:List t.den}(h:ald M x=some (.dat ev M' t m))(he:dv ks ev=true):AgM ks M' M:=by
 unfold ald at h;split at h
 ·cases h
 ·cases h;exact AgM.refl _ _
 ·split at h
  ·cases h
  ·split at h
   ·cases h;simp only[dv,be,a0b,jw]at he;exact rq he.1
   ·cases h;simp only[dv,be,a0b,jw]at he;exact rq he.1
   ·cases h
  ·cases h
 ·cases h
theorem atk{ks:List Nat}{b k j:Nat}{e e':O}{l:List e.strip.den}{m:List e'.strip.den}{ev:List Ev}{M1 M0 M:Mem}{vc:List Prop}{v:V}{e2:List Ev}{M2:Mem}(h:ai9 b k e l j e' m ev M1 M0=⟨vc,v,e2,M2⟩)(hv:ab vc)(he:dv ks e2=true)(g:dv ks ev=true->AgM ks M1 M):AgM ks M2 M:=by
 unfold ai9 at h;split at h
 ·simp only[Rs.mk.injEq]at h;obtain⟨_,_,rfl,rfl⟩:=h;obtain⟨h1,h2⟩:=r9 he;simp only[dv,be,a0b,jw]at h2;exact bb1 h2.2.1 ((rq h2.1).trans (g h1))
 ·split at h
  ·simp only[Rs.mk.injEq]at h;obtain⟨_,_,rfl,rfl⟩:=h;obtain⟨h1,h2⟩:=r9 he;simp only[dv,be,a0b,jw]at h2;exact bb1 h2.2.1 ((rq h2.1).trans (g h1))
  ·exact (bt h hv).elim
theorem aux{ks:List Nat}{b k:Nat}{e:O}{l:List e.strip.den}{t:T}{m:List t.den}{ev:List Ev}{M1 M0 M:Mem}{vc:List Prop}{v:V}{e2:List Ev}{M2:Mem}(h:ajz b k e l t m ev M1 M0=⟨vc,v,e2,M2⟩)(hv:ab vc)(he:dv ks e2=true)(g:dv ks ev=true->AgM ks M1 M):AgM ks M2 M:=by
 unfold ajz at h;split at h
 ·simp only[Rs.mk.injEq]at h;obtain⟨_,_,rfl,rfl⟩:=h;obtain⟨h1,h2⟩:=r9 he;simp only[dv,be,a0b,jw]at h2;exact bb1 h2.1 (g h1)
 ·exact (bt h hv).elim
theorem brh{ks:List Nat}{B:Tab}{dst:Option Nat}{t:TypeId}{s x:V}{M:Mem}{vc:List Prop}{v:V}{e:List Ev}{M1:Mem}(h:air B dst t s x M=⟨vc,v,e,M1⟩)(hv:ab vc)(he:dv ks e=true):AgM ks M1 M:=by
 unfold air at h;split at h
 ·rename_i el d src _ hsrc
  cases hb:cd [(B.τ t).ok,(B.τ el).ok,neg (Nat.beq (B.τ el).bytes 0),B.z el,gb (B.σ el).size (B.τ el).size]with
  |false=>rw[hb]at h;exact (bt h hv).elim
  |true=>
   rw[hb]at h;simp only[a0d]at h;split at h
   ·split at h
    ·cases h;exact AgM.refl _ _
    ·rename_i j e' m
     cases hc:cd [nq j d,gb e'.strip.size (B.τ el).size]with
     |false=>rw[hc]at h;exact (bt h hv).elim
     |true=>rw[hc]at h;simp only[a0d,Rs.mk.injEq]at h;obtain⟨_,_,rfl,rfl⟩:=h;simp only[dv,be,a0b,jw]at he;exact bb1 he.2.1 (rq he.1)
    ·rename_i ev M' t' m
     cases hc:gb t'.size (B.τ el).size with
     |false=>rw[hc]at h;exact (bt h hv).elim
     |true=>rw[hc]at h;simp only[a0d,Rs.mk.injEq]at h;obtain⟨_,_,rfl,rfl⟩:=h;obtain⟨h1,h2⟩:=r9 he;simp only[dv,be,a0b,jw]at h2;exact bb1 h2.1 (aom hsrc h1)
   ·rename_i k π;split at h
    ·rename_i o l _
     cases hc:cd [gb o.strip.size (B.τ el).size,Nat.ble (Nat.succ k) gid]with
     |false=>rw[hc]at h;exact (bt h hv).elim
     |true=>
      rw[hc]at h;simp only[a0d]at h;split at h
      ·cases h;exact AgM.refl _ _
      ·rename_i j e' m
       cases hd:neg (nq j k)with
       |true=>rw[hd]at h;exact (bt h hv).elim
       |false=>rw[hd]at h;refine atk h hv he fun h1=>?_;simp only[dv,be,a0b,jw]at h1;exact rq h1.1
      ·split at h
       ·refine aux h hv he fun h1=>?_;obtain⟨h2,h3⟩:=r9 h1;simp only[dv,be,a0b,jw]at h3;exact (rq h3.1).trans (aom hsrc h2)
       ·exact (bt h hv).elim
    ·rename_i ob _ _;split at h
     ·rename_i o l ob' _ _
      cases hc:cd [gb o.strip.size (B.τ el).size,neg (Nat.beq d k),Nat.ble (Nat.succ k) gid]with
      |false=>rw[hc]at h;exact (bt h hv).elim
      |true=>
       rw[hc]at h;simp only[a0d]at h;split at h
       ·cases h;exact AgM.refl _ _
       ·rename_i j e' m
        cases hd:cd [nq j k,nq j d]with
        |false=>rw[hd]at h;exact (bt h hv).elim
        |true=>rw[hd]at h;refine atk h hv he fun h1=>?_;simp only[dv,be,a0b,jw]at h1;exact aej h1.1
       ·split at h
        ·refine aux h hv he fun h1=>?_;obtain⟨h2,h3⟩:=r9 h1;simp only[dv,be,a0b,jw]at h3;exact (aej h3.1).trans (aom hsrc h2)
        ·exact (bt h hv).elim
     ·split at h
      ·rename_i o l _ _ _ ob' _
       cases hc:cd [gb o.strip.size (B.τ el).size,neg (Nat.beq d k),Nat.ble (Nat.succ k) gid]with
       |false=>rw[hc]at h;exact (bt h hv).elim
       |true=>
        rw[hc]at h;simp only[a0d]at h;split at h
        ·exact (bt h hv).elim
        ·rename_i j e' m
         cases hd:cd [nq j k,nq j d]with
         |false=>rw[hd]at h;exact (bt h hv).elim
         |true=>rw[hd]at h;refine atk h hv he fun h1=>?_;simp only[dv,be,a0b,jw]at h1;exact aej h1.1
        ·split at h
         ·refine aux h hv he fun h1=>?_;obtain⟨h2,h3⟩:=r9 h1;simp only[dv,be,a0b,jw]at h3;exact (aej h3.1).trans (aom hsrc h2)
         ·exact (bt h hv).elim
      ·exact (bt h hv).elim
     ·exact (bt h hv).elim
    ·exact (bt h hv).elim
   ·exact (bt h hv).elim
 ·exact (bt h hv).elim
theorem bgy{ks:List Nat}{k r:Nat}{ρ:cr}{M:Mem}{q:Ob}{e:List Ev}{M':Mem}(h:ac4 k r ρ M=some (q,e,M'))(he:dv ks e=true):AgM ks M' M:=by
 unfold ac4 at h
 cases hb:neg (nq r k)with
 |true=>rw[hb]at h;cases h
 |false=>
  rw[hb]at h;simp only[a0j]at h;split at h
  ·split at h
   ·split at h
    ·cases h;simp only[dv,be,a0b,jw]at he;exact rq he.1
    ·cases hi:agp ρ with
     |true=>rw[hi]at h;simp only[a0d,a0e,a0n]at h;obtain⟨_,rfl,rfl⟩:=h;simp only[dv,be,a0b,jw]at he;exact rq he.1
     |false=>
      rw[hi]at h;simp only[a0j]at h;split at h
      ·simp only[a0e,a0n]at h;obtain⟨_,rfl,rfl⟩:=h;simp only[dv,be,a0b,jw]at he;exact aej he.1
      ·cases h
   ·cases h
  ·cases h
theorem bk5{ks:List Nat}{k r:Nat}{ρ:cr}{M:Mem}{q:Ob}{e:List Ev}{M':Mem}(h:auj k r ρ M=some (q,e,M'))(he:dv ks e=true):AgM ks M' M:=by
 unfold auj at h
 cases hb:neg (nq r k)with
 |true=>rw[hb]at h;cases h
 |false=>
  rw[hb]at h;simp only[a0j]at h;split at h
  ·cases h;simp only[dv,be,a0b,jw]at he;exact rq he.1
  ·split at h
   ·cases h;simp only[dv,be,a0b,jw]at he;exact rq he.1
   ·cases h
  ·cases h
theorem qi{ks:List Nat}{k:Nat}{t:T}{v:V}{M:Mem}{q:Ob}{e:List Ev}{M':Mem}(ht:∀a b,t=.p a b->∀x y,v≠.p x y)(h:conv k t v M=some (q,e,M'))(he:dv ks e=true):AgM ks M' M:=by
 cases v with
 |p a b=>cases t with
  |p t s=>exact absurd rfl (ht _ _ rfl _ _)
  |_=>simp[conv]at h
 |u|d _ _|nl|np=>cases t<;>simp only[conv]at h<;>cases h<;>exact AgM.refl _ _
 |fn f v=>cases v<;>cases t<;>simp only[conv]at h<;>cases h<;>exact AgM.refl _ _
 |ref r ρ=>cases t<;>simp only[conv]at h<;>exact bgy h he
 |ad r ρ=>cases t<;>simp only[conv]at h<;>exact bk5 h he
 |_=>cases t<;>simp only[conv]at h<;>cases h
theorem ak6{ks:List Nat}{k:Nat}:(t:T)->(v:V)->(M:Mem)->(q:Ob)->(e:List Ev)->(M':Mem)->conv k t v M=some (q,e,M')->dv ks e=true->AgM ks M' M
 |.p t s,v,M,q,e,M',h,he=>by
  by_cases hv:∃x y,v=.p x y
  ·obtain⟨x,y,rfl⟩:=hv;simp only[conv]at h;split at h
   ·rename_i q1 e1 M1 h1;split at h
    ·rename_i q2 e2 M2 h2;cases h;obtain⟨g1,g2⟩:=r9 he;exact (ak6 s _ _ _ _ _ h2 g2).trans (ak6 t _ _ _ _ _ h1 g1)
    ·cases h
   ·cases h
  ·exact qi (fun _ _ _ x y e=>hv ⟨x,y,e⟩) h he
 |.int _,_,_,_,_,_,h,he|.bool,_,_,_,_,_,h,he|.str,_,_,_,_,_,h,he|.u,_,_,_,_,_,h,he|.sl _,_,_,_,_,_,h,he|.pt _,_,_,_,_,_,h,he|.fn _ _,_,_,_,_,_,h,he|.ifc _ _,_,_,_,_,_,h,he|.ib _ _,_,_,_,_,_,h,he|.mp _ _,_,_,_,_,_,h,he|.op _,_,_,_,_,_,h,he|.ns _,_,_,_,_,_,h,he|.er _,_,_,_,_,_,h,he|.any,_,_,_,_,_,h,he=>qi (fun _ _ e=>by cases e) h he
termination_by t=>SizeOf.sizeOf t
theorem atp{ks:List Nat}{k:Nat}{o:O}{v:V}{M:Mem}{x:o.strip.den}{e:List Ev}{M':Mem}(h:aha k o v M=some (x,e,M'))(he:dv ks e=true):AgM ks M' M:=by
 unfold aha at h;split at h
 ·generalize hz:cu M v=z at h;obtain⟨e1,M1⟩:=z;simp only at h;split at h
  ·cases h;have:=t7 (ks:=ks) v M (by rw[hz];exact he);rw[hz]at this;exact this
  ·cases h
 ·split at h
  ·rename_i q e1 M1 h1;split at h
   ·cases h;exact ak6 _ _ _ _ _ _ h1 he
   ·cases h
  ·cases h
theorem axl{ks:List Nat}{k:Nat}{o:O}{v:V}{M:Mem}{x:o.strip.den}{e:List Ev}{M':Mem}(h:alj k o v M=some (x,e,M'))(he:dv ks e=true):AgM ks M' M:=by
 unfold alj at h;split at h
 ·split at h
  ·rename_i h1;cases h;exact atp h1 he
  ·cases h
 ·exact atp h he
theorem akf{ks:List Nat}{k:Nat}{o:O}:∀(vs:List V)(ev:List Ev)(M:Mem)(l:List o.strip.den)(e:List Ev)(M':Mem),rg k o ev vs M=some (l,e,M')->dv ks e=true->AgM ks M' M/\dv ks ev=true
 |[],ev,M,l,e,M',h,he=>by simp only[rg]at h;cases h;exact⟨AgM.refl _ _,he⟩
 |v::r,ev,M,l,e,M',h,he=>by
  simp only[rg]at h;split at h
  ·rename_i x e1 M1 h1;split at h
   ·rename_i l2 e2 M2 h2;cases h;obtain⟨g1,g2⟩:=akf r _ _ _ _ _ h2 he;obtain⟨g3,g4⟩:=r9 g2;exact⟨g1.trans (axl h1 g4),g3⟩
   ·cases h
  ·cases h
theorem bfi{ks:List Nat}{d:Nat}{ob:Ob}{M1 M:Mem}(h:neg (inN d ks)=true)(g:AgM ks M1 M):AgM ks ((d,ob)::M1) M:=fun k hk=>by
 have hne:k≠d:=fun e=>by subst e;rw[hk]at h;cases h
 have hb:Nat.beq d k=false:=by cases q:Nat.beq d k with
  |false=>rfl
  |true=>exact absurd (a0v q).symm hne
 simp only[go,hb,a0j];exact g k hk
theorem btg{ks:List Nat}{B:Tab}{t:TypeId}{n:Nat}{ps:List (Nat×Operand)}{f:Operand->V}{d:Option Nat}{M:Mem}{vc:List Prop}{v:V}{e:List Ev}{M1:Mem}(h:aet B t n ps f d M=⟨vc,v,e,M1⟩)(hv:ab vc)(he:dv ks e=true):AgM ks M1 M:=by
 unfold aet at h;split at h
 ·rename_i k el _;split at h
  ·cases hb:cd [(B.τ t).ok,(B.τ el).ok,B.z el,Nat.ble (Nat.mul n (B.τ el).size) 16777216,Nat.ble n nb,gb (B.σ el).size (B.τ el).size]with
   |false=>rw[hb]at h;exact (bt h hv).elim
   |true=>
    rw[hb]at h;simp only[a0d]at h;split at h
    ·cases h;exact AgM.refl _ _
    ·split at h
     ·split at h
      ·rename_i hc;cases h;simp only[dv,be,a0b,jw]at he;exact bfi he.1 ((akf _ _ _ _ _ _ hc he.2).1.trans (rq he.1))
      ·split at h
       ·rename_i hc;cases h;simp only[dv,be,a0b,jw]at he;exact bfi he.1 ((akf _ _ _ _ _ _ hc he.2).1.trans (rq he.1))
       ·exact (bt h hv).elim
     ·exact (bt h hv).elim
  ·exact (bt h hv).elim
 ·exact (bt h hv).elim
theorem bmg{ks:List Nat}{b:Bool}{k:Nat}{t:T}{v:V}{M:Mem}{q:Ob}{e:List Ev}{M1:Mem}(h:alg b k t v M=some (q,e,M1))(he:dv ks e=true):AgM ks M1 M:=by
 unfold alg at h;split at h
 ·rename_i r ht;cases h
  cases b with
  |false=>cases ht
  |true=>
   simp only[a0d]at ht;unfold azu at ht;split at ht
   ·rename_i r i
    cases hb:neg (nq r k)with
    |true=>rw[hb]at ht;cases ht
    |false=>
     rw[hb]at ht;simp only[a0j]at ht;split at ht
     ·cases ht;simp only[dv,be,a0b,jw]at he;exact rq he.1
     ·cases ht
   ·cases ht
 ·exact ak6 _ _ _ _ _ _ h he
theorem bwj{ks:List Nat}{B:Tab}{t:TypeId}{x y:V}{M:Mem}{vc:List Prop}{v:V}{e:List Ev}{M1:Mem}(h:uq B t x y M=⟨vc,v,e,M1⟩)(hv:ab vc)(he:dv ks e=true):AgM ks M1 M:=by
 unfold uq at h;split at h
 ·rename_i k π;split at h
  ·rename_i ob q _ _
   cases hb:cd [(B.τ t).ok,kx M y.cells (B.τ t).size,gb q.o.strip.size (B.τ t).size,neg (isZ (B.τ t).size)]with
   |false=>rw[hb]at h;exact (bt h hv).elim
   |true=>
    rw[hb]at h;simp only[a0d]at h;split at h
    ·rename_i z e1 M' hc
     have fr:dv ks e1=true->AgM ks M' M:=fun g=>by
      cases hi:agp π with
      |true=>
       rw[hi]at hc;simp only[a0d]at hc;split at hc
       ·rename_i hw;cases hc;exact axl hw g
       ·cases hc
      |false=>rw[hi]at hc;simp only[a0j]at hc;exact bmg hc g
     split at h
     ·cases hs:gb z.o.strip.size (B.τ t).size with
      |false=>rw[hs]at h;exact (bt h hv).elim
      |true=>
       rw[hs]at h;simp only[a0d]at h;split at h
       ·cases h;obtain⟨g1,g2⟩:=r9 he;simp only[dv,jw,be,a0b]at g2;exact (aej g2.1).trans (fr g1)
       ·cases h;obtain⟨g1,g2⟩:=r9 he;simp only[dv,jw,be,a0b]at g2;exact (aej g2.1).trans (fr g1)
     ·exact (bt h hv).elim
    ·exact (bt h hv).elim
  ·exact (bt h hv).elim
 ·exact (bt h hv).elim
theorem ccl{x y:V}{M:Mem}{r:Rs}:(aa7 x y M r).vc=r.vc:=by
 unfold aa7;split
 ·split
  ·rename_i a b _ _ _ _ _ _ _;generalize nob (Nat.blt _ gid) _=bb;cases bb<;>rfl
  ·rfl
 ·rfl
theorem bth{ks:List Nat}{x y:V}{M:Mem}{r:Rs}(g:dv ks r.ev=true->AgM ks r.M M):dv ks (aa7 x y M r).ev=true->AgM ks (aa7 x y M r).M M:=by
 unfold aa7;split
 ·split
  ·generalize nob (Nat.blt _ gid) _=bb
   cases bb with
   |true=>simp only[a0d];intro he;obtain⟨g1,g2⟩:=r9 he;simp only[dv,jw,be,a0b]at g2;exact bfi g2.1.2 ((rq g2.1.1).trans (g g1))
   |false=>simp only[a0j];exact g
  ·exact g
 ·exact g
theorem bts{ks:List Nat}{t:TypeId}{x y:V}{M:Mem}(hv:ab (aiv B t x y M).vc):dv ks (aiv B t x y M).ev=true->AgM ks (aiv B t x y M).M M:=by
 unfold aiv at hv⊢
 cases hk:axv (B.τ t) x y M with
 |none=>simp only[hk,ccl]at hv⊢;exact bth (fun g=>bwj rfl hv g)
 |some r=>
  simp only;intro he;unfold axv at hk;split at hk
  ·rename_i k f v1 v2
   cases hha:agd (.p v1 v2)with
   |false=>rw[hha]at hk;cases hk
   |true=>
   rw[hha]at hk;simp only[a0d]at hk;unfold bq2 at hk;split at hk
   ·generalize cd [(B.τ t).ok,gb (B.τ t).size 1,Nat.ble (Nat.succ k) gid]=b at hk
    cases b with
    |false=>cases hk
    |true=>simp only[a0d,a0e]at hk;subst hk;simp only[dv,jw,be,a0b]at he;exact (rq he.1).trans (aej he.1)
   ·cases hk
  ·cases hk
theorem brx{ks:List Nat}{o:Oper}{env:Env}{M M1:Mem}{vc:List Prop}{v:V}{e:List Ev}(hc:bks o=true)(h:evR B Φ o env M=⟨vc,v,e,M1⟩)(hv:ab vc)(he:dv ks e=true):AgM ks M1 M:=by
 unfold bks at hc;split at hc
 ·rename_i t x y hop;unfold evR at h;rw[hop]at h;simp only[Rs.mk.injEq]at h;obtain⟨rfl,rfl,rfl,rfl⟩:=h;have hv2:=ge hv;simp only[dz,hop]at hv2 he⊢;exact bts hv2 he
 ·cases hc
theorem bq9{ks:List Nat}{o:Oper}{env:Env}{M M1:Mem}{vc:List Prop}{v:V}{e:List Ev}(hc:bay o=true)(h:evR B Φ o env M=⟨vc,v,e,M1⟩)(hv:ab vc)(he:dv ks e=true):AgM ks M1 M:=by
 unfold bay at hc;split at hc
 ·rename_i c hop;split at hc
  ·rename_i cx hcal
   have key:∀q:Rs,dz B Φ o (fun x=>(rd env x).strip) M=q->ab q.vc->dv ks q.ev=true->AgM ks q.M M:=fun q hq hv he=>by
    obtain⟨vc,v,e,M1⟩:=q;simp only[dz,hop,hcal]at hq;split at hq
    ·split at hq
     ·exact bk3 hq hv he
     ·exact (bt hq hv).elim
    ·exact (bt hq hv).elim
   unfold evR at h;rw[hop]at h;simp only[Rs.mk.injEq]at h;obtain⟨rfl,rfl,rfl,rfl⟩:=h;exact key _ rfl (ge hv) he
  ·rename_i hcal
   have key:∀q:Rs,dz B Φ o (fun x=>(rd env x).strip) M=q->ab q.vc->dv ks q.ev=true->AgM ks q.M M:=fun q hq hv he=>by
    obtain⟨vc,v,e,M1⟩:=q;simp only[dz,hop,hcal]at hq;split at hq
    ·rename_i t t' _ _
     cases hb:Nat.beq t t' with
     |false=>rw[hb]at hq;exact (bt hq hv).elim
     |true=>rw[hb]at hq;exact brh hq hv he
    ·exact (bt hq hv).elim
   unfold evR at h;rw[hop]at h;simp only[Rs.mk.injEq]at h;obtain⟨rfl,rfl,rfl,rfl⟩:=h;exact key _ rfl (ge hv) he
  ·cases hc
 ·rename_i t n ps hop;unfold evR at h;rw[hop]at h;simp only[Rs.mk.injEq]at h;obtain⟨rfl,rfl,rfl,rfl⟩:=h;have key:∀q:Rs,dz B Φ o (fun x=>(rd env x).strip) M=q->ab q.vc->dv ks q.ev=true->AgM ks q.M M:=fun q hq hv he=>by obtain⟨vc,v,e,M1⟩:=q;simp only[dz,hop]at hq;exact btg hq hv he
  exact key _ rfl (ge hv) he
 ·rename_i hop;unfold evR at h;rw[hop]at h;simp only[Rs.mk.injEq]at h;obtain⟨rfl,rfl,rfl,rfl⟩:=h;simp only[dz,hop,dh];exact AgM.refl ks M
 ·rename_i hop;unfold evR at h;rw[hop]at h;simp only[Rs.mk.injEq]at h;obtain⟨rfl,rfl,rfl,rfl⟩:=h;simp only[dz,hop,dh];exact AgM.refl ks M
 ·rename_i hop;unfold evR at h;rw[hop]at h;simp only[Rs.mk.injEq]at h;obtain⟨rfl,rfl,rfl,rfl⟩:=h;simp only[dz,hop,dh];exact AgM.refl ks M
 ·cases hc
theorem asa{ks:List Nat}{M' M0:Mem}(hM:∀k,inN k ks=true->go M0 k≠none->go M' k=go M0 k):∀v:V,ksV ks v=true->af4 M0 v=true->agV M' M0 v
 |.d _ _,_,_|.nl,_,_|.np,_,_|.u,_,_=>trivial
 |.p a b,h,g=>by simp only[ksV,af4,be,a0b]at h g;exact⟨asa hM a h.1 g.1,asa hM b h.2 g.2⟩
 |.ag v,h,g|.fn f v,h,g|.bx v,h,g=>asa hM v h g
 |.ref k π,h,g=>by
  have hn:go M0 k≠none:=fun e=>by simp[af4,e,isN,neg]at g
  exact⟨hM k h hn,hn⟩
 |.ad k π,h,g=>by
  have hn:go M0 k≠none:=fun e=>by simp[af4,e,isN,neg]at g
  exact⟨hM k h hn,hn⟩
 |.any,h,_|.tup _,h,_|.gd _ _ _ _,h,_|.ifc _ _,h,_=>by cases h
theorem ap4{ks:List Nat}(e:Ev)(he:jw ks e=true):∀v:V,ksV ks v=true->v.ev e=v
 |.d _ _,_|.nl,_|.np,_|.u,_=>rfl
 |.p a b,h=>by simp only[ksV,be,a0b]at h;simp only[V.ev,ap4 e he a h.1,ap4 e he b h.2]
 |.ag v,h|.fn f v,h|.bx v,h=>by simp only[V.ev,ap4 e he v h]
 |.ref k π,h=>bzv h e he
 |.ad k π,h=>ccx h e he
 |.any,h|.tup _,h|.gd _ _ _ _,h|.ifc _ _,h=>by cases h
theorem az5{ks:List Nat}:∀(e:List Ev),dv ks e=true->∀v:V,ksV ks v=true->v.evs e=v
 |[],_,_,_=>rfl
 |x::e,he,v,hv=>by simp only[dv,be,a0b]at he;simp only[V.evs,ap4 x he.1 v hv];exact az5 e he.2 v hv
theorem ao4{ks:List Nat}{env:Env}:∀{l:List Operand},w7 ks env l=true->∀x∈l,ksV ks (rd env x)=true
 |[],_,x,hx=>by cases hx
 |a::l,h,x,hx=>by
  simp only[w7,be,a0b]at h;rcases a0t.1 hx with e|e
  ·subst e;exact h.1
  ·exact ao4 h.2 x e
theorem arz{ks:List Nat}{env env':Env}:∀{l:List Operand},(∀x∈l,rd env x=rd env' x)->w7 ks env l=w7 ks env' l
 |[],_=>rfl
 |a::l,h=>by have h1:w7 ks env l=w7 ks env' l:=arz fun x hx=>h x (a1k _ hx);simp only[w7,h a (a1t ..),h1]
def FlI(B:Tab)(Φ:FuncId->Option Ct)(ks as:List Nat)(x:Oper)(env:Env)(M:Mem)(y:V):Prop:=
 (∃t0,(x.op=.move (.tmp t0)\/x.op=.assign (.tmp t0))/\uy (gt env t0)=false/\gt env t0=y)\/(∃t0 k v,x.op=.extract (.tmp t0) k/\gt env t0=.tup v/\nth v k=some y)\/
 (ww x.op=true/\w7 ks env (cy x.op)=true/\ksV ks y=true/\∃vc,ab vc/\∀M',AgM ks M' M->evR B Φ x env M'=⟨vc,y,[],M'⟩)\/
 (∃t t0 k,x.op=.load t (.tmp t0)/\gt env t0=.bx (.ad k [.de])/\y=.ad k [.de]/\inN k as=true/\bo5 (B.τ t)=true)
theorem caj(e:Ev)(v:V)(h:uy v=false):uy (v.ev e)=false:=by
 cases v with
 |ref k π=>simp only[V.ev];exact bl9 k π e
 |ad k π=>simp only[V.ev];exact bnf k π e
 |gd _ _ _ _=>cases h
 |_=>rfl
theorem blw:∀(e:List Ev)(v:V),uy v=false->uy (v.evs e)=false
 |[],_,h=>h
 |x::e,v,h=>by simp only[V.evs];exact blw e _ (caj x v h)
theorem brv(e:Ev):∀(v:V)(k:Nat)(y:V),nth v k=some y->nth (v.ev e) k=some (y.ev e)
 |.p a b,0,y,h=>by simp only[nth,a0e]at h;subst h;rfl
 |.p a b,k+1,y,h=>by simp only[nth]at h;simp only[V.ev,nth];exact brv e b k y h
 |.any,_,_,h|.nl,_,_,h|.np,_,_,h|.u,_,_,h|.d _ _,_,_,h|.ref _ _,_,_,h|.ad _ _,_,_,h|.ag _,_,_,h|.tup _,_,_,h|.gd _ _ _ _,_,_,h|.fn _ _,_,_,h|.ifc _ _,_,_,h|.bx _,_,_,h=>by simp[nth]at h
theorem boe:∀(e:List Ev)(v:V)(k:Nat)(y:V),nth v k=some y->nth (v.evs e) k=some (y.evs e)
 |[],_,_,_,h=>h
 |x::e,v,k,y,h=>by simp only[V.evs];exact boe e _ k _ (brv x v k y h)
theorem boo:∀(e:List Ev)(v:V),(V.tup v).evs e=.tup (v.evs e)
 |[],_=>rfl
 |x::e,v=>by simp only[V.evs,V.ev];exact boo e _
theorem caa{as:List Nat}{k:Nat}(hk:inN k as=true)(x:Ev)(h:ai5 as x=true):(V.ad k [.de]).ev x=.ad k [.de]:=by
 have ne:∀{j:Nat},neg (inN j as)=true->Nat.beq k j=false:=fun {j} hj=>by
  cases hb:Nat.beq k j with
  |false=>rfl
  |true=>have:=a0v hb;subst this;rw[hk]at hj;cases hj
 cases x with
 |kl r|fz r ob|mv r k'|un r k'|kn r k'=>simp only[ai5]at h;simp only[V.ev,Ev.ad,ne h,a0j]
 |tk r o o'=>
  simp only[ai5,lq,a09]at h;simp only[V.ev,Ev.ad];rcases h with h|h
  ·rw[ne h];rfl
  ·rw[h];cases Nat.beq k r<;>rfl
 |cut r o o'=>
  simp only[ai5,lq,a09]at h;simp only[V.ev,Ev.ad];rcases h with h|h
  ·rw[ne h];rfl
  ·rw[h];cases Nat.beq k r<;>rfl
theorem axu{as:List Nat}{k:Nat}(hk:inN k as=true):∀e:List Ev,art as e=true->(V.ad k [.de]).evs e=.ad k [.de]
 |[],_=>rfl
 |x::e,h=>by simp only[art,be,a0b]at h;simp only[V.evs,caa hk x h.1];exact axu hk e h.2
theorem bsp:∀(e:List Ev)(v:V),(V.bx v).evs e=.bx (v.evs e)
 |[],_=>rfl
 |x::e,v=>by simp only[V.evs,V.ev];exact bsp e _
theorem FlI.look{ks as:List Nat}{x:Oper}{env:Env}{M M1:Mem}{y:V}(h:FlI B Φ ks as x env M y){env':Env}{e:List Ev}(hkp:art as e=true)(hd:ww x.op=true->(dv ks e=true/\AgM ks M1 M)\/(ao5 M1 x.op env'=true/\w7 ks env' (cy x.op)=true/\ksV ks (y.evs e)=true/\evR B Φ x env' M1=⟨[],y.evs e,[],M1⟩))(he:∀t0,Operand.tmp t0∈x.op.operands->gt env' t0=(gt env t0).evs e):FlI B Φ ks as x env' M1 (y.evs e):=by
 rcases h with⟨t0,ho,hg,rfl⟩|⟨t0,k,v,ho,hv,hn⟩|⟨h1,h2,h3,vc,h4,h5⟩|⟨t,t0,k,ho,hv,rfl,hk,hb⟩;rotate_left 3
 ·have he:=he t0 (by simp[ho,Op.operands]);refine .inr (.inr (.inr ⟨t,t0,k,ho,by rw[he,hv,bsp,axu hk e hkp],axu hk e hkp,hk,hb⟩))
 ·have he:=he t0 (by rcases ho with ho|ho<;>simp[ho,Op.operands]);exact .inl ⟨t0,ho,by rw[he];exact blw e _ hg,he⟩
 ·have he:=he t0 (by simp[ho,Op.operands]);exact .inr (.inl ⟨t0,k,v.evs e,ho,by rw[he,hv,boo],boe e v k y hn⟩)
 ·rcases hd h1 with⟨hd1,hd2⟩|⟨g1,g2,g3,g4⟩;rotate_left
  ·refine .inr (.inr (.inl ⟨h1,g2,g3,[],trivial,fun M' hM=>?_⟩));rw[blz (M:=M') g1 (fun hlv q hq=>asa (ks:=ks) (fun k hk _=>hM k hk) _ (ao4 g2 _ hq) (aln hlv _ hq)) g4 trivial rfl];rfl
  have hr:∀q∈x.op.operands,rd env' q=rd env q:=fun q hq=>by
   cases q with
   |tmp t=>have hkq:=ao4 h2 _ (bt2 h1 _ hq);simp only[rd]at hkq⊢;rw[he t hq,az5 e hd1 _ hkq]
   |const c|global g|func f=>rfl
  refine .inr (.inr (.inl ⟨h1,?_,by rw[az5 e hd1 y h3];exact h3,vc,h4,fun M' hM=>?_⟩))
  ·rw[arz fun q hq=>hr q (am8 x q hq)];exact h2
  ·rw[ack x hr,h5 M' fun k hk=>(hM k hk).trans (hd2 k hk),az5 e hd1 y h3]
theorem FlI.same{ks as:List Nat}{x:Oper}{env:Env}{M:Mem}{y:V}(h:FlI B Φ ks as x env M y){env':Env}(he:∀t0,Operand.tmp t0∈x.op.operands->gt env' t0=gt env t0):FlI B Φ ks as x env' M y:=by
 have hr:∀q∈x.op.operands,rd env' q=rd env q:=fun q hq=>by
  cases q with
  |tmp t=>exact he t hq
  |const c|global g|func f=>rfl
 rcases h with⟨t0,ho,hg,hy⟩|⟨t0,k,v,ho,hv,hn⟩|⟨h1,h2,h3,vc,h4,h5⟩|⟨t,t0,k,ho,hv,hy,hk,hb⟩
 ·have he:=he t0 (by rcases ho with ho|ho<;>simp[ho,Op.operands]);exact .inl ⟨t0,ho,by rw[he];exact hg,by rw[he];exact hy⟩
 ·have he:=he t0 (by simp[ho,Op.operands]);exact .inr (.inl ⟨t0,k,v,ho,by rw[he];exact hv,hn⟩)
 ·refine .inr (.inr (.inl ⟨h1,?_,h3,vc,h4,fun M' hM=>?_⟩))
  ·rw[arz fun q hq=>hr q (am8 x q hq)];exact h2
  ·rw[ack x hr];exact h5 M' hM
 ·have he:=he t0 (by simp[ho,Op.operands]);exact .inr (.inr (.inr ⟨t,t0,k,ho,by rw[he];exact hv,hy,hk,hb⟩))
theorem FlI.run{ks as:List Nat}{x:Oper}{env:Env}{y:V}{M:Mem}(h:FlI B Φ ks as x env M y):∃vc,ab vc/\evR B Φ x env M=⟨vc,y,[],M⟩:=by
 have ns:∀v:V,uy v=false->v.strip=v:=fun v hv=>by cases v<;>first|rfl|cases hv
 have nn:∀t,uy (gt env t)=false->pi (rd env) [.tmp t]=[]:=fun t ht=>by
  simp only[pi,rd];split
  ·rename_i e;rw[e]at ht;cases ht
  ·rfl
 rcases h with⟨t0,ho,hg,rfl⟩|⟨t0,k,v,ho,hv,hn⟩|⟨h1,h2,h3,vc,h4,h5⟩|⟨t,t0,k,ho,hv,rfl,hk,hb⟩;rotate_left 3
 ·have hg:uy (gt env t0)=false:=by rw[hv];rfl
  have hs:(V.bx (.ad k [.de])).strip=.bx (.ad k [.de]):=rfl;simp only[bo5,br,bz,a0o,a0b,iz,a0r,qu,a1z]at hb;refine⟨[],trivial,?_⟩;simp only[evR,ho,dz,cy,nn t0 hg,ap,rd,hv,hs,ul,ape,dh,za,hb.1,hb.2.1,hb.2.2,kx,V.size,age,du,br,bz,a0o,iz,a38,lq,a4b,a2n,a0d,a0j]
 ·refine⟨[],trivial,?_⟩;rcases ho with ho|ho<;>simp only[evR,ho,dz,dh,cy,nn t0 hg,ap,rd,ns _ hg]
 ·have hg:uy (gt env t0)=false:=by rw[hv];rfl
  have hs:(V.tup v).strip=.tup v:=rfl;refine⟨[],trivial,?_⟩;simp only[evR,ho,dz,dh,cy,nn t0 hg,ap,rd,hv,hs,awg,hn,du]
 ·exact⟨vc,h4,h5 M (AgM.refl ks M)⟩
theorem FlI.of{ks as:List Nat}{x:Oper}{env:Env}{M M' M1:Mem}{vc:List Prop}{v:V}{e:List Ev}(hx:bcr x.op=true)(hn:∀t,uy (gt env t)=false)(h:evR B Φ x env M=⟨vc,v,e,M'⟩)(hv:ab vc):FlI B Φ ks as x env M1 v:=by
 have ns:∀v:V,uy v=false->v.strip=v:=fun v hv=>by cases v<;>first|rfl|cases hv
 unfold bcr at hx;split at hx
 ·rename_i t0 ho;simp only[evR,ho,dz,dh,rd,ns _ (hn t0),Rs.mk.injEq]at h;exact .inl ⟨t0,.inl ho,hn t0,h.2.1⟩
 ·rename_i t0 ho;simp only[evR,ho,dz,dh,rd,ns _ (hn t0),Rs.mk.injEq]at h;exact .inl ⟨t0,.inr ho,hn t0,h.2.1⟩
 ·rename_i t0 k ho;simp only[evR,ho,dz,dh,rd,ns _ (hn t0),Rs.mk.injEq]at h;obtain⟨h1,h2,_⟩:=h;rw[←h1]at hv;have hv:=ge hv;unfold awg at hv h2;split at hv
  ·rename_i w hw;split at hv
   ·rename_i y hy;rw[hw]at h2;simp only[hy,du]at h2;exact .inr (.inl ⟨t0,k,w,ho,hw,by rw[←h2];exact hy⟩)
   ·exact absurd hv (by simp[bad,ab])
  ·exact absurd hv (by simp[bad,ab])
 ·cases hx
section
variable {F:Fr} {all:Array Oper} {m:Nat} {E:Nat->Env} {X N:Nat->Mem} {M0:Mem} {D R:Bool} {Ds:List Bool} {ks as:List Nat}
structure Hctx (D R:Bool) (Ds:List Bool) (ks as:List Nat) (B:Tab) (Φ:FuncId->Option Ct) (all:Array Oper) (m:Nat) (E:Nat->Env) (X N:Nat->Mem) (M0:Mem):Prop where
 hb:aam 0 all.toList=true
 hm:m<=all.size
 ht:bqx D R all (ij [] all.toList) m=true
 hf:bqp all (ij [] all.toList) m=true
 hdr:ajv all (ij [] all.toList) m=true
 hE:∀(j:Nat)(o:Oper),all[j]? = some o->j<m->∃d v vc ev,Hst (Ds.getD j false) ks as B Φ M0 o (E j) (E (j+1)) (N j) (X j) (X (j+1)) d v vc ev
 hX:X 0=[]
 h0:∀t,xv (gt (E 0) t)=true
 hR:R=false->ks=[]
 hD:D=true->∀i,i<m->vm all.size (ij [] all.toList) m i=true->Ds.getD i false=true
structure Hsta (all:Array Oper) (m:Nat) (E:Nat->Env) (N:Nat->Mem) (M0:Mem) (listed:Array Bool) (env:Env) (M:Mem):Prop where
 a:∀t,(∀(i:Nat)(o:Oper),all[i]? = some o->isL listed i->o.dst≠some t)->gt env t=gt (E 0) t
 b:∀(i:Nat)(o:Oper)(t:Nat),all[i]? = some o->isL listed i->o.dst=some t->gt env t=gt (E (i+1)) t
 c:∀k,(∀(i:Nat),i<all.size->isL listed i->k∉ca (N i))->go M k=go M0 k
 d:∀(i:Nat)(k:Nat),i<all.size->isL listed i->k∈ca (N i)->go M k=go (N i) k
theorem Hctx.get(C:Hctx D R Ds ks as B Φ all m E X N M0){i:Nat}(h:i<m):all[i]? = some (all[i]'(a1a h C.hm)):=a3g _
theorem Hctx.xs(C:Hctx D R Ds ks as B Φ all m E X N M0):∀(j:Nat),j<=m->∀k,(∀i,i<j->k∈ca (N i)->go (X j) k=go (N i) k/\∀i',i'<j->k∈ca (N i')->i'=i)/\((∀i,i<j->k∉ca (N i))->go (X j) k=none)
 |0,_,k=>⟨fun i h=>by omega,fun _=>by rw[C.hX];rfl⟩
 |j+1,hj,k=>by
  obtain⟨d,v,vc,ev,H⟩:=C.hE j _ (C.get (by omega)) (by omega);obtain⟨h1,h2⟩:=C.xs j (by omega) k;rw[H.x,agh];by_cases hkj:k∈ca (N j)
  ·have hn:=ah7 H.nX k hkj;have none_old:∀i,i<j->k∉ca (N i):=fun i hi hk=>by have:=(h1 i hi hk).1;rw[hn]at this;exact zp.1 hk this.symm
   obtain⟨ob,hob⟩:∃ob,go (N j) k=some ob:=by
    cases hg:go (N j) k with
    |none=>exact absurd hg (zp.1 hkj)
    |some ob=>exact⟨ob,rfl⟩
   refine⟨fun i hi hk=>?_,fun h=>absurd hkj (h j (by omega))⟩
   have hij:i=j:=by
    rcases a15 i j with h|h
    ·exact absurd hk (none_old i h)
    ·omega
   subst hij;rw[hob];refine⟨rfl,fun i' hi' hk'=>?_⟩;rcases a15 i' i with h|h
   ·exact absurd hk' (none_old i' h)
   ·omega
  ·have hgn:go (N j) k=none:=by
    cases hg:go (N j) k with
    |none=>rfl
    |some ob=>exact absurd (zp.2 (by rw[hg];simp)) hkj
   rw[hgn];simp only;refine⟨fun i hi hk=>?_,fun h=>h2 fun i hi=>h i (by omega)⟩
   have hij:i<j:=by
    rcases a15 i j with h|h
    ·exact h
    ·have:i=j:=by omega
     subst this;exact absurd hk hkj
   refine⟨(h1 i hij hk).1,fun i' hi' hk'=>?_⟩
   have hij':i'<j:=by
    rcases a15 i' j with h|h
    ·exact h
    ·have:i'=j:=by omega
     subst this;exact absurd hk' hkj
   exact (h1 i hij hk).2 i' hij' hk'
theorem Hctx.uniq(C:Hctx D R Ds ks as B Φ all m E X N M0){i j:Nat}{x y:Oper}{t:Nat}(hi:i<m)(hj:j<m)(hx:all[i]? = some x)(hy:all[j]? = some y)(h1:x.dst=some t)(h2:y.dst=some t):i=j:=by
 rcases Nat.decEq i j with h|h
 ·exact absurd h2 (asz (mw C.hdr hi hj h hx hy) h1)
 ·exact h
theorem Hctx.gts(C:Hctx D R Ds ks as B Φ all m E X N M0)(j t:Nat)(hj:j<=m) :
  ((∀(i:Nat)(o:Oper),all[i]? = some o->i<j->o.dst≠some t)->gt (E j) t=gt (E 0) t)/\
  (∀(i:Nat)(o:Oper),all[i]? = some o->i<j->o.dst=some t->gt (E j) t=gt (E (i+1)) t):=by
 have hm:=C.hm;have hlen:(all.toList.take m).length=m:=by simp[hm]
 have take_lt:∀{i:Nat} {o:Oper},(all.toList.take m)[i]? = some o->i<m/\all[i]? = some o:=fun {i o} h=>by have h1:=(a1i.1 h).1;rw[hlen]at h1;rw[a30 h1,nx]at h;exact⟨h1,h⟩
 have lt_take:∀{i:Nat} {o:Oper},i<m->all[i]? = some o->(all.toList.take m)[i]? = some o:=fun {i o} h1 h=>by rw[a30 h1,nx];exact h
 have hw:∀(j:Nat)(o:Oper),(all.toList.take m)[j]? = some o->E (j+1)=wr o.dst (match all[j]? with|some o=>(match o.dst with|some d=>gt (E (j+1)) d|none=>.any)|none=>.any) (E j):=fun j o hj=>by obtain⟨h1,h2⟩:=take_lt hj;obtain⟨d,v,vc,ev,H⟩:=C.hE j o h2 h1;rw[h2];simp only[H.dst,wr];rw[H.he];simp only[iy,a04]
 obtain⟨a1,a2⟩:=asr hw j t (by omega);refine⟨fun h=>a1 fun i o hi=>h i o (take_lt hi).2,fun i o hi hlt hd=>?_⟩;rw[a2 i o (lt_take (by omega) hi) hlt hd fun i' o' hi' hl' hd'=>C.uniq (take_lt hi').1 (by omega) (take_lt hi').2 hi hd' hd];simp only[hi,hd]
theorem Hctx.step(C:Hctx D R Ds ks as B Φ all m E X N M0){listed:Array Bool}(hs:listed.size=all.size)(hl:∀i,i<all.size->isL listed i->i<m)(hdn:ahx all listed){env:Env}{M:Mem}(S:Hsta all m E N M0 listed env M){p:Ow}{a:Act}{w:World}(hst:St F p env M a w)
  {j:Nat} {o:Oper} (ho:all[j]? = some o) (hjm:j<m) (hnl:¬isL listed j)
  (hrd:∀e∈o.after,Region.binds .any e=true->isL listed e.on):tw B Φ (toL all) [o] env M (fun env' M'=>Hsta all m E N M0 (listed.setIfInBounds j true) env' M'):=by
 have hjs:=(a0x.1 ho).1;have hset:∀i,isL (listed.setIfInBounds j true) i<->i=j\/isL listed i:=fun i=>awl (by rw[hs];exact hjs);have hlm:∀{i:Nat} {x:Oper},all[i]? = some x->isL listed i->i<m:=fun h1 h2=>hl _ (a0x.1 h1).1 h2
 have hlook:∀t∈o.looksAt all,gt env t=gt (E j) t:=fun t htl=>by
  by_cases hw:∃(i:Nat)(x:Oper),all[i]? = some x/\i<m/\x.dst=some t
  ·obtain⟨i,x,e1,e2,e3⟩:=hw;by_cases hij:i<j
   ·have hpair:=ro (mw C.hdr e2 hjm (by omega) e1 ho) e3 htl;rw[a0a hij]at hpair;have hli:=j7 hdn C.hb j o ho hrd i hpair;rw[S.b i x t e1 hli e3,(C.gts j t (by omega)).2 i x e1 hij e3]
   ·have hnli:¬isL listed i:=fun hli=>by
     by_cases e:i=j
     ·subst e;exact hnl hli
     ·have hpair:=ro (mw C.hdr e2 hjm e e1 ho) e3 htl;rw[ds hij]at hpair;exact hnl (j7 hdn C.hb i x e1 (fun e' he' hb'=>hdn i x e1 hli e' he' hb') j hpair)
    rw[S.a t fun i' o' h1' h2' h3'=>hnli (C.uniq (hlm h1' h2') e2 h1' e1 h3' e3▸h2')];exact ((C.gts j t (by omega)).1 fun i' o' h1' h2' h3'=>hij (C.uniq (by omega) e2 h1' e1 h3' e3▸h2')).symm
  ·rw[S.a t fun i x h1 h2 h3=>hw ⟨i,x,h1,hlm h1 h2,h3⟩];exact ((C.gts j t (by omega)).1 fun i x h1 h2 h3=>hw ⟨i,x,h1,by omega,h3⟩).symm
 have hrdE:∀x∈o.op.operands,rd env x=rd (E j) x:=fun x hx=>by
  cases x with
  |tmp t=>exact hlook t (a2b _ (a20.2 ⟨.tmp t,by simpa using hx,rfl⟩))
  |const c|global g|func f=>rfl
 obtain⟨d,v,vc,ev,H⟩:=C.hE j o ho hjm
 have hkey:∀k,go (ap (X j) M0) k≠none->go M k≠none->go M k=go (ap (X j) M0) k:=fun k h1 h2=>by
  obtain⟨x1,x2⟩:=C.xs j (by omega) k;rw[agh]at h1⊢;by_cases hw:∃i,i<m/\k∈ca (N i)
  ·obtain⟨i,hi,hk⟩:=hw;have gone:go M0 k=none:=by obtain⟨d',v',vc',ev',H'⟩:=C.hE i _ (C.get hi) hi;exact ah7 H'.n0 k hk
   have one:∀i',i'<m->k∈ca (N i')->i'=i:=fun i' hi' hk'=>((C.xs m (a0k _) k).1 i hi hk).2 i' hi' hk';have hli:isL listed i:=a4c fun hn=>h2 (by rw[S.c k fun i' hi' hl' hk'=>hn (one i' (hl i' hi' hl') hk'▸hl'),gone]);rw[S.d i k (a1a hi C.hm) hli hk];by_cases hij:i<j
   ·rw[(x1 i hij hk).1]
    cases hg:go (N i) k with
    |none=>exact absurd hg (zp.1 hk)
    |some ob=>rfl
   ·rw[x2 fun i' hi' hk'=>hij (one i' (by omega) hk'▸hi'),gone]at h1;exact absurd rfl h1
  ·rw[x2 fun i hi hk=>hw ⟨i,by omega,hk⟩];simp only;exact S.c k fun i hi hli hk=>hw ⟨i,hl i hi hli,hk⟩
 have agr:aqm (ap (X j) M0) (E j) (cy o.op)=true->∀x∈cy o.op,agV M (ap (X j) M0) (rd (E j) x):=fun hlv x hx=>by
  by_cases hxt:∃t,x=.tmp t
  ·obtain⟨t,rfl⟩:=hxt;have hrel:=hst.slots t;have e1:gt env t=gt (E j) t:=by simpa only [rd]using hrdE (.tmp t) (am8 o _ hx)
   rw[e1]at hrel;exact ccd hkey _ (aln hlv _ hx) _ hrel
  ·exact cd9 x fun t h=>hxt ⟨t,h⟩
 have hr:evR B Φ o env M=⟨vc,v,ev,ap (N j) (mn (ca (N j)) M)⟩:=by rw[ack o hrdE];obtain⟨N',hr,hN⟩:=H.r;have hkl:=H.kl;rw[hN]at hkl⊢;exact blz H.k agr hr H.hv hkl
 have hdis:∀i,i<all.size->isL listed i->∀k,k∈ca (N i)->k∉ca (N j):=fun i hi hli k h1 h2=>by have him:=hl i hi hli;have:=((C.xs m (a0k _) k).1 i him h1).2 j hjm h2;subst this;exact hnl hli
 have hgone:∀k∈ca (N j),go M k=none:=fun k hk=>by rw[S.c k fun i hi hli h=>hdis i hi hli k h hk];exact ah7 H.n0 k hk
 have hng:∀t,xv (gt env t)=true:=fun t=>by
  by_cases hw:∃(i:Nat)(x:Oper),all[i]? = some x/\isL listed i/\x.dst=some t
  ·obtain⟨i,x,e1,e2,e3⟩:=hw;rw[S.b i x t e1 e2 e3];obtain⟨d',v',vc',ev',H'⟩:=C.hE i x e1 (hlm e1 e2);have:d'=t:=by have:=H'.dst;rw[e3]at this;exact (a28 this).symm
   subst this;rw[H'.he,iy,a0a rfl];exact H'.gd
  ·rw[S.a t fun i x h1 h2 h3=>hw ⟨i,x,h1,h2,h3⟩];exact C.h0 t
 have stab:∀t,gt (p8 env ev) t=gt env t:=fun t=>by rw[uu];exact bow H.kl fun k hk=>(bwr (hgone k hk) (gt env t) (hng t)).1 _ (hst.slots t)
 simp only[tw,H.g,hr,oq,H.dst,wr];refine⟨H.hv,fun t ht=>?_,fun i x t hi hli hdx=>?_,fun k hk=>?_,fun i k hi hli hk=>?_⟩
 ·have htd:d≠t:=fun h=>ht j o ho ((hset j).2 (.inl rfl)) (by rw[H.dst,h]);rw[iy,ds htd,stab];exact S.a t fun i x hi hl'=>ht i x hi ((hset i).2 (.inr hl'))
 ·rw[iy];by_cases hij:i=j
  ·subst hij;rw[ho]at hi;cases hi;rw[H.dst]at hdx;cases hdx;rw[a0a rfl,H.he,iy,a0a rfl]
  ·have hli':=((hset i).1 hli).resolve_left hij;have htd:d≠t:=fun h=>hij (C.uniq (hlm hi hli') hjm hi ho hdx (by rw[H.dst,h]));rw[ds htd,stab];exact S.b i x t hi hli' hdx
 ·have hkj:k∉ca (N j):=hk j hjs ((hset j).2 (.inl rfl))
  have hgn:go (N j) k=none:=by
   cases hg:go (N j) k with
   |none=>rfl
   |some ob=>exact absurd (zp.2 (by rw[hg];simp)) hkj
  rw[agh,hgn];simp only;rw[awo hkj];exact S.c k fun i hi hli=>hk i hi ((hset i).2 (.inr hli))
 ·rw[agh];by_cases hij:i=j
  ·subst hij
   cases hg:go (N i) k with
   |none=>exact absurd hg (zp.1 hk)
   |some ob=>rfl
  ·have hli':=((hset i).1 hli).resolve_left hij;have hkj:=hdis i hi hli' k hk
   have hgn:go (N j) k=none:=by
    cases hg:go (N j) k with
    |none=>rfl
    |some ob=>exact absurd (zp.2 (by rw[hg];simp)) hkj
   rw[hgn];simp only;rw[awo hkj];exact S.d i k hi hli' hk
theorem aul{D R:Bool}{ms:List Nat}(h:bqx D R all ms m=true){j:Nat}(hm:m<=j){y:Oper}(hy:all[j]? = some y):y.guard=none/\∀i,i<j->(ms.getD j 0).testBit i=true\/(i<m/\∃x,all[i]? = some x/\flt D R all x y=true):=by
 have hj:=(a0x.1 hy).1;have:=a1y.1 h j (by simpa using hj);rw[hy]at this;simp only[a09,a0b]at this;rcases this with h1|⟨h1,h2⟩
 ·rw[a2z]at h1;omega
 ·refine⟨bj4 h1,fun i hi=>?_⟩;have h3:=a1y.1 h2 i (by simpa using hi);simp only[a09,a0b]at h3;rcases h3 with h3|⟨h3,h4⟩
  ·exact .inl h3
  ·right;rw[a2z]at h3;refine⟨h3,?_⟩
   cases hx:all[i]? with
   |none=>rw[hx]at h4;cases h4
   |some x=>rw[hx]at h4;exact⟨x,rfl,h4⟩
theorem bfr{x:Oper}:∀{l:List Oper},bhz l=true->x∈l->ww x.op=false
 |y::l,h,hm=>by
  simp only[bhz,be,qu,a0b,a1z]at h
  cases hm with
  |head=>exact h.1
  |tail _ hm=>exact bfr h.2 hm
theorem as3{D R:Bool}{x y:Oper}(h:flt D R all x y=true):x.guard=none/\(bq8 D x.op=true/\(R=true->ww x.op=true->bay y=true\/bks y=true))/\∃t,x.dst=some t/\t∉y.looksAt all/\∀u,y.dst=some u->u≠t/\u∉x.looksAt all:=by
 unfold flt at h;simp only[be,a0b]at h;obtain⟨h1,⟨h2,h2'⟩,h3⟩:=h;refine⟨bj4 h1,⟨h2,fun hR hk=>?_⟩,?_⟩
 ·rw[hR]at h2';simp only[lq,qu,a3n,a37,a09]at h2';rcases h2' with h|h|h
  ·exfalso;unfold bcr at h;unfold ww at hk;split at h
   ·rename_i ho;rw[ho]at hk;simp[vt,aiq,aez]at hk
   ·rename_i ho;rw[ho]at hk;simp[vt,aiq,aez]at hk
   ·rename_i ho;rw[ho]at hk;simp[vt,aiq,aez]at hk
   ·cases h
  ·exact .inl h
  ·exact .inr h
 cases hd:x.dst with
 |none=>rw[hd]at h3;cases h3
 |some t=>
  rw[hd]at h3;simp only[be,a0b,qu,a1z]at h3;refine⟨t,rfl,fun ht=>?_,fun u hu=>?_⟩
  ·have:(aeu all y).contains t=true:=by simpa[aeu]using ht
   rw[h3.1]at this;cases this
  ·rw[hu]at h3;have h4:=h3.2;simp only[a0b,a1z]at h4;refine⟨fun e=>?_,fun ht=>?_⟩
   ·subst e;rw[a3c]at h4;exact absurd h4.1 (by simp)
   ·have:(aeu all x).contains u=true:=by simpa[aeu]using ht
    rw[h4.2]at this;cases this
theorem bfy{ms:List Nat}{i:Nat}(h:vm all.size ms m i=true):∃j,m<=j/\j<all.size/\(ms.getD j 0).testBit i=false:=by
 obtain⟨j,h1,h2⟩:=List.any_eq_true.1 h;simp only[a0b,a1z]at h2;refine⟨j,?_,by simpa using h1,h2.2⟩;rcases a15 j m with h|h
 ·have hb:Nat.blt j m=true:=by rw[a2z];exact h
  rw[hb]at h2;exact absurd h2.1 (by simp)
 ·exact h
theorem buz{ms:List Nat}{i j:Nat}(h:vm all.size ms m i=false)(hj:j<all.size)(hm:m<=j):(ms.getD j 0).testBit i=true:=by
 cases ht:(ms.getD j 0).testBit i with
 |true=>rfl
 |false=>
  have:vm all.size ms m i=true:=List.any_eq_true.2 ⟨j,by simpa using hj,by
   simp only[a0b,a1z];refine⟨?_,ht⟩
   cases hb:Nat.blt j m with
   |false=>rfl
   |true=>rw[a2z]at hb;omega⟩
  rw[h]at this;cases this
theorem bf0{ms:List Nat}(h:bqp all ms m=true){i j:Nat}(hi:i<m)(hj:j<m)(hne:i<=j)(fi:vm all.size ms m i=true)(fj:vm all.size ms m j=true){x y:Oper}(hx:all[i]? = some x)(hy:all[j]? = some y){u:Nat}(hu:y.dst=some u):u∉x.looksAt all:=by
 have h1:=a1y.1 h i (by simpa using hi);rw[fi]at h1;simp only[a3n,a37]at h1;have h2:=a1y.1 h1 j (by simpa using hj);rw[fj,hx,hy]at h2;simp only[a3n,Bool.or_false,a09,hu,a1z]at h2;rcases h2 with h2|h2
 ·rw[a2z]at h2;omega
 ·intro ht;have:(aeu all x).contains u=true:=by simpa[aeu]using ht
  rw[h2]at this;cases this
structure Bsta (B:Tab) (Φ:FuncId->Option Ct) (ks as:List Nat) (all:Array Oper) (m c:Nat) (listed:Array Bool) (env Ec:Env) (M:Mem):Prop where
 h:∀i,i<m->isL listed i\/vm all.size (ij [] all.toList) m i=true/\∃x t,all[i]? = some x/\x.guard=none/\x.dst=some t/\FlI B Φ ks as x Ec M (gt Ec t)
 a:∀t,(∀(i:Nat)(x:Oper),i<m->all[i]? = some x->¬isL listed i->x.dst≠some t)->gt env t=gt Ec t
theorem asc(l:List Bool)(n:Nat):aoq (l.drop n)=l.getD n false:=by
 induction l generalizing n with
 |nil=>simp[aoq]
 |cons a l ih=>cases n with
  |zero=>rfl
  |succ n=>simpa using ih n
theorem bpd(l:List Bool)(n:Nat):ala (l.drop n)=l.drop (n+1):=by
 induction l generalizing n with
 |nil=>simp[ala]
 |cons a l ih=>cases n with
  |zero=>rfl
  |succ n=>simpa using ih n
theorem bsw{l:List Oper}{m j i:Nat}(hm:m<=j)(hj:j<l.length)(hi:i<m)(hb:((ij [] l).getD j 0).testBit i=false):(adt l m).getD (j-m) false=true:=by unfold adt;have hl:len l=l.length:=aga l;rw[a0l,a1r,a2p (by rw[hl];show j-m<l.length-m;omega)];simp only[a1e,a1n,List.any_eq_true,a42];refine⟨i,hi,?_⟩;rw[show Nat.add m (j-m)=j from by show m+(j-m)=j;omega,hb];rfl
theorem alz:∀{a b:cr},avc a b=true->a=b
 |[],[],_=>rfl
 |.l::a,.l::b,h|.r::a,.r::b,h|.de::a,.de::b,h=>by rw[alz (a:=a) (b:=b) h]
 |.ix i::a,.ix j::b,h=>by simp only[avc,be,a0b]at h;rw[a0v h.1,alz h.2]
 |[],_::_,h|.l::_,[],h|.r::_,[],h|.de::_,[],h|.ix _::_,[],h|.l::_,.r::_,h|.l::_,.de::_,h|.l::_,.ix _::_,h|.r::_,.l::_,h|.r::_,.de::_,h|.r::_,.ix _::_,h|.de::_,.l::_,h|.de::_,.r::_,h|.de::_,.ix _::_,h|.ix _::_,.l::_,h|.ix _::_,.r::_,h|.ix _::_,.de::_,h=>by cases h
theorem bzk{a b:V}(h:bu6 a b=true):a=b:=by
 cases a<;>cases b<;>simp only[bu6,a1g]at h
 ·simp only[be,a0b]at h;rw[a0v h.1,alz h.2]
 ·simp only[be,a0b]at h;rw[a0v h.1,alz h.2]
theorem bd6{ks:List Nat}{x:Oper}{env:Env}{M:Mem}:∀{ls:List Oper},stB B Φ ks ls env M=true->x∈ls->∃d v M2,x.dst=some d/\evR B Φ x env M=⟨[],v,[],M2⟩/\v=gt env d/\ao5 M x.op env=true/\w7 ks env (cy x.op)=true/\ksV ks v=true
 |[],_,h=>by cases h
 |o::r,h,hx=>by
  simp only[stB]at h;split at h
  ·rename_i d v M2 h1 h2;simp only[be,a0b]at h;rcases a0t.1 hx with rfl|hx
   ·exact⟨d,v,M2,h1,h2,bzk h.2.1,h.1.1,h.1.2.1,h.1.2.2⟩
   ·exact bd6 h.2.2 hx
  ·cases h
theorem bf3:∀(bs:List Bool)(l:List Oper)(i:Nat)(x:Oper),bs.getD i false=true->l[i]? = some x->ww x.op=true->x∈avx bs l
 |[],_,_,_,h,_,_|_::_,[],_,_,_,h,_=>by simp at h
 |b::bs,o::r,0,x,hb,hx,hk=>by simp only[a1u,a0e]at hx;subst hx;simp only[a31]at hb;subst hb;simp only[avx,hk,be,a2n,a0d];exact a1t
 |b::bs,o::r,i+1,x,hb,hx,hk=>by
  have:=bf3 bs r i x (by simpa using hb) (by simpa using hx) hk;simp only[avx]
  cases nob b (ww o.op)with
  |true=>exact a1k _ this
  |false=>exact this
theorem avb{all:Array Oper}{m i j:Nat}{x:Oper}(hm:m<=j)(hj:j<all.size)(hi:i<m)(hx:all[i]? = some x)(hb:((ij [] all.toList).getD j 0).testBit i=false)(hk:ww x.op=true):x∈(ac6 all.toList m).getD (j-m) []:=by
 unfold ac6;have hl:len all.toList=all.size:=by rw[aga];rfl
 rw[a0l,a1r,a2p (by rw[hl];show j-m<all.size-m;omega)];simp only[a1e,a1n];refine bf3 _ _ i x ?_ ?_ hk
 ·rw[a0l,a1r,a2p hi];simp only[a1e,a1n];rw[show Nat.add m (j-m)=j from by show m+(j-m)=j;omega,hb];rfl
 ·rw[am5,a30 hi,a5d];exact hx
theorem azt(l:List (List Oper))(n:Nat):hdP (l.drop n)=l.getD n []:=by
 induction l generalizing n with
 |nil=>simp[hdP]
 |cons a l ih=>cases n with
  |zero=>rfl
  |succ n=>simpa using ih n
theorem bwh(l:List (List Oper))(n:Nat):tlP (l.drop n)=l.drop (n+1):=by
 induction l generalizing n with
 |nil=>simp[tlP]
 |cons a l ih=>cases n with
  |zero=>rfl
  |succ n=>simpa using ih n
theorem cad{τ:Ty}{M:Mem}{d:Option Nat}{x:V}{r:Rs}(h:ape τ M d x=some r)(h1:r.vc=[])(h2:r.ev=[]):False:=by cases h
theorem ccb{τ:Ty}{M:Mem}{d:Option Nat}{x:V}(h1:(ul τ M d x).vc=[])(h2:(ul τ M d x).ev=[]):(ul τ M d x).M=M:=by
 unfold ul at h1 h2⊢
 cases hr:ape τ M d x with
 |some r=>simp only[hr]at h1 h2;exact (cad hr h1 h2).elim
 |none=>rfl
theorem cdn{B:Tab}{t:TypeId}{d:Option Nat}{ρ:Operand->V}{x:Operand}{lo hi:Option Operand}{M:Mem}(h:(aav B t d ρ x lo hi M).ev=[]):(aav B t d ρ x lo hi M).M=M:=by generalize hq:aav B t d ρ x lo hi M=q at h;obtain⟨a1,a2,a3,a4⟩:=q;simp only at h⊢;subst h;exact (brk hq rfl).2
theorem bx2{x:Oper}{env:Env}{M M2:Mem}{v:V}(hk:ww x.op=true)(h:evR B Φ x env M=⟨[],v,[],M2⟩):M2=M:=by
 obtain⟨dst,op,ty',pos,after,guard⟩:=x;have h1:(evR B Φ ⟨dst,op,ty',pos,after,guard⟩ env M).vc=[]:=by rw[h]
 have h3:(evR B Φ ⟨dst,op,ty',pos,after,guard⟩ env M).ev=[]:=by rw[h]
 have h4:(evR B Φ ⟨dst,op,ty',pos,after,guard⟩ env M).M=M2:=by rw[h]
 rcases Classical.em (∃c,op=.call c)with⟨c,rfl⟩|hcc
 ·have hb:aez (.call c)=true:=by simpa[ww,vt,aiq]using hk
  exact (br3 hb h).2
 rw[←h4];clear h h4;unfold ww at hk;cases op<;>simp only[vt,aiq,lq,Bool.or_false,a4b,be,qu,a0b,a1z,a1g,false_and]at hk
 case call c=>exact absurd ⟨c,rfl⟩ hcc
 case slice t x lo hi mx=>
  cases mx with
  |some _=>simp[aez]at hk
  |none=>exact cdn h3
 all_goals simp only[aez,lq,Bool.or_false,a4b,be,qu,a0b,a1z,a1g,false_and]at hk
 case load t y=>exact ccb (τ:=B.τ _) (d:=dst) (beo h1).2 h3
 case build t ps=>exact brp.2
 all_goals first|rfl|exact absurd hk (by simp)
theorem bzx(hΦ:uw P F Φ)(hB:TabOk P B)(Q:Exit->Act->World->Prop)(K:Env->Mem->Prop)(hQ:∀p env M a w,St F p env M a w->K env M->Q .normal a w)(hb:aam 0 all.toList=true)(ht:bqx D R all (ij [] all.toList) m=true)(hR:R=false->ks=[])(hff:bqp all (ij [] all.toList) m=true)
  (huq:∀(i j:Nat)(x y:Oper)(t:Nat),i<m->j<m->all[i]? = some x->all[j]? = some y->x.dst=some t->y.dst=some t->i=j) (hdr:ajv all (ij [] all.toList) m=true)
  (hco:mr F.nt all.toList=true) (hfv:∀o∈all.toList,∀k,o.dst=some k->F.fv k=none) :
  ∀(fuel:Nat)(listed:Array Bool)(c:Nat)(p:Ow)(env Ec:Env)(M:Mem)(a:Act)(w:World),listed.size=all.size->(∀i,m<=i->i<all.size->(isL listed i<->i<c))->m<=c->unl listed all.size<=fuel->ahx all listed->Bsta B Φ ks as all m c listed env Ec M->ags ks as B Φ ((ac6 all.toList m).drop (c-m)) ((adt all.toList m).drop (c-m)) (all.toList.drop c) Ec M=true->
   St F p env M a w->tw B Φ (toL all) (all.toList.drop c) Ec M K->wpAny P .any all Q fuel listed a w:=by
 intro fuel
 have done:∀(listed:Array Bool)(c:Nat)(p:Ow)(env Ec:Env)(M:Mem)(a:Act)(w:World),listed.size=all.size->(∀i,m<=i->i<all.size->(isL listed i<->i<c))->m<=c->Region.ready .any all listed=[]->Bsta B Φ ks as all m c listed env Ec M->St F p env M a w->tw B Φ (toL all) (all.toList.drop c) Ec M K->Q .normal a w:=by
  intro listed c p env Ec M a w hs hl hmc hr S hst hk;have hall:=agt hs hb hr
  have hc:all.toList.length<=c:=by
   rcases a15 c all.size with h|h
   ·have:=(hl c hmc h).1 (hall c h);omega
   ·simpa using h
  rw[a4z hc]at hk;simp only[tw]at hk;exact hQ p Ec M a w (hst.weak fun t=>.inr (S.a t fun i x h1 h2 h3=>absurd (hall i (a0x.1 h2).1) h3).symm) hk
 have noready:∀(listed:Array Bool),listed.size=all.size->unl listed all.size=0->Region.ready .any all listed=[]:=by
  intro listed hs hu
  cases hr:Region.ready .any all listed with
  |nil=>rfl
  |cons i r=>obtain⟨o,h1,h2,_⟩:=t8 (j:=i) (by rw[hr];simp);have hi:=(a0x.1 h1).1;have:=ahs hu i hi;unfold isL at this;simp[hs,hi]at this h2;rw[this]at h2;cases h2
 induction fuel with
 |zero=>intro listed c p env Ec M a w hs hl hm hu _ S hck hst hk;have hr:=noready listed hs (by omega);exact⟨hr,done listed c p env Ec M a w hs hl hm hr S hst hk⟩
 |succ fuel ih=>
  intro listed c p env Ec M a w hs hl hm hu hdn S hck hst hk;refine⟨fun hr=>done listed c p env Ec M a w hs hl hm hr S hst hk,fun j hj=>?_⟩;obtain⟨o,h1,h2,h3⟩:=t8 hj;have hjs:=(a0x.1 h1).1;have hnl:¬isL listed j:=by unfold isL;simp[hs,hjs]at h2⊢;exact h2
  have hmem:o∈all.toList:=by rw[a19];exact a27 h1
  have hset:∀i,isL (listed.setIfInBounds j true) i<->i=j\/isL listed i:=fun i=>awl (by rw[hs];exact hjs);have hul:=alq (by rw[hs];exact hjs) hnl all.size hjs;by_cases hjm:j<m
  ·rcases S.h j hjm with h|⟨fj,x,t,e1,e2,e3,e4⟩
   ·exact absurd h hnl
   rw[h1]at e1;cases e1
   have hop:∀q∈o.op.operands,rd env q=rd Ec q:=fun q hq=>by
    cases q with
    |tmp t0=>
     have hlk:t0∈o.looksAt all:=a2b _ (a20.2 ⟨.tmp t0,by simpa using hq,rfl⟩);refine S.a t0 fun i x hi hx hn hd=>?_;rcases S.h i hi with h|⟨fi,_⟩
     ·exact hn h
     rcases a15 i j with hij|hij
     ·have hpair:=ro (mw hdr hi hjm (by omega) hx h1) hd hlk;rw[a0a hij]at hpair;exact hn (j7 hdn hb j o h1 h3 i hpair)
     ·exact bf0 hff hjm hi hij fj fi h1 hx hd hlk
    |const c|global g|func f=>rfl
   obtain⟨vc,hvc,hr0⟩:=e4.run (M:=M);have hr:evR B Φ o env M=⟨vc,gt Ec t,[],M⟩:=by rw[ack o hop];exact hr0
   refine a3z (fun a' w' ⟨p',env',M',q1,q2,q3⟩=>?_) (aqu (rest:=[]) (K:=fun env' M'=>env'=(t,gt Ec t)::env/\M'=M) hΦ hB hst (by simp only[tw,e2,hr,e3,oq,wr,p8];exact⟨hvc,trivial,trivial⟩) (w9 hco hmem) (hfv o hmem) h1 Q);subst q2;subst q3;refine ih _ c p' _ Ec _ a' w' (by simpa using hs) (fun i hi his=>?_) hm (by omega) (hdn.set hj) ⟨fun i hi=>?_,fun t' ht'=>?_⟩ hck q1 hk
   ·rw[hset];exact⟨fun h=>h.elim (fun h=>by omega) (hl i hi his).1,fun h=>.inr ((hl i hi his).2 h)⟩
   ·rcases S.h i hi with h|h
    ·exact .inl ((hset i).2 (.inr h))
    ·exact .inr h
   ·rw[iy];by_cases htt:t=t'
    ·subst htt;rw[a0a rfl]
    ·rw[ds htt];refine S.a t' fun i x hi hx hn hd=>?_;by_cases hij:i=j
     ·subst hij;rw[h1]at hx;cases hx;rw[e3]at hd;cases hd;exact htt rfl
     ·exact ht' i x hi hx (fun h=>((hset i).1 h).elim hij hn) hd
  ·have hmj:m<=j:=by omega
   obtain⟨hg,hsp⟩:=aul ht hmj h1
   have hcj:c<=j:=by
    rcases a15 j c with h|h
    ·exact absurd ((hl j hmj hjs).2 h) hnl
    ·exact h
   have hjc:j=c:=by
    rcases a15 c j with h|h
    ·rcases hsp c h with hb1|⟨hb1,_⟩
     ·have:=j7 hdn hb j o h1 h3 c hb1;have:=(hl c hm (by omega)).1 this;omega
     ·omega
    ·omega
   subst hjc
   have bdp:∀{i:Nat},i<m->¬isL listed i->∃x,all[i]? = some x/\flt D R all x o=true:=fun {i} hi hn=>by
    rcases hsp i (by omega)with hb1|⟨_,h⟩
    ·exact absurd (j7 hdn hb j o h1 h3 i hb1) hn
    ·exact h
   have hdrop:all.toList.drop j=o::all.toList.drop (j+1):=by rw[a3y (by simpa using hjs)];congr 1;have:=(a0x.1 h1).2;simpa using this
   rw[hdrop]at hk hck;have hlook:∀t∈o.looksAt all,gt env t=gt Ec t:=fun t htl=>S.a t fun i x hi hx hn hd=>by obtain⟨x',hx',hf⟩:=bdp hi hn;rw[hx]at hx';cases hx';obtain⟨_,_,t',ht',hnot,_⟩:=as3 hf;rw[hd]at ht';cases ht';exact hnot htl
   have hrdE:∀x∈o.op.operands,rd env x=rd Ec x:=fun x hx=>by
    cases x with
    |tmp t=>exact hlook t (a2b _ (a20.2 ⟨.tmp t,by simpa using hx,rfl⟩))
    |const c|global g|func f=>rfl
   have hev:evR B Φ o env M=evR B Φ o Ec M:=ack o hrdE;simp only[tw,hg]at hk;generalize hq:evR B Φ o Ec M=q at hk;obtain⟨vc,v,e,M1⟩:=q;simp only[oq]at hk;simp only[ags,hq,be,a0b,lq,a09,qu,a1z,asc,bpd,azt,bwh]at hck;rw[show j-m+1=j+1-m from by omega]at hck;refine a3z (fun a' w' ⟨p',env',M',q1,q2,q3⟩=>?_) (aqu (rest:=[]) (K:=fun env' M'=>env'=wr o.dst v (p8 env e)/\M'=M1) hΦ hB hst (by simp only[tw,hg,hev,hq,oq];exact⟨hk.1,trivial,trivial⟩) (w9 hco hmem) (hfv o hmem) h1 Q);subst q2;subst q3;refine ih _ (j+1) p' _ (wr o.dst v (p8 Ec e)) _ a' w' (by simpa using hs) (fun i hi his=>?_) (by omega) (by omega) (hdn.set hj) ⟨fun i hi=>?_,fun t' ht'=>?_⟩ hck.2 q1 hk.2
   ·rw[hset,hl i hi his];omega
   ·rcases S.h i hi with h|⟨f0,x,t1,f1,f2,f3,f4⟩
    ·exact .inl ((hset i).2 (.inr h))
    ·by_cases hn:isL listed i
     ·exact .inl ((hset i).2 (.inr hn))
     obtain⟨x',hx',hf⟩:=bdp hi hn;rw[f1]at hx';cases hx';obtain⟨_,⟨_,hcv⟩,t',ht',_,hu⟩:=as3 hf;rw[f3]at ht';cases ht'
     have hflag:aoq ((adt all.toList m).drop (j-m))=true:=by
      have hbit:((ij [] all.toList).getD j 0).testBit i=false:=by
       cases hb1:((ij [] all.toList).getD j 0).testBit i with
       |false=>rfl
       |true=>exact absurd (j7 hdn hb j o h1 h3 i hb1) hn
      rw[asc];exact bsw hmj (by simpa using hjs) hi hbit
     rw[asc]at hflag
     have hbit:((ij [] all.toList).getD j 0).testBit i=false:=by
      cases hb1:((ij [] all.toList).getD j 0).testBit i with
      |false=>rfl
      |true=>exact absurd (j7 hdn hb j o h1 h3 i hb1) hn
     have hdo:ww x.op=true->(dv ks e=true/\AgM ks M' M)\/(ao5 M' x.op (wr o.dst v (p8 Ec e))=true/\w7 ks (wr o.dst v (p8 Ec e)) (cy x.op)=true/\ksV ks ((gt Ec t1).evs e)=true/\evR B Φ x (wr o.dst v (p8 Ec e)) M'=⟨[],(gt Ec t1).evs e,[],M'⟩):=fun hdk=>by
      have hk2:=hck.1.1.2.resolve_left (by rw[hflag];simp)
      cases hRR:R with
      |false=>rw[hR hRR];exact .inl ⟨av6 e,fun k hk=>by cases hk⟩
      |true=>
       have fin:stB B Φ ks (hdP ((ac6 all.toList m).drop (j-m))) (wr o.dst v (p8 Ec e)) M'=true->(dv ks e=true/\AgM ks M' M)\/(ao5 M' x.op (wr o.dst v (p8 Ec e))=true/\w7 ks (wr o.dst v (p8 Ec e)) (cy x.op)=true/\ksV ks ((gt Ec t1).evs e)=true/\evR B Φ x (wr o.dst v (p8 Ec e)) M'=⟨[],(gt Ec t1).evs e,[],M'⟩):=fun h=>by
        obtain⟨d2,v2,M2,s1,s2,s3,s5,s6,s7⟩:=bd6 h (by rw[azt];exact avb hmj (by simpa using hjs) hi f1 hbit hdk);rw[f3]at s1;cases s1;have s4:=bx2 hdk s2;subst s4;have e2:v2=(gt Ec t1).evs e:=by rw[s3,aiz,ds (fun h=>(hu t1 h).1 rfl),uu]
        rw[e2]at s7 s2;exact .inr ⟨s5,s6,s7,s2⟩
       rcases hcv hRR hdk with hcall|hstr;rotate_left
       ·rcases hck.1.2 with h|h|h|h|h
        ·rw[hstr]at h;cases h
        ·have:ks=[]:=by
          revert h
          cases ks with
          |nil=>intro _;rfl
          |cons _ _=>intro h;cases h
         rw[this];exact .inl ⟨av6 e,fun k hk=>by cases hk⟩
        ·exfalso;have hin:=avb hmj (by simpa using hjs) hi f1 hbit hdk;have:=bfr h hin;rw[hdk]at this;cases this
        ·exact .inl ⟨h,brx hstr hq hk.1 h⟩
        ·exact fin (by rw[azt];exact h)
       rcases hk2 with h|h|h|h
       ·have:ks=[]:=by
         revert h
         cases ks with
         |nil=>intro _;rfl
         |cons _ _=>intro h;cases h
        rw[this];exact .inl ⟨av6 e,fun k hk=>by cases hk⟩
       ·rw[hcall]at h;cases h
       ·exact .inl ⟨h,bq9 hcall hq hk.1 h⟩
       ·obtain⟨d2,v2,M2,s1,s2,s3,s5,s6,s7⟩:=bd6 h (avb hmj (by simpa using hjs) hi f1 hbit hdk);rw[f3]at s1;cases s1;have s4:=bx2 hdk s2;subst s4;have e2:v2=(gt Ec t1).evs e:=by rw[s3,aiz,ds (fun h=>(hu t1 h).1 rfl),uu]
        rw[e2]at s7 s2;exact .inr ⟨s5,s6,s7,s2⟩
     refine .inr ⟨f0,x,t1,f1,f2,f3,?_⟩;have e1:gt (wr o.dst v (p8 Ec e)) t1=(gt Ec t1).evs e:=by rw[aiz,ds (fun h=>(hu t1 h).1 rfl),uu]
     rw[e1];refine f4.look hck.1.1.1 hdo fun t0 g1=>?_;have hlk:t0∈x.looksAt all:=a2b _ (a20.2 ⟨.tmp t0,by simpa using g1,rfl⟩);rw[aiz,ds (fun h=>(hu t0 h).2 hlk),uu]
   ·rw[aiz,aiz];split
    ·rfl
    ·rw[uu,uu,S.a t' fun i x hi hx hn hd=>ht' i x hi hx (fun h=>((hset i).1 h).elim (fun h=>by omega) hn) hd]
theorem Hctx.nogd(C:Hctx D R Ds ks as B Φ all m E X N M0){j:Nat}(hj:j<=m)(t:Nat):uy (gt (E j) t)=false:=by
 have key:xv (gt (E j) t)=true:=by
  by_cases hw:∃(i:Nat)(x:Oper),all[i]? = some x/\i<j/\x.dst=some t
  ·obtain⟨i,x,e1,e2,e3⟩:=hw;rw[(C.gts j t hj).2 i x e1 e2 e3];obtain⟨d',v',vc',ev',H'⟩:=C.hE i x e1 (by omega);have:d'=t:=by have:=H'.dst;rw[e3]at this;exact (a28 this).symm
   subst this;rw[H'.he,iy,a0a rfl];exact H'.gd
  ·rw[(C.gts j t hj).1 fun i o h1 h2 h3=>hw ⟨i,o,h1,h2,h3⟩];exact C.h0 t
 cases hv:gt (E j) t with
 |gd _ _ _ _=>rw[hv]at key;cases key
 |_=>rfl
theorem Hctx.grow(C:Hctx D R Ds ks as B Φ all m E X N M0){i:Nat}(hi:i<=m){k:Nat}(hg:go (ap (X i) M0) k≠none):go (ap (X m) M0) k=go (ap (X i) M0) k:=by
 have step:∀j,j<m->go (ap (X j) M0) k≠none->go (ap (X (j+1)) M0) k=go (ap (X j) M0) k:=fun j hj hg=>by
  obtain⟨d,v,vc,ev,H⟩:=C.hE j _ (C.get hj) hj;have hn:k∉ca (N j):=fun hm=>by have h1:=ah7 H.n0 k hm;have h2:=ah7 H.nX k hm;rw[agh,h2]at hg;exact hg h1
  have hN:go (N j) k=none:=a29 fun e=>hn (zp.2 e);rw[H.x,agh,agh,agh,hN]
 have key:∀n,i+n<=m->go (ap (X (i+n)) M0) k=go (ap (X i) M0) k:=fun n=>by
  induction n with
  |zero=>intro _;rfl
  |succ n ih=>intro hn;have h1:=ih (by omega);rw[←a22,step (i+n) (by omega) (by rw[h1];exact hg),h1]
 have:=key (m-i) (by omega)
 rwa [show i+(m-i)=m by omega]at this
theorem Hctx.turn(C:Hctx D R Ds ks as B Φ all m E X N M0){listed:Array Bool}{env:Env}{M:Mem}(hl:∀i,i<all.size->isL listed i->i<m)(hdn:ahx all listed)(S:Hsta all m E N M0 listed env M)(hall:∀i,i<m->vm all.size (ij [] all.toList) m i=false->isL listed i) :
  Bsta B Φ ks as all m m listed env (E m) (ap (X m) M0):=by
 have hlm:∀{i:Nat} {x:Oper},all[i]? = some x->isL listed i->i<m:=fun h1 h2=>hl _ (a0x.1 h1).1 h2;refine⟨fun i hi=>?_,fun t ht=>?_⟩
 ·by_cases hn:isL listed i
  ·exact .inl hn
  right
  have fi:vm all.size (ij [] all.toList) m i=true:=by
   cases h:vm all.size (ij [] all.toList) m i with
   |true=>rfl
   |false=>exact absurd (hall i hi h) hn
  refine⟨fi,?_⟩;obtain⟨j,hj1,hj2,hj3⟩:=bfy fi;obtain⟨_,hsp⟩:=aul C.ht hj1 (a3g hj2);rcases hsp i (by omega)with h|⟨_,x,hx,hf⟩
  ·rw[hj3]at h;cases h
  obtain⟨g1,g2,t,g3,_,_⟩:=as3 hf;obtain⟨d,v,vc,ev,H⟩:=C.hE i x hx hi;have hd:d=t:=by have:=H.dst;rw[g3]at this;exact (a28 this).symm
  subst hd;obtain⟨N',hr,hN⟩:=H.r
  have hF:FlI B Φ ks as x (E i) (ap (X m) M0) v:=by
   rw[bq8,lq,a09]at g2;rcases g2.1 with g2|g2
   ·exact FlI.of (B:=B) (Φ:=Φ) g2 (fun t=>C.nogd (by omega) t) hr H.hv
   ·simp only[be,a0b]at g2;rcases H.dt (C.hD g2.1 i hi fi) g2.2 with hbx|⟨q1,q2⟩
    ·have h4:∃t t0 k,x.op=.load t (.tmp t0)/\gt (E i) t0=.bx (.ad k [.de])/\inN k as=true/\bo5 (B.τ t)=true:=by
      unfold bxK at hbx;split at hbx
      ·rename_i t t0 ho;split at hbx
       ·rename_i k π hg;simp only[br,bz,a0o,a0b]at hbx;exact⟨t,t0,k,ho,by rw[hg,alo hbx.1],hbx.2.1,hbx.2.2⟩
       ·cases hbx
      ·cases hbx
     obtain⟨t,t0,k,ho,hg,hk,hb⟩:=h4;obtain⟨vc',_,hrun⟩:=FlI.run (M:=ap (X i) M0) (B:=B) (Φ:=Φ) (ks:=ks) (as:=as) (x:=x) (env:=E i) (y:=.ad k [.de]) (.inr (.inr (.inr ⟨t,t0,k,ho,hg,rfl,hk,hb⟩)));rw[hr]at hrun;simp only[Rs.mk.injEq]at hrun;exact .inr (.inr (.inr ⟨t,t0,k,ho,hg,hrun.2.1,hk,hb⟩))
    have hkl:=H.kl;rw[hN]at hkl;have hev:ev=[]:=bnt g2.2 hr hkl;subst hev;refine .inr (.inr (.inl ⟨g2.2,q1,q2,vc,H.hv,fun M' hM=>?_⟩));rw[blz (M:=M') H.k (fun hlv q hq=>asa (ks:=ks) (fun k hk hg=>(hM k hk).trans (C.grow (by omega) hg)) _ (ao4 q1 _ hq) (aln hlv _ hq)) hr H.hv hkl];rfl
  refine⟨x,d,hx,g1,g3,?_⟩;have hv:gt (E m) d=v:=by rw[(C.gts m d (a0k _)).2 i x hx hi g3,H.he,iy,a0a rfl]
  rw[hv];refine hF.same fun t0 k1=>?_;have hlk:t0∈x.looksAt all:=a2b _ (a20.2 ⟨.tmp t0,by simpa using k1,rfl⟩);by_cases hw:∃(i':Nat)(x':Oper),all[i']? = some x'/\i'<m/\x'.dst=some t0
  ·obtain⟨i',x',e1,e2,e3⟩:=hw;by_cases hii:i'<i
   ·rw[(C.gts m t0 (a0k _)).2 i' x' e1 e2 e3,(C.gts i t0 (by omega)).2 i' x' e1 hii e3]
   ·exfalso
    have fi':vm all.size (ij [] all.toList) m i'=true:=by
     cases h:vm all.size (ij [] all.toList) m i' with
     |true=>rfl
     |false=>
      exfalso;have hli:=hall i' e2 h;by_cases e:i'=i
      ·subst e;exact hn hli
      ·have hpair:=ro (mw C.hdr e2 hi e e1 hx) e3 hlk;rw[ds hii]at hpair;exact hn (j7 hdn C.hb i' x' e1 (fun e' he' hb'=>hdn i' x' e1 hli e' he' hb') i hpair)
    exact bf0 C.hf hi e2 (by omega) fi fi' hx e1 e3 hlk
  ·rw[(C.gts m t0 (a0k _)).1 fun i x h1 h2 h3=>hw ⟨i,x,h1,h2,h3⟩,(C.gts i t0 (by omega)).1 fun i x h1 h2 h3=>hw ⟨i,x,h1,by omega,h3⟩]
 ·obtain⟨g1,g2⟩:=C.gts m t (a0k _);by_cases hw:∃(i:Nat)(x:Oper),all[i]? = some x/\i<m/\x.dst=some t
  ·obtain⟨i,x,e1,e2,e3⟩:=hw;have hli:isL listed i:=a4c fun hn=>ht i x e2 e1 hn e3;rw[g2 i x e1 e2 e3,S.b i x t e1 hli e3]
  ·rw[g1 fun i o h1 h2 h3=>hw ⟨i,o,h1,h2,h3⟩,S.a t fun i o h1 h2 h3=>hw ⟨i,o,h1,hlm h1 h2,h3⟩]
theorem Hctx.flN(C:Hctx D R Ds ks as B Φ all m E X N M0){i:Nat}(hi:i<m)(fi:vm all.size (ij [] all.toList) m i=true):ca (N i)=[]:=by
 obtain⟨j,hj1,hj2,hj3⟩:=bfy fi;obtain⟨_,hsp⟩:=aul C.ht hj1 (a3g hj2);rcases hsp i (by omega)with h|⟨_,x,hx,hf⟩
 ·rw[hj3]at h;cases h
 obtain⟨_,g2,_⟩:=as3 hf;obtain⟨d,v,vc,ev,H⟩:=C.hE i x hx hi;obtain⟨N',hr,hN⟩:=H.r
 have he:ev=[]:=by
  rw[bq8,lq,a09]at g2;rcases g2.1 with g2|g2
  ·unfold bcr at g2;split at g2
   ·rename_i ho;simp only[evR,ho,dz,dh,Rs.mk.injEq]at hr;exact hr.2.2.1.symm
   ·rename_i ho;simp only[evR,ho,dz,dh,Rs.mk.injEq]at hr;exact hr.2.2.1.symm
   ·rename_i ho;simp only[evR,ho,dz,dh,Rs.mk.injEq]at hr;exact hr.2.2.1.symm
   ·cases g2
  ·simp only[be,a0b]at g2;have hkl:=H.kl;rw[hN]at hkl;exact bnt g2.2 hr hkl
 rw[hN,he];rfl
theorem Hctx.fin(C:Hctx D R Ds ks as B Φ all m E X N M0){listed:Array Bool}{env:Env}{M:Mem}(hl:∀i,i<all.size->isL listed i->i<m)(S:Hsta all m E N M0 listed env M)(hall:∀i,i<m->vm all.size (ij [] all.toList) m i=false->isL listed i) :
  ∀k,go (ap (X m) M0) k=go M k:=by
 have hm:=C.hm;intro k;rw[agh];obtain⟨x1,x2⟩:=C.xs m (a0k _) k;by_cases hw:∃i,i<m/\k∈ca (N i)
 ·obtain⟨i,h1,h2⟩:=hw
  have hli:isL listed i:=by
   cases h:vm all.size (ij [] all.toList) m i with
   |false=>exact hall i h1 h
   |true=>rw[C.flN h1 h]at h2;cases h2
  rw[(x1 i h1 h2).1,S.d i k (by omega) hli h2]
  cases hg:go (N i) k with
  |none=>exact absurd hg (zp.1 h2)
  |some ob=>rfl
 ·rw[x2 fun i h1 h2=>hw ⟨i,h1,h2⟩];simp only;exact (S.c k fun i hi hli h2=>hw ⟨i,hl i hi hli,h2⟩).symm
theorem Hctx.any(hΦ:uw P F Φ)(hB:TabOk P B)(C:Hctx D R Ds ks as B Φ all m E X N M0)(Q:Exit->Act->World->Prop)(K:Env->Mem->Prop)(hQ:∀p env M a w,St F p env M a w->K env M->Q .normal a w)(hco:mr F.nt all.toList=true)(hfv:∀o∈all.toList,∀k,o.dst=some k->F.fv k=none)
  (hlast:tw B Φ (toL all) (all.toList.drop m) (E m) (ap (X m) M0) K) (hck:ags ks as B Φ (ac6 all.toList m) (adt all.toList m) (all.toList.drop m) (E m) (ap (X m) M0)=true) :
  ∀(fuel:Nat)(listed:Array Bool)(p:Ow)(env:Env)(M:Mem)(a:Act)(w:World),listed.size=all.size->(∀i,i<all.size->isL listed i->i<m)->unl listed all.size<=fuel->ahx all listed->Hsta all m E N M0 listed env M->St F p env M a w->wpAny P .any all Q fuel listed a w:=by
 have hm:=C.hm;have huq:∀(i j:Nat)(x y:Oper)(t:Nat),i<m->j<m->all[i]? = some x->all[j]? = some y->x.dst=some t->y.dst=some t->i=j:=fun i j x y t hi hj hx hy h1 h2=>C.uniq hi hj hx hy h1 h2;have last:∀(fuel:Nat)(listed:Array Bool)(p:Ow)(env:Env)(M:Mem)(a:Act)(w:World),listed.size=all.size->(∀i,i<all.size->isL listed i->i<m)->unl listed all.size<=fuel->ahx all listed->Hsta all m E N M0 listed env M->St F p env M a w->(∀i,i<m->vm all.size (ij [] all.toList) m i=false->isL listed i)->wpAny P .any all Q fuel listed a w:=by intro fuel listed p env M a w hs hl hu hdn S hst hall;exact bzx hΦ hB Q K hQ C.hb C.ht C.hR C.hf huq C.hdr hco hfv fuel listed m p env (E m) (ap (X m) M0) a w hs (fun i hi his=>⟨fun h=>hl i his h,fun h=>absurd h (by omega)⟩) (a0k _) hu hdn (C.turn hl hdn S hall) (by rw[a4d];exact hck) (hst.same (C.fin hl S hall) fun _=>rfl) hlast
 intro fuel
 induction fuel with
 |zero=>intro listed p env M a w hs hl hu hdn S hst;exact last 0 listed p env M a w hs hl hu hdn S hst fun i hi _=>ahs (Nat.le_zero.1 hu) i (by omega)
 |succ fuel ih=>
  intro listed p env M a w hs hl hu hdn S hst;by_cases hall:∀i,i<m->vm all.size (ij [] all.toList) m i=false->isL listed i
  ·exact last (fuel+1) listed p env M a w hs hl hu hdn S hst hall
  ·refine⟨fun hr=>absurd (fun i hi _=>agt hs C.hb hr i (by omega)) hall,fun j hj=>?_⟩;obtain⟨o,h1,h2,h3⟩:=t8 hj;have hjs:=(a0x.1 h1).1;have hnl:¬isL listed j:=by unfold isL;simp[hs,hjs]at h2⊢;exact h2
   have hjm:j<m:=by
    rcases a15 j m with h|h
    ·exact h
    ·exact absurd (fun i _ hf=>j7 hdn C.hb j o h1 h3 i (buz hf hjs h)) hall
   have hmem:o∈all.toList:=by rw[a19];exact a27 h1
   refine a3z (fun a' w' ⟨p',env',M',e1,e2⟩=>ih _ p' env' M' a' w' (by simpa using hs) (fun i hi hli=>?_) ?_ (hdn.set hj) e2 e1) (aqu hΦ hB hst (C.step hs hl hdn S hst h1 hjm hnl h3) (w9 hco hmem) (hfv o hmem) h1 Q)
   ·rcases (awl (by rw[hs];exact hjs)).1 hli with h|h
    ·omega
    ·exact hl i hi h
   ·have:=alq (by rw[hs];exact hjs) hnl all.size hjs;omega
theorem bi2(hΦ:uw P F Φ)(hB:TabOk P B){ops:Array Oper}{cut:Nat}(hco:mr F.nt (toL ops)=true)(hfv:∀o∈toL ops,∀k,o.dst=some k->F.fv k=none)(hr:au7 D R (toL ops) cut=true)(hR:R=false->ks=[])(hD:D=true->∀i,i<cut->vm (toL ops).length (ij [] (toL ops)) cut i=true->Ds.getD i false=true){K:Env->Mem->Prop}{Q:Exit->Act->World->Prop}
  (hQ:∀p env M a w,St F p env M a w->K env M->Q .normal a w) {p:Ow} {env:Env} {M:Mem} {a:Act} {w:World} (h:St F p env M a w) (hn:ab0 env=true)
  (hk:hx Ds ks as B Φ M (eq cut (toL ops)) env [] (fun env X=>bif nob (nogd env) (ags ks as B Φ (ac6 (toL ops) cut) (adt (toL ops) cut) (nz cut (toL ops)) env (ap X M))then twG B Φ (toL ops) (nz cut (toL ops)) env (ap X M) K else False)):wpAny P .any ops Q ops.size (Array.replicate ops.size false) a { w with drawn:=w.drawn+1 }:=by
 rw[ew]at hco hfv hr;rw[am5,arb]at hk;simp only[au7,a0b]at hr;obtain⟨h1,h2,h3,h5,h4⟩:=hr;obtain⟨E,X,N,e0,x0,e1,e2⟩:=bk2 _ _ _ _ _ hk;have hm:cut<=ops.toList.length:=a08 h2;have hm':cut<=ops.size:=by simpa using hm
 rw[ew,a03,a39 hm]at e2
 cases hng0:nob (nogd (E cut)) (ags ks as B Φ (ac6 ops.toList cut) (adt ops.toList cut) (ops.toList.drop cut) (E cut) (ap (X cut) M))with
 |false=>rw[hng0]at e2;exact e2.elim
 |true=>
 rw[hng0]at e2;simp only[a0d]at e2;simp only[be,a0b]at hng0;obtain⟨hng,hck⟩:=hng0;replace e2:=aqs (B:=B) (Φ:=Φ) _ _ _ (arx hng) e2
 have C:Hctx D R Ds ks as B Φ ops cut E X N M:={
  hR:=hR
  hD:=fun h i hi hf=>hD h i hi (by rw[ew];simpa using hf)
  hb:=h1
  hm:=hm'
  ht:=by simpa using h3
  hf:=by simpa using h5
  hdr:=by simpa using h4
  hE:=fun j o ho hj=>e1 j o (by rw[ew,a30 hj,nx];exact ho)
  hX:=x0
  h0:=fun t=>by rw[e0];exact bjv hn }
 exact C.any hΦ hB Q K hQ hco hfv (by simpa only [ew]using e2) hck _ _ p env M a _ (by simp) (fun i _ hi=>absurd hi ze) (bbf _ _) (fun j o _ hi=>absurd hi ze)
  ⟨fun t _=>by rw[e0],fun i o t _ hi=>absurd hi ze,fun k _=>rfl,fun i k _ hi=>absurd hi ze⟩ h.drew
theorem bni(hΦ:uw P F Φ)(hB:TabOk P B)(hmix:P.follows .mixedOrders=true){id:Nat}{ops:Array Oper}{cut:Nat}(hco:mr F.nt (toL ops)=true)(hfv:∀o∈toL ops,∀k,o.dst=some k->F.fv k=none)(hr:au7 D R (toL ops) cut=true)(hR:R=false->ks=[])(hD:D=true->∀i,i<cut->vm (toL ops).length (ij [] (toL ops)) cut i=true->Ds.getD i false=true){K:Env->Mem->Prop}{Q:Exit->Act->World->Prop}
  (hQ:∀p env M a w,St F p env M a w->K env M->Q .normal a w) {p:Ow} {env:Env} {M:Mem} {a:Act} {w:World} (h:St F p env M a w) (hn:ab0 env=true)
  (hk:hx Ds ks as B Φ M (eq cut (toL ops)) env [] (fun env X=>bif nob (nogd env) (ags ks as B Φ (ac6 (toL ops) cut) (adt (toL ops) cut) (nz cut (toL ops)) env (ap X M))then twG B Φ (toL ops) (nz cut (toL ops)) env (ap X M) K else False)):(Code.region id ops true).wp P Q a w:=
 a41 hmix (bi2 hΦ hB hco hfv hr hR hD hQ h hn hk)
end
end
end Go.Bm
