/- The typed machine that the walks of this claim go by: its data, its operations and the proof that each is sound. No condition. -/
import Derived.Test.YtimfdllgcnabjaaGreatBmThree
set_option linter.unusedVariables false
set_option linter.unusedSimpArgs false
set_option linter.unusedSectionVars false
namespace Go.Bm
open Go.RowKit
abbrev lE:=@Bool.or_eq_false_iff
abbrev oB:=@Bool.not_eq_false'
abbrev zg:=@Bool.or_true
abbrev oC:=@Code.wp_mono
abbrev C6:=@wp_region_any
abbrev sf:=@Decidable.byContradiction
abbrev wm:=@Classical.byContradiction
abbrev C7:=@List.mem_range
abbrev wx:=@List.getD_cons_zero
abbrev ut:=@Nat.sub_self
variable {B:Tab}{D R b side:bo}{Ds:gj}{E:Nat->Env}{F:Fr}{Im:aT}{K:Env->Mem->Prop}{M M' M'' M0 M1 M2 N N' x':Mem}{P:cX}{Q Q':gi}{W:Wt}{X:Nat->Mem}{a a':Act}{after:Array Edge}{all rest:bL}{as ks ms:aZ}{c:jv}{ct:Ct}{cut i id j k m n s u:Nat}{d dst:eP}{e e2:bM}{e' env env' envK:Env}{f ρ:dI}{fs:vT}{guard:Option (Nat×Bool)}{hi lo:pK}{l:l7}{listed:eQ}{o x:bj}{ob q:Ob}{ops:fK}{os:Obs}{p p' p'':Ow}{pos:String}{ps:ou}{r vs:cf}{ss:Shs}{t ty':bF}{v y:V}{vc:nx}{w w' w'':aQ}{Φ:du}{α ι:Type}{β:fD}{π:bz}{τ:Ty}
theorem Tr.mv(h:Hp F p M w)(hj:go M j=some ob)(hk:go M k=none)(hg:j<gid):
  Tr F p M w [.mv j k] ⟨λi=>if i=k then p.β j else p.β i,λi=>if i=k then p.σ j else p.σ i,p.L⟩ ((k,ob)::del j M) w:=by
 generalize hp':(⟨λi=>if i=k then p.β j else p.β i,λi=>if i=k then p.σ j else p.σ i,p.L⟩:Ow)=p';have hjk:j≠k:=by rintro rfl;rw[hj]at hk;cases hk
 have hβk:p'.β k=p.β j:=by rw[←hp'];simp
 have hσk:p'.σ k=p.σ j:=by rw[←hp'];simp
 have hβ:∀i,i≠k->p'.β i=p.β i:=λi hi=>by rw[←hp'];simp[hi]
 have hσ:∀i,i≠k->p'.σ i=p.σ i:=λi hi=>by rw[←hp'];simp[hi]
 have hL:p'.L=p.L:=by rw[←hp']
 have hgk:go ((k,ob)::Bm.del j M) k=some ob:=mG _ _ _;have hgi:∀i,i≠k->i≠j->go ((k,ob)::Bm.del j M) i=go M i:=λi h1 h2=>by rw[cJ,aj (cM h1),dC h2]
 have hgj:go ((k,ob)::Bm.del j M) j=none:=by rw[cJ,aj (cM hjk),eJ]
 have hlive:∀i,bm ((k,ob)::Bm.del j M) i->i=k\/(i≠k/\i≠j/\bm M i):=λi hi=>by
  by_cases e:i=k
  ·exact .inl e
  ·by_cases e':i=j
   ·subst e';unfold bm at hi;rw[hgj]at hi;cases hi
   ·refine .inr ⟨e,e',?_⟩;unfold bm at hi⊢;rwa [hgi i e e']at hi
 have hlj:=bP hj
 have hkeep:cE (Imm F p M w) (Imm F p' ((k,ob)::Bm.del j M) w) w w:=λb hb=>by
  refine⟨⟨hb.1,hb.2.1,by rw[hL];exact hb.2.2.1,λi hi=>?_⟩,rfl⟩;rcases hlive i hi with rfl|⟨h1,h2,h3⟩
  ·rw[hσk];exact hb.2.2.2 j hlj
  ·rw[hσ i h1];exact hb.2.2.2 i h3
 have hne:∀i,bm M i->i≠k:=λi hi e=>by subst e;unfold bm at hi;rw[hk]at hi;cases hi
 refine Tr.one _ hkeep (λi π vs r=>?_) (λi π v r=>?_) ⟨λi o hi=>?_,λi i' b hne' hi hi' hb=>?_,λi b hi hb=>?_,λb hb=>?_,h.os,h.tape,h.output,h.size,h.old⟩
 ·simp only[Ev.ref,cS];have hik:i≠k:=by obtain⟨o,_,h1,_⟩:=r;exact hne i (bP h1)
  split
  ·rename_i e;subst e;simp only[ac];obtain⟨o,pl,h1,h2,h3,h4⟩:=r;rw[hj]at h1;cases h1;exact⟨ob,pl,hgk,h2,h3,by rw[hβk];exact h4⟩
  ·rename_i e;simp only[ac];exact r.same h (hgi i hik e) (hβ i hik) (λ_ _ _=>rfl)
 ·simp only[Ev.ad,cS];have hik:i≠k:=by obtain⟨o,_,_,_,h1,_⟩:=r;exact hne i (bP h1)
  split
  ·rename_i e;subst e;simp only[ac];obtain⟨o,us,b,off,h1,h2,h3,h4,h5,h6⟩:=r;rw[hj]at h1;cases h1;exact⟨v,rfl,ob,us,b,off,hgk,h2,h3,h4,by rw[hβk];exact h5,h6⟩
  ·rename_i e;simp only[ac];exact⟨v,rfl,r.same h (hgi i hik e) (hβ i hik) (λ_ _ _=>rfl)⟩
 ·rcases hlive i (bP hi)with rfl|⟨h1,h2,h3⟩
  ·rw[hgk]at hi;cases hi;rw[hβk,hσk];exact Rel.keep hkeep _ _ _ _ (λ_ _=>rfl) (h.objs j ob hj)
  ·rw[hgi i h1 h2]at hi;rw[hβ i h1,hσ i h1];exact Rel.keep hkeep _ _ _ _ (λ_ _=>rfl) (h.objs i o hi)
 ·rcases hlive i hi with e|⟨h1,h2,h3⟩
  ·rcases hlive i' hi' with e'|⟨h1',h2',h3'⟩
   ·exact absurd (e.trans e'.symm) hne'
   ·rw[e,hσk]at hb;rw[hσ i' h1'];exact h.sep j i' b (cM h2') hlj h3' hb
  ·rw[hσ i h1]at hb;rcases hlive i' hi' with e'|⟨h1',h2',h3'⟩
   ·rw[e',hσk];exact h.sep i j b h2 h3 hlj hb
   ·rw[hσ i' h1'];exact h.sep i i' b hne' h3 h3' hb
 ·rcases hlive i hi with e|⟨h1,h2,h3⟩
  ·rw[e,hσk]at hb;obtain⟨o1,o2⟩:=h.own j b hlj hb;exact⟨o1,o2.elim (λh=>by have:=h.1;omega) .inr⟩
  ·rw[hσ i h1]at hb;exact h.own i b h3 hb
 ·rw[hL]at hb;obtain⟨l1,l2,l3⟩:=h.lim b hb;refine⟨l1,l2,λi hi=>?_⟩;rcases hlive i hi with e|⟨h1,h2,h3⟩
  ·rw[e,hσk];exact l3 j hlj
  ·rw[hσ i h1];exact l3 i h3
theorem St.desc(h:St F p env M a w)(t:Nat)(x:V)(hx:ae p.β M (Imm F p M w) w x (a.tmps.getD t undef)):St F p ((t,x)::env) M a w:=by
 refine⟨h.defers,h.nt,h.fix,h.ik,h.lz,λt'=>?_,h.hp⟩;rw[dZ];by_cases e:t=t'
 ·subst e;rw[am rfl];exact hx
 ·rw[aj e];exact h.slots t'
theorem sF(os:Obs):(ss:Shs)->(p:Ow)->(env:Env)->(M:Mem)->St F p env M a w->∃p',St F p' (lM os ss env M).1 (lM os ss env M).2 a w
 |[],p,env,M,h=>⟨p,h⟩
 |(t,.d _)::r,p,env,M,h|(t,.ad _ _)::r,p,env,M,h|(t,.fn _)::r,p,env,M,h|(t,.bx _)::r,p,env,M,h|(t,.fc _ _)::r,p,env,M,h|(t,.pr _ _)::r,p,env,M,h|(t,.u)::r,p,env,M,h|(t,.ref _ (_::_))::r,p,env,M,h=>by simp only[lM];exact sF os r p env M h
 |(t,.ref k [])::r,p,env,M,h=>by
  simp only[lM];split
  ·rename_i o hnl _;have hs:=h.slots t;rw[hnl]at hs;simp only[ae,ac,bG,az]at hs;have h1:St F p (evE (.kl k) env) (del k M) a w:=h.tr (Tr.kl h.hp k) h.lz;obtain⟨oa,hs⟩:=hs;have h2:=Tr.new h1.hp k (eJ k M) (.slice oa 0 0) (λ_=>False) ⟨.sl o,[]⟩ ⟨rfl,⟨rfl,bd _⟩,rfl,bd _,λ_ _ _=>rfl⟩ (λb hb=>hb.elim) (λ_=>AW o oa);have h3:St F _ (evE (.kl k) env) ((k,⟨.sl o,[]⟩)::del k M) a w:=h1.tr h2 (λb hb=>hb);refine sF os r _ _ _ (h3.desc t (.ref k []) ?_);simp only[ae,ac];refine⟨⟨.sl o,[]⟩,none,mG _ _ _,by simp only[gok],⟨⟨.sl o,[]⟩,by simp only[get]⟩,?_⟩;rw[uT,hs];simp only[res]
  ·rename_i j x
   cases hb:orb (Nat.beq j k) (neg (Nat.ble (Nat.succ j) gid))with
   |true=>simp only[aD];exact sF os r p env M h
   |false=>
    simp only[bc];simp only[eX,gu,lE,oB]at hb;split
    ·rename_i ob hj;have hjk:j≠k:=by rintro rfl;simp at hb
     have h1:St F p (evE (.kl k) env) (del k M) a w:=h.tr (Tr.kl h.hp k) h.lz;have h2:=Tr.mv h1.hp (j:=j) (k:=k) (ob:=ob) (by rw[dC hjk];exact hj) (eJ k M) (eU hb.2);have h3:St F _ (evE (.mv j k) (evE (.kl k) env)) ((k,ob)::del j (del k M)) a w:=h1.tr h2 h1.lz;exact sF os r _ _ _ h3
    ·exact sF os r p env M h
  ·exact sF os r p env M h
theorem PU:(os:Obs)->(p:Ow)->(env:Env)->(M:Mem)->St F p env M a w->∃p',St F p' (BN os env M).1 (BN os env M).2 a w:=λ_ p _ _ h=>⟨p,h⟩
theorem sU(os:Obs):(ks:aZ)->(M:Mem)->(env:Env)->St F p env M a w->St F p (jf os ks M env).1 (jf os ks M env).2 a w
 |[],M,env,h=>h
 |k::r,M,env,h=>by
  simp only[jf]
  cases inO k os with
  |true=>simp only[aD];exact sU os r M env h
  |false=>
   simp only[bc];split
   ·rename_i ob hk;have h1:St F p (evE (.fz k ob) env) (del k M) a w:=h.tr (Tr.frz h.hp k ob hk) h.lz;exact sU os r _ _ h1
   ·exact sU os r M env h
theorem Jj(M:Mem):(os:Obs)->(x:eO os)->kB M os=some x->∀k ob,go (dz os x) k=some ob->oOf k os=some ob.o/\∃q,go M k=some q/\wkO q ob.o=some ob.x
 |[],x,h,k,ob,hk=>by simp[dz,go]at hk
 |(j,o)::r,x,h,k,ob,hk=>by
  simp only[kB]at h;split at h
  ·rename_i q hq;split at h
   ·rename_i y z hy hz;cases h;simp only[dz]at hk;rw[cJ]at hk;simp only[oOf,cS];by_cases e:j=k
    ·subst e;rw[am rfl]at hk⊢;cases hk;exact⟨rfl,q,hq,hy⟩
    ·rw[aj e]at hk⊢;exact Jj M r z hz k ob hk
   ·cases h
  ·cases h
theorem DJ(M:Mem):(os:Obs)->(x:eO os)->kB M os=some x->∀k o,oOf k os=some o->∃y,go (dz os x) k=some ⟨o,y⟩
 |[],x,h,k,o,hk=>by simp[oOf]at hk
 |(j,o')::r,x,h,k,o,hk=>by
  simp only[kB]at h;split at h
  ·rename_i q hq;split at h
   ·rename_i y z hy hz;cases h;simp only[oOf,cS]at hk;simp only[dz];rw[cJ];by_cases e:j=k
    ·subst e;rw[am rfl]at hk⊢;cases hk;exact⟨y,rfl⟩
    ·rw[aj e]at hk⊢;exact DJ M r z hz k o hk
   ·cases h
  ·cases h
theorem uU{o:O}{x:o.strip.den}(h:wkO q o=some x):q.o.wk o=true/\fQ o.strip q.x=some x:=by
 unfold wkO at h
 cases hw:q.o.wk o with
 |false=>rw[hw]at h;cases h
 |true=>rw[hw]at h;exact⟨rfl,h⟩
theorem ad2(h:Hp F p M w)(hL:∀b,¬p.L b)(os:Obs)(x:eO os)(hx:kB M os=some x):∃p',p'.β=p.β/\(∀b,¬p'.L b)/\cE (Imm F p M w) (Imm F p' (dz os x) w) w w/\Hp F p' (dz os x) w:=by
 classical
 have hall:∀k ob,go (dz os x) k=some ob->bm M k/\Wk (Imm F p M w) w ob.o ob.x (p.σ k) [p.β k]:=λk ob hk=>by obtain⟨_,q,h1,h2⟩:=Jj M os x hx k ob hk;obtain⟨h3,h4⟩:=uU h2;exact⟨bP h1,nQ q.o ob.o h3 q.x ob.x _ _ h4 (h.objs k q h1)⟩
 let σ':Nat->Nat->Prop:=λk=>if hk:∃ob,go (dz os x) k=some ob then (hall k hk.choose hk.choose_spec).2.choose elseλ_=>False
 have hσ:∀k ob,go (dz os x) k=some ob->(∀b,σ' k b->p.σ k b)/\∀Im':Nat->Prop,(∀b,Imm F p M w b->Im' b)->(∀b,p.σ k b->¬σ' k b->Im' b)->Rel Im' w ob.o ob.x (σ' k) [p.β k]:=λk ob hk=>by
  have hex:∃ob,go (dz os x) k=some ob:=⟨ob,hk⟩;have e1:σ' k=(hall k hex.choose hex.choose_spec).2.choose:=by simp only[σ',dif_pos hex]
  have h2:=(hall k hex.choose hex.choose_spec).2.choose_spec;have e2:ob=hex.choose:=se (hk.symm.trans hex.choose_spec);rw[e1,e2];exact h2
 have hlv:∀k,bm (dz os x) k->bm M k/\∀b,σ' k b->p.σ k b:=λk hk=>by obtain⟨ob,ho⟩:=JY hk;exact⟨(hall k ob ho).1,(hσ k ob ho).1⟩
 have hkeep:cE (Imm F p M w) (Imm F ⟨p.β,σ',λ_=>False⟩ (dz os x) w) w w:=λb hb=>⟨⟨hb.1,hb.2.1,λh=>h,λk hk hs=>hb.2.2.2 k (hlv k hk).1 ((hlv k hk).2 b hs)⟩,rfl⟩;refine⟨⟨p.β,σ',λ_=>False⟩,rfl,λb hb=>hb,hkeep,⟨λk ob hk=>?_,λk k' b hne hk hk' hb hb'=>?_,λk b hk hb=>?_,λb hb=>hb.elim,h.os,h.tape,h.output,h.size,h.old⟩⟩
 ·refine (hσ k ob hk).2 _ (λb hb=>(hkeep b hb).1) (λb hb hn=>?_);have hlk:=(hall k ob hk).1;obtain⟨o1,o2⟩:=h.own k b hlk hb;refine⟨o1,o2.elim (λh=>.inr (.inl h.2)) (λh=>.inr h.r),λh=>h,λj hj hs=>?_⟩;by_cases e:j=k
  ·subst e;exact hn hs
  ·exact h.sep k j b (cM e) hlk (hlv j hj).1 hb ((hlv j hj).2 b hs)
 ·exact h.sep k k' b hne (hlv k hk).1 (hlv k' hk').1 ((hlv k hk).2 b hb) ((hlv k' hk').2 b hb')
 ·exact h.own k b (hlv k hk).1 ((hlv k hk).2 b hb)
theorem Ji:(a b:bz)->peq a b=true->a=b
 |[],[],_=>rfl
 |.l::a,.l::b,h|.r::a,.r::b,h|.de::a,.de::b,h=>by simp only[peq]at h;rw[Ji a b h]
 |[],_::_,h|.ix _::_,[],h|.l::_,[],h|.r::_,[],h|.de::_,[],h|.ix _::_,_::_,h|.l::_,.r::_,h|.l::_,.de::_,h|.l::_,.ix _::_,h|.r::_,.l::_,h|.r::_,.de::_,h|.r::_,.ix _::_,h|.de::_,.l::_,h|.de::_,.r::_,h|.de::_,.ix _::_,h=>by simp[peq]at h
theorem OM{x:eO os}(hx:kB M os=some x){o:O}(hq:go M k=some q)(ho:oOf k os=some o)(he:q.o.beq o=true):go (dz os x) k=some q:=by obtain⟨y,hy⟩:=DJ M os x hx k o ho;obtain⟨_,q',h1,h2⟩:=Jj M os x hx k _ hy;rw[hq]at h1;cases h1;have:=(uU h2).2;have e:=O.beq_eq he;obtain⟨qo,qx⟩:=q;simp only at e this;subst e;rw[uI]at this;cases this;exact hy
theorem H_(hβ:p'.β=p.β){x:eO os}(hx:kB M os=some x){vs:aM}(h:Ref p.β M w k π vs)(hok:FI M os k π=true):Ref p'.β (dz os x) w k π vs:=by
 unfold FI at hok;split at hok
 ·rename_i q o hq ho;simp only[eX,e9]at hok;rcases hok with hn|he
  ·cases π with
   |cons _ _=>simp[iI]at hn
   |nil=>obtain⟨y,hy⟩:=DJ M os x hx k o ho;obtain⟨ob,pl,h1,h2,h3,h4⟩:=h;simp only[res,aI,bE]at h4;exact⟨⟨o,y⟩,none,hy,by simp only[gok],⟨⟨o,y⟩,by simp only[get]⟩,by simp only[res,hβ,h4.1]⟩
  ·have:=OM hx hq ho he;obtain⟨ob,pl,h1,h2,h3,h4⟩:=h;rw[hq]at h1;cases h1;exact⟨q,pl,this,h2,h3,by rw[hβ];exact h4⟩
 ·cases hok
theorem acc(hp:Hp F p M w)(hβ:p'.β=p.β){x:eO os}(hx:kB M os=some x){v:bw}(h:Adr p.β M w k π v)(hok:FV M os k π=true):Adr p'.β (dz os x) w k π v:=by
 unfold FV at hok;split at hok
 ·rename_i q o hq ho;simp only[eX,e9]at hok;rcases hok with hn|he
  ·obtain⟨y,hy⟩:=DJ M os x hx k o ho;obtain⟨m,s1,s2⟩:=Ef hn;obtain⟨ob,us0,b0,off0,k1,k2,k3,k4,k5,rfl⟩:=h;rw[hq]at k1;cases k1;obtain⟨ρ1,o1,rfl,e1,f1⟩:=uN s1;obtain⟨ρ2,o2,e2',e2,f2⟩:=uN s2;simp only[bG,aL]at e2';subst e2';subst e2;obtain⟨qo,qx⟩:=q;simp only at e1;subst e1;have hr:=hp.objs k _ hq;simp only[Rel]at hr;obtain⟨bb,us1,ty',S1,r1,r2,r3,r4,r5⟩:=hr;simp only[bG,az]at r1;rw[r1]at k5;simp only[res]at k5;obtain⟨_,_,us2,q3⟩:=kr w ρ1 o1 m f1 qx (cellsOf w bb 0 o1.size) (some (bb,0));rw[q3]at k5;simp only[aI,bE]at k5;obtain⟨q1,q2,us3,q3'⟩:=kr w ρ1 o2 m f2 y (cellsOf w bb 0 o2.size) (some (bb,0));refine⟨_,us3,b0,off0,hy,by simpa only [gok]using q2,by simpa only [get]using q1,by simp only[bV],?_,rfl⟩;rw[hβ,r1];simp only[res];rw[q3',k5.2]
  ·have:=OM hx hq ho he;obtain⟨ob,us,b,off,h1,h2,h3,h4,h5,h6⟩:=h;rw[hq]at h1;cases h1;exact⟨q,us,b,off,this,h2,h3,h4,by rw[hβ];exact h5,h6⟩
 ·cases hok
theorem AF(hp:Hp F p M w)(hβ:p'.β=p.β){os:Obs}{x:eO os}(hx:kB M os=some x)(hk:cE (Imm F p M w) (Imm F p' (dz os x) w) w w):(s:Sh)->(v:V)->(vs:aM)->(y:s.den)->ac p.β M (Imm F p M w) w v vs->s.read M os v=some y->ac p'.β (dz os x) (Imm F p' (dz os x) w) w (s.put y) vs
 |.d t,v,vs,y,r,h=>by simp only[Sh.read]at h;simp only[Sh.put];exact ko t y vs (ai.keep hk _ _ _ (mW v t vs y r h))
 |.ref k π,v,vs,y,r,h=>by
  cases v<;>simp only[Sh.read]at h<;>try (cases h;done)
  rename_i k' π'
  cases hb:nob (FI M os k π) (nob (Nat.beq k k') (peq π π'))with
  |false=>rw[hb]at h;cases h
  |true=>simp only[aP,ao]at hb;have e1:=cR hb.2.1;have e2:=Ji _ _ hb.2.2;subst e1;subst e2;simp only[ac]at r;simp only[Sh.put,ac];exact H_ hβ hx r hb.1
 |.ad k π,v,vs,y,r,h=>by
  cases v<;>simp only[Sh.read]at h<;>try (cases h;done)
  rename_i k' π'
  cases hb:nob (FV M os k π) (nob (Nat.beq k k') (peq π π'))with
  |false=>rw[hb]at h;cases h
  |true=>simp only[aP,ao]at hb;have e1:=cR hb.2.1;have e2:=Ji _ _ hb.2.2;subst e1;subst e2;simp only[ac]at r;obtain⟨z,rfl,r⟩:=r;simp only[Sh.put,ac];exact⟨z,rfl,acc hp hβ hx r hb.1⟩
 |.fn f,v,vs,y,r,h=>by
  cases v<;>(try simp only[Sh.read]at h)<;>try (cases h;done)
  rename_i f' v';cases v'<;>(try simp only[Sh.read]at h)<;>try (cases h;done)
  simp only[cS]at h;split at h
  ·rename_i e;subst e;simp only[ac]at r;simp only[Sh.put,ac];exact r
  ·cases h
 |.bx s,v,vs,y,r,h=>by
  cases v<;>simp only[Sh.read]at h<;>try (cases h;done)
  simp only[ac]at r;obtain⟨b,o,us,h1,h2,h3,h4⟩:=r;simp only[Sh.put,ac];exact⟨b,o,us,h1,(hk b h2).1,h3,AF hp hβ hx hk s _ _ y h4 h⟩
 |.fc f s,v,vs,y,r,h=>by
  cases v<;>simp only[Sh.read]at h<;>try (cases h;done)
  simp only[cS]at h;split at h
  ·rename_i e;subst e;simp only[ac]at r;obtain⟨us,h1,h2⟩:=r;simp only[Sh.put,ac];exact⟨us,h1,AF hp hβ hx hk s _ _ y h2 h⟩
  ·cases h
 |.pr a b,v,vs,y,r,h=>by
  cases v<;>simp only[Sh.read]at h<;>try (cases h;done)
  split at h
  ·rename_i z1 z2 h1 h2;simp only[ac]at r;obtain⟨va,vb,e,ra,rb⟩:=r;cases h;simp only[Sh.put,ac];exact⟨va,vb,e,AF hp hβ hx hk a _ _ _ ra h1,AF hp hβ hx hk b _ _ _ rb h2⟩
  ·cases h
 |.u,v,vs,y,r,h=>by
  cases v<;>simp only[Sh.read]at h<;>try (cases h;done)
  simp only[Sh.put];simpa only [ac]using r
theorem ab3(hp:Hp F p M w)(hβ:p'.β=p.β){x:eO os}(hx:kB M os=some x)(hk:cE (Imm F p M w) (Imm F p' (dz os x) w) w w)(s:Sh)(v:V)(u:bw)(y:s.den)(r:ae p.β M (Imm F p M w) w v u)(h:s.read M os v=some y):ae p'.β (dz os x) (Imm F p' (dz os x) w) w (s.put y) u:=by
 have key:ac p.β M (Imm F p M w) w v [u]->ae p'.β (dz os x) (Imm F p' (dz os x) w) w (s.put y) u:=λr=>my (AF hp hβ hx hk s v [u] y r h)
 cases v with
 |any=>cases s with
  |d t=>cases t<;>simp[Sh.read,V.as]at h
  |_=>simp[Sh.read]at h
 |ag z=>cases s with
  |d t=>cases t<;>simp[Sh.read,V.as]at h
  |_=>simp[Sh.read]at h
 |tup z=>cases s with
  |d t=>cases t<;>simp[Sh.read,V.as]at h
  |_=>simp[Sh.read]at h
 |gd _ _ _ z=>cases s with
  |d t=>cases t<;>simp[Sh.read,V.as]at h
  |_=>simp[Sh.read]at h
 |_=>exact key (by simpa only [ae]using r)
theorem Qy(hp:Hp F p M w)(hβ:p'.β=p.β){os:Obs}{x:eO os}(hx:kB M os=some x)(hk:cE (Imm F p M w) (Imm F p' (dz os x) w) w w)(hs:∀t,ae p.β M (Imm F p M w) w (gt env t) (a.tmps.getD t undef)) :
  (ss:Shs)->(y:gP ss)->yp M os env ss=some y->∀t,ae p'.β (dz os x) (Imm F p' (dz os x) w) w (gt (pw ss y) t) (a.tmps.getD t undef)
 |[],y,h,t=>by simp only[pw,gt,ae]
 |(t',s)::r,y,h,t=>by
  simp only[yp]at h;split at h
  ·rename_i z1 z2 h1 h2;cases h;simp only[pw];rw[dZ];split
   ·rename_i e;subst e;exact ab3 hp hβ hx hk s _ _ z1 (hs t') h1
   ·exact Qy hp hβ hx hk hs r z2 h2 t
  ·cases h
theorem uG{β β':fD}{Im Im':aT}(hk:cE Im Im' w w'):(v:V)->bu v=true->(∀vs,ac β M Im w v vs->ac β' M' Im' w' v vs)/\∀u,ae β M Im w v u->ae β' M' Im' w' v u
 |.d t x,_=>⟨λvs r=>by simp only[ac]at r⊢;exact ai.keep hk t x vs r,λu r=>by rw[bp]at r⊢;exact ai.keep hk t x _ r⟩
 |.nl,_|.np,_|.u,_=>⟨λvs r=>by simpa only [ac]using r,λu r=>by simpa only [ae,ac]using r⟩
 |.p a b,h=>by
  simp only[bu,aP,ao]at h;have key:∀vs,ac β M Im w (.p a b) vs->ac β' M' Im' w' (.p a b) vs:=λvs r=>by simp only[ac]at r⊢;obtain⟨va,vb,e,h1,h2⟩:=r;exact⟨va,vb,e,(uG hk a h.1).1 va h1,(uG hk b h.2).1 vb h2⟩
  exact⟨key,λu r=>by simp only[ae]at r⊢;exact key _ r⟩
 |.ag v,h=>by simp only[bu]at h;refine⟨λvs r=>by simp only[ac]at r,λu r=>?_⟩;simp only[ae]at r⊢;obtain⟨vs,e,h1⟩:=r;exact⟨vs,e,(uG hk v h).1 vs h1⟩
 |.fn f v,h=>by
  simp only[bu]at h;have key:∀vs,ac β M Im w (.fn f v) vs->ac β' M' Im' w' (.fn f v) vs:=λvs r=>by simp only[ac]at r⊢;obtain⟨us,e,h1⟩:=r;exact⟨us,e,(uG hk v h).1 us h1⟩
  exact⟨key,λu r=>by simp only[ae]at r⊢;exact key _ r⟩
 |.bx v,h=>by
  simp only[bu]at h;have key:∀vs,ac β M Im w (.bx v) vs->ac β' M' Im' w' (.bx v) vs:=λvs r=>by simp only[ac]at r⊢;obtain⟨b,o,us,e,h1,h2,h3⟩:=r;exact⟨b,o,us,e,(hk b h1).1,h2.keep (hk b h1).2,(uG hk v h).1 us h3⟩
  exact⟨key,λu r=>by simp only[ae]at r⊢;exact key _ r⟩
 |.any,h|.ref _ _,h|.ad _ _,h|.tup _,h|.gd _ _ _ _,h|.ifc _ _,h=>by simp[bu]at h
theorem Jw(h:St F p env M a w){q:(gP ss×eO os)×Env}(hr:tG ss os env M=some q):
  ∃p',St F p' (pw ss q.1.1) (dz os q.1.2) a w/\∀t,bu (gt q.2 t)=true->ae p'.β (dz os q.1.2) (Imm F p' (dz os q.1.2) w) w (gt q.2 t) (a.tmps.getD t undef):=by
 unfold tG at hr;obtain⟨p0,h0⟩:=sF os ss p env M h;generalize lM os ss env M=z0 at hr h0;obtain⟨env0,M0⟩:=z0;simp only at hr h0;obtain⟨p1,h1⟩:=PU os p0 env0 M0 h0;generalize BN os env0 M0=z1 at hr h1;obtain⟨env1,M1⟩:=z1;simp only at hr h1;have h2:=sU os (ba M1) M1 env1 h1;generalize jf os (ba M1) M1 env1=z2 at hr h2;obtain⟨env2,M2⟩:=z2;simp only at hr h2;split at hr
 ·rename_i y x hy hx;cases hr;obtain⟨p',e1,e2,e3,e4⟩:=ad2 h2.hp h2.lz os x hx;refine⟨p',⟨h2.defers,h2.nt,h2.fix,λb hb=>⟨(e3 b (h2.ik b hb).1).1,(h2.ik b hb).2⟩,e2,Qy h2.hp e1 hx e3 h2.slots ss y hy,e4⟩,λt ht=>(uG e3 _ ht).2 _ (h2.slots t)⟩
 ·cases hr
theorem kN:(t:T)->(x:t.den)->t.ok x->ab (t.oks x)
 |.int k,x,h=>by simp only[T.oks,dX,fx,az];simpa only [T.ok]using h
 |.p a b,x,h=>by simp only[T.ok]at h;simp only[T.oks,fO];exact⟨kN a _ h.1,kN b _ h.2⟩
 |.sl e,x,h=>by simp only[T.oks,dX,fx,az];exact h
 |.pt t,x,h|.fn _ t,x,h|.ifc _ t,x,h|.ib _ t,x,h=>by simp only[T.ok]at h;simp only[T.oks];exact kN t x h
 |.mp k v,x,h|.op t,x,h|.ns t,x,h=>by simp only[T.oks,dX,fx,az];exact h
 |.er _,x,h=>by simp only[T.oks,fx]
 |.str,x,h=>by simp only[T.oks,dX,fx,az];simpa only [T.ok]using h
 |.bool,x,h|.u,x,h|.any,x,h=>by simp only[T.oks,fx]
def acw:Nat->List Nat->Bool
 |i,σ=>(List.range i).all λk=>Nat.beq (plc σ k) k
def TR(nt:Nat)(l:bL):Bool:=nob (BL l) (nob (Nat.blt (kK 0 l) (rC 0 l)) (nob (Nat.blt (rC 0 l) l.length) (nob (kv 0 l) (nob (KH (mvS (kK 0 l) (rC 0 l) (len l)) l.length) (nob (acw (kK 0 l) (mvS (kK 0 l) (rC 0 l) (len l))) (nob (eM nt (FW l)) (nob (eM nt (Gg l)) (nob (tY false false (FW l) (kK 0 l)) (tY false false (Gg l) (Nat.succ (kK 0 l)))))))))))
def okC(nt:Nat)(cut:ju):Code->Bool
 |.region id ops draw=>nob (eM nt (toL ops)) (bif draw then (bif Nat.beq (cut id) 999999 then KX (toL ops)else bif Nat.beq (cut id) 999998 then TR nt (toL ops)else bif Nat.ble 10000 (cut id)then nob (eM nt (dp (hrC (cut id)) (toL ops))) (Gp (hrC (cut id)) true (toL ops) (mC (cut id)))else bif Nat.ble 2000 (cut id)then nob (eM nt (dp false (toL ops))) (Gp false false (toL ops) (Nat.sub (cut id) (v7 (cut id))))else bif Nat.ble 1000 (cut id)then tY false false (toL ops) (Nat.sub (cut id) 1000)else bif Nat.ble 500 (cut id)then tY false false (toL ops) (Nat.sub (cut id) 500)else Ll (toL ops) (cut id))else true)
 |.seq a b|.cond _ a b=>nob (okC nt cut a) (okC nt cut b)
 |.block _ c|.loop c|.scope c=>okC nt cut c
 |_=>true
abbrev G3:Type:=Nat->Option Value
def qT(fv:G3):Code->Prop
 |.region _ ops _=>∀o∈toL ops,∀k,o.dst=some k->fv k=none
 |.seq a b|.cond _ a b=>qT fv a/\qT fv b
 |.block _ c|.loop c|.scope c=>qT fv c
 |_=>True
theorem q8:(c:jv)->qT (λ_=>none) c
 |.region _ _ _=>λ_ _ _ _=>rfl
 |.seq a b|.cond _ a b=>⟨q8 a,q8 b⟩
 |.block _ c|.loop c|.scope c=>q8 c
 |.skip|.ret|.exit _|.goto _|.label _|.rangeFunc _ _ _ _|.refuse _=>trivial
def jI(fv:G3)(ks:aZ)(a:Act):Nat->Option Value:=λt=>bif hY t ks then some (a.tmps.getD t undef)else fv t
def mkF(F:Fr)(I:aT)(w:aQ)(ks:aZ)(a:Act):Fr:=⟨F.w0,w,F.A,F.R,I,F.nt,jI F.fv ks a,F.cs⟩
theorem Qp{ks:aZ}:{l:bL}->BR ks l=true->∀o∈l,∀k,o.dst=some k->hY k ks=false
 |[],_,o,ho,_,_=>by cases ho
 |x::r,h,o,ho,k,hk=>by
  simp only[BR]at h;rcases cz.1 ho with rfl|ho
  ·rw[hk]at h;simp only at h
   cases hm:hY k ks with
   |false=>rfl
   |true=>rw[hm]at h;cases h
  ·refine Qp ?_ o ho k hk;split at h
   ·rename_i d _
    cases hm:hY d ks with
    |false=>rw[hm]at h;exact h
    |true=>rw[hm]at h;cases h
   ·exact h
theorem nF{fv:G3}{ks:aZ}{a:Act}:(c:jv)->noW ks c=true->qT fv c->qT (jI fv ks a) c
 |.region id ops draw,h,hf=>λo ho k hk=>by simp only[noW]at h;unfold jI;rw[Qp h o ho k hk];exact hf o ho k hk
 |.seq x y,h,hf|.cond _ x y,h,hf=>by simp only[noW,aP,ao]at h;exact⟨nF x h.1 hf.1,nF y h.2 hf.2⟩
 |.block _ c,h,hf|.loop c,h,hf|.scope c,h,hf=>by simp only[noW]at h;exact nF c h hf
 |.skip,_,_|.ret,_,_|.exit _,_,_|.goto _,_,_|.label _,_,_|.rangeFunc _ _ _ _,_,_|.refuse _,_,_=>trivial
def iZ(F:Fr)(K:Ex->Env->Mem->Prop):Exit->Act->World->Prop
 |.normal,a,w=>∃p env M,St F p env M a w/\K .nm env M
 |.exit id,a,w=>∃p env M,St F p env M a w/\K (.ex id) env M
 |.ret,a,w=>∃p env M,St F p env M a w/\K .rt env M
 |.goto l,a,w=>∃p env M,St F p env M a w/\K (.go l) env M
 |_,_,_=>False
theorem KQ:∀(env:Env)(t:Nat),gt (clr env) t=.any\/gt (clr env) t=gt env t
 |[],t=>.inl rfl
 |(k,v)::r,t=>by
  simp only[clr];split
  ·rw[dZ,dZ];split
   ·exact .inl rfl
   ·exact KQ r t
  ·rw[dZ,dZ];split
   ·exact .inr rfl
   ·exact KQ r t
theorem TO:∀(x y:Env)(t:Nat),gt (ap x y) t=gt x t\/gt (ap x y) t=gt y t
 |[],y,t=>.inr rfl
 |(k,v)::r,y,t=>by
  simp only[ap];rw[dZ,dZ];split
  ·exact .inl rfl
  ·exact TO r y t
theorem QU(env:Env):∀(ks:aZ)(t:Nat),gt (kept env ks) t=.any\/(hY t ks=true/\bu (gt env t)=true/\gt (kept env ks) t=gt env t)
 |[],t=>.inl rfl
 |k::r,t=>by
  simp only[kept];have ih:=QU env r t;have hm:hY t r=true->hY t (k::r)=true:=λh=>by simp only[hY,eX,h,zg]
  cases hd:bu (gt env k)with
  |false=>
   simp only[bc];rcases ih with h|⟨h1,h2,h3⟩
   ·exact .inl h
   ·exact .inr ⟨hm h1,h2,h3⟩
  |true=>
   simp only[aD];rw[dZ];split
   ·rename_i e;subst e;exact .inr ⟨by simp[hY],hd,rfl⟩
   ·rcases ih with h|⟨h1,h2,h3⟩
    ·exact .inl h
    ·exact .inr ⟨hm h1,h2,h3⟩
theorem St.fwd(h:St F p env M a w)(ks:aZ):St (mkF F (Imm F p M w) w ks a) p env M a w:=by
 refine⟨h.defers,h.nt,λt v ht=>?_,λb hb=>⟨hb,rfl⟩,h.lz,h.slots,⟨h.hp.objs,h.hp.sep,h.hp.own,h.hp.lim,h.hp.os,h.hp.tape,h.hp.output,h.hp.size,h.hp.old⟩⟩;simp only[mkF,jI]at ht
 cases hm:hY t ks with
 |true=>rw[hm]at ht;simpa using ht
 |false=>rw[hm]at ht;exact h.fix t v ht
theorem St.back(h:St F p env M a w)(h':St (mkF F (Imm F p M w) w ks a) p' env' M' a' w'):St F p' env' M' a' w':=by
 refine⟨h'.defers,h'.nt,λt v ht=>?_,λb hb=>?_,h'.lz,h'.slots,⟨h'.hp.objs,h'.hp.sep,h'.hp.own,h'.hp.lim,h'.hp.os,h'.hp.tape,h'.hp.output,h'.hp.size,h'.hp.old⟩⟩
 ·cases hm:hY t ks with
  |true=>rw[h'.fix t (a.tmps.getD t undef) (by simp only[mkF,jI,hm,aD])];exact h.fix t v ht
  |false=>exact h'.fix t v (by simp only[mkF,jI,hm,bc];exact ht)
 ·obtain⟨h1,h2⟩:=h.ik b hb;obtain⟨h3,h4⟩:=h'.ik b h1;exact⟨h3,h4.trans h2⟩
theorem St.add(hK:∀t,bu (gt envK t)=true->ae p.β M (Imm F p M w) w (gt envK t) (a.tmps.getD t undef))(h':St (mkF F (Imm F p M w) w ks a) p' env' M' a' w'):St (mkF F (Imm F p M w) w ks a) p' (ap env' (kept envK ks)) M' a' w':=by
 refine⟨h'.defers,h'.nt,h'.fix,h'.ik,h'.lz,λt=>?_,h'.hp⟩;rcases TO env' (kept envK ks) t with e|e
 ·rw[e];exact h'.slots t
 ·rw[e];rcases QU envK ks t with e'|⟨h1,h2,h3⟩
  ·rw[e'];simp only[ae]
  ·rw[h3,h'.fix t (a.tmps.getD t undef) (by simp only[mkF,jI,h1,aD])];exact (uG (λb hb=>h'.ik b hb) _ h2).2 _ (hK t h2)
theorem A9{os:Obs}:(s:Sh)->(v:V)->(vs:aM)->(y:s.den)->ac p.β M (Imm F p M w) w v vs->s.read M os v=some y->ab (s.oks y)
 |.d t,v,vs,y,r,h=>by simp only[Sh.read]at h;simp only[Sh.oks];exact kN _ _ (ai.ok _ _ _ (mW v t vs y r h))
 |.ref _ _,_,_,_,_,_|.ad _ _,_,_,_,_,_|.fn _,_,_,_,_,_|.u,_,_,_,_,_=>by simp only[Sh.oks,fx]
 |.bx s,v,vs,y,r,h=>by
  cases v<;>simp only[Sh.read]at h<;>try (cases h;done)
  simp only[ac]at r;obtain⟨b,o,us,h1,h2,h3,h4⟩:=r;simp only[Sh.oks];exact A9 s _ _ y h4 h
 |.fc f s,v,vs,y,r,h=>by
  cases v<;>simp only[Sh.read]at h<;>try (cases h;done)
  simp only[cS]at h;split at h
  ·simp only[ac]at r;obtain⟨us,h1,h2⟩:=r;simp only[Sh.oks];exact A9 s _ _ y h2 h
  ·cases h
 |.pr a b,v,vs,y,r,h=>by
  cases v<;>simp only[Sh.read]at h<;>try (cases h;done)
  split at h
  ·rename_i z1 z2 h1 h2;simp only[ac]at r;obtain⟨va,vb,e,ra,rb⟩:=r;cases h;simp only[Sh.oks,fO];exact⟨A9 a _ _ _ ra h1,A9 b _ _ _ rb h2⟩
  ·cases h
theorem O7{os:Obs}(hs:∀t,ae p.β M (Imm F p M w) w (gt env t) (a.tmps.getD t undef)):(ss:Shs)->(y:gP ss)->yp M os env ss=some y->ab (okS ss y)
 |[],y,h=>by simp only[okS,fx]
 |(t,s)::r,y,h=>by
  simp only[yp]at h;split at h
  ·rename_i z1 z2 h1 h2;cases h;have ih:=O7 hs r z2 h2;simp only[okS,fO];refine⟨?_,ih⟩
   have key:∀v:V,s.read M os v=some z1->ae p.β M (Imm F p M w) w v (a.tmps.getD t undef)->ab (s.oks z1):=λv h1 r=>by
    cases v with
    |any=>cases s with
     |d t=>cases t<;>simp[Sh.read,V.as]at h1
     |_=>simp[Sh.read]at h1
    |ag z=>cases s with
     |d t=>cases t<;>simp[Sh.read,V.as]at h1
     |_=>simp[Sh.read]at h1
    |tup z=>cases s with
     |d t=>cases t<;>simp[Sh.read,V.as]at h1
     |_=>simp[Sh.read]at h1
    |gd _ _ _ z=>cases s with
     |d t=>cases t<;>simp[Sh.read,V.as]at h1
     |_=>simp[Sh.read]at h1
    |_=>exact A9 s _ _ _ (by simpa only [ae]using r) h1
   exact key _ h1 (hs t)
  ·cases h
theorem Pn(hp:Hp F p M w):(os:Obs)->(x:eO os)->kB M os=some x->ab (okO os x)
 |[],x,h=>by simp only[okO,fx]
 |(k,o)::r,x,h=>by
  simp only[kB]at h;split at h
  ·rename_i q hq;split at h
   ·rename_i y z hy hz;cases h;simp only[okO,fO];refine⟨kN _ _ ?_,Pn hp r z hz⟩;obtain⟨e,h1⟩:=A3 (uU hy).2;have hok:=(hp.objs k q hq).ok;subst h1;exact cast_ok e hok
   ·cases h
  ·cases h
where
 cast_ok:∀{s t:T} {x:s.den} (e:s=t),s.ok x->t.ok (e▸x):=λe h=>by subst e;exact h
theorem Jc(h:St F p env M a w){q:(gP ss×eO os)×Env}(hr:tG ss os env M=some q):ab (okS ss q.1.1)/\ab (okO os q.1.2):=by
 unfold tG at hr;obtain⟨p0,h0⟩:=sF os ss p env M h;generalize lM os ss env M=z0 at hr h0;obtain⟨env0,M0⟩:=z0;simp only at hr h0;obtain⟨p1,h1⟩:=PU os p0 env0 M0 h0;generalize BN os env0 M0=z1 at hr h1;obtain⟨env1,M1⟩:=z1;simp only at hr h1;have h2:=sU os (ba M1) M1 env1 h1;generalize jf os (ba M1) M1 env1=z2 at hr h2;obtain⟨env2,M2⟩:=z2;simp only at hr h2;split at hr
 ·rename_i y x hy hx;cases hr;exact⟨O7 h2.slots ss y hy,Pn h2.hp os x hx⟩
 ·cases hr
theorem Ku(h:St F p env M a w){K:Ex->Env->Mem->Prop}(hc:c.wp P (iZ (mkF F (Imm F p M w) w ks a) (jG ss os (onK ss os ks env K) K)) a w):c.wp P (iZ F K) a w:=by
 refine oC (λe a' w' hl=>?_) hc
 cases e with
 |normal=>
  obtain⟨p1,env1,M1,h1,h2⟩:=hl;simp only[jG,BH]at h2;split at h2
  ·rename_i s hs;obtain⟨p2,h4,_⟩:=Jw h1 hs;obtain⟨o1,o2⟩:=Jc h1 hs;simp only[onK,P7]at h2;exact⟨p2,_,_,h.back (St.add (λt _=>h.slots t) h4),h2 o1 o2⟩
  ·exact h2.elim
 |exit id|ret|goto l=>obtain⟨p1,env1,M1,h1,h2⟩:=hl;exact⟨p1,env1,M1,h.back h1,h2⟩
 |panic ch|outgrown=>exact hl.elim
theorem ab1(hΦ:iv P F Φ)(hB:TabOk P B)(hmix:P.follows .mixedOrders=true)(hco:eM F.nt (toL ops)=true)(hfv:∀o∈toL ops,∀k,o.dst=some k->F.fv k=none)(hr:Ll (toL ops) cut=true)(hQ:∀p env M a w,St F p env M a w->K env M->Q .normal a w)(h:St F p env M a w)(hk:dw B Φ (toL ops) (cj cut (toL ops)) env M (λenv=>tw B Φ (toL ops) (fe cut (toL ops)) env M K)):(Code.region id ops true).wp P Q a w:=by
 rw[cK]at hco hfv hr;rw[AE,Eb]at hk;simp only[Ll,ao]at hr;obtain⟨h1,h2,h3,h4⟩:=hr;obtain⟨E,V,e0,e1,e2⟩:=OA _ _ _ _ hk;have hm:cut<=ops.toList.length:=eU h2;rw[cK,dW,Cz hm]at e2;refine C6 hmix ?_;have:=D_ (F:=F) (M:=M) (p:=p) (all:=ops) hΦ hB Q K hQ h1 cut (by simpa using hm) (by simpa using h3) (by simpa using h4) hco hfv E V (by simpa only [cK]using e1) (by simpa only [cK]using e2);exact this _ _ env a _ ak (λi _ hi=>absurd hi nM) (Ff _ _) (λj o _ hi=>absurd hi nM) (λt=>⟨λ_=>by rw[e0],λi o _ hi=>absurd hi nM⟩) h.drew
theorem Y3(I:ι->Act->World->Prop)(μ:ι->Nat)(round:∀i a w,I i a w->c.wp P (Exit.then (λa' w'=>∃i',μ i'<μ i/\I i' a' w') Q') a w):∀i a w,I i a w->(Code.loop c).wp P Q' a w:=by
 intro i a w h0 b k cs
 have key:∀n i a w,μ i=n->I i a w->∃e a' w',Q' e a' w'/\Arrives P (lone (b.at a (.code c::.inLoop c::k)) cs w) b k cs e a' w':=by
  intro n
  induction n using Nat.strongRecOn with
  |_ n ih=>
   intro i a w hn hI;obtain⟨e,a1,w1,hq,harr⟩:=round i a w hI b (.inLoop c::k) cs
   cases e with
   |normal=>obtain⟨i',hlt,hI'⟩:=hq;obtain⟨e2,a2,w2,hq2,harr2⟩:=ih (μ i') (hn▸hlt) i' a1 w1 rfl hI';exact⟨e2,a2,w2,hq2,.of_steps (Steps.trans harr (.one step_inLoop)) harr2⟩
   |exit id|goto l|ret|panic ch|outgrown=>exact⟨_,a1,w1,hq,.pass (x:=.inLoop c) rfl (λ_ _=>.inl ak) harr⟩
 obtain⟨e,a',w',hq,harr⟩:=key _ i a w rfl h0;exact⟨e,a',w',hq,.of_steps (.one step_loop) harr⟩
def kJ(all rest:bL)(env:Env):Prop:=∀t j w P v,gt env t=.gd j w P v->∃d,iG all j=some d/\P=gc (gt env d) w/\gN (gt env d)=true/\wIn d rest=false
def Fs(all:bL)(env:Env)(fs:vT):Prop:=∀j w,vM fs j w=true->∀d,iG all j=some d->gc (gt env d) w
theorem RQ{a:bo}(h:yF a b=true):a=b:=by cases a<;>cases b<;>simp[yF,neg]at h<;>rfl
theorem z_{t:Nat}{o:eP}(h:vz t o=true):o=some t:=by
 cases o with
 |none=>cases h
 |some d=>rw[cR h]
theorem Zw(t:Nat):vz t (some t)=true:=uj t
theorem DW{all rest:bL}{env:Env}(hI:kJ all rest env):∀(n j:Nat)(w:bo)(d:Nat),iG all j=some d->gc (gt env d) w->Fs all env (gv all env n j w)
 |0,_,_,_,_,_=>λ_ _ h=>by cases h
 |n+1,j,w,d,hd,hg=>by
  intro i w' hm d' hd';simp only[gv,vM]at hm
  cases hb:nob (Nat.beq j i) (yF w w')with
  |true=>simp only[aP,ao]at hb;have h1:=cR hb.1;have h2:=RQ hb.2;subst h1 h2;rw[hd]at hd';cases hd';exact hg
  |false=>
   rw[hb]at hm;simp only[bc,hd]at hm
   cases hv:gt env d with
   |gd i2 w2 P2 v2=>rw[hv]at hm;obtain⟨d2,h1,h2,_,_⟩:=hI _ _ _ _ _ hv;rw[hv]at hg;simp only[gc]at hg;exact DW hI n i2 w2 d2 h1 (h2▸hg.1) i w' hm d' hd'
   |_=>rw[hv]at hm;simp[vM]at hm
theorem Ue{x:dJ}{w:bo}{P:Prop}(h:rd env x=.gd j w P v):∃t,gt env t=.gd j w P v:=by
 cases x with
 |tmp t=>exact⟨t,h⟩
 |const v=>
  simp only[rd]at h;unfold rdV at h;split at h<;>try cases h
  ·cases hb:nob (Nat.beq _ 0) (Nat.beq _ 0)<;>rw[hb]at h<;>cases h
 |func f|global _=>cases h
theorem Bh{all rest:bL}{env:Env}{fs:vT}(hI:kJ all rest env)(hf:Fs all env fs):∀(l:l7),ab (fH (λx=>unG fs (rd env x)) l)->ab (fH (rd env) l)
 |[],_=>trivial
 |x::r,h=>by
  simp only[fH]at h⊢
  cases hv:rd env x with
  |gd j w P v=>
   rw[hv]at h;simp only[unG]at h
   cases hm:vM fs j w with
   |true=>
    rw[hm]at h;obtain⟨t,ht⟩:=Ue hv;obtain⟨d,h1,h2,_,_⟩:=hI _ _ _ _ _ ht;refine⟨h2▸hf j w hm d h1,Bh hI hf r ?_⟩;simp only[aD]at h;split at h
    ·exact h.2
    ·exact h
   |false=>rw[hm]at h;exact⟨h.1,Bh hI hf r h.2⟩
  |_=>rw[hv]at h;exact Bh hI hf r h
theorem Oq(hI:kJ all rest env)(hf:Fs all env fs){c a:dJ}(hb:(rd env c).strip.isB=true)(hc:ab (fH (rd env) [c]))(h:ab (po (rd env c).strip.boolV side (Fx all c side (unG fs (rd env a))))):ab (po (rd env c).strip.boolV side (rd env a)):=by
 cases hv:rd env a with
 |gd j w P v=>
  obtain⟨t,ht⟩:=Ue hv;obtain⟨d,h1,h2,h3,_⟩:=hI _ _ _ _ _ ht;simp only[po,dX,fx,az];rw[hv]at h;simp only[unG]at h
  cases hm:vM fs j w with
  |true=>exactλ_=>h2▸hf j w hm d h1
  |false=>
   rw[hm]at h;simp only[bc]at h;unfold Fx at h;split at h
   ·rename_i t' j' w' P' x' heq;cases heq
    cases hs:nob (vz t' (iG all j)) (yF w side)with
    |false=>rw[hs]at h;exact h.1
    |true=>
     simp only[aP,ao]at hs;have e1:=z_ hs.1;have e2:=RQ hs.2;rw[h1]at e1;cases e1;subst e2;intro hcb;subst h2;simp only[rd]at hb hcb hc;simp only[fH]at hc
     cases hg:gt env d with
     |gd i w' P' v'=>simp only[rd,hg]at hc;rw[hg]at hb hcb;simp only[V.strip]at hb hcb;refine⟨hc.1,?_⟩;cases v'<;>simp only[V.isB,d4]at hb;rename_i tt x;cases tt<;>simp only[d4]at hb;exact hcb
     |d tt x=>rw[hg]at hb hcb;cases tt<;>simp only[V.strip,V.isB,d4]at hb;exact hcb
     |_=>rw[hg]at hb;simp[V.strip,V.isB]at hb
   ·exact h.1
 |_=>simp only[po,fx]
theorem xN(hI:kJ all rest env)(hf:Fs all env fs)(o:bj)(M:Mem):
  ∃vc,evR B Φ o env M=⟨vc,(evG B Φ all fs o env M).av,(evG B Φ all fs o env M).ev,(evG B Φ all fs o env M).M⟩/\(ab (evG B Φ all fs o env M).vc->ab vc):=by
 unfold evR evG;split
 ·rename_i c a b _;simp only[qU,BK,bR]
  cases hb:aO [(rd env c).strip.isB,(rd env a).strip.isB,(rd env b).strip.isB]with
  |false=>exact⟨_,rfl,id⟩
  |true=>
   refine⟨_,rfl,λh=>?_⟩
   have hcB:(rd env c).strip.isB=true:=by
    simp only[aO]at hb
    cases hc:(rd env c).strip.isB with
    |true=>rfl
    |false=>rw[hc]at hb;cases hb
   simp only[aD,fO]at h⊢;have hc:=Bh hI hf [c] h.1;exact⟨hc,Oq hI hf hcB hc h.2.1,Oq hI hf hcB hc h.2.2⟩
 ·generalize bI B Φ o (λx=>(rd env x).strip) M=q;obtain⟨vc,v,e,M'⟩:=q;refine⟨_,rfl,λh=>?_⟩;simp only[fO]at h⊢;exact⟨Bh hI hf _ h.1,h.2⟩
theorem aba:∀(e:bM)(v:V),gN v=true->v.evs e=v:=by
 intro e
 induction e with
 |nil=>intro v _;rfl
 |cons x e ih=>
  intro v h
  have key:∀v:V,gN v=true->v.ev x=v:=by
   intro v
   induction v with
   |gd j w P v ihv=>intro h;simp only[gN]at h;simp only[V.ev,ihv h]
   |d t y=>intro _;rfl
   |_=>intro h;simp[gN]at h
  simp only[V.evs,key v h];exact ih v h
theorem J8{d:Nat}{r:bL}(h:wIn d (o::r)=false):o.dst≠some d/\wIn d r=false:=by
 simp only[wIn]at h
 cases hs:vz d o.dst with
 |true=>rw[hs]at h;cases h
 |false=>rw[hs]at h;refine⟨λhe=>?_,h⟩;rw[he,Zw]at hs;cases hs
theorem QY{d:Nat}:∀{a b:bL},wIn d (a++b)=false<->wIn d a=false/\wIn d b=false
 |[],b=>by simp[wIn]
 |o::a,b=>by
  simp only[uq,wIn]
  cases vz d o.dst with
  |true=>simp
  |false=>simpa using QY
theorem Bt(d:eP)(v:V)(env:Env)(t:Nat):gt (wr d v env) t=if d=some t then v else gt env t:=pj d v env t
theorem Pi:∀(t:T)(x:t.den),gf (fy t x)=false:=by intro t x;cases t<;>rfl
theorem QH(k:Nat)(π:bz)(e:Ev):gf (e.ref k π)=false:=by
 cases e with
 |fz r ob=>
  simp only[Ev.ref]
  cases Nat.beq k r with
  |false=>rfl
  |true=>
   simp only[aD];split
   ·exact Pi _ _
   ·rfl
 |cut r o o'=>simp only[Ev.ref];cases Nat.beq k r<;>cases iI π<;>rfl
 |mv r k'|kl r|un r j|kn r j=>simp only[Ev.ref];cases Nat.beq k r<;>rfl
 |tk r o o'=>simp only[Ev.ref];cases Nat.beq k r<;>cases orb (iI π) (Fy (trk π o) (trk π o'))<;>rfl
theorem QK(k:Nat)(π:bz)(e:Ev):gf (e.ad k π)=false:=by
 cases e with
 |fz r ob=>
  simp only[Ev.ad]
  cases Nat.beq k r with
  |false=>rfl
  |true=>simp only[aD];split<;>rfl
 |cut r o o'|tk r o o'=>simp only[Ev.ad];cases Nat.beq k r<;>cases kZ (eN π o) (eN π o')<;>rfl
 |mv r k'|kl r=>simp only[Ev.ad];cases Nat.beq k r<;>rfl
 |un r j=>
  simp only[Ev.ad]
  cases Nat.beq k r with
  |false=>rfl
  |true=>simp only[aD];split<;>rfl
 |kn r j=>
  simp only[Ev.ad]
  cases Nat.beq k r with
  |false=>rfl
  |true=>simp only[aD];split<;>rfl
theorem DN(hI:kJ all (o::rest) env)(hv:gf v=false)(he:∃e,∀t,gt env' t=(gt env t).evs e):kJ all rest (wr o.dst v env'):=by
 obtain⟨e,he⟩:=he;intro t j w P x hx;rw[Bt]at hx;split at hx
 ·subst hx;cases hv
 ·rw[he]at hx
  have hsh:∃y,gt env t=.gd j w P y:=by
   clear he;generalize gt env t=q at hx
   induction e generalizing q with
   |nil=>exact⟨x,hx⟩
   |cons z e ih=>
    simp only[V.evs]at hx;obtain⟨y,hy⟩:=ih _ hx
    cases q with
    |gd j' w' P' v'=>simp only[V.ev,V.gd.injEq]at hy;obtain⟨rfl,rfl,rfl,_⟩:=hy;exact⟨v',rfl⟩
    |ref k π=>have:=QH k π z;simp only[V.ev]at hy;rw[hy]at this;cases this
    |ad k π=>have:=QK k π z;simp only[V.ev]at hy;rw[hy]at this;cases this
    |_=>simp[V.ev]at hy
  obtain⟨y,hy⟩:=hsh;obtain⟨d,h1,h2,h3,h4⟩:=hI t j w P y hy;obtain⟨h5,h6⟩:=J8 h4;have h7:gt (wr o.dst v env') d=gt env d:=by rw[Bt,aj h5,he,aba e _ h3]
  exact⟨d,h1,h7▸h2,h7▸h3,h6⟩
theorem A7{dj:Nat}{w:bo}(hI:kJ all (o::rest) env)(hd:iG all j=some dj)(hg:gN (gt env dj)=true)(hw:wIn dj (o::rest)=false):
  kJ all rest (wr o.dst (.gd j w (gc (gt env dj) w) v) env):=by
 intro t i w' P x hx;rw[Bt]at hx;split at hx
 ·cases hx;obtain⟨h5,h6⟩:=J8 hw;have h7:∀q,gt (wr o.dst q env) dj=gt env dj:=λq=>by rw[Bt,aj h5]
  exact⟨dj,hd,by rw[h7],by rw[h7];exact hg,h6⟩
 ·obtain⟨d,h1,h2,h3,h4⟩:=hI t i w' P x hx;obtain⟨h5,h6⟩:=J8 h4;have h7:∀q,gt (wr o.dst q env) d=gt env d:=λq=>by rw[Bt,aj h5]
  exact⟨d,h1,by rw[h7];exact h2,by rw[h7];exact h3,h6⟩
theorem KK:Fs all env []:=λ_ _ h=>by cases h
theorem xM{all:bL}{K:Env->Mem->Prop}:∀(ops:bL)(env:Env)(M:Mem),kJ all ops env->twG B Φ all ops env M K->tw B Φ all ops env M K
 |[],_,_,_,h=>h
 |o::rest,env,M,hI,h=>by
  simp only[twG]at h;simp only[tw]
  cases hgd:o.guard with
  |none=>
   rw[hgd]at h;obtain⟨vc,he,hvc⟩:=xN (B:=B) (Φ:=Φ) hI KK o M;rw[he];generalize evG B Φ all [] o env M=q at h hvc⊢;obtain⟨vc',v,e,M'⟩:=q;simp only at h hvc⊢
   cases hv:gf v with
   |true=>rw[hv]at h;exact h.elim
   |false=>rw[hv]at h;simp only[bc,je]at h;rw[je];exact⟨hvc h.1,xM rest _ _ (DN hI hv ⟨e,λt=>kV t e env⟩) h.2⟩
  |some g=>
   obtain⟨j,want⟩:=g;rw[hgd]at h;simp only at h⊢
   cases hd:iG all j with
   |none=>rw[hd]at h;exact h.elim
   |some dj=>
    rw[hd]at h;simp only at h⊢;by_cases hG:gc (gt env dj) want
    ·obtain⟨vc,he,hvc⟩:=xN (B:=B) (Φ:=Φ) hI (DW hI 8 j want dj hd hG) o M;rw[he];generalize evG B Φ all (gv all env 8 j want) o env M=q at h hvc⊢;obtain⟨vc',v,e,M'⟩:=q;simp only[aO]at h hvc⊢;cases h1:gN (gt env dj)<;>rw[h1]at h<;>try exact h.elim
     cases h2:fG o<;>rw[h2]at h<;>try exact h.elim
     cases h3:fresh M e<;>rw[h3]at h<;>try exact h.elim
     cases h4:wIn dj (o::rest)<;>rw[h4]at h<;>try exact h.elim
     simp only[neg,aD,bc,x6]at h⊢;exact⟨λg=>hvc (h.1 g),xM rest _ _ (A7 hI hd h1 h4) h.2⟩
    ·have hev:(evR B Φ o env M).av=(evG B Φ all (gv all env 8 j want) o env M).av/\(evR B Φ o env M).ev=(evG B Φ all (gv all env 8 j want) o env M).ev/\(evR B Φ o env M).M=(evG B Φ all (gv all env 8 j want) o env M).M:=by
      unfold evR evG;split
      ·simp only[qU,BK,bR];cases aO [_,_,_]<;>simp[bad]
      ·exact⟨rfl,rfl,rfl⟩
     generalize evG B Φ all (gv all env 8 j want) o env M=q at h hev⊢;generalize evR B Φ o env M=q2 at hev⊢;obtain⟨vc',v,e,M'⟩:=q;obtain⟨vc2,v2,e2,M2⟩:=q2;simp only at hev;obtain⟨rfl,rfl,rfl⟩:=hev;simp only[aO]at h⊢;cases h1:gN (gt env dj)<;>rw[h1]at h<;>try exact h.elim
     cases h2:fG o<;>rw[h2]at h<;>try exact h.elim
     cases h3:fresh M e2<;>rw[h3]at h<;>try exact h.elim
     cases h4:wIn dj (o::rest)<;>rw[h4]at h<;>try exact h.elim
     simp only[neg,aD,bc,x6]at h⊢;exact⟨λg=>absurd g hG,xM rest _ _ (A7 hI hd h1 h4) h.2⟩
theorem aea(v:V):gf (avF M M' v)=false:=by
 cases v with
 |ref k π=>
  simp only[avF];split
  ·rfl
  ·split
   ·exact Pi _ _
   ·rfl
 |ad k π=>
  simp only[avF];split
  ·rfl
  ·split<;>rfl
 |_=>rfl
theorem KT{all tl:bL}{K K':Env->Prop}(hK:∀env,kJ all tl env->K' env->K env):∀(ops:bL)(env:Env)(M:Mem),kJ all (ops++tl) env->dwG B Φ all tl ops env M K'->dw B Φ all ops env M K
 |[],env,_,hI,h=>hK env hI h
 |o::rest,env,M,hI,h=>by
  simp only[dwG]at h;simp only[dw]
  cases hgd:o.guard with
  |none=>
   rw[hgd]at h;obtain⟨vc,he,hvc⟩:=xN (B:=B) (Φ:=Φ) hI KK o M;rw[he];generalize evG B Φ all [] o env M=q at h hvc⊢;obtain⟨vc',v,e,M'⟩:=q;simp only[aO]at h hvc⊢;cases h2:fG o<;>rw[h2]at h<;>try exact h.elim
   cases h3:fresh M e<;>rw[h3]at h<;>try exact h.elim
   simp only[aD,je]at h;simp only[aD];rw[je];exact⟨hvc h.1,KT hK rest _ _ (DN hI (aea v) ⟨[],λt=>rfl⟩) h.2⟩
  |some g=>
   obtain⟨j,want⟩:=g;rw[hgd]at h;simp only at h⊢
   cases hd:iG all j with
   |none=>rw[hd]at h;exact h.elim
   |some dj=>
    rw[hd]at h;simp only at h⊢
    have hev:(evR B Φ o env M).av=(evG B Φ all (gv all env 8 j want) o env M).av/\(evR B Φ o env M).ev=(evG B Φ all (gv all env 8 j want) o env M).ev/\(evR B Φ o env M).M=(evG B Φ all (gv all env 8 j want) o env M).M/\
      (gc (gt env dj) want->ab (evG B Φ all (gv all env 8 j want) o env M).vc->ab (evR B Φ o env M).vc):=by
     refine⟨?_,?_,?_,λhG=>?_⟩
     ·unfold evR evG;split
      ·simp only[qU,BK,bR];cases aO [_,_,_]<;>rfl
      ·rfl
     ·unfold evR evG;split<;>rfl
     ·unfold evR evG;split<;>rfl
     ·obtain⟨vc,he,hvc⟩:=xN (B:=B) (Φ:=Φ) hI (DW hI 8 j want dj hd hG) o M;rw[he];exact hvc
    generalize evG B Φ all (gv all env 8 j want) o env M=q at h hev⊢;generalize evR B Φ o env M=q2 at hev⊢;obtain⟨vc',v,e,M'⟩:=q;obtain⟨vc2,v2,e2,M2⟩:=q2;simp only at hev;obtain⟨rfl,rfl,rfl,hvc⟩:=hev;simp only[aO]at h⊢;cases h1:gN (gt env dj)<;>rw[h1]at h<;>try exact h.elim
    cases h2:fG o<;>rw[h2]at h<;>try exact h.elim
    cases h3:fresh M e2<;>rw[h3]at h<;>try exact h.elim
    cases h4:wIn dj (o::rest)<;>rw[h4]at h<;>try exact h.elim
    cases h5:wIn dj tl<;>rw[h5]at h<;>try exact h.elim
    simp only[neg,aD,bc,x6]at h⊢;have h6:wIn dj (o::(rest++tl))=false:=by have:=(QY (a:=o::rest) (b:=tl)).2 ⟨h4,h5⟩;simpa using this
    exact⟨λg=>hvc g (h.1 g),KT hK rest _ _ (A7 hI hd h1 h6) h.2⟩
theorem Eg:∀{env:Env},nogd env=true->kJ all rest env:=by
 intro env h t j w P v hx;exfalso
 induction env with
 |nil=>simp[gt]at hx
 |cons p env ih=>
  obtain⟨k,u0⟩:=p;simp only[nogd]at h
  cases hu:gf u0 with
  |true=>rw[hu]at h;cases h
  |false=>
   rw[hu]at h;simp only[gt]at hx
   cases hb:Nat.beq k t with
   |true=>rw[hb]at hx;simp only[aD]at hx;subst hx;cases hu
   |false=>rw[hb]at hx;exact ih h hx
theorem AN(e:Ev):∀v:V,bu v=true->v.ev e=v
 |.d _ _,_|.nl,_|.np,_|.u,_=>rfl
 |.p a b,h=>by simp only[bu,aP,ao]at h;simp only[V.ev,AN e a h.1,AN e b h.2]
 |.ag v,h|.fn f v,h|.bx v,h=>by simp only[bu]at h;simp only[V.ev,AN e v h]
 |.any,h|.ref _ _,h|.ad _ _,h|.tup _,h|.gd _ _ _ _,h|.ifc _ _,h=>by cases h
theorem Es(M:Mem):∀v:V,bu v=true->v.size M=v.size []
 |.d _ _,_|.nl,_|.np,_|.u,_=>rfl
 |.p a b,h=>by simp only[bu,aP,ao]at h;simp only[V.size,Es M a h.1,Es M b h.2]
 |.ag v,h|.fn f v,h|.bx v,h=>rfl
 |.any,h|.ref _ _,h|.ad _ _,h|.tup _,h|.gd _ _ _ _,h|.ifc _ _,h=>by cases h
theorem DE(M:Mem)(v:V)(n:Nat)(h:bu v=true):eK M v n=eK [] v n:=by simp only[eK,Es M v h]
theorem DZ(M:Mem):∀(π:bz)(v:V),bu v=true->dM M π v=dM [] π v/\∀n x,dM [] π v=some (n,x)->bu x=true
 |[],v,h=>by simp only[dM,aI,bE];exact⟨trivial,λn x e=>e.2▸h⟩
 |.l::π,.p a b,h=>by simp only[bu,aP,ao]at h;simp only[dM];exact DZ M π a h.1
 |.r::π,.p a b,h=>by
  simp only[bu,aP,ao]at h;obtain⟨e1,e2⟩:=DZ M π b h.2;simp only[dM,e1,Es M a h.1];refine⟨trivial,λn x hx=>?_⟩;split at hx
  ·rename_i m n' x' _ h2;cases hx;exact e2 _ _ h2
  ·cases hx
 |.de::π,.p a b,_|.ix _::π,.p a b,_|.l::π,.d _ _,_|.r::π,.d _ _,_|.de::π,.d _ _,_|.ix _::π,.d _ _,_|_::π,.nl,_|_::π,.np,_|_::π,.u,_|_::π,.ag _,_|_::π,.fn _ _,_|_::π,.bx _,_=>by simp[dM]
 |_::_,.any,h|_::_,.ref _ _,h|_::_,.ad _ _,h|_::_,.tup _,h|_::_,.gd _ _ _ _,h|_::_,.ifc _ _,h=>by cases h
theorem Qg(M:Mem)(x:V)(π:bz)(off:Nat)(h:bu x=true):nh M x π off=nh [] x π off:=by cases x<;>first|rfl|(simp only[bu]at h;simp only[nh,(DZ M π _ h).1];done)|(cases h;done)|(rename_i t x;cases t<;>rfl)
theorem Z2(τ:Ty)(M:Mem)(x:V)(i:Nat)(h:bu x=true):oZ τ M x i=oZ τ [] x i:=by simp only[oZ,Qg M x _ _ h]
theorem c_(τ:Ty)(M:Mem)(x:V)(i:Nat)(h:bu x=true):pg B τ M x i=pg B τ [] x i:=by
 unfold pg;split
 ·rename_i off ft _ v _;simp only[bu]at h;obtain⟨e1,e2⟩:=DZ M (nW (len τ.fld) i) v h;rw[e1]
  cases hs:dM [] (nW (len τ.fld) i) v with
  |none=>rfl
  |some q=>obtain⟨n,w⟩:=q;simp only[DE M w _ (e2 _ _ hs)]
 ·rfl
theorem ZB(τ:Ty)(M:Mem)(x i:V)(h:bu x=true):pi B τ M x i=pi B τ [] x i:=by
 unfold pi;split
 ·cases x<;>first|rfl|(cases h;done)|(rename_i t x;cases t<;>rfl)
 ·rfl
theorem Z9(τ:Ty)(M:Mem)(x i:V)(h:bu x=true):pd B τ M x i=pd B τ [] x i:=by
 unfold pd;split
 ·simp only[Fq,Qg M x _ _ h]
 ·exact ZB τ M x i h
theorem Zt(τ:Ty)(M:Mem)(x:V)(h:bu x=true):lR τ M x=lR τ [] x:=by cases x<;>first|rfl|(simp only[bu]at h;simp only[lR,DE M _ _ h];done)|(cases h;done)|(rename_i t x;cases t<;>rfl)
theorem xg(h:bu v=true):v.strip=v:=by cases v<;>first|rfl|cases h
theorem xd{env:Env}:∀{l:l7},nO env l=true->∀x∈l,bu (rd env x)=true
 |[],_,x,h=>by cases h
 |y::l,hd,x,h=>by
  simp only[nO,aP,ao]at hd
  cases h with
  |head=>exact hd.1
  |tail _ h=>exact xd hd.2 x h
theorem OJ{f:dI}:∀(l:l7),(∀x∈l,bu (f x)=true)->fH f l=[]
 |[],_=>rfl
 |x::r,h=>by
  have hx:=h x ak;simp only[fH];split
  ·rename_i e;rw[e]at hx;cases hx
  ·exact OJ r λy hy=>h y (by simp[hy])
theorem Zd{s d:bF}(M:Mem)(x:V)(h:bu x=true):oT B s d M x=oT B s d [] x:=by
 have:∀N,vI N x=none:=λN=>by cases x<;>first|rfl|cases h
 simp only[oT,this]
theorem B'(M:Mem)(hk:iH o.op=true)(hd:nO env (bf o.op)=true)(h:evR B Φ o env []=⟨vc,v,[],[]⟩):
  evR B Φ o env M=⟨vc,v,[],M⟩:=by
 have hm:=xd hd;obtain⟨dst,op,ty',pos,after,guard⟩:=o;cases op<;>simp only[iH,d4]at hk<;>simp only[bf]at hm<;>simp only[evR,bI]at h⊢<;>(try simp only[bR]at h⊢;cases h)
 case load t x=>
  have hx:=hm x ak;have hn:∀N:Mem,pz (B.τ t) N dst (rd env x)=none:=λN=>by generalize rd env x=v at hx;cases v<;>first|rfl|(simp[bu]at hx)
  simp only[xg hx,kR,hn,bR]at h⊢;simp only[Zt _ M _ hx];simp only[Rs.mk.injEq]at h⊢;exact⟨h.1,h.2.1,trivial,trivial⟩
 case fieldAddr t x i=>have hx:=hm x ak;simp only[xg hx,Z2 _ M _ _ hx]
 case field t x i=>have hx:=hm x ak;simp only[xg hx,c_ _ M _ _ hx]
 case indexAddr t x i=>have hx:=hm x ak;simp only[xg hx,Z9 _ M _ _ hx]
 case convert s d x=>have hx:=hm x ak;simp only[xg hx,Zd M _ hx]
 all_goals rfl
theorem xr(k:Nat)(M M':Mem):∀(t:T)(v:V),bu v=true->∀q e X,conv k t v M'=some (q,e,X)->e=[]/\X=M'/\conv k t v M=some (q,[],M):=by
 intro t v
 induction v generalizing t with
 |p a b iha ihb=>
  intro h q e X hc;simp only[bu,aP,ao]at h;cases t<;>simp only[conv]at hc<;>try cases hc
  rename_i t1 t2
  cases h1:conv k t1 a M' with
  |none=>rw[h1]at hc;cases hc
  |some r=>
   obtain⟨q1,e1,X1⟩:=r;rw[h1]at hc;obtain⟨rfl,hX1,i1⟩:=iha _ h.1 _ _ _ h1;rw[hX1]at hc;simp only[V.evs]at hc
   cases h2:conv k t2 b M' with
   |none=>rw[h2]at hc;cases hc
   |some r2=>obtain⟨q2,e2,X2⟩:=r2;rw[h2]at hc;obtain⟨rfl,hX2,i2⟩:=ihb _ h.2 _ _ _ h2;cases hc;refine⟨rfl,hX2,?_⟩;simp only[conv,i1,V.evs,i2,ap]
 |u|d t' x|nl|np=>intro _ q e X hc;cases t<;>simp only[conv]at hc⊢<;>cases hc<;>exact⟨rfl,rfl,rfl⟩
 |fn f v ih=>intro h q e X hc;cases v<;>cases t<;>simp only[conv]at hc⊢<;>cases hc<;>exact⟨rfl,rfl,rfl⟩
 |ag v ih|bx v ih=>intro _ q e X hc;cases t<;>simp only[conv]at hc<;>cases hc
 |_=>intro h;cases h
theorem Pt(h:bu v=true):bu v.cells=true:=by cases v<;>exact h
theorem SH(d:Nat)(ob:Ob):go [(d,ob)] d=some ob:=by rw[cJ,am rfl]
theorem Zm{x:V}{r:Rs}(h:bu y=true):mJ x y M r=r:=by
 unfold mJ;split
 ·cases h
 ·rfl
theorem aal(h:bu v=true):vO k v M=none:=by
 unfold vO;split
 ·cases h
 ·rfl
theorem ZY{t:T}(h:bu v=true):rx b k t v M=conv k t v M:=by unfold rx;rw[aal h];cases b<;>rfl
theorem DC:∀v:V,bu v=true->qR v=false
 |.p a b,h=>by simp only[bu,aP,ao]at h;simp only[qR,DC a h.1,DC b h.2,eX,Bool.or_self]
 |.bx v,h|.fn _ v,h=>by simp only[bu]at h;simp only[qR];exact DC v h
 |.d _ _,_|.nl,_|.np,_|.u,_|.any,_=>rfl
 |.ad _ _,h|.ref _ _,h=>by simp[bu]at h
 |.ag _,_|.tup _,_|.gd _ _ _ _,_|.ifc _ _,_=>rfl
theorem r_{x:V}(h:bu y=true):pe B t x y M=kT B t x y M:=by
 unfold pe
 have:v9 (B.τ t) x y M=none:=by
  unfold v9;split
  ·rw[DC _ (by simpa only [bu]using h)];rfl
  ·rfl
 rw[this];exact Zm h
theorem ZG{d:Nat}{ob':Ob}(hy:bu y=true)(hg:go M d=some ob)(h:Gi d (kT B t (.ad d [.de]) y [(d,ob)])=some ob'):
  ∃v e,kT B t (.ad d [.de]) y M=⟨[],v,[e],put d ob' M⟩/\∃o o',e=.cut d o o'/\kZ (eN [.de] o) (eN [.de] o')=true:=by
 have hcy:=Pt hy;simp only[kT,SH,hg,ez]at h⊢
 cases hq:get [.de] ob.o ob.x with
 |none=>rw[hq]at h;cases h
 |some q=>
  rw[hq]at h;simp only[DE M y.cells _ hcy,DE [(d,ob)] y.cells _ hcy]at h⊢
  cases hb:aO [(B.τ t).ok,eK [] y.cells (B.τ t).size,bT q.o.strip.size (B.τ t).size,neg (isZ (B.τ t).size)]with
  |false=>rw[hb]at h;cases h
  |true=>
   rw[hb]at h;simp only[aD,nZ,bc,ZY hcy]at h⊢
   cases hc:conv d (B.σ t) y.cells []with
   |none=>
    exfalso
    cases hc':conv d (B.σ t) y.cells [(d,ob)]with
    |none=>rw[hc']at h;cases h
    |some r=>obtain⟨q',e',X'⟩:=r;obtain⟨_,_,c3⟩:=xr d [] [(d,ob)] _ _ hcy _ _ _ hc';rw[c3]at hc;cases hc
   |some r=>
    obtain⟨z,e,X⟩:=r;obtain⟨rfl,rfl,c1⟩:=xr d M [] _ _ hcy _ _ _ hc;obtain⟨_,_,c2⟩:=xr d [(d,ob)] [] _ _ hcy _ _ _ hc;rw[c2]at h;rw[c1];simp only[SH,hg]at h⊢
    cases hs:set [.de] ob.o ob.x z with
    |none=>rw[hs]at h;cases h
    |some ob2=>
     rw[hs]at h;simp only at h⊢
     cases hz:bT z.o.strip.size (B.τ t).size with
     |false=>rw[hz]at h;cases h
     |true=>
      rw[hz]at h;simp only[aD,ap]at h⊢;have hcl:yA [.de] ob2=none:=rfl;simp only[hcl]at h⊢;have hp:put d ob2 [(d,ob)]=[(d,ob2)]:=by simp only[put,cS,dA]
      rw[hp]at h;simp only[Gi,uj,aD,aI]at h;subst h;refine⟨_,_,rfl,_,_,rfl,?_⟩;obtain⟨oo,xx⟩:=ob;cases oo<;>simp only[set]at hs<;>cases hs;rfl
def B5(B:Tab)(Φ:du)(o:bj)(e:Env)(x:Mem)(e':Env)(x':Mem):Prop:=
 o.guard=none/\(
  (∃ty d,o.op=.alloc ty/\o.dst=some d/\aO [(B.τ ty).ok,B.z ty]=true/\go x d=none/\e'=(d,.ad d [.de])::e/\x'=(d,qX B ty)::x)\/
  (∃t d y ob ob',o.op=.store t (.tmp d) y/\o.dst=none/\go x d=some ob/\bu (rd e y)=true/\FG d (gt e d)=true/\Gi d (kT B t (.ad d [.de]) (rd e y) [(d,ob)])=some ob'/\e'=e/\x'=put d ob' x)\/
  (∃d vc v,o.dst=some d/\iH o.op=true/\nO e (bf o.op)=true/\evR B Φ o e []=⟨vc,v,[],[]⟩/\bu v=true/\ab vc/\e'=(d,v)::e/\x'=x))
theorem ab7{k:List Prop->V->Prop}(h:bxP B Φ o env k):∃vc v,iH o.op=true/\nO env (bf o.op)=true/\evR B Φ o env []=⟨vc,v,[],[]⟩/\bu v=true/\k vc v:=by
 unfold bxP at h
 cases hb:nob (iH o.op) (nO env (bf o.op))with
 |false=>rw[hb]at h;exact h.elim
 |true=>
  rw[hb]at h;simp only[aP,ao]at hb;simp only[aD]at h;split at h
  ·rename_i vc v hp;refine⟨vc,v,hb.1,hb.2,?_⟩;generalize evR B Φ o env []=q at hp;unfold TQ at hp;split at hp
   ·rename_i vc' v'
    cases hd:bu v' with
    |false=>rw[hd]at hp;cases hp
    |true=>rw[hd]at hp;cases hp;exact⟨rfl,hd,h⟩
   ·cases hp
  ·exact h.elim
theorem PJ:∀(ops:bL)(e:Env)(x:Mem)(K:Env->Mem->Prop),bx B Φ ops e x K->
  ∃(E:Nat->Env)(X:Nat->Mem),E 0=e/\X 0=x/\(∀j o,ops[j]? = some o->B5 B Φ o (E j) (X j) (E (j+1)) (X (j+1)))/\K (E ops.length) (X ops.length)
 |[],e,x,K,h=>⟨λ_=>e,λ_=>x,rfl,rfl,λj o h=>by simp at h,h⟩
 |o::r,e,x,K,h=>by
  have key:∃e' x',B5 B Φ o e x e' x'/\bx B Φ r e' x' K:=by
   simp only[bx]at h;split at h
   ·rename_i ty d hg ho hd;unfold bxA at h
    cases hb:aO [(B.τ ty).ok,B.z ty,isN (go x d)]with
    |false=>rw[hb]at h;exact h.elim
    |true=>
     rw[hb]at h;simp only[bH,bJ,bC,ao]at hb;refine⟨_,_,⟨hg,.inl ⟨ty,d,ho,hd,by simp only[bH,bJ,hb.1,hb.2.1,n5],?_,rfl,rfl⟩⟩,h⟩
     cases hx:go x d with
     |none=>rfl
     |some _=>rw[hx]at hb;exact absurd hb.2.2 (by simp[isN])
   ·rename_i t d y hg ho hd;unfold bxS at h;split at h
    ·rename_i ob hx
     cases hb:nob (bu (rd e y)) (FG d (gt e d))with
     |false=>rw[hb]at h;exact h.elim
     |true=>
      rw[hb]at h;simp only[aP,ao]at hb;simp only[aD]at h;split at h
      ·rename_i ob' h1;exact⟨_,_,⟨hg,.inr (.inl ⟨t,d,y,ob,ob',ho,hd,hx,hb.1,hb.2,h1,rfl,rfl⟩)⟩,h⟩
      ·exact h.elim
    ·exact h.elim
   ·rename_i d hg hd _;obtain⟨vc,v,h1,h2,h3,h4,h5⟩:=ab7 h;rw[je]at h5;exact⟨_,_,⟨hg,.inr (.inr ⟨d,vc,v,hd,h1,h2,h3,h4,h5.1,rfl,rfl⟩)⟩,h5.2⟩
   ·exact h.elim
  obtain⟨e',x',h1,h2⟩:=key;obtain⟨E,X,i1,i2,i3,i4⟩:=PJ r e' x' K h2;refine⟨λj=>match j with|0=>e|j+1=>E j,λj=>match j with|0=>x|j+1=>X j,rfl,rfl,λj o' hj=>?_,by simpa using i4⟩
  cases j with
  |zero=>simp only[iz,aI]at hj;subst hj;simp only;rw[i1,i2];exact h1
  |succ j=>simp only[lC]at hj;exact i3 j o' hj
theorem RF{k:Nat}:∀{l:aZ},k∈l->inN k l=true
 |j::r,h=>by
  simp only[inN]
  cases h with
  |head=>rw[uj];rfl
  |tail _ h=>cases Nat.beq j k<;>simp[RF h]
theorem P1{k:Nat}:∀{l:bL} {s:Nat} {o:bj},l[s]? = some o->tgt o=some k->k∈nk l
 |[],s,o,h,_=>by simp at h
 |x::r,0,o,h,ht=>by simp only[iz,aI]at h;subst h;simp[nk,ht]
 |x::r,s+1,o,h,ht=>by
  simp only[lC]at h;have:=P1 h ht;simp only[nk];split
  ·exact fp _ this
  ·exact this
theorem Pp{k:Nat}:∀{l:bL},nR (nk l)=true->∀{s s':Nat} {o o':bj},l[s]? = some o->l[s']? = some o'->tgt o=some k->tgt o'=some k->s=s'
 |[],_,s,_,o,_,h,_,_,_=>by simp at h
 |x::r,hn,s,s',o,o',h,h',ht,ht'=>by
  have hr:nR (nk r)=true:=by
   simp only[nk]at hn;split at hn
   ·rename_i d0 _;simp only[nR]at hn
    cases hi:inN d0 (nk r)with
    |true=>rw[hi]at hn;cases hn
    |false=>rw[hi]at hn;exact hn
   ·exact hn
  have hx:tgt x=some k->∀(s:Nat)(o:bj),r[s]? = some o->tgt o=some k->False:=λhx s o ho hto=>by have:=RF (P1 ho hto);simp only[nk,hx,nR,this,aD]at hn;cases hn
  cases s with
  |zero=>
   simp only[iz,aI]at h;subst h
   cases s' with
   |zero=>rfl
   |succ s'=>exact (hx ht s' o' (by simpa using h') ht').elim
  |succ s=>
   simp only[lC]at h
   cases s' with
   |zero=>simp only[iz,aI]at h';subst h';exact (hx ht' s o h ht).elim
   |succ s'=>rw[Pp hr h (by simpa using h') ht ht']
theorem Jd{k:Nat}{ty:bF}:∀{l:bL} {s:Nat} {o:bj},l[s]? = some o->o.op=.alloc ty->o.dst=some k->k∈lL l
 |[],s,o,h,_,_=>by simp at h
 |x::r,0,o,h,h1,h2=>by simp only[iz,aI]at h;subst h;simp[lL,h1,h2]
 |x::r,s+1,o,h,h1,h2=>by
  simp only[lC]at h;have:=Jd h h1 h2;simp only[lL];split
  ·exact fp _ this
  ·exact this
theorem D5(k:Nat):∀v:V,(v.ev (.kl k)).ev (.kl k)=v.ev (.kl k)
 |.ref r π=>by
  simp only[V.ev,Ev.ref]
  cases h:Nat.beq r k with
  |true=>rfl
  |false=>simp only[bc,V.ev,Ev.ref,h]
 |.ad r π=>by
  simp only[V.ev,Ev.ad]
  cases h:Nat.beq r k with
  |true=>rfl
  |false=>simp only[bc,V.ev,Ev.ad,h]
 |.p a b=>by simp only[V.ev,D5 k a,D5 k b]
 |.ag v|.tup v|.gd _ _ _ v|.fn _ v|.ifc _ v|.bx v=>by simp only[V.ev,D5 k v]
 |.any|.nl|.np|.u|.d _ _=>rfl
theorem Du(k j:Nat):∀v:V,(v.ev (.kl k)).ev (.kl j)=(v.ev (.kl j)).ev (.kl k)
 |.ref r π=>by simp only[V.ev,Ev.ref];cases h:Nat.beq r k<;>cases h':Nat.beq r j<;>simp only[bc,aD,V.ev,Ev.ref,h,h']
 |.ad r π=>by simp only[V.ev,Ev.ad];cases h:Nat.beq r k<;>cases h':Nat.beq r j<;>simp only[bc,aD,V.ev,Ev.ad,h,h']
 |.p a b=>by simp only[V.ev,Du k j a,Du k j b]
 |.ag v|.tup v|.gd _ _ _ v|.fn _ v|.ifc _ v|.bx v=>by simp only[V.ev,Du k j v]
 |.any|.nl|.np|.u|.d _ _=>rfl
theorem qQ{k:Nat}{o o':O}:∀v:V,v.ev (.kl k)=v->v.ev (.cut k o o')=v
 |.ref r π,h=>by
  simp only[V.ev,Ev.ref]at h⊢
  cases hb:Nat.beq r k with
  |true=>rw[hb]at h;cases h
  |false=>rfl
 |.ad r π,h=>by
  simp only[V.ev,Ev.ad]at h⊢
  cases hb:Nat.beq r k with
  |true=>rw[hb]at h;cases h
  |false=>rfl
 |.p a b,h=>by simp only[V.ev,V.p.injEq]at h⊢;exact⟨qQ a h.1,qQ b h.2⟩
 |.ag v,h=>by simp only[V.ev,V.ag.injEq]at h⊢;exact qQ v h
 |.tup v,h=>by simp only[V.ev,V.tup.injEq]at h⊢;exact qQ v h
 |.gd _ _ _ v,h=>by simp only[V.ev,V.gd.injEq,aL]at h⊢;exact qQ v h
 |.fn _ v,h=>by simp only[V.ev,V.fn.injEq,aL]at h⊢;exact qQ v h
 |.ifc _ v,h=>by simp only[V.ev,V.ifc.injEq,aL]at h⊢;exact qQ v h
 |.bx v,h=>by simp only[V.ev,V.bx.injEq]at h⊢;exact qQ v h
 |.any,_|.nl,_|.np,_|.u,_|.d _ _,_=>rfl
theorem Tf:∀(ids:aZ)(env:Env)(t k:Nat),k∈ids->(gt (klE ids env) t).ev (.kl k)=gt (klE ids env) t
 |i::r,env,t,k,h=>by
  simp only[klE];by_cases hr:k∈r
  ·exact Tf r _ t k hr
  ·have hk:k=i:=by
    cases h with
    |head=>rfl
    |tail _ h=>exact absurd h hr
   subst hk
   have key:∀(r:aZ)(env:Env),(∀t,(gt env t).ev (.kl k)=gt env t)->∀t,(gt (klE r env) t).ev (.kl k)=gt (klE r env) t:=by
    intro r
    induction r with
    |nil=>intro env h t;exact h t
    |cons j r ih=>intro env h t;simp only[klE];refine ih _ (λt=>?_) t;rw[tm,Du,h]
   exact key r _ (λt=>by rw[tm,D5]) t
theorem SS:∀(ids:aZ)(M:Mem)(k:Nat),k∈ids->go (klM ids M) k=none
 |i::r,M,k,h=>by
  simp only[klM];by_cases hr:k∈r
  ·exact SS r _ k hr
  ·have hk:k=i:=by
    cases h with
    |head=>rfl
    |tail _ h=>exact absurd h hr
   subst hk
   have key:∀(r:aZ)(M:Mem),go M k=none->go (klM r M) k=none:=by
    intro r
    induction r with
    |nil=>intro M h;exact h
    |cons j r ih=>
     intro M h;simp only[klM];refine ih _ ?_;by_cases e:k=j
     ·subst e;exact eJ _ _
     ·rw[dC e,h]
   exact key r _ (eJ _ _)
theorem St.kls{F:Fr}{a:Act}{w:aQ}:∀(ids:aZ) {p:Ow} {env:Env} {M:Mem},St F p env M a w->St F p (klE ids env) (klM ids M) a w
 |[],_,_,_,h=>h
 |k::r,p,env,M,h=>by have:=h.tr (Tr.kl h.hp k) h.lz;exact St.kls r (by simpa only [eh]using this)
theorem St.same(h:St F p env M a w)(hM:∀k,go M' k=go M k)(he:∀t,gt env' t=gt env t):St F p env' M' a w:=by
 have hl:∀k,bm M' k<->bm M k:=λk=>by simp only[bm,hM]
 have hi:Imm F p M' w=Imm F p M w:=by
  funext b
  simp only[Imm,hl]
 have hp:Hp F p M' w:=by refine⟨λk ob hk=>?_,λk k' b h1 h2 h3=>h.hp.sep k k' b h1 ((hl k).1 h2) ((hl k').1 h3),λk b h1=>h.hp.own k b ((hl k).1 h1),λb hb=>⟨(h.hp.lim b hb).1,(h.hp.lim b hb).2.1,λk hk=>(h.hp.lim b hb).2.2 k ((hl k).1 hk)⟩,h.hp.os,h.hp.tape,h.hp.output,h.hp.size,h.hp.old⟩;rw[hi];exact h.hp.objs k ob (by rw[←hM];exact hk)
 have ht:Tr F p M w [] p M' w:=Tr.zero (by rw[hi];exact cE.refl _ _) (λk π vs r=>r.same h.hp (hM k) rfl λ_ _ _=>rfl) (λk π v r=>r.same h.hp (hM k) rfl λ_ _ _=>rfl) hp;exact (h.tr ht h.lz).weak λt=>.inr (by rw[he];rfl)
section
variable {all:fK}
structure Sta (B:Tab) (all:fK) (E:Nat->Env) (X:Nat->Mem) (M0:Mem) (listed:eQ) (env:Env) (M:Mem):Prop where
 a:∀t,(∀(i:Nat)(o:bj),all[i]? = some o->isL listed i->o.dst≠some t)->gt env t=gt (E 0) t
 b:∀(i:Nat)(o:bj)(t:Nat),all[i]? = some o->isL listed i->o.dst=some t->gt env t=gt (E (i+1)) t
 c:∀k,(∀(i:Nat)(o:bj)(ty:bF),all[i]? = some o->isL listed i->o.op=.alloc ty->o.dst≠some k)->go M k=go M0 k
 d:∀(i:Nat)(o:bj)(k:Nat)(ty:bF),all[i]? = some o->isL listed i->o.op=.alloc ty->o.dst=some k->(∀(s:Nat)(o':bj),all[s]? = some o'->isL listed s->tgt o'≠some k)->go M k=some (qX B ty)
 s:∀(s:Nat)(o:bj)(k:Nat),all[s]? = some o->isL listed s->tgt o=some k->go M k=go (X (s+1)) k
structure Ctx (B:Tab) (Φ:du) (all:fK) (E:Nat->Env) (X:Nat->Mem) (M0:Mem):Prop where
 hb:kv 0 all.toList=true
 hdr:tA all (cL [] all.toList) all.size=true
 hnd:nR (nk all.toList)=true
 hE:∀(j:Nat)(o:bj),all[j]? = some o->B5 B Φ o (E j) (X j) (E (j+1)) (X (j+1))
 hX:X 0=[]
 h0:∀t (i:Nat) (o:bj) (ty:bF) (k:Nat),all[i]? = some o->o.op=.alloc ty->o.dst=some k->(gt (E 0) t).ev (.kl k)=gt (E 0) t
 hM:∀(i:Nat)(o:bj)(ty:bF)(k:Nat),all[i]? = some o->o.op=.alloc ty->o.dst=some k->go M0 k=none
theorem Ctx.uniq(C:Ctx B Φ all E X M0){y:bj}{t:Nat}(hx:all[i]? = some x)(hy:all[j]? = some y)(h1:x.dst=some t)(h2:y.dst=some t):i=j:=by
 rcases Nat.decEq i j with h|h
 ·exact absurd h2 (IP (lI C.hdr (cN.1 hx).1 (cN.1 hy).1 h hx hy) h1)
 ·exact h
theorem Ctx.tuniq(C:Ctx B Φ all E X M0){y:bj}{t:Nat}(hx:all[i]? = some x)(hy:all[j]? = some y)(h1:tgt x=some t)(h2:tgt y=some t):i=j:=Pp C.hnd (by rw[kO];exact hx) (by rw[kO];exact hy) h1 h2
theorem Z_{e:Env}{x:Mem}(h:B5 B Φ o e x e' x'):e'=wr o.dst (match o.dst with|some d=>gt e' d|none=>.any) e:=by
 obtain⟨_,⟨ty,d,_,hd,_,_,rfl,_⟩|⟨t,d,y,ob,ob',_,hd,_,_,_,_,rfl,_⟩|⟨d,vc,v,hd,_,_,_,_,_,rfl,_⟩⟩:=h
 ·rw[hd];simp only[wr,dZ,dA]
 ·rw[hd];rfl
 ·rw[hd];simp only[wr,dZ,dA]
theorem OS{e:Env}{x:Mem}{t:Nat}(h:B5 B Φ o e x e' x')(ht:o.dst=some t):bu (gt e' t)=true\/gt e' t=.ad t [.de]:=by
 obtain⟨_,⟨ty,d,_,hd,_,_,rfl,_⟩|⟨_,d,y,ob,ob',_,hd,_,_,_,_,rfl,_⟩|⟨d,vc,v,hd,_,_,_,hv,_,rfl,_⟩⟩:=h
 ·rw[hd]at ht;cases ht;right;simp only[dZ,dA]
 ·rw[hd]at ht;cases ht
 ·rw[hd]at ht;cases ht;left;simp only[dZ,dA];exact hv
theorem Ctx.spec(C:Ctx B Φ all E X M0):∀(j:Nat),j<=all.size->∀k ob,go (X j) k=some ob->
  ∃(i:Nat)(o:bj)(ty:bF),i<j/\all[i]? = some o/\o.op=.alloc ty/\o.dst=some k/\((∀(s:Nat)(o':bj),s<j->all[s]? = some o'->tgt o'≠some k)->ob=qX B ty)
 |0,_,k,ob,h=>by rw[C.hX]at h;cases h
 |j+1,hj,k,ob,h=>by
  have ho:all[j]? = some all[j]:=sb aa
  have up:∀{ob2},go (X j) k=some ob2->(ob2=ob\/tgt all[j]=some k)->∃(i:Nat)(o:bj)(ty:bF),i<j+1/\all[i]? = some o/\o.op=.alloc ty/\o.dst=some k/\((∀(s:Nat)(o':bj),s<j+1->all[s]? = some o'->tgt o'≠some k)->ob=qX B ty):=by
   intro ob2 h2 h3;obtain⟨i,o,ty,i1,i2,i3,i4,i5⟩:=C.spec j aa k ob2 h2;refine⟨i,o,ty,aa,i2,i3,i4,λhs=>?_⟩;rcases h3 with h3|h3
   ·rw[←h3];exact i5 λs o' hs'=>hs s o' aa
   ·exact absurd h3 (hs j _ aa ho)
  obtain⟨_,⟨ty,d,hop,hd,_,hx,_,e⟩|⟨t,d,y,ob1,ob',hop,hd,hx,_,_,_,_,e⟩|⟨d,vc,v,hd,_,_,_,hv,_,_,e⟩⟩:=C.hE j _ ho
  ·rw[e,cJ]at h;split at h
   ·rename_i hk;subst hk;cases h;exact⟨j,_,ty,aa,ho,hop,hd,λ_=>rfl⟩
   ·exact up h (.inl rfl)
  ·rw[e]at h;by_cases hk:k=d
   ·subst hk;exact up hx (.inr (by simp only[tgt,hop]))
   ·rw[iR _ hk]at h;exact up h (.inl rfl)
  ·rw[e]at h;exact up h (.inl rfl)
theorem Ctx.fresh(C:Ctx B Φ all E X M0){ty:bF}(hi:all[i]? = some o)(h1:o.op=.alloc ty)(h2:o.dst=some k):∀(j:Nat),j<=all.size->i<j->(∀(s:Nat)(o':bj),s<j->all[s]? = some o'->tgt o'≠some k)->go (X j) k=some (qX B ty)
 |0,_,h,_=>aa
 |j+1,hj,h,hs=>by
  have ho:all[j]? = some all[j]:=sb aa;obtain⟨_,⟨ty',d,hop,hd,_,hx,_,e⟩|⟨t,d,y,ob1,ob',hop,hd,hx,_,_,_,_,e⟩|⟨d,vc,v,hd,hpk,_,_,hv,_,_,e⟩⟩:=C.hE j _ ho
  ·rw[e,cJ];by_cases hk:d=k
   ·subst hk;have:=C.uniq hi ho h2 hd;subst this;rw[hi]at ho;cases ho;rw[am rfl];rw[h1]at hop;cases hop;rfl
   ·rw[aj hk];have hij:i≠j:=λhij=>by subst hij;rw[hi]at ho;cases ho;rw[h2]at hd;cases hd;exact hk rfl
    exact C.fresh hi h1 h2 j aa aa λs o' hs'=>hs s o' aa
  ·have hij:i≠j:=λhij=>by subst hij;rw[hi]at ho;cases ho;rw[h2]at hd;cases hd
   have hk:k≠d:=λhk=>hs j _ aa ho (by subst hk;simp only[tgt,hop]);rw[e,iR _ hk];exact C.fresh hi h1 h2 j aa aa λs o' hs'=>hs s o' aa
  ·have hij:i≠j:=λhij=>by subst hij;rw[hi]at ho;cases ho;rw[h1]at hpk;cases hpk
   rw[e];exact C.fresh hi h1 h2 j aa aa λs o' hs'=>hs s o' aa
theorem Ctx.alloc_of(C:Ctx B Φ all E X M0)(hs:all[s]? = some o)(ht:tgt o=some k):
  ∃(i:Nat)(x:bj)(ty:bF),i<s/\all[i]? = some x/\x.op=.alloc ty/\x.dst=some k/\go (X s) k=some (qX B ty):=by
 have hlt:=(cN.1 hs).1;obtain⟨_,⟨ty,d,hop,hd,_,hx,_,e⟩|⟨t,d,y,ob1,ob',hop,hd,hx,_,_,_,_,e⟩|⟨d,vc,v,hd,hpk,_,_,hv,_,_,e⟩⟩:=C.hE s _ hs
 ·simp only[tgt,hop]at ht;cases ht
 ·simp only[tgt,hop,aI]at ht;subst ht;obtain⟨i,x,ty,i1,i2,i3,i4,i5⟩:=C.spec s aa d ob1 hx;refine⟨i,x,ty,i1,i2,i3,i4,?_⟩;rw[hx,i5 λs' o' h1 h2 h3=>?_];have:=C.tuniq h2 hs h3 (by simp only[tgt,hop]);omega
 ·exfalso;unfold tgt at ht;split at ht
  ·rename_i hop;rw[hop]at hpk;cases hpk
  ·cases ht
theorem Ctx.kept(C:Ctx B Φ all E X M0)(hs:all[s]? = some o)(ht:tgt o=some k):∀(j:Nat),j<=all.size->s<j->go (X j) k=go (X (s+1)) k
 |0,_,h=>aa
 |j+1,hj,h=>by
  by_cases e:s=j
  ·rw[e]
  ·have ho:all[j]? = some all[j]:=sb aa;rw[←C.kept hs ht j aa aa];obtain⟨i,x,ty0,i1,i2,i3,i4,_⟩:=C.alloc_of hs ht;obtain⟨_,⟨ty',d,hop,hd,_,hx,_,e⟩|⟨t,d,y,ob1,ob',hop,hd,hx,_,_,_,_,e⟩|⟨d,vc,v,hd,hpk,_,_,hv,_,_,e⟩⟩:=C.hE j _ ho
   ·rw[e,cJ,aj];intro hk;subst hk;have:=C.uniq i2 ho i4 hd;omega
   ·rw[e,iR];intro hk;subst hk;have:=C.tuniq hs ho ht (by simp only[tgt,hop]);omega
   ·rw[e]
theorem Ctx.gts(C:Ctx B Φ all E X M0)(j t:Nat)(hj:j<=all.size):
  ((∀(i:Nat)(o:bj),all[i]? = some o->i<j->o.dst≠some t)->gt (E j) t=gt (E 0) t)/\
  (∀(i:Nat)(o:bj),all[i]? = some o->i<j->o.dst=some t->gt (E j) t=gt (E (i+1)) t):=by
 have hw:∀(j:Nat)(o:bj),all.toList[j]? = some o->E (j+1)=wr o.dst (match all[j]? with|some o=>(match o.dst with|some d=>gt (E (j+1)) d|none=>.any)|none=>.any) (E j):=λj o hj=>by rw[kO]at hj;rw[hj];exact Z_ (C.hE j o hj)
 obtain⟨a1,a2⟩:=En hw j t (by simpa using hj);refine⟨λh=>a1 λi o hi=>h i o (by rwa [kO]at hi),λi o hi hlt hd=>?_⟩;rw[a2 i o (by rw[kO];exact hi) hlt hd λi' o' hi' _ hd'=>C.uniq (by rwa [kO]at hi') hi hd' hd];simp only[hi,hd]
theorem EG(hj:j<listed.size):isL (listed.setIfInBounds j true) i<->i=j\/isL listed i:=by
 by_cases e:i=j
 ·subst e;simp[isL,hj]
 ·unfold isL;rw[pP false (cM e)];simp[e]
theorem Ctx.step(C:Ctx B Φ all E X M0)(hs:listed.size=all.size)(hdn:mc all listed)(S:Sta B all E X M0 listed env M)(ho:all[j]? = some o)(hnl:¬isL listed j)(hrd:∀e∈o.after,Region.binds .any e=true->isL listed e.on):tw B Φ (toL all) [o] env M (λenv' M'=>Sta B all E X M0 (listed.setIfInBounds j true) env' M'):=by
 have hjs:=(cN.1 ho).1;have hset:∀i,isL (listed.setIfInBounds j true) i<->i=j\/isL listed i:=λi=>EG (by rw[hs];exact hjs)
 have hlook:∀t∈o.looksAt all,gt env t=gt (E j) t:=λt htl=>by
  by_cases hw:∃(i:Nat)(x:bj),all[i]? = some x/\x.dst=some t
  ·obtain⟨i,x,e1,e3⟩:=hw;have e2:=(cN.1 e1).1;by_cases hij:i<j
   ·have hpair:=oP (lI C.hdr e2 hjs aa e1 ho) e3 htl;rw[am hij]at hpair;have hli:=jd hdn C.hb j o ho hrd i hpair;rw[S.b i x t e1 hli e3,(C.gts j t aa).2 i x e1 hij e3]
   ·have hnli:¬isL listed i:=λhli=>by
     by_cases e:i=j
     ·subst e;exact hnl hli
     ·have hpair:=oP (lI C.hdr e2 hjs e e1 ho) e3 htl;rw[aj hij]at hpair;exact hnl (jd hdn C.hb i x e1 (λe' he' hb'=>hdn i x e1 hli e' he' hb') j hpair)
    rw[S.a t λi' o' h1' h2' h3'=>hnli (C.uniq h1' e1 h3' e3▸h2')];exact ((C.gts j t aa).1 λi' o' h1' h2' h3'=>hij (C.uniq h1' e1 h3' e3▸h2')).symm
  ·rw[S.a t λi x h1 h2 h3=>hw ⟨i,x,h1,h3⟩];exact ((C.gts j t aa).1 λi x h1 h2 h3=>hw ⟨i,x,h1,h3⟩).symm
 have hrdE:∀x∈o.op.operands,rd env x=rd (E j) x:=λx hx=>by
  cases x with
  |tmp t=>exact hlook t (jU _ (pR.2 ⟨.tmp t,by simpa using hx,rfl⟩))
  |const c|global g|func f=>rfl
 obtain⟨hg,hk⟩:=C.hE j o ho;simp only[tw,hg];rcases hk with⟨ty,d,hop,hd,hty,hx,he,hxe⟩|⟨t,d,y,ob,ob',hop,hd,hx,hy,hadd,hst,he,hxe⟩|⟨d,vc,v,hd,hpk,hdat,hev,hv,hvc,he,hxe⟩
 ·have hr:evR B Φ o env M=⟨[],.ad d [.de],[.kl d],(d,qX B ty)::del d M⟩:=by simp only[evR,hop,bI,bf,fH,ap,hd,y7,hty,aD,qX]
  rw[hr];simp only[conj,hd,wr,eh]
  have stab:∀t,t≠d->(gt env t).ev (.kl d)=gt env t:=λt htd=>by
   by_cases hw:∃(i:Nat)(x:bj),all[i]? = some x/\isL listed i/\x.dst=some t
   ·obtain⟨i,x,e1,e2,e3⟩:=hw;rw[S.b i x t e1 e2 e3];rcases OS (C.hE i x e1) e3 with h|h
    ·exact AN _ _ h
    ·rw[h];simp only[V.ev,Ev.ad,cS,aj htd]
   ·rw[S.a t λi x h1 h2 h3=>hw ⟨i,x,h1,h2,h3⟩];exact C.h0 t j o ty d ho hop hd
  have nst:∀(s:Nat)(o':bj),all[s]? = some o'->isL listed s->tgt o'≠some d:=λs o' h1 h2 h3=>by
   obtain⟨i,x,ty',i1,i2,i3,i4,_⟩:=C.alloc_of h1 h3;have:=C.uniq i2 ho i4 hd;subst this
   have hmm:Operand.tmp d∈o'.op.operands:=by
    unfold tgt at h3;split at h3
    ·rename_i hop';cases h3;simp[hop',Op.operands]
    ·cases h3
   have hlk:d∈o'.looksAt all:=jU _ (pR.2 ⟨.tmp d,by simpa using hmm,rfl⟩);have hpair:=oP (lI C.hdr hjs (cN.1 h1).1 aa ho h1) hd hlk;rw[am i1]at hpair;exact hnl (jd hdn C.hb s o' h1 (λe' he' hb'=>hdn s o' h1 h2 e' he' hb') i hpair)
  refine⟨λt ht=>?_,λi x t hi hl hdx=>?_,λk hk=>?_,λi x k ty' hi hl h1 h2 hns=>?_,λs x k hi hl htk=>?_⟩
  ·have htd:d≠t:=λh=>ht j o ho ((hset j).2 (.inl rfl)) (by rw[hd,h]);rw[dZ,aj htd,tm,stab t (cM htd)];exact S.a t λi x hi hl=>ht i x hi ((hset i).2 (.inr hl))
  ·rw[dZ];by_cases hij:i=j
   ·subst hij;rw[ho]at hi;cases hi;rw[hd]at hdx;cases hdx;rw[am rfl,he,dZ,am rfl]
   ·have htd:d≠t:=λh=>hij (C.uniq hi ho hdx (by rw[hd,h]));rw[aj htd,tm,stab t (cM htd)];exact S.b i x t hi (((hset i).1 hl).resolve_left hij) hdx
  ·have hkd:d≠k:=λh=>hk j o ty ho ((hset j).2 (.inl rfl)) hop (by rw[hd,h]);rw[cJ,aj hkd,dC (cM hkd)];exact S.c k λi x ty' hi hl=>hk i x ty' hi ((hset i).2 (.inr hl))
  ·rw[cJ];by_cases hij:i=j
   ·subst hij;rw[ho]at hi;cases hi;rw[hd]at h2;cases h2;rw[am rfl];rw[hop]at h1;cases h1;rfl
   ·have hkd:d≠k:=λh=>hij (C.uniq hi ho h2 (by rw[hd,h]));rw[aj hkd,dC (cM hkd)];exact S.d i x k ty' hi (((hset i).1 hl).resolve_left hij) h1 h2 λs o' hs' hl'=>hns s o' hs' ((hset s).2 (.inr hl'))
  ·have hsl:isL listed s:=by
    rcases (hset s).1 hl with h|h
    ·subst h;rw[ho]at hi;cases hi;simp only[tgt,hop]at htk;cases htk
    ·exact h
   have hkd:d≠k:=λh=>nst s x hi hsl (by rw[htk,h]);rw[cJ,aj hkd,dC (cM hkd)];exact S.s s x k hi hsl htk
 ·have htg:tgt o=some d:=by simp only[tgt,hop]
  have hyr:rd env y=rd (E j) y:=hrdE y (by simp[hop,Op.operands])
  have hdr:gt env d=.ad d [.de]:=by
   have h1:gt env d=gt (E j) d:=by simpa only [rd]using hrdE (.tmp d) (by simp[hop,Op.operands])
   rw[h1];unfold FG at hadd;split at hadd
   ·rename_i k e;rw[e,cR hadd]
   ·cases hadd
  obtain⟨ia,xa,tya,i1,i2,i3,i4,i5⟩:=C.alloc_of ho htg;have hlk:d∈o.looksAt all:=jU _ (pR.2 ⟨.tmp d,by simp[hop,Op.operands],rfl⟩);have hla:isL listed ia:=by have hpair:=oP (lI C.hdr (cN.1 i2).1 hjs aa i2 ho) i4 hlk;rw[am i1]at hpair;exact jd hdn C.hb j o ho hrd ia hpair
  have nst:∀(s:Nat)(o':bj),all[s]? = some o'->isL listed s->tgt o'≠some d:=λs o' h1 h2 h3=>by have:=C.tuniq h1 ho h3 htg;subst this;exact hnl h2
  have hgo:go M d=some ob:=by rw[S.d ia xa d tya i2 hla i3 i4 nst,←i5,hx]
  obtain⟨v,e,hs1,oo,oo',hs2,hs3⟩:=ZG (M:=M) hy hgo hst
  have hr:evR B Φ o env M=⟨[],v,[e],put d ob' M⟩:=by
   have e1:rd env (.tmp d)=.ad d [.de]:=hdr;have e4:(rd env (.tmp d)).strip=.ad d [.de]:=by rw[e1];rfl
   have e3:(rd env y).strip=rd (E j) y:=by rw[hyr,xg hy]
   have e2:fH (rd env) [y]=[]:=OJ [y] λz hz=>by simp only[cA]at hz;subst hz;rw[hyr];exact hy
   have e5:fH (rd env) [.tmp d,y]=[]:=by rw[fH,e1];exact e2
   simp only[evR,hop,bI,bf,e4,e3,hs1,e5,ap,r_ hy]
  rw[hr];simp only[conj,hd,wr,eh]
  have stab:∀t,(gt env t).ev e=gt env t:=λt=>by
   subst hs2;by_cases hw:∃(i:Nat)(x:bj),all[i]? = some x/\isL listed i/\x.dst=some t
   ·obtain⟨i,x,e1,e2,e3⟩:=hw;rw[S.b i x t e1 e2 e3];rcases OS (C.hE i x e1) e3 with h|h
    ·exact AN _ _ h
    ·rw[h];simp only[V.ev,Ev.ad,hs3,aD];cases Nat.beq t d<;>rfl
   ·rw[S.a t λi x h1 h2 h3=>hw ⟨i,x,h1,h2,h3⟩];exact qQ _ (C.h0 t ia xa tya d i2 i3 i4)
  have hnja:∀(i:Nat)(x:bj)(ty:bF),all[i]? = some x->isL (listed.setIfInBounds j true) i->x.op=.alloc ty->isL listed i:=λi x ty hi hl hxo=>by
   rcases (hset i).1 hl with h|h
   ·subst h;rw[ho]at hi;cases hi;rw[hop]at hxo;cases hxo
   ·exact h
  refine⟨λt ht=>?_,λi x t hi hl hdx=>?_,λk hk=>?_,λi x k ty' hi hl h1 h2 hns=>?_,λs x k hi hl htk=>?_⟩
  ·rw[tm,stab];exact S.a t λi x hi hl=>ht i x hi ((hset i).2 (.inr hl))
  ·rw[tm,stab];rcases (hset i).1 hl with h|h
   ·subst h;rw[ho]at hi;cases hi;rw[hd]at hdx;cases hdx
   ·exact S.b i x t hi h hdx
  ·have hkd:k≠d:=λh=>hk ia xa tya i2 ((hset ia).2 (.inr hla)) i3 (by rw[i4,h]);rw[iR _ hkd];exact S.c k λi x ty' hi hl=>hk i x ty' hi ((hset i).2 (.inr hl))
  ·have hkd:k≠d:=λh=>hns j o ho ((hset j).2 (.inl rfl)) (by rw[htg,h]);rw[iR _ hkd];exact S.d i x k ty' hi (hnja i x ty' hi hl h1) h1 h2 λs o' hs' hl'=>hns s o' hs' ((hset s).2 (.inr hl'))
  ·rcases (hset s).1 hl with h|h
   ·subst h;rw[ho]at hi;cases hi;rw[htg]at htk;cases htk;rw[lJ _ _ (bP hgo),hxe,lJ _ _ (bP hx)]
   ·have hkd:k≠d:=λhk=>nst s x hi h (by rw[htk,hk]);rw[iR _ hkd];exact S.s s x k hi h htk
 ·have hr:evR B Φ o env M=⟨vc,v,[],M⟩:=by rw[uM o hrdE];exact B' M hpk hdat hev
  rw[hr];simp only[je,hd,wr,eh];have hna:∀ty,o.op≠.alloc ty:=λty h=>by rw[h]at hpk;cases hpk
  have hnt:tgt o=none:=by
   unfold tgt;split
   ·rename_i h;rw[h]at hpk;cases hpk
   ·rfl
  have hnja:∀(i:Nat)(x:bj)(ty:bF),all[i]? = some x->isL (listed.setIfInBounds j true) i->x.op=.alloc ty->isL listed i:=λi x ty hi hl hxo=>by
   rcases (hset i).1 hl with h|h
   ·subst h;rw[ho]at hi;cases hi;exact absurd hxo (hna ty)
   ·exact h
  refine⟨hvc,λt ht=>?_,λi x t hi hl hdx=>?_,λk hk=>?_,λi x k ty' hi hl h1 h2 hns=>?_,λs x k hi hl htk=>?_⟩
  ·have htd:d≠t:=λh=>ht j o ho ((hset j).2 (.inl rfl)) (by rw[hd,h]);rw[dZ,aj htd];exact S.a t λi x hi hl=>ht i x hi ((hset i).2 (.inr hl))
  ·rw[dZ];by_cases hij:i=j
   ·subst hij;rw[ho]at hi;cases hi;rw[hd]at hdx;cases hdx;rw[am rfl,he,dZ,am rfl]
   ·have htd:d≠t:=λh=>hij (C.uniq hi ho hdx (by rw[hd,h]));rw[aj htd];exact S.b i x t hi (((hset i).1 hl).resolve_left hij) hdx
  ·exact S.c k λi x ty' hi hl=>hk i x ty' hi ((hset i).2 (.inr hl))
  ·exact S.d i x k ty' hi (hnja i x ty' hi hl h1) h1 h2 λs o' hs' hl'=>hns s o' hs' ((hset s).2 (.inr hl'))
  ·rcases (hset s).1 hl with h|h
   ·subst h;rw[ho]at hi;cases hi;rw[hnt]at htk;cases htk
   ·exact S.s s x k hi h htk
theorem nV(X M:Mem)(k:Nat):go (ap X M) k=match go X k with|some ob=>some ob|none=>go M k:=by
 induction X with
 |nil=>rfl
 |cons x X ih=>
  obtain⟨j,ob⟩:=x;simp only[ap,cJ];split
  ·rfl
  ·exact ih
theorem Ctx.fin(C:Ctx B Φ all E X M0)(S:Sta B all E X M0 listed env M)(hall:∀i,i<all.size->isL listed i):
  (∀t,gt (E all.size) t=gt env t)/\∀k,go (ap (X all.size) M0) k=go M k:=by
 have hal:∀{i:Nat} {o:bj},all[i]? = some o->isL listed i:=λh=>hall _ (cN.1 h).1;constructor
 ·intro t;obtain⟨g1,g2⟩:=C.gts all.size t (bd _);by_cases hw:∃(i:Nat)(x:bj),all[i]? = some x/\x.dst=some t
  ·obtain⟨i,x,e1,e3⟩:=hw;rw[g2 i x e1 (cN.1 e1).1 e3,S.b i x t e1 (hal e1) e3]
  ·rw[g1 λi o h1 _ h3=>hw ⟨i,o,h1,h3⟩,S.a t λi o h1 _ h3=>hw ⟨i,o,h1,h3⟩]
 ·intro k;rw[nV]
  cases hx:go (X all.size) k with
  |none=>
   simp only;refine (S.c k λi o ty hi _ h1 h2=>?_).symm;by_cases hst:∃(s:Nat)(o':bj),all[s]? = some o'/\tgt o'=some k
   ·obtain⟨s,o',s1,s2⟩:=hst;have h3:=C.kept s1 s2 all.size (bd _) (cN.1 s1).1;obtain⟨_,⟨ty',d,hop,hd,_,hx',_,e⟩|⟨t,d,y,ob1,ob',hop,hd,hx',_,_,_,_,e⟩|⟨d,vc,v,hd,hpk,_,_,hv,_,_,e⟩⟩:=C.hE s _ s1
    ·simp only[tgt,hop]at s2;cases s2
    ·simp only[tgt,hop,aI]at s2;subst s2;rw[hx,e,lJ _ _ (bP hx')]at h3;cases h3
    ·unfold tgt at s2;split at s2
     ·rename_i hop;rw[hop]at hpk;cases hpk
     ·cases s2
   ·rw[C.fresh hi h1 h2 all.size (bd _) (cN.1 hi).1 λs o' _ s1 s2=>hst ⟨s,o',s1,s2⟩]at hx;cases hx
  |some ob=>
   simp only;obtain⟨i,o,ty,i1,i2,i3,i4,i5⟩:=C.spec all.size (bd _) k ob hx;by_cases hst:∃(s:Nat)(o':bj),all[s]? = some o'/\tgt o'=some k
   ·obtain⟨s,o',s1,s2⟩:=hst;rw[S.s s o' k s1 (hal s1) s2,←C.kept s1 s2 all.size (bd _) (cN.1 s1).1,hx]
   ·rw[S.d i o k ty i2 (hal i2) i3 i4 λs o' s1 _ s2=>hst ⟨s,o',s1,s2⟩,i5 λs o' _ s1 s2=>hst ⟨s,o',s1,s2⟩]
theorem Ctx.any(hΦ:iv P F Φ)(hB:TabOk P B)(C:Ctx B Φ all E X M0)(Q:gi)(hco:eM F.nt all.toList=true)(hfv:∀o∈all.toList,∀k,o.dst=some k->F.fv k=none)(hQ:∀p a w,St F p (E all.size) (ap (X all.size) M0) a w->Q .normal a w):
  ∀(fuel:Nat)(listed:eQ)(p:Ow)(env:Env)(M:Mem)(a:Act)(w:aQ),listed.size=all.size->unl listed all.size<=fuel->mc all listed->Sta B all E X M0 listed env M->St F p env M a w->wpAny P .any all Q fuel listed a w:=by
 intro fuel;have done:∀(listed:eQ)(p:Ow)(env:Env)(M:Mem)(a:Act)(w:aQ),listed.size=all.size->Region.ready .any all listed=[]->Sta B all E X M0 listed env M->St F p env M a w->Q .normal a w:=by intro listed p env M a w hs hr S hst;obtain⟨f1,f2⟩:=C.fin S (Az hs C.hb hr);exact hQ p a w (hst.same f2 f1)
 have noready:∀(listed:eQ),listed.size=all.size->unl listed all.size=0->Region.ready .any all listed=[]:=by
  intro listed hs hu
  cases hr:Region.ready .any all listed with
  |nil=>rfl
  |cons i r=>obtain⟨o,h1,h2,_⟩:=qC (j:=i) (by rw[hr];simp);have hi:=(cN.1 h1).1;have:=xj hu i hi;unfold isL at this;simp[hs,hi]at this h2;rw[this]at h2;cases h2
 induction fuel with
 |zero=>intro listed p env M a w hs hu _ S hst;have hr:=noready listed hs aa;exact⟨hr,done listed p env M a w hs hr S hst⟩
 |succ fuel ih=>
  intro listed p env M a w hs hu hdn S hst;refine⟨λhr=>done listed p env M a w hs hr S hst,λj hj=>?_⟩;obtain⟨o,h1,h2,h3⟩:=qC hj;have hjs:=(cN.1 h1).1;have hnl:¬isL listed j:=by unfold isL;simp[hs,hjs]at h2⊢;exact h2
  have hm:o∈all.toList:=by rw[jS];exact sd h1
  refine wi (λa' w' ⟨p',env',M',e1,e2⟩=>ih _ p' env' M' a' w' (by simpa using hs) ?_ (hdn.set hj) e2 e1) (Bc hΦ hB hst (C.step hs hdn S h1 hnl h3) (qE hco hm) (hfv o hm) h1 Q);have:=xz (by rw[hs];exact hjs) hnl all.size hjs;omega
theorem adf(hΦ:iv P F Φ)(hB:TabOk P B)(hmix:P.follows .mixedOrders=true)(hco:eM F.nt (toL ops)=true)(hfv:∀o∈toL ops,∀k,o.dst=some k->F.fv k=none)(hr:KX (toL ops)=true)(hQ:∀p env M a w,St F p env M a w->K env M->Q .normal a w)(h:St F p env M a w)(hk:bx B Φ (toL ops) (klE (lL (toL ops)) env) [] (λenv X=>K env (ap X (klM (lL (toL ops)) M)))):(Code.region id ops true).wp P Q a w:=by
 rw[cK]at hco hfv hr hk;simp only[KX,ao]at hr;obtain⟨h1,h2,h3⟩:=hr;obtain⟨E,X,e0,x0,e1,e2⟩:=PJ _ _ _ _ hk;have hlen:ops.toList.length=ops.size:=ak
 rw[hlen]at e2 h2
 have C:Ctx B Φ ops E X (klM (lL ops.toList) M):={
  hb:=h1
  hdr:=by simpa using h2
  hnd:=h3
  hE:=λj o ho=>e1 j o (by rw[kO];exact ho)
  hX:=x0
  h0:=λt i o ty k hi ho hd=>by rw[e0];exact Tf _ _ t k (Jd (by rw[kO];exact hi) ho hd)
  hM:=λi o ty k hi ho hd=>SS _ _ k (Jd (by rw[kO];exact hi) ho hd) }
 refine C6 hmix ?_;have hst:=h.kls (lL ops.toList)
 exact C.any hΦ hB Q hco hfv (λp a w hs=>hQ p _ _ a w hs e2) _ _ p (klE (lL ops.toList) env) (klM (lL ops.toList) M) a _ ak (Ff _ _) (λj o _ hi=>absurd hi nM)
  ⟨λt _=>by rw[e0],λi o t _ hi=>absurd hi nM,λk _=>rfl,λi o k ty _ hi=>absurd hi nM,λs o k _ hi=>absurd hi nM⟩ hst.drew
end
def agK(M M0:Mem)(k:Nat):Prop:=go M k=go M0 k/\go M0 k≠none
def agV(M M0:Mem):V->Prop
 |.p a b=>agV M M0 a/\agV M M0 b
 |.ag v|.fn _ v|.bx v=>agV M M0 v
 |.ref k _|.ad k _=>agK M M0 k
 |.gd _ _ _ _|.ifc _ _|.tup _=>False
 |_=>True
theorem SD(h:agK M M0 k):go M k=go M0 k:=h.1
theorem qF(h:agK M M0 k)(π:bz):ez M k π=ez M0 k π:=by unfold ez;rw[SD h]
theorem El:∀v:V,agV M M0 v->v.size M=v.size M0
 |.d _ _,_|.nl,_|.np,_|.u,_=>rfl
 |.p a b,h=>by simp only[agV]at h;simp only[V.size,El a h.1,El b h.2]
 |.ag v,h|.fn f v,h|.bx v,h|.any,h=>rfl
 |.ref k π,h=>by simp only[V.size,qF h]
 |.ad _ _,h=>rfl
 |.tup _,h|.gd _ _ _ _,h|.ifc _ _,h=>by cases h
theorem wZ(v:V)(n:Nat)(h:agV M M0 v):eK M v n=eK M0 v n:=by simp only[eK,El v h]
theorem xi:∀v:V,bu v=true->agV M M0 v
 |.p a b,h=>by simp only[bu,aP,ao]at h;simp only[agV];exact⟨xi a h.1,xi b h.2⟩
 |.ag v,h|.fn f v,h|.bx v,h=>xi v h
 |.d _ _,_|.nl,_|.np,_|.u,_=>trivial
 |.any,h|.ref _ _,h|.ad _ _,h|.tup _,h|.gd _ _ _ _,h|.ifc _ _,h=>by cases h
theorem Qk:∀(t:T)(x:t.den),bu (fy t x)=true:=by
 intro t
 induction t with
 |p a b iha ihb=>intro x;simp only[fy,bu,aP,ao];exact⟨iha x.1,ihb x.2⟩
 |_=>intro x;rfl
theorem aay(h:agK M M0 k):∀(π:bz)(o:O)(x:o.strip.den),agV M M0 (toV k π o x):=by
 intro π o x
 cases o with
 |fz t=>simp only[toV];exact xi _ (Qk _ _)
 |_=>exact h
theorem AD:∀(π:bz)(v:V),agV M M0 v->dM M π v=dM M0 π v/\∀n x,dM M0 π v=some (n,x)->agV M M0 x
 |[],v,h=>by simp only[dM,aI,bE];exact⟨trivial,λn x e=>e.2▸h⟩
 |.l::π,.p a b,h=>by simp only[agV]at h;simp only[dM];exact AD π a h.1
 |.r::π,.p a b,h=>by
  simp only[agV]at h;obtain⟨e1,e2⟩:=AD π b h.2;simp only[dM,e1,El a h.1];refine⟨trivial,λn x hx=>?_⟩;split at hx
  ·rename_i m n' x' _ h2;cases hx;exact e2 _ _ h2
  ·cases hx
 |s::π,.ref k ρ,h=>by
  have hk:agK M M0 k:=h
  have e:∀M:Mem,dM M (s::π) (.ref k ρ)=(match ez M k ρ,ez M k (ap ρ (s::π))with
   |some q,some q'=>(match gV (s::π) q.o.strip with|some n=>some (n,toV k (ap ρ (s::π)) q'.o q'.x)|none=>none)
   |_,_=>none):=λM=>by cases s<;>rfl
  rw[e,e,qF hk,qF hk];refine⟨rfl,λn x hx=>?_⟩;split at hx
  ·split at hx
   ·cases hx;exact aay hk _ _ _
   ·cases hx
  ·cases hx
 |.de::π,.p a b,_|.ix _::π,.p a b,_|.l::π,.d _ _,_|.r::π,.d _ _,_|.de::π,.d _ _,_|.ix _::π,.d _ _,_|_::π,.nl,_|_::π,.np,_|_::π,.u,_|_::π,.ag _,_|_::π,.fn _ _,_|_::π,.bx _,_|_::_,.any,h|_::_,.ad _ _,h=>by simp[dM]
 |_::_,.tup _,h|_::_,.gd _ _ _ _,h|_::_,.ifc _ _,h=>by cases h
theorem QC(x:V)(π:bz)(off:Nat)(h:agV M M0 x):nh M x π off=nh M0 x π off:=by
 cases x with
 |ad k ρ=>simp only[nh,qF h]
 |bx v=>simp only[agV]at h;simp only[nh,(AD π v h).1]
 |d t y=>cases t<;>rfl
 |_=>rfl
theorem Zr(τ:Ty)(x:V)(i:Nat)(h:agV M M0 x):oZ τ M x i=oZ τ M0 x i:=by simp only[oZ,QC x _ _ h]
theorem ZT(τ:Ty)(x:V)(i:Nat)(h:agV M M0 x):pg B τ M x i=pg B τ M0 x i:=by
 unfold pg;split
 ·rename_i off ft _ v _;simp only[agV]at h;obtain⟨e1,e2⟩:=AD (nW (len τ.fld) i) v h;rw[e1]
  cases hs:dM M0 (nW (len τ.fld) i) v with
  |none=>rfl
  |some q=>obtain⟨n,w⟩:=q;simp only[wZ w _ (e2 _ _ hs)]
 ·rfl
theorem ZC(τ:Ty)(x i:V)(h:agV M M0 x):pi B τ M x i=pi B τ M0 x i:=by
 unfold pi;split
 ·cases x with
  |ref k π=>simp only[qF h]
  |d t x=>cases t<;>rfl
  |_=>rfl
 ·rfl
theorem ZQ(τ:Ty)(x i:V)(h:agV M M0 x):pd B τ M x i=pd B τ M0 x i:=by
 unfold pd;split
 ·simp only[Fq,QC x _ _ h]
 ·exact ZC τ x i h
theorem J'(τ:Ty)(d:eP){x:V}(h:agV M M0 x):(pz τ M d x=none)=(pz τ M0 d x=none):=by rfl
theorem Z4(τ:Ty)(x:V)(h:agV M M0 x):lR τ M x=lR τ M0 x:=by
 cases x with
 |ad k π=>simp only[lR,qF h]
 |bx v=>simp only[agV]at h;simp only[lR,wZ _ _ h]
 |d t x=>cases t<;>rfl
 |_=>rfl
theorem YZ{s d:bF}{x:V}(h:agV M M0 x):oT B s d M x=oT B s d M0 x:=by
 have:vI M x=vI M0 x:=by
  cases x with
  |ref k π=>simp only[vI,qF h]
  |_=>rfl
 simp only[oT,this]
theorem e_{x:V}(h:agV M M0 x):vr τ M x=vr τ M0 x:=by
 cases x with
 |ref k π=>simp only[vr,qF h]
 |d t y=>cases t<;>first|rfl|(rename_i t y;cases t<;>rfl)|(rename_i t;cases t<;>rfl)
 |_=>rfl
theorem Q1(h:agK M M0 k)(π:bz)(t:T):v6 M k π t=v6 M0 k π t:=by unfold v6;rw[qF h]
theorem aap:∀(v:V)(t:T),agV M M0 v->v.view M t=v.view M0 t:=by
 intro v
 induction v with
 |p a b iha ihb=>intro t h;simp only[agV]at h;cases t<;>first|rfl|(simp only[V.view];rw[iha _ h.1,ihb _ h.2])
 |fn f v ih|bx v ih=>intro t h;cases t<;>first|rfl|(simp only[V.view];rw[ih _ h])
 |ref k π=>intro t h;cases t<;>simp only[V.view]<;>exact Q1 h _ _
 |ad k π=>intro t h;cases t<;>first|rfl|(simp only[V.view];exact Q1 h _ _)
 |gd _ _ _ _=>intro t h;cases h
 |any=>intro t h;cases t<;>rfl
 |tup _|ifc _ _=>intro t h;cases h
 |ag v|d t' x|nl|np|u=>intro t h;cases t<;>rfl
theorem O5(h:agV M M0 v):agV M M0 v.cells:=by cases v<;>exact h
theorem Pa:∀(vs:cf)(ts:ii),(∀v∈vs,agV M M0 v)->kA M vs ts=kA M0 vs ts
 |[],[],_|[],_::_,_|_::_,[],_=>rfl
 |v::r,t::ts,h=>by simp only[kA];rw[aap v.cells t (O5 (h v ak)),Pa r ts λx hx=>h x (by simp[hx])]
theorem W':∀(v:V)(M:Mem),(cr M v).1=[]\/∃k ob r,(cr M v).1=.fz k ob::r:=by
 intro v
 induction v with
 |p a b iha ihb=>
  intro M;simp only[cr];rcases iha M with h|⟨k,ob,r,h⟩
  ·rw[h];rcases ihb (cr M a).2 with h2|⟨k,ob,r,h2⟩
   ·rw[h2];exact .inl rfl
   ·rw[h2];exact .inr ⟨k,ob,r,rfl⟩
  ·rw[h];exact .inr ⟨k,ob,_,rfl⟩
 |ref k π|ad k π=>intro M;simp only[cr];cases go M k<;>simp
 |ag v ih|fn f v ih|ifc f v ih|bx v ih|tup v ih|gd _ _ _ v ih=>intro M;simp only[cr];exact ih M
 |_=>intro M;exact .inl rfl
theorem IY:∀(vs:cf)(M:Mem),(ew M vs).1=[]\/∃k ob r,(ew M vs).1=.fz k ob::r
 |[],M=>.inl rfl
 |v::vs,M=>by
  simp only[ew];rcases W' v M with h|⟨k,ob,r,h⟩
  ·rw[h];rcases IY vs (cr M v).2 with h2|⟨k,ob,r,h2⟩
   ·rw[h2];exact .inl rfl
   ·rw[h2];exact .inr ⟨k,ob,r,rfl⟩
  ·rw[h];exact .inr ⟨k,ob,_,rfl⟩
theorem Kp{a b:List α}(h:ap a b=[]):a=[]/\b=[]:=by cases a<;>simp[ap]at h⊢;exact h
theorem acd:∀(v:V),agV M M0 v->(cr M0 v).1=[]->∀M1:Mem,cr M1 v=([],M1):=by
 intro v
 induction v with
 |p a b iha ihb=>intro h e M1;simp only[agV]at h;simp only[cr]at e⊢;obtain⟨e1,e2⟩:=Kp e;have ha:=iha h.1 e1;rw[ha M0]at e2;simp only at e2;rw[ha M1];simp only;rw[ihb h.2 e2 M1];rfl
 |fn f v ih|bx v ih|ag v ih=>intro h e M1;simp only[cr]at e⊢;exact ih h e M1
 |ref k π=>
  intro h e M1;simp only[cr]at e
  cases hg:go M0 k with
  |none=>exact absurd hg h.2
  |some ob=>rw[hg]at e;cases e
 |ad k π=>
  intro h e M1;simp only[cr]at e
  cases hg:go M0 k with
  |none=>exact absurd hg h.2
  |some ob=>rw[hg]at e;cases e
 |gd _ _ _ _=>intro h;cases h
 |any=>intro h e M1;rfl
 |tup _|ifc _ _=>intro h;cases h
 |d t' x|nl|np|u=>intro h e M1;rfl
theorem JG:∀vs:List V,(∀v∈vs,agV M M0 v)->(ew M0 vs).1=[]->∀M1:Mem,ew M1 vs=([],M1)
 |[],_,_,_=>rfl
 |v::r,h,e,M1=>by simp only[ew]at e⊢;obtain⟨e1,e2⟩:=Kp e;have ha:=acd v (h v ak) e1;rw[ha M0]at e2;simp only at e2;rw[ha M1];simp only;rw[JG r (λx hx=>h x (by simp[hx])) e2 M1];rfl
theorem J3:∀vs:List V,gy [] vs=vs
 |[]=>rfl
 |v::r=>by simp only[gy,V.evs];rw[J3 r]
theorem J2:∀(π:bz)(v x:V),agV M M0 v->agV M M0 x->∀v',iQ π v x=some v'->agV M M0 v'
 |[],v,x,_,hx,v',h=>by simp only[iQ,aI]at h;subst h;exact hx
 |.l::π,v,x,hv,hx,v',h=>by
  cases v with
  |p a b=>
   simp only[agV]at hv;simp only[iQ]at h
   cases hs:iQ π a x with
   |none=>rw[hs]at h;cases h
   |some a'=>rw[hs]at h;simp only[aI]at h;subst h;exact⟨J2 π a x hv.1 hx a' hs,hv.2⟩
  |_=>simp[iQ]at h
 |.r::π,v,x,hv,hx,v',h=>by
  cases v with
  |p a b=>
   simp only[agV]at hv;simp only[iQ]at h
   cases hs:iQ π b x with
   |none=>rw[hs]at h;cases h
   |some b'=>rw[hs]at h;simp only[aI]at h;subst h;exact⟨hv.1,J2 π b x hv.2 hx b' hs⟩
  |_=>simp[iQ]at h
 |.ix _::_,v,x,_,_,v',h|.de::_,v,x,_,_,v',h=>by cases v<;>simp[iQ]at h
theorem Jy:∀t:T,agV M M0 (iT t)
 |.p a b=>⟨Jy a,Jy b⟩
 |.sl _|.u|.pt _|.fn _ _|.ifc _ _|.ib _ _|.mp _ _|.op _|.ns _|.er _|.int _|.bool|.str|.any=>trivial
theorem NX(place:Nat->Option (bz×Nat×Nat))(f:dI):∀(ps:ou) (v:V),(∀x∈bf.snds ps,agV M M0 (f x))->agV M M0 v->lN M place f ps v=lN M0 place f ps v
 |[],_,_,_=>rfl
 |(i,x)::r,v,hf,hv=>by
  simp only[lN]
  cases place i with
  |none=>rfl
  |some q=>
   obtain⟨π,off,n⟩:=q;simp only;obtain⟨e1,e2⟩:=AD π v hv;rw[e1];have hx:=O5 (hf x (by simp[bf.snds]))
   cases hs:dM M0 π v with
   |none=>rfl
   |some q=>
    obtain⟨m,w⟩:=q;simp only[wZ w n (e2 m w hs),wZ _ n hx]
    cases hq:iQ π v (f x).cells with
    |none=>rfl
    |some v'=>simp only[NX place f r v' (λy hy=>hf y (by simp[bf.snds,hy])) (J2 π v _ hv hx v' hq)]
theorem O':∀(v:V),agV M M0 v->kp M v=kp M0 v/\∀cs,kp M0 v=some cs->∀c∈cs,agV M M0 c:=by
 intro v
 induction v with
 |p a b iha ihb=>
  intro h;simp only[agV]at h;obtain⟨h1,h2⟩:=ihb h.2;simp only[kp];rw[h1,wZ a 1 h.1];refine⟨rfl,λcs hcs=>?_⟩
  cases hb:kp M0 b with
  |none=>rw[hb]at hcs;cases hcs
  |some r=>
   rw[hb]at hcs;simp only at hcs
   cases hz:eK M0 a 1 with
   |false=>rw[hz]at hcs;cases hcs
   |true=>
    rw[hz]at hcs;simp only[aD,aI]at hcs;subst hcs;intro c hc;rcases cz.1 hc with rfl|hc
    ·exact h.1
    ·exact h2 r hb c hc
 |u=>intro _;exact⟨rfl,λcs h=>by simp only[kp,aI]at h;subst h;intro c hc;cases hc⟩
 |_=>intro _;exact⟨rfl,λcs h=>by simp[kp]at h⟩
theorem ad1{x:V}{f:fL}(h:agV M M0 x)(hf:rN x=some (f,v)):agV M M0 v:=by
 cases x with
 |fn g y=>simp only[rN,aI,bE]at hf;obtain⟨_,rfl⟩:=hf;exact h
 |d t y=>
  cases t with
  |fn g t=>simp only[rN,aI,bE]at hf;obtain⟨_,rfl⟩:=hf;exact xi _ (Qk _ _)
  |_=>simp[rN]at hf
 |_=>simp[rN]at hf
theorem lK(h:agV M M0 v):v.strip=v:=by cases v<;>first|rfl|cases h
theorem DV(hk:∀k,go M0 k≠none->go M k≠none->go M k=go M0 k):∀(v:V),mY M0 v=true->∀vs,ac β M Im w v vs->agV M M0 v:=by
 have key:∀k,neg (isN (go M0 k))=true->go M k≠none->agK M M0 k:=λk h h2=>by
  have:go M0 k≠none:=λe=>by rw[e]at h;cases h
  exact⟨hk k this h2,this⟩
 intro v
 induction v with
 |p a b iha ihb=>intro h vs r;simp only[mY,aP,ao]at h;simp only[ac]at r;obtain⟨va,vb,_,h1,h2⟩:=r;exact⟨iha h.1 _ h1,ihb h.2 _ h2⟩
 |ref j π=>intro h vs r;simp only[ac]at r;obtain⟨ob,_,h1,_⟩:=r;exact key j h (by rw[h1];simp)
 |ad j π=>intro h vs r;simp only[ac]at r;obtain⟨_,_,ob,_,_,_,h1,_⟩:=r;exact key j h (by rw[h1];simp)
 |fn f v ih=>intro h vs r;simp only[ac]at r;obtain⟨us,_,h1⟩:=r;exact ih h _ h1
 |bx v ih=>intro h vs r;simp only[ac]at r;obtain⟨_,_,us,_,_,_,h1⟩:=r;exact ih h _ h1
 |ag v=>intro h vs r;simp only[ac]at r
 |tup v|gd _ _ _ v|ifc _ v=>intro h;cases h
 |_=>intro h vs r;trivial
theorem ad6(hk:∀k,go M0 k≠none->go M k≠none->go M k=go M0 k)(v:V)(h:mY M0 v=true)(u:bw)(r:ae β M Im w v u):agV M M0 v:=by
 cases v with
 |ag v=>simp only[ae]at r;obtain⟨vs,_,r⟩:=r;exact DV hk v h _ r
 |any=>trivial
 |tup v|gd _ _ _ v|ifc _ v=>cases h
 |p a b=>simp only[ae]at r;exact DV hk _ h _ r
 |u=>trivial
 |ref j π|ad j π=>simp only[ae]at r;exact DV hk _ h _ r
 |d t x|nl|np=>trivial
 |fn f v|bx v=>simp only[ae]at r;exact DV hk _ h _ r
theorem DG{env:Env}:∀{l:l7},xH M0 env l=true->∀x∈l,mY M0 (rd env x)=true
 |[],_,x,h=>by cases h
 |y::l,hd,x,h=>by
  simp only[xH,aP,ao]at hd
  cases h with
  |head=>exact hd.1
  |tail _ h=>exact DG hd.2 x h
theorem afm(x:dJ)(h:∀t,x≠.tmp t):agV M M0 (rd env x):=by
 cases x with
 |tmp t=>exact absurd rfl (h t)
 |const v=>
  cases v with
  |slice a n m=>
   simp only[rd]
   cases a with
   |none=>simp only[rdV];cases nob (Nat.beq n 0) (Nat.beq m 0)<;>trivial
   |some _=>trivial
  |pointer a=>cases a<;>trivial
  |_=>trivial
 |func f|global g=>trivial
theorem bi(h:be M=⟨vc,v,e,N⟩)(hv:ab vc):False:=by simp only[be,Rs.mk.injEq]at h;rw[←h.1]at hv;simp[ab]at hv
theorem gb(h:ab (ap (fH f l) vc)):ab vc:=by rw[fO]at h;exact h.2
theorem Kj{ks r:Mem}:cj (len (klL (ba ks))) (ap ks r)=ks:=by
 induction ks with
 |nil=>simp[ba,klL,len,cj]
 |cons q ks ih=>obtain⟨k,ob⟩:=q;simp only[ba,klL,len,ap,cj];rw[ih]
theorem PW{r:bM}(h:klB (ap (.fz k ob::r) e) N=true):False:=by cases N<;>simp[ap,klB]at h
theorem acq{o:O}{r:bM}:∀(e:bM)(N:Mem),klB (ap e (.cut k o o::r)) N=false:=λe=>by
 induction e with
 |nil=>intro N;cases N<;>rfl
 |cons x e ih=>intro N;cases x<;>cases N<;>first|rfl|(rename_i q N;obtain⟨j,ob⟩:=q;simp only[ap,klB,ih,aP,Bool.and_false])
theorem Pk{d:Nat}(h:qH k W d r M=⟨vc,v,e,N⟩)(hv:ab vc)(he:klB e N'=true):False:=by
 unfold qH at h
 cases hb:shp r W.ag with
 |false=>rw[hb]at h;exact bi h hv
 |true=>
  rw[hb]at h;simp only[aD]at h;split at h
  ·split at h
   ·(try simp only at h)
    cases hi:inN _ _ with
    |true=>rw[hi]at h;exact bi h hv
    |false=>rw[hi]at h;simp only[bc,Rs.mk.injEq]at h;obtain⟨_,_,rfl,_⟩:=h;rw[acq]at he;cases he
   ·exact bi h hv
  ·exact bi h hv
theorem L_{d:Nat}(h:th W d r M=⟨vc,v,e,N⟩)(hv:ab vc)(he:klB e N'=true):False:=by
 unfold th at h;split at h
 ·split at h
  ·cases hb:lf W.o with
   |false=>rw[hb]at h;exact bi h hv
   |true=>rw[hb]at h;exact Pk h hv he
  ·split at h
   ·cases hb:slO W.o with
    |false=>rw[hb]at h;exact bi h hv
    |true=>rw[hb]at h;exact Pk h hv he
   ·exact bi h hv
 ·exact bi h hv
theorem adt{W:Wc}(h:B6 W r M=⟨vc,v,e,N⟩)(hv:ab vc)(he:klB e N'=true):False:=by exact bi h hv
theorem SL:∀(i:Nat)(vs:cf)(v0:V)(r:cf),pkN i vs=some (v0,r)->∀v∈r,v∈vs
 |_,[],_,_,h=>by cases ‹Nat›<;>simp[pkN]at h
 |0,v::vs,v0,r,h=>λx hx=>by simp only[pkN,aI,bE]at h;obtain⟨rfl,rfl⟩:=h;exact fp _ hx
 |i+1,v::vs,v0,r,h=>λx hx=>by
  simp only[pkN]at h;split at h
  ·rename_i y s hs;simp only[aI,bE]at h;obtain⟨rfl,rfl⟩:=h;rcases cz.1 hx with rfl|hx
   ·exact gk
   ·exact fp _ (SL i vs y s hs x hx)
  ·cases h
theorem Q9:∀(N:Mem)(k:Nat)(rest:Mem),(∀j,j=k\/j∈ba N->go rest j=none)->klB (.kl k::klL (ba N)) (cj (len (Ev.kl k::klL (ba N))) (ap N rest))=false
 |[],k,rest,h=>by
  simp only[ba,klL,len,ap]
  cases rest with
  |nil=>rfl
  |cons q r=>
   obtain⟨j,ob⟩:=q;simp only[cj,klB];have h1:=h k (.inl rfl);rw[cJ]at h1
   cases hb:Nat.beq k j with
   |false=>rfl
   |true=>rw[am (cR hb).symm]at h1;cases h1
 |(n,ob)::N,k,rest,h=>by have ih:=Q9 N n rest (λj hj=>h j (.inr (by simp only[ba];exact hj.elim (λe=>e▸gk) (λh=>fp _ h))));simp only[ba,klL,len,ap]at ih⊢;simp only[cj,klB]at ih⊢;rw[ih];cases Nat.beq k n<;>rfl
theorem abf:∀v:V,agV M M0 v->tyV M v=tyV M0 v
 |.ref k π,h=>by
  cases π with
  |nil=>simp only[tyV,SD h]
  |cons a r=>rfl
 |.d _ _,_|.p _ _,_|.ag _,_|.tup _,_|.gd _ _ _ _,_|.fn _ _,_|.ifc _ _,_|.bx _,_|.ad _ _,_|.any,_|.nl,_|.np,_|.u,_=>rfl
theorem PQ{M0 M:Mem}:∀(vs:cf)(ts:ii),(∀v∈vs,agV M M0 v)->tJ M vs ts=tJ M0 vs ts
 |[],_,_|_::_,[],_=>by simp only[tJ]
 |v::vs,t::ts,h=>by simp only[tJ,abf v (h v (gk ..)),PQ vs ts (λx hx=>h x (fp _ hx))]
theorem OF{M0 M:Mem}{vs:cf}(h:∀v∈vs,agV M M0 v):∀l:List Pv,qY M vs l=qY M0 vs l
 |[]=>rfl
 |p::r=>by simp only[qY,PQ vs p.args h,OF h r]
theorem Qj{d:Nat}(hd:∀v∈vs,agV M M0 v)(h:pC ct d vs M0=⟨vc,v,e,N⟩)(hv:ab vc)(he:klB e (cj (len e) N)=true):
  pC ct d vs M=⟨vc,v,e,ap (cj (len e) N) (dx (ba (cj (len e) N)) M)⟩:=by
 unfold pC at h⊢
 cases hs:shp vs ct.ga with
 |false=>rw[hs]at h;exact (bi h hv).elim
 |true=>
  rw[hs]at h;simp only[aD]at h⊢
  cases hsh:ct.sh with
  |false=>
   rw[hsh]at h;simp only at h⊢;rw[Pa vs ct.args hd]
   cases hx:kA M0 vs ct.args with
   |none=>rw[hx]at h;exact (bi h hv).elim
   |some x=>rw[hx]at h;simp only at h⊢;generalize newL d 0 ct.rt (ct.res x)=q at h⊢;obtain⟨v',N',_⟩:=q;simp only[Rs.mk.injEq]at h⊢;obtain⟨rfl,rfl,rfl,rfl⟩:=h;rw[Kj];exact⟨rfl,rfl,rfl,rfl⟩
  |true=>
   rw[hsh]at h;simp only at h⊢;rcases IY vs M0 with hn|⟨k,ob,r,hn⟩
   ·have hf:=JG vs hd hn;rw[hf M0]at h;rw[hf M];simp only[J3]at h⊢
    cases hx:asL vs ct.args with
    |none=>rw[hx]at h;exact (bi h hv).elim
    |some x=>rw[hx]at h;simp only at h⊢;generalize newL d 0 ct.rt (ct.res x)=q at h⊢;obtain⟨v',N',_⟩:=q;simp only[Rs.mk.injEq]at h⊢;obtain⟨rfl,rfl,rfl,rfl⟩:=h;have:∀l:List Ev,ap [] l=l:=λ_=>rfl;rw[this,Kj];exact⟨rfl,rfl,rfl,rfl⟩
   ·exfalso;generalize ew M0 vs=q at h hn;obtain⟨e1,M1⟩:=q;simp only at hn h;subst hn;split at h
    ·simp only[Rs.mk.injEq]at h;obtain⟨_,_,rfl,_⟩:=h;exact PW he
    ·exact bi h hv
theorem Zy{d:Nat}(hd:∀v∈vs,agV M M0 v)(h:nP ct d vs M0=⟨vc,v,e,N⟩)(hv:ab vc)(he:klB e (cj (len e) N)=true):
  nP ct d vs M=⟨vc,v,e,ap (cj (len e) N) (dx (ba (cj (len e) N)) M)⟩:=by
 unfold nP at h⊢
 cases hmu:ct.mu with
 |some mu=>
  cases mu with
  |o O=>
   rw[hmu]at h;exfalso;change tI O vs M0=_ at h;unfold tI at h;split at h
   ·simp only[Rs.mk.injEq]at h;obtain⟨_,_,rfl,_⟩:=h;simp only[kG]at he;generalize cj _ N=N1 at he;cases N1<;>simp[klB]at he
   ·exact bi h hv
  |m m=>rw[hmu]at h;exfalso;simp only at h;exact (bi h hv).elim
  |w W=>rw[hmu]at h;exact (L_ h hv he).elim
  |k W=>
   rw[hmu]at h;simp only at h⊢;unfold vi at h⊢
   cases hpk:pkN W.i vs with
   |none=>rw[hpk]at h;exact (bi h hv).elim
   |some q=>
   obtain⟨v0,r⟩:=q;rw[hpk]at h;simp only at h⊢
   cases b2:nob (slO W.o) (shp r W.ag)with
   |false=>rw[b2]at h;exact (bi h hv).elim
   |true=>
   rw[b2]at h;simp only[aD]at h⊢;rcases IY r M0 with hn|⟨k,ob,r',hn⟩
   ·have hf:=JG r (λv hv=>hd v (SL _ _ _ _ hpk v hv)) hn;rw[hf M0]at h;rw[hf M];simp only[J3]at h⊢
    cases hx:asL r W.as with
    |none=>rw[hx]at h;exact (bi h hv).elim
    |some y=>
    rw[hx]at h;simp only at h⊢
    cases hroot:pn v0 with
    |some k=>
     exfalso;rw[hroot]at h;simp only at h
     cases hg:Nat.ble (Nat.succ k) gid with
     |false=>rw[hg]at h;exact bi h hv
     |true=>
     rw[hg]at h;simp only[aD]at h;split at h
     ·split at h
      ·unfold oS at h;generalize newL d 0 W.rt (W.res _ y)=q at h;obtain⟨v',N',_⟩:=q;simp only[Rs.mk.injEq,ap]at h;obtain⟨_,_,rfl,rfl⟩:=h;rw[Q9 N' k _ (λj hj=>?_)]at he
       ·cases he
       ·by_cases hj2:j∈ba N'
        ·exact (sZ (ba N') _ j).1 (.inl hj2)
        ·rw[(sZ (ba N') _ j).2 hj2];rcases hj with rfl|hj
         ·exact eJ _ _
         ·exact absurd hj hj2
      ·exact bi h hv
     ·exact bi h hv
    |none=>
     rw[hroot]at h;simp only at h⊢
     cases v0 with
     |nl=>
      try simp only at h⊢
      cases hem:EY W.o with
      |none=>rw[hem]at h;exact (bi h hv).elim
      |some x=>
      rw[hem]at h;simp only at h⊢;unfold oS at h⊢;generalize newL d 0 W.rt (W.res x y)=q at h⊢;obtain⟨v',N',_⟩:=q;simp only[Rs.mk.injEq]at h⊢;obtain⟨rfl,rfl,rfl,rfl⟩:=h;have:∀l:List Ev,ap [] l=l:=λ_=>rfl;rw[this,Kj];exact⟨rfl,rfl,rfl,rfl⟩
     |_=>exact (bi h hv).elim
   ·exfalso;generalize ew M0 r=q at h hn;obtain⟨e1,M1⟩:=q;simp only at hn h;subst hn;have key:∀(x:W.o.strip.den)(y:bq W.as)(e2:bM)(M2:Mem),oS W d x y (ap (.fz k ob::r') e2) M2=⟨vc,v,e,N⟩->False:=λx y e2 M2 h=>by unfold oS at h;simp only[Rs.mk.injEq]at h;obtain⟨_,_,rfl,_⟩:=h;rw[AJ]at he;exact PW he
    split at h
    ·split at h
     ·rename_i k' _
      cases hg:Nat.ble (Nat.succ k') gid with
      |false=>rw[hg]at h;exact bi h hv
      |true=>
      rw[hg]at h;simp only[aD]at h;split at h
      ·split at h
       ·exact key _ _ _ _ h
       ·exact bi h hv
      ·exact bi h hv
     ·split at h
      ·exact key _ _ [] _ (by rw[show ap (Ev.fz k ob::r') []=Ev.fz k ob::r' from qS _];exact h)
      ·exact bi h hv
    ·exact bi h hv
  |c W=>rw[hmu]at h;exact (adt h hv he).elim
  |s s=>rw[hmu]at h;exact (bi h hv).elim
  |a W=>
   rw[hmu]at h;exfalso
   have hcut:∀(e:bM)(k:Nat)(o:O)(r:bM)(N:Mem),klB (ap e (.cut k o o::r)) N=false:=λe k o r=>by
    induction e with
    |nil=>intro N;cases N<;>rfl
    |cons x e ih=>intro N;cases x<;>cases N<;>first|rfl|(rename_i q N;obtain⟨j,ob⟩:=q;simp only[ap,klB,ih,aP,Bool.and_false])
   simp only at h;exact (bi h hv).elim
  |v l=>
   rw[hmu]at h;simp only at h⊢;rw[OF hd]
   cases hp:qY M0 vs l with
   |none=>rw[hp]at h;exact (bi h hv).elim
   |some q=>rw[hp]at h;simp only at h⊢;exact Qj hd h hv he
 |none=>rw[hmu]at h;simp only at h⊢;exact Qj hd h hv he
theorem QA{f:dI}:∀{l:l7} {v:V},v∈gz f l->∃x∈l,f x=v
 |[],v,h=>by cases h
 |x::r,v,h=>by
  simp only[gz]at h;rcases cz.1 h with rfl|h
  ·exact⟨x,ak,rfl⟩
  ·obtain⟨y,h1,h2⟩:=QA h;exact⟨y,by simp[h1],h2⟩
theorem DH(e:Ev):∀v:V,bu v=true->v.ev e=v
 |.d _ _,_|.nl,_|.np,_|.u,_=>rfl
 |.p a b,h=>by simp only[bu,aP,ao]at h;simp only[V.ev,DH e a h.1,DH e b h.2]
 |.ag v,h|.fn _ v,h|.bx v,h=>by simp only[bu]at h;simp only[V.ev,DH e v h]
 |.any,h|.ref _ _,h|.ad _ _,h|.tup _,h|.gd _ _ _ _,h|.ifc _ _,h=>by cases h
theorem Rh:∀(e:bM)(v:V),bu v=true->v.evs e=v
 |[],_,_=>rfl
 |x::e,v,h=>by simp only[V.evs,DH x v h];exact Rh e v h
theorem QP(v:V)(t:T)(M:Mem)(h:bu v=true)(q:Ob)(e:bM)(M':Mem)(hc:conv k t v M=some (q,e,M')):e=[]/\M'=M/\∀M1,conv k t v M1=some (q,[],M1):=⟨(xr k M M t v h q e M' hc).1,(xr k M M t v h q e M' hc).2.1,λM1=>(xr k M1 M t v h q e M' hc).2.2⟩
theorem D9:∀(v:V)(M:Mem),bu v=true->cr M v=([],M)
 |.p a b,M,h=>by simp only[bu,aP,ao]at h;simp only[cr,D9 a M h.1,D9 b M h.2,ap]
 |.ag v,M,h|.fn _ v,M,h|.bx v,M,h=>by simp only[bu]at h;simp only[cr,D9 v M h]
 |.d _ _,_,_|.nl,_,_|.np,_,_|.u,_,_=>rfl
 |.any,_,h|.ref _ _,_,h|.ad _ _,_,h|.tup _,_,h|.gd _ _ _ _,_,h|.ifc _ _,_,h=>by cases h
theorem Oj{o:O}(h:bu v=true){x:o.strip.den}(hc:qV k o v M=some (x,e,M')):e=[]/\M'=M/\∀M1,qV k o v M1=some (x,[],M1):=by
 unfold qV at hc⊢;split at hc
 ·rename_i t;simp only[D9 v _ h,V.evs]at hc⊢;split at hc
  ·rename_i y hy;simp only[aI,bE]at hc;obtain⟨rfl,rfl,rfl⟩:=hc;exact⟨rfl,rfl,λ_=>rfl⟩
  ·cases hc
 ·split at hc
  ·rename_i q e1 M1 hq;obtain⟨rfl,rfl,h3⟩:=QP v _ _ h _ _ _ hq;split at hc
   ·rename_i y hy;simp only[aI,bE]at hc;obtain⟨rfl,rfl,rfl⟩:=hc;exact⟨rfl,rfl,λM2=>by simp only[h3,hy]⟩
   ·cases hc
  ·cases hc
theorem ZX{o:O}(h:bu v=true){x:o.strip.den}(hc:r9 k o v M=some (x,e,M')):e=[]/\M'=M/\∀M1,r9 k o v M1=some (x,[],M1):=by
 unfold r9 at hc⊢;split at hc
 ·split at hc
  ·rename_i y ev M1 hq;obtain⟨rfl,rfl,h3⟩:=Oj h hq;simp only[aI,bE]at hc;obtain⟨rfl,rfl,rfl⟩:=hc;exact⟨rfl,rfl,λM2=>by simp only[h3]⟩
  ·cases hc
 ·exact Oj h hc
theorem DA{k:Nat}{o:O}:∀(l:cf),(∀v∈l,bu v=true)->∀(M:Mem)(x:List o.strip.den)(e:bM)(M':Mem),jh k o [] l M=some (x,e,M')->e=[]/\M'=M/\∀M1,jh k o [] l M1=some (x,[],M1)
 |[],_,M,x,e,M',hc=>by simp only[jh,aI,bE]at hc;obtain⟨rfl,rfl,rfl⟩:=hc;exact⟨rfl,rfl,λ_=>rfl⟩
 |v::r,h,M,x,e,M',hc=>by
  simp only[jh,V.evs]at hc;split at hc
  ·rename_i y e1 M1 h1;obtain⟨rfl,rfl,h3⟩:=ZX (h v ak) h1;simp only[ap]at hc;split at hc
   ·rename_i z e2 M2 h2;obtain⟨rfl,rfl,h4⟩:=DA r (λw hw=>h w (by simp[hw])) _ _ _ _ h2;simp only[aI,bE]at hc;obtain⟨rfl,rfl,rfl⟩:=hc;exact⟨rfl,rfl,λM2=>by simp only[jh,V.evs,h3,ap,h4]⟩
   ·cases hc
  ·cases hc
theorem JD:∀t:T,bu (iT t)=true
 |.p a b=>by simp only[iT,bu,JD a,JD b];rfl
 |.sl _|.u|.pt _|.fn _ _|.ifc _ _|.ib _ _|.mp _ _|.op _|.ns _|.er _|.int _|.bool|.str|.any=>rfl
theorem PS{α:Type}{y x:α}:∀{l:List α} {i:Nat},x∈tQ l i y->x∈l\/x=y
 |[],_,h=>by cases h
 |z::r,0,h=>by simp only[tQ,cz]at h⊢;rcases h with h|h<;>simp[h]
 |z::r,i+1,h=>by
  simp only[tQ,cz]at h⊢;rcases h with h|h
  ·simp[h]
  ·rcases PS h with h|h<;>simp[h]
theorem P8{α:Type}{y x:α}:∀{n:Nat},x∈iJ y n->x=y
 |0,h=>by cases h
 |n+1,h=>by
  simp only[iJ,cz]at h;rcases h with h|h
  ·exact h
  ·exact P8 h
theorem DQ(h:bu v=true):v.strip=v:=by cases v<;>first|rfl|cases h
theorem NY{M:Mem}{sz:Nat}{f:dI}:∀(ps:ou) (l r:cf),(∀q∈ps,bu (f q.2)=true)->(∀v∈l,bu v=true)->jA M sz f ps l=some r->(∀v∈r,bu v=true)/\∀M1,jA M1 sz f ps l=some r
 |[],l,r,_,hl,h=>by simp only[jA,aI]at h;subst h;exact⟨hl,λ_=>rfl⟩
 |(i,x)::ps,l,r,hp,hl,h=>by
  simp only[jA]at h;have hx:=Pt (hp _ (gk))
  cases hb:nob (Nat.ble (Nat.succ i) (len l)) (eK M (f x).cells sz)with
  |false=>rw[hb]at h;cases h
  |true=>
   rw[hb]at h;simp only[aD]at h
   obtain⟨h1,h2⟩:=NY ps _ r (λq hq=>hp q (by simp[hq])) (λv hv=>by
    rcases PS hv with hv|hv
    ·exact hl v hv
    ·rw[hv];exact hx) h
   refine⟨h1,λM1=>?_⟩;simp only[jA];rw[wZ (M:=M1) (M0:=M) _ _ (xi _ hx),hb];exact h2 M1
theorem PR(e:bM):∀l:List V,(∀v∈l,bu v=true)->gy e l=l
 |[],_=>rfl
 |v::r,h=>by simp only[gy];rw[Rh e v (h v ak),PR e r λw hw=>h w (by simp[hw])]
theorem ZI(hp:∀q∈ps,bu (f q.2)=true)(h:mS B t n ps f d M0=⟨vc,v,e,N⟩)(hv:ab vc):
  mS B t n ps f d M=⟨vc,v,e,ap (cj (len e) N) (dx (ba (cj (len e) N)) M)⟩:=by
 unfold mS at h⊢;split at h
 ·rename_i k el hel;split at h
  ·rename_i l hl;obtain⟨hd,hl1⟩:=NY ps _ l hp (λv hv=>by rw[P8 hv];exact JD _) hl;simp only[hl1 M]
   cases hb:aO [(B.τ t).ok,(B.τ el).ok,B.z el,Nat.ble (Nat.mul n (B.τ el).size) 16777216,Nat.ble n nb,bT (B.σ el).size (B.τ el).size]with
   |false=>rw[hb]at h;exact (bi h hv).elim
   |true=>
    rw[hb]at h;simp only[aD,PR _ l hd]at h⊢
    cases l with
    |nil=>simp only[Rs.mk.injEq]at h;obtain⟨rfl,rfl,rfl,rfl⟩:=h;rfl
    |cons v0 r=>
     simp only at h⊢;split at h
     ·rename_i q e1 M1 hq;obtain⟨rfl,rfl,hq1⟩:=QP v0 _ _ (hd v0 ak) _ _ _ hq;simp only[hq1];split at h
      ·rename_i x ev M2 hx;obtain⟨rfl,rfl,hx1⟩:=DA _ hd _ _ _ _ hx;simp only[hx1];simp only[Rs.mk.injEq]at h;obtain⟨rfl,rfl,rfl,rfl⟩:=h;rfl
      ·rename_i hx
       have hx1:∀M1,jh k q.o [] (v0::r) M1=none:=λM1=>by
        cases hc:jh k q.o [] (v0::r) M1 with
        |none=>rfl
        |some z=>obtain⟨z1,z2,z3⟩:=z;have:=(DA _ hd _ _ _ _ hc).2.2 (del k M0);rw[hx]at this;cases this
       simp only[hx1];split at h
       ·rename_i x ev M2 hx;obtain⟨rfl,rfl,hx1⟩:=DA _ hd _ _ _ _ hx;simp only[hx1];simp only[Rs.mk.injEq]at h;obtain⟨rfl,rfl,rfl,rfl⟩:=h;rfl
       ·exact (bi h hv).elim
     ·exact (bi h hv).elim
  ·exact (bi h hv).elim
 ·exact (bi h hv).elim
theorem s_{x:V}(hx:bu x=true)(hy:bu y=true)(h:pb B d t x y M0=⟨vc,v,e,N⟩)(hv:ab vc):
  pb B d t x y M=⟨vc,v,e,ap (cj (len e) N) (dx (ba (cj (len e) N)) M)⟩:=by
 unfold pb at h⊢
 cases he:(B.τ t).el with
 |none=>rw[he]at h;exact (bi h hv).elim
 |some el=>
 cases d with
 |none=>rw[he]at h;exact (bi h hv).elim
 |some k=>
 rw[he]at h
 try simp only at h⊢
 cases y with
 |nl=>
  simp only[rh]at h⊢
  cases hb:aO [(B.τ t).ok,(B.τ el).ok,neg (Nat.beq (B.τ el).bytes 0),B.z el,bT (B.σ el).size (B.τ el).size]with
  |false=>rw[hb]at h;exact (bi h hv).elim
  |true=>
   rw[hb]at h;simp only[aD]at h⊢
   cases x with
   |nl=>simp only[Rs.mk.injEq]at h⊢;obtain⟨rfl,rfl,rfl,rfl⟩:=h;exact⟨rfl,rfl,rfl,rfl⟩
   |ref _ _=>cases hx
   |_=>exact (bi h hv).elim
 |d s l=>
  cases s with
  |sl s=>
   simp only[rh]at h⊢
   cases hb:aO [(B.τ t).ok,(B.τ el).ok,neg (Nat.beq (B.τ el).bytes 0),B.z el,bT (B.σ el).size (B.τ el).size]with
   |false=>rw[hb]at h;exact (bi h hv).elim
   |true=>
    rw[hb]at h;simp only[aD]at h⊢
    cases x with
    |nl=>
     simp only at h⊢
     cases hc:bT s.size (B.τ el).size with
     |false=>rw[hc]at h;exact (bi h hv).elim
     |true=>rw[hc]at h;simp only[aD,Rs.mk.injEq]at h⊢;obtain⟨rfl,rfl,rfl,rfl⟩:=h;exact⟨rfl,rfl,rfl,rfl⟩
    |ref _ _=>cases hx
    |_=>exact (bi h hv).elim
  |_=>simp only[rh]at h;exact (bi h hv).elim
 |ref _ _=>cases hy
 |_=>simp only[rh]at h;exact (bi h hv).elim
theorem ZO{x:dJ}(M:Mem)(hx:bu (ρ x)=true)(h:kx B t d ρ x lo hi M0=⟨vc,v,e,N⟩)(hv:ab vc):
  kx B t d ρ x lo hi M=⟨vc,v,e,M⟩/\e=[]:=by
 unfold kx at h⊢
 cases hn:nsT (B.σ t)with
 |true=>
  exfalso;rw[hn]at h;simp only[aD,ru]at h;split at h
  ·rename_i hr _ _ _
   first|(rw[hr]at hx;cases hx)|(exfalso;simp_all[bu])
  ·simp only[be,Rs.mk.injEq]at h;obtain⟨rfl,_⟩:=h;exact hv.1
 |false=>
  rw[hn]at h;simp only[bc,vv]at h⊢;split at h
  ·rename_i hr;rw[hr]at hx;cases hx
  ·simp only[bR,Rs.mk.injEq]at h⊢;obtain⟨h1,h2,rfl,rfl⟩:=h;simp only[h1,h2,and_self]
theorem KU(hk:p8 M0 o.op env=true)(ag:xH M0 env (bf o.op)=true->∀x∈bf o.op,agV M M0 (rd env x))(h:evR B Φ o env M0=⟨vc,v,e,N⟩)(hv:ab vc)(he:klB e (cj (len e) N)=true):
  evR B Φ o env M=⟨vc,v,e,ap (cj (len e) N) (dx (ba (cj (len e) N)) M)⟩:=by
 have tk:∀N:Mem,cj (len ([]:List Ev)) N=[]:=λ_=>rfl;obtain⟨dst,op,ty',pos,after,guard⟩:=o;simp only[p8,eX,aP,e9,ao]at hk;rcases hk with hk|(hk|hk)|⟨hk|hk,hd⟩;rotate_left
 ·cases op<;>simp only[sldK,d4]at hk;rename_i t x lo hi mx
  cases mx with
  |some _=>cases hk
  |none=>
  simp only[evR,bI]at h⊢;have hx:bu (rd env x)=true:=xd hk _ (by simp[bf,eL]);generalize hq:kx B t dst (λx=>(rd env x).strip) x lo hi M0=q at h;obtain⟨vc',v',e',N'⟩:=q;simp only[Rs.mk.injEq]at h;obtain⟨rfl,rfl,rfl,rfl⟩:=h;obtain⟨k1,k2⟩:=ZO M (by simp only[DQ hx];exact hx) hq (gb hv);subst k2;simp only[k1,tk,ap,dx,ba]
 rotate_right
 ·cases op<;>simp only[mb,d4]at hk<;>simp only[evR,bI,bR,Rs.mk.injEq]at h⊢<;>obtain⟨h1,h2,rfl,rfl⟩:=h<;>exact⟨h1,h2,rfl,rfl⟩
 ·cases op<;>simp only[litK,d4]at hk
  case call c=>
   split at hk
   ·rename_i hcal;simp only[evR,bI,hcal]at h⊢;split at h
    ·rename_i x y t t' hxy htt
     cases hb:Nat.beq t t' with
     |false=>rw[hb]at h;simp only[bc,be,Rs.mk.injEq]at h;obtain⟨rfl,_⟩:=h;exact absurd (gb hv) (by simp[ab])
     |true=>rw[hb]at h;simp only[aD]at h⊢;generalize hq:pb B dst t ((rd env x).strip) ((rd env y).strip) M0=q at h;obtain⟨vc',v',e',N'⟩:=q;simp only[Rs.mk.injEq]at h;obtain⟨rfl,rfl,rfl,rfl⟩:=h;have hx:bu (rd env x)=true:=xd hk _ (by show x∈ap (bf.calO c.callee) (toL c.args);rw[hcal,hxy,eL];simp);have hy:bu (rd env y)=true:=xd hk _ (by show y∈ap (bf.calO c.callee) (toL c.args);rw[hcal,hxy,eL];simp);rw[s_ (M:=M) (by rw[DQ hx];exact hx) (by rw[DQ hy];exact hy) hq (gb hv)]
    ·simp only[be,Rs.mk.injEq]at h;obtain⟨rfl,_⟩:=h;exact absurd (gb hv) (by simp[ab])
   ·cases hk
  rename_i t n ps;simp only[evR,bI]at h⊢;generalize hq:mS B t n (toL ps) (λx=>(rd env x).strip) dst M0=q at h;obtain⟨vc',v',e',N'⟩:=q;simp only[Rs.mk.injEq]at h;obtain⟨rfl,rfl,rfl,rfl⟩:=h;have hm:∀q∈toL ps,bu ((λx=>(rd env x).strip) q.2)=true:=λq hq=>by have:bu (rd env q.2)=true:=xd hk _ (by simp only[bf];exact xp (by rw[←cK];exact hq));simp only[DQ this];exact this
  rw[ZI (M:=M) hm hq (gb hv)]
 ·have hm:=ag hd;cases op<;>simp only[iH,d4]at hk<;>simp only[bf]at hm
  case load t x=>
   have hx:=hm x ak;simp only[evR,bI,Rs.mk.injEq]at h⊢;obtain⟨h1,h2,h3,h4⟩:=h
   have hn:pz (B.τ t) M0 dst ((rd env x).strip)=none:=by
    cases htk:pz (B.τ t) M0 dst ((rd env x).strip)with
    |none=>rfl
    |some R=>exfalso;simp only[kR,htk]at h1 h2 h3 h4;cases htk
   have hn':pz (B.τ t) M dst ((rd env x).strip)=none:=by rw[lK hx]at hn⊢;rw[J' _ _ hx];exact hn
   simp only[kR,hn,bR]at h1 h2 h3 h4;subst h3;simp only[kR,hn',bR];rw[lK hx]at h1 h2⊢;rw[Z4 _ _ hx];simp only[tk,ap,dx,ba,az];exact⟨h1,h2⟩
  all_goals simp only[evR,bI,bR,Rs.mk.injEq]at h⊢
  all_goals obtain⟨h1,h2,rfl,rfl⟩:=h
  case fieldAddr t x i=>have hx:=hm x ak;rw[lK hx,Zr _ _ _ hx,←lK hx];exact⟨h1,h2,rfl,rfl⟩
  case field t x i=>have hx:=hm x ak;rw[lK hx,ZT _ _ _ hx,←lK hx];exact⟨h1,h2,rfl,rfl⟩
  case indexAddr t x i=>have hx:=hm x ak;rw[lK hx,ZQ _ _ _ hx,←lK hx];exact⟨h1,h2,rfl,rfl⟩
  case convert s d x=>have hx:=hm x ak;rw[lK hx,YZ hx,←lK hx];exact⟨h1,h2,rfl,rfl⟩
  all_goals exact⟨h1,h2,rfl,rfl⟩
 ·have hm:=ag hd;cases op<;>simp only[newK,d4]at hk
  case alloc t=>
   simp only[evR,bI,y7]at h⊢
   cases dst with
   |none=>simp only[be,Rs.mk.injEq]at h;obtain⟨rfl,_⟩:=h;exact absurd (gb hv) (by simp[ab])
   |some k=>
    simp only at h⊢
    cases hb:aO [(B.τ t).ok,B.z t]with
    |false=>rw[hb]at h;simp only[bc,be,Rs.mk.injEq]at h;obtain⟨rfl,_⟩:=h;exact absurd (gb hv) (by simp[ab])
    |true=>rw[hb]at h;simp only[aD,Rs.mk.injEq]at h⊢;obtain⟨h1,h2,rfl,rfl⟩:=h;exact⟨h1,h2,rfl,rfl⟩
  case makeSlice t l c=>
   simp only[evR,bI,Bz]at h⊢;split at h
   ·rename_i el k1 nl k2 nc e2 e3 e4
    cases hb:aO [(B.τ t).ok,(B.τ el).ok,B.z el,bT (B.σ el).size (B.τ el).size]with
    |false=>rw[hb]at h;simp only[bc,be,Rs.mk.injEq]at h;obtain⟨rfl,_⟩:=h;exact absurd (gb hv) (by simp[ab])
    |true=>rw[hb]at h;simp only[aD,Rs.mk.injEq]at h⊢;obtain⟨h1,h2,rfl,rfl⟩:=h;exact⟨h1,h2,rfl,rfl⟩
   ·simp only[be,Rs.mk.injEq]at h;obtain⟨rfl,_⟩:=h;exact absurd (gb hv) (by simp[ab])
  case build t ps=>
   simp only[evR,bI,oR]at h⊢;rw[NX (M:=M) (M0:=M0) _ (λx=>(rd env x).strip) (toL ps) _ (λx hx=>by have:=hm x (by simp only[bf];exact hx);rw[lK this];exact this) (Jy _)]
   cases hb:aO [(B.τ t).ok,yr B (B.τ t),B.z t]with
   |false=>rw[hb]at h;simp only[bc,be,Rs.mk.injEq]at h;obtain⟨rfl,_⟩:=h;exact absurd (gb hv) (by simp[ab])
   |true=>
    rw[hb]at h;simp only[aD]at h⊢;split at h
    ·rename_i v0 e0;simp only[Rs.mk.injEq]at h⊢;obtain⟨h1,h2,rfl,rfl⟩:=h;exact⟨h1,h2,rfl,rfl⟩
    ·simp only[be,Rs.mk.injEq]at h;obtain⟨rfl,_⟩:=h;exact absurd (gb hv) (by simp[ab])
  case buildSlice t n p=>
   rw[aP,ao]at hk;have hn0:=cR hk.1;subst hn0
   have hp:toL p=[]:=by
    have:=cR hk.2;revert this
    cases toL p with
    |nil=>intro _;rfl
    |cons a r=>intro h;exact absurd h (by simp only[len];omega)
   ·simp only[evR,bI,hp,mS]at h⊢
    cases dst with
    |none=>simp only[be,Rs.mk.injEq]at h;obtain⟨rfl,_⟩:=h;exact absurd (gb hv) (by simp[ab])
    |some k=>
     cases hel:(B.τ t).el with
     |none=>rw[hel]at h;simp only[be,Rs.mk.injEq]at h;obtain⟨rfl,_⟩:=h;exact absurd (gb hv) (by simp[ab])
     |some el=>
      rw[hel]at h;simp only[jA,iJ,gy]at h⊢
      cases hb:aO [(B.τ t).ok,(B.τ el).ok,B.z el,Nat.ble (Nat.mul 0 (B.τ el).size) 16777216,Nat.ble 0 nb,bT (B.σ el).size (B.τ el).size]with
      |false=>rw[hb]at h;simp only[bc,be,Rs.mk.injEq]at h;obtain⟨rfl,_⟩:=h;exact absurd (gb hv) (by simp[ab])
      |true=>rw[hb]at h;simp only[aD,Rs.mk.injEq]at h⊢;obtain⟨h1,h2,rfl,rfl⟩:=h;exact⟨h1,h2,rfl,rfl⟩
  case call c=>
   obtain⟨callee,args,argTypes⟩:=c;have hrd:∀x∈toL args,agV M M0 (rd env x).strip:=λx hx=>by have:=hm x (by simp only[bf,eL];exact rZ _ hx);rw[lK this];exact this
   cases callee with
   |value cx=>
    have hc:=hm cx (by simp only[bf,eL,bf.calO];exact jU _ ak);simp only[evR,bI]at h⊢
    cases hf:rN (rd env cx).strip with
    |none=>rw[hf]at h;simp only[be,Rs.mk.injEq]at h;obtain⟨rfl,_⟩:=h;exact absurd (gb hv) (by simp[ab])
    |some q=>
     obtain⟨f,cv⟩:=q;have hcv:agV M M0 cv:=ad1 (by rw[lK hc];exact hc) hf;rw[hf]at h
     cases dst with
     |none=>simp only[be,Rs.mk.injEq]at h;obtain⟨rfl,_⟩:=h;exact absurd (gb hv) (by simp[ab])
     |some d=>
      simp only at h⊢;obtain⟨c1,c2⟩:=O' cv hcv;rw[c1]
      cases hp:Φ f with
      |none=>rw[hp]at h;simp only[be,Rs.mk.injEq]at h;obtain⟨rfl,_⟩:=h;exact absurd (gb hv) (by simp[ab])
      |some ct=>
       rw[hp]at h
       cases hcs:kp M0 cv with
       |none=>rw[hcs]at h;simp only[be,Rs.mk.injEq]at h;obtain⟨rfl,_⟩:=h;exact absurd (gb hv) (by simp[ab])
       |some cs=>
        rw[hcs]at h;simp only at h⊢
        have hall:∀y∈ap (gz (λx=>(rd env x).strip) (toL args)) cs,agV M M0 y:=λy hy=>by
         rw[eL]at hy;rcases eS.1 hy with hy|hy
         ·obtain⟨x,x1,rfl⟩:=QA hy;exact hrd x x1
         ·exact c2 cs hcs y hy
        generalize hq:nP ct d (ap (gz (λx=>(rd env x).strip) (toL args)) cs) M0=q at h;obtain⟨vc1,v1,e1,N1⟩:=q;simp only[Rs.mk.injEq]at h;obtain⟨rfl,rfl,rfl,rfl⟩:=h;rw[Zy hall hq (gb hv) he]
   |builtin b=>
    cases b<;>simp only[d4]at hk;simp only[evR,bI]at h⊢;split at h
    ·rename_i x t e1 e2;have hx:=hrd x (by rw[e1];simp);simp only[bR,Rs.mk.injEq]at h⊢;rw[e_ hx];obtain⟨h1,h2,rfl,rfl⟩:=h;exact⟨h1,h2,rfl,rfl⟩
    ·simp only[be,Rs.mk.injEq]at h;obtain⟨rfl,_⟩:=h;exact absurd (gb hv) (by simp[ab])
   |_=>simp at hk
theorem A5(hk:go M k=none):∀(v:V)(vs:aM),ac β M Im w v vs->v.ev (.kl k)=v:=by
 intro v
 induction v with
 |p a b iha ihb=>intro vs r;simp only[ac]at r;obtain⟨va,vb,_,h1,h2⟩:=r;simp only[V.ev];rw[iha _ h1,ihb _ h2]
 |ref j π=>
  intro vs r;simp only[ac]at r;obtain⟨ob,_,h1,_⟩:=r;have hne:j≠k:=λh=>by subst h;rw[hk]at h1;cases h1
  simp only[V.ev,Ev.ref,cS,aj hne]
 |ad j π=>
  intro vs r;simp only[ac]at r;obtain⟨_,_,ob,_,_,_,h1,_⟩:=r;have hne:j≠k:=λh=>by subst h;rw[hk]at h1;cases h1
  simp only[V.ev,Ev.ad,cS,aj hne]
 |fn f v ih=>intro vs r;simp only[ac]at r;obtain⟨us,_,h⟩:=r;simp only[V.ev];rw[ih _ h]
 |bx v ih=>intro vs r;simp only[ac]at r;obtain⟨_,_,us,_,_,_,h⟩:=r;simp only[V.ev];rw[ih _ h]
 |ag v|tup v|gd _ _ _ v=>intro vs r;simp only[ac]at r
 |ifc t v ih=>intro vs r;simp only[ac]at r;obtain⟨u,_,h⟩:=r;simp only[V.ev];rw[ih _ h]
 |_=>intro vs r;rfl
theorem aau(hk:go M k=none):∀(v:V),lO v=true->(∀u,ae β M Im w v u->v.ev (.kl k)=v)/\(∀us,cD β M Im w v us->v.ev (.kl k)=v):=by
 intro v
 induction v with
 |any=>intro _;exact⟨λ_ _=>rfl,λ_ _=>rfl⟩
 |ag v ih=>
  intro _;refine⟨λu r=>?_,λus r=>?_⟩
  ·simp only[ae]at r;obtain⟨vs,_,h⟩:=r;simp only[V.ev];rw[A5 hk _ _ h]
  ·simp only[cD]at r
 |tup v ih=>
  intro hg;refine⟨λu r=>?_,λus r=>?_⟩
  ·simp only[ae]at r;obtain⟨vs,_,h⟩:=r;simp only[V.ev];rw[(ih hg).2 _ h]
  ·simp only[cD]at r
 |gd _ _ _ v=>intro hg;cases hg
 |ifc t v ih=>
  intro hg;refine⟨λu r=>?_,λus r=>?_⟩
  ·simp only[ae]at r;exact A5 hk _ _ r
  ·simp only[cD]at r
 |p a b iha ihb=>
  intro hg;simp only[lO,aP,ao]at hg;refine⟨λu r=>?_,λus r=>?_⟩
  ·simp only[ae]at r;exact A5 hk _ _ r
  ·simp only[cD]at r;obtain⟨u,us',_,h1,h2⟩:=r;simp only[V.ev];rw[(iha hg.1).1 _ h1,(ihb hg.2).2 _ h2]
 |u=>intro _;exact⟨λ_ _=>rfl,λ_ _=>rfl⟩
 |ref j π|ad j π=>intro _;exact⟨λu r=>by simp only[ae]at r;exact A5 hk _ _ r,λus r=>by simp only[cD]at r⟩
 |d t x|nl|np=>intro _;exact⟨λ_ _=>rfl,λ_ _=>rfl⟩
 |fn f v|bx v=>intro _;exact⟨λu r=>by simp only[ae]at r;exact A5 hk _ _ r,λus r=>by simp only[cD]at r⟩
theorem Sl:∀{e:bM} {N:Mem},klB e N=true->∀{v:V},(∀k∈ba N,v.ev (.kl k)=v)->v.evs e=v
 |[],[],_,v,_=>rfl
 |[],_::_,h,_,_=>by simp[klB]at h
 |x::e,[],h,_,_=>by cases x<;>simp[klB]at h
 |x::e,(j,ob)::N,h,v,hk=>by
  cases x with
  |kl k=>simp only[klB,aP,ao]at h;have:=cR h.1;subst this;simp only[V.evs];rw[hk k (by simp[ba])];exact Sl h.2 λk hk'=>hk k (by simp[ba,hk'])
  |_=>simp[klB]at h
theorem xo:∀{ks:aZ} {M:Mem},r8 ks M=true->∀k∈ks,go M k=none
 |[],_,_,k,hk=>by cases hk
 |j::r,M,h,k,hk=>by
  simp only[r8,aP,ao]at h;rcases cz.1 hk with rfl|hk
  ·cases hg:go M k with
   |none=>rfl
   |some _=>rw[hg]at h;exact absurd h.1 (by simp[isN])
  ·exact xo h.2 k hk
theorem nH:∀{N:Mem} {k:Nat},k∈ba N<->go N k≠none
 |[],k=>by simp[ba,go]
 |(j,ob)::N,k=>by
  simp only[ba,cz,cJ];by_cases e:j=k
  ·subst e;simp
  ·rw[aj e,←nH (N:=N)];simp[cM e]
theorem EI:∀{ks:aZ} {M:Mem} {k:Nat},k∉ks->go (dx ks M) k=go M k
 |[],_,_,_=>rfl
 |j::r,M,k,h=>by simp only[dx];rw[EI (λhh=>h (by simp[hh])),dC (λhh=>h (by simp[hh]))]
theorem P9{t:Nat}:∀{env:Env},lj env=true->lO (gt env t)=true
 |[],_=>rfl
 |(k,v)::r,h=>by
  simp only[lj,aP,ao]at h;rw[dZ];split
  ·exact h.1
  ·exact P9 h.2
structure Hst (D:bo) (ks as:aZ) (B:Tab) (Φ:du) (M0:Mem) (o:bj) (e e':Env) (N:Mem) (X X':Mem) (d:Nat) (v:V) (vc:nx) (ev:bM):Prop where
 g:o.guard=none
 dst:o.dst=some d
 k:p8 (ap X M0) o.op e=true
 r:∃N',evR B Φ o e (ap X M0)=⟨vc,v,ev,N'⟩/\N=cj (len ev) N'
 hv:ab vc
 kl:klB ev N=true
 n0:r8 (ba N) M0=true
 nX:r8 (ba N) X=true
 gd:lO v=true
 dt:D=true->gQ o.op=true->bxK B as o.op e=true\/jj ks e (bf o.op)=true/\ksV ks v=true
 he:e'=(d,v)::e
 x:X'=ap N X
theorem Qv{ks as:aZ}{M0:Mem}:∀(D:gj)(ops:bL)(e:Env)(x:Mem)(K:Env->Mem->Prop),hx D ks as B Φ M0 ops e x K->
  ∃(E:Nat->Env)(X N:Nat->Mem),E 0=e/\X 0=x/\(∀j o,ops[j]? = some o->∃d v vc ev,Hst (D.getD j false) ks as B Φ M0 o (E j) (E (j+1)) (N j) (X j) (X (j+1)) d v vc ev)/\K (E ops.length) (X ops.length)
 |D,[],e,x,K,h=>⟨λ_=>e,λ_=>x,λ_=>[],rfl,rfl,λj o h=>by simp at h,h⟩
 |D,o::r,e,x,K,h=>by
  have key:∃e' x' N,(∃d v vc ev,Hst (tH D) ks as B Φ M0 o e e' N x x' d v vc ev)/\hx (qW D) ks as B Φ M0 r e' x' K:=by
   simp only[hx]at h;split at h
   ·rename_i d hg hd
    cases hk:p8 (ap x M0) o.op e with
    |false=>rw[hk]at h;exact h.elim
    |true=>
     rw[hk]at h;simp only[aD]at h;generalize hq:evR B Φ o e (ap x M0)=q at h;obtain⟨vc,v,ev,N'⟩:=q;simp only at h;generalize hN:cj (len ev) N'=N at h
     cases hb:aO [klB ev N,r8 (ba N) M0,r8 (ba N) x,lO v,orb (neg (tH D)) (orb (neg (gQ o.op)) (orb (bxK B as o.op e) (nob (jj ks e (bf o.op)) (ksV ks v))))]with
     |false=>rw[hb]at h;exact h.elim
     |true=>rw[hb]at h;simp only[aD,je]at h;simp only[bH,bJ,bC,ao]at hb;exact⟨_,_,N,⟨d,v,vc,ev,⟨hg,hd,hk,⟨N',hq,hN.symm⟩,h.1,hb.1,hb.2.1,hb.2.2.1,hb.2.2.2.1,λhD hk=>by have h5:=hb.2.2.2.2;rw[hD,hk]at h5;simpa using h5,rfl,rfl⟩⟩,h.2⟩
   ·exact h.elim
  obtain⟨e',x',N,h1,h2⟩:=key;obtain⟨E,X,Ns,i1,i2,i3,i4⟩:=Qv (qW D) r e' x' K h2;refine⟨λj=>match j with|0=>e|j+1=>E j,λj=>match j with|0=>x|j+1=>X j,λj=>match j with|0=>N|j+1=>Ns j,rfl,rfl,λj o' hj=>?_,by simpa using i4⟩
  cases j with
  |zero=>
   simp only[iz,aI]at hj;subst hj;simp only;rw[i1,i2];have e:D.getD 0 false=tH D:=by cases D<;>rfl
   rw[e];exact h1
  |succ j=>
   simp only[lC]at hj;have e:D.getD (j+1) false=(qW D).getD j false:=by cases D<;>simp[qW]
   rw[e];exact i3 j o' hj
theorem Qa{x:Option α}(h:isN x=true):x=none:=by cases x<;>first|rfl|cases h
theorem i_{o:Op}(h:gQ o=true):∀x∈o.operands,x∈bf o:=by
 unfold gQ at h
 cases o with
 |slice t x lo hi mx=>
  cases mx with
  |some _=>simp[iH,mb,kE]at h
  |none=>cases lo<;>cases hi<;>simp[Op.operands,bf,bf.optL,eL]
 |call c=>
  obtain⟨callee,args,tys⟩:=c
  cases callee with
  |builtin b=>simp[Op.operands,Call.operands,bf,bf.calO,cK,eL]
  |_=>simp[iH,mb,kE]at h
 |_=>
  simp[iH,mb,kE]at h<;>simp[Op.operands,bf]
  try (intro x q hq;exact xp (q:=(q,x)) (by simpa using hq))
theorem S3{B:Tab}{t:bF}{ps:ou}{f:dI}{M:Mem}:(oR B t ps f M).ev=[]/\(oR B t ps f M).M=M:=by
 unfold oR
 cases aO [(B.τ t).ok,yr B (B.τ t),B.z t]with
 |false=>exact⟨rfl,rfl⟩
 |true=>simp only[aD];split<;>exact⟨rfl,rfl⟩
theorem aev{r:Nat}(h:klB (.kl r::e) (cj (len (Ev.kl r::e)) (del r M))=true):False:=by
 have hg:=eJ r M
 cases hd:del r M with
 |nil=>rw[hd]at h;simp[len,cj,klB]at h
 |cons q N=>obtain⟨j,ob⟩:=q;rw[hd]at h hg;simp only[len,cj,klB,aP,ao]at h;have:=cR h.1;subst this;simp[cJ]at hg
theorem Sy{x:dJ}(h:kx B t d ρ x lo hi M=⟨vc,v,e,N⟩)(hk:klB e (cj (len e) N)=true):e=[]/\N=M:=by
 have bad:∀{vc:nx} {v:V} {e:bM} {N:Mem},be M=⟨vc,v,e,N⟩->e=[]/\N=M:=λh=>by simp only[be,Rs.mk.injEq]at h;exact⟨h.2.2.1.symm,h.2.2.2.symm⟩
 unfold kx at h
 cases hn:nsT (B.σ t)with
 |true=>
  rw[hn]at h;simp only[aD,ru]at h;split at h
  ·split at h
   ·cases hb:aO _ with
    |false=>rw[hb]at h;exact bad h
    |true=>rw[hb]at h;simp only[bH,d6,ao]at hb;simp only[aD,Rs.mk.injEq]at h;obtain⟨_,_,rfl,rfl⟩:=h;simp only[len,cj,klB,aP,ao]at hk;have:=hb.1.1;rw[gu,hk.1]at this;cases this
   ·exact bad h
  ·exact bad h
 |false=>
  rw[hn]at h;simp only[bc,vv]at h;split at h
  ·split at h
   ·rename_i r π _ q e1 M1 hc
    (try simp only at h)
    simp only[Rs.mk.injEq]at h;obtain⟨_,_,rfl,rfl⟩:=h;exfalso;unfold qO at hc;generalize neg (d6 _ gid)=b at hc
    cases b with
    |true=>cases hc
    |false=>
     simp only[bc]at hc;split at hc
     ·split at hc
      ·split at hc
       ·cases hc;exact aev hk
       ·cases hi:nZ _ with
        |true=>rw[hi]at hc;simp only[aD,aI,bE]at hc;obtain⟨_,rfl,_⟩:=hc;generalize cj _ _=Z at hk;cases Z<;>simp[klB]at hk
        |false=>
         rw[hi]at hc;simp only[bc]at hc;split at hc
         ·cases hc;generalize cj _ _=Z at hk;cases Z<;>simp[klB]at hk
         ·cases hc
      ·cases hc
     ·cases hc
   ·exact bad h
  ·simp only[bR,Rs.mk.injEq]at h;exact⟨h.2.2.1.symm,h.2.2.2.symm⟩
theorem So{c:Call}(hk:kE (.call c)=true)(h:evR B Φ ⟨dst,.call c,ty',pos,after,guard⟩ env M=⟨vc,v,e,N⟩):e=[]/\N=M:=by
 simp only[kE]at hk;split at hk
 ·rename_i hcal;simp only[evR,bI,hcal]at h;split at h<;>simp only[bR,be,Rs.mk.injEq]at h<;>exact⟨h.2.2.1.symm,h.2.2.2.symm⟩
 ·cases hk
theorem RC{ev:bM}(hk:gQ o.op=true)(hr:evR B Φ o env M=⟨vc,v,ev,N'⟩)(hkl:klB ev (cj (len ev) N')=true):ev=[]:=by
 obtain⟨dst,op,ty',pos,after,guard⟩:=o;unfold gQ at hk;rcases Classical.em (∃c,op=.call c)with⟨c,rfl⟩|hcc
 ·have hb:kE (.call c)=true:=by simpa[iH,mb]using hk
  exact (So hb hr).1
 cases op<;>simp[iH,mb]at hk<;>try (simp[kE]at hk;done)
 case call c=>exact absurd ⟨c,rfl⟩ hcc
 case slice t x lo hi mx=>
  cases mx with
  |some _=>simp[kE]at hk
  |none=>
  simp only[evR,bI]at hr;generalize hq:kx B t dst (λx=>(rd env x).strip) x lo hi M=q at hr;obtain⟨a1,a2,a3,a4⟩:=q;simp only[Rs.mk.injEq]at hr;obtain⟨_,_,rfl,rfl⟩:=hr;exact (Sy hq hkl).1
 case build t ps=>simp only[evR,bI]at hr;have h:=@S3 B t (toL ps) (λx=>(rd env x).strip) M;generalize oR B t (toL ps) (λx=>(rd env x).strip) M=q at hr h;obtain⟨a1,a2,a3,a4⟩:=q;simp only[Rs.mk.injEq]at hr;exact hr.2.2.1.symm.trans h.1
 case load t x=>
  simp only[evR,bI,kR]at hr;split at hr
  ·rename_i r hr';cases hr'
  ·simp only[bR,Rs.mk.injEq]at hr;exact hr.2.2.1.symm
 all_goals (simp only[evR,bI,bR,Rs.mk.injEq]at hr;exact hr.2.2.1.symm)
def AgM(ks:aZ)(M' M:Mem):Prop:=∀k,inN k ks=true->go M' k=go M k
theorem AgM.refl(ks:aZ)(M:Mem):AgM ks M M:=λ_ _=>rfl
theorem sT(hk:inN k ks=true)(hj:neg (inN j ks)=true):Nat.beq k j=false:=by
 cases h:Nat.beq k j with
 |false=>rfl
 |true=>have:=cR h;subst this;rw[hk]at hj;cases hj
theorem aa1(hk:inN k ks=true)(e:Ev)(he:cZ ks e=true):(V.ref k π).ev e=.ref k π:=by
 cases e with
 |mv r k'=>simp only[cZ,aP,ao]at he;simp only[V.ev,Ev.ref,sT hk he.1,bc]
 |kl r|cut r o o'|fz r ob=>simp only[cZ]at he;simp only[V.ev,Ev.ref,sT hk he,bc]
 |un r j=>simp only[cZ,aP,ao]at he;simp only[V.ev,Ev.ref,sT hk he.1,bc]
 |tk r o o'|kn r v=>simp only[cZ]at he;simp only[V.ev,Ev.ref,sT hk he,bc]
theorem aeo(hk:inN k ks=true)(e:Ev)(he:cZ ks e=true):(V.ad k π).ev e=.ad k π:=by
 cases e with
 |mv r k'=>simp only[cZ,aP,ao]at he;simp only[V.ev,Ev.ad,sT hk he.1,bc]
 |kl r|cut r o o'|fz r ob=>simp only[cZ]at he;simp only[V.ev,Ev.ad,sT hk he,bc]
 |un r j=>simp only[cZ,aP,ao]at he;simp only[V.ev,Ev.ad,sT hk he.1,bc]
 |tk r o o'|kn r v=>simp only[cZ]at he;simp only[V.ev,Ev.ad,sT hk he,bc]
theorem ED:∀e:List Ev,bD [] e=true
 |[]=>rfl
 |x::e=>by cases x<;>simp[bD,cZ,inN,neg,ED e]
theorem iE{ks:aZ}:∀{a b:bM},bD ks (ap a b)=true->bD ks a=true/\bD ks b=true
 |[],b,h=>⟨rfl,h⟩
 |x::a,b,h=>by simp only[ap,bD,aP,ao]at h⊢;obtain⟨h1,h2⟩:=iE h.2;exact⟨⟨h.1,h1⟩,h2⟩
theorem AgM.trans{a b c:Mem}(h:AgM ks a b)(g:AgM ks b c):AgM ks a c:=λk hk=>(h k hk).trans (g k hk)
theorem iF(h:neg (inN k ks)=true):AgM ks (del k M) M:=λj hj=>dC (λe=>by subst e;rw[hj]at h;cases h) M
theorem oW(h:neg (inN k ks)=true):AgM ks (put k ob M) M:=λj hj=>iR ob (λe=>by subst e;rw[hj]at h;cases h) M
theorem z6{ks:aZ}:∀(v:V)(M:Mem),bD ks (cr M v).1=true->AgM ks (cr M v).2 M
 |.ref k π,M,h=>by
  simp only[cr]at h⊢;split
  ·rename_i ob hg;rw[hg]at h;simp only[bD,cZ,aP,ao]at h;exact iF h.1
  ·exact AgM.refl _ _
 |.ad k π,M,h=>by
  simp only[cr]at h⊢;split
  ·rename_i ob hg;rw[hg]at h;simp only[bD,cZ,aP,ao]at h;exact iF h.1
  ·exact AgM.refl _ _
 |.p a b,M,h=>by simp only[cr]at h⊢;obtain⟨h1,h2⟩:=iE h;exact (z6 b _ h2).trans (z6 a M h1)
 |.ag v,M,h|.fn _ v,M,h|.ifc _ v,M,h|.bx v,M,h|.tup v,M,h|.gd _ _ _ v,M,h=>by simp only[cr]at h⊢;exact z6 v M h
 |.any,M,_|.nl,M,_|.np,M,_|.u,M,_|.d _ _,M,_=>AgM.refl _ _
theorem Ay{ks:aZ}:∀(vs:cf)(M:Mem),bD ks (ew M vs).1=true->AgM ks (ew M vs).2 M
 |[],M,_=>AgM.refl _ _
 |v::r,M,h=>by simp only[ew]at h⊢;obtain⟨h1,h2⟩:=iE h;exact (Ay r _ h2).trans (z6 v M h1)
theorem Rc{ks:aZ}:∀{l:aZ},bD ks (klL l)=true->∀k∈l,neg (inN k ks)=true
 |[],_,k,h=>by cases h
 |a::l,h,k,hk=>by
  simp only[klL,bD,cZ,aP,ao]at h;rcases cz.1 hk with e|e
  ·subst e;exact h.1
  ·exact Rc h.2 k e
theorem Fe(h:bD ks (klL (ba N))=true):AgM ks (ap N (dx (ba N) M)) M:=λk hk=>by
 have hn:k∉ba N:=λhm=>by have:=Rc h k hm;rw[hk]at this;cases this
 have hg:go N k=none:=sf λe=>hn (nH.2 e);rw[nV,hg,EI hn]
theorem NP{d:Nat}(h:qH k W d r M=⟨vc,v,e,M1⟩)(hv:ab vc)(he:bD ks e=true):AgM ks M1 M:=by
 unfold qH at h
 cases hb:shp r W.ag with
 |false=>rw[hb]at h;exact (bi h hv).elim
 |true=>
  rw[hb]at h;simp only[aD]at h;split at h
  ·split at h
   ·(try simp only at h)
    cases hi:inN _ _ with
    |true=>rw[hi]at h;exact (bi h hv).elim
    |false=>rw[hi]at h;simp only[bc,Rs.mk.injEq]at h;obtain⟨_,_,rfl,rfl⟩:=h;obtain⟨h1,h2⟩:=iE he;simp only[bD,aP,ao]at h2;exact (Fe h2.2).trans ((oW (by simpa only [cZ]using h2.1)).trans (Ay _ _ h1))
   ·exact (bi h hv).elim
  ·exact (bi h hv).elim
theorem Za{d:Nat}(h:th W d r M=⟨vc,v,e,M1⟩)(hv:ab vc)(he:bD ks e=true):AgM ks M1 M:=by
 unfold th at h;split at h
 ·split at h
  ·cases hb:lf W.o with
   |false=>rw[hb]at h;exact (bi h hv).elim
   |true=>rw[hb]at h;exact NP h hv he
  ·split at h
   ·cases hb:slO W.o with
    |false=>rw[hb]at h;exact (bi h hv).elim
    |true=>rw[hb]at h;exact NP h hv he
   ·exact (bi h hv).elim
 ·exact (bi h hv).elim
theorem Z7{W:Wc}(h:B6 W r M=⟨vc,v,e,M1⟩)(hv:ab vc)(he:bD ks e=true):AgM ks M1 M:=by exact (bi h hv).elim
theorem Zl{W:Wu}{d:Nat}(h:vi W d r M=⟨vc,v,e,M1⟩)(hv:ab vc)(he:bD ks e=true):AgM ks M1 M:=by
 have key:∀(x:W.o.strip.den)(y:bq W.as)(e2:bM)(M2:Mem),oS W d x y e2 M2=⟨vc,v,e,M1⟩->bD ks e2=true/\AgM ks M1 M2:=λx y e2 M2 h=>by unfold oS at h;simp only[Rs.mk.injEq]at h;obtain⟨_,_,rfl,rfl⟩:=h;obtain⟨h1,h2⟩:=iE he;exact⟨h1,Fe h2⟩
 unfold vi at h;split at h
 ·rename_i v0 r hpk
  cases b2:nob (slO W.o) (shp r W.ag)with
  |false=>rw[b2]at h;exact (bi h hv).elim
  |true=>
  rw[b2]at h;simp only[aD]at h;split at h
  ·split at h
   ·rename_i k' _
    cases hg:Nat.ble (Nat.succ k') gid with
    |false=>rw[hg]at h;exact (bi h hv).elim
    |true=>
    rw[hg]at h;simp only[aD]at h;split at h
    ·split at h
     ·obtain⟨h1,h2⟩:=key _ _ _ _ h;obtain⟨h3,h4⟩:=iE h1;simp only[bD,aP,ao]at h4;exact h2.trans ((iF (by simpa only [cZ]using h4.1)).trans (Ay _ _ h3))
     ·exact (bi h hv).elim
    ·exact (bi h hv).elim
   ·split at h
    ·obtain⟨h1,h2⟩:=key _ _ _ _ h;exact h2.trans (Ay _ _ h1)
    ·exact (bi h hv).elim
  ·exact (bi h hv).elim
 ·exact (bi h hv).elim
abbrev G4:Type:=List (Nat×O×Ob)
theorem Qx{ks:aZ}{M:Mem}:∀(l:G4),bD ks (kG l)=true->AgM ks (oq l M) M
 |[],_=>λ_ _=>rfl
 |q::r,h=>by simp only[kG,bD,aP,ao]at h;exact (oW (by simpa only [cZ]using h.1)).trans (Qx r h.2)
theorem C'{O:Orc}(h:tI O vs M=⟨vc,v,e,M1⟩)(hv:ab vc)(he:bD ks e=true):AgM ks M1 M:=by
 unfold tI at h;split at h
 ·simp only[Rs.mk.injEq]at h;obtain⟨_,_,rfl,rfl⟩:=h;exact Qx _ he
 ·exact (bi h hv).elim
theorem Ou{d:Nat}(h:pC ct d vs M=⟨vc,v,e,M1⟩)(hv:ab vc)(he:bD ks e=true):AgM ks M1 M:=by
 unfold pC at h
 cases hb:shp _ _ with
 |false=>rw[hb]at h;exact (bi h hv).elim
 |true=>
  rw[hb]at h;simp only[aD]at h;split at h
  ·split at h
   ·simp only[Rs.mk.injEq]at h;obtain⟨_,_,rfl,rfl⟩:=h;exact Fe he
   ·exact (bi h hv).elim
  ·split at h
   ·simp only[Rs.mk.injEq]at h;obtain⟨_,_,rfl,rfl⟩:=h;obtain⟨h1,h2⟩:=iE he;exact (Fe h2).trans (Ay _ _ h1)
   ·exact (bi h hv).elim
theorem YP{d:Nat}(h:nP ct d vs M=⟨vc,v,e,M1⟩)(hv:ab vc)(he:bD ks e=true):AgM ks M1 M:=by
 unfold nP at h;split at h
 ·exact C' h hv he
 ·exact Zl h hv he
 ·exact Z7 h hv he
 ·exact (bi h hv).elim
 ·exact Za h hv he
 ·exact (bi h hv).elim
 ·exact (bi h hv).elim
 ·split at h
  ·exact Ou h hv he
  ·exact (bi h hv).elim
 ·exact Ou h hv he
theorem BD{d:Nat}(h:neg (inN d ks)=true)(g:AgM ks M1 M):AgM ks ((d,ob)::del d M1) M:=λk hk=>by
 have hne:k≠d:=λe=>by subst e;rw[hk]at h;cases h
 have hb:Nat.beq d k=false:=by cases q:Nat.beq d k with
  |false=>rfl
  |true=>exact absurd (cR q).symm hne
 simp only[go,hb,bc];rw[dC hne];exact g k hk
theorem DP{x:V}{ev:bM}{t:T}{m:List t.den}(h:rh M x=some (.dat ev M' t m))(he:bD ks ev=true):AgM ks M' M:=by
 unfold rh at h;split at h
 ·cases h
 ·cases h;exact AgM.refl _ _
 ·split at h
  ·cases h
  ·split at h
   ·cases h;simp only[bD,aP,ao,cZ]at he;exact iF he.1
   ·cases h;simp only[bD,aP,ao,cZ]at he;exact iF he.1
   ·cases h
  ·cases h
 ·cases h
theorem IW{b:Nat}{e e':O}{l:List e.strip.den}{m:List e'.strip.den}{ev:bM}(h:tp b k e l j e' m ev M1 M0=⟨vc,v,e2,M2⟩)(hv:ab vc)(he:bD ks e2=true)(g:bD ks ev=true->AgM ks M1 M):AgM ks M2 M:=by
 unfold tp at h;split at h
 ·simp only[Rs.mk.injEq]at h;obtain⟨_,_,rfl,rfl⟩:=h;obtain⟨h1,h2⟩:=iE he;simp only[bD,aP,ao,cZ]at h2;exact BD h2.2.1 ((iF h2.1).trans (g h1))
 ·split at h
  ·simp only[Rs.mk.injEq]at h;obtain⟨_,_,rfl,rfl⟩:=h;obtain⟨h1,h2⟩:=iE he;simp only[bD,aP,ao,cZ]at h2;exact BD h2.2.1 ((iF h2.1).trans (g h1))
  ·exact (bi h hv).elim
theorem Ja{b:Nat}{e:O}{l:List e.strip.den}{t:T}{m:List t.den}{ev:bM}(h:tD b k e l t m ev M1 M0=⟨vc,v,e2,M2⟩)(hv:ab vc)(he:bD ks e2=true)(g:bD ks ev=true->AgM ks M1 M):AgM ks M2 M:=by
 unfold tD at h;split at h
 ·simp only[Rs.mk.injEq]at h;obtain⟨_,_,rfl,rfl⟩:=h;obtain⟨h1,h2⟩:=iE he;simp only[bD,aP,ao,cZ]at h2;exact BD h2.1 (g h1)
 ·exact (bi h hv).elim
theorem ZD{s x:V}(h:pb B dst t s x M=⟨vc,v,e,M1⟩)(hv:ab vc)(he:bD ks e=true):AgM ks M1 M:=by
 unfold pb at h;split at h
 ·rename_i el d src _ hsrc
  cases hb:aO [(B.τ t).ok,(B.τ el).ok,neg (Nat.beq (B.τ el).bytes 0),B.z el,bT (B.σ el).size (B.τ el).size]with
  |false=>rw[hb]at h;exact (bi h hv).elim
  |true=>
   rw[hb]at h;simp only[aD]at h;split at h
   ·split at h
    ·cases h;exact AgM.refl _ _
    ·rename_i j e' m
     cases hc:aO [d6 j d,bT e'.strip.size (B.τ el).size]with
     |false=>rw[hc]at h;exact (bi h hv).elim
     |true=>rw[hc]at h;simp only[aD,Rs.mk.injEq]at h;obtain⟨_,_,rfl,rfl⟩:=h;simp only[bD,aP,ao,cZ]at he;exact BD he.2.1 (iF he.1)
    ·rename_i ev M' t' m
     cases hc:bT t'.size (B.τ el).size with
     |false=>rw[hc]at h;exact (bi h hv).elim
     |true=>rw[hc]at h;simp only[aD,Rs.mk.injEq]at h;obtain⟨_,_,rfl,rfl⟩:=h;obtain⟨h1,h2⟩:=iE he;simp only[bD,aP,ao,cZ]at h2;exact BD h2.1 (DP hsrc h1)
   ·rename_i k π;split at h
    ·rename_i o l _
     cases hc:aO [bT o.strip.size (B.τ el).size,Nat.ble (Nat.succ k) gid]with
     |false=>rw[hc]at h;exact (bi h hv).elim
     |true=>
      rw[hc]at h;simp only[aD]at h;split at h
      ·cases h;exact AgM.refl _ _
      ·rename_i j e' m
       cases hd:neg (d6 j k)with
       |true=>rw[hd]at h;exact (bi h hv).elim
       |false=>rw[hd]at h;refine IW h hv he λh1=>?_;simp only[bD,aP,ao,cZ]at h1;exact iF h1.1
      ·split at h
       ·refine Ja h hv he λh1=>?_;obtain⟨h2,h3⟩:=iE h1;simp only[bD,aP,ao,cZ]at h3;exact (iF h3.1).trans (DP hsrc h2)
       ·exact (bi h hv).elim
    ·rename_i ob _ _;split at h
     ·rename_i o l ob' _ _
      cases hc:aO [bT o.strip.size (B.τ el).size,neg (Nat.beq d k),Nat.ble (Nat.succ k) gid]with
      |false=>rw[hc]at h;exact (bi h hv).elim
      |true=>
       rw[hc]at h;simp only[aD]at h;split at h
       ·cases h;exact AgM.refl _ _
       ·rename_i j e' m
        cases hd:aO [d6 j k,d6 j d]with
        |false=>rw[hd]at h;exact (bi h hv).elim
        |true=>rw[hd]at h;refine IW h hv he λh1=>?_;simp only[bD,aP,ao,cZ]at h1;exact oW h1.1
       ·split at h
        ·refine Ja h hv he λh1=>?_;obtain⟨h2,h3⟩:=iE h1;simp only[bD,aP,ao,cZ]at h3;exact (oW h3.1).trans (DP hsrc h2)
        ·exact (bi h hv).elim
     ·split at h
      ·rename_i o l _ _ _ ob' _
       cases hc:aO [bT o.strip.size (B.τ el).size,neg (Nat.beq d k),Nat.ble (Nat.succ k) gid]with
       |false=>rw[hc]at h;exact (bi h hv).elim
       |true=>
        rw[hc]at h;simp only[aD]at h;split at h
        ·exact (bi h hv).elim
        ·rename_i j e' m
         cases hd:aO [d6 j k,d6 j d]with
         |false=>rw[hd]at h;exact (bi h hv).elim
         |true=>rw[hd]at h;refine IW h hv he λh1=>?_;simp only[bD,aP,ao,cZ]at h1;exact oW h1.1
        ·split at h
         ·refine Ja h hv he λh1=>?_;obtain⟨h2,h3⟩:=iE h1;simp only[bD,aP,ao,cZ]at h3;exact (oW h3.1).trans (DP hsrc h2)
         ·exact (bi h hv).elim
      ·exact (bi h hv).elim
     ·exact (bi h hv).elim
    ·exact (bi h hv).elim
   ·exact (bi h hv).elim
 ·exact (bi h hv).elim
theorem Yx{r:Nat}{ρ:bz}(h:qO k r ρ M=some (q,e,M'))(he:bD ks e=true):AgM ks M' M:=by
 unfold qO at h
 cases hb:neg (d6 r k)with
 |true=>rw[hb]at h;cases h
 |false=>
  rw[hb]at h;simp only[bc]at h;split at h
  ·split at h
   ·split at h
    ·cases h;simp only[bD,aP,ao,cZ]at he;exact iF he.1
    ·cases hi:nZ ρ with
     |true=>rw[hi]at h;simp only[aD,aI,bE]at h;obtain⟨_,rfl,rfl⟩:=h;simp only[bD,aP,ao,cZ]at he;exact iF he.1
     |false=>
      rw[hi]at h;simp only[bc]at h;split at h
      ·simp only[aI,bE]at h;obtain⟨_,rfl,rfl⟩:=h;simp only[bD,aP,ao,cZ]at he;exact oW he.1
      ·cases h
   ·cases h
  ·cases h
theorem YQ{r:Nat}{ρ:bz}(h:Bs k r ρ M=some (q,e,M'))(he:bD ks e=true):AgM ks M' M:=by
 unfold Bs at h
 cases hb:neg (d6 r k)with
 |true=>rw[hb]at h;cases h
 |false=>
  rw[hb]at h;simp only[bc]at h;split at h
  ·cases h;simp only[bD,aP,ao,cZ]at he;exact iF he.1
  ·split at h
   ·cases h;simp only[bD,aP,ao,cZ]at he;exact iF he.1
   ·cases h
  ·cases h
theorem Mf{t:T}(ht:∀a b,t=.p a b->∀x y,v≠.p x y)(h:conv k t v M=some (q,e,M'))(he:bD ks e=true):AgM ks M' M:=by
 cases v with
 |p a b=>cases t with
  |p t s=>exact absurd rfl (ht _ _ rfl _ _)
  |_=>simp[conv]at h
 |u|d _ _|nl|np=>cases t<;>simp only[conv]at h<;>cases h<;>exact AgM.refl _ _
 |fn f v=>cases v<;>cases t<;>simp only[conv]at h<;>cases h<;>exact AgM.refl _ _
 |ref r ρ=>cases t<;>simp only[conv]at h<;>exact Yx h he
 |ad r ρ=>cases t<;>simp only[conv]at h<;>exact YQ h he
 |_=>cases t<;>simp only[conv]at h<;>cases h
theorem DD{ks:aZ}{k:Nat}:(t:T)->(v:V)->(M:Mem)->(q:Ob)->(e:bM)->(M':Mem)->conv k t v M=some (q,e,M')->bD ks e=true->AgM ks M' M
 |.p t s,v,M,q,e,M',h,he=>by
  by_cases hv:∃x y,v=.p x y
  ·obtain⟨x,y,rfl⟩:=hv;simp only[conv]at h;split at h
   ·rename_i q1 e1 M1 h1;split at h
    ·rename_i q2 e2 M2 h2;cases h;obtain⟨g1,g2⟩:=iE he;exact (DD s _ _ _ _ _ h2 g2).trans (DD t _ _ _ _ _ h1 g1)
    ·cases h
   ·cases h
  ·exact Mf (λ_ _ _ x y e=>hv ⟨x,y,e⟩) h he
 |.int _,_,_,_,_,_,h,he|.bool,_,_,_,_,_,h,he|.str,_,_,_,_,_,h,he|.u,_,_,_,_,_,h,he|.sl _,_,_,_,_,_,h,he|.pt _,_,_,_,_,_,h,he|.fn _ _,_,_,_,_,_,h,he|.ifc _ _,_,_,_,_,_,h,he|.ib _ _,_,_,_,_,_,h,he|.mp _ _,_,_,_,_,_,h,he|.op _,_,_,_,_,_,h,he|.ns _,_,_,_,_,_,h,he|.er _,_,_,_,_,_,h,he|.any,_,_,_,_,_,h,he=>Mf (λ_ _ e=>by cases e) h he
termination_by t=>SizeOf.sizeOf t
theorem NI{o:O}{x:o.strip.den}(h:qV k o v M=some (x,e,M'))(he:bD ks e=true):AgM ks M' M:=by
 unfold qV at h;split at h
 ·generalize hz:cr M v=z at h;obtain⟨e1,M1⟩:=z;simp only at h;split at h
  ·cases h;have:=z6 (ks:=ks) v M (by rw[hz];exact he);rw[hz]at this;exact this
  ·cases h
 ·split at h
  ·rename_i q e1 M1 h1;split at h
   ·cases h;exact DD _ _ _ _ _ _ h1 he
   ·cases h
  ·cases h
theorem Od{o:O}{x:o.strip.den}(h:r9 k o v M=some (x,e,M'))(he:bD ks e=true):AgM ks M' M:=by
 unfold r9 at h;split at h
 ·split at h
  ·rename_i h1;cases h;exact NI h1 he
  ·cases h
 ·exact NI h he
theorem It{ks:aZ}{k:Nat}{o:O}:∀(vs:cf)(ev:bM)(M:Mem)(l:List o.strip.den)(e:bM)(M':Mem),jh k o ev vs M=some (l,e,M')->bD ks e=true->AgM ks M' M/\bD ks ev=true
 |[],ev,M,l,e,M',h,he=>by simp only[jh]at h;cases h;exact⟨AgM.refl _ _,he⟩
 |v::r,ev,M,l,e,M',h,he=>by
  simp only[jh]at h;split at h
  ·rename_i x e1 M1 h1;split at h
   ·rename_i l2 e2 M2 h2;cases h;obtain⟨g1,g2⟩:=It r _ _ _ _ _ h2 he;obtain⟨g3,g4⟩:=iE g2;exact⟨g1.trans (Od h1 g4),g3⟩
   ·cases h
  ·cases h
theorem K0{d:Nat}(h:neg (inN d ks)=true)(g:AgM ks M1 M):AgM ks ((d,ob)::M1) M:=λk hk=>by
 have hne:k≠d:=λe=>by subst e;rw[hk]at h;cases h
 have hb:Nat.beq d k=false:=by cases q:Nat.beq d k with
  |false=>rfl
  |true=>exact absurd (cR q).symm hne
 simp only[go,hb,bc];exact g k hk
theorem l_(h:mS B t n ps f d M=⟨vc,v,e,M1⟩)(hv:ab vc)(he:bD ks e=true):AgM ks M1 M:=by
 unfold mS at h;split at h
 ·rename_i k el _;split at h
  ·cases hb:aO [(B.τ t).ok,(B.τ el).ok,B.z el,Nat.ble (Nat.mul n (B.τ el).size) 16777216,Nat.ble n nb,bT (B.σ el).size (B.τ el).size]with
   |false=>rw[hb]at h;exact (bi h hv).elim
   |true=>
    rw[hb]at h;simp only[aD]at h;split at h
    ·cases h;exact AgM.refl _ _
    ·split at h
     ·split at h
      ·rename_i hc;cases h;simp only[bD,aP,ao,cZ]at he;exact K0 he.1 ((It _ _ _ _ _ _ hc he.2).1.trans (iF he.1))
      ·split at h
       ·rename_i hc;cases h;simp only[bD,aP,ao,cZ]at he;exact K0 he.1 ((It _ _ _ _ _ _ hc he.2).1.trans (iF he.1))
       ·exact (bi h hv).elim
     ·exact (bi h hv).elim
  ·exact (bi h hv).elim
 ·exact (bi h hv).elim
theorem YU{t:T}(h:rx b k t v M=some (q,e,M1))(he:bD ks e=true):AgM ks M1 M:=by
 unfold rx at h;split at h
 ·rename_i r ht;cases h
  cases b with
  |false=>cases ht
  |true=>
   simp only[aD]at ht;unfold vO at ht;split at ht
   ·rename_i r i
    cases hb:neg (d6 r k)with
    |true=>rw[hb]at ht;cases ht
    |false=>
     rw[hb]at ht;simp only[bc]at ht;split at ht
     ·cases ht;simp only[bD,aP,ao,cZ]at he;exact iF he.1
     ·cases ht
   ·cases ht
 ·exact DD _ _ _ _ _ _ h he
theorem aao{x:V}(h:kT B t x y M=⟨vc,v,e,M1⟩)(hv:ab vc)(he:bD ks e=true):AgM ks M1 M:=by
 unfold kT at h;split at h
 ·rename_i k π;split at h
  ·rename_i ob q _ _
   cases hb:aO [(B.τ t).ok,eK M y.cells (B.τ t).size,bT q.o.strip.size (B.τ t).size,neg (isZ (B.τ t).size)]with
   |false=>rw[hb]at h;exact (bi h hv).elim
   |true=>
    rw[hb]at h;simp only[aD]at h;split at h
    ·rename_i z e1 M' hc
     have fr:bD ks e1=true->AgM ks M' M:=λg=>by
      cases hi:nZ π with
      |true=>
       rw[hi]at hc;simp only[aD]at hc;split at hc
       ·rename_i hw;cases hc;exact Od hw g
       ·cases hc
      |false=>rw[hi]at hc;simp only[bc]at hc;exact YU hc g
     split at h
     ·cases hs:bT z.o.strip.size (B.τ t).size with
      |false=>rw[hs]at h;exact (bi h hv).elim
      |true=>
       rw[hs]at h;simp only[aD]at h;split at h
       ·cases h;obtain⟨g1,g2⟩:=iE he;simp only[bD,cZ,aP,ao]at g2;exact (oW g2.1).trans (fr g1)
       ·cases h;obtain⟨g1,g2⟩:=iE he;simp only[bD,cZ,aP,ao]at g2;exact (oW g2.1).trans (fr g1)
     ·exact (bi h hv).elim
    ·exact (bi h hv).elim
  ·exact (bi h hv).elim
 ·exact (bi h hv).elim
theorem adn{x:V}{r:Rs}:(mJ x y M r).vc=r.vc:=by
 unfold mJ;split
 ·split
  ·rename_i a b _ _ _ _ _ _ _;generalize nob (Nat.blt _ gid) _=bb;cases bb<;>rfl
  ·rfl
 ·rfl
theorem m_{x:V}{r:Rs}(g:bD ks r.ev=true->AgM ks r.M M):bD ks (mJ x y M r).ev=true->AgM ks (mJ x y M r).M M:=by
 unfold mJ;split
 ·split
  ·generalize nob (Nat.blt _ gid) _=bb
   cases bb with
   |true=>simp only[aD];intro he;obtain⟨g1,g2⟩:=iE he;simp only[bD,cZ,aP,ao]at g2;exact K0 g2.1.2 ((iF g2.1.1).trans (g g1))
   |false=>simp only[bc];exact g
  ·exact g
 ·exact g
theorem u_{x:V}(hv:ab (pe B t x y M).vc):bD ks (pe B t x y M).ev=true->AgM ks (pe B t x y M).M M:=by
 unfold pe at hv⊢
 cases hk:v9 (B.τ t) x y M with
 |none=>simp only[hk,adn]at hv⊢;exact m_ (λg=>aao rfl hv g)
 |some r=>
  simp only;intro he;unfold v9 at hk;split at hk
  ·rename_i k f v1 v2
   cases hha:qR (.p v1 v2)with
   |false=>rw[hha]at hk;cases hk
   |true=>
   rw[hha]at hk;simp only[aD]at hk;unfold Lt at hk;split at hk
   ·generalize aO [(B.τ t).ok,bT (B.τ t).size 1,Nat.ble (Nat.succ k) gid]=b at hk
    cases b with
    |false=>cases hk
    |true=>simp only[aD,aI]at hk;subst hk;simp only[bD,cZ,aP,ao]at he;exact (iF he.1).trans (oW he.1)
   ·cases hk
  ·cases hk
theorem ZK(hc:Ca o=true)(h:evR B Φ o env M=⟨vc,v,e,M1⟩)(hv:ab vc)(he:bD ks e=true):AgM ks M1 M:=by
 unfold Ca at hc;split at hc
 ·rename_i t x y hop;unfold evR at h;rw[hop]at h;simp only[Rs.mk.injEq]at h;obtain⟨rfl,rfl,rfl,rfl⟩:=h;have hv2:=gb hv;simp only[bI,hop]at hv2 he⊢;exact u_ hv2 he
 ·cases hc
theorem Zz(hc:B7 o=true)(h:evR B Φ o env M=⟨vc,v,e,M1⟩)(hv:ab vc)(he:bD ks e=true):AgM ks M1 M:=by
 unfold B7 at hc;split at hc
 ·rename_i c hop;split at hc
  ·rename_i cx hcal
   have key:∀q:Rs,bI B Φ o (λx=>(rd env x).strip) M=q->ab q.vc->bD ks q.ev=true->AgM ks q.M M:=λq hq hv he=>by
    obtain⟨vc,v,e,M1⟩:=q;simp only[bI,hop,hcal]at hq;split at hq
    ·split at hq
     ·exact YP hq hv he
     ·exact (bi hq hv).elim
    ·exact (bi hq hv).elim
   unfold evR at h;rw[hop]at h;simp only[Rs.mk.injEq]at h;obtain⟨rfl,rfl,rfl,rfl⟩:=h;exact key _ rfl (gb hv) he
  ·rename_i hcal
   have key:∀q:Rs,bI B Φ o (λx=>(rd env x).strip) M=q->ab q.vc->bD ks q.ev=true->AgM ks q.M M:=λq hq hv he=>by
    obtain⟨vc,v,e,M1⟩:=q;simp only[bI,hop,hcal]at hq;split at hq
    ·rename_i t t' _ _
     cases hb:Nat.beq t t' with
     |false=>rw[hb]at hq;exact (bi hq hv).elim
     |true=>rw[hb]at hq;exact ZD hq hv he
    ·exact (bi hq hv).elim
   unfold evR at h;rw[hop]at h;simp only[Rs.mk.injEq]at h;obtain⟨rfl,rfl,rfl,rfl⟩:=h;exact key _ rfl (gb hv) he
  ·cases hc
 ·rename_i t n ps hop;unfold evR at h;rw[hop]at h;simp only[Rs.mk.injEq]at h;obtain⟨rfl,rfl,rfl,rfl⟩:=h;have key:∀q:Rs,bI B Φ o (λx=>(rd env x).strip) M=q->ab q.vc->bD ks q.ev=true->AgM ks q.M M:=λq hq hv he=>by obtain⟨vc,v,e,M1⟩:=q;simp only[bI,hop]at hq;exact l_ hq hv he
  exact key _ rfl (gb hv) he
 ·rename_i hop;unfold evR at h;rw[hop]at h;simp only[Rs.mk.injEq]at h;obtain⟨rfl,rfl,rfl,rfl⟩:=h;simp only[bI,hop,bR];exact AgM.refl ks M
 ·rename_i hop;unfold evR at h;rw[hop]at h;simp only[Rs.mk.injEq]at h;obtain⟨rfl,rfl,rfl,rfl⟩:=h;simp only[bI,hop,bR];exact AgM.refl ks M
 ·rename_i hop;unfold evR at h;rw[hop]at h;simp only[Rs.mk.injEq]at h;obtain⟨rfl,rfl,rfl,rfl⟩:=h;simp only[bI,hop,bR];exact AgM.refl ks M
 ·cases hc
theorem Bd{ks:aZ}{M' M0:Mem}(hM:∀k,inN k ks=true->go M0 k≠none->go M' k=go M0 k):∀v:V,ksV ks v=true->mY M0 v=true->agV M' M0 v
 |.d _ _,_,_|.nl,_,_|.np,_,_|.u,_,_=>trivial
 |.p a b,h,g=>by simp only[ksV,mY,aP,ao]at h g;exact⟨Bd hM a h.1 g.1,Bd hM b h.2 g.2⟩
 |.ag v,h,g|.fn f v,h,g|.bx v,h,g=>Bd hM v h g
 |.ref k π,h,g=>by
  have hn:go M0 k≠none:=λe=>by simp[mY,e,isN,neg]at g
  exact⟨hM k h hn,hn⟩
 |.ad k π,h,g=>by
  have hn:go M0 k≠none:=λe=>by simp[mY,e,isN,neg]at g
  exact⟨hM k h hn,hn⟩
 |.any,h,_|.tup _,h,_|.gd _ _ _ _,h,_|.ifc _ _,h,_=>by cases h
theorem DS{ks:aZ}(e:Ev)(he:cZ ks e=true):∀v:V,ksV ks v=true->v.ev e=v
 |.d _ _,_|.nl,_|.np,_|.u,_=>rfl
 |.p a b,h=>by simp only[ksV,aP,ao]at h;simp only[V.ev,DS e he a h.1,DS e he b h.2]
 |.ag v,h|.fn f v,h|.bx v,h=>by simp only[V.ev,DS e he v h]
 |.ref k π,h=>aa1 h e he
 |.ad k π,h=>aeo h e he
 |.any,h|.tup _,h|.gd _ _ _ _,h|.ifc _ _,h=>by cases h
theorem EQ{ks:aZ}:∀(e:bM),bD ks e=true->∀v:V,ksV ks v=true->v.evs e=v
 |[],_,_,_=>rfl
 |x::e,he,v,hv=>by simp only[bD,aP,ao]at he;simp only[V.evs,DS x he.1 v hv];exact EQ e he.2 v hv
theorem DR{ks:aZ}{env:Env}:∀{l:l7},jj ks env l=true->∀x∈l,ksV ks (rd env x)=true
 |[],_,x,hx=>by cases hx
 |a::l,h,x,hx=>by
  simp only[jj,aP,ao]at h;rcases cz.1 hx with e|e
  ·subst e;exact h.1
  ·exact DR h.2 x e
theorem IN{ks:aZ}{env env':Env}:∀{l:l7},(∀x∈l,rd env x=rd env' x)->jj ks env l=jj ks env' l
 |[],_=>rfl
 |a::l,h=>by have h1:jj ks env l=jj ks env' l:=IN λx hx=>h x (fp _ hx);simp only[jj,h a (gk ..),h1]
def FlI(B:Tab)(Φ:du)(ks as:aZ)(x:bj)(env:Env)(M:Mem)(y:V):Prop:=
 (∃t0,(x.op=.move (.tmp t0)\/x.op=.assign (.tmp t0))/\gf (gt env t0)=false/\gt env t0=y)\/(∃t0 k v,x.op=.extract (.tmp t0) k/\gt env t0=.tup v/\nth v k=some y)\/
 (gQ x.op=true/\jj ks env (bf x.op)=true/\ksV ks y=true/\∃vc,ab vc/\∀M',AgM ks M' M->evR B Φ x env M'=⟨vc,y,[],M'⟩)\/
 (∃t t0 k,x.op=.load t (.tmp t0)/\gt env t0=.bx (.ad k [.de])/\y=.ad k [.de]/\inN k as=true/\FP (B.τ t)=true)
theorem aco(e:Ev)(v:V)(h:gf v=false):gf (v.ev e)=false:=by
 cases v with
 |ref k π=>simp only[V.ev];exact QH k π e
 |ad k π=>simp only[V.ev];exact QK k π e
 |gd _ _ _ _=>cases h
 |_=>rfl
theorem Q8:∀(e:bM)(v:V),gf v=false->gf (v.evs e)=false
 |[],_,h=>h
 |x::e,v,h=>by simp only[V.evs];exact Q8 e _ (aco x v h)
theorem S7(e:Ev):∀(v:V)(k:Nat)(y:V),nth v k=some y->nth (v.ev e) k=some (y.ev e)
 |.p a b,0,y,h=>by simp only[nth,aI]at h;subst h;rfl
 |.p a b,k+1,y,h=>by simp only[nth]at h;simp only[V.ev,nth];exact S7 e b k y h
 |.any,_,_,h|.nl,_,_,h|.np,_,_,h|.u,_,_,h|.d _ _,_,_,h|.ref _ _,_,_,h|.ad _ _,_,_,h|.ag _,_,_,h|.tup _,_,_,h|.gd _ _ _ _,_,_,h|.fn _ _,_,_,h|.ifc _ _,_,_,h|.bx _,_,_,h=>by simp[nth]at h
theorem Ry:∀(e:bM)(v:V)(k:Nat)(y:V),nth v k=some y->nth (v.evs e) k=some (y.evs e)
 |[],_,_,_,h=>h
 |x::e,v,k,y,h=>by simp only[V.evs];exact Ry e _ k _ (S7 x v k y h)
theorem Sc:∀(e:bM)(v:V),(V.tup v).evs e=.tup (v.evs e)
 |[],_=>rfl
 |x::e,v=>by simp only[V.evs,V.ev];exact Sc e _
theorem acg(hk:inN k as=true)(x:Ev)(h:xv as x=true):(V.ad k [.de]).ev x=.ad k [.de]:=by
 have ne:∀{j:Nat},neg (inN j as)=true->Nat.beq k j=false:=λ{j} hj=>by
  cases hb:Nat.beq k j with
  |false=>rfl
  |true=>have:=cR hb;subst this;rw[hk]at hj;cases hj
 cases x with
 |kl r|fz r ob|mv r k'|un r k'|kn r k'=>simp only[xv]at h;simp only[V.ev,Ev.ad,ne h,bc]
 |tk r o o'=>
  simp only[xv,eX,e9]at h;simp only[V.ev,Ev.ad];rcases h with h|h
  ·rw[ne h];rfl
  ·rw[h];cases Nat.beq k r<;>rfl
 |cut r o o'=>
  simp only[xv,eX,e9]at h;simp only[V.ev,Ev.ad];rcases h with h|h
  ·rw[ne h];rfl
  ·rw[h];cases Nat.beq k r<;>rfl
theorem Jx{as:aZ}{k:Nat}(hk:inN k as=true):∀e:List Ev,vt as e=true->(V.ad k [.de]).evs e=.ad k [.de]
 |[],_=>rfl
 |x::e,h=>by simp only[vt,aP,ao]at h;simp only[V.evs,acg hk x h.1];exact Jx hk e h.2
theorem SM:∀(e:bM)(v:V),(V.bx v).evs e=.bx (v.evs e)
 |[],_=>rfl
 |x::e,v=>by simp only[V.evs,V.ev];exact SM e _
theorem FlI.look(h:FlI B Φ ks as x env M y)(hkp:vt as e=true)(hd:gQ x.op=true->(bD ks e=true/\AgM ks M1 M)\/(p8 M1 x.op env'=true/\jj ks env' (bf x.op)=true/\ksV ks (y.evs e)=true/\evR B Φ x env' M1=⟨[],y.evs e,[],M1⟩))(he:∀t0,Operand.tmp t0∈x.op.operands->gt env' t0=(gt env t0).evs e):FlI B Φ ks as x env' M1 (y.evs e):=by
 rcases h with⟨t0,ho,hg,rfl⟩|⟨t0,k,v,ho,hv,hn⟩|⟨h1,h2,h3,vc,h4,h5⟩|⟨t,t0,k,ho,hv,rfl,hk,hb⟩;rotate_left 3
 ·have he:=he t0 (by simp[ho,Op.operands]);refine .inr (.inr (.inr ⟨t,t0,k,ho,by rw[he,hv,SM,Jx hk e hkp],Jx hk e hkp,hk,hb⟩))
 ·have he:=he t0 (by rcases ho with ho|ho<;>simp[ho,Op.operands]);exact .inl ⟨t0,ho,by rw[he];exact Q8 e _ hg,he⟩
 ·have he:=he t0 (by simp[ho,Op.operands]);exact .inr (.inl ⟨t0,k,v.evs e,ho,by rw[he,hv,Sc],Ry e v k y hn⟩)
 ·rcases hd h1 with⟨hd1,hd2⟩|⟨g1,g2,g3,g4⟩;rotate_left
  ·refine .inr (.inr (.inl ⟨h1,g2,g3,[],trivial,λM' hM=>?_⟩));rw[KU (M:=M') g1 (λhlv q hq=>Bd (ks:=ks) (λk hk _=>hM k hk) _ (DR g2 _ hq) (DG hlv _ hq)) g4 trivial rfl];rfl
  have hr:∀q∈x.op.operands,rd env' q=rd env q:=λq hq=>by
   cases q with
   |tmp t=>have hkq:=DR h2 _ (i_ h1 _ hq);simp only[rd]at hkq⊢;rw[he t hq,EQ e hd1 _ hkq]
   |const c|global g|func f=>rfl
  refine .inr (.inr (.inl ⟨h1,?_,by rw[EQ e hd1 y h3];exact h3,vc,h4,λM' hM=>?_⟩))
  ·rw[IN λq hq=>hr q (AK x q hq)];exact h2
  ·rw[uM x hr,h5 M' λk hk=>(hM k hk).trans (hd2 k hk),EQ e hd1 y h3]
theorem FlI.same(h:FlI B Φ ks as x env M y)(he:∀t0,Operand.tmp t0∈x.op.operands->gt env' t0=gt env t0):FlI B Φ ks as x env' M y:=by
 have hr:∀q∈x.op.operands,rd env' q=rd env q:=λq hq=>by
  cases q with
  |tmp t=>exact he t hq
  |const c|global g|func f=>rfl
 rcases h with⟨t0,ho,hg,hy⟩|⟨t0,k,v,ho,hv,hn⟩|⟨h1,h2,h3,vc,h4,h5⟩|⟨t,t0,k,ho,hv,hy,hk,hb⟩
 ·have he:=he t0 (by rcases ho with ho|ho<;>simp[ho,Op.operands]);exact .inl ⟨t0,ho,by rw[he];exact hg,by rw[he];exact hy⟩
 ·have he:=he t0 (by simp[ho,Op.operands]);exact .inr (.inl ⟨t0,k,v,ho,by rw[he];exact hv,hn⟩)
 ·refine .inr (.inr (.inl ⟨h1,?_,h3,vc,h4,λM' hM=>?_⟩))
  ·rw[IN λq hq=>hr q (AK x q hq)];exact h2
  ·rw[uM x hr];exact h5 M' hM
 ·have he:=he t0 (by simp[ho,Op.operands]);exact .inr (.inr (.inr ⟨t,t0,k,ho,by rw[he];exact hv,hy,hk,hb⟩))
theorem FlI.run(h:FlI B Φ ks as x env M y):∃vc,ab vc/\evR B Φ x env M=⟨vc,y,[],M⟩:=by
 have ns:∀v:V,gf v=false->v.strip=v:=λv hv=>by cases v<;>first|rfl|cases hv
 have nn:∀t,gf (gt env t)=false->fH (rd env) [.tmp t]=[]:=λt ht=>by
  simp only[fH,rd];split
  ·rename_i e;rw[e]at ht;cases ht
  ·rfl
 rcases h with⟨t0,ho,hg,rfl⟩|⟨t0,k,v,ho,hv,hn⟩|⟨h1,h2,h3,vc,h4,h5⟩|⟨t,t0,k,ho,hv,rfl,hk,hb⟩;rotate_left 3
 ·have hg:gf (gt env t0)=false:=by rw[hv];rfl
  have hs:(V.bx (.ad k [.de])).strip=.bx (.ad k [.de]):=rfl;simp only[FP,bH,bJ,bC,ao,dL,bN,gu,gU]at hb;refine⟨[],trivial,?_⟩;simp only[evR,ho,bI,bf,nn t0 hg,ap,rd,hv,hs,kR,pz,bR,lR,hb.1,hb.2.1,hb.2.2,eK,V.size,kI,bB,bH,bJ,bC,dL,ws,eX,zg,n5,aD,bc]
 ·refine⟨[],trivial,?_⟩;rcases ho with ho|ho<;>simp only[evR,ho,bI,bR,bf,nn t0 hg,ap,rd,ns _ hg]
 ·have hg:gf (gt env t0)=false:=by rw[hv];rfl
  have hs:(V.tup v).strip=.tup v:=rfl;refine⟨[],trivial,?_⟩;simp only[evR,ho,bI,bR,bf,nn t0 hg,ap,rd,hv,hs,yo,hn,bB]
 ·exact⟨vc,h4,h5 M (AgM.refl ks M)⟩
theorem FlI.of(hx:yy x.op=true)(hn:∀t,gf (gt env t)=false)(h:evR B Φ x env M=⟨vc,v,e,M'⟩)(hv:ab vc):FlI B Φ ks as x env M1 v:=by
 have ns:∀v:V,gf v=false->v.strip=v:=λv hv=>by cases v<;>first|rfl|cases hv
 unfold yy at hx;split at hx
 ·rename_i t0 ho;simp only[evR,ho,bI,bR,rd,ns _ (hn t0),Rs.mk.injEq]at h;exact .inl ⟨t0,.inl ho,hn t0,h.2.1⟩
 ·rename_i t0 ho;simp only[evR,ho,bI,bR,rd,ns _ (hn t0),Rs.mk.injEq]at h;exact .inl ⟨t0,.inr ho,hn t0,h.2.1⟩
 ·rename_i t0 k ho;simp only[evR,ho,bI,bR,rd,ns _ (hn t0),Rs.mk.injEq]at h;obtain⟨h1,h2,_⟩:=h;rw[←h1]at hv;have hv:=gb hv;unfold yo at hv h2;split at hv
  ·rename_i w hw;split at hv
   ·rename_i y hy;rw[hw]at h2;simp only[hy,bB]at h2;exact .inr (.inl ⟨t0,k,w,ho,hw,by rw[←h2];exact hy⟩)
   ·exact absurd hv (by simp[bad,ab])
  ·exact absurd hv (by simp[bad,ab])
 ·cases hx
section
variable {all:fK}{N:Nat->Mem}
structure Hctx (D R:bo) (Ds:gj) (ks as:aZ) (B:Tab) (Φ:du) (all:fK) (m:Nat) (E:Nat->Env) (X N:Nat->Mem) (M0:Mem):Prop where
 hb:kv 0 all.toList=true
 hm:m<=all.size
 ht:Gr D R all (cL [] all.toList) m=true
 hf:Gn all (cL [] all.toList) m=true
 hdr:tA all (cL [] all.toList) m=true
 hE:∀(j:Nat)(o:bj),all[j]? = some o->j<m->∃d v vc ev,Hst (Ds.getD j false) ks as B Φ M0 o (E j) (E (j+1)) (N j) (X j) (X (j+1)) d v vc ev
 hX:X 0=[]
 h0:∀t,lO (gt (E 0) t)=true
 hR:R=false->ks=[]
 hD:D=true->∀i,i<m->gx all.size (cL [] all.toList) m i=true->Ds.getD i false=true
structure Hsta (all:fK) (m:Nat) (E:Nat->Env) (N:Nat->Mem) (M0:Mem) (listed:eQ) (env:Env) (M:Mem):Prop where
 a:∀t,(∀(i:Nat)(o:bj),all[i]? = some o->isL listed i->o.dst≠some t)->gt env t=gt (E 0) t
 b:∀(i:Nat)(o:bj)(t:Nat),all[i]? = some o->isL listed i->o.dst=some t->gt env t=gt (E (i+1)) t
 c:∀k,(∀(i:Nat),i<all.size->isL listed i->k∉ba (N i))->go M k=go M0 k
 d:∀(i:Nat)(k:Nat),i<all.size->isL listed i->k∈ba (N i)->go M k=go (N i) k
theorem Hctx.get(C:Hctx D R Ds ks as B Φ all m E X N M0)(h:i<m):all[i]? = some (all[i]'(fF h C.hm)):=sb _
theorem Hctx.xs(C:Hctx D R Ds ks as B Φ all m E X N M0):∀(j:Nat),j<=m->∀k,(∀i,i<j->k∈ba (N i)->go (X j) k=go (N i) k/\∀i',i'<j->k∈ba (N i')->i'=i)/\((∀i,i<j->k∉ba (N i))->go (X j) k=none)
 |0,_,k=>⟨λi h=>aa,λ_=>by rw[C.hX];rfl⟩
 |j+1,hj,k=>by
  obtain⟨d,v,vc,ev,H⟩:=C.hE j _ (C.get aa) aa;obtain⟨h1,h2⟩:=C.xs j aa k;rw[H.x,nV];by_cases hkj:k∈ba (N j)
  ·have hn:=xo H.nX k hkj;have none_old:∀i,i<j->k∉ba (N i):=λi hi hk=>by have:=(h1 i hi hk).1;rw[hn]at this;exact nH.1 hk this.symm
   obtain⟨ob,hob⟩:∃ob,go (N j) k=some ob:=by
    cases hg:go (N j) k with
    |none=>exact absurd hg (nH.1 hkj)
    |some ob=>exact⟨ob,rfl⟩
   refine⟨λi hi hk=>?_,λh=>absurd hkj (h j aa)⟩
   have hij:i=j:=by
    rcases jx i j with h|h
    ·exact absurd hk (none_old i h)
    ·omega
   subst hij;rw[hob];refine⟨rfl,λi' hi' hk'=>?_⟩;rcases jx i' i with h|h
   ·exact absurd hk' (none_old i' h)
   ·omega
  ·have hgn:go (N j) k=none:=by
    cases hg:go (N j) k with
    |none=>rfl
    |some ob=>exact absurd (nH.2 (by rw[hg];simp)) hkj
   rw[hgn];simp only;refine⟨λi hi hk=>?_,λh=>h2 λi hi=>h i aa⟩
   have hij:i<j:=by
    rcases jx i j with h|h
    ·exact h
    ·have:i=j:=aa
     subst this;exact absurd hk hkj
   refine⟨(h1 i hij hk).1,λi' hi' hk'=>?_⟩
   have hij':i'<j:=by
    rcases jx i' j with h|h
    ·exact h
    ·have:i'=j:=aa
     subst this;exact absurd hk' hkj
   exact (h1 i hij hk).2 i' hij' hk'
theorem Hctx.uniq(C:Hctx D R Ds ks as B Φ all m E X N M0){y:bj}{t:Nat}(hi:i<m)(hj:j<m)(hx:all[i]? = some x)(hy:all[j]? = some y)(h1:x.dst=some t)(h2:y.dst=some t):i=j:=by
 rcases Nat.decEq i j with h|h
 ·exact absurd h2 (IP (lI C.hdr hi hj h hx hy) h1)
 ·exact h
theorem Hctx.gts(C:Hctx D R Ds ks as B Φ all m E X N M0)(j t:Nat)(hj:j<=m):
  ((∀(i:Nat)(o:bj),all[i]? = some o->i<j->o.dst≠some t)->gt (E j) t=gt (E 0) t)/\
  (∀(i:Nat)(o:bj),all[i]? = some o->i<j->o.dst=some t->gt (E j) t=gt (E (i+1)) t):=by
 have hm:=C.hm;have hlen:(all.toList.take m).length=m:=by simp[hm]
 have take_lt:∀{i:Nat} {o:bj},(all.toList.take m)[i]? = some o->i<m/\all[i]? = some o:=λ{i o} h=>by have h1:=(gp.1 h).1;rw[hlen]at h1;rw[wj h1,kO]at h;exact⟨h1,h⟩
 have lt_take:∀{i:Nat} {o:bj},i<m->all[i]? = some o->(all.toList.take m)[i]? = some o:=λ{i o} h1 h=>by rw[wj h1,kO];exact h
 have hw:∀(j:Nat)(o:bj),(all.toList.take m)[j]? = some o->E (j+1)=wr o.dst (match all[j]? with|some o=>(match o.dst with|some d=>gt (E (j+1)) d|none=>.any)|none=>.any) (E j):=λj o hj=>by obtain⟨h1,h2⟩:=take_lt hj;obtain⟨d,v,vc,ev,H⟩:=C.hE j o h2 h1;rw[h2];simp only[H.dst,wr];rw[H.he];simp only[dZ,dA]
 obtain⟨a1,a2⟩:=En hw j t aa;refine⟨λh=>a1 λi o hi=>h i o (take_lt hi).2,λi o hi hlt hd=>?_⟩;rw[a2 i o (lt_take aa hi) hlt hd λi' o' hi' hl' hd'=>C.uniq (take_lt hi').1 aa (take_lt hi').2 hi hd' hd];simp only[hi,hd]
theorem Hctx.step(C:Hctx D R Ds ks as B Φ all m E X N M0)(hs:listed.size=all.size)(hl:∀i,i<all.size->isL listed i->i<m)(hdn:mc all listed)(S:Hsta all m E N M0 listed env M)(hst:St F p env M a w)(ho:all[j]? = some o)(hjm:j<m)(hnl:¬isL listed j)(hrd:∀e∈o.after,Region.binds .any e=true->isL listed e.on):tw B Φ (toL all) [o] env M (λenv' M'=>Hsta all m E N M0 (listed.setIfInBounds j true) env' M'):=by
 have hjs:=(cN.1 ho).1;have hset:∀i,isL (listed.setIfInBounds j true) i<->i=j\/isL listed i:=λi=>EG (by rw[hs];exact hjs);have hlm:∀{i:Nat} {x:bj},all[i]? = some x->isL listed i->i<m:=λh1 h2=>hl _ (cN.1 h1).1 h2
 have hlook:∀t∈o.looksAt all,gt env t=gt (E j) t:=λt htl=>by
  by_cases hw:∃(i:Nat)(x:bj),all[i]? = some x/\i<m/\x.dst=some t
  ·obtain⟨i,x,e1,e2,e3⟩:=hw;by_cases hij:i<j
   ·have hpair:=oP (lI C.hdr e2 hjm aa e1 ho) e3 htl;rw[am hij]at hpair;have hli:=jd hdn C.hb j o ho hrd i hpair;rw[S.b i x t e1 hli e3,(C.gts j t aa).2 i x e1 hij e3]
   ·have hnli:¬isL listed i:=λhli=>by
     by_cases e:i=j
     ·subst e;exact hnl hli
     ·have hpair:=oP (lI C.hdr e2 hjm e e1 ho) e3 htl;rw[aj hij]at hpair;exact hnl (jd hdn C.hb i x e1 (λe' he' hb'=>hdn i x e1 hli e' he' hb') j hpair)
    rw[S.a t λi' o' h1' h2' h3'=>hnli (C.uniq (hlm h1' h2') e2 h1' e1 h3' e3▸h2')];exact ((C.gts j t aa).1 λi' o' h1' h2' h3'=>hij (C.uniq aa e2 h1' e1 h3' e3▸h2')).symm
  ·rw[S.a t λi x h1 h2 h3=>hw ⟨i,x,h1,hlm h1 h2,h3⟩];exact ((C.gts j t aa).1 λi x h1 h2 h3=>hw ⟨i,x,h1,aa,h3⟩).symm
 have hrdE:∀x∈o.op.operands,rd env x=rd (E j) x:=λx hx=>by
  cases x with
  |tmp t=>exact hlook t (jU _ (pR.2 ⟨.tmp t,by simpa using hx,rfl⟩))
  |const c|global g|func f=>rfl
 obtain⟨d,v,vc,ev,H⟩:=C.hE j o ho hjm
 have hkey:∀k,go (ap (X j) M0) k≠none->go M k≠none->go M k=go (ap (X j) M0) k:=λk h1 h2=>by
  obtain⟨x1,x2⟩:=C.xs j aa k;rw[nV]at h1⊢;by_cases hw:∃i,i<m/\k∈ba (N i)
  ·obtain⟨i,hi,hk⟩:=hw;have gone:go M0 k=none:=by obtain⟨d',v',vc',ev',H'⟩:=C.hE i _ (C.get hi) hi;exact xo H'.n0 k hk
   have one:∀i',i'<m->k∈ba (N i')->i'=i:=λi' hi' hk'=>((C.xs m (bd _) k).1 i hi hk).2 i' hi' hk';have hli:isL listed i:=wm λhn=>h2 (by rw[S.c k λi' hi' hl' hk'=>hn (one i' (hl i' hi' hl') hk'▸hl'),gone]);rw[S.d i k (fF hi C.hm) hli hk];by_cases hij:i<j
   ·rw[(x1 i hij hk).1]
    cases hg:go (N i) k with
    |none=>exact absurd hg (nH.1 hk)
    |some ob=>rfl
   ·rw[x2 λi' hi' hk'=>hij (one i' aa hk'▸hi'),gone]at h1;exact absurd rfl h1
  ·rw[x2 λi hi hk=>hw ⟨i,aa,hk⟩];simp only;exact S.c k λi hi hli hk=>hw ⟨i,hl i hi hli,hk⟩
 have agr:xH (ap (X j) M0) (E j) (bf o.op)=true->∀x∈bf o.op,agV M (ap (X j) M0) (rd (E j) x):=λhlv x hx=>by
  by_cases hxt:∃t,x=.tmp t
  ·obtain⟨t,rfl⟩:=hxt;have hrel:=hst.slots t;have e1:gt env t=gt (E j) t:=by simpa only [rd]using hrdE (.tmp t) (AK o _ hx)
   rw[e1]at hrel;exact ad6 hkey _ (DG hlv _ hx) _ hrel
  ·exact afm x λt h=>hxt ⟨t,h⟩
 have hr:evR B Φ o env M=⟨vc,v,ev,ap (N j) (dx (ba (N j)) M)⟩:=by rw[uM o hrdE];obtain⟨N',hr,hN⟩:=H.r;have hkl:=H.kl;rw[hN]at hkl⊢;exact KU H.k agr hr H.hv hkl
 have hdis:∀i,i<all.size->isL listed i->∀k,k∈ba (N i)->k∉ba (N j):=λi hi hli k h1 h2=>by have him:=hl i hi hli;have:=((C.xs m (bd _) k).1 i him h1).2 j hjm h2;subst this;exact hnl hli
 have hgone:∀k∈ba (N j),go M k=none:=λk hk=>by rw[S.c k λi hi hli h=>hdis i hi hli k h hk];exact xo H.n0 k hk
 have hng:∀t,lO (gt env t)=true:=λt=>by
  by_cases hw:∃(i:Nat)(x:bj),all[i]? = some x/\isL listed i/\x.dst=some t
  ·obtain⟨i,x,e1,e2,e3⟩:=hw;rw[S.b i x t e1 e2 e3];obtain⟨d',v',vc',ev',H'⟩:=C.hE i x e1 (hlm e1 e2);have:d'=t:=by have:=H'.dst;rw[e3]at this;exact (se this).symm
   subst this;rw[H'.he,dZ,am rfl];exact H'.gd
  ·rw[S.a t λi x h1 h2 h3=>hw ⟨i,x,h1,h2,h3⟩];exact C.h0 t
 have stab:∀t,gt (eh env ev) t=gt env t:=λt=>by rw[kV];exact Sl H.kl λk hk=>(aau (hgone k hk) (gt env t) (hng t)).1 _ (hst.slots t)
 simp only[tw,H.g,hr,je,H.dst,wr];refine⟨H.hv,λt ht=>?_,λi x t hi hli hdx=>?_,λk hk=>?_,λi k hi hli hk=>?_⟩
 ·have htd:d≠t:=λh=>ht j o ho ((hset j).2 (.inl rfl)) (by rw[H.dst,h]);rw[dZ,aj htd,stab];exact S.a t λi x hi hl'=>ht i x hi ((hset i).2 (.inr hl'))
 ·rw[dZ];by_cases hij:i=j
  ·subst hij;rw[ho]at hi;cases hi;rw[H.dst]at hdx;cases hdx;rw[am rfl,H.he,dZ,am rfl]
  ·have hli':=((hset i).1 hli).resolve_left hij;have htd:d≠t:=λh=>hij (C.uniq (hlm hi hli') hjm hi ho hdx (by rw[H.dst,h]));rw[aj htd,stab];exact S.b i x t hi hli' hdx
 ·have hkj:k∉ba (N j):=hk j hjs ((hset j).2 (.inl rfl))
  have hgn:go (N j) k=none:=by
   cases hg:go (N j) k with
   |none=>rfl
   |some ob=>exact absurd (nH.2 (by rw[hg];simp)) hkj
  rw[nV,hgn];simp only;rw[EI hkj];exact S.c k λi hi hli=>hk i hi ((hset i).2 (.inr hli))
 ·rw[nV];by_cases hij:i=j
  ·subst hij
   cases hg:go (N i) k with
   |none=>exact absurd hg (nH.1 hk)
   |some ob=>rfl
  ·have hli':=((hset i).1 hli).resolve_left hij;have hkj:=hdis i hi hli' k hk
   have hgn:go (N j) k=none:=by
    cases hg:go (N j) k with
    |none=>rfl
    |some ob=>exact absurd (nH.2 (by rw[hg];simp)) hkj
   rw[hgn];simp only;rw[EI hkj];exact S.d i k hi hli' hk
theorem Jh(h:Gr D R all ms m=true)(hm:m<=j){y:bj}(hy:all[j]? = some y):y.guard=none/\∀i,i<j->(ms.getD j 0).testBit i=true\/(i<m/\∃x,all[i]? = some x/\flt D R all x y=true):=by
 have hj:=(cN.1 hy).1;have:=gL.1 h j (by simpa using hj);rw[hy]at this;simp only[e9,ao]at this;rcases this with h1|⟨h1,h2⟩
 ·rw[pQ]at h1;omega
 ·refine⟨Qa h1,λi hi=>?_⟩;have h3:=gL.1 h2 i (by simpa using hi);simp only[e9,ao]at h3;rcases h3 with h3|⟨h3,h4⟩
  ·exact .inl h3
  ·right;rw[pQ]at h3;refine⟨h3,?_⟩
   cases hx:all[i]? with
   |none=>rw[hx]at h4;cases h4
   |some x=>rw[hx]at h4;exact⟨x,rfl,h4⟩
theorem OK{x:bj}:∀{l:bL},F6 l=true->x∈l->gQ x.op=false
 |y::l,h,hm=>by
  simp only[F6,aP,gu,ao,gU]at h
  cases hm with
  |head=>exact h.1
  |tail _ hm=>exact OK h.2 hm
theorem Ej{y:bj}(h:flt D R all x y=true):x.guard=none/\(Ge D x.op=true/\(R=true->gQ x.op=true->B7 y=true\/Ca y=true))/\∃t,x.dst=some t/\t∉y.looksAt all/\∀u,y.dst=some u->u≠t/\u∉x.looksAt all:=by
 unfold flt at h;simp only[aP,ao]at h;obtain⟨h1,⟨h2,h2'⟩,h3⟩:=h;refine⟨Qa h1,⟨h2,λhR hk=>?_⟩,?_⟩
 ·rw[hR]at h2';simp only[eX,gu,wq,yY,e9]at h2';rcases h2' with h|h|h
  ·exfalso;unfold yy at h;unfold gQ at hk;split at h
   ·rename_i ho;rw[ho]at hk;simp[iH,mb,kE]at hk
   ·rename_i ho;rw[ho]at hk;simp[iH,mb,kE]at hk
   ·rename_i ho;rw[ho]at hk;simp[iH,mb,kE]at hk
   ·cases h
  ·exact .inl h
  ·exact .inr h
 cases hd:x.dst with
 |none=>rw[hd]at h3;cases h3
 |some t=>
  rw[hd]at h3;simp only[aP,ao,gu,gU]at h3;refine⟨t,rfl,λht=>?_,λu hu=>?_⟩
  ·have:(mT all y).contains t=true:=by simpa[mT]using ht
   rw[h3.1]at this;cases this
  ·rw[hu]at h3;have h4:=h3.2;simp only[ao,gU]at h4;refine⟨λe=>?_,λht=>?_⟩
   ·subst e;rw[uj]at h4;exact absurd h4.1 ak
   ·have:(mT all x).contains u=true:=by simpa[mT]using ht
    rw[h4.2]at this;cases this
theorem O9(h:gx all.size ms m i=true):∃j,m<=j/\j<all.size/\(ms.getD j 0).testBit i=false:=by
 obtain⟨j,h1,h2⟩:=List.any_eq_true.1 h;simp only[ao,gU]at h2;refine⟨j,?_,by simpa using h1,h2.2⟩;rcases jx j m with h|h
 ·have hb:Nat.blt j m=true:=by rw[pQ];exact h
  rw[hb]at h2;exact absurd h2.1 ak
 ·exact h
theorem A_(h:gx all.size ms m i=false)(hj:j<all.size)(hm:m<=j):(ms.getD j 0).testBit i=true:=by
 cases ht:(ms.getD j 0).testBit i with
 |true=>rfl
 |false=>
  have:gx all.size ms m i=true:=List.any_eq_true.2 ⟨j,by simpa using hj,by
   simp only[ao,gU];refine⟨?_,ht⟩
   cases hb:Nat.blt j m with
   |false=>rfl
   |true=>rw[pQ]at hb;omega⟩
  rw[h]at this;cases this
theorem OB(h:Gn all ms m=true)(hi:i<m)(hj:j<m)(hne:i<=j)(fi:gx all.size ms m i=true)(fj:gx all.size ms m j=true){y:bj}(hx:all[i]? = some x)(hy:all[j]? = some y)(hu:y.dst=some u):u∉x.looksAt all:=by
 have h1:=gL.1 h i (by simpa using hi);rw[fi]at h1;simp only[wq,yY]at h1;have h2:=gL.1 h1 j (by simpa using hj);rw[fj,hx,hy]at h2;simp only[wq,Bool.or_false,e9,hu,gU]at h2;rcases h2 with h2|h2
 ·rw[pQ]at h2;omega
 ·intro ht;have:(mT all x).contains u=true:=by simpa[mT]using ht
  rw[h2]at this;cases this
structure Bsta (B:Tab) (Φ:du) (ks as:aZ) (all:fK) (m c:Nat) (listed:eQ) (env Ec:Env) (M:Mem):Prop where
 h:∀i,i<m->isL listed i\/gx all.size (cL [] all.toList) m i=true/\∃x t,all[i]? = some x/\x.guard=none/\x.dst=some t/\FlI B Φ ks as x Ec M (gt Ec t)
 a:∀t,(∀(i:Nat)(x:bj),i<m->all[i]? = some x->¬isL listed i->x.dst≠some t)->gt env t=gt Ec t
theorem IQ(l:gj)(n:Nat):tH (l.drop n)=l.getD n false:=by
 induction l generalizing n with
 |nil=>simp[tH]
 |cons a l ih=>cases n with
  |zero=>rfl
  |succ n=>simpa using ih n
theorem Zj(l:gj)(n:Nat):qW (l.drop n)=l.drop (n+1):=by
 induction l generalizing n with
 |nil=>simp[qW]
 |cons a l ih=>cases n with
  |zero=>rfl
  |succ n=>simpa using ih n
theorem f_{l:bL}(hm:m<=j)(hj:j<l.length)(hi:i<m)(hb:((cL [] l).getD j 0).testBit i=false):(lV l m).getD (j-m) false=true:=by unfold lV;have hl:len l=l.length:=oX l;rw[br,gJ,n6 (by rw[hl];show j-m<l.length-m;omega)];simp only[fq,gA,List.any_eq_true,C7];refine⟨i,hi,?_⟩;rw[show Nat.add m (j-m)=j from by show m+(j-m)=j;omega,hb];rfl
theorem DI:∀{a b:bz},By a b=true->a=b
 |[],[],_=>rfl
 |.l::a,.l::b,h|.r::a,.r::b,h|.de::a,.de::b,h=>by rw[DI (a:=a) (b:=b) h]
 |.ix i::a,.ix j::b,h=>by simp only[By,aP,ao]at h;rw[cR h.1,DI h.2]
 |[],_::_,h|.l::_,[],h|.r::_,[],h|.de::_,[],h|.ix _::_,[],h|.l::_,.r::_,h|.l::_,.de::_,h|.l::_,.ix _::_,h|.r::_,.l::_,h|.r::_,.de::_,h|.r::_,.ix _::_,h|.de::_,.l::_,h|.de::_,.r::_,h|.de::_,.ix _::_,h|.ix _::_,.l::_,h|.ix _::_,.r::_,h|.ix _::_,.de::_,h=>by cases h
theorem abr{a b:V}(h:LC a b=true):a=b:=by
 cases a<;>cases b<;>simp only[LC,d4]at h
 ·simp only[aP,ao]at h;rw[cR h.1,DI h.2]
 ·simp only[aP,ao]at h;rw[cR h.1,DI h.2]
theorem JW{ks:aZ}{x:bj}{env:Env}{M:Mem}:∀{ls:bL},stB B Φ ks ls env M=true->x∈ls->∃d v M2,x.dst=some d/\evR B Φ x env M=⟨[],v,[],M2⟩/\v=gt env d/\p8 M x.op env=true/\jj ks env (bf x.op)=true/\ksV ks v=true
 |[],_,h=>by cases h
 |o::r,h,hx=>by
  simp only[stB]at h;split at h
  ·rename_i d v M2 h1 h2;simp only[aP,ao]at h;rcases cz.1 hx with rfl|hx
   ·exact⟨d,v,M2,h1,h2,abr h.2.1,h.1.1,h.1.2.1,h.1.2.2⟩
   ·exact JW h.2.2 hx
  ·cases h
theorem OV:∀(bs:gj)(l:bL)(i:Nat)(x:bj),bs.getD i false=true->l[i]? = some x->gQ x.op=true->x∈yd bs l
 |[],_,_,_,h,_,_|_::_,[],_,_,_,h,_=>by simp at h
 |b::bs,o::r,0,x,hb,hx,hk=>by simp only[iz,aI]at hx;subst hx;simp only[wx]at hb;subst hb;simp only[yd,hk,aP,n5,aD];exact gk
 |b::bs,o::r,i+1,x,hb,hx,hk=>by
  have:=OV bs r i x (by simpa using hb) (by simpa using hx) hk;simp only[yd]
  cases nob b (gQ o.op)with
  |true=>exact fp _ this
  |false=>exact this
theorem Jo(hm:m<=j)(hj:j<all.size)(hi:i<m)(hx:all[i]? = some x)(hb:((cL [] all.toList).getD j 0).testBit i=false)(hk:gQ x.op=true):x∈(lZ all.toList m).getD (j-m) []:=by
 unfold lZ;have hl:len all.toList=all.size:=by rw[oX];rfl
 rw[br,gJ,n6 (by rw[hl];show j-m<all.size-m;omega)];simp only[fq,gA];refine OV _ _ i x ?_ ?_ hk
 ·rw[br,gJ,n6 hi];simp only[fq,gA];rw[show Nat.add m (j-m)=j from by show m+(j-m)=j;omega,hb];rfl
 ·rw[AE,wj hi,zb];exact hx
theorem JI(l:List (List Oper))(n:Nat):hdP (l.drop n)=l.getD n []:=by
 induction l generalizing n with
 |nil=>simp[hdP]
 |cons a l ih=>cases n with
  |zero=>rfl
  |succ n=>simpa using ih n
theorem aam(l:List (List Oper))(n:Nat):tlP (l.drop n)=l.drop (n+1):=by
 induction l generalizing n with
 |nil=>simp[tlP]
 |cons a l ih=>cases n with
  |zero=>rfl
  |succ n=>simpa using ih n
theorem aci{x:V}{r:Rs}(h:pz τ M d x=some r)(h1:r.vc=[])(h2:r.ev=[]):False:=by cases h
theorem ad3{x:V}(h1:(kR τ M d x).vc=[])(h2:(kR τ M d x).ev=[]):(kR τ M d x).M=M:=by
 unfold kR at h1 h2⊢
 cases hr:pz τ M d x with
 |some r=>simp only[hr]at h1 h2;exact (aci hr h1 h2).elim
 |none=>rfl
theorem aeh{x:dJ}(h:(kx B t d ρ x lo hi M).ev=[]):(kx B t d ρ x lo hi M).M=M:=by generalize hq:kx B t d ρ x lo hi M=q at h;obtain⟨a1,a2,a3,a4⟩:=q;simp only at h⊢;subst h;exact (Sy hq rfl).2
theorem T3(hk:gQ x.op=true)(h:evR B Φ x env M=⟨[],v,[],M2⟩):M2=M:=by
 obtain⟨dst,op,ty',pos,after,guard⟩:=x;have h1:(evR B Φ ⟨dst,op,ty',pos,after,guard⟩ env M).vc=[]:=by rw[h]
 have h3:(evR B Φ ⟨dst,op,ty',pos,after,guard⟩ env M).ev=[]:=by rw[h]
 have h4:(evR B Φ ⟨dst,op,ty',pos,after,guard⟩ env M).M=M2:=by rw[h]
 rcases Classical.em (∃c,op=.call c)with⟨c,rfl⟩|hcc
 ·have hb:kE (.call c)=true:=by simpa[gQ,iH,mb]using hk
  exact (So hb h).2
 rw[←h4];clear h h4;unfold gQ at hk;cases op<;>simp only[iH,mb,eX,Bool.or_false,zg,aP,gu,ao,gU,d4,false_and]at hk
 case call c=>exact absurd ⟨c,rfl⟩ hcc
 case slice t x lo hi mx=>
  cases mx with
  |some _=>simp[kE]at hk
  |none=>exact aeh h3
 all_goals simp only[kE,eX,Bool.or_false,zg,aP,gu,ao,gU,d4,false_and]at hk
 case load t y=>exact ad3 (τ:=B.τ _) (d:=dst) (Kp h1).2 h3
 case build t ps=>exact S3.2
 all_goals first|rfl|exact absurd hk ak
theorem aa3(hΦ:iv P F Φ)(hB:TabOk P B)(Q:gi)(K:Env->Mem->Prop)(hQ:∀p env M a w,St F p env M a w->K env M->Q .normal a w)(hb:kv 0 all.toList=true)(ht:Gr D R all (cL [] all.toList) m=true)(hR:R=false->ks=[])(hff:Gn all (cL [] all.toList) m=true)(huq:∀(i j:Nat)(x y:bj)(t:Nat),i<m->j<m->all[i]? = some x->all[j]? = some y->x.dst=some t->y.dst=some t->i=j)(hdr:tA all (cL [] all.toList) m=true)(hco:eM F.nt all.toList=true)(hfv:∀o∈all.toList,∀k,o.dst=some k->F.fv k=none):
  ∀(fuel:Nat)(listed:eQ)(c:Nat)(p:Ow)(env Ec:Env)(M:Mem)(a:Act)(w:aQ),listed.size=all.size->(∀i,m<=i->i<all.size->(isL listed i<->i<c))->m<=c->unl listed all.size<=fuel->mc all listed->Bsta B Φ ks as all m c listed env Ec M->lw ks as B Φ ((lZ all.toList m).drop (c-m)) ((lV all.toList m).drop (c-m)) (all.toList.drop c) Ec M=true->
   St F p env M a w->tw B Φ (toL all) (all.toList.drop c) Ec M K->wpAny P .any all Q fuel listed a w:=by
 intro fuel
 have done:∀(listed:eQ)(c:Nat)(p:Ow)(env Ec:Env)(M:Mem)(a:Act)(w:aQ),listed.size=all.size->(∀i,m<=i->i<all.size->(isL listed i<->i<c))->m<=c->Region.ready .any all listed=[]->Bsta B Φ ks as all m c listed env Ec M->St F p env M a w->tw B Φ (toL all) (all.toList.drop c) Ec M K->Q .normal a w:=by
  intro listed c p env Ec M a w hs hl hmc hr S hst hk;have hall:=Az hs hb hr
  have hc:all.toList.length<=c:=by
   rcases jx c all.size with h|h
   ·have:=(hl c hmc h).1 (hall c h);omega
   ·simpa using h
  rw[C5 hc]at hk;simp only[tw]at hk;exact hQ p Ec M a w (hst.weak λt=>.inr (S.a t λi x h1 h2 h3=>absurd (hall i (cN.1 h2).1) h3).symm) hk
 have noready:∀(listed:eQ),listed.size=all.size->unl listed all.size=0->Region.ready .any all listed=[]:=by
  intro listed hs hu
  cases hr:Region.ready .any all listed with
  |nil=>rfl
  |cons i r=>obtain⟨o,h1,h2,_⟩:=qC (j:=i) (by rw[hr];simp);have hi:=(cN.1 h1).1;have:=xj hu i hi;unfold isL at this;simp[hs,hi]at this h2;rw[this]at h2;cases h2
 induction fuel with
 |zero=>intro listed c p env Ec M a w hs hl hm hu _ S hck hst hk;have hr:=noready listed hs aa;exact⟨hr,done listed c p env Ec M a w hs hl hm hr S hst hk⟩
 |succ fuel ih=>
  intro listed c p env Ec M a w hs hl hm hu hdn S hck hst hk;refine⟨λhr=>done listed c p env Ec M a w hs hl hm hr S hst hk,λj hj=>?_⟩;obtain⟨o,h1,h2,h3⟩:=qC hj;have hjs:=(cN.1 h1).1;have hnl:¬isL listed j:=by unfold isL;simp[hs,hjs]at h2⊢;exact h2
  have hmem:o∈all.toList:=by rw[jS];exact sd h1
  have hset:∀i,isL (listed.setIfInBounds j true) i<->i=j\/isL listed i:=λi=>EG (by rw[hs];exact hjs);have hul:=xz (by rw[hs];exact hjs) hnl all.size hjs;by_cases hjm:j<m
  ·rcases S.h j hjm with h|⟨fj,x,t,e1,e2,e3,e4⟩
   ·exact absurd h hnl
   rw[h1]at e1;cases e1
   have hop:∀q∈o.op.operands,rd env q=rd Ec q:=λq hq=>by
    cases q with
    |tmp t0=>
     have hlk:t0∈o.looksAt all:=jU _ (pR.2 ⟨.tmp t0,by simpa using hq,rfl⟩);refine S.a t0 λi x hi hx hn hd=>?_;rcases S.h i hi with h|⟨fi,_⟩
     ·exact hn h
     rcases jx i j with hij|hij
     ·have hpair:=oP (lI hdr hi hjm aa hx h1) hd hlk;rw[am hij]at hpair;exact hn (jd hdn hb j o h1 h3 i hpair)
     ·exact OB hff hjm hi hij fj fi h1 hx hd hlk
    |const c|global g|func f=>rfl
   obtain⟨vc,hvc,hr0⟩:=e4.run (M:=M);have hr:evR B Φ o env M=⟨vc,gt Ec t,[],M⟩:=by rw[uM o hop];exact hr0
   refine wi (λa' w' ⟨p',env',M',q1,q2,q3⟩=>?_) (Bc (rest:=[]) (K:=λenv' M'=>env'=(t,gt Ec t)::env/\M'=M) hΦ hB hst (by simp only[tw,e2,hr,e3,je,wr,eh];exact⟨hvc,trivial,trivial⟩) (qE hco hmem) (hfv o hmem) h1 Q);subst q2;subst q3;refine ih _ c p' _ Ec _ a' w' (by simpa using hs) (λi hi his=>?_) hm aa (hdn.set hj) ⟨λi hi=>?_,λt' ht'=>?_⟩ hck q1 hk
   ·rw[hset];exact⟨λh=>h.elim (λh=>aa) (hl i hi his).1,λh=>.inr ((hl i hi his).2 h)⟩
   ·rcases S.h i hi with h|h
    ·exact .inl ((hset i).2 (.inr h))
    ·exact .inr h
   ·rw[dZ];by_cases htt:t=t'
    ·subst htt;rw[am rfl]
    ·rw[aj htt];refine S.a t' λi x hi hx hn hd=>?_;by_cases hij:i=j
     ·subst hij;rw[h1]at hx;cases hx;rw[e3]at hd;cases hd;exact htt rfl
     ·exact ht' i x hi hx (λh=>((hset i).1 h).elim hij hn) hd
  ·have hmj:m<=j:=aa
   obtain⟨hg,hsp⟩:=Jh ht hmj h1
   have hcj:c<=j:=by
    rcases jx j c with h|h
    ·exact absurd ((hl j hmj hjs).2 h) hnl
    ·exact h
   have hjc:j=c:=by
    rcases jx c j with h|h
    ·rcases hsp c h with hb1|⟨hb1,_⟩
     ·have:=jd hdn hb j o h1 h3 c hb1;have:=(hl c hm aa).1 this;omega
     ·omega
    ·omega
   subst hjc
   have y6:∀{i:Nat},i<m->¬isL listed i->∃x,all[i]? = some x/\flt D R all x o=true:=λ{i} hi hn=>by
    rcases hsp i aa with hb1|⟨_,h⟩
    ·exact absurd (jd hdn hb j o h1 h3 i hb1) hn
    ·exact h
   have hdrop:all.toList.drop j=o::all.toList.drop (j+1):=by rw[zf (by simpa using hjs)];congr 1;have:=(cN.1 h1).2;simpa using this
   rw[hdrop]at hk hck;have hlook:∀t∈o.looksAt all,gt env t=gt Ec t:=λt htl=>S.a t λi x hi hx hn hd=>by obtain⟨x',hx',hf⟩:=y6 hi hn;rw[hx]at hx';cases hx';obtain⟨_,_,t',ht',hnot,_⟩:=Ej hf;rw[hd]at ht';cases ht';exact hnot htl
   have hrdE:∀x∈o.op.operands,rd env x=rd Ec x:=λx hx=>by
    cases x with
    |tmp t=>exact hlook t (jU _ (pR.2 ⟨.tmp t,by simpa using hx,rfl⟩))
    |const c|global g|func f=>rfl
   have hev:evR B Φ o env M=evR B Φ o Ec M:=uM o hrdE;simp only[tw,hg]at hk;generalize hq:evR B Φ o Ec M=q at hk;obtain⟨vc,v,e,M1⟩:=q;simp only[je]at hk;simp only[lw,hq,aP,ao,eX,e9,gu,gU,IQ,Zj,JI,aam]at hck;rw[show j-m+1=j+1-m from by omega]at hck;refine wi (λa' w' ⟨p',env',M',q1,q2,q3⟩=>?_) (Bc (rest:=[]) (K:=λenv' M'=>env'=wr o.dst v (eh env e)/\M'=M1) hΦ hB hst (by simp only[tw,hg,hev,hq,je];exact⟨hk.1,trivial,trivial⟩) (qE hco hmem) (hfv o hmem) h1 Q);subst q2;subst q3;refine ih _ (j+1) p' _ (wr o.dst v (eh Ec e)) _ a' w' (by simpa using hs) (λi hi his=>?_) aa aa (hdn.set hj) ⟨λi hi=>?_,λt' ht'=>?_⟩ hck.2 q1 hk.2
   ·rw[hset,hl i hi his];omega
   ·rcases S.h i hi with h|⟨f0,x,t1,f1,f2,f3,f4⟩
    ·exact .inl ((hset i).2 (.inr h))
    ·by_cases hn:isL listed i
     ·exact .inl ((hset i).2 (.inr hn))
     obtain⟨x',hx',hf⟩:=y6 hi hn;rw[f1]at hx';cases hx';obtain⟨_,⟨_,hcv⟩,t',ht',_,hu⟩:=Ej hf;rw[f3]at ht';cases ht'
     have hflag:tH ((lV all.toList m).drop (j-m))=true:=by
      have hbit:((cL [] all.toList).getD j 0).testBit i=false:=by
       cases hb1:((cL [] all.toList).getD j 0).testBit i with
       |false=>rfl
       |true=>exact absurd (jd hdn hb j o h1 h3 i hb1) hn
      rw[IQ];exact f_ hmj (by simpa using hjs) hi hbit
     rw[IQ]at hflag
     have hbit:((cL [] all.toList).getD j 0).testBit i=false:=by
      cases hb1:((cL [] all.toList).getD j 0).testBit i with
      |false=>rfl
      |true=>exact absurd (jd hdn hb j o h1 h3 i hb1) hn
     have hdo:gQ x.op=true->(bD ks e=true/\AgM ks M' M)\/(p8 M' x.op (wr o.dst v (eh Ec e))=true/\jj ks (wr o.dst v (eh Ec e)) (bf x.op)=true/\ksV ks ((gt Ec t1).evs e)=true/\evR B Φ x (wr o.dst v (eh Ec e)) M'=⟨[],(gt Ec t1).evs e,[],M'⟩):=λhdk=>by
      have hk2:=hck.1.1.2.resolve_left (by rw[hflag];simp)
      cases hRR:R with
      |false=>rw[hR hRR];exact .inl ⟨ED e,λk hk=>by cases hk⟩
      |true=>
       have fin:stB B Φ ks (hdP ((lZ all.toList m).drop (j-m))) (wr o.dst v (eh Ec e)) M'=true->(bD ks e=true/\AgM ks M' M)\/(p8 M' x.op (wr o.dst v (eh Ec e))=true/\jj ks (wr o.dst v (eh Ec e)) (bf x.op)=true/\ksV ks ((gt Ec t1).evs e)=true/\evR B Φ x (wr o.dst v (eh Ec e)) M'=⟨[],(gt Ec t1).evs e,[],M'⟩):=λh=>by
        obtain⟨d2,v2,M2,s1,s2,s3,s5,s6,s7⟩:=JW h (by rw[JI];exact Jo hmj (by simpa using hjs) hi f1 hbit hdk);rw[f3]at s1;cases s1;have s4:=T3 hdk s2;subst s4;have e2:v2=(gt Ec t1).evs e:=by rw[s3,pj,aj (λh=>(hu t1 h).1 rfl),kV]
        rw[e2]at s7 s2;exact .inr ⟨s5,s6,s7,s2⟩
       rcases hcv hRR hdk with hcall|hstr;rotate_left
       ·rcases hck.1.2 with h|h|h|h|h
        ·rw[hstr]at h;cases h
        ·have:ks=[]:=by
          revert h
          cases ks with
          |nil=>intro _;rfl
          |cons _ _=>intro h;cases h
         rw[this];exact .inl ⟨ED e,λk hk=>by cases hk⟩
        ·exfalso;have hin:=Jo hmj (by simpa using hjs) hi f1 hbit hdk;have:=OK h hin;rw[hdk]at this;cases this
        ·exact .inl ⟨h,ZK hstr hq hk.1 h⟩
        ·exact fin (by rw[JI];exact h)
       rcases hk2 with h|h|h|h
       ·have:ks=[]:=by
         revert h
         cases ks with
         |nil=>intro _;rfl
         |cons _ _=>intro h;cases h
        rw[this];exact .inl ⟨ED e,λk hk=>by cases hk⟩
       ·rw[hcall]at h;cases h
       ·exact .inl ⟨h,Zz hcall hq hk.1 h⟩
       ·obtain⟨d2,v2,M2,s1,s2,s3,s5,s6,s7⟩:=JW h (Jo hmj (by simpa using hjs) hi f1 hbit hdk);rw[f3]at s1;cases s1;have s4:=T3 hdk s2;subst s4;have e2:v2=(gt Ec t1).evs e:=by rw[s3,pj,aj (λh=>(hu t1 h).1 rfl),kV]
        rw[e2]at s7 s2;exact .inr ⟨s5,s6,s7,s2⟩
     refine .inr ⟨f0,x,t1,f1,f2,f3,?_⟩;have e1:gt (wr o.dst v (eh Ec e)) t1=(gt Ec t1).evs e:=by rw[pj,aj (λh=>(hu t1 h).1 rfl),kV]
     rw[e1];refine f4.look hck.1.1.1 hdo λt0 g1=>?_;have hlk:t0∈x.looksAt all:=jU _ (pR.2 ⟨.tmp t0,by simpa using g1,rfl⟩);rw[pj,aj (λh=>(hu t0 h).2 hlk),kV]
   ·rw[pj,pj];split
    ·rfl
    ·rw[kV,kV,S.a t' λi x hi hx hn hd=>ht' i x hi hx (λh=>((hset i).1 h).elim (λh=>aa) hn) hd]
theorem Hctx.nogd(C:Hctx D R Ds ks as B Φ all m E X N M0)(hj:j<=m)(t:Nat):gf (gt (E j) t)=false:=by
 have key:lO (gt (E j) t)=true:=by
  by_cases hw:∃(i:Nat)(x:bj),all[i]? = some x/\i<j/\x.dst=some t
  ·obtain⟨i,x,e1,e2,e3⟩:=hw;rw[(C.gts j t hj).2 i x e1 e2 e3];obtain⟨d',v',vc',ev',H'⟩:=C.hE i x e1 aa;have:d'=t:=by have:=H'.dst;rw[e3]at this;exact (se this).symm
   subst this;rw[H'.he,dZ,am rfl];exact H'.gd
  ·rw[(C.gts j t hj).1 λi o h1 h2 h3=>hw ⟨i,o,h1,h2,h3⟩];exact C.h0 t
 cases hv:gt (E j) t with
 |gd _ _ _ _=>rw[hv]at key;cases key
 |_=>rfl
theorem Hctx.grow(C:Hctx D R Ds ks as B Φ all m E X N M0)(hi:i<=m)(hg:go (ap (X i) M0) k≠none):go (ap (X m) M0) k=go (ap (X i) M0) k:=by
 have step:∀j,j<m->go (ap (X j) M0) k≠none->go (ap (X (j+1)) M0) k=go (ap (X j) M0) k:=λj hj hg=>by
  obtain⟨d,v,vc,ev,H⟩:=C.hE j _ (C.get hj) hj;have hn:k∉ba (N j):=λhm=>by have h1:=xo H.n0 k hm;have h2:=xo H.nX k hm;rw[nV,h2]at hg;exact hg h1
  have hN:go (N j) k=none:=sf λe=>hn (nH.2 e);rw[H.x,nV,nV,nV,hN]
 have key:∀n,i+n<=m->go (ap (X (i+n)) M0) k=go (ap (X i) M0) k:=λn=>by
  induction n with
  |zero=>intro _;rfl
  |succ n ih=>intro hn;have h1:=ih aa;rw[←rV,step (i+n) aa (by rw[h1];exact hg),h1]
 have:=key (m-i) aa
 rwa [show i+(m-i)=m by omega]at this
theorem Hctx.turn(C:Hctx D R Ds ks as B Φ all m E X N M0)(hl:∀i,i<all.size->isL listed i->i<m)(hdn:mc all listed)(S:Hsta all m E N M0 listed env M)(hall:∀i,i<m->gx all.size (cL [] all.toList) m i=false->isL listed i):
  Bsta B Φ ks as all m m listed env (E m) (ap (X m) M0):=by
 have hlm:∀{i:Nat} {x:bj},all[i]? = some x->isL listed i->i<m:=λh1 h2=>hl _ (cN.1 h1).1 h2;refine⟨λi hi=>?_,λt ht=>?_⟩
 ·by_cases hn:isL listed i
  ·exact .inl hn
  right
  have fi:gx all.size (cL [] all.toList) m i=true:=by
   cases h:gx all.size (cL [] all.toList) m i with
   |true=>rfl
   |false=>exact absurd (hall i hi h) hn
  refine⟨fi,?_⟩;obtain⟨j,hj1,hj2,hj3⟩:=O9 fi;obtain⟨_,hsp⟩:=Jh C.ht hj1 (sb hj2);rcases hsp i aa with h|⟨_,x,hx,hf⟩
  ·rw[hj3]at h;cases h
  obtain⟨g1,g2,t,g3,_,_⟩:=Ej hf;obtain⟨d,v,vc,ev,H⟩:=C.hE i x hx hi;have hd:d=t:=by have:=H.dst;rw[g3]at this;exact (se this).symm
  subst hd;obtain⟨N',hr,hN⟩:=H.r
  have hF:FlI B Φ ks as x (E i) (ap (X m) M0) v:=by
   rw[Ge,eX,e9]at g2;rcases g2.1 with g2|g2
   ·exact FlI.of (B:=B) (Φ:=Φ) g2 (λt=>C.nogd aa t) hr H.hv
   ·simp only[aP,ao]at g2;rcases H.dt (C.hD g2.1 i hi fi) g2.2 with hbx|⟨q1,q2⟩
    ·have h4:∃t t0 k,x.op=.load t (.tmp t0)/\gt (E i) t0=.bx (.ad k [.de])/\inN k as=true/\FP (B.τ t)=true:=by
      unfold bxK at hbx;split at hbx
      ·rename_i t t0 ho;split at hbx
       ·rename_i k π hg;simp only[bH,bJ,bC,ao]at hbx;exact⟨t,t0,k,ho,by rw[hg,xw hbx.1],hbx.2.1,hbx.2.2⟩
       ·cases hbx
      ·cases hbx
     obtain⟨t,t0,k,ho,hg,hk,hb⟩:=h4;obtain⟨vc',_,hrun⟩:=FlI.run (M:=ap (X i) M0) (B:=B) (Φ:=Φ) (ks:=ks) (as:=as) (x:=x) (env:=E i) (y:=.ad k [.de]) (.inr (.inr (.inr ⟨t,t0,k,ho,hg,rfl,hk,hb⟩)));rw[hr]at hrun;simp only[Rs.mk.injEq]at hrun;exact .inr (.inr (.inr ⟨t,t0,k,ho,hg,hrun.2.1,hk,hb⟩))
    have hkl:=H.kl;rw[hN]at hkl;have hev:ev=[]:=RC g2.2 hr hkl;subst hev;refine .inr (.inr (.inl ⟨g2.2,q1,q2,vc,H.hv,λM' hM=>?_⟩));rw[KU (M:=M') H.k (λhlv q hq=>Bd (ks:=ks) (λk hk hg=>(hM k hk).trans (C.grow aa hg)) _ (DR q1 _ hq) (DG hlv _ hq)) hr H.hv hkl];rfl
  refine⟨x,d,hx,g1,g3,?_⟩;have hv:gt (E m) d=v:=by rw[(C.gts m d (bd _)).2 i x hx hi g3,H.he,dZ,am rfl]
  rw[hv];refine hF.same λt0 k1=>?_;have hlk:t0∈x.looksAt all:=jU _ (pR.2 ⟨.tmp t0,by simpa using k1,rfl⟩);by_cases hw:∃(i':Nat)(x':bj),all[i']? = some x'/\i'<m/\x'.dst=some t0
  ·obtain⟨i',x',e1,e2,e3⟩:=hw;by_cases hii:i'<i
   ·rw[(C.gts m t0 (bd _)).2 i' x' e1 e2 e3,(C.gts i t0 aa).2 i' x' e1 hii e3]
   ·exfalso
    have fi':gx all.size (cL [] all.toList) m i'=true:=by
     cases h:gx all.size (cL [] all.toList) m i' with
     |true=>rfl
     |false=>
      exfalso;have hli:=hall i' e2 h;by_cases e:i'=i
      ·subst e;exact hn hli
      ·have hpair:=oP (lI C.hdr e2 hi e e1 hx) e3 hlk;rw[aj hii]at hpair;exact hn (jd hdn C.hb i' x' e1 (λe' he' hb'=>hdn i' x' e1 hli e' he' hb') i hpair)
    exact OB C.hf hi e2 aa fi fi' hx e1 e3 hlk
  ·rw[(C.gts m t0 (bd _)).1 λi x h1 h2 h3=>hw ⟨i,x,h1,h2,h3⟩,(C.gts i t0 aa).1 λi x h1 h2 h3=>hw ⟨i,x,h1,aa,h3⟩]
 ·obtain⟨g1,g2⟩:=C.gts m t (bd _);by_cases hw:∃(i:Nat)(x:bj),all[i]? = some x/\i<m/\x.dst=some t
  ·obtain⟨i,x,e1,e2,e3⟩:=hw;have hli:isL listed i:=wm λhn=>ht i x e2 e1 hn e3;rw[g2 i x e1 e2 e3,S.b i x t e1 hli e3]
  ·rw[g1 λi o h1 h2 h3=>hw ⟨i,o,h1,h2,h3⟩,S.a t λi o h1 h2 h3=>hw ⟨i,o,h1,hlm h1 h2,h3⟩]
theorem Hctx.flN(C:Hctx D R Ds ks as B Φ all m E X N M0)(hi:i<m)(fi:gx all.size (cL [] all.toList) m i=true):ba (N i)=[]:=by
 obtain⟨j,hj1,hj2,hj3⟩:=O9 fi;obtain⟨_,hsp⟩:=Jh C.ht hj1 (sb hj2);rcases hsp i aa with h|⟨_,x,hx,hf⟩
 ·rw[hj3]at h;cases h
 obtain⟨_,g2,_⟩:=Ej hf;obtain⟨d,v,vc,ev,H⟩:=C.hE i x hx hi;obtain⟨N',hr,hN⟩:=H.r
 have he:ev=[]:=by
  rw[Ge,eX,e9]at g2;rcases g2.1 with g2|g2
  ·unfold yy at g2;split at g2
   ·rename_i ho;simp only[evR,ho,bI,bR,Rs.mk.injEq]at hr;exact hr.2.2.1.symm
   ·rename_i ho;simp only[evR,ho,bI,bR,Rs.mk.injEq]at hr;exact hr.2.2.1.symm
   ·rename_i ho;simp only[evR,ho,bI,bR,Rs.mk.injEq]at hr;exact hr.2.2.1.symm
   ·cases g2
  ·simp only[aP,ao]at g2;have hkl:=H.kl;rw[hN]at hkl;exact RC g2.2 hr hkl
 rw[hN,he];rfl
theorem Hctx.fin(C:Hctx D R Ds ks as B Φ all m E X N M0)(hl:∀i,i<all.size->isL listed i->i<m)(S:Hsta all m E N M0 listed env M)(hall:∀i,i<m->gx all.size (cL [] all.toList) m i=false->isL listed i):
  ∀k,go (ap (X m) M0) k=go M k:=by
 have hm:=C.hm;intro k;rw[nV];obtain⟨x1,x2⟩:=C.xs m (bd _) k;by_cases hw:∃i,i<m/\k∈ba (N i)
 ·obtain⟨i,h1,h2⟩:=hw
  have hli:isL listed i:=by
   cases h:gx all.size (cL [] all.toList) m i with
   |false=>exact hall i h1 h
   |true=>rw[C.flN h1 h]at h2;cases h2
  rw[(x1 i h1 h2).1,S.d i k aa hli h2]
  cases hg:go (N i) k with
  |none=>exact absurd hg (nH.1 h2)
  |some ob=>rfl
 ·rw[x2 λi h1 h2=>hw ⟨i,h1,h2⟩];simp only;exact (S.c k λi hi hli h2=>hw ⟨i,hl i hi hli,h2⟩).symm
theorem Hctx.any(hΦ:iv P F Φ)(hB:TabOk P B)(C:Hctx D R Ds ks as B Φ all m E X N M0)(Q:gi)(K:Env->Mem->Prop)(hQ:∀p env M a w,St F p env M a w->K env M->Q .normal a w)(hco:eM F.nt all.toList=true)(hfv:∀o∈all.toList,∀k,o.dst=some k->F.fv k=none)(hlast:tw B Φ (toL all) (all.toList.drop m) (E m) (ap (X m) M0) K)(hck:lw ks as B Φ (lZ all.toList m) (lV all.toList m) (all.toList.drop m) (E m) (ap (X m) M0)=true):
  ∀(fuel:Nat)(listed:eQ)(p:Ow)(env:Env)(M:Mem)(a:Act)(w:aQ),listed.size=all.size->(∀i,i<all.size->isL listed i->i<m)->unl listed all.size<=fuel->mc all listed->Hsta all m E N M0 listed env M->St F p env M a w->wpAny P .any all Q fuel listed a w:=by
 have hm:=C.hm;have huq:∀(i j:Nat)(x y:bj)(t:Nat),i<m->j<m->all[i]? = some x->all[j]? = some y->x.dst=some t->y.dst=some t->i=j:=λi j x y t hi hj hx hy h1 h2=>C.uniq hi hj hx hy h1 h2;have last:∀(fuel:Nat)(listed:eQ)(p:Ow)(env:Env)(M:Mem)(a:Act)(w:aQ),listed.size=all.size->(∀i,i<all.size->isL listed i->i<m)->unl listed all.size<=fuel->mc all listed->Hsta all m E N M0 listed env M->St F p env M a w->(∀i,i<m->gx all.size (cL [] all.toList) m i=false->isL listed i)->wpAny P .any all Q fuel listed a w:=by intro fuel listed p env M a w hs hl hu hdn S hst hall;exact aa3 hΦ hB Q K hQ C.hb C.ht C.hR C.hf huq C.hdr hco hfv fuel listed m p env (E m) (ap (X m) M0) a w hs (λi hi his=>⟨λh=>hl i his h,λh=>absurd h aa⟩) (bd _) hu hdn (C.turn hl hdn S hall) (by rw[ut];exact hck) (hst.same (C.fin hl S hall) λ_=>rfl) hlast
 intro fuel
 induction fuel with
 |zero=>intro listed p env M a w hs hl hu hdn S hst;exact last 0 listed p env M a w hs hl hu hdn S hst λi hi _=>xj (Nat.le_zero.1 hu) i aa
 |succ fuel ih=>
  intro listed p env M a w hs hl hu hdn S hst;by_cases hall:∀i,i<m->gx all.size (cL [] all.toList) m i=false->isL listed i
  ·exact last (fuel+1) listed p env M a w hs hl hu hdn S hst hall
  ·refine⟨λhr=>absurd (λi hi _=>Az hs C.hb hr i aa) hall,λj hj=>?_⟩;obtain⟨o,h1,h2,h3⟩:=qC hj;have hjs:=(cN.1 h1).1;have hnl:¬isL listed j:=by unfold isL;simp[hs,hjs]at h2⊢;exact h2
   have hjm:j<m:=by
    rcases jx j m with h|h
    ·exact h
    ·exact absurd (λi _ hf=>jd hdn C.hb j o h1 h3 i (A_ hf hjs h)) hall
   have hmem:o∈all.toList:=by rw[jS];exact sd h1
   refine wi (λa' w' ⟨p',env',M',e1,e2⟩=>ih _ p' env' M' a' w' (by simpa using hs) (λi hi hli=>?_) ?_ (hdn.set hj) e2 e1) (Bc hΦ hB hst (C.step hs hl hdn S hst h1 hjm hnl h3) (qE hco hmem) (hfv o hmem) h1 Q)
   ·rcases (EG (by rw[hs];exact hjs)).1 hli with h|h
    ·omega
    ·exact hl i hi h
   ·have:=xz (by rw[hs];exact hjs) hnl all.size hjs;omega
theorem PB(hΦ:iv P F Φ)(hB:TabOk P B)(hco:eM F.nt (toL ops)=true)(hfv:∀o∈toL ops,∀k,o.dst=some k->F.fv k=none)(hr:tY D R (toL ops) cut=true)(hR:R=false->ks=[])(hD:D=true->∀i,i<cut->gx (toL ops).length (cL [] (toL ops)) cut i=true->Ds.getD i false=true)(hQ:∀p env M a w,St F p env M a w->K env M->Q .normal a w)(h:St F p env M a w)(hn:lj env=true)(hk:hx Ds ks as B Φ M (cj cut (toL ops)) env [] (λenv X=>bif nob (nogd env) (lw ks as B Φ (lZ (toL ops) cut) (lV (toL ops) cut) (fe cut (toL ops)) env (ap X M))then twG B Φ (toL ops) (fe cut (toL ops)) env (ap X M) K else False)):wpAny P .any ops Q ops.size (Array.replicate ops.size false) a { w with drawn:=w.drawn+1 }:=by
 rw[cK]at hco hfv hr;rw[AE,Eb]at hk;simp only[tY,ao]at hr;obtain⟨h1,h2,h3,h5,h4⟩:=hr;obtain⟨E,X,N,e0,x0,e1,e2⟩:=Qv _ _ _ _ _ hk;have hm:cut<=ops.toList.length:=eU h2;have hm':cut<=ops.size:=by simpa using hm
 rw[cK,dW,Cz hm]at e2
 cases hng0:nob (nogd (E cut)) (lw ks as B Φ (lZ ops.toList cut) (lV ops.toList cut) (ops.toList.drop cut) (E cut) (ap (X cut) M))with
 |false=>rw[hng0]at e2;exact e2.elim
 |true=>
 rw[hng0]at e2;simp only[aD]at e2;simp only[aP,ao]at hng0;obtain⟨hng,hck⟩:=hng0;replace e2:=xM (B:=B) (Φ:=Φ) _ _ _ (Eg hng) e2
 have C:Hctx D R Ds ks as B Φ ops cut E X N M:={
  hR:=hR
  hD:=λh i hi hf=>hD h i hi (by rw[cK];simpa using hf)
  hb:=h1
  hm:=hm'
  ht:=by simpa using h3
  hf:=by simpa using h5
  hdr:=by simpa using h4
  hE:=λj o ho hj=>e1 j o (by rw[cK,wj hj,kO];exact ho)
  hX:=x0
  h0:=λt=>by rw[e0];exact P9 hn }
 exact C.any hΦ hB Q K hQ hco hfv (by simpa only [cK]using e2) hck _ _ p env M a _ ak (λi _ hi=>absurd hi nM) (Ff _ _) (λj o _ hi=>absurd hi nM)
  ⟨λt _=>by rw[e0],λi o t _ hi=>absurd hi nM,λk _=>rfl,λi k _ hi=>absurd hi nM⟩ h.drew
theorem QO(hΦ:iv P F Φ)(hB:TabOk P B)(hmix:P.follows .mixedOrders=true)(hco:eM F.nt (toL ops)=true)(hfv:∀o∈toL ops,∀k,o.dst=some k->F.fv k=none)(hr:tY D R (toL ops) cut=true)(hR:R=false->ks=[])(hD:D=true->∀i,i<cut->gx (toL ops).length (cL [] (toL ops)) cut i=true->Ds.getD i false=true)(hQ:∀p env M a w,St F p env M a w->K env M->Q .normal a w)(h:St F p env M a w)(hn:lj env=true)(hk:hx Ds ks as B Φ M (cj cut (toL ops)) env [] (λenv X=>bif nob (nogd env) (lw ks as B Φ (lZ (toL ops) cut) (lV (toL ops) cut) (fe cut (toL ops)) env (ap X M))then twG B Φ (toL ops) (fe cut (toL ops)) env (ap X M) K else False)):(Code.region id ops true).wp P Q a w:=
 C6 hmix (PB hΦ hB hco hfv hr hR hD hQ h hn hk)
end
end Go.Bm
