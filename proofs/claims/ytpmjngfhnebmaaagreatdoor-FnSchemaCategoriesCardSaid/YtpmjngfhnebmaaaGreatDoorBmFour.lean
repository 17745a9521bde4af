/- The typed machine that the walks of this claim go by: its data, its operations and the proof that each is sound. No condition. -/
import Derived.Test.YtpmjngfhnebmaaaGreatDoorBmThree
set_option linter.unusedVariables false
set_option linter.unusedSimpArgs false
set_option linter.unusedSectionVars false
namespace Go.Bm
open Go.RowKit
abbrev gV:=@Bool.or_eq_false_iff
abbrev jK:=@Bool.not_eq_false'
abbrev yU:=@Bool.or_true
abbrev qm:=@Code.wp_mono
abbrev wc:=@Decidable.byContradiction
abbrev yV:=@Bool.or_false
abbrev yW:=@List.mem_range
abbrev wd:=@List.getD_cons_zero
variable {B:Tab}{D R b side:bC}{Ds:fw}{E:Nat->Env}{F:Fr}{Im:aT}{K:Env->Mem->Prop}{M M' M'' M0 M1 M2 N N':Mem}{P:d4}{Q Q':gL}{W:Wt}{X:Nat->Mem}{a a':Act}{after:Array Edge}{all rest:bY}{as ks ms:bK}{c:Code}{ct:Ct}{cut i id j k m n u:Nat}{d dst:fu}{e e2:cg}{env env' envK:Env}{f ρ:eD}{fs:wa}{guard:Option (Nat×Bool)}{hi lo:qi}{l:mJ}{listed:gg}{o x:bR}{ob q:Ob}{ops:gf}{os:Obs}{p p' p'':Ow}{pos:String}{ps:oP}{r vs:cK}{ss:Shs}{t ty':bW}{v y:V}{vc:nM}{w w' w'':aK}{Φ:dM}{α ι:Type}{β:gM}{π:bA}{τ:Ty}
theorem Tr.mv(h:Hp F p M w)(hj:go M j=some ob)(hk:go M k=none)(hg:j<gid):
  Tr F p M w [.mv j k] ⟨λi=>if i=k then p.β j else p.β i,λi=>if i=k then p.σ j else p.σ i,p.L⟩ ((k,ob)::del j M) w:=by
 generalize hp':(⟨λi=>if i=k then p.β j else p.β i,λi=>if i=k then p.σ j else p.σ i,p.L⟩:Ow)=p';have hjk:j≠k:=by rintro rfl;rw[hj]at hk;cases hk
 have hβk:p'.β k=p.β j:=by rw[←hp'];simp
 have hσk:p'.σ k=p.σ j:=by rw[←hp'];simp
 have hβ:∀i,i≠k->p'.β i=p.β i:=λi hi=>by rw[←hp'];simp[hi]
 have hσ:∀i,i≠k->p'.σ i=p.σ i:=λi hi=>by rw[←hp'];simp[hi]
 have hL:p'.L=p.L:=by rw[←hp']
 have hgk:go ((k,ob)::Bm.del j M) k=some ob:=mY _ _ _;have hgi:∀i,i≠k->i≠j->go ((k,ob)::Bm.del j M) i=go M i:=λi h1 h2=>by rw[dR,ai (dg h1),fg h2]
 have hgj:go ((k,ob)::Bm.del j M) j=none:=by rw[dR,ai (dg hjk),fU]
 have hlive:∀i,bF ((k,ob)::Bm.del j M) i->i=k\/(i≠k/\i≠j/\bF M i):=λi hi=>by
  by_cases e:i=k
  ·exact .inl e
  ·by_cases e':i=j
   ·subst e';unfold bF at hi;rw[hgj]at hi;cases hi
   ·refine .inr ⟨e,e',?_⟩;unfold bF at hi⊢;rwa [hgi i e e']at hi
 have hlj:=cz hj
 have hkeep:cN (Imm F p M w) (Imm F p' ((k,ob)::Bm.del j M) w) w w:=λb hb=>by
  refine⟨⟨hb.1,hb.2.1,by rw[hL];exact hb.2.2.1,λi hi=>?_⟩,rfl⟩;rcases hlive i hi with rfl|⟨h1,h2,h3⟩
  ·rw[hσk];exact hb.2.2.2 j hlj
  ·rw[hσ i h1];exact hb.2.2.2 i h3
 have hne:∀i,bF M i->i≠k:=λi hi e=>by subst e;unfold bF at hi;rw[hk]at hi;cases hi
 refine Tr.one _ hkeep (λi π vs r=>?_) (λi π v r=>?_) ⟨λi o hi=>?_,λi i' b hne' hi hi' hb=>?_,λi b hi hb=>?_,λb hb=>?_,h.os,h.tape,h.output,h.size,h.old⟩
 ·simp only[Ev.ref,dP];have hik:i≠k:=by obtain⟨o,_,h1,_⟩:=r;exact hne i (cz h1)
  split
  ·rename_i e;subst e;simp only[ac];obtain⟨o,pl,h1,h2,h3,h4⟩:=r;rw[hj]at h1;cases h1;exact⟨ob,pl,hgk,h2,h3,by rw[hβk];exact h4⟩
  ·rename_i e;simp only[ac];exact r.same h (hgi i hik e) (hβ i hik) (λ_ _ _=>rfl)
 ·simp only[Ev.ad,dP];have hik:i≠k:=by obtain⟨o,_,_,_,h1,_⟩:=r;exact hne i (cz h1)
  split
  ·rename_i e;subst e;simp only[ac];obtain⟨o,us,b,off,h1,h2,h3,h4,h5,h6⟩:=r;rw[hj]at h1;cases h1;exact⟨v,rfl,ob,us,b,off,hgk,h2,h3,h4,by rw[hβk];exact h5,h6⟩
  ·rename_i e;simp only[ac];exact⟨v,rfl,r.same h (hgi i hik e) (hβ i hik) (λ_ _ _=>rfl)⟩
 ·rcases hlive i (cz hi)with rfl|⟨h1,h2,h3⟩
  ·rw[hgk]at hi;cases hi;rw[hβk,hσk];exact Rel.keep hkeep _ _ _ _ (λ_ _=>rfl) (h.objs j ob hj)
  ·rw[hgi i h1 h2]at hi;rw[hβ i h1,hσ i h1];exact Rel.keep hkeep _ _ _ _ (λ_ _=>rfl) (h.objs i o hi)
 ·rcases hlive i hi with e|⟨h1,h2,h3⟩
  ·rcases hlive i' hi' with e'|⟨h1',h2',h3'⟩
   ·exact absurd (e.trans e'.symm) hne'
   ·rw[e,hσk]at hb;rw[hσ i' h1'];exact h.sep j i' b (dg h2') hlj h3' hb
  ·rw[hσ i h1]at hb;rcases hlive i' hi' with e'|⟨h1',h2',h3'⟩
   ·rw[e',hσk];exact h.sep i j b h2 h3 hlj hb
   ·rw[hσ i' h1'];exact h.sep i i' b hne' h3 h3' hb
 ·rcases hlive i hi with e|⟨h1,h2,h3⟩
  ·rw[e,hσk]at hb;obtain⟨o1,o2⟩:=h.own j b hlj hb;exact⟨o1,o2.elim (λh=>by have:=h.1;omega) .inr⟩
  ·rw[hσ i h1]at hb;exact h.own i b h3 hb
 ·rw[hL]at hb;obtain⟨l1,l2,l3⟩:=h.lim b hb;refine⟨l1,l2,λi hi=>?_⟩;rcases hlive i hi with e|⟨h1,h2,h3⟩
  ·rw[e,hσk];exact l3 j hlj
  ·rw[hσ i h1];exact l3 i h3
theorem St.desc(h:St F p env M a w)(t:Nat)(x:V)(hx:aj p.β M (Imm F p M w) w x (a.tmps.getD t undef)):St F p ((t,x)::env) M a w:=by
 refine⟨h.defers,h.nt,h.fix,h.ik,h.lz,λt'=>?_,h.hp⟩;rw[gY];by_cases e:t=t'
 ·subst e;rw[am rfl];exact hx
 ·rw[ai e];exact h.slots t'
theorem sF(os:Obs):(ss:Shs)->(p:Ow)->(env:Env)->(M:Mem)->St F p env M a w->∃p',St F p' (ma os ss env M).1 (ma os ss env M).2 a w
 |[],p,env,M,h=>⟨p,h⟩
 |(t,.d _)::r,p,env,M,h|(t,.ad _ _)::r,p,env,M,h|(t,.fn _)::r,p,env,M,h|(t,.bx _)::r,p,env,M,h|(t,.fc _ _)::r,p,env,M,h|(t,.pr _ _)::r,p,env,M,h|(t,.u)::r,p,env,M,h|(t,.ref _ (_::_))::r,p,env,M,h=>by simp only[ma];exact sF os r p env M h
 |(t,.ref k [])::r,p,env,M,h=>by
  simp only[ma];split
  ·rename_i o hnl _;have hs:=h.slots t;rw[hnl]at hs;simp only[aj,ac,bH,aA]at hs;have h1:St F p (evE (.kl k) env) (del k M) a w:=h.tr (Tr.kl h.hp k) h.lz;obtain⟨oa,hs⟩:=hs;have h2:=Tr.new h1.hp k (fU k M) (.slice oa 0 0) (λ_=>False) ⟨.sl o,[]⟩ ⟨rfl,⟨rfl,aZ _⟩,rfl,aZ _,λ_ _ _=>rfl⟩ (λb hb=>hb.elim) (λ_=>AG o oa);have h3:St F _ (evE (.kl k) env) ((k,⟨.sl o,[]⟩)::del k M) a w:=h1.tr h2 (λb hb=>hb);refine sF os r _ _ _ (h3.desc t (.ref k []) ?_);simp only[aj,ac];refine⟨⟨.sl o,[]⟩,none,mY _ _ _,by simp only[gok],⟨⟨.sl o,[]⟩,by simp only[get]⟩,?_⟩;rw[uW,hs];simp only[res]
  ·rename_i j x
   cases hb:orb (Nat.beq j k) (neg (Nat.ble (Nat.succ j) gid))with
   |true=>simp only[aD];exact sF os r p env M h
   |false=>
    simp only[bp];simp only[gD,gr,gV,jK]at hb;split
    ·rename_i ob hj;have hjk:j≠k:=by rintro rfl;simp at hb
     have h1:St F p (evE (.kl k) env) (del k M) a w:=h.tr (Tr.kl h.hp k) h.lz;have h2:=Tr.mv h1.hp (j:=j) (k:=k) (ob:=ob) (by rw[fg hjk];exact hj) (fU k M) (ia hb.2);have h3:St F _ (evE (.mv j k) (evE (.kl k) env)) ((k,ob)::del j (del k M)) a w:=h1.tr h2 h1.lz;exact sF os r _ _ _ h3
    ·exact sF os r p env M h
  ·exact sF os r p env M h
theorem Qk:(os:Obs)->(p:Ow)->(env:Env)->(M:Mem)->St F p env M a w->∃p',St F p' (BD os env M).1 (BD os env M).2 a w:=λ_ p _ _ h=>⟨p,h⟩
theorem sV(os:Obs):(ks:bK)->(M:Mem)->(env:Env)->St F p env M a w->St F p (js os ks M env).1 (js os ks M env).2 a w
 |[],M,env,h=>h
 |k::r,M,env,h=>by
  simp only[js]
  cases inO k os with
  |true=>simp only[aD];exact sV os r M env h
  |false=>
   simp only[bp];split
   ·rename_i ob hk;have h1:St F p (evE (.fz k ob) env) (del k M) a w:=h.tr (Tr.frz h.hp k ob hk) h.lz;exact sV os r _ _ h1
   ·exact sV os r M env h
theorem Je(M:Mem):(os:Obs)->(x:fo os)->kF M os=some x->∀k ob,go (dV os x) k=some ob->oOf k os=some ob.o/\∃q,go M k=some q/\wkO q ob.o=some ob.x
 |[],x,h,k,ob,hk=>by simp[dV,go]at hk
 |(j,o)::r,x,h,k,ob,hk=>by
  simp only[kF]at h;split at h
  ·rename_i q hq;split at h
   ·rename_i y z hy hz;cases h;simp only[dV]at hk;rw[dR]at hk;simp only[oOf,dP];by_cases e:j=k
    ·subst e;rw[am rfl]at hk⊢;cases hk;exact⟨rfl,q,hq,hy⟩
    ·rw[ai e]at hk⊢;exact Je M r z hz k ob hk
   ·cases h
  ·cases h
theorem Dw(M:Mem):(os:Obs)->(x:fo os)->kF M os=some x->∀k o,oOf k os=some o->∃y,go (dV os x) k=some ⟨o,y⟩
 |[],x,h,k,o,hk=>by simp[oOf]at hk
 |(j,o')::r,x,h,k,o,hk=>by
  simp only[kF]at h;split at h
  ·rename_i q hq;split at h
   ·rename_i y z hy hz;cases h;simp only[oOf,dP]at hk;simp only[dV];rw[dR];by_cases e:j=k
    ·subst e;rw[am rfl]at hk⊢;cases hk;exact⟨y,rfl⟩
    ·rw[ai e]at hk⊢;exact Dw M r z hz k o hk
   ·cases h
  ·cases h
theorem th{o:O}{x:o.strip.den}(h:wkO q o=some x):q.o.wk o=true/\gF o.strip q.x=some x:=by
 unfold wkO at h
 cases hw:q.o.wk o with
 |false=>rw[hw]at h;cases h
 |true=>rw[hw]at h;exact⟨rfl,h⟩
theorem ad5(h:Hp F p M w)(hL:∀b,¬p.L b)(os:Obs)(x:fo os)(hx:kF M os=some x):∃p',p'.β=p.β/\(∀b,¬p'.L b)/\cN (Imm F p M w) (Imm F p' (dV os x) w) w w/\Hp F p' (dV os x) w:=by
 classical
 have hall:∀k ob,go (dV os x) k=some ob->bF M k/\Wk (Imm F p M w) w ob.o ob.x (p.σ k) [p.β k]:=λk ob hk=>by obtain⟨_,q,h1,h2⟩:=Je M os x hx k ob hk;obtain⟨h3,h4⟩:=th h2;exact⟨cz h1,ni q.o ob.o h3 q.x ob.x _ _ h4 (h.objs k q h1)⟩
 let σ':Nat->Nat->Prop:=λk=>if hk:∃ob,go (dV os x) k=some ob then (hall k hk.choose hk.choose_spec).2.choose elseλ_=>False
 have hσ:∀k ob,go (dV os x) k=some ob->(∀b,σ' k b->p.σ k b)/\∀Im':Nat->Prop,(∀b,Imm F p M w b->Im' b)->(∀b,p.σ k b->¬σ' k b->Im' b)->Rel Im' w ob.o ob.x (σ' k) [p.β k]:=λk ob hk=>by
  have hex:∃ob,go (dV os x) k=some ob:=⟨ob,hk⟩;have e1:σ' k=(hall k hex.choose hex.choose_spec).2.choose:=by simp only[σ',dif_pos hex]
  have h2:=(hall k hex.choose hex.choose_spec).2.choose_spec;have e2:ob=hex.choose:=rV (hk.symm.trans hex.choose_spec);rw[e1,e2];exact h2
 have hlv:∀k,bF (dV os x) k->bF M k/\∀b,σ' k b->p.σ k b:=λk hk=>by obtain⟨ob,ho⟩:=AH hk;exact⟨(hall k ob ho).1,(hσ k ob ho).1⟩
 have hkeep:cN (Imm F p M w) (Imm F ⟨p.β,σ',λ_=>False⟩ (dV os x) w) w w:=λb hb=>⟨⟨hb.1,hb.2.1,λh=>h,λk hk hs=>hb.2.2.2 k (hlv k hk).1 ((hlv k hk).2 b hs)⟩,rfl⟩;refine⟨⟨p.β,σ',λ_=>False⟩,rfl,λb hb=>hb,hkeep,⟨λk ob hk=>?_,λk k' b hne hk hk' hb hb'=>?_,λk b hk hb=>?_,λb hb=>hb.elim,h.os,h.tape,h.output,h.size,h.old⟩⟩
 ·refine (hσ k ob hk).2 _ (λb hb=>(hkeep b hb).1) (λb hb hn=>?_);have hlk:=(hall k ob hk).1;obtain⟨o1,o2⟩:=h.own k b hlk hb;refine⟨o1,o2.elim (λh=>.inr (.inl h.2)) (λh=>.inr h.r),λh=>h,λj hj hs=>?_⟩;by_cases e:j=k
  ·subst e;exact hn hs
  ·exact h.sep k j b (dg e) hlk (hlv j hj).1 hb ((hlv j hj).2 b hs)
 ·exact h.sep k k' b hne (hlv k hk).1 (hlv k' hk').1 ((hlv k hk).2 b hb) ((hlv k' hk').2 b hb')
 ·exact h.own k b (hlv k hk).1 ((hlv k hk).2 b hb)
theorem Jd:(a b:bA)->peq a b=true->a=b
 |[],[],_=>rfl
 |.l::a,.l::b,h|.r::a,.r::b,h|.de::a,.de::b,h=>by simp only[peq]at h;rw[Jd a b h]
 |[],_::_,h|.ix _::_,[],h|.l::_,[],h|.r::_,[],h|.de::_,[],h|.ix _::_,_::_,h|.l::_,.r::_,h|.l::_,.de::_,h|.l::_,.ix _::_,h|.r::_,.l::_,h|.r::_,.de::_,h|.r::_,.ix _::_,h|.de::_,.l::_,h|.de::_,.r::_,h|.de::_,.ix _::_,h=>by simp[peq]at h
theorem OX{x:fo os}(hx:kF M os=some x){o:O}(hq:go M k=some q)(ho:oOf k os=some o)(he:q.o.beq o=true):go (dV os x) k=some q:=by obtain⟨y,hy⟩:=Dw M os x hx k o ho;obtain⟨_,q',h1,h2⟩:=Je M os x hx k _ hy;rw[hq]at h1;cases h1;have:=(th h2).2;have e:=O.beq_eq he;obtain⟨qo,qx⟩:=q;simp only at e this;subst e;rw[uR]at this;cases this;exact hy
theorem V_(hβ:p'.β=p.β){x:fo os}(hx:kF M os=some x){vs:aJ}(h:Ref p.β M w k π vs)(hok:Fm M os k π=true):Ref p'.β (dV os x) w k π vs:=by
 unfold Fm at hok;split at hok
 ·rename_i q o hq ho;simp only[gD,fR]at hok;rcases hok with hn|he
  ·cases π with
   |cons _ _=>simp[kT]at hn
   |nil=>obtain⟨y,hy⟩:=Dw M os x hx k o ho;obtain⟨ob,pl,h1,h2,h3,h4⟩:=h;simp only[res,aG,bS]at h4;exact⟨⟨o,y⟩,none,hy,by simp only[gok],⟨⟨o,y⟩,by simp only[get]⟩,by simp only[res,hβ,h4.1]⟩
  ·have:=OX hx hq ho he;obtain⟨ob,pl,h1,h2,h3,h4⟩:=h;rw[hq]at h1;cases h1;exact⟨q,pl,this,h2,h3,by rw[hβ];exact h4⟩
 ·cases hok
theorem ab3(hp:Hp F p M w)(hβ:p'.β=p.β){x:fo os}(hx:kF M os=some x){v:bm}(h:Adr p.β M w k π v)(hok:F5 M os k π=true):Adr p'.β (dV os x) w k π v:=by
 unfold F5 at hok;split at hok
 ·rename_i q o hq ho;simp only[gD,fR]at hok;rcases hok with hn|he
  ·obtain⟨y,hy⟩:=Dw M os x hx k o ho;obtain⟨m,s1,s2⟩:=Jx hn;obtain⟨ob,us0,b0,off0,k1,k2,k3,k4,k5,rfl⟩:=h;rw[hq]at k1;cases k1;obtain⟨ρ1,o1,rfl,e1,f1⟩:=Ay s1;obtain⟨ρ2,o2,e2',e2,f2⟩:=Ay s2;simp only[bH,aL]at e2';subst e2';subst e2;obtain⟨qo,qx⟩:=q;simp only at e1;subst e1;have hr:=hp.objs k _ hq;simp only[Rel]at hr;obtain⟨bb,us1,ty',S1,r1,r2,r3,r4,r5⟩:=hr;simp only[bH,aA]at r1;rw[r1]at k5;simp only[res]at k5;obtain⟨_,_,us2,q3⟩:=mf w ρ1 o1 m f1 qx (cellsOf w bb 0 o1.size) (some (bb,0));rw[q3]at k5;simp only[aG,bS]at k5;obtain⟨q1,q2,us3,q3'⟩:=mf w ρ1 o2 m f2 y (cellsOf w bb 0 o2.size) (some (bb,0));refine⟨_,us3,b0,off0,hy,by simpa only [gok]using q2,by simpa only [get]using q1,by simp only[cn],?_,rfl⟩;rw[hβ,r1];simp only[res];rw[q3',k5.2]
  ·have:=OX hx hq ho he;obtain⟨ob,us,b,off,h1,h2,h3,h4,h5,h6⟩:=h;rw[hq]at h1;cases h1;exact⟨q,us,b,off,this,h2,h3,h4,by rw[hβ];exact h5,h6⟩
 ·cases hok
theorem A7(hp:Hp F p M w)(hβ:p'.β=p.β){os:Obs}{x:fo os}(hx:kF M os=some x)(hk:cN (Imm F p M w) (Imm F p' (dV os x) w) w w):(s:Sh)->(v:V)->(vs:aJ)->(y:s.den)->ac p.β M (Imm F p M w) w v vs->s.read M os v=some y->ac p'.β (dV os x) (Imm F p' (dV os x) w) w (s.put y) vs
 |.d t,v,vs,y,r,h=>by simp only[Sh.read]at h;simp only[Sh.put];exact fG t y vs (ah.keep hk _ _ _ (o7 v t vs y r h))
 |.ref k π,v,vs,y,r,h=>by
  cases v<;>simp only[Sh.read]at h<;>try (cases h;done)
  rename_i k' π'
  cases hb:nob (Fm M os k π) (nob (Nat.beq k k') (peq π π'))with
  |false=>rw[hb]at h;cases h
  |true=>simp only[aU,ao]at hb;have e1:=dh hb.2.1;have e2:=Jd _ _ hb.2.2;subst e1;subst e2;simp only[ac]at r;simp only[Sh.put,ac];exact V_ hβ hx r hb.1
 |.ad k π,v,vs,y,r,h=>by
  cases v<;>simp only[Sh.read]at h<;>try (cases h;done)
  rename_i k' π'
  cases hb:nob (F5 M os k π) (nob (Nat.beq k k') (peq π π'))with
  |false=>rw[hb]at h;cases h
  |true=>simp only[aU,ao]at hb;have e1:=dh hb.2.1;have e2:=Jd _ _ hb.2.2;subst e1;subst e2;simp only[ac]at r;obtain⟨z,rfl,r⟩:=r;simp only[Sh.put,ac];exact⟨z,rfl,ab3 hp hβ hx r hb.1⟩
 |.fn f,v,vs,y,r,h=>by
  cases v<;>(try simp only[Sh.read]at h)<;>try (cases h;done)
  rename_i f' v';cases v'<;>(try simp only[Sh.read]at h)<;>try (cases h;done)
  simp only[dP]at h;split at h
  ·rename_i e;subst e;simp only[ac]at r;simp only[Sh.put,ac];exact r
  ·cases h
 |.bx s,v,vs,y,r,h=>by
  cases v<;>simp only[Sh.read]at h<;>try (cases h;done)
  simp only[ac]at r;obtain⟨b,o,us,h1,h2,h3,h4⟩:=r;simp only[Sh.put,ac];exact⟨b,o,us,h1,(hk b h2).1,h3,A7 hp hβ hx hk s _ _ y h4 h⟩
 |.fc f s,v,vs,y,r,h=>by
  cases v<;>simp only[Sh.read]at h<;>try (cases h;done)
  simp only[dP]at h;split at h
  ·rename_i e;subst e;simp only[ac]at r;obtain⟨us,h1,h2⟩:=r;simp only[Sh.put,ac];exact⟨us,h1,A7 hp hβ hx hk s _ _ y h2 h⟩
  ·cases h
 |.pr a b,v,vs,y,r,h=>by
  cases v<;>simp only[Sh.read]at h<;>try (cases h;done)
  split at h
  ·rename_i z1 z2 h1 h2;simp only[ac]at r;obtain⟨va,vb,e,ra,rb⟩:=r;cases h;simp only[Sh.put,ac];exact⟨va,vb,e,A7 hp hβ hx hk a _ _ _ ra h1,A7 hp hβ hx hk b _ _ _ rb h2⟩
  ·cases h
 |.u,v,vs,y,r,h=>by
  cases v<;>simp only[Sh.read]at h<;>try (cases h;done)
  simp only[Sh.put];simpa only [ac]using r
theorem ads(hp:Hp F p M w)(hβ:p'.β=p.β){x:fo os}(hx:kF M os=some x)(hk:cN (Imm F p M w) (Imm F p' (dV os x) w) w w)(s:Sh)(v:V)(u:bm)(y:s.den)(r:aj p.β M (Imm F p M w) w v u)(h:s.read M os v=some y):aj p'.β (dV os x) (Imm F p' (dV os x) w) w (s.put y) u:=by
 have key:ac p.β M (Imm F p M w) w v [u]->aj p'.β (dV os x) (Imm F p' (dV os x) w) w (s.put y) u:=λr=>ky (A7 hp hβ hx hk s v [u] y r h)
 cases v with
 |any=>cases s with
  |d t=>cases t<;>simp[Sh.read,V.as]at h
  |_=>simp[Sh.read]at h
 |ag z=>cases s with
  |d t=>cases t<;>simp[Sh.read,V.as]at h
  |_=>simp[Sh.read]at h
 |tup z=>cases s with
  |d t=>cases t<;>simp[Sh.read,V.as]at h
  |_=>simp[Sh.read]at h
 |gd _ _ _ z=>cases s with
  |d t=>cases t<;>simp[Sh.read,V.as]at h
  |_=>simp[Sh.read]at h
 |_=>exact key (by simpa only [aj]using r)
theorem QE(hp:Hp F p M w)(hβ:p'.β=p.β){os:Obs}{x:fo os}(hx:kF M os=some x)(hk:cN (Imm F p M w) (Imm F p' (dV os x) w) w w)(hs:∀t,aj p.β M (Imm F p M w) w (gt env t) (a.tmps.getD t undef)) :
  (ss:Shs)->(y:gZ ss)->yk M os env ss=some y->∀t,aj p'.β (dV os x) (Imm F p' (dV os x) w) w (gt (pX ss y) t) (a.tmps.getD t undef)
 |[],y,h,t=>by simp only[pX,gt,aj]
 |(t',s)::r,y,h,t=>by
  simp only[yk]at h;split at h
  ·rename_i z1 z2 h1 h2;cases h;simp only[pX];rw[gY];split
   ·rename_i e;subst e;exact ads hp hβ hx hk s _ _ z1 (hs t') h1
   ·exact QE hp hβ hx hk hs r z2 h2 t
  ·cases h
theorem uS{β β':gM}{Im Im':aT}(hk:cN Im Im' w w'):(v:V)->cG v=true->(∀vs,ac β M Im w v vs->ac β' M' Im' w' v vs)/\∀u,aj β M Im w v u->aj β' M' Im' w' v u
 |.d t x,_=>⟨λvs r=>by simp only[ac]at r⊢;exact ah.keep hk t x vs r,λu r=>by rw[bn]at r⊢;exact ah.keep hk t x _ r⟩
 |.nl,_|.np,_|.u,_=>⟨λvs r=>by simpa only [ac]using r,λu r=>by simpa only [aj,ac]using r⟩
 |.p a b,h=>by
  simp only[cG,aU,ao]at h;have key:∀vs,ac β M Im w (.p a b) vs->ac β' M' Im' w' (.p a b) vs:=λvs r=>by simp only[ac]at r⊢;obtain⟨va,vb,e,h1,h2⟩:=r;exact⟨va,vb,e,(uS hk a h.1).1 va h1,(uS hk b h.2).1 vb h2⟩
  exact⟨key,λu r=>by simp only[aj]at r⊢;exact key _ r⟩
 |.ag v,h=>by simp only[cG]at h;refine⟨λvs r=>by simp only[ac]at r,λu r=>?_⟩;simp only[aj]at r⊢;obtain⟨vs,e,h1⟩:=r;exact⟨vs,e,(uS hk v h).1 vs h1⟩
 |.fn f v,h=>by
  simp only[cG]at h;have key:∀vs,ac β M Im w (.fn f v) vs->ac β' M' Im' w' (.fn f v) vs:=λvs r=>by simp only[ac]at r⊢;obtain⟨us,e,h1⟩:=r;exact⟨us,e,(uS hk v h).1 us h1⟩
  exact⟨key,λu r=>by simp only[aj]at r⊢;exact key _ r⟩
 |.bx v,h=>by
  simp only[cG]at h;have key:∀vs,ac β M Im w (.bx v) vs->ac β' M' Im' w' (.bx v) vs:=λvs r=>by simp only[ac]at r⊢;obtain⟨b,o,us,e,h1,h2,h3⟩:=r;exact⟨b,o,us,e,(hk b h1).1,h2.keep (hk b h1).2,(uS hk v h).1 us h3⟩
  exact⟨key,λu r=>by simp only[aj]at r⊢;exact key _ r⟩
 |.any,h|.ref _ _,h|.ad _ _,h|.tup _,h|.gd _ _ _ _,h|.ifc _ _,h=>by simp[cG]at h
theorem Ji(h:St F p env M a w){q:(gZ ss×fo os)×Env}(hr:tH ss os env M=some q):
  ∃p',St F p' (pX ss q.1.1) (dV os q.1.2) a w/\∀t,cG (gt q.2 t)=true->aj p'.β (dV os q.1.2) (Imm F p' (dV os q.1.2) w) w (gt q.2 t) (a.tmps.getD t undef):=by
 unfold tH at hr;obtain⟨p0,h0⟩:=sF os ss p env M h;generalize ma os ss env M=z0 at hr h0;obtain⟨env0,M0⟩:=z0;simp only at hr h0;obtain⟨p1,h1⟩:=Qk os p0 env0 M0 h0;generalize BD os env0 M0=z1 at hr h1;obtain⟨env1,M1⟩:=z1;simp only at hr h1;have h2:=sV os (bJ M1) M1 env1 h1;generalize js os (bJ M1) M1 env1=z2 at hr h2;obtain⟨env2,M2⟩:=z2;simp only at hr h2;split at hr
 ·rename_i y x hy hx;cases hr;obtain⟨p',e1,e2,e3,e4⟩:=ad5 h2.hp h2.lz os x hx;refine⟨p',⟨h2.defers,h2.nt,h2.fix,λb hb=>⟨(e3 b (h2.ik b hb).1).1,(h2.ik b hb).2⟩,e2,QE h2.hp e1 hx e3 h2.slots ss y hy,e4⟩,λt ht=>(uS e3 _ ht).2 _ (h2.slots t)⟩
 ·cases hr
theorem kA:(t:T)->(x:t.den)->t.ok x->ab (t.oks x)
 |.int k,x,h=>by simp only[T.oks,e9,eY,aA];simpa only [T.ok]using h
 |.p a b,x,h=>by simp only[T.ok]at h;simp only[T.oks,fW];exact⟨kA a _ h.1,kA b _ h.2⟩
 |.sl e,x,h=>by simp only[T.oks,e9,eY,aA];exact h
 |.pt t,x,h|.fn _ t,x,h|.ifc _ t,x,h|.ib _ t,x,h=>by simp only[T.ok]at h;simp only[T.oks];exact kA t x h
 |.mp k v,x,h|.op t,x,h|.ns t,x,h=>by simp only[T.oks,e9,eY,aA];exact h
 |.er _,x,h=>by simp only[T.oks,eY]
 |.str,x,h=>by simp only[T.oks,e9,eY,aA];simpa only [T.ok]using h
 |.bool,x,h|.u,x,h|.any,x,h=>by simp only[T.oks,eY]
def aek:Nat->List Nat->Bool
 |i,σ=>(List.range i).all λk=>Nat.beq (plc σ k) k
def UG(nt:Nat)(l:bY):Bool:=nob (BB l) (nob (Nat.blt (kN 0 l) (rI 0 l)) (nob (Nat.blt (rI 0 l) l.length) (nob (kG 0 l) (nob (KK (mvS (kN 0 l) (rI 0 l) (len l)) l.length) (nob (aek (kN 0 l) (mvS (kN 0 l) (rI 0 l) (len l))) (nob (fA nt (F7 l)) (nob (fA nt (FG l)) (nob (tX false false (F7 l) (kN 0 l)) (tX false false (FG l) (Nat.succ (kN 0 l)))))))))))
def okC(nt:Nat)(cut:nK):Code->Bool
 |.region id ops draw=>nob (fA nt (toL ops)) (bif draw then (bif Nat.beq (cut id) 999999 then Ug (toL ops)else bif Nat.beq (cut id) 999998 then UG nt (toL ops)else bif Nat.ble 10000 (cut id)then nob (fA nt (dD (hrC (cut id)) (toL ops))) (FB (hrC (cut id)) true (toL ops) (mC (cut id)))else bif Nat.ble 2000 (cut id)then nob (fA nt (dD false (toL ops))) (FB false false (toL ops) (Nat.sub (cut id) (vN (cut id))))else bif Nat.ble 1000 (cut id)then tX false false (toL ops) (Nat.sub (cut id) 1000)else bif Nat.ble 500 (cut id)then tX false false (toL ops) (Nat.sub (cut id) 500)else Lg (toL ops) (cut id))else true)
 |.seq a b|.cond _ a b=>nob (okC nt cut a) (okC nt cut b)
 |.block _ c|.loop c|.scope c=>okC nt cut c
 |_=>true
abbrev Gc:Type:=Nat->Option Value
def rn(fv:Gc):Code->Prop
 |.region _ ops _=>∀o∈toL ops,∀k,o.dst=some k->fv k=none
 |.seq a b|.cond _ a b=>rn fv a/\rn fv b
 |.block _ c|.loop c|.scope c=>rn fv c
 |_=>True
theorem sN:(c:Code)->rn (λ_=>none) c
 |.region _ _ _=>λ_ _ _ _=>rfl
 |.seq a b|.cond _ a b=>⟨sN a,sN b⟩
 |.block _ c|.loop c|.scope c=>sN c
 |.skip|.ret|.exit _|.goto _|.label _|.rangeFunc _ _ _ _|.refuse _=>trivial
def kr(fv:Gc)(ks:bK)(a:Act):Nat->Option Value:=λt=>bif iP t ks then some (a.tmps.getD t undef)else fv t
def mkF(F:Fr)(I:aT)(w:aK)(ks:bK)(a:Act):Fr:=⟨F.w0,w,F.A,F.R,I,F.nt,kr F.fv ks a,F.cs⟩
theorem Q4{ks:bK}:{l:bY}->BH ks l=true->∀o∈l,∀k,o.dst=some k->iP k ks=false
 |[],_,o,ho,_,_=>by cases ho
 |x::r,h,o,ho,k,hk=>by
  simp only[BH]at h;rcases cQ.1 ho with rfl|ho
  ·rw[hk]at h;simp only at h
   cases hm:iP k ks with
   |false=>rfl
   |true=>rw[hm]at h;cases h
  ·refine Q4 ?_ o ho k hk;split at h
   ·rename_i d _
    cases hm:iP d ks with
    |false=>rw[hm]at h;exact h
    |true=>rw[hm]at h;cases h
   ·exact h
theorem oc{fv:Gc}{ks:bK}{a:Act}:(c:Code)->noW ks c=true->rn fv c->rn (kr fv ks a) c
 |.region id ops draw,h,hf=>λo ho k hk=>by simp only[noW]at h;unfold kr;rw[Q4 h o ho k hk];exact hf o ho k hk
 |.seq x y,h,hf|.cond _ x y,h,hf=>by simp only[noW,aU,ao]at h;exact⟨oc x h.1 hf.1,oc y h.2 hf.2⟩
 |.block _ c,h,hf|.loop c,h,hf|.scope c,h,hf=>by simp only[noW]at h;exact oc c h hf
 |.skip,_,_|.ret,_,_|.exit _,_,_|.goto _,_,_|.label _,_,_|.rangeFunc _ _ _ _,_,_|.refuse _,_,_=>trivial
def jb(F:Fr)(K:Ex->Env->Mem->Prop):Exit->Act->World->Prop
 |.normal,a,w=>∃p env M,St F p env M a w/\K .nm env M
 |.exit id,a,w=>∃p env M,St F p env M a w/\K (.ex id) env M
 |.ret,a,w=>∃p env M,St F p env M a w/\K .rt env M
 |.goto l,a,w=>∃p env M,St F p env M a w/\K (.go l) env M
 |_,_,_=>False
theorem KU:∀(env:Env)(t:Nat),gt (clr env) t=.any\/gt (clr env) t=gt env t
 |[],t=>.inl rfl
 |(k,v)::r,t=>by
  simp only[clr];split
  ·rw[gY,gY];split
   ·exact .inl rfl
   ·exact KU r t
  ·rw[gY,gY];split
   ·exact .inr rfl
   ·exact KU r t
theorem Up:∀(x y:Env)(t:Nat),gt (ap x y) t=gt x t\/gt (ap x y) t=gt y t
 |[],y,t=>.inr rfl
 |(k,v)::r,y,t=>by
  simp only[ap];rw[gY,gY];split
  ·exact .inl rfl
  ·exact Up r y t
theorem Rh(env:Env):∀(ks:bK)(t:Nat),gt (nA env ks) t=.any\/(iP t ks=true/\cG (gt env t)=true/\gt (nA env ks) t=gt env t)
 |[],t=>.inl rfl
 |k::r,t=>by
  simp only[nA];have ih:=Rh env r t;have hm:iP t r=true->iP t (k::r)=true:=λh=>by simp only[iP,gD,h,yU]
  cases hd:cG (gt env k)with
  |false=>
   simp only[bp];rcases ih with h|⟨h1,h2,h3⟩
   ·exact .inl h
   ·exact .inr ⟨hm h1,h2,h3⟩
  |true=>
   simp only[aD];rw[gY];split
   ·rename_i e;subst e;exact .inr ⟨by simp[iP],hd,rfl⟩
   ·rcases ih with h|⟨h1,h2,h3⟩
    ·exact .inl h
    ·exact .inr ⟨hm h1,h2,h3⟩
theorem St.fwd(h:St F p env M a w)(ks:bK):St (mkF F (Imm F p M w) w ks a) p env M a w:=by
 refine⟨h.defers,h.nt,λt v ht=>?_,λb hb=>⟨hb,rfl⟩,h.lz,h.slots,⟨h.hp.objs,h.hp.sep,h.hp.own,h.hp.lim,h.hp.os,h.hp.tape,h.hp.output,h.hp.size,h.hp.old⟩⟩;simp only[mkF,kr]at ht
 cases hm:iP t ks with
 |true=>rw[hm]at ht;simpa using ht
 |false=>rw[hm]at ht;exact h.fix t v ht
theorem St.back(h:St F p env M a w)(h':St (mkF F (Imm F p M w) w ks a) p' env' M' a' w'):St F p' env' M' a' w':=by
 refine⟨h'.defers,h'.nt,λt v ht=>?_,λb hb=>?_,h'.lz,h'.slots,⟨h'.hp.objs,h'.hp.sep,h'.hp.own,h'.hp.lim,h'.hp.os,h'.hp.tape,h'.hp.output,h'.hp.size,h'.hp.old⟩⟩
 ·cases hm:iP t ks with
  |true=>rw[h'.fix t (a.tmps.getD t undef) (by simp only[mkF,kr,hm,aD])];exact h.fix t v ht
  |false=>exact h'.fix t v (by simp only[mkF,kr,hm,bp];exact ht)
 ·obtain⟨h1,h2⟩:=h.ik b hb;obtain⟨h3,h4⟩:=h'.ik b h1;exact⟨h3,h4.trans h2⟩
theorem St.add(hK:∀t,cG (gt envK t)=true->aj p.β M (Imm F p M w) w (gt envK t) (a.tmps.getD t undef))(h':St (mkF F (Imm F p M w) w ks a) p' env' M' a' w'):St (mkF F (Imm F p M w) w ks a) p' (ap env' (nA envK ks)) M' a' w':=by
 refine⟨h'.defers,h'.nt,h'.fix,h'.ik,h'.lz,λt=>?_,h'.hp⟩;rcases Up env' (nA envK ks) t with e|e
 ·rw[e];exact h'.slots t
 ·rw[e];rcases Rh envK ks t with e'|⟨h1,h2,h3⟩
  ·rw[e'];simp only[aj]
  ·rw[h3,h'.fix t (a.tmps.getD t undef) (by simp only[mkF,kr,h1,aD])];exact (uS (λb hb=>h'.ik b hb) _ h2).2 _ (hK t h2)
theorem Au{os:Obs}:(s:Sh)->(v:V)->(vs:aJ)->(y:s.den)->ac p.β M (Imm F p M w) w v vs->s.read M os v=some y->ab (s.oks y)
 |.d t,v,vs,y,r,h=>by simp only[Sh.read]at h;simp only[Sh.oks];exact kA _ _ (ah.ok _ _ _ (o7 v t vs y r h))
 |.ref _ _,_,_,_,_,_|.ad _ _,_,_,_,_,_|.fn _,_,_,_,_,_|.u,_,_,_,_,_=>by simp only[Sh.oks,eY]
 |.bx s,v,vs,y,r,h=>by
  cases v<;>simp only[Sh.read]at h<;>try (cases h;done)
  simp only[ac]at r;obtain⟨b,o,us,h1,h2,h3,h4⟩:=r;simp only[Sh.oks];exact Au s _ _ y h4 h
 |.fc f s,v,vs,y,r,h=>by
  cases v<;>simp only[Sh.read]at h<;>try (cases h;done)
  simp only[dP]at h;split at h
  ·simp only[ac]at r;obtain⟨us,h1,h2⟩:=r;simp only[Sh.oks];exact Au s _ _ y h2 h
  ·cases h
 |.pr a b,v,vs,y,r,h=>by
  cases v<;>simp only[Sh.read]at h<;>try (cases h;done)
  split at h
  ·rename_i z1 z2 h1 h2;simp only[ac]at r;obtain⟨va,vb,e,ra,rb⟩:=r;cases h;simp only[Sh.oks,fW];exact⟨Au a _ _ _ ra h1,Au b _ _ _ rb h2⟩
  ·cases h
theorem OO{os:Obs}(hs:∀t,aj p.β M (Imm F p M w) w (gt env t) (a.tmps.getD t undef)):(ss:Shs)->(y:gZ ss)->yk M os env ss=some y->ab (okS ss y)
 |[],y,h=>by simp only[okS,eY]
 |(t,s)::r,y,h=>by
  simp only[yk]at h;split at h
  ·rename_i z1 z2 h1 h2;cases h;have ih:=OO hs r z2 h2;simp only[okS,fW];refine⟨?_,ih⟩
   have key:∀v:V,s.read M os v=some z1->aj p.β M (Imm F p M w) w v (a.tmps.getD t undef)->ab (s.oks z1):=λv h1 r=>by
    cases v with
    |any=>cases s with
     |d t=>cases t<;>simp[Sh.read,V.as]at h1
     |_=>simp[Sh.read]at h1
    |ag z=>cases s with
     |d t=>cases t<;>simp[Sh.read,V.as]at h1
     |_=>simp[Sh.read]at h1
    |tup z=>cases s with
     |d t=>cases t<;>simp[Sh.read,V.as]at h1
     |_=>simp[Sh.read]at h1
    |gd _ _ _ z=>cases s with
     |d t=>cases t<;>simp[Sh.read,V.as]at h1
     |_=>simp[Sh.read]at h1
    |_=>exact Au s _ _ _ (by simpa only [aj]using r) h1
   exact key _ h1 (hs t)
  ·cases h
theorem P3(hp:Hp F p M w):(os:Obs)->(x:fo os)->kF M os=some x->ab (okO os x)
 |[],x,h=>by simp only[okO,eY]
 |(k,o)::r,x,h=>by
  simp only[kF]at h;split at h
  ·rename_i q hq;split at h
   ·rename_i y z hy hz;cases h;simp only[okO,fW];refine⟨kA _ _ ?_,P3 hp r z hz⟩;obtain⟨e,h1⟩:=Aq (th hy).2;have hok:=(hp.objs k q hq).ok;subst h1;exact cast_ok e hok
   ·cases h
  ·cases h
where
 cast_ok:∀{s t:T} {x:s.den} (e:s=t),s.ok x->t.ok (e▸x):=λe h=>by subst e;exact h
theorem IR(h:St F p env M a w){q:(gZ ss×fo os)×Env}(hr:tH ss os env M=some q):ab (okS ss q.1.1)/\ab (okO os q.1.2):=by
 unfold tH at hr;obtain⟨p0,h0⟩:=sF os ss p env M h;generalize ma os ss env M=z0 at hr h0;obtain⟨env0,M0⟩:=z0;simp only at hr h0;obtain⟨p1,h1⟩:=Qk os p0 env0 M0 h0;generalize BD os env0 M0=z1 at hr h1;obtain⟨env1,M1⟩:=z1;simp only at hr h1;have h2:=sV os (bJ M1) M1 env1 h1;generalize js os (bJ M1) M1 env1=z2 at hr h2;obtain⟨env2,M2⟩:=z2;simp only at hr h2;split at hr
 ·rename_i y x hy hx;cases hr;exact⟨OO h2.slots ss y hy,P3 h2.hp os x hx⟩
 ·cases hr
theorem Kr(h:St F p env M a w){K:Ex->Env->Mem->Prop}(hc:c.wp P (jb (mkF F (Imm F p M w) w ks a) (kh ss os (onK ss os ks env K) K)) a w):c.wp P (jb F K) a w:=by
 refine qm (λe a' w' hl=>?_) hc
 cases e with
 |normal=>
  obtain⟨p1,env1,M1,h1,h2⟩:=hl;simp only[kh,B0]at h2;split at h2
  ·rename_i s hs;obtain⟨p2,h4,_⟩:=Ji h1 hs;obtain⟨o1,o2⟩:=IR h1 hs;simp only[onK,PL]at h2;exact⟨p2,_,_,h.back (St.add (λt _=>h.slots t) h4),h2 o1 o2⟩
  ·exact h2.elim
 |exit id|ret|goto l=>obtain⟨p1,env1,M1,h1,h2⟩:=hl;exact⟨p1,env1,M1,h.back h1,h2⟩
 |panic ch|outgrown=>exact hl.elim
theorem adq(hΦ:iF P F Φ)(hB:TabOk P B)(hmix:P.follows .mixedOrders=true)(hco:fA F.nt (toL ops)=true)(hfv:∀o∈toL ops,∀k,o.dst=some k->F.fv k=none)(hr:Lg (toL ops) cut=true)(hQ:∀p env M a w,St F p env M a w->K env M->Q .normal a w)(h:St F p env M a w)(hk:dw B Φ (toL ops) (du cut (toL ops)) env M (λenv=>tw B Φ (toL ops) (gu cut (toL ops)) env M K)):(Code.region id ops true).wp P Q a w:=by
 rw[ds]at hco hfv hr;rw[DN,Jh]at hk;simp only[Lg,ao]at hr;obtain⟨h1,h2,h3,h4⟩:=hr;obtain⟨E,V,e0,e1,e2⟩:=Pd _ _ _ _ hk;have hm:cut<=ops.toList.length:=ia h2;rw[ds,ez,yM hm]at e2;refine wp_region_any hmix ?_;have:=M_ (F:=F) (M:=M) (p:=p) (all:=ops) hΦ hB Q K hQ h1 cut (by simpa using hm) (by simpa using h3) (by simpa using h4) hco hfv E V (by simpa only [ds]using e1) (by simpa only [ds]using e2);exact this _ _ env a _ ak (λi _ hi=>absurd hi uZ) (KP _ _) (λj o _ hi=>absurd hi uZ) (λt=>⟨λ_=>by rw[e0],λi o _ hi=>absurd hi uZ⟩) h.drew
theorem YE(I:ι->Act->World->Prop)(μ:ι->Nat)(round:∀i a w,I i a w->c.wp P (Exit.then (λa' w'=>∃i',μ i'<μ i/\I i' a' w') Q') a w):∀i a w,I i a w->(Code.loop c).wp P Q' a w:=by
 intro i a w h0 b k cs
 have key:∀n i a w,μ i=n->I i a w->∃e a' w',Q' e a' w'/\Arrives P (lone (b.at a (.code c::.inLoop c::k)) cs w) b k cs e a' w':=by
  intro n
  induction n using Nat.strongRecOn with
  |_ n ih=>
   intro i a w hn hI;obtain⟨e,a1,w1,hq,harr⟩:=round i a w hI b (.inLoop c::k) cs
   cases e with
   |normal=>obtain⟨i',hlt,hI'⟩:=hq;obtain⟨e2,a2,w2,hq2,harr2⟩:=ih (μ i') (hn▸hlt) i' a1 w1 rfl hI';exact⟨e2,a2,w2,hq2,.of_steps (Steps.trans harr (.one step_inLoop)) harr2⟩
   |exit id|goto l|ret|panic ch|outgrown=>exact⟨_,a1,w1,hq,.pass (x:=.inLoop c) rfl (λ_ _=>.inl ak) harr⟩
 obtain⟨e,a',w',hq,harr⟩:=key _ i a w rfl h0;exact⟨e,a',w',hq,.of_steps (.one step_loop) harr⟩
def kW(all rest:bY)(env:Env):Prop:=∀t j w P v,gt env t=.gd j w P v->∃d,iN all j=some d/\P=gc (gt env d) w/\gW (gt env d)=true/\wIn d rest=false
def Fs(all:bY)(env:Env)(fs:wa):Prop:=∀j w,vV fs j w=true->∀d,iN all j=some d->gc (gt env d) w
theorem RA{a:bC}(h:y4 a b=true):a=b:=by cases a<;>cases b<;>simp[y4,neg]at h<;>rfl
theorem Z_{t:Nat}{o:fu}(h:vA t o=true):o=some t:=by
 cases o with
 |none=>cases h
 |some d=>rw[dh h]
theorem ZA(t:Nat):vA t (some t)=true:=Nat.beq_refl t
theorem DI{all rest:bY}{env:Env}(hI:kW all rest env):∀(n j:Nat)(w:bC)(d:Nat),iN all j=some d->gc (gt env d) w->Fs all env (gB all env n j w)
 |0,_,_,_,_,_=>λ_ _ h=>by cases h
 |n+1,j,w,d,hd,hg=>by
  intro i w' hm d' hd';simp only[gB,vV]at hm
  cases hb:nob (Nat.beq j i) (y4 w w')with
  |true=>simp only[aU,ao]at hb;have h1:=dh hb.1;have h2:=RA hb.2;subst h1 h2;rw[hd]at hd';cases hd';exact hg
  |false=>
   rw[hb]at hm;simp only[bp,hd]at hm
   cases hv:gt env d with
   |gd i2 w2 P2 v2=>rw[hv]at hm;obtain⟨d2,h1,h2,_,_⟩:=hI _ _ _ _ _ hv;rw[hv]at hg;simp only[gc]at hg;exact DI hI n i2 w2 d2 h1 (h2▸hg.1) i w' hm d' hd'
   |_=>rw[hv]at hm;simp[vV]at hm
theorem U4{x:eO}{w:bC}{P:Prop}(h:rd env x=.gd j w P v):∃t,gt env t=.gd j w P v:=by
 cases x with
 |tmp t=>exact⟨t,h⟩
 |const v=>
  simp only[rd]at h;unfold rdV at h;split at h<;>try cases h
  ·cases hb:nob (Nat.beq _ 0) (Nat.beq _ 0)<;>rw[hb]at h<;>cases h
 |func f|global _=>cases h
theorem AN{all rest:bY}{env:Env}{fs:wa}(hI:kW all rest env)(hf:Fs all env fs):∀(l:mJ),ab (ip (λx=>unG fs (rd env x)) l)->ab (ip (rd env) l)
 |[],_=>trivial
 |x::r,h=>by
  simp only[ip]at h⊢
  cases hv:rd env x with
  |gd j w P v=>
   rw[hv]at h;simp only[unG]at h
   cases hm:vV fs j w with
   |true=>
    rw[hm]at h;obtain⟨t,ht⟩:=U4 hv;obtain⟨d,h1,h2,_,_⟩:=hI _ _ _ _ _ ht;refine⟨h2▸hf j w hm d h1,AN hI hf r ?_⟩;simp only[aD]at h;split at h
    ·exact h.2
    ·exact h
   |false=>rw[hm]at h;exact⟨h.1,AN hI hf r h.2⟩
  |_=>rw[hv]at h;exact AN hI hf r h
theorem O7(hI:kW all rest env)(hf:Fs all env fs){c a:eO}(hb:(rd env c).strip.isB=true)(hc:ab (ip (rd env) [c]))(h:ab (pM (rd env c).strip.boolV side (ES all c side (unG fs (rd env a))))):ab (pM (rd env c).strip.boolV side (rd env a)):=by
 cases hv:rd env a with
 |gd j w P v=>
  obtain⟨t,ht⟩:=U4 hv;obtain⟨d,h1,h2,h3,_⟩:=hI _ _ _ _ _ ht;simp only[pM,e9,eY,aA];rw[hv]at h;simp only[unG]at h
  cases hm:vV fs j w with
  |true=>exactλ_=>h2▸hf j w hm d h1
  |false=>
   rw[hm]at h;simp only[bp]at h;unfold ES at h;split at h
   ·rename_i t' j' w' P' x' heq;cases heq
    cases hs:nob (vA t' (iN all j)) (y4 w side)with
    |false=>rw[hs]at h;exact h.1
    |true=>
     simp only[aU,ao]at hs;have e1:=Z_ hs.1;have e2:=RA hs.2;rw[h1]at e1;cases e1;subst e2;intro hcb;subst h2;simp only[rd]at hb hcb hc;simp only[ip]at hc
     cases hg:gt env d with
     |gd i w' P' v'=>simp only[rd,hg]at hc;rw[hg]at hb hcb;simp only[V.strip]at hb hcb;refine⟨hc.1,?_⟩;cases v'<;>simp only[V.isB,eE]at hb;rename_i tt x;cases tt<;>simp only[eE]at hb;exact hcb
     |d tt x=>rw[hg]at hb hcb;cases tt<;>simp only[V.strip,V.isB,eE]at hb;exact hcb
     |_=>rw[hg]at hb;simp[V.strip,V.isB]at hb
   ·exact h.1
 |_=>simp only[pM,eY]
theorem xL(hI:kW all rest env)(hf:Fs all env fs)(o:bR)(M:Mem):
  ∃vc,evR B Φ o env M=⟨vc,(evG B Φ all fs o env M).av,(evG B Φ all fs o env M).ev,(evG B Φ all fs o env M).M⟩/\(ab (evG B Φ all fs o env M).vc->ab vc):=by
 unfold evR evG;split
 ·rename_i c a b _;simp only[rj,BA,ck]
  cases hb:aP [(rd env c).strip.isB,(rd env a).strip.isB,(rd env b).strip.isB]with
  |false=>exact⟨_,rfl,id⟩
  |true=>
   refine⟨_,rfl,λh=>?_⟩
   have hcB:(rd env c).strip.isB=true:=by
    simp only[aP]at hb
    cases hc:(rd env c).strip.isB with
    |true=>rfl
    |false=>rw[hc]at hb;cases hb
   simp only[aD,fW]at h⊢;have hc:=AN hI hf [c] h.1;exact⟨hc,O7 hI hf hcB hc h.2.1,O7 hI hf hcB hc h.2.2⟩
 ·generalize bP B Φ o (λx=>(rd env x).strip) M=q;obtain⟨vc,v,e,M'⟩:=q;refine⟨_,rfl,λh=>?_⟩;simp only[fW]at h⊢;exact⟨AN hI hf _ h.1,h.2⟩
theorem abz:∀(e:cg)(v:V),gW v=true->v.evs e=v:=by
 intro e
 induction e with
 |nil=>intro v _;rfl
 |cons x e ih=>
  intro v h
  have key:∀v:V,gW v=true->v.ev x=v:=by
   intro v
   induction v with
   |gd j w P v ihv=>intro h;simp only[gW]at h;simp only[V.ev,ihv h]
   |d t y=>intro _;rfl
   |_=>intro h;simp[gW]at h
  simp only[V.evs,key v h];exact ih v h
theorem J0{d:Nat}{r:bY}(h:wIn d (o::r)=false):o.dst≠some d/\wIn d r=false:=by
 simp only[wIn]at h
 cases hs:vA d o.dst with
 |true=>rw[hs]at h;cases h
 |false=>rw[hs]at h;refine⟨λhe=>?_,h⟩;rw[he,ZA]at hs;cases hs
theorem Rm{d:Nat}:∀{a b:bY},wIn d (a++b)=false<->wIn d a=false/\wIn d b=false
 |[],b=>by simp[wIn]
 |o::a,b=>by
  simp only[oT,wIn]
  cases vA d o.dst with
  |true=>simp
  |false=>simpa using Rm
theorem Bb(d:fu)(v:V)(env:Env)(t:Nat):gt (wr d v env) t=if d=some t then v else gt env t:=pS d v env t
theorem P0:∀(t:T)(x:t.den),gx (fm t x)=false:=by intro t x;cases t<;>rfl
theorem QT(k:Nat)(π:bA)(e:Ev):gx (e.ref k π)=false:=by
 cases e with
 |fz r ob=>
  simp only[Ev.ref]
  cases Nat.beq k r with
  |false=>rfl
  |true=>
   simp only[aD];split
   ·exact P0 _ _
   ·rfl
 |cut r o o'=>simp only[Ev.ref];cases Nat.beq k r<;>cases kT π<;>rfl
 |mv r k'|kl r|un r j|kn r j=>simp only[Ev.ref];cases Nat.beq k r<;>rfl
 |tk r o o'=>simp only[Ev.ref];cases Nat.beq k r<;>cases orb (kT π) (ET (trk π o) (trk π o'))<;>rfl
theorem RI(k:Nat)(π:bA)(e:Ev):gx (e.ad k π)=false:=by
 cases e with
 |fz r ob=>
  simp only[Ev.ad]
  cases Nat.beq k r with
  |false=>rfl
  |true=>simp only[aD];split<;>rfl
 |cut r o o'|tk r o o'=>simp only[Ev.ad];cases Nat.beq k r<;>cases oy (gH π o) (gH π o')<;>rfl
 |mv r k'|kl r=>simp only[Ev.ad];cases Nat.beq k r<;>rfl
 |un r j=>
  simp only[Ev.ad]
  cases Nat.beq k r with
  |false=>rfl
  |true=>simp only[aD];split<;>rfl
 |kn r j=>
  simp only[Ev.ad]
  cases Nat.beq k r with
  |false=>rfl
  |true=>simp only[aD];split<;>rfl
theorem Dt(hI:kW all (o::rest) env)(hv:gx v=false)(he:∃e,∀t,gt env' t=(gt env t).evs e):kW all rest (wr o.dst v env'):=by
 obtain⟨e,he⟩:=he;intro t j w P x hx;rw[Bb]at hx;split at hx
 ·subst hx;cases hv
 ·rw[he]at hx
  have hsh:∃y,gt env t=.gd j w P y:=by
   clear he;generalize gt env t=q at hx
   induction e generalizing q with
   |nil=>exact⟨x,hx⟩
   |cons z e ih=>
    simp only[V.evs]at hx;obtain⟨y,hy⟩:=ih _ hx
    cases q with
    |gd j' w' P' v'=>simp only[V.ev,V.gd.injEq]at hy;obtain⟨rfl,rfl,rfl,_⟩:=hy;exact⟨v',rfl⟩
    |ref k π=>have:=QT k π z;simp only[V.ev]at hy;rw[hy]at this;cases this
    |ad k π=>have:=RI k π z;simp only[V.ev]at hy;rw[hy]at this;cases this
    |_=>simp[V.ev]at hy
  obtain⟨y,hy⟩:=hsh;obtain⟨d,h1,h2,h3,h4⟩:=hI t j w P y hy;obtain⟨h5,h6⟩:=J0 h4;have h7:gt (wr o.dst v env') d=gt env d:=by rw[Bb,ai h5,he,abz e _ h3]
  exact⟨d,h1,h7▸h2,h7▸h3,h6⟩
theorem Ax{dj:Nat}{w:bC}(hI:kW all (o::rest) env)(hd:iN all j=some dj)(hg:gW (gt env dj)=true)(hw:wIn dj (o::rest)=false):
  kW all rest (wr o.dst (.gd j w (gc (gt env dj) w) v) env):=by
 intro t i w' P x hx;rw[Bb]at hx;split at hx
 ·cases hx;obtain⟨h5,h6⟩:=J0 hw;have h7:∀q,gt (wr o.dst q env) dj=gt env dj:=λq=>by rw[Bb,ai h5]
  exact⟨dj,hd,by rw[h7],by rw[h7];exact hg,h6⟩
 ·obtain⟨d,h1,h2,h3,h4⟩:=hI t i w' P x hx;obtain⟨h5,h6⟩:=J0 h4;have h7:∀q,gt (wr o.dst q env) d=gt env d:=λq=>by rw[Bb,ai h5]
  exact⟨d,h1,by rw[h7];exact h2,by rw[h7];exact h3,h6⟩
theorem KM:Fs all env []:=λ_ _ h=>by cases h
theorem vo{all:bY}{K:Env->Mem->Prop}:∀(ops:bY)(env:Env)(M:Mem),kW all ops env->twG B Φ all ops env M K->tw B Φ all ops env M K
 |[],_,_,_,h=>h
 |o::rest,env,M,hI,h=>by
  simp only[twG]at h;simp only[tw]
  cases hgd:o.guard with
  |none=>
   rw[hgd]at h;obtain⟨vc,he,hvc⟩:=xL (B:=B) (Φ:=Φ) hI KM o M;rw[he];generalize evG B Φ all [] o env M=q at h hvc⊢;obtain⟨vc',v,e,M'⟩:=q;simp only at h hvc⊢
   cases hv:gx v with
   |true=>rw[hv]at h;exact h.elim
   |false=>rw[hv]at h;simp only[bp,kB]at h;rw[kB];exact⟨hvc h.1,vo rest _ _ (Dt hI hv ⟨e,λt=>l6 t e env⟩) h.2⟩
  |some g=>
   obtain⟨j,want⟩:=g;rw[hgd]at h;simp only at h⊢
   cases hd:iN all j with
   |none=>rw[hd]at h;exact h.elim
   |some dj=>
    rw[hd]at h;simp only at h⊢;by_cases hG:gc (gt env dj) want
    ·obtain⟨vc,he,hvc⟩:=xL (B:=B) (Φ:=Φ) hI (DI hI 8 j want dj hd hG) o M;rw[he];generalize evG B Φ all (gB all env 8 j want) o env M=q at h hvc⊢;obtain⟨vc',v,e,M'⟩:=q;simp only[aP]at h hvc⊢;cases h1:gW (gt env dj)<;>rw[h1]at h<;>try exact h.elim
     cases h2:gb o<;>rw[h2]at h<;>try exact h.elim
     cases h3:dv M e<;>rw[h3]at h<;>try exact h.elim
     cases h4:wIn dj (o::rest)<;>rw[h4]at h<;>try exact h.elim
     simp only[neg,aD,bp,xB]at h⊢;exact⟨λg=>hvc (h.1 g),vo rest _ _ (Ax hI hd h1 h4) h.2⟩
    ·have hev:(evR B Φ o env M).av=(evG B Φ all (gB all env 8 j want) o env M).av/\(evR B Φ o env M).ev=(evG B Φ all (gB all env 8 j want) o env M).ev/\(evR B Φ o env M).M=(evG B Φ all (gB all env 8 j want) o env M).M:=by
      unfold evR evG;split
      ·simp only[rj,BA,ck];cases aP [_,_,_]<;>simp[bad]
      ·exact⟨rfl,rfl,rfl⟩
     generalize evG B Φ all (gB all env 8 j want) o env M=q at h hev⊢;generalize evR B Φ o env M=q2 at hev⊢;obtain⟨vc',v,e,M'⟩:=q;obtain⟨vc2,v2,e2,M2⟩:=q2;simp only at hev;obtain⟨rfl,rfl,rfl⟩:=hev;simp only[aP]at h⊢;cases h1:gW (gt env dj)<;>rw[h1]at h<;>try exact h.elim
     cases h2:gb o<;>rw[h2]at h<;>try exact h.elim
     cases h3:dv M e2<;>rw[h3]at h<;>try exact h.elim
     cases h4:wIn dj (o::rest)<;>rw[h4]at h<;>try exact h.elim
     simp only[neg,aD,bp,xB]at h⊢;exact⟨λg=>absurd g hG,vo rest _ _ (Ax hI hd h1 h4) h.2⟩
theorem ae6(v:V):gx (avF M M' v)=false:=by
 cases v with
 |ref k π=>
  simp only[avF];split
  ·rfl
  ·split
   ·exact P0 _ _
   ·rfl
 |ad k π=>
  simp only[avF];split
  ·rfl
  ·split<;>rfl
 |_=>rfl
theorem KQ{all tl:bY}{K K':Env->Prop}(hK:∀env,kW all tl env->K' env->K env):∀(ops:bY)(env:Env)(M:Mem),kW all (ops++tl) env->dwG B Φ all tl ops env M K'->dw B Φ all ops env M K
 |[],env,_,hI,h=>hK env hI h
 |o::rest,env,M,hI,h=>by
  simp only[dwG]at h;simp only[dw]
  cases hgd:o.guard with
  |none=>
   rw[hgd]at h;obtain⟨vc,he,hvc⟩:=xL (B:=B) (Φ:=Φ) hI KM o M;rw[he];generalize evG B Φ all [] o env M=q at h hvc⊢;obtain⟨vc',v,e,M'⟩:=q;simp only[aP]at h hvc⊢;cases h2:gb o<;>rw[h2]at h<;>try exact h.elim
   cases h3:dv M e<;>rw[h3]at h<;>try exact h.elim
   simp only[aD,kB]at h;simp only[aD];rw[kB];exact⟨hvc h.1,KQ hK rest _ _ (Dt hI (ae6 v) ⟨[],λt=>rfl⟩) h.2⟩
  |some g=>
   obtain⟨j,want⟩:=g;rw[hgd]at h;simp only at h⊢
   cases hd:iN all j with
   |none=>rw[hd]at h;exact h.elim
   |some dj=>
    rw[hd]at h;simp only at h⊢
    have hev:(evR B Φ o env M).av=(evG B Φ all (gB all env 8 j want) o env M).av/\(evR B Φ o env M).ev=(evG B Φ all (gB all env 8 j want) o env M).ev/\(evR B Φ o env M).M=(evG B Φ all (gB all env 8 j want) o env M).M/\
      (gc (gt env dj) want->ab (evG B Φ all (gB all env 8 j want) o env M).vc->ab (evR B Φ o env M).vc):=by
     refine⟨?_,?_,?_,λhG=>?_⟩
     ·unfold evR evG;split
      ·simp only[rj,BA,ck];cases aP [_,_,_]<;>rfl
      ·rfl
     ·unfold evR evG;split<;>rfl
     ·unfold evR evG;split<;>rfl
     ·obtain⟨vc,he,hvc⟩:=xL (B:=B) (Φ:=Φ) hI (DI hI 8 j want dj hd hG) o M;rw[he];exact hvc
    generalize evG B Φ all (gB all env 8 j want) o env M=q at h hev⊢;generalize evR B Φ o env M=q2 at hev⊢;obtain⟨vc',v,e,M'⟩:=q;obtain⟨vc2,v2,e2,M2⟩:=q2;simp only at hev;obtain⟨rfl,rfl,rfl,hvc⟩:=hev;simp only[aP]at h⊢;cases h1:gW (gt env dj)<;>rw[h1]at h<;>try exact h.elim
    cases h2:gb o<;>rw[h2]at h<;>try exact h.elim
    cases h3:dv M e2<;>rw[h3]at h<;>try exact h.elim
    cases h4:wIn dj (o::rest)<;>rw[h4]at h<;>try exact h.elim
    cases h5:wIn dj tl<;>rw[h5]at h<;>try exact h.elim
    simp only[neg,aD,bp,xB]at h⊢;have h6:wIn dj (o::(rest++tl))=false:=by have:=(Rm (a:=o::rest) (b:=tl)).2 ⟨h4,h5⟩;simpa using this
    exact⟨λg=>hvc g (h.1 g),KQ hK rest _ _ (Ax hI hd h1 h6) h.2⟩
theorem A5:∀{env:Env},nogd env=true->kW all rest env:=by
 intro env h t j w P v hx;exfalso
 induction env with
 |nil=>simp[gt]at hx
 |cons p env ih=>
  obtain⟨k,u0⟩:=p;simp only[nogd]at h
  cases hu:gx u0 with
  |true=>rw[hu]at h;cases h
  |false=>
   rw[hu]at h;simp only[gt]at hx
   cases hb:Nat.beq k t with
   |true=>rw[hb]at hx;simp only[aD]at hx;subst hx;cases hu
   |false=>rw[hb]at hx;exact ih h hx
theorem Ak{env:Env}:∀{l:mJ},vq env l=true->∀x∈l,cG (rd env x)=true
 |[],_,x,h=>by cases h
 |y::l,hd,x,h=>by
  simp only[vq,aU,ao]at hd
  cases h with
  |head=>exact hd.1
  |tail _ h=>exact Ak hd.2 x h
theorem JA(k:Nat)(M M':Mem):∀(t:T)(v:V),cG v=true->∀q e X,conv k t v M'=some (q,e,X)->e=[]/\X=M'/\conv k t v M=some (q,[],M):=by
 intro t v
 induction v generalizing t with
 |p a b iha ihb=>
  intro h q e X hc;simp only[cG,aU,ao]at h;cases t<;>simp only[conv]at hc<;>try cases hc
  rename_i t1 t2
  cases h1:conv k t1 a M' with
  |none=>rw[h1]at hc;cases hc
  |some r=>
   obtain⟨q1,e1,X1⟩:=r;rw[h1]at hc;obtain⟨rfl,hX1,i1⟩:=iha _ h.1 _ _ _ h1;rw[hX1]at hc;simp only[V.evs]at hc
   cases h2:conv k t2 b M' with
   |none=>rw[h2]at hc;cases hc
   |some r2=>obtain⟨q2,e2,X2⟩:=r2;rw[h2]at hc;obtain⟨rfl,hX2,i2⟩:=ihb _ h.2 _ _ _ h2;cases hc;refine⟨rfl,hX2,?_⟩;simp only[conv,i1,V.evs,i2,ap]
 |u|d t' x|nl|np=>intro _ q e X hc;cases t<;>simp only[conv]at hc⊢<;>cases hc<;>exact⟨rfl,rfl,rfl⟩
 |fn f v ih=>intro h q e X hc;cases v<;>cases t<;>simp only[conv]at hc⊢<;>cases hc<;>exact⟨rfl,rfl,rfl⟩
 |ag v ih|bx v ih=>intro _ q e X hc;cases t<;>simp only[conv]at hc<;>cases hc
 |_=>intro h;cases h
theorem J_(h:cG v=true):cG v.cells=true:=by cases v<;>exact h
def af4(B:Tab)(Φ:dM)(o:bR)(e:Env)(x:Mem)(e':Env)(x':Mem):Prop:=
 o.guard=none/\(
  (∃ty d,o.op=.alloc ty/\o.dst=some d/\aP [(B.τ ty).ok,B.z ty]=true/\go x d=none/\e'=(d,.ad d [.de])::e/\x'=(d,Ux B ty)::x)\/
  (∃t d y ob ob',o.op=.store t (.tmp d) y/\o.dst=none/\go x d=some ob/\cG (rd e y)=true/\agm d (gt e d)=true/\one1 d (vf B t (.ad d [.de]) (rd e y) [(d,ob)])=some ob'/\e'=e/\x'=put d ob' x)\/
  (∃d vc v,o.dst=some d/\lE o.op=true/\vq e (bq o.op)=true/\evR B Φ o e []=⟨vc,v,[],[]⟩/\cG v=true/\ab vc/\e'=(d,v)::e/\x'=x))
theorem St.same(h:St F p env M a w)(hM:∀k,go M' k=go M k)(he:∀t,gt env' t=gt env t):St F p env' M' a w:=by
 have hl:∀k,bF M' k<->bF M k:=λk=>by simp only[bF,hM]
 have hi:Imm F p M' w=Imm F p M w:=by
  funext b
  simp only[Imm,hl]
 have hp:Hp F p M' w:=by refine⟨λk ob hk=>?_,λk k' b h1 h2 h3=>h.hp.sep k k' b h1 ((hl k).1 h2) ((hl k').1 h3),λk b h1=>h.hp.own k b ((hl k).1 h1),λb hb=>⟨(h.hp.lim b hb).1,(h.hp.lim b hb).2.1,λk hk=>(h.hp.lim b hb).2.2 k ((hl k).1 hk)⟩,h.hp.os,h.hp.tape,h.hp.output,h.hp.size,h.hp.old⟩;rw[hi];exact h.hp.objs k ob (by rw[←hM];exact hk)
 have ht:Tr F p M w [] p M' w:=Tr.zero (by rw[hi];exact cN.refl _ _) (λk π vs r=>r.same h.hp (hM k) rfl λ_ _ _=>rfl) (λk π v r=>r.same h.hp (hM k) rfl λ_ _ _=>rfl) hp;exact (h.tr ht h.lz).weak λt=>.inr (by rw[he];rfl)
section
variable {all:gf}
structure Sta (B:Tab) (all:gf) (E:Nat->Env) (X:Nat->Mem) (M0:Mem) (listed:gg) (env:Env) (M:Mem):Prop where
 a:∀t,(∀(i:Nat)(o:bR),all[i]? = some o->isL listed i->o.dst≠some t)->gt env t=gt (E 0) t
 b:∀(i:Nat)(o:bR)(t:Nat),all[i]? = some o->isL listed i->o.dst=some t->gt env t=gt (E (i+1)) t
 c:∀k,(∀(i:Nat)(o:bR)(ty:bW),all[i]? = some o->isL listed i->o.op=.alloc ty->o.dst≠some k)->go M k=go M0 k
 d:∀(i:Nat)(o:bR)(k:Nat)(ty:bW),all[i]? = some o->isL listed i->o.op=.alloc ty->o.dst=some k->(∀(s:Nat)(o':bR),all[s]? = some o'->isL listed s->tgt o'≠some k)->go M k=some (Ux B ty)
 s:∀(s:Nat)(o:bR)(k:Nat),all[s]? = some o->isL listed s->tgt o=some k->go M k=go (X (s+1)) k
structure Ctx (B:Tab) (Φ:dM) (all:gf) (E:Nat->Env) (X:Nat->Mem) (M0:Mem):Prop where
 hb:kG 0 all.toList=true
 hdr:tD all (db [] all.toList) all.size=true
 hnd:KJ (FL all.toList)=true
 hE:∀(j:Nat)(o:bR),all[j]? = some o->af4 B Φ o (E j) (X j) (E (j+1)) (X (j+1))
 hX:X 0=[]
 h0:∀t (i:Nat) (o:bR) (ty:bW) (k:Nat),all[i]? = some o->o.op=.alloc ty->o.dst=some k->(gt (E 0) t).ev (.kl k)=gt (E 0) t
 hM:∀(i:Nat)(o:bR)(ty:bW)(k:Nat),all[i]? = some o->o.op=.alloc ty->o.dst=some k->go M0 k=none
theorem Ks(hj:j<listed.size):isL (listed.setIfInBounds j true) i<->i=j\/isL listed i:=by
 by_cases e:i=j
 ·subst e;simp[isL,hj]
 ·unfold isL;rw[qk false (dg e)];simp[e]
theorem pR(X M:Mem)(k:Nat):go (ap X M) k=match go X k with|some ob=>some ob|none=>go M k:=by
 induction X with
 |nil=>rfl
 |cons x X ih=>
  obtain⟨j,ob⟩:=x;simp only[ap,dR];split
  ·rfl
  ·exact ih
theorem ad8(hΦ:iF P F Φ)(hB:TabOk P B)(hmix:P.follows .mixedOrders=true)(hco:fA F.nt (toL ops)=true)(hfv:∀o∈toL ops,∀k,o.dst=some k->F.fv k=none)(hr:Ug (toL ops)=true)(hQ:∀p env M a w,St F p env M a w->K env M->Q .normal a w)(h:St F p env M a w)(hk:bx B Φ (toL ops) (klE (xo (toL ops)) env) [] (λenv X=>K env (ap X (klM (xo (toL ops)) M)))):(Code.region id ops true).wp P Q a w:=by
 exact False.elim hk
end
def agK(M M0:Mem)(k:Nat):Prop:=go M k=go M0 k/\go M0 k≠none
def agV(M M0:Mem):V->Prop
 |.p a b=>agV M M0 a/\agV M M0 b
 |.ag v|.fn _ v|.bx v=>agV M M0 v
 |.ref k _|.ad k _=>agK M M0 k
 |.gd _ _ _ _|.ifc _ _|.tup _=>False
 |_=>True
theorem aex(h:agK M M0 k):go M k=go M0 k:=h.1
theorem qS(h:agK M M0 k)(π:bA):fq M k π=fq M0 k π:=by unfold fq;rw[aex h]
theorem DM:∀v:V,agV M M0 v->v.size M=v.size M0
 |.d _ _,_|.nl,_|.np,_|.u,_=>rfl
 |.p a b,h=>by simp only[agV]at h;simp only[V.size,DM a h.1,DM b h.2]
 |.ag v,h|.fn f v,h|.bx v,h|.any,h=>rfl
 |.ref k π,h=>by simp only[V.size,qS h]
 |.ad _ _,h=>rfl
 |.tup _,h|.gd _ _ _ _,h|.ifc _ _,h=>by cases h
theorem xj(v:V)(n:Nat)(h:agV M M0 v):fX M v n=fX M0 v n:=by simp only[fX,DM v h]
theorem xm:∀v:V,cG v=true->agV M M0 v
 |.p a b,h=>by simp only[cG,aU,ao]at h;simp only[agV];exact⟨xm a h.1,xm b h.2⟩
 |.ag v,h|.fn f v,h|.bx v,h=>xm v h
 |.d _ _,_|.nl,_|.np,_|.u,_=>trivial
 |.any,h|.ref _ _,h|.ad _ _,h|.tup _,h|.gd _ _ _ _,h|.ifc _ _,h=>by cases h
theorem Qz:∀(t:T)(x:t.den),cG (fm t x)=true:=by
 intro t
 induction t with
 |p a b iha ihb=>intro x;simp only[fm,cG,aU,ao];exact⟨iha x.1,ihb x.2⟩
 |_=>intro x;rfl
theorem acr(h:agK M M0 k):∀(π:bA)(o:O)(x:o.strip.den),agV M M0 (toV k π o x):=by
 intro π o x
 cases o with
 |fz t=>simp only[toV];exact xm _ (Qz _ _)
 |_=>exact h
theorem A6:∀(π:bA)(v:V),agV M M0 v->gj M π v=gj M0 π v/\∀n x,gj M0 π v=some (n,x)->agV M M0 x
 |[],v,h=>by simp only[gj,aG,bS];exact⟨trivial,λn x e=>e.2▸h⟩
 |.l::π,.p a b,h=>by simp only[agV]at h;simp only[gj];exact A6 π a h.1
 |.r::π,.p a b,h=>by
  simp only[agV]at h;obtain⟨e1,e2⟩:=A6 π b h.2;simp only[gj,e1,DM a h.1];refine⟨trivial,λn x hx=>?_⟩;split at hx
  ·rename_i m n' x' _ h2;cases hx;exact e2 _ _ h2
  ·cases hx
 |s::π,.ref k ρ,h=>by
  have hk:agK M M0 k:=h
  have e:∀M:Mem,gj M (s::π) (.ref k ρ)=(match fq M k ρ,fq M k (ap ρ (s::π))with
   |some q,some q'=>(match ii (s::π) q.o.strip with|some n=>some (n,toV k (ap ρ (s::π)) q'.o q'.x)|none=>none)
   |_,_=>none):=λM=>by cases s<;>rfl
  rw[e,e,qS hk,qS hk];refine⟨rfl,λn x hx=>?_⟩;split at hx
  ·split at hx
   ·cases hx;exact acr hk _ _ _
   ·cases hx
  ·cases hx
 |.de::π,.p a b,_|.ix _::π,.p a b,_|.l::π,.d _ _,_|.r::π,.d _ _,_|.de::π,.d _ _,_|.ix _::π,.d _ _,_|_::π,.nl,_|_::π,.np,_|_::π,.u,_|_::π,.ag _,_|_::π,.fn _ _,_|_::π,.bx _,_|_::_,.any,h|_::_,.ad _ _,h=>by simp[gj]
 |_::_,.tup _,h|_::_,.gd _ _ _ _,h|_::_,.ifc _ _,h=>by cases h
theorem QP(x:V)(π:bA)(off:Nat)(h:agV M M0 x):rG M x π off=rG M0 x π off:=by
 cases x with
 |ad k ρ=>simp only[rG,qS h]
 |bx v=>simp only[agV]at h;simp only[rG,(A6 π v h).1]
 |d t y=>cases t<;>rfl
 |_=>rfl
theorem Z4(τ:Ty)(x:V)(i:Nat)(h:agV M M0 x):vn τ M x i=vn τ M0 x i:=by simp only[vn,QP x _ _ h]
theorem j_(τ:Ty)(x:V)(i:Nat)(h:agV M M0 x):vu B τ M x i=vu B τ M0 x i:=by
 unfold vu;split
 ·rename_i off ft _ v _;simp only[agV]at h;obtain⟨e1,e2⟩:=A6 (rx (len τ.fld) i) v h;rw[e1]
  cases hs:gj M0 (rx (len τ.fld) i) v with
  |none=>rfl
  |some q=>obtain⟨n,w⟩:=q;simp only[xj w _ (e2 _ _ hs)]
 ·rfl
theorem ZS(τ:Ty)(x i:V)(h:agV M M0 x):vv B τ M x i=vv B τ M0 x i:=by
 unfold vv;split
 ·cases x with
  |ref k π=>simp only[qS h]
  |d t x=>cases t<;>rfl
  |_=>rfl
 ·rfl
theorem x_(τ:Ty)(x i:V)(h:agV M M0 x):vy B τ M x i=vy B τ M0 x i:=by
 unfold vy;split
 ·simp only[Lp,QP x _ _ h]
 ·exact ZS τ x i h
theorem aah(τ:Ty)(d:fu){x:V}(h:agV M M0 x):(rF τ M d x=none)=(rF τ M0 d x=none):=by rfl
theorem Z6(τ:Ty)(x:V)(h:agV M M0 x):p7 τ M x=p7 τ M0 x:=by
 cases x with
 |ad k π=>simp only[p7,qS h]
 |bx v=>simp only[agV]at h;simp only[p7,xj _ _ h]
 |d t x=>cases t<;>rfl
 |_=>rfl
theorem Zl{s d:bW}{x:V}(h:agV M M0 x):vl B s d M x=vl B s d M0 x:=by
 have:yz M x=yz M0 x:=by
  cases x with
  |ref k π=>simp only[yz,qS h]
  |_=>rfl
 simp only[vl,this]
theorem ZY{x:V}(h:agV M M0 x):vt τ M x=vt τ M0 x:=by
 cases x with
 |ref k π=>simp only[vt,qS h]
 |d t y=>cases t<;>first|rfl|(rename_i t y;cases t<;>rfl)|(rename_i t;cases t<;>rfl)
 |_=>rfl
theorem QI(h:agK M M0 k)(π:bA)(t:T):vH M k π t=vH M0 k π t:=by unfold vH;rw[qS h]
theorem abi:∀(v:V)(t:T),agV M M0 v->v.view M t=v.view M0 t:=by
 intro v
 induction v with
 |p a b iha ihb=>intro t h;simp only[agV]at h;cases t<;>first|rfl|(simp only[V.view];rw[iha _ h.1,ihb _ h.2])
 |fn f v ih|bx v ih=>intro t h;cases t<;>first|rfl|(simp only[V.view];rw[ih _ h])
 |ref k π=>intro t h;cases t<;>simp only[V.view]<;>exact QI h _ _
 |ad k π=>intro t h;cases t<;>first|rfl|(simp only[V.view];exact QI h _ _)
 |gd _ _ _ _=>intro t h;cases h
 |any=>intro t h;cases t<;>rfl
 |tup _|ifc _ _=>intro t h;cases h
 |ag v|d t' x|nl|np|u=>intro t h;cases t<;>rfl
theorem OM(h:agV M M0 v):agV M M0 v.cells:=by cases v<;>exact h
theorem Pp:∀(vs:cK)(ts:eT),(∀v∈vs,agV M M0 v)->jY M vs ts=jY M0 vs ts
 |[],[],_|[],_::_,_|_::_,[],_=>rfl
 |v::r,t::ts,h=>by simp only[jY];rw[abi v.cells t (OM (h v ak)),Pp r ts λx hx=>h x (by simp[hx])]
theorem aa2:∀(v:V)(M:Mem),(cD M v).1=[]\/∃k ob r,(cD M v).1=.fz k ob::r:=by
 intro v
 induction v with
 |p a b iha ihb=>
  intro M;simp only[cD];rcases iha M with h|⟨k,ob,r,h⟩
  ·rw[h];rcases ihb (cD M a).2 with h2|⟨k,ob,r,h2⟩
   ·rw[h2];exact .inl rfl
   ·rw[h2];exact .inr ⟨k,ob,r,rfl⟩
  ·rw[h];exact .inr ⟨k,ob,_,rfl⟩
 |ref k π|ad k π=>intro M;simp only[cD];cases go M k<;>simp
 |ag v ih|fn f v ih|ifc f v ih|bx v ih|tup v ih|gd _ _ _ v ih=>intro M;simp only[cD];exact ih M
 |_=>intro M;exact .inl rfl
theorem OJ:∀(vs:cK)(M:Mem),(eN M vs).1=[]\/∃k ob r,(eN M vs).1=.fz k ob::r
 |[],M=>.inl rfl
 |v::vs,M=>by
  simp only[eN];rcases aa2 v M with h|⟨k,ob,r,h⟩
  ·rw[h];rcases OJ vs (cD M v).2 with h2|⟨k,ob,r,h2⟩
   ·rw[h2];exact .inl rfl
   ·rw[h2];exact .inr ⟨k,ob,r,rfl⟩
  ·rw[h];exact .inr ⟨k,ob,_,rfl⟩
theorem Kc{a b:List α}(h:ap a b=[]):a=[]/\b=[]:=by cases a<;>simp[ap]at h⊢;exact h
theorem ab5:∀(v:V),agV M M0 v->(cD M0 v).1=[]->∀M1:Mem,cD M1 v=([],M1):=by
 intro v
 induction v with
 |p a b iha ihb=>intro h e M1;simp only[agV]at h;simp only[cD]at e⊢;obtain⟨e1,e2⟩:=Kc e;have ha:=iha h.1 e1;rw[ha M0]at e2;simp only at e2;rw[ha M1];simp only;rw[ihb h.2 e2 M1];rfl
 |fn f v ih|bx v ih|ag v ih=>intro h e M1;simp only[cD]at e⊢;exact ih h e M1
 |ref k π=>
  intro h e M1;simp only[cD]at e
  cases hg:go M0 k with
  |none=>exact absurd hg h.2
  |some ob=>rw[hg]at e;cases e
 |ad k π=>
  intro h e M1;simp only[cD]at e
  cases hg:go M0 k with
  |none=>exact absurd hg h.2
  |some ob=>rw[hg]at e;cases e
 |gd _ _ _ _=>intro h;cases h
 |any=>intro h e M1;rfl
 |tup _|ifc _ _=>intro h;cases h
 |d t' x|nl|np|u=>intro h e M1;rfl
theorem Q0:∀vs:List V,(∀v∈vs,agV M M0 v)->(eN M0 vs).1=[]->∀M1:Mem,eN M1 vs=([],M1)
 |[],_,_,_=>rfl
 |v::r,h,e,M1=>by simp only[eN]at e⊢;obtain⟨e1,e2⟩:=Kc e;have ha:=ab5 v (h v ak) e1;rw[ha M0]at e2;simp only at e2;rw[ha M1];simp only;rw[Q0 r (λx hx=>h x (by simp[hx])) e2 M1];rfl
theorem Q5:∀vs:List V,gv [] vs=vs
 |[]=>rfl
 |v::r=>by simp only[gv,V.evs];rw[Q5 r]
theorem J4:∀(π:bA)(v x:V),agV M M0 v->agV M M0 x->∀v',iV π v x=some v'->agV M M0 v'
 |[],v,x,_,hx,v',h=>by simp only[iV,aG]at h;subst h;exact hx
 |.l::π,v,x,hv,hx,v',h=>by
  cases v with
  |p a b=>
   simp only[agV]at hv;simp only[iV]at h
   cases hs:iV π a x with
   |none=>rw[hs]at h;cases h
   |some a'=>rw[hs]at h;simp only[aG]at h;subst h;exact⟨J4 π a x hv.1 hx a' hs,hv.2⟩
  |_=>simp[iV]at h
 |.r::π,v,x,hv,hx,v',h=>by
  cases v with
  |p a b=>
   simp only[agV]at hv;simp only[iV]at h
   cases hs:iV π b x with
   |none=>rw[hs]at h;cases h
   |some b'=>rw[hs]at h;simp only[aG]at h;subst h;exact⟨hv.1,J4 π b x hv.2 hx b' hs⟩
  |_=>simp[iV]at h
 |.ix _::_,v,x,_,_,v',h|.de::_,v,x,_,_,v',h=>by cases v<;>simp[iV]at h
theorem Jt:∀t:T,agV M M0 (iZ t)
 |.p a b=>⟨Jt a,Jt b⟩
 |.sl _|.u|.pt _|.fn _ _|.ifc _ _|.ib _ _|.mp _ _|.op _|.ns _|.er _|.int _|.bool|.str|.any=>trivial
theorem Ox(place:Nat->Option (bA×Nat×Nat))(f:eD):∀(ps:oP) (v:V),(∀x∈bq.snds ps,agV M M0 (f x))->agV M M0 v->mg M place f ps v=mg M0 place f ps v
 |[],_,_,_=>rfl
 |(i,x)::r,v,hf,hv=>by
  simp only[mg]
  cases place i with
  |none=>rfl
  |some q=>
   obtain⟨π,off,n⟩:=q;simp only;obtain⟨e1,e2⟩:=A6 π v hv;rw[e1];have hx:=OM (hf x (by simp[bq.snds]))
   cases hs:gj M0 π v with
   |none=>rfl
   |some q=>
    obtain⟨m,w⟩:=q;simp only[xj w n (e2 m w hs),xj _ n hx]
    cases hq:iV π v (f x).cells with
    |none=>rfl
    |some v'=>simp only[Ox place f r v' (λy hy=>hf y (by simp[bq.snds,hy])) (J4 π v _ hv hx v' hq)]
theorem O':∀(v:V),agV M M0 v->jT M v=jT M0 v/\∀cs,jT M0 v=some cs->∀c∈cs,agV M M0 c:=by
 intro v
 induction v with
 |p a b iha ihb=>
  intro h;simp only[agV]at h;obtain⟨h1,h2⟩:=ihb h.2;simp only[jT];rw[h1,xj a 1 h.1];refine⟨rfl,λcs hcs=>?_⟩
  cases hb:jT M0 b with
  |none=>rw[hb]at hcs;cases hcs
  |some r=>
   rw[hb]at hcs;simp only at hcs
   cases hz:fX M0 a 1 with
   |false=>rw[hz]at hcs;cases hcs
   |true=>
    rw[hz]at hcs;simp only[aD,aG]at hcs;subst hcs;intro c hc;rcases cQ.1 hc with rfl|hc
    ·exact h.1
    ·exact h2 r hb c hc
 |u=>intro _;exact⟨rfl,λcs h=>by simp only[jT,aG]at h;subst h;intro c hc;cases hc⟩
 |_=>intro _;exact⟨rfl,λcs h=>by simp[jT]at h⟩
theorem ad4{x:V}{f:gp}(h:agV M M0 x)(hf:qe x=some (f,v)):agV M M0 v:=by
 cases x with
 |fn g y=>simp only[qe,aG,bS]at hf;obtain⟨_,rfl⟩:=hf;exact h
 |d t y=>
  cases t with
  |fn g t=>simp only[qe,aG,bS]at hf;obtain⟨_,rfl⟩:=hf;exact xm _ (Qz _ _)
  |_=>simp[qe]at hf
 |_=>simp[qe]at hf
theorem lY(h:agV M M0 v):v.strip=v:=by cases v<;>first|rfl|cases h
theorem D1(hk:∀k,go M0 k≠none->go M k≠none->go M k=go M0 k):∀(v:V),n9 M0 v=true->∀vs,ac β M Im w v vs->agV M M0 v:=by
 have key:∀k,neg (isN (go M0 k))=true->go M k≠none->agK M M0 k:=λk h h2=>by
  have:go M0 k≠none:=λe=>by rw[e]at h;cases h
  exact⟨hk k this h2,this⟩
 intro v
 induction v with
 |p a b iha ihb=>intro h vs r;simp only[n9,aU,ao]at h;simp only[ac]at r;obtain⟨va,vb,_,h1,h2⟩:=r;exact⟨iha h.1 _ h1,ihb h.2 _ h2⟩
 |ref j π=>intro h vs r;simp only[ac]at r;obtain⟨ob,_,h1,_⟩:=r;exact key j h (by rw[h1];simp)
 |ad j π=>intro h vs r;simp only[ac]at r;obtain⟨_,_,ob,_,_,_,h1,_⟩:=r;exact key j h (by rw[h1];simp)
 |fn f v ih=>intro h vs r;simp only[ac]at r;obtain⟨us,_,h1⟩:=r;exact ih h _ h1
 |bx v ih=>intro h vs r;simp only[ac]at r;obtain⟨_,_,us,_,_,_,h1⟩:=r;exact ih h _ h1
 |ag v=>intro h vs r;simp only[ac]at r
 |tup v|gd _ _ _ v|ifc _ v=>intro h;cases h
 |_=>intro h vs r;trivial
theorem ae2(hk:∀k,go M0 k≠none->go M k≠none->go M k=go M0 k)(v:V)(h:n9 M0 v=true)(u:bm)(r:aj β M Im w v u):agV M M0 v:=by
 cases v with
 |ag v=>simp only[aj]at r;obtain⟨vs,_,r⟩:=r;exact D1 hk v h _ r
 |any=>trivial
 |tup v|gd _ _ _ v|ifc _ v=>cases h
 |p a b=>simp only[aj]at r;exact D1 hk _ h _ r
 |u=>trivial
 |ref j π|ad j π=>simp only[aj]at r;exact D1 hk _ h _ r
 |d t x|nl|np=>trivial
 |fn f v|bx v=>simp only[aj]at r;exact D1 hk _ h _ r
theorem Do{env:Env}:∀{l:mJ},xG M0 env l=true->∀x∈l,n9 M0 (rd env x)=true
 |[],_,x,h=>by cases h
 |y::l,hd,x,h=>by
  simp only[xG,aU,ao]at hd
  cases h with
  |head=>exact hd.1
  |tail _ h=>exact Do hd.2 x h
theorem agv(x:eO)(h:∀t,x≠.tmp t):agV M M0 (rd env x):=by
 cases x with
 |tmp t=>exact absurd rfl (h t)
 |const v=>
  cases v with
  |slice a n m=>
   simp only[rd]
   cases a with
   |none=>simp only[rdV];cases nob (Nat.beq n 0) (Nat.beq m 0)<;>trivial
   |some _=>trivial
  |pointer a=>cases a<;>trivial
  |_=>trivial
 |func f|global g=>trivial
theorem br(h:bi M=⟨vc,v,e,N⟩)(hv:ab vc):False:=by simp only[bi,Rs.mk.injEq]at h;rw[←h.1]at hv;simp[ab]at hv
theorem gq(h:ab (ap (ip f l) vc)):ab vc:=by rw[fW]at h;exact h.2
theorem S5{ks r:Mem}:du (len (klL (bJ ks))) (ap ks r)=ks:=by
 induction ks with
 |nil=>simp[bJ,klL,len,du]
 |cons q ks ih=>obtain⟨k,ob⟩:=q;simp only[bJ,klL,len,ap,du];rw[ih]
theorem aav{r:cg}(h:klB (ap (.fz k ob::r) e) N=true):False:=by cases N<;>simp[ap,klB]at h
theorem adj{o:O}{r:cg}:∀(e:cg)(N:Mem),klB (ap e (.cut k o o::r)) N=false:=λe=>by
 induction e with
 |nil=>intro N;cases N<;>rfl
 |cons x e ih=>intro N;cases x<;>cases N<;>first|rfl|(rename_i q N;obtain⟨j,ob⟩:=q;simp only[ap,klB,ih,aU,Bool.and_false])
theorem P1{d:Nat}(h:qT k W d r M=⟨vc,v,e,N⟩)(hv:ab vc)(he:klB e N'=true):False:=by
 unfold qT at h
 cases hb:shp r W.ag with
 |false=>rw[hb]at h;exact br h hv
 |true=>
  rw[hb]at h;simp only[aD]at h;split at h
  ·split at h
   ·(try simp only at h)
    cases hi:inN _ _ with
    |true=>rw[hi]at h;exact br h hv
    |false=>rw[hi]at h;simp only[bp,Rs.mk.injEq]at h;obtain⟨_,_,rfl,_⟩:=h;rw[adj]at he;cases he
   ·exact br h hv
  ·exact br h hv
theorem aal{d:Nat}(h:tv W d r M=⟨vc,v,e,N⟩)(hv:ab vc)(he:klB e N'=true):False:=by
 unfold tv at h;split at h
 ·split at h
  ·cases hb:nr W.o with
   |false=>rw[hb]at h;exact br h hv
   |true=>rw[hb]at h;exact P1 h hv he
  ·split at h
   ·cases hb:slO W.o with
    |false=>rw[hb]at h;exact br h hv
    |true=>rw[hb]at h;exact P1 h hv he
   ·exact br h hv
 ·exact br h hv
theorem aes{W:Wc}(h:tG W r M=⟨vc,v,e,N⟩)(hv:ab vc)(he:klB e N'=true):False:=by
 unfold tG at h;split at h
 ·cases hb:nob _ _ with
  |false=>rw[hb]at h;exact br h hv
  |true=>
   rw[hb]at h;simp only[aD]at h;split at h
   ·split at h
    ·simp only[Rs.mk.injEq]at h;obtain⟨_,_,rfl,_⟩:=h;cases N'<;>simp[klB]at he
    ·exact br h hv
   ·exact br h hv
 ·exact br h hv
theorem ZR(h:∀v∈vs,agV M M0 v):∀l:List Pv,xY M vs l=xY M0 vs l:=λ_=>rfl
theorem Qw{d:Nat}(hd:∀v∈vs,agV M M0 v)(h:qc ct d vs M0=⟨vc,v,e,N⟩)(hv:ab vc)(he:klB e (du (len e) N)=true):
  qc ct d vs M=⟨vc,v,e,ap (du (len e) N) (fM (bJ (du (len e) N)) M)⟩:=by
 unfold qc at h⊢
 cases hs:shp vs ct.ga with
 |false=>rw[hs]at h;exact (br h hv).elim
 |true=>
  rw[hs]at h;simp only[aD]at h⊢
  cases hsh:ct.sh with
  |false=>
   rw[hsh]at h;simp only at h⊢;rw[Pp vs ct.args hd]
   cases hx:jY M0 vs ct.args with
   |none=>rw[hx]at h;exact (br h hv).elim
   |some x=>rw[hx]at h;simp only at h⊢;generalize newL d 0 ct.rt (ct.res x)=q at h⊢;obtain⟨v',N',_⟩:=q;simp only[Rs.mk.injEq]at h⊢;obtain⟨rfl,rfl,rfl,rfl⟩:=h;rw[S5];exact⟨rfl,rfl,rfl,rfl⟩
  |true=>
   rw[hsh]at h;simp only at h⊢;rcases OJ vs M0 with hn|⟨k,ob,r,hn⟩
   ·have hf:=Q0 vs hd hn;rw[hf M0]at h;rw[hf M];simp only[Q5]at h⊢
    cases hx:asL vs ct.args with
    |none=>rw[hx]at h;exact (br h hv).elim
    |some x=>rw[hx]at h;simp only at h⊢;generalize newL d 0 ct.rt (ct.res x)=q at h⊢;obtain⟨v',N',_⟩:=q;simp only[Rs.mk.injEq]at h⊢;obtain⟨rfl,rfl,rfl,rfl⟩:=h;have:∀l:List Ev,ap [] l=l:=λ_=>rfl;rw[this,S5];exact⟨rfl,rfl,rfl,rfl⟩
   ·exfalso;generalize eN M0 vs=q at h hn;obtain⟨e1,M1⟩:=q;simp only at hn h;subst hn;split at h
    ·simp only[Rs.mk.injEq]at h;obtain⟨_,_,rfl,_⟩:=h;exact aav he
    ·exact br h hv
theorem ZP{d:Nat}(hd:∀v∈vs,agV M M0 v)(h:oq ct d vs M0=⟨vc,v,e,N⟩)(hv:ab vc)(he:klB e (du (len e) N)=true):
  oq ct d vs M=⟨vc,v,e,ap (du (len e) N) (fM (bJ (du (len e) N)) M)⟩:=by
 unfold oq at h⊢
 cases hmu:ct.mu with
 |some mu=>
  cases mu with
  |o O=>rw[hmu]at h;exfalso;change Bw O vs M0=_ at h;exact (br h hv).elim
  |m m=>rw[hmu]at h;exfalso;simp only at h;exact (br h hv).elim
  |w W=>rw[hmu]at h;exact (aal h hv he).elim
  |k W=>rw[hmu]at h;simp only at h⊢;exact (br h hv).elim
  |c W=>rw[hmu]at h;exact (aes h hv he).elim
  |s s=>rw[hmu]at h;exact (br h hv).elim
  |a W=>
   rw[hmu]at h;exfalso
   have hcut:∀(e:cg)(k:Nat)(o:O)(r:cg)(N:Mem),klB (ap e (.cut k o o::r)) N=false:=λe k o r=>by
    induction e with
    |nil=>intro N;cases N<;>rfl
    |cons x e ih=>intro N;cases x<;>cases N<;>first|rfl|(rename_i q N;obtain⟨j,ob⟩:=q;simp only[ap,klB,ih,aU,Bool.and_false])
   simp only at h;unfold xA at h;split at h
   ·split at h
    ·generalize aP [ro W.o W.way,_,_]=b at h
     cases b with
     |false=>exact br h hv
     |true=>
     simp only[aD]at h;split at h
     ·split at h
      ·simp only[Rs.mk.injEq]at h;obtain⟨_,_,rfl,_⟩:=h;rw[hcut]at he;cases he
      ·exact br h hv
     ·exact br h hv
    ·exact br h hv
   ·exact br h hv
  |v l=>
   rw[hmu]at h;simp only at h⊢;rw[ZR hd]
   cases hp:xY M0 vs l with
   |none=>rw[hp]at h;exact (br h hv).elim
   |some q=>rw[hp]at h;simp only at h⊢;exact Qw hd h hv he
 |none=>rw[hmu]at h;simp only at h⊢;exact Qw hd h hv he
theorem QN{f:eD}:∀{l:mJ} {v:V},v∈gw f l->∃x∈l,f x=v
 |[],v,h=>by cases h
 |x::r,v,h=>by
  simp only[gw]at h;rcases cQ.1 h with rfl|h
  ·exact⟨x,ak,rfl⟩
  ·obtain⟨y,h1,h2⟩:=QN h;exact⟨y,by simp[h1],h2⟩
theorem Dp(e:Ev):∀v:V,cG v=true->v.ev e=v
 |.d _ _,_|.nl,_|.np,_|.u,_=>rfl
 |.p a b,h=>by simp only[cG,aU,ao]at h;simp only[V.ev,Dp e a h.1,Dp e b h.2]
 |.ag v,h|.fn _ v,h|.bx v,h=>by simp only[cG]at h;simp only[V.ev,Dp e v h]
 |.any,h|.ref _ _,h|.ad _ _,h|.tup _,h|.gd _ _ _ _,h|.ifc _ _,h=>by cases h
theorem Rw:∀(e:cg)(v:V),cG v=true->v.evs e=v
 |[],_,_=>rfl
 |x::e,v,h=>by simp only[V.evs,Dp x v h];exact Rw e v h
theorem RP(v:V)(t:T)(M:Mem)(h:cG v=true)(q:Ob)(e:cg)(M':Mem)(hc:conv k t v M=some (q,e,M')):e=[]/\M'=M/\∀M1,conv k t v M1=some (q,[],M1):=⟨(JA k M M t v h q e M' hc).1,(JA k M M t v h q e M' hc).2.1,λM1=>(JA k M1 M t v h q e M' hc).2.2⟩
theorem Df:∀(v:V)(M:Mem),cG v=true->cD M v=([],M)
 |.p a b,M,h=>by simp only[cG,aU,ao]at h;simp only[cD,Df a M h.1,Df b M h.2,ap]
 |.ag v,M,h|.fn _ v,M,h|.bx v,M,h=>by simp only[cG]at h;simp only[cD,Df v M h]
 |.d _ _,_,_|.nl,_,_|.np,_,_|.u,_,_=>rfl
 |.any,_,h|.ref _ _,_,h|.ad _ _,_,h|.tup _,_,h|.gd _ _ _ _,_,h|.ifc _ _,_,h=>by cases h
theorem O5{o:O}(h:cG v=true){x:o.strip.den}(hc:rk k o v M=some (x,e,M')):e=[]/\M'=M/\∀M1,rk k o v M1=some (x,[],M1):=by
 unfold rk at hc⊢;split at hc
 ·rename_i t;simp only[Df v _ h,V.evs]at hc⊢;split at hc
  ·rename_i y hy;simp only[aG,bS]at hc;obtain⟨rfl,rfl,rfl⟩:=hc;exact⟨rfl,rfl,λ_=>rfl⟩
  ·cases hc
 ·split at hc
  ·rename_i q e1 M1 hq;obtain⟨rfl,rfl,h3⟩:=RP v _ _ h _ _ _ hq;split at hc
   ·rename_i y hy;simp only[aG,bS]at hc;obtain⟨rfl,rfl,rfl⟩:=hc;exact⟨rfl,rfl,λM2=>by simp only[h3,hy]⟩
   ·cases hc
  ·cases hc
theorem m_{o:O}(h:cG v=true){x:o.strip.den}(hc:rE k o v M=some (x,e,M')):e=[]/\M'=M/\∀M1,rE k o v M1=some (x,[],M1):=by
 unfold rE at hc⊢;split at hc
 ·split at hc
  ·rename_i y ev M1 hq;obtain⟨rfl,rfl,h3⟩:=O5 h hq;simp only[aG,bS]at hc;obtain⟨rfl,rfl,rfl⟩:=hc;exact⟨rfl,rfl,λM2=>by simp only[h3]⟩
  ·cases hc
 ·exact O5 h hc
theorem Dg{k:Nat}{o:O}:∀(l:cK),(∀v∈l,cG v=true)->∀(M:Mem)(x:List o.strip.den)(e:cg)(M':Mem),jr k o [] l M=some (x,e,M')->e=[]/\M'=M/\∀M1,jr k o [] l M1=some (x,[],M1)
 |[],_,M,x,e,M',hc=>by simp only[jr,aG,bS]at hc;obtain⟨rfl,rfl,rfl⟩:=hc;exact⟨rfl,rfl,λ_=>rfl⟩
 |v::r,h,M,x,e,M',hc=>by
  simp only[jr,V.evs]at hc;split at hc
  ·rename_i y e1 M1 h1;obtain⟨rfl,rfl,h3⟩:=m_ (h v ak) h1;simp only[ap]at hc;split at hc
   ·rename_i z e2 M2 h2;obtain⟨rfl,rfl,h4⟩:=Dg r (λw hw=>h w (by simp[hw])) _ _ _ _ h2;simp only[aG,bS]at hc;obtain⟨rfl,rfl,rfl⟩:=hc;exact⟨rfl,rfl,λM2=>by simp only[jr,V.evs,h3,ap,h4]⟩
   ·cases hc
  ·cases hc
theorem Jp:∀t:T,cG (iZ t)=true
 |.p a b=>by simp only[iZ,cG,Jp a,Jp b];rfl
 |.sl _|.u|.pt _|.fn _ _|.ifc _ _|.ib _ _|.mp _ _|.op _|.ns _|.er _|.int _|.bool|.str|.any=>rfl
theorem Qi{α:Type}{y x:α}:∀{l:List α} {i:Nat},x∈ua l i y->x∈l\/x=y
 |[],_,h=>by cases h
 |z::r,0,h=>by simp only[ua,cQ]at h⊢;rcases h with h|h<;>simp[h]
 |z::r,i+1,h=>by
  simp only[ua,cQ]at h⊢;rcases h with h|h
  ·simp[h]
  ·rcases Qi h with h|h<;>simp[h]
theorem PN{α:Type}{y x:α}:∀{n:Nat},x∈iR y n->x=y
 |0,h=>by cases h
 |n+1,h=>by
  simp only[iR,cQ]at h;rcases h with h|h
  ·exact h
  ·exact PN h
theorem Dv(h:cG v=true):v.strip=v:=by cases v<;>first|rfl|cases h
theorem Oy{M:Mem}{sz:Nat}{f:eD}:∀(ps:oP) (l r:cK),(∀q∈ps,cG (f q.2)=true)->(∀v∈l,cG v=true)->jU M sz f ps l=some r->(∀v∈r,cG v=true)/\∀M1,jU M1 sz f ps l=some r
 |[],l,r,_,hl,h=>by simp only[jU,aG]at h;subst h;exact⟨hl,λ_=>rfl⟩
 |(i,x)::ps,l,r,hp,hl,h=>by
  simp only[jU]at h;have hx:=J_ (hp _ (oW))
  cases hb:nob (Nat.ble (Nat.succ i) (len l)) (fX M (f x).cells sz)with
  |false=>rw[hb]at h;cases h
  |true=>
   rw[hb]at h;simp only[aD]at h
   obtain⟨h1,h2⟩:=Oy ps _ r (λq hq=>hp q (by simp[hq])) (λv hv=>by
    rcases Qi hv with hv|hv
    ·exact hl v hv
    ·rw[hv];exact hx) h
   refine⟨h1,λM1=>?_⟩;simp only[jU];rw[xj (M:=M1) (M0:=M) _ _ (xm _ hx),hb];exact h2 M1
theorem Qg(e:cg):∀l:List V,(∀v∈l,cG v=true)->gv e l=l
 |[],_=>rfl
 |v::r,h=>by simp only[gv];rw[Rw e v (h v ak),Qg e r λw hw=>h w (by simp[hw])]
theorem ZM(hp:∀q∈ps,cG (f q.2)=true)(h:n5 B t n ps f d M0=⟨vc,v,e,N⟩)(hv:ab vc):
  n5 B t n ps f d M=⟨vc,v,e,ap (du (len e) N) (fM (bJ (du (len e) N)) M)⟩:=by
 unfold n5 at h⊢;split at h
 ·rename_i k el hel;split at h
  ·rename_i l hl;obtain⟨hd,hl1⟩:=Oy ps _ l hp (λv hv=>by rw[PN hv];exact Jp _) hl;simp only[hl1 M]
   cases hb:aP [(B.τ t).ok,(B.τ el).ok,B.z el,Nat.ble (Nat.mul n (B.τ el).size) 16777216,Nat.ble n nb,cy (B.σ el).size (B.τ el).size]with
   |false=>rw[hb]at h;exact (br h hv).elim
   |true=>
    rw[hb]at h;simp only[aD,Qg _ l hd]at h⊢
    cases l with
    |nil=>simp only[Rs.mk.injEq]at h;obtain⟨rfl,rfl,rfl,rfl⟩:=h;rfl
    |cons v0 r=>
     simp only at h⊢;split at h
     ·rename_i q e1 M1 hq;obtain⟨rfl,rfl,hq1⟩:=RP v0 _ _ (hd v0 ak) _ _ _ hq;simp only[hq1];split at h
      ·rename_i x ev M2 hx;obtain⟨rfl,rfl,hx1⟩:=Dg _ hd _ _ _ _ hx;simp only[hx1];simp only[Rs.mk.injEq]at h;obtain⟨rfl,rfl,rfl,rfl⟩:=h;rfl
      ·rename_i hx
       have hx1:∀M1,jr k q.o [] (v0::r) M1=none:=λM1=>by
        cases hc:jr k q.o [] (v0::r) M1 with
        |none=>rfl
        |some z=>obtain⟨z1,z2,z3⟩:=z;have:=(Dg _ hd _ _ _ _ hc).2.2 (del k M0);rw[hx]at this;cases this
       simp only[hx1];split at h
       ·rename_i x ev M2 hx;obtain⟨rfl,rfl,hx1⟩:=Dg _ hd _ _ _ _ hx;simp only[hx1];simp only[Rs.mk.injEq]at h;obtain⟨rfl,rfl,rfl,rfl⟩:=h;rfl
       ·exact (br h hv).elim
     ·exact (br h hv).elim
  ·exact (br h hv).elim
 ·exact (br h hv).elim
theorem q_{x:V}(hx:cG x=true)(hy:cG y=true)(h:pO B d t x y M0=⟨vc,v,e,N⟩)(hv:ab vc):
  pO B d t x y M=⟨vc,v,e,ap (du (len e) N) (fM (bJ (du (len e) N)) M)⟩:=by
 unfold pO at h⊢
 cases he:(B.τ t).el with
 |none=>rw[he]at h;exact (br h hv).elim
 |some el=>
 cases d with
 |none=>rw[he]at h;exact (br h hv).elim
 |some k=>
 rw[he]at h
 try simp only at h⊢
 cases y with
 |nl=>
  simp only[r8]at h⊢
  cases hb:aP [(B.τ t).ok,(B.τ el).ok,neg (Nat.beq (B.τ el).bytes 0),B.z el,cy (B.σ el).size (B.τ el).size]with
  |false=>rw[hb]at h;exact (br h hv).elim
  |true=>
   rw[hb]at h;simp only[aD]at h⊢
   cases x with
   |nl=>simp only[Rs.mk.injEq]at h⊢;obtain⟨rfl,rfl,rfl,rfl⟩:=h;exact⟨rfl,rfl,rfl,rfl⟩
   |ref _ _=>cases hx
   |_=>exact (br h hv).elim
 |d s l=>
  cases s with
  |sl s=>
   simp only[r8]at h⊢
   cases hb:aP [(B.τ t).ok,(B.τ el).ok,neg (Nat.beq (B.τ el).bytes 0),B.z el,cy (B.σ el).size (B.τ el).size]with
   |false=>rw[hb]at h;exact (br h hv).elim
   |true=>
    rw[hb]at h;simp only[aD]at h⊢
    cases x with
    |nl=>
     simp only at h⊢
     cases hc:cy s.size (B.τ el).size with
     |false=>rw[hc]at h;exact (br h hv).elim
     |true=>rw[hc]at h;simp only[aD,Rs.mk.injEq]at h⊢;obtain⟨rfl,rfl,rfl,rfl⟩:=h;exact⟨rfl,rfl,rfl,rfl⟩
    |ref _ _=>cases hx
    |_=>exact (br h hv).elim
  |_=>simp only[r8]at h;exact (br h hv).elim
 |ref _ _=>cases hy
 |_=>simp only[r8]at h;exact (br h hv).elim
theorem v_{x:eO}(M:Mem)(hx:cG (ρ x)=true)(h:kK B t d ρ x lo hi M0=⟨vc,v,e,N⟩)(hv:ab vc):
  kK B t d ρ x lo hi M=⟨vc,v,e,M⟩/\e=[]:=by
 unfold kK at h⊢
 cases hn:nsT (B.σ t)with
 |true=>
  exfalso;rw[hn]at h;simp only[aD,rB]at h;split at h
  ·rename_i hr _ _ _
   first|(rw[hr]at hx;cases hx)|(exfalso;simp_all[cG])
  ·simp only[bi,Rs.mk.injEq]at h;obtain⟨rfl,_⟩:=h;exact hv.1
 |false=>
  rw[hn]at h;simp only[bp,vC]at h⊢;split at h
  ·rename_i hr;rw[hr]at hx;cases hx
  ·simp only[ck,Rs.mk.injEq]at h⊢;obtain⟨h1,h2,rfl,rfl⟩:=h;simp only[h1,h2,and_self]
theorem KX(hk:pV M0 o.op env=true)(ag:xG M0 env (bq o.op)=true->∀x∈bq o.op,agV M M0 (rd env x))(h:evR B Φ o env M0=⟨vc,v,e,N⟩)(hv:ab vc)(he:klB e (du (len e) N)=true):
  evR B Φ o env M=⟨vc,v,e,ap (du (len e) N) (fM (bJ (du (len e) N)) M)⟩:=by
 have tk:∀N:Mem,du (len ([]:List Ev)) N=[]:=λ_=>rfl;obtain⟨dst,op,ty',pos,after,guard⟩:=o;simp only[pV,gD,aU,fR,ao]at hk;rcases hk with hk|(hk|hk)|⟨hk|hk,hd⟩;rotate_left
 ·cases op<;>simp only[sldK,eE]at hk;rename_i t x lo hi mx
  cases mx with
  |some _=>cases hk
  |none=>
  simp only[evR,bP]at h⊢;have hx:cG (rd env x)=true:=Ak hk _ (by simp[bq,fB]);generalize hq:kK B t dst (λx=>(rd env x).strip) x lo hi M0=q at h;obtain⟨vc',v',e',N'⟩:=q;simp only[Rs.mk.injEq]at h;obtain⟨rfl,rfl,rfl,rfl⟩:=h;obtain⟨k1,k2⟩:=v_ M (by simp only[Dv hx];exact hx) hq (gq hv);subst k2;simp only[k1,tk,ap,fM,bJ]
 rotate_right
 ·cases op<;>simp only[mF,eE]at hk<;>simp only[evR,bP,ck,Rs.mk.injEq]at h⊢<;>obtain⟨h1,h2,rfl,rfl⟩:=h<;>exact⟨h1,h2,rfl,rfl⟩
 ·cases op<;>simp only[litK,eE]at hk
  case call c=>
   split at hk
   ·rename_i hcal;simp only[evR,bP,hcal]at h⊢;split at h
    ·rename_i x y t t' hxy htt
     cases hb:Nat.beq t t' with
     |false=>rw[hb]at h;simp only[bp,bi,Rs.mk.injEq]at h;obtain⟨rfl,_⟩:=h;exact absurd (gq hv) (by simp[ab])
     |true=>rw[hb]at h;simp only[aD]at h⊢;generalize hq:pO B dst t ((rd env x).strip) ((rd env y).strip) M0=q at h;obtain⟨vc',v',e',N'⟩:=q;simp only[Rs.mk.injEq]at h;obtain⟨rfl,rfl,rfl,rfl⟩:=h;have hx:cG (rd env x)=true:=Ak hk _ (by show x∈ap (bq.calO c.callee) (toL c.args);rw[hcal,hxy,fB];simp);have hy:cG (rd env y)=true:=Ak hk _ (by show y∈ap (bq.calO c.callee) (toL c.args);rw[hcal,hxy,fB];simp);rw[q_ (M:=M) (by rw[Dv hx];exact hx) (by rw[Dv hy];exact hy) hq (gq hv)]
    ·simp only[bi,Rs.mk.injEq]at h;obtain⟨rfl,_⟩:=h;exact absurd (gq hv) (by simp[ab])
   ·cases hk
  rename_i t n ps;simp only[evR,bP]at h⊢;generalize hq:n5 B t n (toL ps) (λx=>(rd env x).strip) dst M0=q at h;obtain⟨vc',v',e',N'⟩:=q;simp only[Rs.mk.injEq]at h;obtain⟨rfl,rfl,rfl,rfl⟩:=h;have hm:∀q∈toL ps,cG ((λx=>(rd env x).strip) q.2)=true:=λq hq=>by have:cG (rd env q.2)=true:=Ak hk _ (by simp only[bq];exact xw (by rw[←ds];exact hq));simp only[Dv this];exact this
  rw[ZM (M:=M) hm hq (gq hv)]
 ·have hm:=ag hd;cases op<;>simp only[lE,eE]at hk<;>simp only[bq]at hm
  case load t x=>
   have hx:=hm x ak;simp only[evR,bP,Rs.mk.injEq]at h⊢;obtain⟨h1,h2,h3,h4⟩:=h
   have hn:rF (B.τ t) M0 dst ((rd env x).strip)=none:=by
    cases htk:rF (B.τ t) M0 dst ((rd env x).strip)with
    |none=>rfl
    |some R=>exfalso;simp only[mc,htk]at h1 h2 h3 h4;cases htk
   have hn':rF (B.τ t) M dst ((rd env x).strip)=none:=by rw[lY hx]at hn⊢;rw[aah _ _ hx];exact hn
   simp only[mc,hn,ck]at h1 h2 h3 h4;subst h3;simp only[mc,hn',ck];rw[lY hx]at h1 h2⊢;rw[Z6 _ _ hx];simp only[tk,ap,fM,bJ,aA];exact⟨h1,h2⟩
  all_goals simp only[evR,bP,ck,Rs.mk.injEq]at h⊢
  all_goals obtain⟨h1,h2,rfl,rfl⟩:=h
  case fieldAddr t x i=>have hx:=hm x ak;rw[lY hx,Z4 _ _ _ hx,←lY hx];exact⟨h1,h2,rfl,rfl⟩
  case field t x i=>have hx:=hm x ak;rw[lY hx,j_ _ _ _ hx,←lY hx];exact⟨h1,h2,rfl,rfl⟩
  case indexAddr t x i=>have hx:=hm x ak;rw[lY hx,x_ _ _ _ hx,←lY hx];exact⟨h1,h2,rfl,rfl⟩
  case convert s d x=>have hx:=hm x ak;rw[lY hx,Zl hx,←lY hx];exact⟨h1,h2,rfl,rfl⟩
  all_goals exact⟨h1,h2,rfl,rfl⟩
 ·have hm:=ag hd;cases op<;>simp only[newK,eE]at hk
  case alloc t=>
   simp only[evR,bP,BN]at h⊢
   cases dst with
   |none=>simp only[bi,Rs.mk.injEq]at h;obtain⟨rfl,_⟩:=h;exact absurd (gq hv) (by simp[ab])
   |some k=>
    simp only at h⊢
    cases hb:aP [(B.τ t).ok,B.z t]with
    |false=>rw[hb]at h;simp only[bp,bi,Rs.mk.injEq]at h;obtain⟨rfl,_⟩:=h;exact absurd (gq hv) (by simp[ab])
    |true=>rw[hb]at h;simp only[aD,Rs.mk.injEq]at h⊢;obtain⟨h1,h2,rfl,rfl⟩:=h;exact⟨h1,h2,rfl,rfl⟩
  case makeSlice t l c=>
   simp only[evR,bP,Be]at h⊢;split at h
   ·rename_i el k1 nl k2 nc e2 e3 e4
    cases hb:aP [(B.τ t).ok,(B.τ el).ok,B.z el,cy (B.σ el).size (B.τ el).size]with
    |false=>rw[hb]at h;simp only[bp,bi,Rs.mk.injEq]at h;obtain⟨rfl,_⟩:=h;exact absurd (gq hv) (by simp[ab])
    |true=>rw[hb]at h;simp only[aD,Rs.mk.injEq]at h⊢;obtain⟨h1,h2,rfl,rfl⟩:=h;exact⟨h1,h2,rfl,rfl⟩
   ·simp only[bi,Rs.mk.injEq]at h;obtain⟨rfl,_⟩:=h;exact absurd (gq hv) (by simp[ab])
  case build t ps=>
   simp only[evR,bP,pq]at h⊢;rw[Ox (M:=M) (M0:=M0) _ (λx=>(rd env x).strip) (toL ps) _ (λx hx=>by have:=hm x (by simp only[bq];exact hx);rw[lY this];exact this) (Jt _)]
   cases hb:aP [(B.τ t).ok,yo B (B.τ t),B.z t]with
   |false=>rw[hb]at h;simp only[bp,bi,Rs.mk.injEq]at h;obtain⟨rfl,_⟩:=h;exact absurd (gq hv) (by simp[ab])
   |true=>
    rw[hb]at h;simp only[aD]at h⊢;split at h
    ·rename_i v0 e0;simp only[Rs.mk.injEq]at h⊢;obtain⟨h1,h2,rfl,rfl⟩:=h;exact⟨h1,h2,rfl,rfl⟩
    ·simp only[bi,Rs.mk.injEq]at h;obtain⟨rfl,_⟩:=h;exact absurd (gq hv) (by simp[ab])
  case buildSlice t n p=>
   rw[aU,ao]at hk;have hn0:=dh hk.1;subst hn0
   have hp:toL p=[]:=by
    have:=dh hk.2;revert this
    cases toL p with
    |nil=>intro _;rfl
    |cons a r=>intro h;exact absurd h (by simp only[len];omega)
   ·simp only[evR,bP,hp,n5]at h⊢
    cases dst with
    |none=>simp only[bi,Rs.mk.injEq]at h;obtain⟨rfl,_⟩:=h;exact absurd (gq hv) (by simp[ab])
    |some k=>
     cases hel:(B.τ t).el with
     |none=>rw[hel]at h;simp only[bi,Rs.mk.injEq]at h;obtain⟨rfl,_⟩:=h;exact absurd (gq hv) (by simp[ab])
     |some el=>
      rw[hel]at h;simp only[jU,iR,gv]at h⊢
      cases hb:aP [(B.τ t).ok,(B.τ el).ok,B.z el,Nat.ble (Nat.mul 0 (B.τ el).size) 16777216,Nat.ble 0 nb,cy (B.σ el).size (B.τ el).size]with
      |false=>rw[hb]at h;simp only[bp,bi,Rs.mk.injEq]at h;obtain⟨rfl,_⟩:=h;exact absurd (gq hv) (by simp[ab])
      |true=>rw[hb]at h;simp only[aD,Rs.mk.injEq]at h⊢;obtain⟨h1,h2,rfl,rfl⟩:=h;exact⟨h1,h2,rfl,rfl⟩
  case call c=>
   obtain⟨callee,args,argTypes⟩:=c;have hrd:∀x∈toL args,agV M M0 (rd env x).strip:=λx hx=>by have:=hm x (by simp only[bq,fB];exact oU _ hx);rw[lY this];exact this
   cases callee with
   |value cx=>
    have hc:=hm cx (by simp only[bq,fB,bq.calO];exact jH _ ak);simp only[evR,bP]at h⊢
    cases hf:qe (rd env cx).strip with
    |none=>rw[hf]at h;simp only[bi,Rs.mk.injEq]at h;obtain⟨rfl,_⟩:=h;exact absurd (gq hv) (by simp[ab])
    |some q=>
     obtain⟨f,cv⟩:=q;have hcv:agV M M0 cv:=ad4 (by rw[lY hc];exact hc) hf;rw[hf]at h
     cases dst with
     |none=>simp only[bi,Rs.mk.injEq]at h;obtain⟨rfl,_⟩:=h;exact absurd (gq hv) (by simp[ab])
     |some d=>
      simp only at h⊢;obtain⟨c1,c2⟩:=O' cv hcv;rw[c1]
      cases hp:Φ f with
      |none=>rw[hp]at h;simp only[bi,Rs.mk.injEq]at h;obtain⟨rfl,_⟩:=h;exact absurd (gq hv) (by simp[ab])
      |some ct=>
       rw[hp]at h
       cases hcs:jT M0 cv with
       |none=>rw[hcs]at h;simp only[bi,Rs.mk.injEq]at h;obtain⟨rfl,_⟩:=h;exact absurd (gq hv) (by simp[ab])
       |some cs=>
        rw[hcs]at h;simp only at h⊢
        have hall:∀y∈ap (gw (λx=>(rd env x).strip) (toL args)) cs,agV M M0 y:=λy hy=>by
         rw[fB]at hy;rcases dN.1 hy with hy|hy
         ·obtain⟨x,x1,rfl⟩:=QN hy;exact hrd x x1
         ·exact c2 cs hcs y hy
        generalize hq:oq ct d (ap (gw (λx=>(rd env x).strip) (toL args)) cs) M0=q at h;obtain⟨vc1,v1,e1,N1⟩:=q;simp only[Rs.mk.injEq]at h;obtain⟨rfl,rfl,rfl,rfl⟩:=h;rw[ZP hall hq (gq hv) he]
   |builtin b=>
    cases b<;>simp only[eE]at hk;simp only[evR,bP]at h⊢;split at h
    ·rename_i x t e1 e2;have hx:=hrd x (by rw[e1];simp);simp only[ck,Rs.mk.injEq]at h⊢;rw[ZY hx];obtain⟨h1,h2,rfl,rfl⟩:=h;exact⟨h1,h2,rfl,rfl⟩
    ·simp only[bi,Rs.mk.injEq]at h;obtain⟨rfl,_⟩:=h;exact absurd (gq hv) (by simp[ab])
   |_=>simp at hk
theorem Ar(hk:go M k=none):∀(v:V)(vs:aJ),ac β M Im w v vs->v.ev (.kl k)=v:=by
 intro v
 induction v with
 |p a b iha ihb=>intro vs r;simp only[ac]at r;obtain⟨va,vb,_,h1,h2⟩:=r;simp only[V.ev];rw[iha _ h1,ihb _ h2]
 |ref j π=>
  intro vs r;simp only[ac]at r;obtain⟨ob,_,h1,_⟩:=r;have hne:j≠k:=λh=>by subst h;rw[hk]at h1;cases h1
  simp only[V.ev,Ev.ref,dP,ai hne]
 |ad j π=>
  intro vs r;simp only[ac]at r;obtain⟨_,_,ob,_,_,_,h1,_⟩:=r;have hne:j≠k:=λh=>by subst h;rw[hk]at h1;cases h1
  simp only[V.ev,Ev.ad,dP,ai hne]
 |fn f v ih=>intro vs r;simp only[ac]at r;obtain⟨us,_,h⟩:=r;simp only[V.ev];rw[ih _ h]
 |bx v ih=>intro vs r;simp only[ac]at r;obtain⟨_,_,us,_,_,_,h⟩:=r;simp only[V.ev];rw[ih _ h]
 |ag v|tup v|gd _ _ _ v=>intro vs r;simp only[ac]at r
 |ifc t v ih=>intro vs r;simp only[ac]at r;obtain⟨u,_,h⟩:=r;simp only[V.ev];rw[ih _ h]
 |_=>intro vs r;rfl
theorem abo(hk:go M k=none):∀(v:V),mi v=true->(∀u,aj β M Im w v u->v.ev (.kl k)=v)/\(∀us,cH β M Im w v us->v.ev (.kl k)=v):=by
 intro v
 induction v with
 |any=>intro _;exact⟨λ_ _=>rfl,λ_ _=>rfl⟩
 |ag v ih=>
  intro _;refine⟨λu r=>?_,λus r=>?_⟩
  ·simp only[aj]at r;obtain⟨vs,_,h⟩:=r;simp only[V.ev];rw[Ar hk _ _ h]
  ·simp only[cH]at r
 |tup v ih=>
  intro hg;refine⟨λu r=>?_,λus r=>?_⟩
  ·simp only[aj]at r;obtain⟨vs,_,h⟩:=r;simp only[V.ev];rw[(ih hg).2 _ h]
  ·simp only[cH]at r
 |gd _ _ _ v=>intro hg;cases hg
 |ifc t v ih=>
  intro hg;refine⟨λu r=>?_,λus r=>?_⟩
  ·simp only[aj]at r;exact Ar hk _ _ r
  ·simp only[cH]at r
 |p a b iha ihb=>
  intro hg;simp only[mi,aU,ao]at hg;refine⟨λu r=>?_,λus r=>?_⟩
  ·simp only[aj]at r;exact Ar hk _ _ r
  ·simp only[cH]at r;obtain⟨u,us',_,h1,h2⟩:=r;simp only[V.ev];rw[(iha hg.1).1 _ h1,(ihb hg.2).2 _ h2]
 |u=>intro _;exact⟨λ_ _=>rfl,λ_ _=>rfl⟩
 |ref j π|ad j π=>intro _;exact⟨λu r=>by simp only[aj]at r;exact Ar hk _ _ r,λus r=>by simp only[cH]at r⟩
 |d t x|nl|np=>intro _;exact⟨λ_ _=>rfl,λ_ _=>rfl⟩
 |fn f v|bx v=>intro _;exact⟨λu r=>by simp only[aj]at r;exact Ar hk _ _ r,λus r=>by simp only[cH]at r⟩
theorem Sc:∀{e:cg} {N:Mem},klB e N=true->∀{v:V},(∀k∈bJ N,v.ev (.kl k)=v)->v.evs e=v
 |[],[],_,v,_=>rfl
 |[],_::_,h,_,_=>by simp[klB]at h
 |x::e,[],h,_,_=>by cases x<;>simp[klB]at h
 |x::e,(j,ob)::N,h,v,hk=>by
  cases x with
  |kl k=>simp only[klB,aU,ao]at h;have:=dh h.1;subst this;simp only[V.evs];rw[hk k (by simp[bJ])];exact Sc h.2 λk hk'=>hk k (by simp[bJ,hk'])
  |_=>simp[klB]at h
theorem xq:∀{ks:bK} {M:Mem},rD ks M=true->∀k∈ks,go M k=none
 |[],_,_,k,hk=>by cases hk
 |j::r,M,h,k,hk=>by
  simp only[rD,aU,ao]at h;rcases cQ.1 hk with rfl|hk
  ·cases hg:go M k with
   |none=>rfl
   |some _=>rw[hg]at h;exact absurd h.1 (by simp[isN])
  ·exact xq h.2 k hk
theorem ol:∀{N:Mem} {k:Nat},k∈bJ N<->go N k≠none
 |[],k=>by simp[bJ,go]
 |(j,ob)::N,k=>by
  simp only[bJ,cQ,dR];by_cases e:j=k
  ·subst e;simp
  ·rw[ai e,←ol (N:=N)];simp[dg e]
theorem Ey:∀{ks:bK} {M:Mem} {k:Nat},k∉ks->go (fM ks M) k=go M k
 |[],_,_,_=>rfl
 |j::r,M,k,h=>by simp only[fM];rw[Ey (λhh=>h (by simp[hh])),fg (λhh=>h (by simp[hh]))]
theorem PO{t:Nat}:∀{env:Env},lD env=true->mi (gt env t)=true
 |[],_=>rfl
 |(k,v)::r,h=>by
  simp only[lD,aU,ao]at h;rw[gY];split
  ·exact h.1
  ·exact PO h.2
structure Hst (D:bC) (ks as:bK) (B:Tab) (Φ:dM) (M0:Mem) (o:bR) (e e':Env) (N:Mem) (X X':Mem) (d:Nat) (v:V) (vc:nM) (ev:cg):Prop where
 g:o.guard=none
 dst:o.dst=some d
 k:pV (ap X M0) o.op e=true
 r:∃N',evR B Φ o e (ap X M0)=⟨vc,v,ev,N'⟩/\N=du (len ev) N'
 hv:ab vc
 kl:klB ev N=true
 n0:rD (bJ N) M0=true
 nX:rD (bJ N) X=true
 gd:mi v=true
 dt:D=true->hU o.op=true->bxK B as o.op e=true\/jx ks e (bq o.op)=true/\ksV ks v=true
 he:e'=(d,v)::e
 x:X'=ap N X
theorem QB{ks as:bK}{M0:Mem}:∀(D:fw)(ops:bY)(e:Env)(x:Mem)(K:Env->Mem->Prop),hx D ks as B Φ M0 ops e x K->
  ∃(E:Nat->Env)(X N:Nat->Mem),E 0=e/\X 0=x/\(∀j o,ops[j]? = some o->∃d v vc ev,Hst (D.getD j false) ks as B Φ M0 o (E j) (E (j+1)) (N j) (X j) (X (j+1)) d v vc ev)/\K (E ops.length) (X ops.length)
 |D,[],e,x,K,h=>⟨λ_=>e,λ_=>x,λ_=>[],rfl,rfl,λj o h=>by simp at h,h⟩
 |D,o::r,e,x,K,h=>by
  have key:∃e' x' N,(∃d v vc ev,Hst (tJ D) ks as B Φ M0 o e e' N x x' d v vc ev)/\hx (rp D) ks as B Φ M0 r e' x' K:=by
   simp only[hx]at h;split at h
   ·rename_i d hg hd
    cases hk:pV (ap x M0) o.op e with
    |false=>rw[hk]at h;exact h.elim
    |true=>
     rw[hk]at h;simp only[aD]at h;generalize hq:evR B Φ o e (ap x M0)=q at h;obtain⟨vc,v,ev,N'⟩:=q;simp only at h;generalize hN:du (len ev) N'=N at h
     cases hb:aP [klB ev N,rD (bJ N) M0,rD (bJ N) x,mi v,orb (neg (tJ D)) (orb (neg (hU o.op)) (orb (bxK B as o.op e) (nob (jx ks e (bq o.op)) (ksV ks v))))]with
     |false=>rw[hb]at h;exact h.elim
     |true=>rw[hb]at h;simp only[aD,kB]at h;simp only[bQ,bT,bM,ao]at hb;exact⟨_,_,N,⟨d,v,vc,ev,⟨hg,hd,hk,⟨N',hq,hN.symm⟩,h.1,hb.1,hb.2.1,hb.2.2.1,hb.2.2.2.1,λhD hk=>by have h5:=hb.2.2.2.2;rw[hD,hk]at h5;simpa using h5,rfl,rfl⟩⟩,h.2⟩
   ·exact h.elim
  obtain⟨e',x',N,h1,h2⟩:=key;obtain⟨E,X,Ns,i1,i2,i3,i4⟩:=QB (rp D) r e' x' K h2;refine⟨λj=>match j with|0=>e|j+1=>E j,λj=>match j with|0=>x|j+1=>X j,λj=>match j with|0=>N|j+1=>Ns j,rfl,rfl,λj o' hj=>?_,by simpa using i4⟩
  cases j with
  |zero=>
   simp only[jG,aG]at hj;subst hj;simp only;rw[i1,i2];have e:D.getD 0 false=tJ D:=by cases D<;>rfl
   rw[e];exact h1
  |succ j=>
   simp only[oR]at hj;have e:D.getD (j+1) false=(rp D).getD j false:=by cases D<;>simp[rp]
   rw[e];exact i3 j o' hj
theorem Qq{x:Option α}(h:isN x=true):x=none:=by cases x<;>first|rfl|cases h
theorem K_{o:Op}(h:hU o=true):∀x∈o.operands,x∈bq o:=by
 unfold hU at h
 cases o with
 |slice t x lo hi mx=>
  cases mx with
  |some _=>simp[lE,mF,kQ]at h
  |none=>cases lo<;>cases hi<;>simp[Op.operands,bq,bq.optL,fB]
 |call c=>
  obtain⟨callee,args,tys⟩:=c
  cases callee with
  |builtin b=>simp[Op.operands,Call.operands,bq,bq.calO,ds,fB]
  |_=>simp[lE,mF,kQ]at h
 |_=>
  simp[lE,mF,kQ]at h<;>simp[Op.operands,bq]
  try (intro x q hq;exact xw (q:=(q,x)) (by simpa using hq))
theorem SI{B:Tab}{t:bW}{ps:oP}{f:eD}{M:Mem}:(pq B t ps f M).ev=[]/\(pq B t ps f M).M=M:=by
 unfold pq
 cases aP [(B.τ t).ok,yo B (B.τ t),B.z t]with
 |false=>exact⟨rfl,rfl⟩
 |true=>simp only[aD];split<;>exact⟨rfl,rfl⟩
theorem af0{r:Nat}(h:klB (.kl r::e) (du (len (Ev.kl r::e)) (del r M))=true):False:=by
 have hg:=fU r M
 cases hd:del r M with
 |nil=>rw[hd]at h;simp[len,du,klB]at h
 |cons q N=>obtain⟨j,ob⟩:=q;rw[hd]at h hg;simp only[len,du,klB,aU,ao]at h;have:=dh h.1;subst this;simp[dR]at hg
theorem SS{x:eO}(h:kK B t d ρ x lo hi M=⟨vc,v,e,N⟩)(hk:klB e (du (len e) N)=true):e=[]/\N=M:=by
 have bad:∀{vc:nM} {v:V} {e:cg} {N:Mem},bi M=⟨vc,v,e,N⟩->e=[]/\N=M:=λh=>by simp only[bi,Rs.mk.injEq]at h;exact⟨h.2.2.1.symm,h.2.2.2.symm⟩
 unfold kK at h
 cases hn:nsT (B.σ t)with
 |true=>
  rw[hn]at h;simp only[aD,rB]at h;split at h
  ·split at h
   ·cases hb:aP _ with
    |false=>rw[hb]at h;exact bad h
    |true=>rw[hb]at h;simp only[bQ,eo,ao]at hb;simp only[aD,Rs.mk.injEq]at h;obtain⟨_,_,rfl,rfl⟩:=h;simp only[len,du,klB,aU,ao]at hk;have:=hb.1.1;rw[gr,hk.1]at this;cases this
   ·exact bad h
  ·exact bad h
 |false=>
  rw[hn]at h;simp only[bp,vC]at h;split at h
  ·split at h
   ·rename_i r π _ q e1 M1 hc
    (try simp only at h)
    simp only[Rs.mk.injEq]at h;obtain⟨_,_,rfl,rfl⟩:=h;exfalso;unfold qZ at hc;generalize neg (eo _ gid)=b at hc
    cases b with
    |true=>cases hc
    |false=>
     simp only[bp]at hc;split at hc
     ·split at hc
      ·split at hc
       ·cases hc;exact af0 hk
       ·cases hi:r9 _ with
        |true=>rw[hi]at hc;simp only[aD,aG,bS]at hc;obtain⟨_,rfl,_⟩:=hc;generalize du _ _=Z at hk;cases Z<;>simp[klB]at hk
        |false=>
         rw[hi]at hc;simp only[bp]at hc;split at hc
         ·cases hc;generalize du _ _=Z at hk;cases Z<;>simp[klB]at hk
         ·cases hc
      ·cases hc
     ·cases hc
   ·exact bad h
  ·simp only[ck,Rs.mk.injEq]at h;exact⟨h.2.2.1.symm,h.2.2.2.symm⟩
theorem Tb{c:Call}(hk:kQ (.call c)=true)(h:evR B Φ ⟨dst,.call c,ty',pos,after,guard⟩ env M=⟨vc,v,e,N⟩):e=[]/\N=M:=by
 simp only[kQ]at hk;split at hk
 ·rename_i hcal;simp only[evR,bP,hcal]at h;split at h<;>simp only[ck,bi,Rs.mk.injEq]at h<;>exact⟨h.2.2.1.symm,h.2.2.2.symm⟩
 ·cases hk
theorem RZ{ev:cg}(hk:hU o.op=true)(hr:evR B Φ o env M=⟨vc,v,ev,N'⟩)(hkl:klB ev (du (len ev) N')=true):ev=[]:=by
 obtain⟨dst,op,ty',pos,after,guard⟩:=o;unfold hU at hk;rcases Classical.em (∃c,op=.call c)with⟨c,rfl⟩|hcc
 ·have hb:kQ (.call c)=true:=by simpa[lE,mF]using hk
  exact (Tb hb hr).1
 cases op<;>simp[lE,mF]at hk<;>try (simp[kQ]at hk;done)
 case call c=>exact absurd ⟨c,rfl⟩ hcc
 case slice t x lo hi mx=>
  cases mx with
  |some _=>simp[kQ]at hk
  |none=>
  simp only[evR,bP]at hr;generalize hq:kK B t dst (λx=>(rd env x).strip) x lo hi M=q at hr;obtain⟨a1,a2,a3,a4⟩:=q;simp only[Rs.mk.injEq]at hr;obtain⟨_,_,rfl,rfl⟩:=hr;exact (SS hq hkl).1
 case build t ps=>simp only[evR,bP]at hr;have h:=@SI B t (toL ps) (λx=>(rd env x).strip) M;generalize pq B t (toL ps) (λx=>(rd env x).strip) M=q at hr h;obtain⟨a1,a2,a3,a4⟩:=q;simp only[Rs.mk.injEq]at hr;exact hr.2.2.1.symm.trans h.1
 case load t x=>
  simp only[evR,bP,mc]at hr;split at hr
  ·rename_i r hr';cases hr'
  ·simp only[ck,Rs.mk.injEq]at hr;exact hr.2.2.1.symm
 all_goals (simp only[evR,bP,ck,Rs.mk.injEq]at hr;exact hr.2.2.1.symm)
def AgM(ks:bK)(M' M:Mem):Prop:=∀k,inN k ks=true->go M' k=go M k
theorem AgM.refl(ks:bK)(M:Mem):AgM ks M M:=λ_ _=>rfl
theorem sU(hk:inN k ks=true)(hj:neg (inN j ks)=true):Nat.beq k j=false:=by
 cases h:Nat.beq k j with
 |false=>rfl
 |true=>have:=dh h;subst this;rw[hk]at hj;cases hj
theorem acu(hk:inN k ks=true)(e:Ev)(he:d9 ks e=true):(V.ref k π).ev e=.ref k π:=by
 cases e with
 |mv r k'=>simp only[d9,aU,ao]at he;simp only[V.ev,Ev.ref,sU hk he.1,bp]
 |kl r|cut r o o'|fz r ob=>simp only[d9]at he;simp only[V.ev,Ev.ref,sU hk he,bp]
 |un r j=>simp only[d9,aU,ao]at he;simp only[V.ev,Ev.ref,sU hk he.1,bp]
 |tk r o o'|kn r v=>simp only[d9]at he;simp only[V.ev,Ev.ref,sU hk he,bp]
theorem afp(hk:inN k ks=true)(e:Ev)(he:d9 ks e=true):(V.ad k π).ev e=.ad k π:=by
 cases e with
 |mv r k'=>simp only[d9,aU,ao]at he;simp only[V.ev,Ev.ad,sU hk he.1,bp]
 |kl r|cut r o o'|fz r ob=>simp only[d9]at he;simp only[V.ev,Ev.ad,sU hk he,bp]
 |un r j=>simp only[d9,aU,ao]at he;simp only[V.ev,Ev.ad,sU hk he.1,bp]
 |tk r o o'|kn r v=>simp only[d9]at he;simp only[V.ev,Ev.ad,sU hk he,bp]
theorem Ei:∀e:List Ev,bL [] e=true
 |[]=>rfl
 |x::e=>by cases x<;>simp[bL,d9,inN,neg,Ei e]
theorem iX{ks:bK}:∀{a b:cg},bL ks (ap a b)=true->bL ks a=true/\bL ks b=true
 |[],b,h=>⟨rfl,h⟩
 |x::a,b,h=>by simp only[ap,bL,aU,ao]at h⊢;obtain⟨h1,h2⟩:=iX h.2;exact⟨⟨h.1,h1⟩,h2⟩
theorem AgM.trans{a b c:Mem}(h:AgM ks a b)(g:AgM ks b c):AgM ks a c:=λk hk=>(h k hk).trans (g k hk)
theorem ju(h:neg (inN k ks)=true):AgM ks (del k M) M:=λj hj=>fg (λe=>by subst e;rw[hj]at h;cases h) M
theorem pC(h:neg (inN k ks)=true):AgM ks (put k ob M) M:=λj hj=>pn ob (λe=>by subst e;rw[hj]at h;cases h) M
theorem zf{ks:bK}:∀(v:V)(M:Mem),bL ks (cD M v).1=true->AgM ks (cD M v).2 M
 |.ref k π,M,h=>by
  simp only[cD]at h⊢;split
  ·rename_i ob hg;rw[hg]at h;simp only[bL,d9,aU,ao]at h;exact ju h.1
  ·exact AgM.refl _ _
 |.ad k π,M,h=>by
  simp only[cD]at h⊢;split
  ·rename_i ob hg;rw[hg]at h;simp only[bL,d9,aU,ao]at h;exact ju h.1
  ·exact AgM.refl _ _
 |.p a b,M,h=>by simp only[cD]at h⊢;obtain⟨h1,h2⟩:=iX h;exact (zf b _ h2).trans (zf a M h1)
 |.ag v,M,h|.fn _ v,M,h|.ifc _ v,M,h|.bx v,M,h|.tup v,M,h|.gd _ _ _ v,M,h=>by simp only[cD]at h⊢;exact zf v M h
 |.any,M,_|.nl,M,_|.np,M,_|.u,M,_|.d _ _,M,_=>AgM.refl _ _
theorem Dk{ks:bK}:∀(vs:cK)(M:Mem),bL ks (eN M vs).1=true->AgM ks (eN M vs).2 M
 |[],M,_=>AgM.refl _ _
 |v::r,M,h=>by simp only[eN]at h⊢;obtain⟨h1,h2⟩:=iX h;exact (Dk r _ h2).trans (zf v M h1)
theorem Rr{ks:bK}:∀{l:bK},bL ks (klL l)=true->∀k∈l,neg (inN k ks)=true
 |[],_,k,h=>by cases h
 |a::l,h,k,hk=>by
  simp only[klL,bL,d9,aU,ao]at h;rcases cQ.1 hk with e|e
  ·subst e;exact h.1
  ·exact Rr h.2 k e
theorem KO(h:bL ks (klL (bJ N))=true):AgM ks (ap N (fM (bJ N) M)) M:=λk hk=>by
 have hn:k∉bJ N:=λhm=>by have:=Rr h k hm;rw[hk]at this;cases this
 have hg:go N k=none:=wc λe=>hn (ol.2 e);rw[pR,hg,Ey hn]
theorem Oi{d:Nat}(h:qT k W d r M=⟨vc,v,e,M1⟩)(hv:ab vc)(he:bL ks e=true):AgM ks M1 M:=by
 unfold qT at h
 cases hb:shp r W.ag with
 |false=>rw[hb]at h;exact (br h hv).elim
 |true=>
  rw[hb]at h;simp only[aD]at h;split at h
  ·split at h
   ·(try simp only at h)
    cases hi:inN _ _ with
    |true=>rw[hi]at h;exact (br h hv).elim
    |false=>rw[hi]at h;simp only[bp,Rs.mk.injEq]at h;obtain⟨_,_,rfl,rfl⟩:=h;obtain⟨h1,h2⟩:=iX he;simp only[bL,aU,ao]at h2;exact (KO h2.2).trans ((pC (by simpa only [d9]using h2.1)).trans (Dk _ _ h1))
   ·exact (br h hv).elim
  ·exact (br h hv).elim
theorem Zm{d:Nat}(h:tv W d r M=⟨vc,v,e,M1⟩)(hv:ab vc)(he:bL ks e=true):AgM ks M1 M:=by
 unfold tv at h;split at h
 ·split at h
  ·cases hb:nr W.o with
   |false=>rw[hb]at h;exact (br h hv).elim
   |true=>rw[hb]at h;exact Oi h hv he
  ·split at h
   ·cases hb:slO W.o with
    |false=>rw[hb]at h;exact (br h hv).elim
    |true=>rw[hb]at h;exact Oi h hv he
   ·exact (br h hv).elim
 ·exact (br h hv).elim
theorem d_{W:Wc}(h:tG W r M=⟨vc,v,e,M1⟩)(hv:ab vc)(he:bL ks e=true):AgM ks M1 M:=by
 unfold tG at h;split at h
 ·cases hb:nob _ _ with
  |false=>rw[hb]at h;exact (br h hv).elim
  |true=>
   rw[hb]at h;simp only[aD]at h;split at h
   ·split at h
    ·simp only[Rs.mk.injEq]at h;obtain⟨_,_,rfl,rfl⟩:=h;simp only[bL,aU,ao]at he;exact pC (by simpa only [d9]using he.1)
    ·exact (br h hv).elim
   ·exact (br h hv).elim
 ·exact (br h hv).elim
theorem Zt{W:Wu}{d:Nat}(h:EE W d r M=⟨vc,v,e,M1⟩)(hv:ab vc)(he:bL ks e=true):AgM ks M1 M:=by exact (br h hv).elim
theorem L_{O:Orc}(h:Bw O vs M=⟨vc,v,e,M1⟩)(hv:ab vc)(he:bL ks e=true):AgM ks M1 M:=by exact (br h hv).elim
theorem O9{d:Nat}(h:qc ct d vs M=⟨vc,v,e,M1⟩)(hv:ab vc)(he:bL ks e=true):AgM ks M1 M:=by
 unfold qc at h
 cases hb:shp _ _ with
 |false=>rw[hb]at h;exact (br h hv).elim
 |true=>
  rw[hb]at h;simp only[aD]at h;split at h
  ·split at h
   ·simp only[Rs.mk.injEq]at h;obtain⟨_,_,rfl,rfl⟩:=h;exact KO he
   ·exact (br h hv).elim
  ·split at h
   ·simp only[Rs.mk.injEq]at h;obtain⟨_,_,rfl,rfl⟩:=h;obtain⟨h1,h2⟩:=iX he;exact (KO h2).trans (Dk _ _ h1)
   ·exact (br h hv).elim
theorem YY{d:Nat}(h:oq ct d vs M=⟨vc,v,e,M1⟩)(hv:ab vc)(he:bL ks e=true):AgM ks M1 M:=by
 unfold oq at h;split at h
 ·exact L_ h hv he
 ·exact Zt h hv he
 ·exact d_ h hv he
 ·exact (br h hv).elim
 ·exact Zm h hv he
 ·exact (br h hv).elim
 ·unfold xA at h;split at h
  ·split at h
   ·cases hb:aP _ with
    |false=>rw[hb]at h;exact (br h hv).elim
    |true=>
     rw[hb]at h;simp only[aD]at h;split at h
     ·split at h
      ·simp only[Rs.mk.injEq]at h;obtain⟨_,_,rfl,rfl⟩:=h;obtain⟨h1,h2⟩:=iX he;simp only[bL,aU,ao]at h2;exact (pC (by simpa only [d9]using h2.1)).trans (Dk _ _ h1)
      ·exact (br h hv).elim
     ·exact (br h hv).elim
   ·exact (br h hv).elim
  ·exact (br h hv).elim
 ·split at h
  ·exact O9 h hv he
  ·exact (br h hv).elim
 ·exact O9 h hv he
theorem B8{d:Nat}(h:neg (inN d ks)=true)(g:AgM ks M1 M):AgM ks ((d,ob)::del d M1) M:=λk hk=>by
 have hne:k≠d:=λe=>by subst e;rw[hk]at h;cases h
 have hb:Nat.beq d k=false:=by cases q:Nat.beq d k with
  |false=>rfl
  |true=>exact absurd (dh q).symm hne
 simp only[go,hb,bp];rw[fg hne];exact g k hk
theorem Dy{x:V}{ev:cg}{t:T}{m:List t.den}(h:r8 M x=some (.dat ev M' t m))(he:bL ks ev=true):AgM ks M' M:=by
 unfold r8 at h;split at h
 ·cases h
 ·cases h;exact AgM.refl _ _
 ·split at h
  ·cases h
  ·split at h
   ·cases h;simp only[bL,aU,ao,d9]at he;exact ju he.1
   ·cases h;simp only[bL,aU,ao,d9]at he;exact ju he.1
   ·cases h
  ·cases h
 ·cases h
theorem IS{b:Nat}{e e':O}{l:List e.strip.den}{m:List e'.strip.den}{ev:cg}(h:tx b k e l j e' m ev M1 M0=⟨vc,v,e2,M2⟩)(hv:ab vc)(he:bL ks e2=true)(g:bL ks ev=true->AgM ks M1 M):AgM ks M2 M:=by
 unfold tx at h;split at h
 ·simp only[Rs.mk.injEq]at h;obtain⟨_,_,rfl,rfl⟩:=h;obtain⟨h1,h2⟩:=iX he;simp only[bL,aU,ao,d9]at h2;exact B8 h2.2.1 ((ju h2.1).trans (g h1))
 ·split at h
  ·simp only[Rs.mk.injEq]at h;obtain⟨_,_,rfl,rfl⟩:=h;obtain⟨h1,h2⟩:=iX he;simp only[bL,aU,ao,d9]at h2;exact B8 h2.2.1 ((ju h2.1).trans (g h1))
  ·exact (br h hv).elim
theorem Ja{b:Nat}{e:O}{l:List e.strip.den}{t:T}{m:List t.den}{ev:cg}(h:tF b k e l t m ev M1 M0=⟨vc,v,e2,M2⟩)(hv:ab vc)(he:bL ks e2=true)(g:bL ks ev=true->AgM ks M1 M):AgM ks M2 M:=by
 unfold tF at h;split at h
 ·simp only[Rs.mk.injEq]at h;obtain⟨_,_,rfl,rfl⟩:=h;obtain⟨h1,h2⟩:=iX he;simp only[bL,aU,ao,d9]at h2;exact B8 h2.1 (g h1)
 ·exact (br h hv).elim
theorem ZU{s x:V}(h:pO B dst t s x M=⟨vc,v,e,M1⟩)(hv:ab vc)(he:bL ks e=true):AgM ks M1 M:=by
 unfold pO at h;split at h
 ·rename_i el d src _ hsrc
  cases hb:aP [(B.τ t).ok,(B.τ el).ok,neg (Nat.beq (B.τ el).bytes 0),B.z el,cy (B.σ el).size (B.τ el).size]with
  |false=>rw[hb]at h;exact (br h hv).elim
  |true=>
   rw[hb]at h;simp only[aD]at h;split at h
   ·split at h
    ·cases h;exact AgM.refl _ _
    ·rename_i j e' m
     cases hc:aP [eo j d,cy e'.strip.size (B.τ el).size]with
     |false=>rw[hc]at h;exact (br h hv).elim
     |true=>rw[hc]at h;simp only[aD,Rs.mk.injEq]at h;obtain⟨_,_,rfl,rfl⟩:=h;simp only[bL,aU,ao,d9]at he;exact B8 he.2.1 (ju he.1)
    ·rename_i ev M' t' m
     cases hc:cy t'.size (B.τ el).size with
     |false=>rw[hc]at h;exact (br h hv).elim
     |true=>rw[hc]at h;simp only[aD,Rs.mk.injEq]at h;obtain⟨_,_,rfl,rfl⟩:=h;obtain⟨h1,h2⟩:=iX he;simp only[bL,aU,ao,d9]at h2;exact B8 h2.1 (Dy hsrc h1)
   ·rename_i k π;split at h
    ·rename_i o l _
     cases hc:aP [cy o.strip.size (B.τ el).size,Nat.ble (Nat.succ k) gid]with
     |false=>rw[hc]at h;exact (br h hv).elim
     |true=>
      rw[hc]at h;simp only[aD]at h;split at h
      ·cases h;exact AgM.refl _ _
      ·rename_i j e' m
       cases hd:neg (eo j k)with
       |true=>rw[hd]at h;exact (br h hv).elim
       |false=>rw[hd]at h;refine IS h hv he λh1=>?_;simp only[bL,aU,ao,d9]at h1;exact ju h1.1
      ·split at h
       ·refine Ja h hv he λh1=>?_;obtain⟨h2,h3⟩:=iX h1;simp only[bL,aU,ao,d9]at h3;exact (ju h3.1).trans (Dy hsrc h2)
       ·exact (br h hv).elim
    ·rename_i ob _ _;split at h
     ·rename_i o l ob' _ _
      cases hc:aP [cy o.strip.size (B.τ el).size,neg (Nat.beq d k),Nat.ble (Nat.succ k) gid]with
      |false=>rw[hc]at h;exact (br h hv).elim
      |true=>
       rw[hc]at h;simp only[aD]at h;split at h
       ·cases h;exact AgM.refl _ _
       ·rename_i j e' m
        cases hd:aP [eo j k,eo j d]with
        |false=>rw[hd]at h;exact (br h hv).elim
        |true=>rw[hd]at h;refine IS h hv he λh1=>?_;simp only[bL,aU,ao,d9]at h1;exact pC h1.1
       ·split at h
        ·refine Ja h hv he λh1=>?_;obtain⟨h2,h3⟩:=iX h1;simp only[bL,aU,ao,d9]at h3;exact (pC h3.1).trans (Dy hsrc h2)
        ·exact (br h hv).elim
     ·split at h
      ·rename_i o l _ _ _ ob' _
       cases hc:aP [cy o.strip.size (B.τ el).size,neg (Nat.beq d k),Nat.ble (Nat.succ k) gid]with
       |false=>rw[hc]at h;exact (br h hv).elim
       |true=>
        rw[hc]at h;simp only[aD]at h;split at h
        ·exact (br h hv).elim
        ·rename_i j e' m
         cases hd:aP [eo j k,eo j d]with
         |false=>rw[hd]at h;exact (br h hv).elim
         |true=>rw[hd]at h;refine IS h hv he λh1=>?_;simp only[bL,aU,ao,d9]at h1;exact pC h1.1
        ·split at h
         ·refine Ja h hv he λh1=>?_;obtain⟨h2,h3⟩:=iX h1;simp only[bL,aU,ao,d9]at h3;exact (pC h3.1).trans (Dy hsrc h2)
         ·exact (br h hv).elim
      ·exact (br h hv).elim
     ·exact (br h hv).elim
    ·exact (br h hv).elim
   ·exact (br h hv).elim
 ·exact (br h hv).elim
theorem Y8{r:Nat}{ρ:bA}(h:qZ k r ρ M=some (q,e,M'))(he:bL ks e=true):AgM ks M' M:=by
 unfold qZ at h
 cases hb:neg (eo r k)with
 |true=>rw[hb]at h;cases h
 |false=>
  rw[hb]at h;simp only[bp]at h;split at h
  ·split at h
   ·split at h
    ·cases h;simp only[bL,aU,ao,d9]at he;exact ju he.1
    ·cases hi:r9 ρ with
     |true=>rw[hi]at h;simp only[aD,aG,bS]at h;obtain⟨_,rfl,rfl⟩:=h;simp only[bL,aU,ao,d9]at he;exact ju he.1
     |false=>
      rw[hi]at h;simp only[bp]at h;split at h
      ·simp only[aG,bS]at h;obtain⟨_,rfl,rfl⟩:=h;simp only[bL,aU,ao,d9]at he;exact pC he.1
      ·cases h
   ·cases h
  ·cases h
theorem YZ{r:Nat}{ρ:bA}(h:AY k r ρ M=some (q,e,M'))(he:bL ks e=true):AgM ks M' M:=by
 unfold AY at h
 cases hb:neg (eo r k)with
 |true=>rw[hb]at h;cases h
 |false=>
  rw[hb]at h;simp only[bp]at h;split at h
  ·cases h;simp only[bL,aU,ao,d9]at he;exact ju he.1
  ·split at h
   ·cases h;simp only[bL,aU,ao,d9]at he;exact ju he.1
   ·cases h
  ·cases h
theorem LY{t:T}(ht:∀a b,t=.p a b->∀x y,v≠.p x y)(h:conv k t v M=some (q,e,M'))(he:bL ks e=true):AgM ks M' M:=by
 cases v with
 |p a b=>cases t with
  |p t s=>exact absurd rfl (ht _ _ rfl _ _)
  |_=>simp[conv]at h
 |u|d _ _|nl|np=>cases t<;>simp only[conv]at h<;>cases h<;>exact AgM.refl _ _
 |fn f v=>cases v<;>cases t<;>simp only[conv]at h<;>cases h<;>exact AgM.refl _ _
 |ref r ρ=>cases t<;>simp only[conv]at h<;>exact Y8 h he
 |ad r ρ=>cases t<;>simp only[conv]at h<;>exact YZ h he
 |_=>cases t<;>simp only[conv]at h<;>cases h
theorem Dh{ks:bK}{k:Nat}:(t:T)->(v:V)->(M:Mem)->(q:Ob)->(e:cg)->(M':Mem)->conv k t v M=some (q,e,M')->bL ks e=true->AgM ks M' M
 |.p t s,v,M,q,e,M',h,he=>by
  by_cases hv:∃x y,v=.p x y
  ·obtain⟨x,y,rfl⟩:=hv;simp only[conv]at h;split at h
   ·rename_i q1 e1 M1 h1;split at h
    ·rename_i q2 e2 M2 h2;cases h;obtain⟨g1,g2⟩:=iX he;exact (Dh s _ _ _ _ _ h2 g2).trans (Dh t _ _ _ _ _ h1 g1)
    ·cases h
   ·cases h
  ·exact LY (λ_ _ _ x y e=>hv ⟨x,y,e⟩) h he
 |.int _,_,_,_,_,_,h,he|.bool,_,_,_,_,_,h,he|.str,_,_,_,_,_,h,he|.u,_,_,_,_,_,h,he|.sl _,_,_,_,_,_,h,he|.pt _,_,_,_,_,_,h,he|.fn _ _,_,_,_,_,_,h,he|.ifc _ _,_,_,_,_,_,h,he|.ib _ _,_,_,_,_,_,h,he|.mp _ _,_,_,_,_,_,h,he|.op _,_,_,_,_,_,h,he|.ns _,_,_,_,_,_,h,he|.er _,_,_,_,_,_,h,he|.any,_,_,_,_,_,h,he=>LY (λ_ _ e=>by cases e) h he
termination_by t=>SizeOf.sizeOf t
theorem Og{o:O}{x:o.strip.den}(h:rk k o v M=some (x,e,M'))(he:bL ks e=true):AgM ks M' M:=by
 unfold rk at h;split at h
 ·generalize hz:cD M v=z at h;obtain⟨e1,M1⟩:=z;simp only at h;split at h
  ·cases h;have:=zf (ks:=ks) v M (by rw[hz];exact he);rw[hz]at this;exact this
  ·cases h
 ·split at h
  ·rename_i q e1 M1 h1;split at h
   ·cases h;exact Dh _ _ _ _ _ _ h1 he
   ·cases h
  ·cases h
theorem O2{o:O}{x:o.strip.den}(h:rE k o v M=some (x,e,M'))(he:bL ks e=true):AgM ks M' M:=by
 unfold rE at h;split at h
 ·split at h
  ·rename_i h1;cases h;exact Og h1 he
  ·cases h
 ·exact Og h he
theorem Iw{ks:bK}{k:Nat}{o:O}:∀(vs:cK)(ev:cg)(M:Mem)(l:List o.strip.den)(e:cg)(M':Mem),jr k o ev vs M=some (l,e,M')->bL ks e=true->AgM ks M' M/\bL ks ev=true
 |[],ev,M,l,e,M',h,he=>by simp only[jr]at h;cases h;exact⟨AgM.refl _ _,he⟩
 |v::r,ev,M,l,e,M',h,he=>by
  simp only[jr]at h;split at h
  ·rename_i x e1 M1 h1;split at h
   ·rename_i l2 e2 M2 h2;cases h;obtain⟨g1,g2⟩:=Iw r _ _ _ _ _ h2 he;obtain⟨g3,g4⟩:=iX g2;exact⟨g1.trans (O2 h1 g4),g3⟩
   ·cases h
  ·cases h
theorem K0{d:Nat}(h:neg (inN d ks)=true)(g:AgM ks M1 M):AgM ks ((d,ob)::M1) M:=λk hk=>by
 have hne:k≠d:=λe=>by subst e;rw[hk]at h;cases h
 have hb:Nat.beq d k=false:=by cases q:Nat.beq d k with
  |false=>rfl
  |true=>exact absurd (dh q).symm hne
 simp only[go,hb,bp];exact g k hk
theorem C_(h:n5 B t n ps f d M=⟨vc,v,e,M1⟩)(hv:ab vc)(he:bL ks e=true):AgM ks M1 M:=by
 unfold n5 at h;split at h
 ·rename_i k el _;split at h
  ·cases hb:aP [(B.τ t).ok,(B.τ el).ok,B.z el,Nat.ble (Nat.mul n (B.τ el).size) 16777216,Nat.ble n nb,cy (B.σ el).size (B.τ el).size]with
   |false=>rw[hb]at h;exact (br h hv).elim
   |true=>
    rw[hb]at h;simp only[aD]at h;split at h
    ·cases h;exact AgM.refl _ _
    ·split at h
     ·split at h
      ·rename_i hc;cases h;simp only[bL,aU,ao,d9]at he;exact K0 he.1 ((Iw _ _ _ _ _ _ hc he.2).1.trans (ju he.1))
      ·split at h
       ·rename_i hc;cases h;simp only[bL,aU,ao,d9]at he;exact K0 he.1 ((Iw _ _ _ _ _ _ hc he.2).1.trans (ju he.1))
       ·exact (br h hv).elim
     ·exact (br h hv).elim
  ·exact (br h hv).elim
 ·exact (br h hv).elim
theorem Zc{t:T}(h:Bx b k t v M=some (q,e,M1))(he:bL ks e=true):AgM ks M1 M:=by
 unfold Bx at h;split at h
 ·rename_i r ht;cases h
  cases b with
  |false=>cases ht
  |true=>
   simp only[aD]at ht;unfold FS at ht;split at ht
   ·rename_i r i
    cases hb:neg (eo r k)with
    |true=>rw[hb]at ht;cases ht
    |false=>
     rw[hb]at ht;simp only[bp]at ht;split at ht
     ·cases ht;simp only[bL,aU,ao,d9]at he;exact ju he.1
     ·cases ht
   ·cases ht
 ·exact Dh _ _ _ _ _ _ h he
theorem abg{x:V}(h:vf B t x y M=⟨vc,v,e,M1⟩)(hv:ab vc)(he:bL ks e=true):AgM ks M1 M:=by
 unfold vf at h;split at h
 ·rename_i k π;split at h
  ·rename_i ob q _ _
   cases hb:aP [(B.τ t).ok,fX M y.cells (B.τ t).size,cy q.o.strip.size (B.τ t).size,neg (isZ (B.τ t).size)]with
   |false=>rw[hb]at h;exact (br h hv).elim
   |true=>
    rw[hb]at h;simp only[aD]at h;split at h
    ·rename_i z e1 M' hc
     have fr:bL ks e1=true->AgM ks M' M:=λg=>by
      cases hi:r9 π with
      |true=>
       rw[hi]at hc;simp only[aD]at hc;split at hc
       ·rename_i hw;cases hc;exact O2 hw g
       ·cases hc
      |false=>rw[hi]at hc;simp only[bp]at hc;exact Zc hc g
     split at h
     ·cases hs:cy z.o.strip.size (B.τ t).size with
      |false=>rw[hs]at h;exact (br h hv).elim
      |true=>
       rw[hs]at h;simp only[aD]at h;split at h
       ·cases h;obtain⟨g1,g2⟩:=iX he;simp only[bL,d9,aU,ao]at g2;exact (pC g2.1).trans (fr g1)
       ·cases h;obtain⟨g1,g2⟩:=iX he;simp only[bL,d9,aU,ao]at g2;exact (pC g2.1).trans (fr g1)
     ·exact (br h hv).elim
    ·exact (br h hv).elim
  ·exact (br h hv).elim
 ·exact (br h hv).elim
theorem ae8{x:V}{r:Rs}:(pD x y M r).vc=r.vc:=by
 unfold pD;split
 ·split
  ·rename_i a b _ _ _ _ _ _ _;generalize nob (Nat.blt _ gid) _=bb;cases bb<;>rfl
  ·rfl
 ·rfl
theorem C'{x:V}{r:Rs}(g:bL ks r.ev=true->AgM ks r.M M):bL ks (pD x y M r).ev=true->AgM ks (pD x y M r).M M:=by
 unfold pD;split
 ·split
  ·generalize nob (Nat.blt _ gid) _=bb
   cases bb with
   |true=>simp only[aD];intro he;obtain⟨g1,g2⟩:=iX he;simp only[bL,d9,aU,ao]at g2;exact K0 g2.1.2 ((ju g2.1.1).trans (g g1))
   |false=>simp only[bp];exact g
  ·exact g
 ·exact g
theorem G_{x:V}(hv:ab (tP B t x y M).vc):bL ks (tP B t x y M).ev=true->AgM ks (tP B t x y M).M M:=by
 unfold tP at hv⊢
 cases hk:L9 (B.τ t) x y M with
 |none=>simp only[hk,ae8]at hv⊢;exact C' (λg=>abg rfl hv g)
 |some r=>simp only;intro he;cases hk
theorem ZN(hc:BR o=true)(h:evR B Φ o env M=⟨vc,v,e,M1⟩)(hv:ab vc)(he:bL ks e=true):AgM ks M1 M:=by
 unfold BR at hc;split at hc
 ·rename_i t x y hop;unfold evR at h;rw[hop]at h;simp only[Rs.mk.injEq]at h;obtain⟨rfl,rfl,rfl,rfl⟩:=h;have hv2:=gq hv;simp only[bP,hop]at hv2 he⊢;exact G_ hv2 he
 ·cases hc
theorem ZQ(hc:Bj o=true)(h:evR B Φ o env M=⟨vc,v,e,M1⟩)(hv:ab vc)(he:bL ks e=true):AgM ks M1 M:=by
 unfold Bj at hc;split at hc
 ·rename_i c hop;split at hc
  ·rename_i cx hcal
   have key:∀q:Rs,bP B Φ o (λx=>(rd env x).strip) M=q->ab q.vc->bL ks q.ev=true->AgM ks q.M M:=λq hq hv he=>by
    obtain⟨vc,v,e,M1⟩:=q;simp only[bP,hop,hcal]at hq;split at hq
    ·split at hq
     ·exact YY hq hv he
     ·exact (br hq hv).elim
    ·exact (br hq hv).elim
   unfold evR at h;rw[hop]at h;simp only[Rs.mk.injEq]at h;obtain⟨rfl,rfl,rfl,rfl⟩:=h;exact key _ rfl (gq hv) he
  ·rename_i hcal
   have key:∀q:Rs,bP B Φ o (λx=>(rd env x).strip) M=q->ab q.vc->bL ks q.ev=true->AgM ks q.M M:=λq hq hv he=>by
    obtain⟨vc,v,e,M1⟩:=q;simp only[bP,hop,hcal]at hq;split at hq
    ·rename_i t t' _ _
     cases hb:Nat.beq t t' with
     |false=>rw[hb]at hq;exact (br hq hv).elim
     |true=>rw[hb]at hq;exact ZU hq hv he
    ·exact (br hq hv).elim
   unfold evR at h;rw[hop]at h;simp only[Rs.mk.injEq]at h;obtain⟨rfl,rfl,rfl,rfl⟩:=h;exact key _ rfl (gq hv) he
  ·cases hc
 ·rename_i t n ps hop;unfold evR at h;rw[hop]at h;simp only[Rs.mk.injEq]at h;obtain⟨rfl,rfl,rfl,rfl⟩:=h;have key:∀q:Rs,bP B Φ o (λx=>(rd env x).strip) M=q->ab q.vc->bL ks q.ev=true->AgM ks q.M M:=λq hq hv he=>by obtain⟨vc,v,e,M1⟩:=q;simp only[bP,hop]at hq;exact C_ hq hv he
  exact key _ rfl (gq hv) he
 ·rename_i hop;unfold evR at h;rw[hop]at h;simp only[Rs.mk.injEq]at h;obtain⟨rfl,rfl,rfl,rfl⟩:=h;simp only[bP,hop,ck];exact AgM.refl ks M
 ·rename_i hop;unfold evR at h;rw[hop]at h;simp only[Rs.mk.injEq]at h;obtain⟨rfl,rfl,rfl,rfl⟩:=h;simp only[bP,hop,ck];exact AgM.refl ks M
 ·rename_i hop;unfold evR at h;rw[hop]at h;simp only[Rs.mk.injEq]at h;obtain⟨rfl,rfl,rfl,rfl⟩:=h;simp only[bP,hop,ck];exact AgM.refl ks M
 ·cases hc
theorem AM{ks:bK}{M' M0:Mem}(hM:∀k,inN k ks=true->go M0 k≠none->go M' k=go M0 k):∀v:V,ksV ks v=true->n9 M0 v=true->agV M' M0 v
 |.d _ _,_,_|.nl,_,_|.np,_,_|.u,_,_=>trivial
 |.p a b,h,g=>by simp only[ksV,n9,aU,ao]at h g;exact⟨AM hM a h.1 g.1,AM hM b h.2 g.2⟩
 |.ag v,h,g|.fn f v,h,g|.bx v,h,g=>AM hM v h g
 |.ref k π,h,g=>by
  have hn:go M0 k≠none:=λe=>by simp[n9,e,isN,neg]at g
  exact⟨hM k h hn,hn⟩
 |.ad k π,h,g=>by
  have hn:go M0 k≠none:=λe=>by simp[n9,e,isN,neg]at g
  exact⟨hM k h hn,hn⟩
 |.any,h,_|.tup _,h,_|.gd _ _ _ _,h,_|.ifc _ _,h,_=>by cases h
theorem D0{ks:bK}(e:Ev)(he:d9 ks e=true):∀v:V,ksV ks v=true->v.ev e=v
 |.d _ _,_|.nl,_|.np,_|.u,_=>rfl
 |.p a b,h=>by simp only[ksV,aU,ao]at h;simp only[V.ev,D0 e he a h.1,D0 e he b h.2]
 |.ag v,h|.fn f v,h|.bx v,h=>by simp only[V.ev,D0 e he v h]
 |.ref k π,h=>acu h e he
 |.ad k π,h=>afp h e he
 |.any,h|.tup _,h|.gd _ _ _ _,h|.ifc _ _,h=>by cases h
theorem E7{ks:bK}:∀(e:cg),bL ks e=true->∀v:V,ksV ks v=true->v.evs e=v
 |[],_,_,_=>rfl
 |x::e,he,v,hv=>by simp only[bL,aU,ao]at he;simp only[V.evs,D0 x he.1 v hv];exact E7 e he.2 v hv
theorem Dz{ks:bK}{env:Env}:∀{l:mJ},jx ks env l=true->∀x∈l,ksV ks (rd env x)=true
 |[],_,x,hx=>by cases hx
 |a::l,h,x,hx=>by
  simp only[jx,aU,ao]at h;rcases cQ.1 hx with e|e
  ·subst e;exact h.1
  ·exact Dz h.2 x e
theorem IL{ks:bK}{env env':Env}:∀{l:mJ},(∀x∈l,rd env x=rd env' x)->jx ks env l=jx ks env' l
 |[],_=>rfl
 |a::l,h=>by have h1:jx ks env l=jx ks env' l:=IL λx hx=>h x (oV _ hx);simp only[jx,h a (oW ..),h1]
def FlI(B:Tab)(Φ:dM)(ks as:bK)(x:bR)(env:Env)(M:Mem)(y:V):Prop:=
 (∃t0,(x.op=.move (.tmp t0)\/x.op=.assign (.tmp t0))/\gx (gt env t0)=false/\gt env t0=y)\/(∃t0 k v,x.op=.extract (.tmp t0) k/\gt env t0=.tup v/\nth v k=some y)\/
 (hU x.op=true/\jx ks env (bq x.op)=true/\ksV ks y=true/\∃vc,ab vc/\∀M',AgM ks M' M->evR B Φ x env M'=⟨vc,y,[],M'⟩)\/
 (∃t t0 k,x.op=.load t (.tmp t0)/\gt env t0=.bx (.ad k [.de])/\y=.ad k [.de]/\inN k as=true/\F1 (B.τ t)=true)
theorem ade(e:Ev)(v:V)(h:gx v=false):gx (v.ev e)=false:=by
 cases v with
 |ref k π=>simp only[V.ev];exact QT k π e
 |ad k π=>simp only[V.ev];exact RI k π e
 |gd _ _ _ _=>cases h
 |_=>rfl
theorem QM:∀(e:cg)(v:V),gx v=false->gx (v.evs e)=false
 |[],_,h=>h
 |x::e,v,h=>by simp only[V.evs];exact QM e _ (ade x v h)
theorem SK(e:Ev):∀(v:V)(k:Nat)(y:V),nth v k=some y->nth (v.ev e) k=some (y.ev e)
 |.p a b,0,y,h=>by simp only[nth,aG]at h;subst h;rfl
 |.p a b,k+1,y,h=>by simp only[nth]at h;simp only[V.ev,nth];exact SK e b k y h
 |.any,_,_,h|.nl,_,_,h|.np,_,_,h|.u,_,_,h|.d _ _,_,_,h|.ref _ _,_,_,h|.ad _ _,_,_,h|.ag _,_,_,h|.tup _,_,_,h|.gd _ _ _ _,_,_,h|.fn _ _,_,_,h|.ifc _ _,_,_,h|.bx _,_,_,h=>by simp[nth]at h
theorem Sw:∀(e:cg)(v:V)(k:Nat)(y:V),nth v k=some y->nth (v.evs e) k=some (y.evs e)
 |[],_,_,_,h=>h
 |x::e,v,k,y,h=>by simp only[V.evs];exact Sw e _ k _ (SK x v k y h)
theorem SD:∀(e:cg)(v:V),(V.tup v).evs e=.tup (v.evs e)
 |[],_=>rfl
 |x::e,v=>by simp only[V.evs,V.ev];exact SD e _
theorem ab6(hk:inN k as=true)(x:Ev)(h:xv as x=true):(V.ad k [.de]).ev x=.ad k [.de]:=by
 have ne:∀{j:Nat},neg (inN j as)=true->Nat.beq k j=false:=λ{j} hj=>by
  cases hb:Nat.beq k j with
  |false=>rfl
  |true=>have:=dh hb;subst this;rw[hk]at hj;cases hj
 cases x with
 |kl r|fz r ob|mv r k'|un r k'|kn r k'=>simp only[xv]at h;simp only[V.ev,Ev.ad,ne h,bp]
 |tk r o o'=>
  simp only[xv,gD,fR]at h;simp only[V.ev,Ev.ad];rcases h with h|h
  ·rw[ne h];rfl
  ·rw[h];cases Nat.beq k r<;>rfl
 |cut r o o'=>
  simp only[xv,gD,fR]at h;simp only[V.ev,Ev.ad];rcases h with h|h
  ·rw[ne h];rfl
  ·rw[h];cases Nat.beq k r<;>rfl
theorem Jj{as:bK}{k:Nat}(hk:inN k as=true):∀e:List Ev,vw as e=true->(V.ad k [.de]).evs e=.ad k [.de]
 |[],_=>rfl
 |x::e,h=>by simp only[vw,aU,ao]at h;simp only[V.evs,ab6 hk x h.1];exact Jj hk e h.2
theorem ST:∀(e:cg)(v:V),(V.bx v).evs e=.bx (v.evs e)
 |[],_=>rfl
 |x::e,v=>by simp only[V.evs,V.ev];exact ST e _
theorem FlI.look(h:FlI B Φ ks as x env M y)(hkp:vw as e=true)(hd:hU x.op=true->(bL ks e=true/\AgM ks M1 M)\/(pV M1 x.op env'=true/\jx ks env' (bq x.op)=true/\ksV ks (y.evs e)=true/\evR B Φ x env' M1=⟨[],y.evs e,[],M1⟩))(he:∀t0,Operand.tmp t0∈x.op.operands->gt env' t0=(gt env t0).evs e):FlI B Φ ks as x env' M1 (y.evs e):=by
 rcases h with⟨t0,ho,hg,rfl⟩|⟨t0,k,v,ho,hv,hn⟩|⟨h1,h2,h3,vc,h4,h5⟩|⟨t,t0,k,ho,hv,rfl,hk,hb⟩;rotate_left 3
 ·have he:=he t0 (by simp[ho,Op.operands]);refine .inr (.inr (.inr ⟨t,t0,k,ho,by rw[he,hv,ST,Jj hk e hkp],Jj hk e hkp,hk,hb⟩))
 ·have he:=he t0 (by rcases ho with ho|ho<;>simp[ho,Op.operands]);exact .inl ⟨t0,ho,by rw[he];exact QM e _ hg,he⟩
 ·have he:=he t0 (by simp[ho,Op.operands]);exact .inr (.inl ⟨t0,k,v.evs e,ho,by rw[he,hv,SD],Sw e v k y hn⟩)
 ·rcases hd h1 with⟨hd1,hd2⟩|⟨g1,g2,g3,g4⟩;rotate_left
  ·refine .inr (.inr (.inl ⟨h1,g2,g3,[],trivial,λM' hM=>?_⟩));rw[KX (M:=M') g1 (λhlv q hq=>AM (ks:=ks) (λk hk _=>hM k hk) _ (Dz g2 _ hq) (Do hlv _ hq)) g4 trivial rfl];rfl
  have hr:∀q∈x.op.operands,rd env' q=rd env q:=λq hq=>by
   cases q with
   |tmp t=>have hkq:=Dz h2 _ (K_ h1 _ hq);simp only[rd]at hkq⊢;rw[he t hq,E7 e hd1 _ hkq]
   |const c|global g|func f=>rfl
  refine .inr (.inr (.inl ⟨h1,?_,by rw[E7 e hd1 y h3];exact h3,vc,h4,λM' hM=>?_⟩))
  ·rw[IL λq hq=>hr q (A8 x q hq)];exact h2
  ·rw[xl x hr,h5 M' λk hk=>(hM k hk).trans (hd2 k hk),E7 e hd1 y h3]
theorem FlI.same(h:FlI B Φ ks as x env M y)(he:∀t0,Operand.tmp t0∈x.op.operands->gt env' t0=gt env t0):FlI B Φ ks as x env' M y:=by
 have hr:∀q∈x.op.operands,rd env' q=rd env q:=λq hq=>by
  cases q with
  |tmp t=>exact he t hq
  |const c|global g|func f=>rfl
 rcases h with⟨t0,ho,hg,hy⟩|⟨t0,k,v,ho,hv,hn⟩|⟨h1,h2,h3,vc,h4,h5⟩|⟨t,t0,k,ho,hv,hy,hk,hb⟩
 ·have he:=he t0 (by rcases ho with ho|ho<;>simp[ho,Op.operands]);exact .inl ⟨t0,ho,by rw[he];exact hg,by rw[he];exact hy⟩
 ·have he:=he t0 (by simp[ho,Op.operands]);exact .inr (.inl ⟨t0,k,v,ho,by rw[he];exact hv,hn⟩)
 ·refine .inr (.inr (.inl ⟨h1,?_,h3,vc,h4,λM' hM=>?_⟩))
  ·rw[IL λq hq=>hr q (A8 x q hq)];exact h2
  ·rw[xl x hr];exact h5 M' hM
 ·have he:=he t0 (by simp[ho,Op.operands]);exact .inr (.inr (.inr ⟨t,t0,k,ho,by rw[he];exact hv,hy,hk,hb⟩))
theorem FlI.run(h:FlI B Φ ks as x env M y):∃vc,ab vc/\evR B Φ x env M=⟨vc,y,[],M⟩:=by
 have ns:∀v:V,gx v=false->v.strip=v:=λv hv=>by cases v<;>first|rfl|cases hv
 have nn:∀t,gx (gt env t)=false->ip (rd env) [.tmp t]=[]:=λt ht=>by
  simp only[ip,rd];split
  ·rename_i e;rw[e]at ht;cases ht
  ·rfl
 rcases h with⟨t0,ho,hg,rfl⟩|⟨t0,k,v,ho,hv,hn⟩|⟨h1,h2,h3,vc,h4,h5⟩|⟨t,t0,k,ho,hv,rfl,hk,hb⟩;rotate_left 3
 ·have hg:gx (gt env t0)=false:=by rw[hv];rfl
  have hs:(V.bx (.ad k [.de])).strip=.bx (.ad k [.de]):=rfl;simp only[F1,bQ,bT,bM,ao,eZ,cR,gr,fy]at hb;refine⟨[],trivial,?_⟩;simp only[evR,ho,bP,bq,nn t0 hg,ap,rd,hv,hs,mc,rF,ck,p7,hb.1,hb.2.1,hb.2.2,fX,V.size,lF,bw,bQ,bT,bM,eZ,wq,gD,yU,nN,aD,bp]
 ·refine⟨[],trivial,?_⟩;rcases ho with ho|ho<;>simp only[evR,ho,bP,ck,bq,nn t0 hg,ap,rd,ns _ hg]
 ·have hg:gx (gt env t0)=false:=by rw[hv];rfl
  have hs:(V.tup v).strip=.tup v:=rfl;refine⟨[],trivial,?_⟩;simp only[evR,ho,bP,ck,bq,nn t0 hg,ap,rd,hv,hs,yj,hn,bw]
 ·exact⟨vc,h4,h5 M (AgM.refl ks M)⟩
theorem FlI.of(hx:yw x.op=true)(hn:∀t,gx (gt env t)=false)(h:evR B Φ x env M=⟨vc,v,e,M'⟩)(hv:ab vc):FlI B Φ ks as x env M1 v:=by
 have ns:∀v:V,gx v=false->v.strip=v:=λv hv=>by cases v<;>first|rfl|cases hv
 unfold yw at hx;split at hx
 ·rename_i t0 ho;simp only[evR,ho,bP,ck,rd,ns _ (hn t0),Rs.mk.injEq]at h;exact .inl ⟨t0,.inl ho,hn t0,h.2.1⟩
 ·rename_i t0 ho;simp only[evR,ho,bP,ck,rd,ns _ (hn t0),Rs.mk.injEq]at h;exact .inl ⟨t0,.inr ho,hn t0,h.2.1⟩
 ·rename_i t0 k ho;simp only[evR,ho,bP,ck,rd,ns _ (hn t0),Rs.mk.injEq]at h;obtain⟨h1,h2,_⟩:=h;rw[←h1]at hv;have hv:=gq hv;unfold yj at hv h2;split at hv
  ·rename_i w hw;split at hv
   ·rename_i y hy;rw[hw]at h2;simp only[hy,bw]at h2;exact .inr (.inl ⟨t0,k,w,ho,hw,by rw[←h2];exact hy⟩)
   ·exact absurd hv (by simp[bad,ab])
  ·exact absurd hv (by simp[bad,ab])
 ·cases hx
section
variable {all:gf}{N:Nat->Mem}
structure Hctx (D R:bC) (Ds:fw) (ks as:bK) (B:Tab) (Φ:dM) (all:gf) (m:Nat) (E:Nat->Env) (X N:Nat->Mem) (M0:Mem):Prop where
 hb:kG 0 all.toList=true
 hm:m<=all.size
 ht:FD D R all (db [] all.toList) m=true
 hf:F9 all (db [] all.toList) m=true
 hdr:tD all (db [] all.toList) m=true
 hE:∀(j:Nat)(o:bR),all[j]? = some o->j<m->∃d v vc ev,Hst (Ds.getD j false) ks as B Φ M0 o (E j) (E (j+1)) (N j) (X j) (X (j+1)) d v vc ev
 hX:X 0=[]
 h0:∀t,mi (gt (E 0) t)=true
 hR:R=false->ks=[]
 hD:D=true->∀i,i<m->gI all.size (db [] all.toList) m i=true->Ds.getD i false=true
structure Hsta (all:gf) (m:Nat) (E:Nat->Env) (N:Nat->Mem) (M0:Mem) (listed:gg) (env:Env) (M:Mem):Prop where
 a:∀t,(∀(i:Nat)(o:bR),all[i]? = some o->isL listed i->o.dst≠some t)->gt env t=gt (E 0) t
 b:∀(i:Nat)(o:bR)(t:Nat),all[i]? = some o->isL listed i->o.dst=some t->gt env t=gt (E (i+1)) t
 c:∀k,(∀(i:Nat),i<all.size->isL listed i->k∉bJ (N i))->go M k=go M0 k
 d:∀(i:Nat)(k:Nat),i<all.size->isL listed i->k∈bJ (N i)->go M k=go (N i) k
theorem Hctx.get(C:Hctx D R Ds ks as B Φ all m E X N M0)(h:i<m):all[i]? = some (all[i]'(iA h C.hm)):=rT _
theorem Hctx.xs(C:Hctx D R Ds ks as B Φ all m E X N M0):∀(j:Nat),j<=m->∀k,(∀i,i<j->k∈bJ (N i)->go (X j) k=go (N i) k/\∀i',i'<j->k∈bJ (N i')->i'=i)/\((∀i,i<j->k∉bJ (N i))->go (X j) k=none)
 |0,_,k=>⟨λi h=>aa,λ_=>by rw[C.hX];rfl⟩
 |j+1,hj,k=>by
  obtain⟨d,v,vc,ev,H⟩:=C.hE j _ (C.get aa) aa;obtain⟨h1,h2⟩:=C.xs j aa k;rw[H.x,pR];by_cases hkj:k∈bJ (N j)
  ·have hn:=xq H.nX k hkj;have none_old:∀i,i<j->k∉bJ (N i):=λi hi hk=>by have:=(h1 i hi hk).1;rw[hn]at this;exact ol.1 hk this.symm
   obtain⟨ob,hob⟩:∃ob,go (N j) k=some ob:=by
    cases hg:go (N j) k with
    |none=>exact absurd hg (ol.1 hkj)
    |some ob=>exact⟨ob,rfl⟩
   refine⟨λi hi hk=>?_,λh=>absurd hkj (h j aa)⟩
   have hij:i=j:=by
    rcases ig i j with h|h
    ·exact absurd hk (none_old i h)
    ·omega
   subst hij;rw[hob];refine⟨rfl,λi' hi' hk'=>?_⟩;rcases ig i' i with h|h
   ·exact absurd hk' (none_old i' h)
   ·omega
  ·have hgn:go (N j) k=none:=by
    cases hg:go (N j) k with
    |none=>rfl
    |some ob=>exact absurd (ol.2 (by rw[hg];simp)) hkj
   rw[hgn];simp only;refine⟨λi hi hk=>?_,λh=>h2 λi hi=>h i aa⟩
   have hij:i<j:=by
    rcases ig i j with h|h
    ·exact h
    ·have:i=j:=aa
     subst this;exact absurd hk hkj
   refine⟨(h1 i hij hk).1,λi' hi' hk'=>?_⟩
   have hij':i'<j:=by
    rcases ig i' j with h|h
    ·exact h
    ·have:i'=j:=aa
     subst this;exact absurd hk' hkj
   exact (h1 i hij hk).2 i' hij' hk'
theorem Hctx.uniq(C:Hctx D R Ds ks as B Φ all m E X N M0){y:bR}{t:Nat}(hi:i<m)(hj:j<m)(hx:all[i]? = some x)(hy:all[j]? = some y)(h1:x.dst=some t)(h2:y.dst=some t):i=j:=by
 rcases Nat.decEq i j with h|h
 ·exact absurd h2 (OG (sQ C.hdr hi hj h hx hy) h1)
 ·exact h
theorem Hctx.gts(C:Hctx D R Ds ks as B Φ all m E X N M0)(j t:Nat)(hj:j<=m):
  ((∀(i:Nat)(o:bR),all[i]? = some o->i<j->o.dst≠some t)->gt (E j) t=gt (E 0) t)/\
  (∀(i:Nat)(o:bR),all[i]? = some o->i<j->o.dst=some t->gt (E j) t=gt (E (i+1)) t):=by
 have hm:=C.hm;have hlen:(all.toList.take m).length=m:=by simp[hm]
 have take_lt:∀{i:Nat} {o:bR},(all.toList.take m)[i]? = some o->i<m/\all[i]? = some o:=λ{i o} h=>by have h1:=(gN.1 h).1;rw[hlen]at h1;rw[rU h1,Al]at h;exact⟨h1,h⟩
 have lt_take:∀{i:Nat} {o:bR},i<m->all[i]? = some o->(all.toList.take m)[i]? = some o:=λ{i o} h1 h=>by rw[rU h1,Al];exact h
 have hw:∀(j:Nat)(o:bR),(all.toList.take m)[j]? = some o->E (j+1)=wr o.dst (match all[j]? with|some o=>(match o.dst with|some d=>gt (E (j+1)) d|none=>.any)|none=>.any) (E j):=λj o hj=>by obtain⟨h1,h2⟩:=take_lt hj;obtain⟨d,v,vc,ev,H⟩:=C.hE j o h2 h1;rw[h2];simp only[H.dst,wr];rw[H.he];simp only[gY,eX]
 obtain⟨a1,a2⟩:=J9 hw j t aa;refine⟨λh=>a1 λi o hi=>h i o (take_lt hi).2,λi o hi hlt hd=>?_⟩;rw[a2 i o (lt_take aa hi) hlt hd λi' o' hi' hl' hd'=>C.uniq (take_lt hi').1 aa (take_lt hi').2 hi hd' hd];simp only[hi,hd]
theorem Hctx.step(C:Hctx D R Ds ks as B Φ all m E X N M0)(hs:listed.size=all.size)(hl:∀i,i<all.size->isL listed i->i<m)(hdn:oI all listed)(S:Hsta all m E N M0 listed env M)(hst:St F p env M a w)(ho:all[j]? = some o)(hjm:j<m)(hnl:¬isL listed j)(hrd:∀e∈o.after,Region.binds .any e=true->isL listed e.on):tw B Φ (toL all) [o] env M (λenv' M'=>Hsta all m E N M0 (listed.setIfInBounds j true) env' M'):=by
 have hjs:=(eF.1 ho).1;have hset:∀i,isL (listed.setIfInBounds j true) i<->i=j\/isL listed i:=λi=>Ks (by rw[hs];exact hjs);have hlm:∀{i:Nat} {x:bR},all[i]? = some x->isL listed i->i<m:=λh1 h2=>hl _ (eF.1 h1).1 h2
 have hlook:∀t∈o.looksAt all,gt env t=gt (E j) t:=λt htl=>by
  by_cases hw:∃(i:Nat)(x:bR),all[i]? = some x/\i<m/\x.dst=some t
  ·obtain⟨i,x,e1,e2,e3⟩:=hw;by_cases hij:i<j
   ·have hpair:=xe (sQ C.hdr e2 hjm aa e1 ho) e3 htl;rw[am hij]at hpair;have hli:=lX hdn C.hb j o ho hrd i hpair;rw[S.b i x t e1 hli e3,(C.gts j t aa).2 i x e1 hij e3]
   ·have hnli:¬isL listed i:=λhli=>by
     by_cases e:i=j
     ·subst e;exact hnl hli
     ·have hpair:=xe (sQ C.hdr e2 hjm e e1 ho) e3 htl;rw[ai hij]at hpair;exact hnl (lX hdn C.hb i x e1 (λe' he' hb'=>hdn i x e1 hli e' he' hb') j hpair)
    rw[S.a t λi' o' h1' h2' h3'=>hnli (C.uniq (hlm h1' h2') e2 h1' e1 h3' e3▸h2')];exact ((C.gts j t aa).1 λi' o' h1' h2' h3'=>hij (C.uniq aa e2 h1' e1 h3' e3▸h2')).symm
  ·rw[S.a t λi x h1 h2 h3=>hw ⟨i,x,h1,hlm h1 h2,h3⟩];exact ((C.gts j t aa).1 λi x h1 h2 h3=>hw ⟨i,x,h1,aa,h3⟩).symm
 have hrdE:∀x∈o.op.operands,rd env x=rd (E j) x:=λx hx=>by
  cases x with
  |tmp t=>exact hlook t (jH _ (w9.2 ⟨.tmp t,by simpa using hx,rfl⟩))
  |const c|global g|func f=>rfl
 obtain⟨d,v,vc,ev,H⟩:=C.hE j o ho hjm
 have hkey:∀k,go (ap (X j) M0) k≠none->go M k≠none->go M k=go (ap (X j) M0) k:=λk h1 h2=>by
  obtain⟨x1,x2⟩:=C.xs j aa k;rw[pR]at h1⊢;by_cases hw:∃i,i<m/\k∈bJ (N i)
  ·obtain⟨i,hi,hk⟩:=hw;have gone:go M0 k=none:=by obtain⟨d',v',vc',ev',H'⟩:=C.hE i _ (C.get hi) hi;exact xq H'.n0 k hk
   have one:∀i',i'<m->k∈bJ (N i')->i'=i:=λi' hi' hk'=>((C.xs m (aZ _) k).1 i hi hk).2 i' hi' hk';have hli:isL listed i:=Classical.byContradiction λhn=>h2 (by rw[S.c k λi' hi' hl' hk'=>hn (one i' (hl i' hi' hl') hk'▸hl'),gone]);rw[S.d i k (iA hi C.hm) hli hk];by_cases hij:i<j
   ·rw[(x1 i hij hk).1]
    cases hg:go (N i) k with
    |none=>exact absurd hg (ol.1 hk)
    |some ob=>rfl
   ·rw[x2 λi' hi' hk'=>hij (one i' aa hk'▸hi'),gone]at h1;exact absurd rfl h1
  ·rw[x2 λi hi hk=>hw ⟨i,aa,hk⟩];simp only;exact S.c k λi hi hli hk=>hw ⟨i,hl i hi hli,hk⟩
 have agr:xG (ap (X j) M0) (E j) (bq o.op)=true->∀x∈bq o.op,agV M (ap (X j) M0) (rd (E j) x):=λhlv x hx=>by
  by_cases hxt:∃t,x=.tmp t
  ·obtain⟨t,rfl⟩:=hxt;have hrel:=hst.slots t;have e1:gt env t=gt (E j) t:=by simpa only [rd]using hrdE (.tmp t) (A8 o _ hx)
   rw[e1]at hrel;exact ae2 hkey _ (Do hlv _ hx) _ hrel
  ·exact agv x λt h=>hxt ⟨t,h⟩
 have hr:evR B Φ o env M=⟨vc,v,ev,ap (N j) (fM (bJ (N j)) M)⟩:=by rw[xl o hrdE];obtain⟨N',hr,hN⟩:=H.r;have hkl:=H.kl;rw[hN]at hkl⊢;exact KX H.k agr hr H.hv hkl
 have hdis:∀i,i<all.size->isL listed i->∀k,k∈bJ (N i)->k∉bJ (N j):=λi hi hli k h1 h2=>by have him:=hl i hi hli;have:=((C.xs m (aZ _) k).1 i him h1).2 j hjm h2;subst this;exact hnl hli
 have hgone:∀k∈bJ (N j),go M k=none:=λk hk=>by rw[S.c k λi hi hli h=>hdis i hi hli k h hk];exact xq H.n0 k hk
 have hng:∀t,mi (gt env t)=true:=λt=>by
  by_cases hw:∃(i:Nat)(x:bR),all[i]? = some x/\isL listed i/\x.dst=some t
  ·obtain⟨i,x,e1,e2,e3⟩:=hw;rw[S.b i x t e1 e2 e3];obtain⟨d',v',vc',ev',H'⟩:=C.hE i x e1 (hlm e1 e2);have:d'=t:=by have:=H'.dst;rw[e3]at this;exact (rV this).symm
   subst this;rw[H'.he,gY,am rfl];exact H'.gd
  ·rw[S.a t λi x h1 h2 h3=>hw ⟨i,x,h1,h2,h3⟩];exact C.h0 t
 have stab:∀t,gt (fL env ev) t=gt env t:=λt=>by rw[l6];exact Sc H.kl λk hk=>(abo (hgone k hk) (gt env t) (hng t)).1 _ (hst.slots t)
 simp only[tw,H.g,hr,kB,H.dst,wr];refine⟨H.hv,λt ht=>?_,λi x t hi hli hdx=>?_,λk hk=>?_,λi k hi hli hk=>?_⟩
 ·have htd:d≠t:=λh=>ht j o ho ((hset j).2 (.inl rfl)) (by rw[H.dst,h]);rw[gY,ai htd,stab];exact S.a t λi x hi hl'=>ht i x hi ((hset i).2 (.inr hl'))
 ·rw[gY];by_cases hij:i=j
  ·subst hij;rw[ho]at hi;cases hi;rw[H.dst]at hdx;cases hdx;rw[am rfl,H.he,gY,am rfl]
  ·have hli':=((hset i).1 hli).resolve_left hij;have htd:d≠t:=λh=>hij (C.uniq (hlm hi hli') hjm hi ho hdx (by rw[H.dst,h]));rw[ai htd,stab];exact S.b i x t hi hli' hdx
 ·have hkj:k∉bJ (N j):=hk j hjs ((hset j).2 (.inl rfl))
  have hgn:go (N j) k=none:=by
   cases hg:go (N j) k with
   |none=>rfl
   |some ob=>exact absurd (ol.2 (by rw[hg];simp)) hkj
  rw[pR,hgn];simp only;rw[Ey hkj];exact S.c k λi hi hli=>hk i hi ((hset i).2 (.inr hli))
 ·rw[pR];by_cases hij:i=j
  ·subst hij
   cases hg:go (N i) k with
   |none=>exact absurd hg (ol.1 hk)
   |some ob=>rfl
  ·have hli':=((hset i).1 hli).resolve_left hij;have hkj:=hdis i hi hli' k hk
   have hgn:go (N j) k=none:=by
    cases hg:go (N j) k with
    |none=>rfl
    |some ob=>exact absurd (ol.2 (by rw[hg];simp)) hkj
   rw[hgn];simp only;rw[Ey hkj];exact S.d i k hi hli' hk
theorem IZ(h:FD D R all ms m=true)(hm:m<=j){y:bR}(hy:all[j]? = some y):y.guard=none/\∀i,i<j->(ms.getD j 0).testBit i=true\/(i<m/\∃x,all[i]? = some x/\flt D R all x y=true):=by
 have hj:=(eF.1 hy).1;have:=eU.1 h j (by simpa using hj);rw[hy]at this;simp only[fR,ao]at this;rcases this with h1|⟨h1,h2⟩
 ·rw[ql]at h1;omega
 ·refine⟨Qq h1,λi hi=>?_⟩;have h3:=eU.1 h2 i (by simpa using hi);simp only[fR,ao]at h3;rcases h3 with h3|⟨h3,h4⟩
  ·exact .inl h3
  ·right;rw[ql]at h3;refine⟨h3,?_⟩
   cases hx:all[i]? with
   |none=>rw[hx]at h4;cases h4
   |some x=>rw[hx]at h4;exact⟨x,rfl,h4⟩
theorem OK{x:bR}:∀{l:bY},EY l=true->x∈l->hU x.op=false
 |y::l,h,hm=>by
  simp only[EY,aU,gr,ao,fy]at h
  cases hm with
  |head=>exact h.1
  |tail _ hm=>exact OK h.2 hm
theorem DO{y:bR}(h:flt D R all x y=true):x.guard=none/\(FQ D x.op=true/\(R=true->hU x.op=true->Bj y=true\/BR y=true))/\∃t,x.dst=some t/\t∉y.looksAt all/\∀u,y.dst=some u->u≠t/\u∉x.looksAt all:=by
 unfold flt at h;simp only[aU,ao]at h;obtain⟨h1,⟨h2,h2'⟩,h3⟩:=h;refine⟨Qq h1,⟨h2,λhR hk=>?_⟩,?_⟩
 ·rw[hR]at h2';simp only[gD,gr,wo,yH,fR]at h2';rcases h2' with h|h|h
  ·exfalso;unfold yw at h;unfold hU at hk;split at h
   ·rename_i ho;rw[ho]at hk;simp[lE,mF,kQ]at hk
   ·rename_i ho;rw[ho]at hk;simp[lE,mF,kQ]at hk
   ·rename_i ho;rw[ho]at hk;simp[lE,mF,kQ]at hk
   ·cases h
  ·exact .inl h
  ·exact .inr h
 cases hd:x.dst with
 |none=>rw[hd]at h3;cases h3
 |some t=>
  rw[hd]at h3;simp only[aU,ao,gr,fy]at h3;refine⟨t,rfl,λht=>?_,λu hu=>?_⟩
  ·have:(n7 all y).contains t=true:=by simpa[n7]using ht
   rw[h3.1]at this;cases this
  ·rw[hu]at h3;have h4:=h3.2;simp only[ao,fy]at h4;refine⟨λe=>?_,λht=>?_⟩
   ·subst e;rw[Nat.beq_refl]at h4;exact absurd h4.1 ak
   ·have:(n7 all x).contains u=true:=by simpa[n7]using ht
    rw[h4.2]at this;cases this
theorem OQ(h:gI all.size ms m i=true):∃j,m<=j/\j<all.size/\(ms.getD j 0).testBit i=false:=by
 obtain⟨j,h1,h2⟩:=List.any_eq_true.1 h;simp only[ao,fy]at h2;refine⟨j,?_,by simpa using h1,h2.2⟩;rcases ig j m with h|h
 ·have hb:Nat.blt j m=true:=by rw[ql];exact h
  rw[hb]at h2;exact absurd h2.1 ak
 ·exact h
theorem Z'(h:gI all.size ms m i=false)(hj:j<all.size)(hm:m<=j):(ms.getD j 0).testBit i=true:=by
 cases ht:(ms.getD j 0).testBit i with
 |true=>rfl
 |false=>
  have:gI all.size ms m i=true:=List.any_eq_true.2 ⟨j,by simpa using hj,by
   simp only[ao,fy];refine⟨?_,ht⟩
   cases hb:Nat.blt j m with
   |false=>rfl
   |true=>rw[ql]at hb;omega⟩
  rw[h]at this;cases this
theorem Pe(h:F9 all ms m=true)(hi:i<m)(hj:j<m)(hne:i<=j)(fi:gI all.size ms m i=true)(fj:gI all.size ms m j=true){y:bR}(hx:all[i]? = some x)(hy:all[j]? = some y)(hu:y.dst=some u):u∉x.looksAt all:=by
 have h1:=eU.1 h i (by simpa using hi);rw[fi]at h1;simp only[wo,yH]at h1;have h2:=eU.1 h1 j (by simpa using hj);rw[fj,hx,hy]at h2;simp only[wo,yV,fR,hu,fy]at h2;rcases h2 with h2|h2
 ·rw[ql]at h2;omega
 ·intro ht;have:(n7 all x).contains u=true:=by simpa[n7]using ht
  rw[h2]at this;cases this
structure Bsta (B:Tab) (Φ:dM) (ks as:bK) (all:gf) (m c:Nat) (listed:gg) (env Ec:Env) (M:Mem):Prop where
 h:∀i,i<m->isL listed i\/gI all.size (db [] all.toList) m i=true/\∃x t,all[i]? = some x/\x.guard=none/\x.dst=some t/\FlI B Φ ks as x Ec M (gt Ec t)
 a:∀t,(∀(i:Nat)(x:bR),i<m->all[i]? = some x->¬isL listed i->x.dst≠some t)->gt env t=gt Ec t
theorem IP(l:fw)(n:Nat):tJ (l.drop n)=l.getD n false:=by
 induction l generalizing n with
 |nil=>simp[tJ]
 |cons a l ih=>cases n with
  |zero=>rfl
  |succ n=>simpa using ih n
theorem Z1(l:fw)(n:Nat):rp (l.drop n)=l.drop (n+1):=by
 induction l generalizing n with
 |nil=>simp[rp]
 |cons a l ih=>cases n with
  |zero=>rfl
  |succ n=>simpa using ih n
theorem ZZ{l:bY}(hm:m<=j)(hj:j<l.length)(hi:i<m)(hb:((db [] l).getD j 0).testBit i=false):(mz l m).getD (j-m) false=true:=by unfold mz;have hl:len l=l.length:=AO l;rw[bN,fQ,nO (by rw[hl];show j-m<l.length-m;omega)];simp only[dX,dY,List.any_eq_true,yW];refine⟨i,hi,?_⟩;rw[show Nat.add m (j-m)=j from by show m+(j-m)=j;omega,hb];rfl
theorem Di:∀{a b:bA},Bd a b=true->a=b
 |[],[],_=>rfl
 |.l::a,.l::b,h|.r::a,.r::b,h|.de::a,.de::b,h=>by rw[Di (a:=a) (b:=b) h]
 |.ix i::a,.ix j::b,h=>by simp only[Bd,aU,ao]at h;rw[dh h.1,Di h.2]
 |[],_::_,h|.l::_,[],h|.r::_,[],h|.de::_,[],h|.ix _::_,[],h|.l::_,.r::_,h|.l::_,.de::_,h|.l::_,.ix _::_,h|.r::_,.l::_,h|.r::_,.de::_,h|.r::_,.ix _::_,h|.de::_,.l::_,h|.de::_,.r::_,h|.de::_,.ix _::_,h|.ix _::_,.l::_,h|.ix _::_,.r::_,h|.ix _::_,.de::_,h=>by cases h
theorem acn{a b:V}(h:L1 a b=true):a=b:=by
 cases a<;>cases b<;>simp only[L1,eE]at h
 ·simp only[aU,ao]at h;rw[dh h.1,Di h.2]
 ·simp only[aU,ao]at h;rw[dh h.1,Di h.2]
theorem Kk{ks:bK}{x:bR}{env:Env}{M:Mem}:∀{ls:bY},stB B Φ ks ls env M=true->x∈ls->∃d v M2,x.dst=some d/\evR B Φ x env M=⟨[],v,[],M2⟩/\v=gt env d/\pV M x.op env=true/\jx ks env (bq x.op)=true/\ksV ks v=true
 |[],_,h=>by cases h
 |o::r,h,hx=>by
  simp only[stB]at h;split at h
  ·rename_i d v M2 h1 h2;simp only[aU,ao]at h;rcases cQ.1 hx with rfl|hx
   ·exact⟨d,v,M2,h1,h2,acn h.2.1,h.1.1,h.1.2.1,h.1.2.2⟩
   ·exact Kk h.2.2 hx
  ·cases h
theorem Ph:∀(bs:fw)(l:bY)(i:Nat)(x:bR),bs.getD i false=true->l[i]? = some x->hU x.op=true->x∈xU bs l
 |[],_,_,_,h,_,_|_::_,[],_,_,_,h,_=>by simp at h
 |b::bs,o::r,0,x,hb,hx,hk=>by simp only[jG,aG]at hx;subst hx;simp only[wd]at hb;subst hb;simp only[xU,hk,aU,nN,aD];exact oW
 |b::bs,o::r,i+1,x,hb,hx,hk=>by
  have:=Ph bs r i x (by simpa using hb) (by simpa using hx) hk;simp only[xU]
  cases nob b (hU o.op)with
  |true=>exact oV _ this
  |false=>exact this
theorem Jc(hm:m<=j)(hj:j<all.size)(hi:i<m)(hx:all[i]? = some x)(hb:((db [] all.toList).getD j 0).testBit i=false)(hk:hU x.op=true):x∈(my all.toList m).getD (j-m) []:=by
 unfold my;have hl:len all.toList=all.size:=by rw[AO];rfl
 rw[bN,fQ,nO (by rw[hl];show j-m<all.size-m;omega)];simp only[dX,dY];refine Ph _ _ i x ?_ ?_ hk
 ·rw[bN,fQ,nO hi];simp only[dX,dY];rw[show Nat.add m (j-m)=j from by show m+(j-m)=j;omega,hb];rfl
 ·rw[DN,rU hi,qv];exact hx
theorem JE(l:List (List Oper))(n:Nat):hdP (l.drop n)=l.getD n []:=by
 induction l generalizing n with
 |nil=>simp[hdP]
 |cons a l ih=>cases n with
  |zero=>rfl
  |succ n=>simpa using ih n
theorem abe(l:List (List Oper))(n:Nat):tlP (l.drop n)=l.drop (n+1):=by
 induction l generalizing n with
 |nil=>simp[tlP]
 |cons a l ih=>cases n with
  |zero=>rfl
  |succ n=>simpa using ih n
theorem ab8{x:V}{r:Rs}(h:rF τ M d x=some r)(h1:r.vc=[])(h2:r.ev=[]):False:=by cases h
theorem ae0{x:V}(h1:(mc τ M d x).vc=[])(h2:(mc τ M d x).ev=[]):(mc τ M d x).M=M:=by
 unfold mc at h1 h2⊢
 cases hr:rF τ M d x with
 |some r=>simp only[hr]at h1 h2;exact (ab8 hr h1 h2).elim
 |none=>rfl
theorem aga{x:eO}(h:(kK B t d ρ x lo hi M).ev=[]):(kK B t d ρ x lo hi M).M=M:=by generalize hq:kK B t d ρ x lo hi M=q at h;obtain⟨a1,a2,a3,a4⟩:=q;simp only at h⊢;subst h;exact (SS hq rfl).2
theorem TT(hk:hU x.op=true)(h:evR B Φ x env M=⟨[],v,[],M2⟩):M2=M:=by
 obtain⟨dst,op,ty',pos,after,guard⟩:=x;have h1:(evR B Φ ⟨dst,op,ty',pos,after,guard⟩ env M).vc=[]:=by rw[h]
 have h3:(evR B Φ ⟨dst,op,ty',pos,after,guard⟩ env M).ev=[]:=by rw[h]
 have h4:(evR B Φ ⟨dst,op,ty',pos,after,guard⟩ env M).M=M2:=by rw[h]
 rcases Classical.em (∃c,op=.call c)with⟨c,rfl⟩|hcc
 ·have hb:kQ (.call c)=true:=by simpa[hU,lE,mF]using hk
  exact (Tb hb h).2
 rw[←h4];clear h h4;unfold hU at hk;cases op<;>simp only[lE,mF,gD,yV,yU,aU,gr,ao,fy,eE,false_and]at hk
 case call c=>exact absurd ⟨c,rfl⟩ hcc
 case slice t x lo hi mx=>
  cases mx with
  |some _=>simp[kQ]at hk
  |none=>exact aga h3
 all_goals simp only[kQ,gD,yV,yU,aU,gr,ao,fy,eE,false_and]at hk
 case load t y=>exact ae0 (τ:=B.τ _) (d:=dst) (Kc h1).2 h3
 case build t ps=>exact SI.2
 all_goals first|rfl|exact absurd hk ak
theorem acv(hΦ:iF P F Φ)(hB:TabOk P B)(Q:gL)(K:Env->Mem->Prop)(hQ:∀p env M a w,St F p env M a w->K env M->Q .normal a w)(hb:kG 0 all.toList=true)(ht:FD D R all (db [] all.toList) m=true)(hR:R=false->ks=[])(hff:F9 all (db [] all.toList) m=true)(huq:∀(i j:Nat)(x y:bR)(t:Nat),i<m->j<m->all[i]? = some x->all[j]? = some y->x.dst=some t->y.dst=some t->i=j)(hdr:tD all (db [] all.toList) m=true)(hco:fA F.nt all.toList=true)(hfv:∀o∈all.toList,∀k,o.dst=some k->F.fv k=none):
  ∀(fuel:Nat)(listed:gg)(c:Nat)(p:Ow)(env Ec:Env)(M:Mem)(a:Act)(w:aK),listed.size=all.size->(∀i,m<=i->i<all.size->(isL listed i<->i<c))->m<=c->unl listed all.size<=fuel->oI all listed->Bsta B Φ ks as all m c listed env Ec M->lH ks as B Φ ((my all.toList m).drop (c-m)) ((mz all.toList m).drop (c-m)) (all.toList.drop c) Ec M=true->
   St F p env M a w->tw B Φ (toL all) (all.toList.drop c) Ec M K->wpAny P .any all Q fuel listed a w:=by
 intro fuel
 have done:∀(listed:gg)(c:Nat)(p:Ow)(env Ec:Env)(M:Mem)(a:Act)(w:aK),listed.size=all.size->(∀i,m<=i->i<all.size->(isL listed i<->i<c))->m<=c->Region.ready .any all listed=[]->Bsta B Φ ks as all m c listed env Ec M->St F p env M a w->tw B Φ (toL all) (all.toList.drop c) Ec M K->Q .normal a w:=by
  intro listed c p env Ec M a w hs hl hmc hr S hst hk;have hall:=Dl hs hb hr
  have hc:all.toList.length<=c:=by
   rcases ig c all.size with h|h
   ·have:=(hl c hmc h).1 (hall c h);omega
   ·simpa using h
  rw[yS hc]at hk;simp only[tw]at hk;exact hQ p Ec M a w (hst.weak λt=>.inr (S.a t λi x h1 h2 h3=>absurd (hall i (eF.1 h2).1) h3).symm) hk
 have noready:∀(listed:gg),listed.size=all.size->unl listed all.size=0->Region.ready .any all listed=[]:=by
  intro listed hs hu
  cases hr:Region.ready .any all listed with
  |nil=>rfl
  |cons i r=>obtain⟨o,h1,h2,_⟩:=uP (j:=i) (by rw[hr];simp);have hi:=(eF.1 h1).1;have:=A3 hu i hi;unfold isL at this;simp[hs,hi]at this h2;rw[this]at h2;cases h2
 induction fuel with
 |zero=>intro listed c p env Ec M a w hs hl hm hu _ S hck hst hk;have hr:=noready listed hs aa;exact⟨hr,done listed c p env Ec M a w hs hl hm hr S hst hk⟩
 |succ fuel ih=>
  intro listed c p env Ec M a w hs hl hm hu hdn S hck hst hk;refine⟨λhr=>done listed c p env Ec M a w hs hl hm hr S hst hk,λj hj=>?_⟩;obtain⟨o,h1,h2,h3⟩:=uP hj;have hjs:=(eF.1 h1).1;have hnl:¬isL listed j:=by unfold isL;simp[hs,hjs]at h2⊢;exact h2
  have hmem:o∈all.toList:=by rw[lj];exact um h1
  have hset:∀i,isL (listed.setIfInBounds j true) i<->i=j\/isL listed i:=λi=>Ks (by rw[hs];exact hjs);have hul:=AA (by rw[hs];exact hjs) hnl all.size hjs;by_cases hjm:j<m
  ·rcases S.h j hjm with h|⟨fj,x,t,e1,e2,e3,e4⟩
   ·exact absurd h hnl
   rw[h1]at e1;cases e1
   have hop:∀q∈o.op.operands,rd env q=rd Ec q:=λq hq=>by
    cases q with
    |tmp t0=>
     have hlk:t0∈o.looksAt all:=jH _ (w9.2 ⟨.tmp t0,by simpa using hq,rfl⟩);refine S.a t0 λi x hi hx hn hd=>?_;rcases S.h i hi with h|⟨fi,_⟩
     ·exact hn h
     rcases ig i j with hij|hij
     ·have hpair:=xe (sQ hdr hi hjm aa hx h1) hd hlk;rw[am hij]at hpair;exact hn (lX hdn hb j o h1 h3 i hpair)
     ·exact Pe hff hjm hi hij fj fi h1 hx hd hlk
    |const c|global g|func f=>rfl
   obtain⟨vc,hvc,hr0⟩:=e4.run (M:=M);have hr:evR B Φ o env M=⟨vc,gt Ec t,[],M⟩:=by rw[xl o hop];exact hr0
   refine wpOp_mono (λa' w' ⟨p',env',M',q1,q2,q3⟩=>?_) (Ez (rest:=[]) (K:=λenv' M'=>env'=(t,gt Ec t)::env/\M'=M) hΦ hB hst (by simp only[tw,e2,hr,e3,kB,wr,fL];exact⟨hvc,trivial,trivial⟩) (qP hco hmem) (hfv o hmem) h1 Q);subst q2;subst q3;refine ih _ c p' _ Ec _ a' w' (by simpa using hs) (λi hi his=>?_) hm aa (hdn.set hj) ⟨λi hi=>?_,λt' ht'=>?_⟩ hck q1 hk
   ·rw[hset];exact⟨λh=>h.elim (λh=>aa) (hl i hi his).1,λh=>.inr ((hl i hi his).2 h)⟩
   ·rcases S.h i hi with h|h
    ·exact .inl ((hset i).2 (.inr h))
    ·exact .inr h
   ·rw[gY];by_cases htt:t=t'
    ·subst htt;rw[am rfl]
    ·rw[ai htt];refine S.a t' λi x hi hx hn hd=>?_;by_cases hij:i=j
     ·subst hij;rw[h1]at hx;cases hx;rw[e3]at hd;cases hd;exact htt rfl
     ·exact ht' i x hi hx (λh=>((hset i).1 h).elim hij hn) hd
  ·have hmj:m<=j:=aa
   obtain⟨hg,hsp⟩:=IZ ht hmj h1
   have hcj:c<=j:=by
    rcases ig j c with h|h
    ·exact absurd ((hl j hmj hjs).2 h) hnl
    ·exact h
   have hjc:j=c:=by
    rcases ig c j with h|h
    ·rcases hsp c h with hb1|⟨hb1,_⟩
     ·have:=lX hdn hb j o h1 h3 c hb1;have:=(hl c hm aa).1 this;omega
     ·omega
    ·omega
   subst hjc
   have yr:∀{i:Nat},i<m->¬isL listed i->∃x,all[i]? = some x/\flt D R all x o=true:=λ{i} hi hn=>by
    rcases hsp i aa with hb1|⟨_,h⟩
    ·exact absurd (lX hdn hb j o h1 h3 i hb1) hn
    ·exact h
   have hdrop:all.toList.drop j=o::all.toList.drop (j+1):=by rw[yT (by simpa using hjs)];congr 1;have:=(eF.1 h1).2;simpa using this
   rw[hdrop]at hk hck;have hlook:∀t∈o.looksAt all,gt env t=gt Ec t:=λt htl=>S.a t λi x hi hx hn hd=>by obtain⟨x',hx',hf⟩:=yr hi hn;rw[hx]at hx';cases hx';obtain⟨_,_,t',ht',hnot,_⟩:=DO hf;rw[hd]at ht';cases ht';exact hnot htl
   have hrdE:∀x∈o.op.operands,rd env x=rd Ec x:=λx hx=>by
    cases x with
    |tmp t=>exact hlook t (jH _ (w9.2 ⟨.tmp t,by simpa using hx,rfl⟩))
    |const c|global g|func f=>rfl
   have hev:evR B Φ o env M=evR B Φ o Ec M:=xl o hrdE;simp only[tw,hg]at hk;generalize hq:evR B Φ o Ec M=q at hk;obtain⟨vc,v,e,M1⟩:=q;simp only[kB]at hk;simp only[lH,hq,aU,ao,gD,fR,gr,fy,IP,Z1,JE,abe]at hck;rw[show j-m+1=j+1-m from by omega]at hck;refine wpOp_mono (λa' w' ⟨p',env',M',q1,q2,q3⟩=>?_) (Ez (rest:=[]) (K:=λenv' M'=>env'=wr o.dst v (fL env e)/\M'=M1) hΦ hB hst (by simp only[tw,hg,hev,hq,kB];exact⟨hk.1,trivial,trivial⟩) (qP hco hmem) (hfv o hmem) h1 Q);subst q2;subst q3;refine ih _ (j+1) p' _ (wr o.dst v (fL Ec e)) _ a' w' (by simpa using hs) (λi hi his=>?_) aa aa (hdn.set hj) ⟨λi hi=>?_,λt' ht'=>?_⟩ hck.2 q1 hk.2
   ·rw[hset,hl i hi his];omega
   ·rcases S.h i hi with h|⟨f0,x,t1,f1,f2,f3,f4⟩
    ·exact .inl ((hset i).2 (.inr h))
    ·by_cases hn:isL listed i
     ·exact .inl ((hset i).2 (.inr hn))
     obtain⟨x',hx',hf⟩:=yr hi hn;rw[f1]at hx';cases hx';obtain⟨_,⟨_,hcv⟩,t',ht',_,hu⟩:=DO hf;rw[f3]at ht';cases ht'
     have hflag:tJ ((mz all.toList m).drop (j-m))=true:=by
      have hbit:((db [] all.toList).getD j 0).testBit i=false:=by
       cases hb1:((db [] all.toList).getD j 0).testBit i with
       |false=>rfl
       |true=>exact absurd (lX hdn hb j o h1 h3 i hb1) hn
      rw[IP];exact ZZ hmj (by simpa using hjs) hi hbit
     rw[IP]at hflag
     have hbit:((db [] all.toList).getD j 0).testBit i=false:=by
      cases hb1:((db [] all.toList).getD j 0).testBit i with
      |false=>rfl
      |true=>exact absurd (lX hdn hb j o h1 h3 i hb1) hn
     have hdo:hU x.op=true->(bL ks e=true/\AgM ks M' M)\/(pV M' x.op (wr o.dst v (fL Ec e))=true/\jx ks (wr o.dst v (fL Ec e)) (bq x.op)=true/\ksV ks ((gt Ec t1).evs e)=true/\evR B Φ x (wr o.dst v (fL Ec e)) M'=⟨[],(gt Ec t1).evs e,[],M'⟩):=λhdk=>by
      have hk2:=hck.1.1.2.resolve_left (by rw[hflag];simp)
      cases hRR:R with
      |false=>rw[hR hRR];exact .inl ⟨Ei e,λk hk=>by cases hk⟩
      |true=>
       have fin:stB B Φ ks (hdP ((my all.toList m).drop (j-m))) (wr o.dst v (fL Ec e)) M'=true->(bL ks e=true/\AgM ks M' M)\/(pV M' x.op (wr o.dst v (fL Ec e))=true/\jx ks (wr o.dst v (fL Ec e)) (bq x.op)=true/\ksV ks ((gt Ec t1).evs e)=true/\evR B Φ x (wr o.dst v (fL Ec e)) M'=⟨[],(gt Ec t1).evs e,[],M'⟩):=λh=>by
        obtain⟨d2,v2,M2,s1,s2,s3,s5,s6,s7⟩:=Kk h (by rw[JE];exact Jc hmj (by simpa using hjs) hi f1 hbit hdk);rw[f3]at s1;cases s1;have s4:=TT hdk s2;subst s4;have e2:v2=(gt Ec t1).evs e:=by rw[s3,pS,ai (λh=>(hu t1 h).1 rfl),l6]
        rw[e2]at s7 s2;exact .inr ⟨s5,s6,s7,s2⟩
       rcases hcv hRR hdk with hcall|hstr;rotate_left
       ·rcases hck.1.2 with h|h|h|h|h
        ·rw[hstr]at h;cases h
        ·have:ks=[]:=by
          revert h
          cases ks with
          |nil=>intro _;rfl
          |cons _ _=>intro h;cases h
         rw[this];exact .inl ⟨Ei e,λk hk=>by cases hk⟩
        ·exfalso;have hin:=Jc hmj (by simpa using hjs) hi f1 hbit hdk;have:=OK h hin;rw[hdk]at this;cases this
        ·exact .inl ⟨h,ZN hstr hq hk.1 h⟩
        ·exact fin (by rw[JE];exact h)
       rcases hk2 with h|h|h|h
       ·have:ks=[]:=by
         revert h
         cases ks with
         |nil=>intro _;rfl
         |cons _ _=>intro h;cases h
        rw[this];exact .inl ⟨Ei e,λk hk=>by cases hk⟩
       ·rw[hcall]at h;cases h
       ·exact .inl ⟨h,ZQ hcall hq hk.1 h⟩
       ·obtain⟨d2,v2,M2,s1,s2,s3,s5,s6,s7⟩:=Kk h (Jc hmj (by simpa using hjs) hi f1 hbit hdk);rw[f3]at s1;cases s1;have s4:=TT hdk s2;subst s4;have e2:v2=(gt Ec t1).evs e:=by rw[s3,pS,ai (λh=>(hu t1 h).1 rfl),l6]
        rw[e2]at s7 s2;exact .inr ⟨s5,s6,s7,s2⟩
     refine .inr ⟨f0,x,t1,f1,f2,f3,?_⟩;have e1:gt (wr o.dst v (fL Ec e)) t1=(gt Ec t1).evs e:=by rw[pS,ai (λh=>(hu t1 h).1 rfl),l6]
     rw[e1];refine f4.look hck.1.1.1 hdo λt0 g1=>?_;have hlk:t0∈x.looksAt all:=jH _ (w9.2 ⟨.tmp t0,by simpa using g1,rfl⟩);rw[pS,ai (λh=>(hu t0 h).2 hlk),l6]
   ·rw[pS,pS];split
    ·rfl
    ·rw[l6,l6,S.a t' λi x hi hx hn hd=>ht' i x hi hx (λh=>((hset i).1 h).elim (λh=>aa) hn) hd]
theorem Hctx.nogd(C:Hctx D R Ds ks as B Φ all m E X N M0)(hj:j<=m)(t:Nat):gx (gt (E j) t)=false:=by
 have key:mi (gt (E j) t)=true:=by
  by_cases hw:∃(i:Nat)(x:bR),all[i]? = some x/\i<j/\x.dst=some t
  ·obtain⟨i,x,e1,e2,e3⟩:=hw;rw[(C.gts j t hj).2 i x e1 e2 e3];obtain⟨d',v',vc',ev',H'⟩:=C.hE i x e1 aa;have:d'=t:=by have:=H'.dst;rw[e3]at this;exact (rV this).symm
   subst this;rw[H'.he,gY,am rfl];exact H'.gd
  ·rw[(C.gts j t hj).1 λi o h1 h2 h3=>hw ⟨i,o,h1,h2,h3⟩];exact C.h0 t
 cases hv:gt (E j) t with
 |gd _ _ _ _=>rw[hv]at key;cases key
 |_=>rfl
theorem Hctx.grow(C:Hctx D R Ds ks as B Φ all m E X N M0)(hi:i<=m)(hg:go (ap (X i) M0) k≠none):go (ap (X m) M0) k=go (ap (X i) M0) k:=by
 have step:∀j,j<m->go (ap (X j) M0) k≠none->go (ap (X (j+1)) M0) k=go (ap (X j) M0) k:=λj hj hg=>by
  obtain⟨d,v,vc,ev,H⟩:=C.hE j _ (C.get hj) hj;have hn:k∉bJ (N j):=λhm=>by have h1:=xq H.n0 k hm;have h2:=xq H.nX k hm;rw[pR,h2]at hg;exact hg h1
  have hN:go (N j) k=none:=wc λe=>hn (ol.2 e);rw[H.x,pR,pR,pR,hN]
 have key:∀n,i+n<=m->go (ap (X (i+n)) M0) k=go (ap (X i) M0) k:=λn=>by
  induction n with
  |zero=>intro _;rfl
  |succ n ih=>intro hn;have h1:=ih aa;rw[←wi,step (i+n) aa (by rw[h1];exact hg),h1]
 have:=key (m-i) aa
 rwa [show i+(m-i)=m by omega]at this
theorem Hctx.turn(C:Hctx D R Ds ks as B Φ all m E X N M0)(hl:∀i,i<all.size->isL listed i->i<m)(hdn:oI all listed)(S:Hsta all m E N M0 listed env M)(hall:∀i,i<m->gI all.size (db [] all.toList) m i=false->isL listed i):
  Bsta B Φ ks as all m m listed env (E m) (ap (X m) M0):=by
 have hlm:∀{i:Nat} {x:bR},all[i]? = some x->isL listed i->i<m:=λh1 h2=>hl _ (eF.1 h1).1 h2;refine⟨λi hi=>?_,λt ht=>?_⟩
 ·by_cases hn:isL listed i
  ·exact .inl hn
  right
  have fi:gI all.size (db [] all.toList) m i=true:=by
   cases h:gI all.size (db [] all.toList) m i with
   |true=>rfl
   |false=>exact absurd (hall i hi h) hn
  refine⟨fi,?_⟩;obtain⟨j,hj1,hj2,hj3⟩:=OQ fi;obtain⟨_,hsp⟩:=IZ C.ht hj1 (rT hj2);rcases hsp i aa with h|⟨_,x,hx,hf⟩
  ·rw[hj3]at h;cases h
  obtain⟨g1,g2,t,g3,_,_⟩:=DO hf;obtain⟨d,v,vc,ev,H⟩:=C.hE i x hx hi;have hd:d=t:=by have:=H.dst;rw[g3]at this;exact (rV this).symm
  subst hd;obtain⟨N',hr,hN⟩:=H.r
  have hF:FlI B Φ ks as x (E i) (ap (X m) M0) v:=by
   rw[FQ,gD,fR]at g2;rcases g2.1 with g2|g2
   ·exact FlI.of (B:=B) (Φ:=Φ) g2 (λt=>C.nogd aa t) hr H.hv
   ·simp only[aU,ao]at g2;rcases H.dt (C.hD g2.1 i hi fi) g2.2 with hbx|⟨q1,q2⟩
    ·have h4:∃t t0 k,x.op=.load t (.tmp t0)/\gt (E i) t0=.bx (.ad k [.de])/\inN k as=true/\F1 (B.τ t)=true:=by
      unfold bxK at hbx;split at hbx
      ·rename_i t t0 ho;split at hbx
       ·rename_i k π hg;simp only[bQ,bT,bM,ao]at hbx;exact⟨t,t0,k,ho,by rw[hg,x9 hbx.1],hbx.2.1,hbx.2.2⟩
       ·cases hbx
      ·cases hbx
     obtain⟨t,t0,k,ho,hg,hk,hb⟩:=h4;obtain⟨vc',_,hrun⟩:=FlI.run (M:=ap (X i) M0) (B:=B) (Φ:=Φ) (ks:=ks) (as:=as) (x:=x) (env:=E i) (y:=.ad k [.de]) (.inr (.inr (.inr ⟨t,t0,k,ho,hg,rfl,hk,hb⟩)));rw[hr]at hrun;simp only[Rs.mk.injEq]at hrun;exact .inr (.inr (.inr ⟨t,t0,k,ho,hg,hrun.2.1,hk,hb⟩))
    have hkl:=H.kl;rw[hN]at hkl;have hev:ev=[]:=RZ g2.2 hr hkl;subst hev;refine .inr (.inr (.inl ⟨g2.2,q1,q2,vc,H.hv,λM' hM=>?_⟩));rw[KX (M:=M') H.k (λhlv q hq=>AM (ks:=ks) (λk hk hg=>(hM k hk).trans (C.grow aa hg)) _ (Dz q1 _ hq) (Do hlv _ hq)) hr H.hv hkl];rfl
  refine⟨x,d,hx,g1,g3,?_⟩;have hv:gt (E m) d=v:=by rw[(C.gts m d (aZ _)).2 i x hx hi g3,H.he,gY,am rfl]
  rw[hv];refine hF.same λt0 k1=>?_;have hlk:t0∈x.looksAt all:=jH _ (w9.2 ⟨.tmp t0,by simpa using k1,rfl⟩);by_cases hw:∃(i':Nat)(x':bR),all[i']? = some x'/\i'<m/\x'.dst=some t0
  ·obtain⟨i',x',e1,e2,e3⟩:=hw;by_cases hii:i'<i
   ·rw[(C.gts m t0 (aZ _)).2 i' x' e1 e2 e3,(C.gts i t0 aa).2 i' x' e1 hii e3]
   ·exfalso
    have fi':gI all.size (db [] all.toList) m i'=true:=by
     cases h:gI all.size (db [] all.toList) m i' with
     |true=>rfl
     |false=>
      exfalso;have hli:=hall i' e2 h;by_cases e:i'=i
      ·subst e;exact hn hli
      ·have hpair:=xe (sQ C.hdr e2 hi e e1 hx) e3 hlk;rw[ai hii]at hpair;exact hn (lX hdn C.hb i' x' e1 (λe' he' hb'=>hdn i' x' e1 hli e' he' hb') i hpair)
    exact Pe C.hf hi e2 aa fi fi' hx e1 e3 hlk
  ·rw[(C.gts m t0 (aZ _)).1 λi x h1 h2 h3=>hw ⟨i,x,h1,h2,h3⟩,(C.gts i t0 aa).1 λi x h1 h2 h3=>hw ⟨i,x,h1,aa,h3⟩]
 ·obtain⟨g1,g2⟩:=C.gts m t (aZ _);by_cases hw:∃(i:Nat)(x:bR),all[i]? = some x/\i<m/\x.dst=some t
  ·obtain⟨i,x,e1,e2,e3⟩:=hw;have hli:isL listed i:=Classical.byContradiction λhn=>ht i x e2 e1 hn e3;rw[g2 i x e1 e2 e3,S.b i x t e1 hli e3]
  ·rw[g1 λi o h1 h2 h3=>hw ⟨i,o,h1,h2,h3⟩,S.a t λi o h1 h2 h3=>hw ⟨i,o,h1,hlm h1 h2,h3⟩]
theorem Hctx.flN(C:Hctx D R Ds ks as B Φ all m E X N M0)(hi:i<m)(fi:gI all.size (db [] all.toList) m i=true):bJ (N i)=[]:=by
 obtain⟨j,hj1,hj2,hj3⟩:=OQ fi;obtain⟨_,hsp⟩:=IZ C.ht hj1 (rT hj2);rcases hsp i aa with h|⟨_,x,hx,hf⟩
 ·rw[hj3]at h;cases h
 obtain⟨_,g2,_⟩:=DO hf;obtain⟨d,v,vc,ev,H⟩:=C.hE i x hx hi;obtain⟨N',hr,hN⟩:=H.r
 have he:ev=[]:=by
  rw[FQ,gD,fR]at g2;rcases g2.1 with g2|g2
  ·unfold yw at g2;split at g2
   ·rename_i ho;simp only[evR,ho,bP,ck,Rs.mk.injEq]at hr;exact hr.2.2.1.symm
   ·rename_i ho;simp only[evR,ho,bP,ck,Rs.mk.injEq]at hr;exact hr.2.2.1.symm
   ·rename_i ho;simp only[evR,ho,bP,ck,Rs.mk.injEq]at hr;exact hr.2.2.1.symm
   ·cases g2
  ·simp only[aU,ao]at g2;have hkl:=H.kl;rw[hN]at hkl;exact RZ g2.2 hr hkl
 rw[hN,he];rfl
theorem Hctx.fin(C:Hctx D R Ds ks as B Φ all m E X N M0)(hl:∀i,i<all.size->isL listed i->i<m)(S:Hsta all m E N M0 listed env M)(hall:∀i,i<m->gI all.size (db [] all.toList) m i=false->isL listed i):
  ∀k,go (ap (X m) M0) k=go M k:=by
 have hm:=C.hm;intro k;rw[pR];obtain⟨x1,x2⟩:=C.xs m (aZ _) k;by_cases hw:∃i,i<m/\k∈bJ (N i)
 ·obtain⟨i,h1,h2⟩:=hw
  have hli:isL listed i:=by
   cases h:gI all.size (db [] all.toList) m i with
   |false=>exact hall i h1 h
   |true=>rw[C.flN h1 h]at h2;cases h2
  rw[(x1 i h1 h2).1,S.d i k aa hli h2]
  cases hg:go (N i) k with
  |none=>exact absurd hg (ol.1 h2)
  |some ob=>rfl
 ·rw[x2 λi h1 h2=>hw ⟨i,h1,h2⟩];simp only;exact (S.c k λi hi hli h2=>hw ⟨i,hl i hi hli,h2⟩).symm
theorem Hctx.any(hΦ:iF P F Φ)(hB:TabOk P B)(C:Hctx D R Ds ks as B Φ all m E X N M0)(Q:gL)(K:Env->Mem->Prop)(hQ:∀p env M a w,St F p env M a w->K env M->Q .normal a w)(hco:fA F.nt all.toList=true)(hfv:∀o∈all.toList,∀k,o.dst=some k->F.fv k=none)(hlast:tw B Φ (toL all) (all.toList.drop m) (E m) (ap (X m) M0) K)(hck:lH ks as B Φ (my all.toList m) (mz all.toList m) (all.toList.drop m) (E m) (ap (X m) M0)=true):
  ∀(fuel:Nat)(listed:gg)(p:Ow)(env:Env)(M:Mem)(a:Act)(w:aK),listed.size=all.size->(∀i,i<all.size->isL listed i->i<m)->unl listed all.size<=fuel->oI all listed->Hsta all m E N M0 listed env M->St F p env M a w->wpAny P .any all Q fuel listed a w:=by
 have hm:=C.hm;have huq:∀(i j:Nat)(x y:bR)(t:Nat),i<m->j<m->all[i]? = some x->all[j]? = some y->x.dst=some t->y.dst=some t->i=j:=λi j x y t hi hj hx hy h1 h2=>C.uniq hi hj hx hy h1 h2;have last:∀(fuel:Nat)(listed:gg)(p:Ow)(env:Env)(M:Mem)(a:Act)(w:aK),listed.size=all.size->(∀i,i<all.size->isL listed i->i<m)->unl listed all.size<=fuel->oI all listed->Hsta all m E N M0 listed env M->St F p env M a w->(∀i,i<m->gI all.size (db [] all.toList) m i=false->isL listed i)->wpAny P .any all Q fuel listed a w:=by intro fuel listed p env M a w hs hl hu hdn S hst hall;exact acv hΦ hB Q K hQ C.hb C.ht C.hR C.hf huq C.hdr hco hfv fuel listed m p env (E m) (ap (X m) M0) a w hs (λi hi his=>⟨λh=>hl i his h,λh=>absurd h aa⟩) (aZ _) hu hdn (C.turn hl hdn S hall) (by rw[Nat.sub_self];exact hck) (hst.same (C.fin hl S hall) λ_=>rfl) hlast
 intro fuel
 induction fuel with
 |zero=>intro listed p env M a w hs hl hu hdn S hst;exact last 0 listed p env M a w hs hl hu hdn S hst λi hi _=>A3 (Nat.le_zero.1 hu) i aa
 |succ fuel ih=>
  intro listed p env M a w hs hl hu hdn S hst;by_cases hall:∀i,i<m->gI all.size (db [] all.toList) m i=false->isL listed i
  ·exact last (fuel+1) listed p env M a w hs hl hu hdn S hst hall
  ·refine⟨λhr=>absurd (λi hi _=>Dl hs C.hb hr i aa) hall,λj hj=>?_⟩;obtain⟨o,h1,h2,h3⟩:=uP hj;have hjs:=(eF.1 h1).1;have hnl:¬isL listed j:=by unfold isL;simp[hs,hjs]at h2⊢;exact h2
   have hjm:j<m:=by
    rcases ig j m with h|h
    ·exact h
    ·exact absurd (λi _ hf=>lX hdn C.hb j o h1 h3 i (Z' hf hjs h)) hall
   have hmem:o∈all.toList:=by rw[lj];exact um h1
   refine wpOp_mono (λa' w' ⟨p',env',M',e1,e2⟩=>ih _ p' env' M' a' w' (by simpa using hs) (λi hi hli=>?_) ?_ (hdn.set hj) e2 e1) (Ez hΦ hB hst (C.step hs hl hdn S hst h1 hjm hnl h3) (qP hco hmem) (hfv o hmem) h1 Q)
   ·rcases (Ks (by rw[hs];exact hjs)).1 hli with h|h
    ·omega
    ·exact hl i hi h
   ·have:=AA (by rw[hs];exact hjs) hnl all.size hjs;omega
theorem PQ(hΦ:iF P F Φ)(hB:TabOk P B)(hco:fA F.nt (toL ops)=true)(hfv:∀o∈toL ops,∀k,o.dst=some k->F.fv k=none)(hr:tX D R (toL ops) cut=true)(hR:R=false->ks=[])(hD:D=true->∀i,i<cut->gI (toL ops).length (db [] (toL ops)) cut i=true->Ds.getD i false=true)(hQ:∀p env M a w,St F p env M a w->K env M->Q .normal a w)(h:St F p env M a w)(hn:lD env=true)(hk:hx Ds ks as B Φ M (du cut (toL ops)) env [] (λenv X=>bif nob (nogd env) (lH ks as B Φ (my (toL ops) cut) (mz (toL ops) cut) (gu cut (toL ops)) env (ap X M))then twG B Φ (toL ops) (gu cut (toL ops)) env (ap X M) K else False)):wpAny P .any ops Q ops.size (Array.replicate ops.size false) a { w with drawn:=w.drawn+1 }:=by
 rw[ds]at hco hfv hr;rw[DN,Jh]at hk;simp only[tX,ao]at hr;obtain⟨h1,h2,h3,h5,h4⟩:=hr;obtain⟨E,X,N,e0,x0,e1,e2⟩:=QB _ _ _ _ _ hk;have hm:cut<=ops.toList.length:=ia h2;have hm':cut<=ops.size:=by simpa using hm
 rw[ds,ez,yM hm]at e2
 cases hng0:nob (nogd (E cut)) (lH ks as B Φ (my ops.toList cut) (mz ops.toList cut) (ops.toList.drop cut) (E cut) (ap (X cut) M))with
 |false=>rw[hng0]at e2;exact e2.elim
 |true=>
 rw[hng0]at e2;simp only[aD]at e2;simp only[aU,ao]at hng0;obtain⟨hng,hck⟩:=hng0;replace e2:=vo (B:=B) (Φ:=Φ) _ _ _ (A5 hng) e2
 have C:Hctx D R Ds ks as B Φ ops cut E X N M:={
  hR:=hR
  hD:=λh i hi hf=>hD h i hi (by rw[ds];simpa using hf)
  hb:=h1
  hm:=hm'
  ht:=by simpa using h3
  hf:=by simpa using h5
  hdr:=by simpa using h4
  hE:=λj o ho hj=>e1 j o (by rw[ds,rU hj,Al];exact ho)
  hX:=x0
  h0:=λt=>by rw[e0];exact PO hn }
 exact C.any hΦ hB Q K hQ hco hfv (by simpa only [ds]using e2) hck _ _ p env M a _ ak (λi _ hi=>absurd hi uZ) (KP _ _) (λj o _ hi=>absurd hi uZ)
  ⟨λt _=>by rw[e0],λi o t _ hi=>absurd hi uZ,λk _=>rfl,λi k _ hi=>absurd hi uZ⟩ h.drew
theorem RO(hΦ:iF P F Φ)(hB:TabOk P B)(hmix:P.follows .mixedOrders=true)(hco:fA F.nt (toL ops)=true)(hfv:∀o∈toL ops,∀k,o.dst=some k->F.fv k=none)(hr:tX D R (toL ops) cut=true)(hR:R=false->ks=[])(hD:D=true->∀i,i<cut->gI (toL ops).length (db [] (toL ops)) cut i=true->Ds.getD i false=true)(hQ:∀p env M a w,St F p env M a w->K env M->Q .normal a w)(h:St F p env M a w)(hn:lD env=true)(hk:hx Ds ks as B Φ M (du cut (toL ops)) env [] (λenv X=>bif nob (nogd env) (lH ks as B Φ (my (toL ops) cut) (mz (toL ops) cut) (gu cut (toL ops)) env (ap X M))then twG B Φ (toL ops) (gu cut (toL ops)) env (ap X M) K else False)):(Code.region id ops true).wp P Q a w:=
 wp_region_any hmix (PQ hΦ hB hco hfv hr hR hD hQ h hn hk)
end
end Go.Bm
