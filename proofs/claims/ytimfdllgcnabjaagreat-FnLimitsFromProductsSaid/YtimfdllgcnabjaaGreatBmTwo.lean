/- The typed machine that the walks of this claim go by: its data, its operations and the proof that each is sound. No condition. -/
import Derived.Test.YtimfdllgcnabjaaGreatBmOne
import Derived.Laws.BytesArg
import Derived.ChangeKeysEq
import Derived.Laws.StructEq
import Derived.MapKept
set_option linter.unusedVariables false
set_option linter.unusedSimpArgs false
set_option linter.unusedSectionVars false
namespace Go.Bm
open Go.RowKit
abbrev aD:=@cond_true
abbrev bG:=@List.cons.injEq
abbrev aL:=@true_and
abbrev az:=@and_true
abbrev jQ:=@Iff.rfl
abbrev pM:=@Option.getD_none
abbrev bh:=@List.length_nil
abbrev fV:=@Nat.zero_le
abbrev gA:=@Option.getD_some
abbrev cC:=@List.length_map
abbrev oA:=@Nat.lt_irrefl
abbrev eU:=@Nat.le_of_ble_eq_true
abbrev yY:=@Bool.false_or
abbrev gL:=@List.all_eq_true
abbrev ul:=@List.mem_of_getElem?
abbrev wo:=@List.length_eq_one_iff
abbrev yZ:=@List.headD_cons
abbrev gU:=@Bool.not_eq_true'
abbrev d4:=@Bool.false_eq_true
abbrev fW:=@Sem.run_bind
abbrev il:=@Result.andThen_ok
abbrev iN:=@List.map_cons
abbrev wq:=@Bool.not_true
abbrev cP:=@run_underlying
abbrev ws:=@beq_self_eq_true
abbrev e9:=@Bool.or_eq_true
abbrev um:=@Nat.succ_mul
abbrev za:=@MapKept.run_getObj_map
abbrev jR:=@List.eq_nil_of_length_eq_zero
abbrev zb:=@Array.getElem?_toList
abbrev rX:=@Addr.add_lit
abbrev zc:=@World.grownBy_alloc
abbrev rY:=@heap_alloc_new
abbrev cN:=@Array.getElem?_eq_some_iff
abbrev iA:=@List.foldl_cons
abbrev aX:=@List.length_cons
abbrev Cz:=@Nat.min_eq_left
abbrev db:=@decide_eq_true_eq
abbrev mq:=@Array.ext'
abbrev jS:=@Array.mem_toList_iff
abbrev C0:=@List.mapM_cons
abbrev cz:=@List.mem_cons
abbrev wt:=@Nat.pos_of_ne_zero
abbrev uo:=@List.replicate_succ
abbrev wu:=@List.flatten_cons
abbrev G5:=@List.getElem?_replicate
abbrev iz:=@List.getElem?_cons_zero
abbrev lC:=@List.getElem?_cons_succ
abbrev eA:=@List.length_replicate
abbrev lD:=@Sem.run_pure
abbrev wv:=@Int.le_trans
abbrev C1:=@Int.natCast_mul
abbrev cQ:=@Int.toNat_natCast
abbrev C2:=@Nat.le_mul_of_pos_right
abbrev jT:=@Nat.le_succ
variable {B:Tab}{F:Fr}{Im S S' S1:aT}{M M' M'' M0 M1:Mem}{P:cX}{Q:List Value->Prop}{a:Act}{agg c qt:bo}{b fsz k m n off r sz:Nat}{cells cs cur:nz}{e ety ft t ty':bF}{e0:bM}{env:Env}{es:Array MapEntry}{i:TypeInfo}{l:aA}{news us va vb vs xs ys zs:aM}{o:O}{ob ob' q:Ob}{op:bj}{p p' p'' p1:Ow}{p0 π ρ:bz}{parts:Array (Nat×Operand)}{pl:Pl}{place:Nat->Option (Nat×Nat)}{s:ByteArray}{t':T}{u v z:bw}{vals:List (Nat×Value)}{w w' w'' w0:aQ}{x:dJ}{α:Type}{β:fD}
theorem J0{Im:aT}{w:aQ}:(o:O)->(x:o.strip.den)->(S:aT)->(vs:aM)->Rel Im w o x S vs->ai Im w o.hole (o.holeX x) vs
 |.fz t,x,S,vs,r=>by simpa only [Rel,O.hole,O.holeX]using r
 |.p a b,x,S,vs,r=>by simp only[Rel]at r;obtain⟨va,vb,S1,S2,h1,h2,h3,h4,h5,h6⟩:=r;simp only[O.hole,O.holeX,ai];exact⟨va,vb,h1,J0 a _ _ va h5,J0 b _ _ vb h6⟩
 |.sl e,x,S,vs,r=>by simp only[Rel]at r;obtain⟨v,ety,xs,T,h,h2,_⟩:=r;simp only[O.hole,ai];exact⟨v,h,NW h2⟩
 |.pt o,x,S,vs,r=>by simp only[Rel]at r;obtain⟨b,us,ty',S',h,_⟩:=r;simp only[O.hole,ai];exact⟨_,h,rfl⟩
 |.mp k v,x,S,vs,r=>by simp only[Rel]at r;obtain⟨b,es,n,h,_⟩:=r;simp only[O.hole,ai];exact⟨_,h,rfl⟩
 |.op e,x,S,vs,r=>by simp only[Rel]at r;simp only[O.hole,O.holeX,ai];exact⟨r.1,r.2.1,λy hy=>by cases hy⟩
theorem Jm:(o:O)->o.hole.size=o.size
 |.fz t=>rfl
 |.p a b=>by simp only[O.hole,O.size,T.size,E9];rw[Jm a,Jm b];rfl
 |.sl e|.pt o|.mp _ _|.op _=>rfl
theorem o_(ad:Pl):ad.plus 0=ad:=by cases ad<;>rfl
theorem Pb(ad:Pl)(a b:Nat):(ad.plus a).plus b=ad.plus (a+b):=by cases ad<;>simp[Pl.plus,rV]
theorem kr(w:aQ):(π:bz)->(o:O)->(n:Nat)->eB π o=some n->∀(x:o.strip.den)(vs:aM)(ad:Pl),(∃q,get π o x=some q)/\gok π o x/\∃us,res w π o vs ad=some (us,ad.plus n)
 |[],o,n,h,x,vs,ad=>by simp only[eB,aI]at h;subst h;exact⟨⟨⟨o,x⟩,by simp only[get]⟩,by simp only[gok],⟨vs,by simp only[res,o_]⟩⟩
 |.l::π,.p a b,n,h,x,vs,ad=>by simp only[eB]at h;obtain⟨h1,h2,h3⟩:=kr w π a n h x.1 (vs.take a.size) ad;exact⟨by simpa only [get]using h1,by simpa only [gok]using h2,by simpa only [res]using h3⟩
 |.r::π,.p a b,n,h,x,vs,ad=>by
  simp only[eB]at h;split at h
  ·rename_i m hm;simp only[aI]at h;obtain⟨h1,h2,us,h3⟩:=kr w π b m hm x.2 (vs.drop a.size) (ad.plus a.size);refine⟨by simpa only [get]using h1,by simpa only [gok]using h2,us,?_⟩;simp only[res];rw[h3,Pb,←h];simp[O.size]
  ·cases h
 |.l::π,.fz (.p a b),n,h,x,vs,ad=>by simp only[eB]at h;obtain⟨h1,h2,h3⟩:=kr w π (.fz a) n h x.1 (vs.take a.size) ad;exact⟨by simpa only [get]using h1,by simpa only [gok]using h2,by simpa only [res]using h3⟩
 |.r::π,.fz (.p a b),n,h,x,vs,ad=>by
  simp only[eB]at h;split at h
  ·rename_i m hm;simp only[aI]at h;obtain⟨h1,h2,us,h3⟩:=kr w π (.fz b) m hm x.2 (vs.drop a.size) (ad.plus a.size);refine⟨by simpa only [get]using h1,by simpa only [gok]using h2,us,?_⟩;simp only[res];rw[h3,Pb,←h];simp
  ·cases h
 |.l::_,.sl _,_,h,_,_,_|.l::_,.pt _,_,h,_,_,_|.l::_,.fz (.int _),_,h,_,_,_|.l::_,.fz .bool,_,h,_,_,_|.l::_,.fz .str,_,h,_,_,_|.l::_,.fz .u,_,h,_,_,_|.l::_,.fz (.sl _),_,h,_,_,_|.l::_,.fz (.pt _),_,h,_,_,_|.l::_,.fz (.fn _ _),_,h,_,_,_|.l::_,.fz .any,_,h,_,_,_|.r::_,.sl _,_,h,_,_,_|.r::_,.pt _,_,h,_,_,_|.r::_,.fz (.int _),_,h,_,_,_|.r::_,.fz .bool,_,h,_,_,_|.r::_,.fz .str,_,h,_,_,_|.r::_,.fz .u,_,h,_,_,_|.r::_,.fz (.sl _),_,h,_,_,_|.r::_,.fz (.pt _),_,h,_,_,_|.r::_,.fz (.fn _ _),_,h,_,_,_|.r::_,.fz .any,_,h,_,_,_|.ix _::_,_,_,h,_,_,_|.de::_,_,_,h,_,_,_=>by simp[eB]at h
theorem Ef{a b:eP}(h:kZ a b=true):∃n,a=some n/\b=some n:=by cases a<;>cases b<;>simp[kZ]at h;subst h;exact⟨_,rfl,rfl⟩
theorem uN(h:eN π o=some n):∃ρ o',π=.de::ρ/\o=.pt o'/\eB ρ o'=some n:=by
 unfold eN at h;split at h
 ·exact⟨_,_,rfl,rfl,h⟩
 ·cases h
structure Chg (w w':aQ) (t:aT):Prop where
 os:w'.os=w.os
 tape:TD w' w
 output:w'.output=w.output
 size:w'.heap.size=w.heap.size
 old:∀b,¬t b->w'.heap[b]? = w.heap[b]?
theorem Tr.put(h:Hp F p M w){n:Ob}{us':aM}{S'' L':aT}(hk:go M k=some ob)(hsub:∀c,S' c->p.σ k c)(hpl:bV π=true->∃b off cur ty',pl=some (b,off)/\p.σ k b/\¬S' b/\w.heap[b]? = some (.cells cur ty' (0,0))/\∀(j:Nat)(u:bw),us[j]? = some u->cur[off+j]? = some u)(hwand:Wand (Imm F p M w) w π ob.o ob.x (p.σ k) S' q [p.β k] pl)(hset:set π ob.o ob.x n=some ob')(hsz:n.o.size=q.o.size)(hout:dY π ob.o [p.β k] us'=[p.β k])(hc:Chg w w' (λb=>bV π=true/\∃off,pl=some (b,off)))(hc0:bV π=true->∀b off,pl=some (b,off)->∀cur ty',w.heap[b]? = some (.cells cur ty' (0,0))->w'.heap[b]? = some (.cells (df cur.toList off us').toArray ty' (0,0)))(hS:∀c,S'' c->p.L c\/S' c)(hL:∀c,L' c->(p.L c\/S' c)/\¬S'' c)(hg:(∃c,L' c/\S' c)->k<gid)(hn:cE (Imm F p M w) (Imm F ⟨p.β,λj=>if j=k thenλc=>(p.σ k c/\¬S' c)\/S'' c else p.σ j,L'⟩ (put k ob' M) w') w w'->
   Rel (Imm F ⟨p.β,λj=>if j=k thenλc=>(p.σ k c/\¬S' c)\/S'' c else p.σ j,L'⟩ (put k ob' M) w') w' n.o n.x S'' us'):
  Tr F p M w [.cut k ob.o ob'.o] ⟨p.β,λj=>if j=k thenλc=>(p.σ k c/\¬S' c)\/S'' c else p.σ j,L'⟩ (put k ob' M) w':=by
 generalize hp':(⟨p.β,λj=>if j=k thenλc=>(p.σ k c/\¬S' c)\/S'' c else p.σ j,L'⟩:Ow)=p' at hn⊢;have hβ:p'.β=p.β:=by rw[←hp']
 have hσk:p'.σ k=λc=>(p.σ k c/\¬S' c)\/S'' c:=by rw[←hp'];simp
 have hσ:∀j,j≠k->p'.σ j=p.σ j:=λj hj=>by rw[←hp'];simp[hj]
 have hL':∀c,p'.L c->(p.L c\/S' c)/\¬S'' c:=by rw[←hp'];exact hL
 have hgk:∀c,p'.L c->S' c->k<gid:=λc h1 h2=>hg ⟨c,by rw[←hp']at h1;exact h1,h2⟩;have hlk:=bP hk;have htk:∀b,(bV π=true/\∃off,pl=some (b,off))->p.σ k b:=λb hb=>by obtain⟨b0,off,cur,ty',k1,k2,_⟩:=hpl hb.1;obtain⟨off',k3⟩:=hb.2;rw[k1]at k3;cases k3;exact k2
 have hkeep:cE (Imm F p M w) (Imm F p' (Bm.put k ob' M) w') w w':=λb hb=>by
  refine⟨⟨by rw[hc.size];exact hb.1,hb.2.1,λhl=>?_,λj hj=>?_⟩,hc.old b (λht=>hb.2.2.2 k hlk (htk b ht))⟩
  ·rcases (hL' b hl).1 with h1|h1
   ·exact hb.2.2.1 h1
   ·exact hb.2.2.2 k hlk (hsub b h1)
  ·by_cases e:j=k
   ·subst e;rw[hσk];rintro (⟨h1,_⟩|h1)
    ·exact hb.2.2.2 j hlk h1
    ·rcases hS b h1 with h2|h2
     ·exact hb.2.2.1 h2
     ·exact hb.2.2.2 j hlk (hsub b h2)
   ·rw[hσ j e];exact hb.2.2.2 j (uQ.1 hj)
 have hoth:∀j,j≠k->bm M j->∀b,p.σ j b->w'.heap[b]? = w.heap[b]?:=λj hj hl b hb=>hc.old b (λht=>h.sep j k b hj hl hlk hb (htk b ht))
 have hwd:=hwand (Imm F p' (Bm.put k ob' M) w') w' n S'' us' ob' hset hsz (hn hkeep) hkeep (λc h1 h2=>(hS c h1).elim (λh3=>((h.lim c h3).2.2 k hlk h2).elim) id) hc0
  (λc h1 _ h3=>hc.old c (λht=>h3 c ht.2.choose ht.2.choose_spec ht.1 rfl))
 rw[hout]at hwd;refine Tr.one _ hkeep (λj ρ vs r=>?_) (λj ρ v r=>?_) ⟨λj o hj=>?_,λj j' b hne hj hj' hb=>?_,λj b hj hb=>?_,λb hb=>?_,hc.os.trans h.os,hc.tape.trans h.tape,hc.output.trans h.output,by rw[hc.size];exact h.size,λb hb hR=>?_⟩
 ·simp only[Ev.ref,cS];by_cases e:j=k
  ·subst e;rw[am rfl]
   cases ρ with
   |nil=>simp only[iI,aD,ac];obtain⟨o,pl0,k1,k2,k3,k4⟩:=r;simp only[res,aI,bE]at k4;obtain⟨rfl,rfl⟩:=k4;exact⟨ob',none,lJ ob' M hlk,by simp only[gok],⟨ob',by simp only[get]⟩,by simp only[res,hβ]⟩
   |cons s ρ=>simp only[iI,bc,ac];exact r.one h
  ·rw[aj e];simp only[ac];exact r.same h (iR ob' e M) (by rw[hβ]) (hoth j e)
 ·simp only[Ev.ad,cS];by_cases e:j=k
  ·subst e;rw[am rfl]
   cases hs:kZ (eN ρ ob.o) (eN ρ ob'.o)with
   |false=>simp only[bc,ac];intro u hu;rw[cA.1 hu];exact r.one
   |true=>simp only[aD,ac];refine⟨v,rfl,?_⟩;obtain⟨m,s1,s2⟩:=Ef hs;obtain⟨o,us0,b0,off0,k1,k2,k3,k4,k5,rfl⟩:=r;rw[hk]at k1;cases k1;obtain⟨ρ1,o1,rfl,e1,f1⟩:=uN s1;obtain⟨ρ2,o2,e2',e2,f2⟩:=uN s2;simp only[bG,aL]at e2';subst e2';obtain⟨ox,xx⟩:=ob;obtain⟨ox',xx'⟩:=ob';simp only at e1 e2;subst e1 e2;have hr:=h.objs j _ hk;simp only[Rel]at hr;obtain⟨bb,us1,ty',S1,r1,r2,r3,r4,r5⟩:=hr;simp only[bG,az]at r1;rw[r1]at k5;simp only[res]at k5;obtain⟨_,_,us2,q3⟩:=kr w ρ1 o1 m f1 xx (cellsOf w bb 0 o1.size) (some (bb,0));rw[q3]at k5;simp only[aI,bE]at k5;obtain⟨q1,q2,us3,q3'⟩:=kr w' ρ1 o2 m f2 xx' (cellsOf w' bb 0 o2.size) (some (bb,0));refine⟨_,us3,b0,off0,lJ _ M hlk,by simpa only [gok]using q2,by simpa only [get]using q1,by simp only[bV],?_,rfl⟩;rw[hβ,r1];simp only[res];rw[q3',k5.2]
  ·rw[aj e];simp only[ac];exact⟨v,rfl,r.same h (iR ob' e M) (by rw[hβ]) (hoth j e)⟩
 ·by_cases e:j=k
  ·subst e;rw[lJ ob' M hlk]at hj;cases hj;rw[hβ,hσk];exact hwd.2
  ·rw[iR ob' e]at hj;rw[hβ,hσ j e];exact Rel.keep hkeep _ _ _ _ (hoth j e (bP hj)) (h.objs j o hj)
 ·have hj1:=uQ.1 hj;have hj2:=uQ.1 hj';by_cases e:j=k
  ·rw[e,hσk]at hb;rw[hσ j' (λe'=>hne (e.trans e'.symm))];rcases hb with⟨h1,_⟩|h1
   ·exact h.sep k j' b (λe'=>hne (e.trans e')) hlk hj2 h1
   ·rcases hS b h1 with h2|h2
    ·exact (h.lim b h2).2.2 j' hj2
    ·exact h.sep k j' b (λe'=>hne (e.trans e')) hlk hj2 (hsub b h2)
  ·rw[hσ j e]at hb;by_cases e':j'=k
   ·rw[e',hσk];rintro (⟨h1,_⟩|h1)
    ·exact h.sep j k b e hj1 hlk hb h1
    ·rcases hS b h1 with h2|h2
     ·exact (h.lim b h2).2.2 j hj1 hb
     ·exact h.sep j k b e hj1 hlk hb (hsub b h2)
   ·rw[hσ j' e'];exact h.sep j j' b hne hj1 hj2 hb
 ·have hj1:=uQ.1 hj;rw[hc.size];by_cases e:j=k
  ·rw[e,hσk]at hb;rcases hb with⟨h1,_⟩|h1
   ·rw[e];exact h.own k b hlk h1
   ·rcases hS b h1 with h2|h2
    ·exact⟨(h.lim b h2).1,.inr (h.lim b h2).2.1⟩
    ·rw[e];exact h.own k b hlk (hsub b h2)
  ·rw[hσ j e]at hb;exact h.own j b hj1 hb
 ·obtain⟨h1,h2⟩:=hL' b hb;rw[hc.size];rcases h1 with h1|h1
  ·refine⟨(h.lim b h1).1,(h.lim b h1).2.1,λj hj=>?_⟩;by_cases e:j=k
   ·rw[e,hσk];rintro (⟨h3,_⟩|h3)
    ·exact (h.lim b h1).2.2 k hlk h3
    ·exact h2 h3
   ·rw[hσ j e];exact (h.lim b h1).2.2 j (uQ.1 hj)
  ·have ho:=h.own k b hlk (hsub b h1);have hg':=hgk b hb h1;refine⟨ho.1,ho.2.elim (λh=>by have:=h.1;omega) id,λj hj=>?_⟩;by_cases e:j=k
   ·rw[e,hσk];rintro (⟨_,h3⟩|h3)
    ·exact h3 h1
    ·exact h2 h3
   ·rw[hσ j e];exact h.sep k j b (cM e) hlk (uQ.1 hj) (hsub b h1)
 ·rw[hc.old b (λht=>?_)]
  ·exact h.old b hb hR
  ·rcases (h.own k b hlk (htk b ht)).2 with h1|h1
   ·exact hR h1.2
   ·exact h1.r.elim hR (λh'=>aa)
theorem A3{a b:T}{x:a.den}{y:b.den}(h:fQ b x=some y):∃e:a=b,e▸x=y:=by
 unfold fQ at h;split at h
 ·rename_i he;cases h;exact⟨T.beq_eq he,rfl⟩
 ·cases h
theorem Zg(o:O)(x:o.strip.den):jn ⟨o,x⟩ o=some x:=by
 unfold jn;split
 ·rfl
 ·rename_i h;rw[O.beq_refl]at h;cases h
theorem RE(k:Nat)(a b:Ob):∀M:Mem,put k a (put k b M)=put k a M
 |[]=>rfl
 |(j,x)::r=>by
  simp only[put,cS];split
  ·simp only[put,cS,dA]
  ·rename_i h;simp only[put,cS,aj h];rw[RE k a b r]
theorem nE{a b:T}{x:a.den}{y:b.den}(h:fQ b x=some y)(r:ai Im w a x vs):ai Im w b y vs:=by obtain⟨rfl,rfl⟩:=A3 h;exact r
theorem qD{x:o.strip.den}(h:jn q o=some x):q=⟨o,x⟩:=by
 unfold jn at h;split at h
 ·rename_i he;cases h;obtain⟨qo,qx⟩:=q;have:=O.beq_eq he;subst this;rfl
 ·cases h
theorem qB{cur:aM}(h:∀(j:Nat)(u:bw),us[j]? = some u->cur[off+j]? = some u):df cur off us=cur:=by
 rcases us.eq_nil_or_concat with rfl|⟨_,_,hne⟩
 ·simp[df]
 have hlen:off+us.length<=cur.length:=by
  have hp:0<us.length:=by rw[hne];simp
  have:=h (us.length-1) us[us.length-1] (bU aa);have:=(gp.1 this).1;omega
 apply mo;intro j;unfold df;by_cases q1:j<off
 ·rw[dk,fT (by simp;omega),fE,am q1]
 ·by_cases q2:j<off+us.length
  ·rw[fT (by simp;omega),g9 (by simp;omega)];rw[show j-(List.take off cur).length=j-off by simp;omega,bU (by omega:j-off<us.length)];have:=h (j-off) us[j-off] (bU aa);rw[show off+(j-off)=j by omega]at this;rw[this]
  ·rw[g9 (by simp;omega),gn];congr 1;simp;omega
theorem Chg.refl(w:aQ)(t:aT):Chg w w t:=⟨rfl,TD.refl w,rfl,rfl,λ_ _=>rfl⟩
theorem Tr.cut(h:Hp F p M w)(hk:go M k=some ob)(hg:k<gid)(h2:gok π ob.o ob.x)(h3:get π ob.o ob.x=some q)(h4:res w π ob.o [p.β k] none=some (us,pl))(hset:set π ob.o ob.x ⟨.fz q.o.hole,q.o.holeX q.x⟩=some ob'):
  ∃p':Ow,∃S:Nat->Prop,p'.β=p.β/\(∀b,p'.L b<->p.L b\/S b)/\(∀b,S b->¬p.L b)/\Tr F p M w [.cut k ob.o ob'.o] p' (Bm.put k ob' M) w/\Rel (Imm F p' (Bm.put k ob' M) w) w q.o q.x S us:=by
 obtain⟨us0,pl0,S',e1,e2,e3,e4,e5,e6⟩:=look h hk h2 h3;rw[e1]at h4;cases h4;have hl:=bP hk
 have hout:dY π ob.o [p.β k] us=[p.β k]:=by
  cases hh:bV π with
  |true=>exact mH π _ _ _ hh
  |false=>
   obtain⟨n,k1,k2,k3,k4,k5⟩:=e5 hh;rw[k5 us rfl];refine qB (λj u hu=>?_);rw[k3,fE]at hu;split at hu
   ·rw[gn]at hu;exact hu
   ·cases hu
 have ht:=Tr.put (S'':=λ_=>False) (L':=λb=>p.L b\/S' b) (us':=us) (w':=w) h hk e2 e4 e6 hset (by simp only[O.size,O.strip];exact Jm q.o) hout (Chg.refl w _)
  (λhh b off hp cur ty' hb=>by obtain⟨b0,off0,cur0,ty0,k1,k2,k3,k4,k5⟩:=e4 hh;rw[k1]at hp;cases hp;rw[k4]at hb;cases hb;rw[k4,qB (by simpa using k5)]) (λc hc=>hc.elim) (λc hc=>⟨hc,λh=>h⟩) (λ_=>hg)
  (λhk'=>by simp only[Rel];exact J0 q.o q.x (λb=>S' b) us (Rel.keep hk' _ _ _ _ (λ_ _=>rfl) e3))
 exact⟨⟨p.β,_,λb=>p.L b\/S' b⟩,S',rfl,λb=>jQ,λb hb hL=>(h.lim b hL).2.2 k hl (e2 b hb),ht,Rel.keep ht.keep _ _ _ _ (λ_ _=>rfl) e3⟩
theorem wY:(v:V)->(M:Mem)->Hp F p M w->Tr F p M w (cr M v).1 p (cr M v).2 w
 |.ref k _,M,h=>by
  simp only[cr];split
  ·rename_i ob hk;exact Tr.frz h k ob hk
  ·exact Tr.refl h
 |.ad k _,M,h=>by
  simp only[cr];split
  ·rename_i ob hk;exact Tr.frz h k ob hk
  ·exact Tr.refl h
 |.p a b,M,h=>by simp only[cr];have h1:=wY a M h;have h2:=wY b _ h1.hp;exact h1.trans h2
 |.ag v,M,h|.fn _ v,M,h|.ifc _ v,M,h|.bx v,M,h|.tup v,M,h|.gd _ _ _ v,M,h=>by simp only[cr];exact wY v M h
 |.any,M,h|.nl,M,h|.np,M,h|.u,M,h|.d _ _,M,h=>by simp only[cr];exact Tr.refl h
theorem Ar:(v:V)->(M:Mem)->((cr M v).1=[]/\(cr M v).2=M)\/∃x r,(cr M v).1=x::r/\fresh M [x]=false
 |.ref k _,M=>by
  simp only[cr];split
  ·exact .inr ⟨_,_,rfl,rfl⟩
  ·exact .inl ⟨rfl,rfl⟩
 |.ad k _,M=>by
  simp only[cr];split
  ·exact .inr ⟨_,_,rfl,rfl⟩
  ·exact .inl ⟨rfl,rfl⟩
 |.p a b,M=>by
  simp only[cr];rcases Ar a M with⟨h1,h2⟩|⟨x,r,h1,h2⟩
  ·rw[h1,h2];simp only[ap];exact Ar b M
  ·exact .inr ⟨x,_,by rw[h1];rfl,h2⟩
 |.ag v,M|.fn _ v,M|.ifc _ v,M|.bx v,M|.tup v,M|.gd _ _ _ v,M=>by simp only[cr];exact Ar v M
 |.any,M|.nl,M|.np,M|.u,M|.d _ _,M=>by simp[cr]
def lS(M M':Mem):Prop:=∀k,go M' k=none\/go M' k=go M k
theorem lS.refl(M:Mem):lS M M:=λ_=>.inr rfl
theorem lS.trans(h:lS M M')(k:lS M' M''):lS M M'':=λj=>by
 rcases k j with e|e
 ·exact .inl e
 ·rcases h j with e'|e'
  ·exact .inl (by rw[e,e'])
  ·exact .inr (by rw[e,e'])
theorem Em(k:Nat)(M:Mem):lS M (del k M):=λj=>by
 by_cases e:j=k
 ·subst e;exact .inl (eJ j M)
 ·exact .inr (dC e M)
theorem CO:(v:V)->(M:Mem)->lS M (cr M v).2
 |.ref k _,M=>by
  simp only[cr];split
  ·exact Em k M
  ·exact lS.refl M
 |.ad k _,M=>by
  simp only[cr];split
  ·exact Em k M
  ·exact lS.refl M
 |.p a b,M=>by simp only[cr];exact (CO a M).trans (CO b _)
 |.ag v,M|.fn _ v,M|.ifc _ v,M|.bx v,M|.tup v,M|.gd _ _ _ v,M=>by simp only[cr];exact CO v M
 |.any,M|.nl,M|.np,M|.u,M|.d _ _,M=>by simp only[cr];exact lS.refl M
theorem L4{a:T}{x:Option (List a.den)}(r:ai Im w (.ns (.sl a)) x vs):ai Im w (.sl a) (x.getD []) vs:=by
 simp only[ai]at r;rcases r with⟨rfl,rfl⟩|⟨y,b,n,c,rfl,rfl,r⟩
 ·simp only[ai,pM,bh];exact⟨none,0,rfl,⟨fV _,bd _⟩,λ_=>⟨trivial,rfl⟩,λa ha=>by cases ha⟩
 ·simpa only [ai,gA]using r
theorem SB{a b:T}{f:a.den->b.den}(hs:a.size=b.size)(hf:∀(x:a.den)(vs:aM),ai Im w a x vs->ai Im w b (f x) vs){l:List a.den}(r:ai Im w (.sl a) l vs):ai Im w (.sl b) (l.map f) vs:=by
 simp only[ai]at r⊢;obtain⟨oa,cap,h1,h2,h3,h4⟩:=r;refine⟨oa,cap,by rw[cC];exact h1,by rw[cC];exact h2,λh=>by rw[cC];exact h3 h,λad ha hp=>?_⟩;rw[cC]at hp;obtain⟨k1,k2,k3⟩:=h4 ad ha hp;refine⟨k1,k2,λi z hz=>?_⟩;rw[gJ]at hz
 cases hx:l[i]? with
 |none=>rw[hx]at hz;cases hz
 |some q=>rw[hx]at hz;simp only[fq,aI]at hz;subst hz;obtain⟨us,u1,u2⟩:=k3 i q hx;exact⟨us,by rw[←hs];exact u1,hf _ _ u2⟩
theorem J6{a b:T}{x:a.den}{y:b.den}(h:LJ a x b=some y)(r:ai Im w a x vs):ai Im w b y vs:=by
 unfold LJ at h;split at h
 ·exact nE h (L4 r)
 ·rename_i a x b;exact nE h (SB (a:=.ns (.sl a)) (b:=.sl a) (f:=λx=>Option.getD x []) rfl (λx vs r=>L4 r) r)
 ·rename_i c a x d b;refine nE h (SB (a:=.p c (.ns (.sl a))) (b:=.p c (.sl a)) (f:=λx=>(x.1,x.2.getD [])) rfl (λx vs r=>?_) r);simp only[ai]at r;obtain⟨va,vb,h1,h2,h3⟩:=r;unfold ai;exact⟨va,vb,h1,h2,L4 (by simpa only [ai]using h3)⟩
 ·rename_i a x b;split at h
  ·rename_i y' hy;cases h;have r':=nE hy r;have r0:=r;simp only[ai]at r0;obtain⟨oa,cap,rfl,_⟩:=r0;simp only[ai]at r'⊢;exact .inr ⟨_,_,_,_,rfl,rfl,r'⟩
  ·cases h
 ·rename_i i x j
  cases hb:Nat.beq i j with
  |true=>rw[hb]at h;simp only[aD,aI]at h;have:=cR hb;subst this;subst h;exact r
  |false=>
   rw[hb]at h;simp only[bc]at h;simp only[ai]at r⊢;rcases r with⟨rfl,hv⟩|⟨s,rfl,hv⟩
   ·simp only[aI]at h;subst h;exact .inl ⟨rfl,hv⟩
   ·cases h
 ·exact nE h r
theorem ab9(a:T):∀(b:T)(x:a.den)(y:b.den)(vs:aM),coD a x b=some y->ai Im w a x vs->ai Im w b y vs:=by
 induction a with
 |p a c iha ihc=>
  intro b x y vs h r
  cases b with
  |p b d=>
   simp only[coD]at h;split at h
   ·rename_i y1 y2 h1 h2;cases h;simp only[ai]at r⊢;obtain⟨va,vb,e,r1,r2⟩:=r;exact⟨va,vb,e,iha b _ _ _ h1 r1,ihc d _ _ _ h2 r2⟩
   ·cases h
  |_=>simp only[coD]at h;exact J6 h r
 |pt a ih=>
  intro b x y vs h r
  cases b with
  |pt b=>simp only[coD]at h;simp only[ai]at r⊢;obtain⟨bb,o,us,e,h1,h2,h3⟩:=r;exact⟨bb,o,us,e,h1,h2,ih b _ _ _ h h3⟩
  |_=>simp only[coD]at h;exact J6 h r
 |_=>intro b x y vs h r;simp only[coD]at h;exact J6 h r
theorem x8{a b:T}{x:a.den}{y:b.den}(h:asD a x b=some y)(r:ai Im w a x vs):ai Im w b y vs:=by
 unfold asD at h;split at h
 ·rename_i z hz;cases h;exact nE hz r
 ·exact ab9 _ _ _ _ _ h r
theorem mW{β:fD}{Im:aT}:(v:V)->(t:T)->(vs:aM)->(x:t.den)->ac β M Im w v vs->v.as t=some x->ai Im w t x vs
 |.d s y,t,vs,x,r,h=>by simp only[ac]at r;simp only[V.as]at h;exact x8 h r
 |.p a b,.p t s,vs,x,r,h=>by
  simp only[ac]at r;simp only[V.as]at h;split at h
  ·rename_i y z hy hz;cases h;obtain⟨va,vb,h1,h2,h3⟩:=r;simp only[ai];exact⟨va,vb,h1,mW a t va y h2 hy,mW b s vb z h3 hz⟩
  ·cases h
 |.nl,.sl _,vs,x,r,h=>by simp only[ac]at r;simp only[V.as,aI]at h;subst h;simp only[ai];obtain⟨oa,r⟩:=r;exact⟨oa,0,r,⟨fV _,bd _⟩,λ_=>⟨rfl,rfl⟩,λa ha hpos=>absurd hpos (oA 0)⟩
 |.u,.u,vs,x,r,h=>by simp only[ac]at r;simp only[ai];exact r
 |.np,.any,vs,x,r,h=>by simp only[ac]at r;simp only[ai];exact⟨_,r,rfl⟩
 |.bx v,.pt t,vs,x,r,h=>by simp only[V.as]at h;simp only[ac]at r;obtain⟨b,o,us,h1,h2,h3,h4⟩:=r;simp only[ai];exact⟨b,o,us,h1,h2,h3,mW v t us x h4 h⟩
 |.fn f v,.fn f' t,vs,x,r,h=>by
  simp only[ac]at r;simp only[V.as,cS]at h;split at h
  ·rename_i e;subst e;obtain⟨us,h1,h2⟩:=r;simp only[ai];exact⟨us,h1,mW v t us x h2 h⟩
  ·cases h
 |.p _ _,.int _,_,_,_,h|.p _ _,.bool,_,_,_,h|.p _ _,.str,_,_,_,h|.p _ _,.u,_,_,_,h|.p _ _,.sl _,_,_,_,h|.p _ _,.pt _,_,_,_,h|.p _ _,.fn _ _,_,_,_,h|.p _ _,.any,_,_,_,h|.nl,.int _,_,_,_,h|.nl,.bool,_,_,_,h|.nl,.str,_,_,_,h|.nl,.u,_,_,_,h|.nl,.p _ _,_,_,_,h|.nl,.pt _,_,_,_,h|.nl,.fn _ _,_,_,_,h|.nl,.any,_,_,_,h|.u,.int _,_,_,_,h|.u,.bool,_,_,_,h|.u,.str,_,_,_,h|.u,.sl _,_,_,_,h|.u,.p _ _,_,_,_,h|.u,.pt _,_,_,_,h|.u,.fn _ _,_,_,_,h|.u,.any,_,_,_,h|.np,.int _,_,_,_,h|.np,.bool,_,_,_,h|.np,.str,_,_,_,h|.np,.sl _,_,_,_,h|.np,.p _ _,_,_,_,h|.np,.pt _,_,_,_,h|.np,.fn _ _,_,_,_,h|.np,.u,_,_,_,h|.fn _ _,.int _,_,_,_,h|.fn _ _,.bool,_,_,_,h|.fn _ _,.str,_,_,_,h|.fn _ _,.sl _,_,_,_,h|.fn _ _,.p _ _,_,_,_,h|.fn _ _,.pt _,_,_,_,h|.fn _ _,.u,_,_,_,h|.fn _ _,.any,_,_,_,h|.bx _,.int _,_,_,_,h|.bx _,.bool,_,_,_,h|.bx _,.str,_,_,_,h|.bx _,.sl _,_,_,_,h|.bx _,.p _ _,_,_,_,h|.bx _,.fn _ _,_,_,_,h|.bx _,.u,_,_,_,h|.bx _,.any,_,_,_,h|.any,_,_,_,_,h|.ref _ _,_,_,_,_,h|.ad _ _,_,_,_,_,h|.ag _,_,_,_,r,h|.tup _,_,_,_,r,h|.gd _ _ _ _,_,_,_,r,h=>by simp[V.as]at h
 |.ifc f v,.ifc f' t,vs,x,r,h=>by
  simp only[ac]at r;simp only[V.as,cS]at h;split at h
  ·rename_i e;subst e;obtain⟨u,h1,h2⟩:=r;simp only[ai];exact⟨u,h1,mW v t [u] x h2 h⟩
  ·cases h
 |.ifc _ _,.int _,_,_,_,h|.ifc _ _,.bool,_,_,_,h|.ifc _ _,.str,_,_,_,h|.ifc _ _,.sl _,_,_,_,h|.ifc _ _,.p _ _,_,_,_,h|.ifc _ _,.pt _,_,_,_,h|.ifc _ _,.u,_,_,_,h|.ifc _ _,.any,_,_,_,h|.ifc _ _,.fn _ _,_,_,_,h=>by simp[V.as]at h
structure Cv (F:Fr) (p:Ow) (M:Mem) (w:aQ) (k:Nat) (q:Ob) (e:bM) (vs:aM) (p':Ow) (M':Mem) (S:aT):Prop where
 β:p'.β=p.β
 L:∀b,p'.L b<->p.L b\/S b
 sp:∀b,S b->¬p.L b
 tr:Tr F p M w e p' M' w
 rel:Rel (Imm F p' M' w) w q.o q.x S vs
 fr:(e=[]/\M'=M/\p'=p)\/∃x r,e=x::r/\fresh M [x]=false
theorem Cv.dat(h:Hp F p M w)(k:Nat){t:T}{x:t.den}(r:ai (Imm F p M w) w t x vs):Cv F p M w k ⟨.fz t,x⟩ [] vs p M (λ_=>False):=⟨rfl,λb=>ak,λb hb=>hb.elim,Tr.refl h,by simp only[Rel];exact r,.inl ⟨rfl,rfl,rfl⟩⟩
theorem Cv.frz(h:Hp F p M w)(k:Nat)(hk:go M r=some ob){t:T}{x:t.den}(hr:ai (Imm F p (del r M) w) w t x vs):Cv F p M w k ⟨.fz t,x⟩ [.fz r ob] vs p (del r M) (λ_=>False):=⟨rfl,λb=>ak,λb hb=>hb.elim,Tr.frz h r ob hk,by simp only[Rel];exact hr,.inr ⟨_,_,rfl,rfl⟩⟩
theorem Cv.whole(h:Hp F p M w)(k:Nat)(hk:go M r=some ob)(hg:r<gid):Cv F p M w k ob [.kl r] [p.β r] ⟨p.β,p.σ,λb=>p.L b\/p.σ r b⟩ (del r M) (p.σ r):=⟨rfl,λb=>jQ,λb hb hL=>(h.lim b hL).2.2 r (bP hk) hb,Tr.lim h r (bP hk) hg,Rel.keep (Tr.lim h r (bP hk) hg).keep _ _ _ _ (λ_ _=>rfl) (h.objs r ob hk),.inr ⟨_,_,rfl,by simp[fresh,hk,isN]⟩⟩
theorem sV(h:neg (d6 r k)=false):r≠k/\r<gid:=by
 simp only[gu,d6,aO]at h
 cases h1:Nat.beq r k with
 |true=>simp[h1]at h
 |false=>
  cases h2:Nat.ble (Nat.succ r) gid with
  |false=>simp[h1,h2]at h
  |true=>exact⟨λe=>by subst e;simp at h1,eU h2⟩
abbrev yT:Type:=Option Addr
theorem Rg(w:aQ)(ety:bF)(sz:Nat)(oa:yT):kX w ety sz (.slice oa 0 0) 0 []:=⟨ak,.inl ⟨rfl,oa,rfl⟩⟩
theorem AW(e:O)(oa:yT):Rel Im w (.sl e) ([]:List e.strip.den) (λ_=>False) [.slice oa 0 0]:=by
 simp only[Rel];refine⟨_,0,[],λ_ _=>False,rfl,Rg w 0 e.size oa,fV _,?_,?_,?_,?_⟩
 ·intro c hc;cases oa<;>cases hc
 ·intro i c hc;exact hc.elim
 ·intro i j c _ hc;exact hc.elim
 ·intro i x hx;simp at hx
theorem JB(h:Hp F p M w)(hk:go M r=some ob)(hq:get ρ ob.o ob.x=some q)(hr:Ref p.β M w r ρ vs):ai (Imm F p (del r M) w) w q.o.strip q.x vs:=by obtain⟨ob',pl,h1,h2,⟨q',h3⟩,h4⟩:=hr;rw[hk]at h1;cases h1;obtain⟨us,pl',S',e1,e2,e3,_⟩:=look h hk h2 hq;rw[e1]at h4;cases h4;exact Rel.frz (λb hb=>((h.del r).2 b hb).1) _ _ S' _ (λb hb=>tf h (bP hk) (e2 b hb)) e3
theorem aar(h:Hp F p M w)(hk:go M r=some ob)(hq:get ρ ob.o ob.x=some q)(hr:Adr p.β M w r ρ v):ai (Imm F p (del r M) w) w (.pt q.o.strip) q.x [v]:=by obtain⟨ob',us0,b0,off0,h1,h2,⟨q',h3⟩,h4,h5,rfl⟩:=hr;rw[hk]at h1;cases h1;obtain⟨us,pl',S',e1,e2,e3,e4,_⟩:=look h hk h2 hq;rw[e1]at h5;simp only[aI,bE]at h5;obtain⟨rfl,rfl⟩:=h5;obtain⟨b,off,cur,ty',k1,k2,k3,k4,k5⟩:=e4 h4;simp only[aI,bE]at k1;obtain⟨rfl,rfl⟩:=k1;simp only[ai];refine⟨b0,off0,us,rfl,tf h (bP hk) k2,λj' u hu=>?_,Rel.frz (λb hb=>((h.del r).2 b hb).1) _ _ S' _ (λb hb=>tf h (bP hk) (e2 b hb)) e3⟩;rw[lA w b0 _ cur ty' (0,0) k4];exact k5 j' u hu
theorem E5{w:aQ}:∀(π:bz)(o o':O)(l:aZ),trk π o=some l->trk π o'=some l->(∀vs ad,res w π o vs ad=res w π o' vs ad)/\(∀x,gok π o' x)/\∀x,∃q,get π o' x=some q
 |[],o,o',l,h,h'=>⟨λ_ _=>rfl,λ_=>by simp only[gok],λx=>⟨_,rfl⟩⟩
 |.l::π,.p a b,o',l,h,h'=>by
  simp only[trk]at h;split at h
  ·rename_i l1 h1;cases h
   cases o' with
   |p a' b'=>
    simp only[trk]at h';split at h'
    ·rename_i l2 h2;simp only[aI,bG,aL]at h';obtain⟨e1,rfl⟩:=h';obtain⟨q1,q2,q3⟩:=E5 (w:=w) π a a' l2 h1 h2;exact⟨λvs ad=>by simp only[res,O.size];rw[e1];exact q1 _ _,λx=>by simp only[gok];exact q2 _,λx=>by simp only[get];exact q3 _⟩
    ·cases h'
   |_=>simp[trk]at h'
  ·cases h
 |.r::π,.p a b,o',l,h,h'=>by
  simp only[trk]at h;split at h
  ·rename_i l1 h1;cases h
   cases o' with
   |p a' b'=>
    simp only[trk]at h';split at h'
    ·rename_i l2 h2;simp only[aI,bG,aL]at h';obtain⟨e1,rfl⟩:=h';obtain⟨q1,q2,q3⟩:=E5 (w:=w) π b b' l2 h1 h2;exact⟨λvs ad=>by simp only[res,O.size];rw[e1];exact q1 _ _,λx=>by simp only[gok];exact q2 _,λx=>by simp only[get];exact q3 _⟩
    ·cases h'
   |_=>simp[trk]at h'
  ·cases h
 |.de::π,.pt t,o',l,h,h'=>by
  simp only[trk]at h;split at h
  ·rename_i l1 h1;cases h
   cases o' with
   |pt t'=>
    simp only[trk]at h';split at h'
    ·rename_i l2 h2;simp only[aI,bG,aL]at h';obtain⟨e1,rfl⟩:=h';obtain⟨q1,q2,q3⟩:=E5 (w:=w) π t t' l2 h1 h2;exact⟨λvs ad=>by simp only[res,O.size];rw[e1];split<;>first|exact q1 _ _|rfl,λx=>by simp only[gok];exact q2 _,λx=>by simp only[get];exact q3 _⟩
    ·cases h'
   |_=>simp[trk]at h'
  ·cases h
 |.l::_,.fz _,_,_,h,_|.l::_,.sl _,_,_,h,_|.l::_,.pt _,_,_,h,_|.l::_,.mp _ _,_,_,h,_|.l::_,.op _,_,_,h,_|.r::_,.fz _,_,_,h,_|.r::_,.sl _,_,_,h,_|.r::_,.pt _,_,_,h,_|.r::_,.mp _ _,_,_,h,_|.r::_,.op _,_,_,h,_|.de::_,.fz _,_,_,h,_|.de::_,.sl _,_,_,h,_|.de::_,.p _ _,_,_,h,_|.de::_,.mp _ _,_,_,h,_|.de::_,.op _,_,_,h,_=>by simp[trk]at h
 |.ix _::_,o,_,_,h,_=>by cases o<;>simp[trk]at h
theorem Tr.tk(h:Hp F p M w)(hk:go M k=some ob)(hβ:p'.β=p.β)(t:Tr F p M w [.cut k ob.o ob'.o] p' (Bm.put k ob' M) w):Tr F p M w [.tk k ob.o ob'.o] p' (Bm.put k ob' M) w:=by
 have hlk:=bP hk;refine Tr.one _ t.keep (λj ρ vs r=>?_) (λj ρ v r=>?_) t.hp
 ·have hc:=t.c (.ref j ρ) vs (by simp only[ac];exact r);simp only[V.evs,V.ev,Ev.ref]at hc;simp only[Ev.ref]
  cases hb:Nat.beq j k with
  |false=>rw[hb]at hc;exact hc
  |true=>
   rw[hb]at hc;simp only[aD]at hc⊢
   cases hn:iI ρ with
   |true=>rw[hn]at hc;simpa only [eX,Bool.true_or,aD]using hc
   |false=>
    simp only[eX,yY]
    cases hs:Fy (trk ρ ob.o) (trk ρ ob'.o)with
    |false=>simp only[bc,ac];exact r.one h
    |true=>
     simp only[aD,ac];have hjk:=cR hb;subst hjk
     obtain⟨l,s1,s2⟩:∃l,trk ρ ob.o=some l/\trk ρ ob'.o=some l:=by
      cases h1:trk ρ ob.o with
      |none=>rw[h1]at hs;cases hs
      |some a=>
       cases h2:trk ρ ob'.o with
       |none=>rw[h1,h2]at hs;cases hs
       |some b=>rw[h1,h2]at hs;exact⟨b,by rw[Pw hs],rfl⟩
     obtain⟨q1,q2,q3⟩:=E5 (w:=w) ρ ob.o ob'.o l s1 s2;obtain⟨o,pl0,k1,k2,k3,k4⟩:=r;rw[hk]at k1;cases k1;exact⟨ob',pl0,lJ ob' M hlk,q2 _,q3 _,by rw[hβ,←q1];exact k4⟩
 ·have hc:=t.c (.ad j ρ) [v] (by simp only[ac];exact⟨v,rfl,r⟩);simp only[V.evs,V.ev,Ev.ad]at hc;simp only[Ev.ad];exact hc
theorem Q6(h:Hp F p M w)(k r:Nat)(ρ:bz)(vs:aM)(q:Ob)(e:bM)(M':Mem)(hr:Ref p.β M w r ρ vs)(hc:qO k r ρ M=some (q,e,M')):go M' k=go M k/\∃p' S,Cv F p M w k q e vs p' M' S:=by
 unfold qO at hc
 cases hok:neg (d6 r k)with
 |true=>rw[hok]at hc;simp at hc
 |false=>
  rw[hok]at hc;obtain⟨hne,hg⟩:=sV hok;simp only[bc]at hc;split at hc
  ·rename_i ob hob;split at hc
   ·rename_i q1 hq1;split at hc
    ·cases hc;refine⟨dC (cM hne) M,?_⟩;obtain⟨ob',pl,h1,h2,h3,h4⟩:=hr;simp only[res,aI,bE]at h4;obtain⟨rfl,rfl⟩:=h4;simp only[get,aI]at hq1;subst hq1;exact⟨_,_,Cv.whole h k hob hg⟩
    ·cases hix:nZ ρ with
     |true=>rw[hix]at hc;simp only[aD,aI,bE]at hc;obtain⟨rfl,rfl,rfl⟩:=hc;exact⟨dC (cM hne) M,_,_,Cv.frz h k hob (JB h hob hq1 hr)⟩
     |false=>
      rw[hix]at hc;simp only[bc]at hc;split at hc
      ·rename_i ob' hset;simp only[aI,bE]at hc;obtain⟨rfl,rfl,rfl⟩:=hc;refine⟨iR ob' (cM hne) M,?_⟩;obtain⟨ob0,pl,h1,h2,h3,h4⟩:=hr;rw[hob]at h1;cases h1;obtain⟨p',S,k1,k2,k3,k4,k5⟩:=Tr.cut h hob hg h2 hq1 h4 hset;exact⟨p',S,k1,k2,k3,Tr.tk h hob k1 k4,k5,.inr ⟨_,_,rfl,rfl⟩⟩
      ·cases hc
   ·cases hc
  ·cases hc
theorem ac5(h:Hp F p M w)(k r:Nat)(ρ:bz)(v:bw)(q:Ob)(e:bM)(M':Mem)(hr:Adr p.β M w r ρ v)(hc:Bs k r ρ M=some (q,e,M')):go M' k=go M k/\∃p' S,Cv F p M w k q e [v] p' M' S:=by
 unfold Bs at hc
 cases hok:neg (d6 r k)with
 |true=>rw[hok]at hc;simp at hc
 |false=>
  rw[hok]at hc;obtain⟨hne,hg⟩:=sV hok;simp only[bc]at hc;split at hc
  ·rename_i o x hob;cases hc;refine⟨dC (cM hne) M,?_⟩;obtain⟨ob',us0,b0,off0,h1,h2,h3,h4,h5,rfl⟩:=hr;rw[hob]at h1;cases h1;have hrr:=h.objs r _ hob;simp only[Rel]at hrr;obtain⟨bb,us1,ty',S1,r1,r2,r3,r4,r5⟩:=hrr;simp only[bG,az]at r1;rw[r1]at h5;simp only[res,aI,bE]at h5;obtain⟨_,rfl,rfl⟩:=h5;rw[←r1];exact⟨_,_,Cv.whole h k hob hg⟩
  ·rename_i ob hob _;split at hc
   ·rename_i q1 hq1;simp only[aI,bE]at hc;obtain⟨rfl,rfl,rfl⟩:=hc;exact⟨dC (cM hne) M,_,_,Cv.frz h k hob (aar h hob hq1 hr)⟩
   ·cases hc
  ·cases hc
theorem Cv.pair{q':Ob}{e e':bM}(h:Cv F p M w k q e va p' M' S)(h':Cv F p' M' w k q' e' vb p'' M'' S'):
  Cv F p M w k (mkP q q') (ap e e') (va++vb) p'' M'' (λb=>S b\/S' b):=by
 refine⟨h'.β.trans h.β,λb=>by rw[h'.L,h.L,or_assoc],λb hb=>?_,h.tr.trans h'.tr,?_,?_⟩
 ·rcases hb with hb|hb
  ·exact h.sp b hb
  ·exactλhL=>h'.sp b hb ((h.L b).2 (.inl hL))
 ·exact EE (λc hc=>.inl hc) (λc hc=>.inr hc) (λc hc hc'=>h'.sp c hc' ((h.L c).2 (.inr hc))) (Rel.keep h'.tr.keep _ _ _ _ (λ_ _=>rfl) h.rel) h'.rel
 ·rcases h.fr with⟨rfl,rfl,rfl⟩|⟨x,r,rfl,hx⟩
  ·exact h'.fr
  ·exact .inr ⟨x,ap r e',rfl,hx⟩
theorem uW(k:Nat):(t:T)->(v:V)->(M:Mem)->(p:Ow)->(vs:aM)->(q:Ob)->(e:bM)->(M':Mem)->Hp F p M w->ac p.β M (Imm F p M w) w v vs->conv k t v M=some (q,e,M')->go M' k=go M k/\∃p' S,Cv F p M w k q e vs p' M' S
 |t,.ref r ρ,M,p,vs,q,e,M',h,hr,hc=>by simp only[ac]at hr;refine Q6 h k r ρ vs q e M' hr ?_;cases t<;>simpa only [conv]using hc
 |t,.ad r ρ,M,p,vs,q,e,M',h,hr,hc=>by simp only[ac]at hr;obtain⟨v,rfl,hr⟩:=hr;refine ac5 h k r ρ v q e M' hr ?_;cases t<;>simpa only [conv]using hc
 |t,.d s x,M,p,vs,q,e,M',h,hr,hc=>by
  simp only[ac]at hr;have:conv k t (.d s x) M=some (⟨.fz s,x⟩,[],M):=by cases t<;>simp only[conv]
  rw[this]at hc;cases hc;exact⟨rfl,_,_,Cv.dat h k hr⟩
 |t,.u,M,p,vs,q,e,M',h,hr,hc=>by
  simp only[ac]at hr;have:conv k t .u M=some (⟨.fz .u,()⟩,[],M):=by cases t<;>simp only[conv]
  rw[this]at hc;cases hc;exact⟨rfl,_,_,Cv.dat h k (by simp only[ai];exact hr)⟩
 |t,.np,M,p,vs,q,e,M',h,hr,hc=>by
  simp only[ac]at hr;have:conv k t .np M=some (⟨.fz .any,()⟩,[],M):=by cases t<;>simp only[conv]
  rw[this]at hc;cases hc;exact⟨rfl,_,_,Cv.dat h k (by simp only[ai];exact⟨_,hr,rfl⟩)⟩
 |.sl t,.nl,M,p,vs,q,e,M',h,hr,hc=>by simp only[ac]at hr;simp only[conv,aI,bE]at hc;obtain⟨rfl,rfl,rfl⟩:=hc;obtain⟨oa,rfl⟩:=hr;exact⟨rfl,p,λ_=>False,rfl,λb=>ak,λb hb=>hb.elim,Tr.refl h,AW t.deep oa,.inl ⟨rfl,rfl,rfl⟩⟩
 |t,.fn f .u,M,p,vs,q,e,M',h,hr,hc=>by
  simp only[ac]at hr;have:conv k t (.fn f .u) M=some (⟨.fz (.fn f .u),()⟩,[],M):=by cases t<;>simp only[conv]
  rw[this]at hc;cases hc;refine⟨rfl,_,_,Cv.dat h k ?_⟩;simp only[ai];exact hr
 |.p t s,.p a b,M,p,vs,q,e,M',h,hr,hc=>by
  simp only[ac]at hr;obtain⟨va,vb,rfl,ha,hb⟩:=hr;simp only[conv]at hc;split at hc
  ·rename_i q1 e1 M1 hc1;split at hc
   ·rename_i q2 e2 M2 hc2;simp only[aI,bE]at hc;obtain⟨rfl,rfl,rfl⟩:=hc;obtain⟨g1,p1,S1,c1⟩:=uW k t a M p va q1 e1 M1 h ha hc1;obtain⟨g2,p2,S2,c2⟩:=uW k s (b.evs e1) M1 p1 vb q2 e2 M2 c1.tr.hp (c1.tr.c _ _ hb) hc2;exact⟨g2.trans g1,p2,_,c1.pair c2⟩
   ·cases hc
  ·cases hc
 |.int _,.p _ _,_,_,_,_,_,_,_,_,h|.bool,.p _ _,_,_,_,_,_,_,_,_,h|.str,.p _ _,_,_,_,_,_,_,_,_,h|.u,.p _ _,_,_,_,_,_,_,_,_,h|.sl _,.p _ _,_,_,_,_,_,_,_,_,h|.pt _,.p _ _,_,_,_,_,_,_,_,_,h|.fn _ _,.p _ _,_,_,_,_,_,_,_,_,h|.any,.p _ _,_,_,_,_,_,_,_,_,h|.int _,.nl,_,_,_,_,_,_,_,_,h|.bool,.nl,_,_,_,_,_,_,_,_,h|.str,.nl,_,_,_,_,_,_,_,_,h|.u,.nl,_,_,_,_,_,_,_,_,h|.p _ _,.nl,_,_,_,_,_,_,_,_,h|.pt _,.nl,_,_,_,_,_,_,_,_,h|.fn _ _,.nl,_,_,_,_,_,_,_,_,h|.any,.nl,_,_,_,_,_,_,_,_,h=>by simp[conv]at h
 |t,.fn _ (.p _ _),_,_,_,_,_,_,_,_,h|t,.fn _ .any,_,_,_,_,_,_,_,_,h|t,.fn _ .nl,_,_,_,_,_,_,_,_,h|t,.fn _ .np,_,_,_,_,_,_,_,_,h|t,.fn _ (.d _ _),_,_,_,_,_,_,_,_,h|t,.fn _ (.ref _ _),_,_,_,_,_,_,_,_,h|t,.fn _ (.ad _ _),_,_,_,_,_,_,_,_,h|t,.fn _ (.ag _),_,_,_,_,_,_,_,_,h|t,.fn _ (.tup _),_,_,_,_,_,_,_,_,h|t,.fn _ (.gd _ _ _ _),_,_,_,_,_,_,_,_,h|t,.fn _ (.fn _ _),_,_,_,_,_,_,_,_,h|t,.fn _ (.ifc _ _),_,_,_,_,_,_,_,_,h|t,.fn _ (.bx _),_,_,_,_,_,_,_,_,h|t,.any,_,_,_,_,_,_,_,_,h|t,.ag _,_,_,_,_,_,_,_,_,h|t,.tup _,_,_,_,_,_,_,_,_,h|t,.gd _ _ _ _,_,_,_,_,_,_,_,_,h|t,.ifc _ _,_,_,_,_,_,_,_,_,h|t,.bx _,_,_,_,_,_,_,_,_,h=>by cases t<;>simp[conv]at h
termination_by t=>SizeOf.sizeOf t
theorem Mm(h:Hp F p M w)(k:Nat)(o:O)(v:V)(vs:aM)(x:o.strip.den)(e:bM)(hr:ac p.β M (Imm F p M w) w v vs)(hc:qV k o v M=some (x,e,M')):
  (go M' k=none\/go M' k=go M k)/\∃p' S,Cv F p M w k ⟨o,x⟩ e vs p' M' S:=by
 have key:∀r,(match conv k o.strip v M with
  |some (q,e,M')=>(match jn q o with|some x=>some (x,e,M')|none=>none)
  |none=>none)=some r->r=(x,e,M')->(go M' k=none\/go M' k=go M k)/\∃p' S,Cv F p M w k ⟨o,x⟩ e vs p' M' S:=by
  intro r hr1 hr2;split at hr1
  ·rename_i q e1 M1 hc1;split at hr1
   ·rename_i y hy;cases hr1;cases hr2;obtain⟨g,p',S,c⟩:=uW k o.strip v M p vs q e M' h hr hc1;rw[qD hy]at c;exact⟨.inr g,p',S,c⟩
   ·cases hr1
  ·cases hr1
 cases o with
 |fz t=>
  simp only[qV]at hc;have hf:=wY v M h;have hth:=CO v M;have hfr:=Ar v M;generalize cr M v=z at hc hf hth hfr;obtain⟨e1,M1⟩:=z;simp only at hc hf hth hfr;split at hc
  ·rename_i y hy;cases hc;refine⟨hth k,p,λ_=>False,rfl,λb=>ak,λb hb=>hb.elim,hf,?_,hfr.imp (λh=>⟨h.1,h.2,rfl⟩) id⟩;simp only[Rel];exact mW _ t vs x (hf.c _ _ hr) hy
  ·cases hc
 |p a b|sl a|pt a|mp _ _|op _=>exact key _ hc rfl
theorem Q0(h:Hp F p M w)(k:Nat)(o:O)(v:V)(vs:aM)(x:o.strip.den)(e:bM)(hr:ac p.β M (Imm F p M w) w v vs)(hc:r9 k o v M=some (x,e,M')):
  (go M' k=none\/go M' k=go M k)/\∃p' S,Cv F p M w k ⟨o,x⟩ e vs p' M' S:=by
 cases o with
 |fz t|p a b|sl a|pt a|mp _ _=>exact Mm h k _ v vs x e hr hc
 |op a=>
  simp only[r9]at hc;split at hc
  ·rename_i y ev M1 hc1;cases hc;obtain⟨g,p',S,c⟩:=Mm h k a v vs y e hr hc1;refine⟨g,p',S,c.β,c.L,c.sp,c.tr,?_,c.fr⟩;have r:=c.rel;simp only[Rel];refine⟨Rel.len _ _ _ _ r,Rel.one _ _ _ _ r,λz hz=>?_⟩;cases hz;exact r
  ·cases hc
theorem acm{e:O}{l:List e.strip.den}(r:Rel Im w (.sl e) l S vs):Rel Im w (.sl (.op e)) (mf l) S vs:=by
 simp only[Rel]at r⊢;obtain⟨v,ety,xs,T,rfl,h2,h3,h4,h5,h6,h7⟩:=r;refine⟨v,ety,xs,T,rfl,by simp only[mf,cC];exact h2,by simpa[mf]using h3,h4,h5,h6,λi x hx=>?_⟩;simp only[mf,gJ]at hx
 cases hl:l[i]? with
 |none=>rw[hl]at hx;cases hx
 |some y=>rw[hl]at hx;cases hx;have r1:=h7 i y hl;have hsz:(O.op e).size=e.size:=rfl;rw[hsz];refine⟨Rel.len _ _ _ _ r1,Rel.one _ _ _ _ r1,λz hz=>?_⟩;cases hz;exact r1
theorem aca{e:O}{l:List (Option e.strip.den)}(z:e.strip.den)(ha:vC l=true)(r:Rel Im w (.sl (.op e)) l S vs):Rel Im w (.sl e) (pv z l) S vs:=by
 simp only[Rel]at r⊢;obtain⟨v,ety,xs,T,rfl,h2,h3,h4,h5,h6,h7⟩:=r;refine⟨v,ety,xs,T,rfl,by simp only[pv,cC];exact h2,by simpa[pv]using h3,h4,h5,h6,λi x hx=>?_⟩;simp only[pv,gJ]at hx
 cases hl:l[i]? with
 |none=>rw[hl]at hx;cases hx
 |some y=>
  rw[hl]at hx;cases hx;have hy:y.isSome=true:=by simp only[vC,gL]at ha;exact ha y (ul hl)
  obtain⟨y,rfl⟩:=Option.isSome_iff_exists.1 hy;exact (h7 i _ hl).2.2 y rfl
theorem IS{e:O}{l:List e.strip.den}{i:Nat}(hi:i<l.length)(r:Rel Im w (.sl e) l S vs):
  ∃us pl,∃Si:Nat->Prop,(∀ad,res w [.ix i] (.sl e) vs ad=some (us,pl))/\(∀c,Si c->S c)/\Rel Im w e (l.getD i e.dflt) Si us/\Rel Im w (.sl (.op e)) (om l i) (λc=>S c/\¬Si c) vs:=by
 have r1:=acm r;have hy:(mf l).getD i none=some (l.getD i e.dflt):=by simp only[mf,br,gJ,bU hi,fq,gA]
 have h2:gok [.ix i] (.sl (.op e)) (mf l):=by simp only[gok,mf,cC];exact⟨hi,trivial⟩
 have h3:get [.ix i] (.sl (.op e)) (mf l)=some ⟨.op e,(mf l).getD i none⟩:=by simp only[get,O.dflt]
 have hset:set [.ix i] (.sl (.op e)) (mf l) ⟨.op e,none⟩=some ⟨.sl (.op e),(mf l).set i none⟩:=by simp only[set];rw[show jn ⟨.op e,none⟩ (.op e)=some none from Zg _ _]
 obtain⟨us,pl,Si,e1,e2,e3,e4,_,e6⟩:=pm [.ix i] (.sl (.op e)) (mf l) S vs none _ r1 h2 h3 (λb off e=>by cases e);rw[hy]at e3;simp only[Rel]at e3;have hr:Rel Im w (.op e) (none:Option e.strip.den) (λ_=>False) us:=by simp only[Rel];exact⟨e3.1,e3.2.1,λz hz=>by cases hz⟩
 have hw:=e6 Im w ⟨.op e,none⟩ (λ_=>False) us _ hset rfl hr (cE.refl _ _) (λc h=>h.elim)
  (λhh b off hp cur ty' hb=>by obtain⟨b0,off0,cur0,ty0,k1,k2,k3,k4,k5⟩:=e4 hh;rw[k1]at hp;cases hp;rw[k4]at hb;cases hb;rw[k4,qB (by simpa using k5)]) (λ_ _ _ _=>rfl)
 rw[mH [.ix i] _ _ _ rfl]at hw;refine⟨us,pl,Si,λad=>?_,e2,e3.2.2 _ rfl,?_⟩
 ·have:∀ad ad',res w [.ix i] (.sl e) vs ad=res w [.ix i] (.sl (.op e)) vs ad':=λad ad'=>by simp only[res];rfl
  rw[this ad none];exact e1
 ·have hS:(λc=>(S c/\¬Si c)\/False)=λc=>S c/\¬Si c:=funext λc=>or_false _;rw[hS]at hw;exact hw.2
theorem Ks:∀(π:bz)(o:O)(x:o.strip.den)(p0:bz)(i:Nat)(q:Ob),jB π=some (p0,i)->get p0 o x=some q->gok p0 o x/\(gok π o x->∀(e:O)(l:List e.strip.den),q=⟨.sl e,l⟩->i<l.length)/\
  (∀(e:O)(l:List e.strip.den),q=⟨.sl e,l⟩->get π o x=some ⟨e,l.getD i e.dflt⟩)/\∀(w:aQ)(e:O)(l:List e.strip.den),q=⟨.sl e,l⟩->∀vs ad us pl,res w p0 o vs ad=some (us,pl)->res w π o vs ad=res w [.ix i] (.sl e) us pl:=by
 intro π
 induction π with
 |nil=>intro o x p0 i q h;simp[jB]at h
 |cons s π ih=>
  intro o x p0 i q h hg
  cases s with
  |ix n=>
   cases π with
   |nil=>
    simp only[jB,aI,bE]at h;obtain⟨rfl,rfl⟩:=h;simp only[get,aI]at hg;subst hg;refine⟨by simp only[gok],λh1 e l hq=>?_,λe l hq=>?_,λw e l hq vs ad us pl hr=>?_⟩
    ·cases hq;simp only[gok]at h1;exact h1.1
    ·cases hq;simp only[get]
    ·cases hq;simp only[res,aI,bE]at hr;obtain⟨rfl,rfl⟩:=hr;rfl
   |cons _ _=>simp[jB]at h
  |l=>
   simp only[jB]at h;split at h
   ·rename_i p1 i1 h1;cases h
    cases o with
    |p a b=>simp only[get]at hg;obtain⟨k1,k2,k3,k4⟩:=ih a x.1 p1 _ q h1 hg;exact⟨by simp only[gok];exact k1,λg=>by simp only[gok]at g;exact k2 g,λe l hq=>by simp only[get];exact k3 e l hq,λw e l hq vs ad us pl hr=>by simp only[res]at hr⊢;exact k4 w e l hq _ _ _ _ hr⟩
    |fz t=>
     cases t with
     |p a b=>simp only[get]at hg;obtain⟨k1,k2,k3,k4⟩:=ih (.fz a) x.1 p1 _ q h1 hg;exact⟨by simp only[gok];exact k1,λg=>by simp only[gok]at g;exact k2 g,λe l hq=>by simp only[get];exact k3 e l hq,λw e l hq vs ad us pl hr=>by simp only[res]at hr⊢;exact k4 w e l hq _ _ _ _ hr⟩
     |_=>simp[get]at hg
    |_=>simp[get]at hg
   ·cases h
  |r=>
   simp only[jB]at h;split at h
   ·rename_i p1 i1 h1;cases h
    cases o with
    |p a b=>simp only[get]at hg;obtain⟨k1,k2,k3,k4⟩:=ih b x.2 p1 _ q h1 hg;exact⟨by simp only[gok];exact k1,λg=>by simp only[gok]at g;exact k2 g,λe l hq=>by simp only[get];exact k3 e l hq,λw e l hq vs ad us pl hr=>by simp only[res]at hr⊢;exact k4 w e l hq _ _ _ _ hr⟩
    |fz t=>
     cases t with
     |p a b=>simp only[get]at hg;obtain⟨k1,k2,k3,k4⟩:=ih (.fz b) x.2 p1 _ q h1 hg;exact⟨by simp only[gok];exact k1,λg=>by simp only[gok]at g;exact k2 g,λe l hq=>by simp only[get];exact k3 e l hq,λw e l hq vs ad us pl hr=>by simp only[res]at hr⊢;exact k4 w e l hq _ _ _ _ hr⟩
     |_=>simp[get]at hg
    |_=>simp[get]at hg
   ·cases h
  |de=>
   simp only[jB]at h;split at h
   ·rename_i p1 i1 h1;cases h
    cases o with
    |pt t=>
     simp only[get]at hg;obtain⟨k1,k2,k3,k4⟩:=ih t x p1 _ q h1 hg;refine⟨by simp only[gok];exact k1,λg=>by simp only[gok]at g;exact k2 g,λe l hq=>by simp only[get];exact k3 e l hq,λw e l hq vs ad us pl hr=>?_⟩;simp only[res]at hr⊢;split at hr
     ·exact k4 w e l hq _ _ _ _ hr
     ·cases hr
    |_=>simp[get]at hg
   ·cases h
theorem ab2{v:V}{e:bM}(h:Hp F p M w)(hr:ac p.β M (Imm F p M w) w v vs)(hc:vO k v M=some (q,e,M')):go M' k=go M k/\∃p' S,Cv F p M w k q e vs p' M' S:=by
 unfold vO at hc;split at hc
 ·rename_i r i
  cases hb:neg (d6 r k)with
  |true=>rw[hb]at hc;cases hc
  |false=>
   rw[hb]at hc;simp only[bc]at hc;obtain⟨hne,hg⟩:=sV hb;split at hc
   ·rename_i e0 l hk;cases hc;simp only[ac]at hr;obtain⟨ob,pl,h1,h2,⟨q,h3⟩,h4⟩:=hr;rw[hk]at h1;cases h1;have hi:i<l.length:=by simp only[gok]at h2;exact h2.1
    obtain⟨us,pl1,Si,e1,e2,e3,_⟩:=IS hi (h.objs r _ hk);rw[e1 none]at h4;cases h4;have cv:=Cv.whole h k hk hg;have hd:=Tr.drop cv.tr.hp (λb=>p.L b\/Si b) (λb hb=>(cv.L b).2 (hb.imp id (e2 b)));refine⟨dC (λe=>hne e.symm) M,⟨p.β,p.σ,λb=>p.L b\/Si b⟩,Si,rfl,λb=>jQ,λb hb=>cv.sp b (e2 b hb),cv.tr.trans hd,?_,cv.fr.elim (λz=>nomatch z.1) .inr⟩;have r1:=Rel.keep cv.tr.keep _ _ _ _ (λ_ _=>rfl) e3;exact Rel.keep hd.keep _ _ _ _ (λ_ _=>rfl) r1
   ·cases hc
 ·cases hc
theorem Y'(b:bo)(k:Nat)(t:T)(v:V)(M:Mem)(p:Ow)(vs:aM)(q:Ob)(e:bM)(M':Mem)(h:Hp F p M w)(hr:ac p.β M (Imm F p M w) w v vs)(hc:rx b k t v M=some (q,e,M')):go M' k=go M k/\∃p' S,Cv F p M w k q e vs p' M' S:=by
 unfold rx at hc;split at hc
 ·rename_i r ht;cases hc
  cases b with
  |false=>cases ht
  |true=>exact ab2 h hr ht
 ·exact uW k t v M p vs q e M' h hr hc
theorem Tr.take(h:Hp F p M w){i:Nat}{e:O}{l:List e.strip.den}(hk:go M k=some ob)(hg:k<gid)(hx:jB π=some (p0,i))(hq:get p0 ob.o ob.x=some ⟨.sl e,l⟩)(h2:gok π ob.o ob.x)(h4:res w π ob.o [p.β k] none=some (us,pl))(hset:set p0 ob.o ob.x ⟨.sl (.op e),om l i⟩=some ob'):
  ∃p':Ow,∃S:Nat->Prop,p'.β=p.β/\(∀b,p'.L b<->p.L b\/S b)/\(∀b,S b->¬p.L b)/\Tr F p M w [.tk k ob.o ob'.o] p' (Bm.put k ob' M) w/\Rel (Imm F p' (Bm.put k ob' M) w) w e (l.getD i e.dflt) S us:=by
 obtain⟨g1,g2,_,g4⟩:=Ks π ob.o ob.x p0 i _ hx hq;have hi:=g2 h2 e l rfl;obtain⟨us0,pl0,S',e1,e2,e3,e4,e5,e6⟩:=look h hk g1 hq;obtain⟨us1,pl1,Si,r1,r2,r3,r4⟩:=IS hi e3;rw[g4 w e l rfl _ _ _ _ e1,r1]at h4;cases h4;have hl:=bP hk
 have hout:dY p0 ob.o [p.β k] us0=[p.β k]:=by
  cases hh:bV p0 with
  |true=>exact mH p0 _ _ _ hh
  |false=>
   obtain⟨n,k1,k2,k3,k4,k5⟩:=e5 hh;rw[k5 us0 rfl];refine qB (λj u hu=>?_);rw[k3,fE]at hu;split at hu
   ·rw[gn]at hu;exact hu
   ·cases hu
 have ht:=Tr.put (S'':=λc=>S' c/\¬Si c) (L':=λb=>p.L b\/Si b) (us':=us0) (w':=w) h hk e2 e4 e6 hset rfl hout (Chg.refl w _)
  (λhh b off hp cur ty' hb=>by obtain⟨b0,off0,cur0,ty0,k1,k2,k3,k4,k5⟩:=e4 hh;rw[k1]at hp;cases hp;rw[k4]at hb;cases hb;rw[k4,qB (by simpa using k5)]) (λc hc=>.inr hc.1)
  (λc hc=>hc.elim (λhc=>⟨.inl hc,λhs=>(h.lim c hc).2.2 k hl (e2 c hs.1)⟩) λhc=>⟨.inr (r2 c hc),λhs=>hs.2 hc⟩) (λ_=>hg)
  (λhk'=>Rel.keep hk' _ _ _ _ (λ_ _=>rfl) r4)
 exact⟨⟨p.β,_,λb=>p.L b\/Si b⟩,Si,rfl,λb=>jQ,λb hb hL=>(h.lim b hL).2.2 k hl (e2 b (r2 b hb)),Tr.tk h hk rfl ht,Rel.keep ht.keep _ _ _ _ (λ_ _=>rfl) r3⟩
theorem Tr.relP(h:Hp F p M w){n:Ob}(hk:go M k=some ob)(hgo:gok p0 ob.o ob.x)(hq:get p0 ob.o ob.x=some q)(hset:set p0 ob.o ob.x n=some ob')(hsz:n.o.size=q.o.size)(hr:∀(Im S:aT)(vs:aM),Rel Im w q.o q.x S vs->Rel Im w n.o n.x S vs):∃p':Ow,(∀b,p'.L b<->p.L b)/\Tr F p M w [.cut k ob.o ob'.o] p' (Bm.put k ob' M) w:=by
 obtain⟨us0,pl0,S',e1,e2,e3,e4,e5,e6⟩:=look h hk hgo hq;have hl:=bP hk
 have hout:dY p0 ob.o [p.β k] us0=[p.β k]:=by
  cases hh:bV p0 with
  |true=>exact mH p0 _ _ _ hh
  |false=>
   obtain⟨n,k1,k2,k3,k4,k5⟩:=e5 hh;rw[k5 us0 rfl];refine qB (λj u hu=>?_);rw[k3,fE]at hu;split at hu
   ·rw[gn]at hu;exact hu
   ·cases hu
 have ht:=Tr.put (S'':=S') (L':=p.L) (us':=us0) (w':=w) h hk e2 e4 e6 hset hsz hout (Chg.refl w _)
  (λhh b off hp cur ty' hb=>by obtain⟨b0,off0,cur0,ty0,k1,k2,k3,k4,k5⟩:=e4 hh;rw[k1]at hp;cases hp;rw[k4]at hb;cases hb;rw[k4,qB (by simpa using k5)]) (λc hc=>.inr hc)
  (λc hc=>⟨.inl hc,λhs=>(h.lim c hc).2.2 k hl (e2 c hs)⟩) (λhc=>absurd (e2 _ hc.choose_spec.2) ((h.lim _ hc.choose_spec.1).2.2 k hl))
  (λhk'=>hr _ _ _ (Rel.keep hk' _ _ _ _ (λ_ _=>rfl) e3))
 exact⟨⟨p.β,λj=>if j=k thenλc=>(p.σ k c/\¬S' c)\/S' c else p.σ j,p.L⟩,λb=>jQ,ht⟩
def ab:List Prop->Prop
 |[]=>True
 |p::r=>p/\ab r
@[simp] theorem fx:ab []=True:=rfl
abbrev nx:Type:=List Prop
@[simp] theorem dX (p:Prop) (r:nx):ab (p::r)=(p/\ab r):=rfl
theorem fO(a b:nx):ab (ap a b)<->ab a/\ab b:=by
 induction a with
 |nil=>simp[ap]
 |cons p a ih=>simp only[ap,dX,ih,and_assoc]
theorem je(l:nx)(K:Prop):conj l K<->ab l/\K:=by
 induction l with
 |nil=>simp[conj]
 |cons p l ih=>simp only[conj,dX,ih,and_assoc]
theorem x6(g:Prop)(l:nx)(K:Prop):imp g l K<->(g->ab l)/\K:=by
 induction l with
 |nil=>simp[imp]
 |cons p l _=>
  simp only[imp,dX,je];constructor
  ·rintro⟨h1,h3⟩;exact⟨λhg=>⟨(h1 hg).2,(h1 hg).1⟩,h3⟩
  ·rintro⟨h1,h3⟩;exact⟨λhg=>⟨(h1 hg).2,(h1 hg).1⟩,h3⟩
theorem P7(l:nx)(K:Prop):imps l K<->(ab l->K):=by
 induction l with
 |nil=>simp[imps]
 |cons p l ih=>simp only[imps,dX,ih];constructor<;>intro h<;>intros<;>simp_all
@[simp] theorem bJ:aO []=true:=rfl
@[simp] theorem bH (b:bo) (r:gj):aO (b::r)=(b&&aO r):=by cases b<;>rfl
theorem ed{x:Cr}(h:ab (bif c then x else bad).1):c=true:=by
 cases c with
 |true=>rfl
 |false=>exact h.1.elim
theorem dn(h:(ty P t).ok=true):∃i u,P.info? t=some i/\P.underlying t=some u:=by
 unfold ty at h;split at h
 ·rename_i i u hi hu;exact⟨i,u,hi,hu⟩
 ·simp[FY]at h
theorem cV{u:TypeDesc}(hi:P.info? t=some i)(hu:P.underlying t=some u):ty P t=d7 P i u:=by simp only[ty,hi,hu]
theorem B_(h:tyZ P t=some zs):∃i z,P.info? t=some i/\i.zero=some z/\zs=z.cells.toList:=by
 unfold tyZ at h;split at h
 ·rename_i i hi;split at h
  ·rename_i z hz;cases h;exact⟨i,z,hi,hz,rfl⟩
  ·cases h
 ·cases h
theorem Kr(n:Int):inK .i64 n<->-9223372036854775808<=n/\n<=9223372036854775807:=by simp[inK,IntKind.min,IntKind.max,IntKind.signed,IntKind.bits]
theorem KS(n:Int):inK .u8 n<->0<=n/\n<=255:=by simp[inK,IntKind.min,IntKind.max,IntKind.signed,IntKind.bits]
theorem RL(n:Int):inK .u64 n<->0<=n/\n<=18446744073709551615:=by simp[inK,IntKind.min,IntKind.max,IntKind.signed,IntKind.bits]
theorem Rn(n:Int):inK .i32 n<->-2147483648<=n/\n<=2147483647:=by simp[inK,IntKind.min,IntKind.max,IntKind.signed,IntKind.bits]
theorem Sf(n:Int):inK .u32 n<->0<=n/\n<=4294967295:=by simp[inK,IntKind.min,IntKind.max,IntKind.signed,IntKind.bits]
theorem Rj(n:Int):inK .u16 n<->0<=n/\n<=65535:=by simp[inK,IntKind.min,IntKind.max,IntKind.signed,IntKind.bits]
theorem Rm(n:Int):inK .i16 n<->-32768<=n/\n<=32767:=by simp[inK,IntKind.min,IntKind.max,IntKind.signed,IntKind.bits]
theorem SV(n:Int):inK .i8 n<->-128<=n/\n<=127:=by simp[inK,IntKind.min,IntKind.max,IntKind.signed,IntKind.bits]
theorem AT{k:ij}{n:Int}(h:inK k n):k.wrap n=n:=by
 cases k
 all_goals first|rw[Kr]at h|rw[KS]at h|rw[RL]at h|rw[Rn]at h|rw[Sf]at h|rw[Rj]at h|rw[Rm]at h|rw[SV]at h
 all_goals (simp[IntKind.wrap,IntKind.signed,IntKind.bits];omega)
theorem xl(k:ij)(n:Int):inK k (k.wrap n):=by
 cases k
 all_goals first|rw[Kr]|rw[KS]|rw[RL]|rw[Rn]|rw[Sf]|rw[Rj]|rw[Rm]|rw[SV]
 all_goals (simp[IntKind.wrap,IntKind.signed,IntKind.bits];omega)
theorem tC(h:n<=nb):inK .i64 n:=(Kr n).2 ⟨aa,by simp only[nb]at h;omega⟩
theorem nN:(ρ π:bz)->(o:O)->(x:o.strip.den)->get (ap ρ π) o x=(match get ρ o x with|some q=>get π q.o q.x|none=>none)
 |[],π,o,x=>by simp only[ap,get]
 |.l::ρ,π,.p a b,x=>by simp only[ap,get];exact nN ρ π a x.1
 |.r::ρ,π,.p a b,x=>by simp only[ap,get];exact nN ρ π b x.2
 |.l::ρ,π,.fz (.p a b),x=>by simp only[ap,get];exact nN ρ π (.fz a) x.1
 |.r::ρ,π,.fz (.p a b),x=>by simp only[ap,get];exact nN ρ π (.fz b) x.2
 |.ix i::ρ,π,.sl e,x=>by simp only[ap,get];exact nN ρ π e _
 |.de::ρ,π,.pt t,x=>by simp only[ap,get];exact nN ρ π t x
 |.l::_,_,.sl _,_|.l::_,_,.mp _ _,_|.l::_,_,.op _,_|.l::_,_,.pt _,_|.l::_,_,.fz (.int _),_|.l::_,_,.fz .bool,_|.l::_,_,.fz .str,_|.l::_,_,.fz .u,_|.l::_,_,.fz (.sl _),_|.l::_,_,.fz (.pt _),_|.l::_,_,.fz (.fn _ _),_|.l::_,_,.fz (.ifc _ _),_|.l::_,_,.fz (.ib _ _),_|.l::_,_,.fz (.mp _ _),_|.l::_,_,.fz (.op _),_|.l::_,_,.fz (.ns _),_|.l::_,_,.fz (.er _),_|.l::_,_,.fz .any,_|.r::_,_,.sl _,_|.r::_,_,.mp _ _,_|.r::_,_,.op _,_|.r::_,_,.pt _,_|.r::_,_,.fz (.int _),_|.r::_,_,.fz .bool,_|.r::_,_,.fz .str,_|.r::_,_,.fz .u,_|.r::_,_,.fz (.sl _),_|.r::_,_,.fz (.pt _),_|.r::_,_,.fz (.fn _ _),_|.r::_,_,.fz (.ifc _ _),_|.r::_,_,.fz (.ib _ _),_|.r::_,_,.fz (.mp _ _),_|.r::_,_,.fz (.op _),_|.r::_,_,.fz (.ns _),_|.r::_,_,.fz (.er _),_|.r::_,_,.fz .any,_|.ix _::_,_,.fz _,_|.ix _::_,_,.p _ _,_|.ix _::_,_,.pt _,_|.ix _::_,_,.mp _ _,_|.ix _::_,_,.op _,_|.de::_,_,.fz _,_|.de::_,_,.p _ _,_|.de::_,_,.sl _,_|.de::_,_,.mp _ _,_|.de::_,_,.op _,_=>by simp only[ap,get]
theorem oV:(ρ π:bz)->(o:O)->(x:o.strip.den)->(q:Ob)->get ρ o x=some q->gok ρ o x->gok π q.o q.x->gok (ap ρ π) o x
 |[],π,o,x,q,h,_,h2=>by simp only[get,aI]at h;subst h;exact h2
 |.l::ρ,π,.p a b,x,q,h,h1,h2=>by simp only[ap,get,gok]at h h1⊢;exact oV ρ π a x.1 q h h1 h2
 |.r::ρ,π,.p a b,x,q,h,h1,h2=>by simp only[ap,get,gok]at h h1⊢;exact oV ρ π b x.2 q h h1 h2
 |.l::ρ,π,.fz (.p a b),x,q,h,h1,h2=>by simp only[ap,get,gok]at h h1⊢;exact oV ρ π (.fz a) x.1 q h h1 h2
 |.r::ρ,π,.fz (.p a b),x,q,h,h1,h2=>by simp only[ap,get,gok]at h h1⊢;exact oV ρ π (.fz b) x.2 q h h1 h2
 |.ix i::ρ,π,.sl e,x,q,h,h1,h2=>by simp only[ap,get,gok]at h h1⊢;exact⟨h1.1,oV ρ π e _ q h h1.2 h2⟩
 |.de::ρ,π,.pt t,x,q,h,h1,h2=>by simp only[ap,get,gok]at h h1⊢;exact oV ρ π t x q h h1 h2
 |.l::_,_,.sl _,_,_,h,_,_|.l::_,_,.mp _ _,_,_,h,_,_|.l::_,_,.op _,_,_,h,_,_|.l::_,_,.pt _,_,_,h,_,_|.l::_,_,.fz (.int _),_,_,h,_,_|.l::_,_,.fz .bool,_,_,h,_,_|.l::_,_,.fz .str,_,_,h,_,_|.l::_,_,.fz .u,_,_,h,_,_|.l::_,_,.fz (.sl _),_,_,h,_,_|.l::_,_,.fz (.pt _),_,_,h,_,_|.l::_,_,.fz (.fn _ _),_,_,h,_,_|.l::_,_,.fz (.ifc _ _),_,_,h,_,_|.l::_,_,.fz (.ib _ _),_,_,h,_,_|.l::_,_,.fz (.mp _ _),_,_,h,_,_|.l::_,_,.fz (.op _),_,_,h,_,_|.l::_,_,.fz (.ns _),_,_,h,_,_|.l::_,_,.fz (.er _),_,_,h,_,_|.l::_,_,.fz .any,_,_,h,_,_|.r::_,_,.sl _,_,_,h,_,_|.r::_,_,.mp _ _,_,_,h,_,_|.r::_,_,.op _,_,_,h,_,_|.r::_,_,.pt _,_,_,h,_,_|.r::_,_,.fz (.int _),_,_,h,_,_|.r::_,_,.fz .bool,_,_,h,_,_|.r::_,_,.fz .str,_,_,h,_,_|.r::_,_,.fz .u,_,_,h,_,_|.r::_,_,.fz (.sl _),_,_,h,_,_|.r::_,_,.fz (.pt _),_,_,h,_,_|.r::_,_,.fz (.fn _ _),_,_,h,_,_|.r::_,_,.fz (.ifc _ _),_,_,h,_,_|.r::_,_,.fz (.ib _ _),_,_,h,_,_|.r::_,_,.fz (.mp _ _),_,_,h,_,_|.r::_,_,.fz (.op _),_,_,h,_,_|.r::_,_,.fz (.ns _),_,_,h,_,_|.r::_,_,.fz (.er _),_,_,h,_,_|.r::_,_,.fz .any,_,_,h,_,_|.ix _::_,_,.fz _,_,_,h,_,_|.ix _::_,_,.p _ _,_,_,h,_,_|.ix _::_,_,.pt _,_,_,h,_,_|.ix _::_,_,.mp _ _,_,_,h,_,_|.ix _::_,_,.op _,_,_,h,_,_|.de::_,_,.fz _,_,_,h,_,_|.de::_,_,.p _ _,_,_,h,_,_|.de::_,_,.sl _,_,_,h,_,_|.de::_,_,.mp _ _,_,_,h,_,_|.de::_,_,.op _,_,_,h,_,_=>by simp[get]at h
theorem oY(w:aQ):(ρ π:bz)->(o:O)->(x:o.strip.den)->(q:Ob)->(vs:aM)->(ad:Pl)->get ρ o x=some q->res w (ap ρ π) o vs ad=(match res w ρ o vs ad with|some r=>res w π q.o r.1 r.2|none=>none)
 |[],π,o,x,q,vs,ad,h=>by simp only[get,aI]at h;subst h;simp only[ap,res]
 |.l::ρ,π,.p a b,x,q,vs,ad,h=>by simp only[ap,get,res]at h⊢;exact oY w ρ π a x.1 q _ _ h
 |.r::ρ,π,.p a b,x,q,vs,ad,h=>by simp only[ap,get,res]at h⊢;exact oY w ρ π b x.2 q _ _ h
 |.l::ρ,π,.fz (.p a b),x,q,vs,ad,h=>by simp only[ap,get,res]at h⊢;exact oY w ρ π (.fz a) x.1 q _ _ h
 |.r::ρ,π,.fz (.p a b),x,q,vs,ad,h=>by simp only[ap,get,res]at h⊢;exact oY w ρ π (.fz b) x.2 q _ _ h
 |.ix i::ρ,π,.sl e,x,q,vs,ad,h=>by
  simp only[ap,get,res]at h⊢;split
  ·rename_i a n c;exact oY w ρ π e _ q _ _ h
  ·rfl
 |.de::ρ,π,.pt t,x,q,vs,ad,h=>by
  simp only[ap,get,res]at h⊢;split
  ·rename_i a;exact oY w ρ π t x q _ _ h
  ·rfl
 |.l::_,_,.sl _,_,_,_,_,h|.l::_,_,.mp _ _,_,_,_,_,h|.l::_,_,.op _,_,_,_,_,h|.l::_,_,.pt _,_,_,_,_,h|.l::_,_,.fz (.int _),_,_,_,_,h|.l::_,_,.fz .bool,_,_,_,_,h|.l::_,_,.fz .str,_,_,_,_,h|.l::_,_,.fz .u,_,_,_,_,h|.l::_,_,.fz (.sl _),_,_,_,_,h|.l::_,_,.fz (.pt _),_,_,_,_,h|.l::_,_,.fz (.fn _ _),_,_,_,_,h|.l::_,_,.fz (.ifc _ _),_,_,_,_,h|.l::_,_,.fz (.ib _ _),_,_,_,_,h|.l::_,_,.fz (.mp _ _),_,_,_,_,h|.l::_,_,.fz (.op _),_,_,_,_,h|.l::_,_,.fz (.ns _),_,_,_,_,h|.l::_,_,.fz (.er _),_,_,_,_,h|.l::_,_,.fz .any,_,_,_,_,h|.r::_,_,.sl _,_,_,_,_,h|.r::_,_,.mp _ _,_,_,_,_,h|.r::_,_,.op _,_,_,_,_,h|.r::_,_,.pt _,_,_,_,_,h|.r::_,_,.fz (.int _),_,_,_,_,h|.r::_,_,.fz .bool,_,_,_,_,h|.r::_,_,.fz .str,_,_,_,_,h|.r::_,_,.fz .u,_,_,_,_,h|.r::_,_,.fz (.sl _),_,_,_,_,h|.r::_,_,.fz (.pt _),_,_,_,_,h|.r::_,_,.fz (.fn _ _),_,_,_,_,h|.r::_,_,.fz (.ifc _ _),_,_,_,_,h|.r::_,_,.fz (.ib _ _),_,_,_,_,h|.r::_,_,.fz (.mp _ _),_,_,_,_,h|.r::_,_,.fz (.op _),_,_,_,_,h|.r::_,_,.fz (.ns _),_,_,_,_,h|.r::_,_,.fz (.er _),_,_,_,_,h|.r::_,_,.fz .any,_,_,_,_,h|.ix _::_,_,.fz _,_,_,_,_,h|.ix _::_,_,.p _ _,_,_,_,_,h|.ix _::_,_,.pt _,_,_,_,_,h|.ix _::_,_,.mp _ _,_,_,_,_,h|.ix _::_,_,.op _,_,_,_,_,h|.de::_,_,.fz _,_,_,_,_,h|.de::_,_,.p _ _,_,_,_,_,h|.de::_,_,.sl _,_,_,_,_,h|.de::_,_,.mp _ _,_,_,_,_,h|.de::_,_,.op _,_,_,_,_,h=>by simp[get]at h
theorem DK:(ρ π:bz)->(bV ρ||bV π)=true->bV (ap ρ π)=true
 |[],π,h=>by simpa[bV,ap]using h
 |.l::ρ,π,h|.r::ρ,π,h=>by simp only[ap,bV]at h⊢;exact DK ρ π h
 |.ix _::ρ,π,h|.de::ρ,π,h=>by simp only[ap,bV]
theorem xe:(π:bz)->(o:O)->(n:Nat)->gV π o.strip=some n->eB π o=some n/\bV π=false
 |[],o,n,h=>by simp only[gV]at h;simp only[eB,h,bV,and_self]
 |.l::π,.p a b,n,h=>by simp only[gV]at h;obtain⟨h1,h2⟩:=xe π a n h;exact⟨by simpa only [eB]using h1,by simpa only [bV]using h2⟩
 |.r::π,.p a b,n,h=>by
  simp only[gV]at h;split at h
  ·rename_i m hm;obtain⟨h1,h2⟩:=xe π b m hm;exact⟨by simp only[eB,h1];exact h,by simpa only [bV]using h2⟩
  ·cases h
 |.l::π,.fz (.p a b),n,h=>by simp only[gV]at h;obtain⟨h1,h2⟩:=xe π (.fz a) n h;exact⟨by simpa only [eB]using h1,by simpa only [bV]using h2⟩
 |.r::π,.fz (.p a b),n,h=>by
  simp only[gV]at h;split at h
  ·rename_i m hm;obtain⟨h1,h2⟩:=xe π (.fz b) m hm;exact⟨by simp only[eB,h1];exact h,by simpa only [bV]using h2⟩
  ·cases h
 |.l::_,.sl _,_,h|.l::_,.mp _ _,_,h|.l::_,.op _,_,h|.l::_,.pt _,_,h|.l::_,.fz (.int _),_,h|.l::_,.fz .bool,_,h|.l::_,.fz .str,_,h|.l::_,.fz .u,_,h|.l::_,.fz (.sl _),_,h|.l::_,.fz (.pt _),_,h|.l::_,.fz (.fn _ _),_,h|.l::_,.fz (.ifc _ _),_,h|.l::_,.fz (.ib _ _),_,h|.l::_,.fz (.mp _ _),_,h|.l::_,.fz (.op _),_,h|.l::_,.fz (.ns _),_,h|.l::_,.fz (.er _),_,h|.l::_,.fz .any,_,h|.r::_,.sl _,_,h|.r::_,.mp _ _,_,h|.r::_,.op _,_,h|.r::_,.pt _,_,h|.r::_,.fz (.int _),_,h|.r::_,.fz .bool,_,h|.r::_,.fz .str,_,h|.r::_,.fz .u,_,h|.r::_,.fz (.sl _),_,h|.r::_,.fz (.pt _),_,h|.r::_,.fz (.fn _ _),_,h|.r::_,.fz (.ifc _ _),_,h|.r::_,.fz (.ib _ _),_,h|.r::_,.fz (.mp _ _),_,h|.r::_,.fz (.op _),_,h|.r::_,.fz (.ns _),_,h|.r::_,.fz (.er _),_,h|.r::_,.fz .any,_,h|.ix _::_,_,_,h|.de::_,_,_,h=>by simp[gV]at h
theorem Kx{Im:aT}{w:aQ}:(π:bz)->(t:T)->(x:t.den)->(n:Nat)->(q:(t:T)×t.den)->(vs:aM)->gV π t=some n->vH π t x=some q->ai Im w t x vs->
  ∃va us vb,vs=va++us++vb/\va.length=n/\ai Im w q.1 q.2 us
 |[],t,x,n,q,vs,h,hq,r=>by simp only[gV,aI]at h;simp only[vH,aI]at hq;subst h;subst hq;exact⟨[],vs,[],ak,rfl,r⟩
 |.l::π,.p a b,x,n,q,vs,h,hq,r=>by simp only[gV]at h;simp only[vH]at hq;simp only[ai]at r;obtain⟨va,vb,rfl,ha,hb⟩:=r;obtain⟨v1,us,v2,rfl,k2,k3⟩:=Kx π a x.1 n q va h hq ha;exact⟨v1,us,v2++vb,ak,k2,k3⟩
 |.r::π,.p a b,x,n,q,vs,h,hq,r=>by
  simp only[gV]at h;simp only[vH]at hq;simp only[ai]at r;obtain⟨va,vb,rfl,ha,hb⟩:=r;split at h
  ·rename_i m hm;simp only[aI]at h;obtain⟨v1,us,v2,rfl,k2,k3⟩:=Kx π b x.2 m q vb hm hq hb;exact⟨va++v1,us,v2,ak,by rw[bn,ai.len a _ _ ha,k2,←h];simp,k3⟩
  ·cases h
 |.l::_,.int _,_,_,_,_,h,_,_|.l::_,.bool,_,_,_,_,h,_,_|.l::_,.str,_,_,_,_,h,_,_|.l::_,.u,_,_,_,_,h,_,_|.l::_,.sl _,_,_,_,_,h,_,_|.l::_,.pt _,_,_,_,_,h,_,_|.l::_,.fn _ _,_,_,_,_,h,_,_|.l::_,.ifc _ _,_,_,_,_,h,_,_|.l::_,.mp _ _,_,_,_,_,h,_,_|.l::_,.op _,_,_,_,_,h,_,_|.l::_,.any,_,_,_,_,h,_,_|.r::_,.int _,_,_,_,_,h,_,_|.r::_,.bool,_,_,_,_,h,_,_|.r::_,.str,_,_,_,_,h,_,_|.r::_,.u,_,_,_,_,h,_,_|.r::_,.sl _,_,_,_,_,h,_,_|.r::_,.pt _,_,_,_,_,h,_,_|.r::_,.fn _ _,_,_,_,_,h,_,_|.r::_,.ifc _ _,_,_,_,_,h,_,_|.r::_,.mp _ _,_,_,_,_,h,_,_|.r::_,.op _,_,_,_,_,h,_,_|.r::_,.any,_,_,_,_,h,_,_|.ix _::_,_,_,_,_,_,h,_,_|.de::_,_,_,_,_,_,h,_,_=>by simp[gV]at h
theorem iC.sub{o:Nat}(h:iC w b o (va++us++vb)):iC w b (o+va.length) us:=λj u hu=>by
 have:=h (va.length+j) u (by rw[dk,g9 aa,Cx,fT (gp.1 hu).1];exact hu)
 rwa [show o+(va.length+j)=o+va.length+j by omega]at this
theorem OR(h:v.oneCell'=true):v.cells=#[v]:=by cases v<;>simp[Value.oneCell']at h<;>rfl
theorem nG(h:ez M k π=some q):∃ob,go M k=some ob/\get π ob.o ob.x=some q:=by
 unfold ez at h;split at h
 ·rename_i ob hob;exact⟨ob,hob,h⟩
 ·cases h
theorem Ref.look(hp:Hp F p M w)(h:Ref p.β M w k π vs)(hq:ez M k π=some q):∃S,Rel (Imm F p M w) w q.o q.x S vs:=by obtain⟨ob,h1,h2⟩:=nG hq;obtain⟨ob',pl,k1,k2,k3,k4⟩:=h;rw[h1]at k1;cases k1;obtain⟨us,pl',S',e1,e2,e3,_⟩:=Bm.look hp h1 k2 h2;rw[e1]at k4;cases k4;exact⟨S',e3⟩
theorem Adr.look(hp:Hp F p M w)(h:Adr p.β M w k π v)(hq:ez M k π=some q):
  ∃S us b off cur ty',v=.pointer (some ⟨b,off,none⟩)/\Rel (Imm F p M w) w q.o q.x S us/\w.heap[b]? = some (.cells cur ty' (0,0))/\(∀(j:Nat)(u:bw),us[j]? = some u->cur[off+j]? = some u)/\Ref p.β M w k π us:=by
 obtain⟨ob,h1,h2⟩:=nG hq;obtain⟨ob',us0,b0,off0,k1,k2,k3,k4,k5,k6⟩:=h;rw[h1]at k1;cases k1;obtain⟨us,pl',S',e1,e2,e3,e4,_⟩:=Bm.look hp h1 k2 h2;rw[e1]at k5;simp only[aI,bE]at k5;obtain⟨rfl,rfl⟩:=k5;obtain⟨b,off,cur,ty',g1,g2,g3,g4,g5⟩:=e4 k4;simp only[aI,bE]at g1;obtain⟨rfl,rfl⟩:=g1;exact⟨S',us,b0,off0,cur,ty',k6,e3,g4,g5,ob,_,h1,k2,⟨q,h2⟩,e1⟩
theorem Tt(hp:Hp F p M w)(h:Ref p.β M w k π vs)(hq:ez M k π=some q):ac p.β M (Imm F p M w) w (toV k π q.o q.x) vs:=by
 obtain⟨S,hr⟩:=h.look hp hq;obtain⟨o,x⟩:=q
 cases o with
 |fz t=>
  have:toV k π (.fz t) x=fy t x:=by cases π<;>rfl
  simp only[this];simp only[Rel]at hr;exact ko t x vs hr
 |p a b=>
  have:toV k π (.p a b) x=.ref k π:=by cases π<;>rfl
  simp only[this,ac];exact h
 |sl e=>
  have:toV k π (.sl e) x=.ref k π:=by cases π<;>rfl
  simp only[this,ac];exact h
 |mp e e'=>
  have:toV k π (.mp e e') x=.ref k π:=by cases π<;>rfl
  simp only[this,ac];exact h
 |op e=>
  have:toV k π (.op e) x=.ref k π:=by cases π<;>rfl
  simp only[this,ac];exact h
 |pt o=>
  have:toV k π (.pt o) x=.ad k (ap π [.de]):=by cases π<;>rfl
  simp only[this,ac];obtain⟨ob,h1,h2⟩:=nG hq;obtain⟨ob',pl,k1,k2,k3,k4⟩:=h;rw[h1]at k1;cases k1;simp only[Rel]at hr;obtain⟨b,us,ty',S',r1,r2,r3,r4,r5⟩:=hr;refine⟨_,r1,ob,cellsOf w b 0 o.size,b,0,h1,oV π [.de] _ _ _ h2 k2 (by simp only[gok]),⟨⟨o,x⟩,by rw[nN,h2];simp only[get]⟩,DK π [.de] (by simp[bV]),?_,rfl⟩;rw[oY w π [.de] ob.o ob.x _ _ _ h2,k4,r1];simp only[res]
theorem Ref.sub(hp:Hp F p M w)(h:Ref p.β M w k ρ vs)(hq:ez M k ρ=some q)(ho:gV π q.o.strip=some n):
  (∃q',ez M k (ap ρ π)=some q')/\∃va us vb,vs=va++us++vb/\va.length=n/\Ref p.β M w k (ap ρ π) us:=by
 obtain⟨ob,h1,h2⟩:=nG hq;obtain⟨ob',pl,k1,k2,k3,k4⟩:=h;rw[h1]at k1;cases k1;obtain⟨us,pl',S',e1,e2,e3,_⟩:=Bm.look hp h1 k2 h2;rw[e1]at k4;cases k4;obtain⟨o1,o2⟩:=xe π q.o n ho;obtain⟨⟨q',g1⟩,g2,us',g3⟩:=kr w π q.o n o1 q.x vs pl;obtain⟨us2,pl2,S2,f1,f2,f3,f4,f5,f6⟩:=pm π q.o q.x S' vs none q' e3 g2 g1 (λb off e=>by cases e);obtain⟨n',b1,b2,b3,b4,b5⟩:=f5 o2;rw[o1]at b1;cases b1
 have hres:∀ad,res w π q.o vs ad=some (us2,ad.plus n):=λad=>by
  obtain⟨_,_,us3,g4⟩:=kr w π q.o n o1 q.x vs ad;obtain⟨us4,pl4,S4,i1,i2,i3,i4,i5,i6⟩:=pm π q.o q.x S' vs none q' e3 g2 g1 (λb off e=>by cases e)
  have hh:∀(π:bz)(o:O)(vs:aM)(ad ad':Pl)(u u':aM)(pl pl':Pl),bV π=false->res w π o vs ad=some (u,pl)->res w π o vs ad'=some (u',pl')->u=u':=by
   intro π
   induction π with
   |nil=>intro o vs ad ad' u u' pl pl' _ r1 r2;simp only[res,aI,bE]at r1 r2;rw[←r1.1,←r2.1]
   |cons s π ih=>
    intro o vs ad ad' u u' pl pl' hh r1 r2
    cases s with
    |l=>
     simp only[bV]at hh
     cases o with
     |p a b=>simp only[res]at r1 r2;exact ih _ _ _ _ _ _ _ _ hh r1 r2
     |fz t=>cases t<;>simp only[res]at r1 r2<;>first|exact ih _ _ _ _ _ _ _ _ hh r1 r2|cases r1
     |sl e|pt e|mp _ _|op _=>simp only[res]at r1;cases r1
    |r=>
     simp only[bV]at hh
     cases o with
     |p a b=>simp only[res]at r1 r2;exact ih _ _ _ _ _ _ _ _ hh r1 r2
     |fz t=>cases t<;>simp only[res]at r1 r2<;>first|exact ih _ _ _ _ _ _ _ _ hh r1 r2|cases r1
     |sl e|pt e|mp _ _|op _=>simp only[res]at r1;cases r1
    |de|ix i=>simp[bV]at hh
  rw[g4,hh π q.o vs ad none us3 us2 _ _ o2 g4 f1]
 refine⟨⟨q',?_⟩,vs.take n,us2,vs.drop (n+us2.length),?_,by rw[dW];omega,ob,pl.plus n,h1,oV ρ π _ _ _ h2 k2 g2,⟨q',by rw[nN,h2];exact g1⟩,?_⟩
 ·unfold ez;rw[h1];simp only;rw[nN,h2];exact g1
 ·conv=>lhs;rw[←jb n vs]
  rw[dk];congr 1
  conv=>lhs;rw[←jb us2.length (vs.drop n)]
  rw[←b3,wn]
 ·rw[oY w ρ π ob.o ob.x _ _ _ h2,e1];exact hres pl
theorem Adr.sub(hp:Hp F p M w)(h:Adr p.β M w k ρ v)(hq:ez M k ρ=some q)(ho:gV π q.o.strip=some n):
  ∃b off,v=.pointer (some ⟨b,off,none⟩)/\Adr p.β M w k (ap ρ π) (.pointer (some ⟨b,off+n,none⟩)):=by
 obtain⟨ob,h1,h2⟩:=nG hq;obtain⟨ob',us0,b0,off0,k1,k2,k3,k4,k5,k6⟩:=h;rw[h1]at k1;cases k1;obtain⟨o1,o2⟩:=xe π q.o n ho;obtain⟨⟨q',g1⟩,g2,us',g3⟩:=kr w π q.o n o1 q.x us0 (some (b0,off0));refine⟨b0,off0,k6,ob,us',b0,off0+n,h1,oV ρ π _ _ _ h2 k2 g2,⟨q',by rw[nN,h2];exact g1⟩,DK ρ π (by rw[k4];rfl),?_,rfl⟩;rw[oY w ρ π ob.o ob.x _ _ _ h2,k5];exact g3
theorem ac.one(hp:Hp F p M w):(v:V)->(vs:aM)->ac p.β M (Imm F p M w) w v vs->∀u∈vs,u.oneCell'=true
 |.p a b,vs,r=>by
  simp only[ac]at r;obtain⟨va,vb,rfl,ha,hb⟩:=r;intro u hu;rcases eS.1 hu with hu|hu
  ·exact ac.one hp a va ha u hu
  ·exact ac.one hp b vb hb u hu
 |.u,vs,r=>by simp only[ac]at r;subst r;intro u hu;cases hu
 |.ref k π,vs,r=>by simp only[ac]at r;exact r.one hp
 |.ad k π,vs,r=>by simp only[ac]at r;obtain⟨v,rfl,h⟩:=r;intro u hu;rw[cA.1 hu];exact h.one
 |.d t x,vs,r=>by simp only[ac]at r;exact ai.one t x vs r
 |.nl,vs,r=>by simp only[ac]at r;obtain⟨oa,rfl⟩:=r;intro u hu;rw[cA.1 hu];rfl
 |.np,vs,r=>by simp only[ac]at r;subst r;intro u hu;rw[cA.1 hu];rfl
 |.any,vs,r=>by simpa only [ac]using r
 |.fn f v,vs,r=>by simp only[ac]at r;obtain⟨us,rfl,_⟩:=r;intro u hu;rw[cA.1 hu];rfl
 |.ag _,vs,r|.tup _,vs,r|.gd _ _ _ _,vs,r=>by simp only[ac]at r
 |.ifc t v,vs,r=>by simp only[ac]at r;obtain⟨u,rfl,_⟩:=r;intro u hu;rw[cA.1 hu];rfl
 |.bx v,vs,r=>by simp only[ac]at r;obtain⟨b,o,us,rfl,_⟩:=r;intro u hu;rw[cA.1 hu];rfl
theorem xm(hp:Hp F p M w){v:V}(h:ae p.β M (Imm F p M w) w v u)(hc:fP v=true):ac p.β M (Imm F p M w) w v.cells u.cells.toList:=by
 have key:ac p.β M (Imm F p M w) w v [u]->v.cells=v->ac p.β M (Imm F p M w) w v.cells u.cells.toList:=λr e=>by rw[OR (ac.one hp v _ r u ak),e];exact r
 cases v with
 |any|tup _|gd _ _ _ _=>cases hc
 |ifc _ _=>exact key (by simpa only [ae]using h) rfl
 |ag y=>simp only[ae]at h;obtain⟨vs,rfl,h⟩:=h;simpa[V.cells,Value.cells]using h
 |p a b|u|ref k π|ad k π|d t y|nl|np|fn f y|bx y=>exact key (by simpa only [ae]using h) rfl
theorem q_{a b:eP}(h:L5 a b=some n):∃x y,a=some x/\b=some y/\n=x+y:=by cases a<;>cases b<;>simp[L5]at h;exact⟨_,_,rfl,rfl,h.symm⟩
theorem nK(hp:Hp F p M w):(v:V)->(vs:aM)->(n:Nat)->ac p.β M (Imm F p M w) w v vs->v.size M=some n->vs.length=n
 |.p a b,vs,n,r,h=>by simp only[ac]at r;obtain⟨va,vb,rfl,ha,hb⟩:=r;simp only[V.size]at h;obtain⟨x,y,hx,hy,rfl⟩:=q_ h;rw[bn,nK hp a va x ha hx,nK hp b vb y hb hy]
 |.u,vs,n,r,h=>by simp only[ac]at r;simp only[V.size,aI]at h;subst r;subst h;rfl
 |.ref k π,vs,n,r,h=>by
  simp only[ac]at r;simp only[V.size]at h;split at h
  ·rename_i q hq;cases h;obtain⟨S,hr⟩:=r.look hp hq;exact Rel.len _ _ _ _ hr
  ·cases h
 |.ad k π,vs,n,r,h=>by simp only[ac]at r;obtain⟨v,rfl,_⟩:=r;simp only[V.size,aI]at h;subst h;rfl
 |.d t x,vs,n,r,h=>by simp only[ac]at r;simp only[V.size,aI]at h;subst h;exact ai.len t x vs r
 |.nl,vs,n,r,h=>by simp only[ac]at r;simp only[V.size,aI]at h;obtain⟨oa,rfl⟩:=r;subst h;rfl
 |.np,vs,n,r,h=>by simp only[ac]at r;simp only[V.size,aI]at h;subst r;subst h;rfl
 |.fn f v,vs,n,r,h=>by simp only[ac]at r;obtain⟨us,rfl,_⟩:=r;simp only[V.size,aI]at h;subst h;rfl
 |.any,vs,n,r,h|.ag _,vs,n,r,h|.tup _,vs,n,r,h|.gd _ _ _ _,vs,n,r,h=>by simp[V.size]at h
 |.ifc t v,vs,n,r,h=>by simp only[ac]at r;obtain⟨u,rfl,_⟩:=r;simp only[V.size,aI]at h;subst h;rfl
 |.bx v,vs,n,r,h=>by simp only[ac]at r;obtain⟨b,o,us,rfl,_⟩:=r;simp only[V.size,aI]at h;subst h;rfl
theorem mF{v:V}(h:eK M v n=true):v.size M=some n:=by
 unfold eK at h;split at h
 ·rename_i m hm;simp only[dL,bN]at h;rw[hm,h]
 ·cases h
theorem Ax{v:V}(h:v.cells.size M=some n):fP v=true:=by cases v<;>first|rfl|simp[V.cells,V.size]at h
theorem EH(hp:Hp F p M w):(π:bz)->(v:V)->(vs:aM)->(n:Nat)->(v':V)->ac p.β M (Imm F p M w) w v vs->dM M π v=some (n,v')->
  ∃va us vb,vs=va++us++vb/\va.length=n/\ac p.β M (Imm F p M w) w v' us
 |[],v,vs,n,v',r,h=>by
  have:dM M [] v=some (0,v):=by cases v<;>rfl
  rw[this]at h;cases h;exact⟨[],vs,[],ak,rfl,r⟩
 |.l::π,.p a b,vs,n,v',r,h=>by simp only[dM]at h;simp only[ac]at r;obtain⟨va,vb,rfl,ha,hb⟩:=r;obtain⟨v1,us,v2,rfl,k2,k3⟩:=EH hp π a va n v' ha h;exact⟨v1,us,v2++vb,ak,k2,k3⟩
 |.r::π,.p a b,vs,n,v',r,h=>by
  simp only[dM]at h;simp only[ac]at r;obtain⟨va,vb,rfl,ha,hb⟩:=r;split at h
  ·rename_i m n' v1 hm hs;cases h;obtain⟨v1,us,v2,rfl,k2,k3⟩:=EH hp π b vb n' v' hb hs;exact⟨va++v1,us,v2,ak,by rw[bn,nK hp a va m ha hm,k2];simp,k3⟩
  ·cases h
 |s::π,.ref k ρ,vs,n,v',r,h=>by
  have:dM M (s::π) (.ref k ρ)=(match ez M k ρ,ez M k (ap ρ (s::π))with
   |some q,some q'=>(match gV (s::π) q.o.strip with|some n=>some (n,toV k (ap ρ (s::π)) q'.o q'.x)|none=>none)
   |_,_=>none):=by cases s<;>rfl
  rw[this]at h;simp only[ac]at r;split at h
  ·rename_i q q' hq hq';split at h
   ·rename_i m hm;cases h;obtain⟨_,va,us,vb,h1,h2,h3⟩:=r.sub hp hq hm;exact⟨va,us,vb,h1,h2,Tt hp h3 hq'⟩
   ·cases h
  ·cases h
 |.ix _::_,.p _ _,_,_,_,_,h|.de::_,.p _ _,_,_,_,_,h=>by simp[dM]at h
 |s::_,.any,_,_,_,_,h|s::_,.nl,_,_,_,_,h|s::_,.np,_,_,_,_,h|s::_,.u,_,_,_,_,h|s::_,.d _ _,_,_,_,_,h|s::_,.ad _ _,_,_,_,_,h|s::_,.ag _,_,_,_,_,h|s::_,.tup _,_,_,_,_,h|s::_,.gd _ _ _ _,_,_,_,_,h|s::_,.fn _ _,_,_,_,_,h|s::_,.ifc _ _,_,_,_,_,h|s::_,.bx _,_,_,_,_,h=>by cases s<;>simp[dM]at h
def val(agg:bo)(vs:aM):Value:=bif agg then .agg vs.toArray else vs.headD undef
theorem Ba{v:V}(r:ac β M Im w v vs)(h:agg=false->vs.length=1):ae β M Im w (kI agg v) (val agg vs):=by
 cases agg with
 |true=>simp only[kI,val,aD,ae];exact⟨vs,rfl,r⟩
 |false=>obtain⟨u,rfl⟩:=wo.1 (h rfl);simp only[kI,val,bc,yZ];exact my r
theorem bp{t:T}{x:t.den}:ae β M Im w (.d t x) v<->ai Im w t x [v]:=by simp only[ae,ac]
theorem dR{k:ij}{n:Int}:ai Im w (.int k) n [v]<->v=.int k n/\inK k n:=by simp[ai]
theorem gY{b:bo}:ai Im w .bool b [v]<->v=.bool b:=by simp[ai]
theorem AC:ai Im w .str s [v]<->v=.string s/\s.size<=nb:=by simp[ai]
theorem B4(k:ij)(n:Int)(hv:ab (ar k n).1):ae β M Im w (ar k n).2 (.int k (k.wrap n)):=by
 cases k
 case i64=>simp only[ar,dX,fx,az]at hv;simp only[ar,bp,dR,AT hv,aL];exact hv
 all_goals
  simp only[ar,bp,dR,aL];exact xl _ _
theorem aaf(op:l9)(k:ij)(a b:Int)(t:bF)(x y:dJ)(hv:ab (ma op k a b).1):
  ∃r,(do eqGuard op t x y (.int k a) (.int k b);binOp op t (.int k a) (.int k b):Sem Value).run P w=.ok r w/\ae β M Im w (ma op k a b).2 r:=by
 cases op
 case add=>exact⟨.int k (k.wrap (a+b)),by simp[eqGuard,binOp,Op.intArith],B4 k _ hv⟩
 case sub=>exact⟨.int k (k.wrap (a-b)),by simp[eqGuard,binOp,Op.intArith],B4 k _ hv⟩
 case mul=>exact⟨.int k (k.wrap (a*b)),by simp[eqGuard,binOp,Op.intArith],B4 k _ hv⟩
 case quo=>simp only[ma,dX]at hv⊢;exact⟨.int k (k.wrap (a.tdiv b)),by simp[eqGuard,binOp,Op.intDiv,hv.1],B4 k _ hv.2⟩
 case rem=>simp only[ma,dX]at hv⊢;exact⟨.int k (a.tmod b),by simp[eqGuard,binOp,Op.intDiv,hv.1],by simp only[bp,dR,aL];exact hv.2.1⟩
 case eql=>exact⟨.bool (a==b),by simp[eqGuard,binOp,Op.intCmp],by simp only[ma,bB,bp,gY]⟩
 case neq=>exact⟨.bool (a != b),by simp[eqGuard,binOp,Op.intCmp],by simp only[ma,bB,bp,gY]⟩
 case lss=>exact⟨.bool (decide (a<b)),by simp[eqGuard,binOp,Op.intCmp],by simp only[ma,bB,bp,gY]⟩
 case leq=>exact⟨.bool (decide (a<=b)),by simp[eqGuard,binOp,Op.intCmp],by simp only[ma,bB,bp,gY]⟩
 case gtr=>exact⟨.bool (decide (b<a)),by simp[eqGuard,binOp,Op.intCmp],by simp only[ma,bB,bp,gY]⟩
 case geq=>exact⟨.bool (decide (b<=a)),by simp[eqGuard,binOp,Op.intCmp],by simp only[ma,bB,bp,gY]⟩
 case and=>exact⟨.int k (tK k a b),by simp[eqGuard,binOp,Op.intBits,tK],by simp only[ma,bB,bp,dR,aL];exact xl _ _⟩
 case shr=>
  simp only[ma,dX]at hv⊢;refine⟨.int k (pu k a b),?_,by simp only[bp,dR,aL];exact hv.2.1⟩;have h0:¬b<0:=aa
  simp[eqGuard,binOp,Op.shift,pu,h0]
 all_goals exact hv.1.elim
theorem y_(op:l9)(a b:ByteArray)(t:bF)(x y:dJ)(hv:ab (Lh op a b).1):
  ∃r,(do eqGuard op t x y (.string a) (.string b);binOp op t (.string a) (.string b):Sem Value).run P w=.ok r w/\ae β M Im w (Lh op a b).2 r:=by
 have h:False/\True:=hv;exact h.1.elim
theorem M_(hB:TabOk P B)(op:l9)(t:bF)(x y:dJ)(ax ay:V)(u v:bw)(h:ae β M Im w ax u)(h':ae β M Im w ay v)(hv:ab (F1 (B.τ t) op ax ay).1):
  ∃r,(do eqGuard op t x y u v;binOp op t u v:Sem Value).run P w=.ok r w/\ae β M Im w (F1 (B.τ t) op ax ay).2 r:=by
 unfold F1 at hv⊢;split at hv
 ·rename_i k a k' b;simp only[bp,dR]at h h';obtain⟨rfl,_⟩:=h;obtain⟨rfl,_⟩:=h';have hk:=ed hv;simp only[hk,aD]at hv⊢;obtain rfl:=nI hk;exact aaf op _ _ _ t x y hv
 ·rename_i a b;simp only[bp,gY]at h h';subst h;subst h';have hk:=ed hv;simp only[hk,aD]at hv⊢;simp only[bH,bJ,bC,ao]at hk;rw[←hB.τ t hk.1]at hk;obtain⟨i,d,hi,hd⟩:=dn hk.1;rw[cV hi hd]at hk;have h2:=hk.2;simp only[d7]at h2;cases d<;>simp at h2;cases op
  case eql=>exact⟨.bool (a==b),by simp[eqGuard,run_eql_bool w t a b hd],by simp only[bB,bp,gY]⟩
  case neq=>exact⟨.bool (a != b),by simp[eqGuard,binOp,run_equal_bool w t a b hd];cases a<;>cases b<;>rfl,by simp only[bB,bp,gY]⟩
  all_goals exact hv.1.elim
 ·simp only[bp,AC]at h h';obtain⟨rfl,_⟩:=h;obtain⟨rfl,_⟩:=h';exact y_ op _ _ t x y hv
 ·exact hv.1.elim
theorem RD(g:bo)(ts:Array TypeId)(t:bF)(ax ay:V)(u v:bw)(h:ae β M Im w ax u)(h':ae β M Im w ay v)(hv:ab (BQ g ax ay).1):
  ∃r,(bif g then Builtin.max_ ts t #[u,v]else Builtin.min_ ts t #[u,v]).run P w=.ok r w/\ae β M Im w (BQ g ax ay).2 r:=by
 unfold BQ at hv⊢;split at hv
 ·rename_i k a k' b;simp only[bp,dR]at h h';obtain⟨rfl,ha⟩:=h;obtain⟨rfl,hb⟩:=h';have hk:=ed hv;simp only[hk,aD]at hv⊢;obtain rfl:=nI hk
  cases g with
  |true=>refine⟨.int k (mxR a b),?_,by simp only[bB,bp,dR,aD];refine⟨trivial,?_⟩;unfold mxR;split<;>assumption⟩;simp only[aD,mxR];exact run_max_int2 _ _ _ _ _ _ _
  |false=>refine⟨.int k (mnR a b),?_,by simp only[bB,bp,dR,bc];refine⟨trivial,?_⟩;unfold mnR;split<;>assumption⟩;simp only[bc,mnR];exact run_min_int2 _ _ _ _ _ _ _
 ·exact hv.1.elim
theorem eqF(w:aQ)(P:cX)(d:Nat):∀(n:Nat)(a b:V)(vs vs':aM)(r:bo)(pre pre':aM)(fs:List Field),mK n a b=some r->ac β M Im w0 a vs->ac β M Im w0 b vs'->
  nS P fs pre.length=true->fs.length=n->pre'.length=pre.length->(Op.eqFields (d+1) (pre++vs).toArray (pre'++vs').toArray fs).run P w=.ok r w:=by
 have one : ∀ (k k' : IntKind) (x y : Int) (vs vs' pre pre' : List Value) (f : Field), (bif aO [neg (f.name == "_"), Nat.beq f.offset pre.length, pk (P.underlying f.type)] then True else False) -> pre'.length = pre.length ->
   f.name ≠ "_" /\ (part f.type (pre ++ .int k x :: vs).toArray f.offset).run P w = .ok (.int k x) w /\ (part f.type (pre' ++ .int k' y :: vs').toArray f.offset).run P w = .ok (.int k' y) w /\ (Op.equalIn (d + 1) f.type (.int k x) (.int k y)).run P w = .ok (x == y) w := by
  intro k k' x y vs vs' pre pre' f h hl
  cases hb : aO [neg (f.name == "_"), Nat.beq f.offset pre.length, pk (P.underlying f.type)] with
  |false=>rw[hb]at h;exact h.elim
  |true=>
   simp only[bH,bJ,bC,ao,gu,gU]at hb;obtain⟨h1,h2,h3⟩:=hb;have h2:=cR h2
   cases hu:P.underlying f.type with
   |none=>rw[hu]at h3;cases h3
   |some u=>
    rw[hu]at h3;cases u<;>simp only[pk,d4]at h3;have hp:P.plainKey f.type=true:=by simp[Program.plainKey,hu]
    exact⟨by simpa using h1,run_part_plain w hp (by rw[h2];simp),run_part_plain w hp (by rw[h2,←hl];simp),run_equalIn_int w d f.type k _ x y hu⟩
 intro n
 induction n with
 |zero=>intro a b vs vs' r pre pre' fs h;cases a<;>cases b<;>simp[mK]at h
 |succ n ih=>
  intro a b vs vs' r pre pre' fs h ha hb hf hl hp;obtain⟨f,fs,rfl⟩:∃f r,fs=f::r:=by cases fs with|nil=>cases hl|cons f r=>exact⟨f,r,rfl⟩
  simp only[nS]at hf
  have hc : (bif aO [neg (f.name == "_"), Nat.beq f.offset pre.length, pk (P.underlying f.type)] then True else False) /\ nS P fs (Nat.succ pre.length) = true := by
   cases hb : aO [neg (f.name == "_"), Nat.beq f.offset pre.length, pk (P.underlying f.type)] with
   |false=>rw[hb]at hf;cases hf
   |true=>rw[hb]at hf;exact⟨trivial,hf⟩
  cases n with
  |zero=>
   unfold mK at h;split at h
   ·rename_i k x k' y he;simp only[ac,ai]at ha hb;obtain⟨rfl,_⟩:=ha;obtain⟨rfl,_⟩:=hb
    cases hk:jp k k' with
    |false=>rw[hk]at h;cases h
    |true=>
     rw[hk]at h;cases h;have:=nI hk;subst this;have hfs:fs=[]:=by cases fs with|nil=>rfl|cons _ _=>simp at hl
     subst hfs;obtain⟨o1,o2,o3,o4⟩:=one k k x y [] [] pre pre' f hc.1 hp;simp only[Op.eqFields,am o1,fW,o2,il,o3,o4,ne_eq,not_false_eq_true,dA];cases x==y<;>simp
   ·rename_i n' _ _ _ _ _ _ he;omega
   ·cases h
  |succ n=>
   unfold mK at h;split at h
   ·rename_i he;omega
   ·rename_i n' k x a' k' y b' he;have:n'=n:=aa
    subst this
    cases hr:mK (n'+1) a' b' with
    |none=>rw[hr]at h;cases h
    |some r'=>
     rw[hr]at h
     cases hk:jp k k' with
     |false=>rw[hk]at h;cases h
     |true=>
      rw[hk]at h;cases h;have:=nI hk;subst this;simp only[ac,ai]at ha hb;obtain⟨va,va',rfl,⟨rfl,_⟩,ha'⟩:=ha;obtain⟨vb,vb',rfl,⟨rfl,_⟩,hb'⟩:=hb;obtain⟨o1,o2,o3,o4⟩:=one k k x y va' vb' pre pre' f hc.1 hp;have hi:=ih a' b' va' vb' r' (pre++[.int k x]) (pre'++[.int k y]) fs hr ha' hb' (by simpa using hc.2) (by simpa using hl) (by simpa using hp);simp only[dk,List.singleton_append]at hi⊢;simp only[Op.eqFields,am o1,fW,o2,il,o3,o4,ne_eq,not_false_eq_true,dA];cases x==y
      ·simp
      ·simp;exact hi
   ·cases h
def vn(e : TypeId)(i : Nat): Field := { (default : Field) with name := "a", type := e, offset := i }
theorem NK(w:aQ)(P:cX)(d:Nat)(e:bF)(xs ys:nz):∀is:List Nat,(Op.eqItems d e 1 xs ys is).run P w=(Op.eqFields d xs ys (is.map (vn e))).run P w
 |[]=>rfl
 |i::is=>by
  have h : (vn e i).name ≠ "_" := by simp [vn]
  simp only[iN,Op.eqItems,Op.eqFields,am h,Nat.mul_one];simp only[vn,fW];congr 1;funext x w1;congr 1;funext y w2;congr 1;funext r w3;cases r
  ·rfl
  ·exact NK w3 P d e xs ys is
theorem t_(hB:TabOk P B)(op:l9)(t:bF)(x y:dJ)(ax ay:V)(u v:bw)(h:ae β M Im w ax u)(h':ae β M Im w ay v)(hv:ab (Fa B t op ax ay).1):
  ∃r,(do eqGuard op t x y u v;binOp op t u v:Sem Value).run P w=.ok r w/\ae β M Im w (Fa B t op ax ay).2 r:=by
 unfold Fa at hv⊢;split at hv
 ·rename_i a b;simp only[ae]at h h';obtain⟨vs,rfl,ha⟩:=h;obtain⟨vs',rfl,hb⟩:=h';unfold TZ at hv⊢
  have key:∀r,mK (B.q t) a b=some r->(eqGuard op t x y (.agg vs.toArray) (.agg vs'.toArray)).run P w=.ok () w/\(Op.equalIn 10000 t (.agg vs.toArray) (.agg vs'.toArray)).run P w=.ok r w:=by
   intro r hr
   have hz:isZ (B.q t)=false:=by
    cases hq:B.q t with
    |zero=>rw[hq]at hr;cases a<;>cases b<;>simp[mK]at hr
    |succ n=>rfl
   have hq:=hB.q t hz;unfold yD at hq;split at hq
   ·rename_i fs hu
    cases hall:aO [neg (P.stoodInHeld t),neg (P.eqGuardType P.depth t),nS P (toL fs) 0]with
    |false=>rw[hall]at hq;simp only[bc]at hq;rw[←hq]at hz;cases hz
    |true=>
     rw[hall]at hq;simp only[aD]at hq;simp only[bH,bJ,bC,ao,gu,gU]at hall;obtain⟨h1,h2,h3⟩:=hall;have hfs:P.fieldsOf t=fs:=by simp[Program.fieldsOf,hu]
     refine⟨run_eqGuard_agg w op t x y _ _ h2,?_⟩;rw[run_equalIn_struct w 9999 t _ _ (by rw[hfs];exact hu) h1,hfs];have htl:toL fs=fs.toList:=by cases fs;rfl
     rw[htl]at h3 hq;have:=eqF w P (w0:=w) 9998 (B.q t) a b vs vs' r [] [] fs.toList hr ha hb h3 (by rw[←hq,oX]) rfl;simpa using this
   ·rename_i n e hu
    cases hall:aO [neg (P.eqGuardType P.depth t),pk (P.underlying e),Nat.beq (P.cellsOf e) 1]with
    |false=>rw[hall]at hq;simp only[bc]at hq;rw[←hq]at hz;cases hz
    |true=>
     rw[hall]at hq;simp only[aD]at hq;simp only[bH,bJ,bC,ao,gu,gU]at hall;obtain⟨h1,h2,h3⟩:=hall;have h3:=cR h3
     have hie:∃i,P.info? e=some i:=by
      unfold Program.cellsOf at h3
      cases h:P.info? e with
      |none=>simp[h]at h3
      |some i=>exact⟨i,rfl⟩
     obtain⟨ie,hie⟩:=hie;refine⟨run_eqGuard_agg w op t x y _ _ h1,?_⟩;rw[run_equalIn_array w 9999 _ _ hu hie,h3,NK]
     have hin:∀(m i:Nat),nS P ((List.range' i m).map (vn e)) i=true:=λm=>by
      induction m with
      |zero=>intro i;rfl
      |succ m ih=>
       intro i;have h4:∀i:Nat,Nat.beq i i=true:=fun i=>Nat.beq_refl i;have h5 : ((("a" : String) == "_") = false) := by decide
       simp only[List.range'_succ,iN,nS,vn,h4,h2,h5,gu,Bool.not_false,bH,bJ,n5,bC,aD];exact ih (i+1)
     rw[List.range_eq_range'];have:=eqF w P (w0:=w) 9998 (B.q t) a b vs vs' r [] [] ((List.range' 0 n).map (vn e)) hr ha hb (hin n 0) (by simp[hq]) rfl;simpa using this
   ·rw[←hq]at hz;cases hz
  split at hv
  ·rename_i r hr;obtain⟨k1,k2⟩:=key r hr;exact⟨.bool r,by simp only[fW,k1,il,run_eql_struct,k2],by simp only[bB,bp,gY]⟩
  ·rename_i r hr;obtain⟨k1,k2⟩:=key r hr;exact⟨.bool (!r),by simp only[fW,k1,il,run_neq_struct,k2],by simp only[bB,bp,gY]⟩
  ·exact hv.1.elim
 ·exact M_ hB op t x y ax ay u v h h' hv
theorem ZU(a:Act):(y:dJ)->KG y=true->a.eval y=.slice none 0 0
 |.const (.slice none n m),h=>by simp only[KG,aP,ao]at h;have h1:=cR h.1;have h2:=cR h.2;subst h1;subst h2;rfl
theorem ZR(a:Act):(y:dJ)->S8 y=true->y=.const .nilIface/\a.eval y=.nilIface
 |.const .nilIface,_=>⟨rfl,rfl⟩
theorem Ti{y:dJ}{e:T}{l:Option (List e.den)}{op:l9}(hop:op=.eql\/op=.neq)(hok:(ty P t).ok=true)(hel:neg (isN (ty P t).el)=true)(h:ai Im w (.ns (.sl e)) l [u])(hl:FK l=true):
  (do eqGuard op t x y u (.slice none 0 0);binOp op t u (.slice none 0 0):Sem Value).run P w=.ok (.bool (bif op==.eql then l.isNone else l.isSome)) w:=by
 obtain⟨inf,c,hi,hc⟩:=dn hok;rw[cV hi hc]at hel;simp only[d7]at hel;cases c<;>simp only[isN,gu,wq,d4]at hel
 have hu:(l=none/\u=.slice none 0 0)\/∃y b n c,l=some y/\u=.slice (some b) n c:=by
  simp only[ai,bG,az]at h;rcases h with⟨rfl,rfl⟩|⟨y,a,n,c,rfl,rfl,oa,cap,⟨rfl,rfl,rfl⟩,_,hn,_⟩
  ·exact .inl ⟨rfl,rfl⟩
  ·cases a with
   |some b=>exact .inr ⟨y,b,_,_,rfl,rfl⟩
   |none=>
    exfalso;have:=(hn rfl).1
    cases y with
    |nil=>simp[FK]at hl
    |cons _ _=>simp at this
 have key:(Op.equal t u (.slice none 0 0)).run P w=.ok l.isNone w:=by show (Op.equalIn (9999+1) t u (.slice none 0 0)).run P w=.ok l.isNone w;generalize 9999=d;rcases hu with⟨rfl,rfl⟩|⟨y,b,n,c,rfl,rfl⟩<;>simp[Op.equalIn,cP hc]
 have hu':∃b n c,u=.slice b n c:=by
  rcases hu with⟨_,rfl⟩|⟨y,b,n,c,_,rfl⟩
  ·exact⟨_,_,_,rfl⟩
  ·exact⟨_,_,_,rfl⟩
 obtain⟨b,n,c,rfl⟩:=hu';generalize hz:l.isNone=z at key;have hz':l.isSome=!z:=by rw[←hz];cases l<;>rfl
 rw[hz'];rcases hop with rfl|rfl
 ·simp[eqGuard,binOp,key]
 ·simp[eqGuard,binOp,key];cases z<;>rfl
theorem RU{i:bF}{b:bo}{op:l9}(hop:op=.eql\/op=.neq)(hok:(ty P t).ok=true)(hel:(ty P t).ifc=true)(h:ai Im w (.er i) b [u]):
  (do eqGuard op t x (.const .nilIface) u .nilIface;binOp op t u .nilIface:Sem Value).run P w=.ok (.bool (bif op==.eql then !b else b)) w:=by
 obtain⟨inf,c,hi,hc⟩:=dn hok;rw[cV hi hc]at hel;simp only[d7]at hel;cases c<;>simp only[d4]at hel;have hu:(b=false/\u=.nilIface)\/∃s,b=true/\u=.iface i (.agg #[.string s]):=by simpa only [ai,bG,az]using h
 have key:(Op.equal t u .nilIface).run P w=.ok (!b) w:=by show (Op.equalIn (9999+1) t u .nilIface).run P w=.ok (!b) w;generalize 9999=d;rcases hu with⟨rfl,rfl⟩|⟨s,rfl,rfl⟩<;>simp[Op.equalIn,cP hc]
 have hg:(eqGuard op t x (.const .nilIface) u .nilIface).run P w=.ok () w:=by rcases hu with⟨rfl,rfl⟩|⟨s,rfl,rfl⟩<;>rcases hop with rfl|rfl<;>simp[eqGuard]
 rcases hop with rfl|rfl
 ·simp only[fW,hg,il];rcases hu with⟨rfl,rfl⟩|⟨s,rfl,rfl⟩<;>simp[binOp,key]<;>rfl
 ·simp only[fW,hg,il];rcases hu with⟨rfl,rfl⟩|⟨s,rfl,rfl⟩<;>simp[binOp,key]<;>rfl
theorem Z8(hB:TabOk P B)(op:l9)(t:bF)(x y:dJ)(z zi:bo)(ax ay:V)(u v:bw)(hz:z=true->v=.slice none 0 0)(hzi:zi=true->y=.const .nilIface/\v=.nilIface)(h:ae β M Im w ax u)(h':ae β M Im w ay v)(hv:ab (Fk B t op z zi ax ay).1):
  ∃r,(do eqGuard op t x y u v;binOp op t u v:Sem Value).run P w=.ok r w/\ae β M Im w (Fk B t op z zi ax ay).2 r:=by
 unfold Fk at hv⊢;split at hv
 ·have hk:=ed hv;simp only[hk,aD]at hv⊢;simp only[bH,bJ,bC,ao]at hk;rw[←hB.τ t hk.1]at hk;rw[bp]at h;rw[hz rfl];exact⟨_,Ti (.inl rfl) hk.1 hk.2 h hv.1,by simp only[bp,ai];rfl⟩
 ·have hk:=ed hv;simp only[hk,aD]at hv⊢;simp only[bH,bJ,bC,ao]at hk;rw[←hB.τ t hk.1]at hk;rw[bp]at h;rw[hz rfl];exact⟨_,Ti (.inr rfl) hk.1 hk.2 h hv.1,by simp only[bp,ai];rfl⟩
 ·have hk:=ed hv;simp only[hk,aD]at hv⊢;simp only[bH,bJ,bC,ao]at hk;obtain⟨k1,k2,k3⟩:=hk;have e:=hB.τ t k2;rw[←e]at k2 k3;rw[bp]at h;obtain⟨rfl,rfl⟩:=hzi k1;exact⟨_,RU (.inl rfl) k2 k3 h,by simp only[bB,bp,ai];rfl⟩
 ·have hk:=ed hv;simp only[hk,aD]at hv⊢;simp only[bH,bJ,bC,ao]at hk;obtain⟨k1,k2,k3⟩:=hk;have e:=hB.τ t k2;rw[←e]at k2 k3;rw[bp]at h;obtain⟨rfl,rfl⟩:=hzi k1;exact⟨_,RU (.inr rfl) k2 k3 h,by simp only[bB,bp,ai];rfl⟩
 ·exact t_ hB op t x y ax ay u v h h' hv
theorem abq(op:UnOp)(x:V)(u:bw)(h:ae β M Im w x u)(hv:ab (FT op x).1):∃r,(Op.unary op u).run P w=.ok r w/\ae β M Im w (FT op x).2 r:=by
 unfold FT at hv⊢;split at hv
 ·simp only[bp,gY]at h;subst h;exact⟨_,by simp[Op.unary];rfl,by simp only[bB,bp,gY]⟩
 ·simp only[bp,dR]at h;obtain⟨rfl,_⟩:=h;exact⟨_,by simp[Op.unary,Op.intArith];rfl,by simpa using B4 _ _ hv⟩
 ·exact hv.1.elim
theorem ZE(hB:TabOk P B)(s d:bF)(x:V)(u:bw)(h:ae β M Im w x u)(hv:ab (Fc (B.τ s) (B.τ d) x).1):∃r,(convert s d u).run P w=.ok r w/\ae β M Im w (Fc (B.τ s) (B.τ d) x).2 r:=by
 unfold Fc at hv⊢;split at hv
 ·rename_i k n k1 k' h1 h2;have hk:=ed hv;simp only[hk,aD]at hv⊢;simp only[bH,bJ,bC,ao]at hk;obtain⟨o1,o2,o3⟩:=hk;rw[←hB.τ s o1]at h1 o1;rw[←hB.τ d o2]at h2 o2;obtain rfl:=nI o3;obtain⟨i,c,hi,hc⟩:=dn o1;obtain⟨i',c',hi',hc'⟩:=dn o2;rw[cV hi hc]at h1;rw[cV hi' hc']at h2;simp only[d7]at h1 h2;cases c<;>simp at h1;cases c'<;>simp at h2;subst h1;subst h2;simp only[bp,dR]at h;obtain⟨rfl,hk⟩:=h;rename_i kd;refine⟨.int kd (kd.wrap n),by simp[convert,cP hc,cP hc',Conv.intToInt],?_⟩
  cases hkk:jp _ kd with
  |true=>obtain rfl:=nI hkk;simp only[aD,bB,bp,dR];exact⟨by rw[AT hk],hk⟩
  |false=>simp only[bc,bB,bp,dR,aL];exact xl _ _
 ·exact hv.1.elim
theorem SZ:(x:V)->(vs:aM)->(i:Nat)->(y:V)->cD β M Im w x vs->nth x i=some y->∃u,vs[i]? = some u/\ae β M Im w y u
 |.p a b,vs,0,y,r,h=>by simp only[cD]at r;simp only[nth,aI]at h;subst h;obtain⟨u,us,rfl,h1,_⟩:=r;exact⟨u,rfl,h1⟩
 |.p a b,vs,i+1,y,r,h=>by simp only[cD]at r;simp only[nth]at h;obtain⟨u,us,rfl,_,h2⟩:=r;obtain⟨v,h3,h4⟩:=SZ b us i y h2 h;exact⟨v,by simpa using h3,h4⟩
 |.any,_,_,_,_,h|.nl,_,_,_,_,h|.np,_,_,_,_,h|.u,_,_,_,_,h|.d _ _,_,_,_,_,h|.ref _ _,_,_,_,_,h|.ad _ _,_,_,_,_,h|.ag _,_,_,_,_,h|.tup _,_,_,_,_,h|.gd _ _ _ _,_,_,_,_,h|.fn _ _,_,_,_,_,h|.ifc _ _,_,_,_,_,h|.bx _,_,_,_,_,h=>by simp[nth]at h
theorem G'(x:V)(i:Nat)(u:bw)(h:ae β M Im w x u)(hv:ab (yo x i).1):∃r,(Instr.extract u i).run P w=.ok r w/\ae β M Im w (yo x i).2 r:=by
 unfold yo at hv⊢;split at hv
 ·rename_i v;split at hv
  ·rename_i y hy;simp only[ae]at h;obtain⟨vs,rfl,hl⟩:=h;obtain⟨u,hu1,hu2⟩:=SZ v vs i y hl hy;exact⟨u,by simp[Instr.extract,hu1],by simp only[hy,bB];exact hu2⟩
  ·exact hv.1.elim
 ·exact hv.1.elim
theorem Y_(x:V)(u:bw)(h:ae p.β M (Imm F p M w) w x u)(hv:ab (Fo x).1):(∃a,u=.pointer (some a))/\ae p.β M (Imm F p M w) w (Fo x).2 u:=by
 unfold Fo at hv⊢;split at hv
 ·refine⟨?_,h⟩;simp only[bp,ai,bG,az]at h;obtain⟨b,o,us,rfl,_⟩:=h;exact⟨_,rfl⟩
 ·refine⟨?_,h⟩;simp only[ae,ac,bG,az,exists_eq_left']at h;obtain⟨_,_,_,_,_,_,_,_,_,rfl⟩:=h;exact⟨_,rfl⟩
 ·refine⟨?_,h⟩;simp only[ae,ac,bG,az]at h;obtain⟨b,o,us,rfl,_⟩:=h;exact⟨_,rfl⟩
 ·exact hv.1.elim
theorem YX{i:Nat}(b o:Nat)(hok:(ty P t).ok=true)(hf:(ty P t).fld[i]? = some (off,ft,fsz))(hz:fsz≠0):
  (Instr.fieldAt t (.pointer (some ⟨b,o,none⟩)) i).run P w=.ok (.pointer (some ⟨b,o+off,none⟩)) w:=by
 obtain⟨inf,u,hi,hu⟩:=dn hok;rw[cV hi hu]at hf;simp only[d7]at hf;cases u<;>simp at hf
 case struct fs=>
  obtain⟨f,hf,rfl,rfl,rfl⟩:=hf
  have hc:∃inf',P.info? f.type=some inf'/\inf'.size≠0:=by
   unfold Program.cellsOf at hz
   cases h:P.info? f.type with
   |none=>simp[h]at hz
   |some inf'=>exact⟨inf',rfl,by simpa[h]using hz⟩
  obtain⟨inf',h1,h2⟩:=hc;have hadd:(⟨b,o,none⟩:Addr).add f.offset=⟨b,o+f.offset,none⟩:=by unfold Addr.add;split<;>simp_all
  simp[Instr.fieldAt,cP hu,hf,Instr.sureAddr,fieldPlace,sizeOf,typeInfo,h1,h2,hadd]
theorem Sg(hp:Hp F p M w)(x:V)(π:bz)(off:Nat)(u:bw)(h:ae p.β M (Imm F p M w) w x u)(hv:ab (nh M x π off).1):
  ∃b o,u=.pointer (some ⟨b,o,none⟩)/\ae p.β M (Imm F p M w) w (nh M x π off).2 (.pointer (some ⟨b,o+off,none⟩)):=by
 unfold nh at hv⊢;split at hv
 ·rename_i t y;split at hv
  ·rename_i n q hn hq;have hk:=ed hv;simp only[hk,aD]at hv⊢;simp only[dL,bN]at hk;subst hk;simp only[bp,ai,bG,az]at h;obtain⟨b,o,us,rfl,h1,h2,h3⟩:=h;obtain⟨va,us',vb,rfl,k2,k3⟩:=Kx π t y n q us hn hq h3;refine⟨b,o,rfl,?_⟩;simp only[hn,hq,dL,ws,aD,bB,bp,ai];exact⟨b,o+n,us',rfl,h1,by rw[←k2];exact h2.sub,k3⟩
  ·exact hv.1.elim
 ·rename_i k ρ;split at hv
  ·rename_i q hq;split at hv
   ·rename_i n hn;have hk:=ed hv;simp only[hk,aD]at hv⊢;simp only[dL,bN]at hk;subst hk;simp only[ae,ac,bG,az,exists_eq_left']at h;obtain⟨b,o,rfl,h1⟩:=h.sub hp hq hn;refine⟨b,o,rfl,?_⟩;simp only[hq,hn,dL,ws,aD,bB,ae,ac];exact⟨_,rfl,h1⟩
   ·exact hv.1.elim
  ·exact hv.1.elim
 ·rename_i v;split at hv
  ·rename_i q hq;obtain⟨n,v'⟩:=q;have hk:=ed hv;simp only[hk,aD]at hv⊢;simp only[dL,bN]at hk;subst hk;simp only[ae,ac,bG,az]at h;obtain⟨b,o,us,rfl,h1,h2,h3⟩:=h;obtain⟨va,us',vb,rfl,k2,k3⟩:=EH hp π v us n v' h3 hq;refine⟨b,o,rfl,?_⟩;simp only[hq,dL,ws,aD,bB,ae,ac,bG,az];exact⟨b,o+n,us',rfl,h1,by rw[←k2];exact h2.sub,k3⟩
  ·exact hv.1.elim
 ·exact hv.1.elim
theorem ZL(hB:TabOk P B)(hp:Hp F p M w){i:Nat}(x:V)(u:bw)(h:ae p.β M (Imm F p M w) w x u)(hv:ab (oZ (B.τ t) M x i).1):
  ∃r,(Instr.fieldAt t u i).run P w=.ok r w/\ae p.β M (Imm F p M w) w (oZ (B.τ t) M x i).2 r:=by
 unfold oZ at hv⊢;split at hv
 ·rename_i off ft fsz hf;have hk:=ed hv;simp only[hk,aD]at hv⊢;simp only[bH,bJ,bC,ao]at hk;obtain⟨b,o,rfl,h1⟩:=Sg hp x _ off u h hv;have e:=hB.τ t hk.1;refine⟨_,YX (t:=t) (i:=i) (off:=off) (ft:=ft) (fsz:=fsz) b o (by rw[e];exact hk.1) (by rw[e,←ti];exact hf) ?_,?_⟩
  ·rintro rfl;simp at hk
  ·simpa only [hf,bH,bJ,bC,hk.1,hk.2,n5,aD]using h1
 ·exact hv.1.elim
theorem V_(hB:TabOk P B)(hp:Hp F p M w){i:Nat}(x:V)(u:bw)(h:ae p.β M (Imm F p M w) w x u)(hv:ab (pg B (B.τ t) M x i).1):
  ∃r,(Instr.field t u i).run P w=.ok r w/\ae p.β M (Imm F p M w) w (pg B (B.τ t) M x i).2 r:=by
 unfold pg at hv⊢;split at hv
 ·rename_i off ft fsz v hf;split at hv
  ·rename_i n y hs;have hk:=ed hv;simp only[hk,aD]at hv⊢;simp only[bH,bJ,bC,ao,eX,dL,bN,e9]at hk;obtain⟨o1,o2,rfl,o4,o5⟩:=hk;simp only[ae]at h;obtain⟨vs,rfl,hr⟩:=h;obtain⟨va,us,vb,rfl,k2,k3⟩:=EH hp _ v vs n y hr hs;have hlen:=nK hp y us _ k3 (mF o4);have e:=hB.τ t o1;have e':=hB.τ ft o2;rw[←e,ti]at hf;rw[←e]at o1;obtain⟨inf,d,hi,hu⟩:=dn o1;rw[cV hi hu]at hf;simp only[d7]at hf;cases d<;>simp at hf
   case struct fs=>
    obtain⟨f,hf,rfl,rfl,rfl⟩:=hf;rw[←e']at o2 o5 hlen⊢;obtain⟨inf',d',hi',hu'⟩:=dn o2;have hx:((va++us++vb).drop f.offset).take us.length=us:=by rw[dk,←k2,Cs,yW]
    refine⟨val (ty P f.type).agg us,?_,?_⟩
    ·cases ha:(ty P f.type).agg with
     |true=>simp only[val,aD];rw[cV hi' hu']at ha hlen;simp only[d7]at ha hlen;rw[hlen]at hx;cases d'<;>simp at ha<;>simp[Instr.field,cP hu,hf,asAgg,part,isAgg,cP hu',sizeOf,typeInfo,hi',List.extract_eq_take_drop]<;>simpa using hx
     |false=>
      simp only[val,bc];rw[ha]at o5
      have h1:us.length=1:=by
       rw[hlen];rcases o5 with h|h
       ·cases h
       ·exact h
      obtain⟨u0,rfl⟩:=wo.1 h1;rw[cV hi' hu']at ha;simp only[d7]at ha;have hget:(va++[u0]++vb)[f.offset]? = some u0:=by rw[dk,←k2,g9 (bd _)];simp
      have hget':(va++u0::vb)[f.offset]? = some u0:=by simpa using hget
      cases d'<;>simp at ha<;>simp[Instr.field,cP hu,hf,asAgg,part,isAgg,cP hu',hget']
    ·exact Ba k3 (λha=>by
      rw[hlen];rcases o5 with h|h
      ·rw[ha]at h;cases h
      ·exact h)
  ·exact hv.1.elim
 ·exact hv.1.elim
theorem NV(k:ij)(n:Int)(a:Addr)(len cap:Nat)(hok:(ty P t).ok=true)(he:(ty P t).el=some e)(heok:(ty P e).ok=true)(ha:a.spot=none)(h0:0<=n)(h1:n<len):
  (Instr.indexAt t (.slice (some a) len cap) (.int k n)).run P w=.ok (.pointer (some ⟨a.block,a.off+n.toNat*(ty P e).size,none⟩)) w:=by
 obtain⟨inf,u,hi,hu⟩:=dn hok;obtain⟨inf',u',hi',hu'⟩:=dn heok;rw[cV hi hu]at he;rw[cV hi' hu'];simp only[d7]at he⊢;cases u<;>simp at he;subst he;have hadd:a.add (n.toNat*inf'.size)=⟨a.block,a.off+n.toNat*inf'.size,none⟩:=by obtain⟨b,o,s⟩:=a;simp only at ha;subst ha;unfold Addr.add;split<;>simp_all
 simp[Instr.indexAt,asIntOf,cP hu,h0,h1,sizeOf,typeInfo,hi',hadd]
theorem ixb{n:Int}(h0:0<=n)(h1:n<m):n.toNat<m:=aa
theorem SE{t:T}{l:List t.den}{te:bF}(k:ij)(n:Int)(h:ai Im w (.sl t) l [u])(h0:0<=n)(h1:n<l.length)(hok:(ty P te).ok=true)(he:(ty P te).el=some e)(heok:(ty P e).ok=true)(hs:t.size=(ty P e).size):
  ∃r,(Instr.indexAt te u (.int k n)).run P w=.ok r w/\ai Im w (.pt t) (l.getD n.toNat t.dflt) [r]:=by
 simp only[ai,bG,az]at h;obtain⟨oa,cap,rfl,h3,h4,h5⟩:=h
 cases oa with
 |none=>have:=(h4 rfl).1;omega
 |some a=>
  obtain⟨s1,s2,s3⟩:=h5 a rfl aa;have hi:n.toNat<l.length:=aa
  have hx:l[n.toNat]? = some (l.getD n.toNat t.dflt):=by rw[br,bU hi];rfl
  obtain⟨us,u1,u2⟩:=s3 n.toNat _ hx;refine⟨_,NV k n a l.length cap hok he heok s1 h0 h1,?_⟩;simp only[ai];exact⟨_,_,us,rfl,s2,by rw[←hs];exact u1,u2⟩
theorem aab(hB:TabOk P B)(hp:Hp F p M w)(x i:V)(u v:bw)(h:ae p.β M (Imm F p M w) w x u)(h':ae p.β M (Imm F p M w) w i v)(hv:ab (pi B (B.τ t) M x i).1):
  ∃r,(Instr.indexAt t u v).run P w=.ok r w/\ae p.β M (Imm F p M w) w (pi B (B.τ t) M x i).2 r:=by
 unfold pi at hv⊢;split at hv
 ·rename_i e ki n he;simp only[bp,dR]at h';obtain⟨rfl,_⟩:=h';split at hv
  ·rename_i te l;have hk:=ed hv;simp only[he,hk,aD,dX,fx,az]at hv⊢;simp only[bH,bJ,bC,ao,dL,bN]at hk;rw[←hB.τ t hk.1]at he;obtain⟨r,h1,h2⟩:=SE (P:=P) (te:=t) ki n (bp.1 h) hv.1 hv.2 (by rw[hB.τ t hk.1];exact hk.1) he (by rw[hB.τ e hk.2.1];exact hk.2.1) (by rw[hB.τ e hk.2.1];exact hk.2.2);exact⟨r,h1,bp.2 h2⟩
  ·rename_i k π;simp only[ae,ac]at h;split at hv
   ·rename_i o l hg;have hk:=ed hv;simp only[he,hg,hk,aD,dX,fx,az]at hv⊢;simp only[bH,bJ,bC,ao,dL,bN]at hk;rw[←hB.τ t hk.1]at he;obtain⟨ob,g1,g2⟩:=nG hg;obtain⟨S,hr⟩:=h.look hp hg;obtain⟨ob',pl,k1,k2,k3,k4⟩:=h;rw[g1]at k1;cases k1;simp only[Rel,bG,az]at hr;obtain⟨v',ety,xs,T,rfl,r2,r3,_⟩:=hr;rcases uL r2 with⟨hn,_⟩|⟨g,off0,cap,cur,rfl,_⟩
    ·have:=ixb hv.1 hv.2;omega
    ·refine⟨_,NV ki n ⟨g,off0,none⟩ l.length (cap+1) (by rw[hB.τ t hk.1];exact hk.1) he (by rw[hB.τ e hk.2.1];exact hk.2.1) rfl hv.1 hv.2,?_⟩;have hi:n.toNat<l.length:=ixb hv.1 hv.2;simp only[ae,ac];refine⟨_,rfl,ob,cellsOf w g (off0+n.toNat*o.size) o.size,g,off0+n.toNat*(ty P e).size,g1,oV π [.ix n.toNat] _ _ _ g2 k2 (by simp only[gok,az];exact hi),⟨⟨o,l.getD n.toNat o.dflt⟩,by rw[nN,g2];simp only[get]⟩,DK _ _ (by simp[bV]),?_,rfl⟩;rw[oY w π [.ix n.toNat] ob.o ob.x _ _ _ g2,k4];simp only[res];rw[show (ty P e).size=o.size by rw[hB.τ e hk.2.1];exact hk.2.2.symm]
   ·rename_i te l hg;have hk:=ed hv;simp only[he,hg,hk,aD,dX,fx,az]at hv⊢;simp only[bH,bJ,bC,ao,dL,bN]at hk;rw[←hB.τ t hk.1]at he;obtain⟨S,hr⟩:=h.look hp hg;simp only[Rel]at hr;obtain⟨r,h1,h2⟩:=SE (P:=P) (te:=t) ki n hr hv.1 hv.2 (by rw[hB.τ t hk.1];exact hk.1) he (by rw[hB.τ e hk.2.1];exact hk.2.1) (by rw[hB.τ e hk.2.1];exact hk.2.2);exact⟨r,h1,bp.2 h2⟩
   ·exact hv.1.elim
  ·exact hv.1.elim
 ·exact hv.1.elim
theorem YL{len:Nat}(k:ij)(n:Int)(b o:Nat)(hok:(ty P t).ok=true)(he:(ty P t).arr=some (e,len))(heok:(ty P e).ok=true)(h0:0<=n)(h1:n<len):
  (Instr.indexAt t (.pointer (some ⟨b,o,none⟩)) (.int k n)).run P w=.ok (.pointer (some ⟨b,o+n.toNat*(ty P e).size,none⟩)) w:=by
 obtain⟨inf,u,hi,hu⟩:=dn hok;obtain⟨inf',u',hi',hu'⟩:=dn heok;rw[cV hi hu]at he;rw[cV hi' hu'];simp only[d7]at he⊢;cases u<;>simp at he;obtain⟨rfl,rfl⟩:=he;have hadd:(⟨b,o,none⟩:Addr).add (n.toNat*inf'.size)=⟨b,o+n.toNat*inf'.size,none⟩:=by unfold Addr.add;split<;>simp_all
 simp[Instr.indexAt,asIntOf,cP hu,Instr.sureAddr,sizeOf,typeInfo,hi',h0,h1,hadd]
theorem R_(hB:TabOk P B)(hp:Hp F p M w)(x i:V)(u v:bw)(h:ae p.β M (Imm F p M w) w x u)(h':ae p.β M (Imm F p M w) w i v)(hv:ab (pd B (B.τ t) M x i).1):
  ∃r,(Instr.indexAt t u v).run P w=.ok r w/\ae p.β M (Imm F p M w) w (pd B (B.τ t) M x i).2 r:=by
 unfold pd at hv⊢
 cases ha:(B.τ t).arr with
 |none=>simp only[ha]at hv⊢;exact aab hB hp x i u v h h' hv
 |some q=>
  obtain⟨e,n⟩:=q;simp only[ha]at hv⊢;unfold Fq at hv⊢;split at hv
  ·rename_i k m;simp only[bp,dR]at h';obtain⟨rfl,_⟩:=h'
   cases hk:aO [(B.τ t).ok,(B.τ e).ok]with
   |false=>rw[hk]at hv;exact hv.1.elim
   |true=>simp only[hk,aD]at hv⊢;simp only[bH,bJ,bC,ao]at hk;simp only[dX]at hv;obtain⟨b,o,rfl,hr⟩:=Sg hp x _ _ u h hv.2.2;have e1:=hB.τ t hk.1;have e2:=hB.τ e hk.2;refine⟨_,YL k m b o (by rw[e1];exact hk.1) (by rw[e1];exact ha) (by rw[e2];exact hk.2) hv.1 hv.2.1,?_⟩;rw[e2];exact hr
  ·exact hv.1.elim
theorem Qo{t:T}:∀{n:Nat} {s:T} {y:s.den} {l:List t.den} {us:aM},tN t n s y=some l->ai Im w s y us->
  us.length=n*t.size/\∀i,i<n->∃va vb vc,us=va++vb++vc/\va.length=i*t.size/\ai Im w t (l.getD i t.dflt) vb
 |0,_,_,_,_,h,_=>by simp[tN]at h
 |1,s,y,l,us,h,r=>by
  simp only[tN]at h;split at h
  ·rename_i z hz;cases h;have r1:=nE hz r;refine⟨by rw[ai.len _ _ _ r1,Nat.one_mul],λi hi=>⟨[],us,[],ak,?_,?_⟩⟩
   ·have:i=0:=aa
    subst this;simp
   ·have:i=0:=aa
    subst this;exact r1
  ·cases h
 |n+2,s,y,l,us,h,r=>by
  cases s with
  |p a b=>
   simp only[tN]at h;split at h
   ·rename_i z l' hz hl;cases h;simp only[ai]at r;obtain⟨va,vb,rfl,r1,r2⟩:=r;have r1:=nE hz r1;have hla:=ai.len _ _ _ r1;obtain⟨i1,i2⟩:=Qo hl r2;refine⟨by rw[bn,hla,i1,show (Nat.succ (Nat.succ n))*t.size=Nat.succ n*t.size+t.size from um _ _];omega,λi hi=>?_⟩
    cases i with
    |zero=>exact⟨[],va,vb,ak,ak,r1⟩
    |succ i=>obtain⟨wa,wb,wc,e1,e2,e3⟩:=i2 i aa;exact⟨va++wa,wb,wc,by rw[e1];simp,by rw[bn,hla,e2,um];omega,e3⟩
   ·cases h
  |_=>simp[tN]at h
theorem P_(hB:TabOk P B)(t:bF){x:V}(k:ij)(m:Int)(u v:bw)(h:ae β M Im w (.ag x) u)(h':ae β M Im w (.d (.int k) m) v)(hv:ab (FF B (B.τ t) (B.σ t) x m).1):
  ∃r,(Instr.index t u v).run P w=.ok r w/\ae β M Im w (FF B (B.τ t) (B.σ t) x m).2 r:=by
 unfold FF at hv⊢
 cases ha:(B.τ t).arr with
 |none=>rw[ha]at hv;exact hv.1.elim
 |some q=>
 obtain⟨e,n⟩:=q;simp only[ha]at hv⊢
 cases hy:x.as (B.σ t)with
 |none=>rw[hy]at hv;exact hv.1.elim
 |some y=>
 simp only[hy]at hv⊢;generalize hs:B.σ t=s at *
 cases hl:tN (elT s n) n s y with
 |none=>rw[hl]at hv;exact hv.1.elim
 |some l=>
 simp only[hl]at hv⊢;have hk:=ed hv;simp only[hk,aD]at hv⊢;simp only[bH,bJ,bC,ao,eX,dL,bN,e9]at hk;obtain⟨o1,o2,o3,o4⟩:=hk;obtain⟨m0,m1,_⟩:=hv;simp only[ae]at h;obtain⟨us,rfl,hr⟩:=h;have hr:=mW x s us y hr hy;simp only[bp,dR]at h';obtain⟨rfl,_⟩:=h';obtain⟨_,hat⟩:=Qo hl hr;obtain⟨va,ub,vc,rfl,k2,k3⟩:=hat m.toNat aa;have hlen:ub.length=(B.τ e).size:=by rw[ai.len _ _ _ k3,o3]
 rw[o3]at k2;have q:=hB.τ t o1;have q':=hB.τ e o2;rw[←q]at o1 ha;obtain⟨inf,d,hi,hu⟩:=dn o1;rw[cV hi hu]at ha;simp only[d7]at ha;cases d<;>simp at ha;obtain⟨he1,he2⟩:=ha;rw[he1,he2]at hu;rw[←q']at o2 o4 hlen k2⊢;obtain⟨inf',d',hi',hu'⟩:=dn o2;have hx:((va++ub++vc).drop (m.toNat*(ty P e).size)).take ub.length=ub:=by rw[dk,←k2,Cs,yW]
 have hmn:m.toNat*(ty P e).size=va.length:=k2.symm;refine⟨val (ty P e).agg ub,?_,?_⟩
 ·cases hag:(ty P e).agg with
  |true=>simp only[val,aD];rw[cV hi' hu']at hag hlen hx;simp only[d7]at hag hlen hx;rw[hlen]at hx;cases d'<;>simp at hag<;>simp[Instr.index,asIntOf,cP hu,m0,m1,part,isAgg,cP hu',sizeOf,typeInfo,hi',List.extract_eq_take_drop]<;>simpa using hx
  |false=>
   simp only[val,bc];rw[hag]at o4
   have h1:ub.length=1:=by
    rw[hlen];rcases o4 with h|h
    ·cases h
    ·exact h
   obtain⟨u0,rfl⟩:=wo.1 h1;rw[cV hi' hu']at hag hmn;simp only[d7]at hag hmn;have hget:(va++[u0]++vc)[m.toNat*inf'.size]? = some u0:=by rw[hmn,dk,g9 (bd _)];simp
   have hget':(va++u0::vc)[m.toNat*inf'.size]? = some u0:=by simpa using hget
   cases d'<;>simp at hag<;>simp[Instr.index,asIntOf,cP hu,m0,m1,part,isAgg,cP hu',sizeOf,typeInfo,hi',hget']
 ·exact Ba (v:=.d _ _) (by simp only[ac];exact k3) (λhag=>by
   rw[hlen];rcases o4 with h|h
   ·rw[hag]at h;cases h
   ·exact h)
theorem abo(hB:TabOk P B)(t:bF)(x i:V)(u v:bw)(h:ae β M Im w x u)(h':ae β M Im w i v)(hv:ab (FR B (B.τ t) (B.σ t) x i).1):∃r,(Instr.index t u v).run P w=.ok r w/\ae β M Im w (FR B (B.τ t) (B.σ t) x i).2 r:=by
 unfold FR at hv⊢;split at hv
 ·rename_i x k m;exact P_ hB t k m u v h h' hv
 ·rename_i s k n;simp only[bp,AC]at h;simp only[bp,dR]at h';obtain⟨rfl,_⟩:=h;obtain⟨rfl,_⟩:=h';have hk:=ed hv;simp only[hk,aD,dX,fx,az]at hv⊢;simp only[bH,bJ,bC,ao]at hk;obtain⟨h3,h4⟩:=hv;rw[←hB.τ t hk.1]at hk;obtain⟨inf,c,hi,hc⟩:=dn hk.1;rw[cV hi hc]at hk;have h2:=hk.2;simp only[d7]at h2;cases c<;>simp at h2;have hlt:n.toNat<s.size:=ixb h3 h4;have hb:(s.data.toList.getD n.toNat 0)=s[n.toNat]:=by rw[br,bU (by simpa using hlt)];rfl
  refine⟨.int .u8 (s[n.toNat]).toNat,?_,?_⟩
  ·simp[Instr.index,asIntOf,cP hc,h3,hlt,getElem?_pos]
  ·simp only[bp,dR];rw[hb];refine⟨rfl,?_⟩;have:=(s[n.toNat]).toNat_lt;exact (KS (s[n.toNat]).toNat).2 ⟨aa,aa⟩
 ·exact hv.1.elim
theorem Ap(a:yT)(n cap:Nat)(h1:(ty P t).ok=true)(h2:(ty P t).el≠none):(Builtin.len_ #[t] ty' #[.slice a n cap]).run P w=.ok (.int .i64 n) w:=by obtain⟨inf,c,hi,hc⟩:=dn h1;rw[cV hi hc]at h2;simp only[d7]at h2;cases c<;>simp at h2;simp[Builtin.len_,cP hc,goInt]
theorem B0{o:Option α}(h:neg (isN o)=true):o≠none:=by
 cases o with
 |none=>simp[isN]at h
 |some _=>simp
theorem adz{l:List o.strip.den}(r:Rel Im w (.sl o) l S vs):∃a cap,vs=[.slice a l.length cap]/\l.length<=nb:=by
 simp only[Rel]at r;obtain⟨v,ety,xs,T,rfl,h1,h2,_⟩:=r;rcases uL h1 with⟨hn,oa,rfl⟩|⟨g,off0,cap,cur,rfl,_⟩
 ·exact⟨oa,0,by rw[hn],h2⟩
 ·exact⟨_,cap+1,rfl,h2⟩
theorem QS(hok:(ty P t).ok=true)(hm:neg (isN (ty P t).mp)=true)(hb:w.heap[r]? = some (.map es n)):
  (Builtin.len_ #[t] ty' #[.map (some r)]).run P w=.ok (.int .i64 es.size) w:=by
 obtain⟨inf,c,hi,hc⟩:=dn hok;rw[cV hi hc]at hm;simp only[d7]at hm;cases c<;>simp only[isN,gu,wq,d4]at hm;simp[Builtin.len_,cP hc,goInt,za hb]
theorem PL{k v:T}{l:List (k.den×v.den)}(h:ni k v es l):es.size=l.length:=by have:=congrArg List.length h;simpa using this
theorem k_{x:V}(h:vI M x=some l):∃k π,x=.ref k π/\ez M k π=some ⟨.sl (.fz (.int .u8)),l⟩:=by
 unfold vI at h;split at h
 ·split at h
  ·rename_i hg;cases h;exact⟨_,_,rfl,hg⟩
  ·cases h
 ·cases h
theorem Zk(hB:TabOk P B)(hp:Hp F p M w)(s d:bF)(x:V)(u:bw)(h:ae p.β M (Imm F p M w) w x u)(hv:ab (oT B s d M x).1):∃r,(convert s d u).run P w=.ok r w/\ae p.β M (Imm F p M w) w (oT B s d M x).2 r:=by
 unfold oT at hv⊢;split at hv
 ·rename_i e l he hl;have hk:=ed hv;simp only[he,hl,hk,aD]at hv⊢;simp only[bH,bJ,bC,ao]at hk;obtain⟨k1,k2,k3,k4,k5⟩:=hk;have e1:=hB.τ s k1;have e2:=hB.τ d k2;have e3:=hB.τ e k4;rw[←e1]at k1 he;rw[←e2]at k2 k3;rw[←e3]at k4 k5;obtain⟨i1,c1,hi1,hc1⟩:=dn k1;obtain⟨i2,c2,hi2,hc2⟩:=dn k2;obtain⟨i3,c3,hi3,hc3⟩:=dn k4;rw[cV hi1 hc1]at he;rw[cV hi2 hc2]at k3;rw[cV hi3 hc3]at k5;simp only[d7]at he k3 k5;cases c1<;>simp at he;subst he;cases c2<;>simp at k3;have hu8:c3=.int .u8:=by cases c3<;>simp only[LE,d4]at k5;rename_i kk;cases kk<;>simp only[LE,d4]at k5;rfl
  subst hu8;obtain⟨k,π,rfl,hg⟩:=k_ hl;simp only[ae,ac]at h;obtain⟨S,hr⟩:=h.look hp hg;simp only[Rel]at hr;obtain⟨v,ety,xs,T,hv1,hown,hnb,_,_,_,hel⟩:=hr;simp only[bG,az]at hv1;subst hv1;have hsz:(ER l).size<=nb:=by simp only[ER,ByteArray.size];simpa using hnb
  refine⟨.string (ER l),?_,by simp only[bB,bp,AC,aL];exact hsz⟩;obtain⟨hxl,ho⟩:=hown;rcases ho with⟨hn,oa,rfl⟩|⟨g,off,c,cur,rfl,hb,hc1',hc2',hcs,htk⟩
  ·have:l=[]:=jR hn;subst this
   cases oa with
   |none=>exact run_convert_bytes_nil (P:=P) w s _ hc1 hc3 0 0 d hc2
   |some a=>rw[run_convert_bytes_string w s d _ _ 0 0 hc1 hc3 hc2,run_bytesToString w a 0 0 [] (by simp[loadCells,loadCellsFrom])];rfl
  ·refine run_convert_bytes_arg (P:=P) w s _ hc1 hc3 g off l.length (c+1) l rfl (λi hi=>?_) d hc2;have h1:=hel i _ (bU hi);have hs1:(O.fz (.int .u8)).size=1:=rfl;simp only[Rel,ai,hs1,Nat.mul_one]at h1;rw[hs1,Nat.mul_one]at htk;have h2:xs[i]? = some (.int .u8 l[i]):=by have:=congrArg (λz:List Value=>z[0]?) h1.1;simpa using this
   have h3:cur.toList[off+i]? = some (.int .u8 l[i]):=by rw[←htk,fE,am hi,gn]at h2;exact h2
   simp only[World.cell?,hb];simp only[zb]at h3;simp[h3,List.getD,bU hi]
 ·exact ZE hB s d x u h hv
theorem aae(hB:TabOk P B)(hp:Hp F p M w)(x:V)(u:bw)(h:ae p.β M (Imm F p M w) w x u)(hv:ab (vr (B.τ t) M x).1):
  ∃r,(Builtin.len_ #[t] ty' #[u]).run P w=.ok r w/\ae p.β M (Imm F p M w) w (vr (B.τ t) M x).2 r:=by
 unfold vr at hv⊢;split at hv
 ·rename_i s;have hk:=ed hv;simp only[hk,aD]at hv⊢;simp only[bH,bJ,bC,ao]at hk;rw[←hB.τ t hk.1]at hk;obtain⟨inf,c,hi,hc⟩:=dn hk.1;rw[cV hi hc]at hk;have h2:=hk.2;simp only[d7]at h2;cases c<;>simp at h2;simp only[bp,AC]at h;obtain⟨rfl,hs⟩:=h;exact⟨.int .i64 s.size,by simp[Builtin.len_,cP hc,goInt],by simp only[bB,bp,dR,aL];exact tC hs⟩
 ·rename_i t' l;have hk:=ed hv;simp only[hk,aD]at hv⊢;simp only[bH,bJ,bC,ao]at hk;rw[←hB.τ t hk.1]at hk;simp only[bp,ai,bG,az]at h;obtain⟨oa,cap,rfl,⟨hn,_⟩,_⟩:=h;exact⟨.int .i64 l.length,Ap _ _ _ hk.1 (B0 hk.2),by simp only[bB,bp,dR,aL];exact tC hn⟩
 ·rename_i k' v' l;have hk:=ed hv;simp only[hk,aD]at hv⊢;simp only[bH,bJ,bC,ao]at hk;rw[←hB.τ t hk.1]at hk;simp only[bp,ai,bG,az]at h;obtain⟨oa,es,n,rfl,_,hb,⟨hn,_⟩,he⟩:=h;have:=QS (ty':=ty') hk.1 hk.2 hb;rw[PL he]at this;exact⟨.int .i64 l.length,this,by simp only[bB,bp,dR,aL];exact tC hn⟩
 ·rename_i t' l;have hk:=ed hv;simp only[hk,aD]at hv⊢;simp only[bH,bJ,bC,ao]at hk;rw[←hB.τ t hk.1]at hk;simp only[bp]at h
  obtain⟨oa,cap,hu,hn⟩:∃oa cap,u=.slice oa (l.getD []).length cap/\(l.getD []).length<=nb:=by
   simp only[ai]at h;rcases h with⟨rfl,h⟩|⟨y,_,_,_,rfl,h,hr⟩
   ·simp only[bG,az]at h;exact⟨none,0,h,fV _⟩
   ·simp only[ai,bG,az]at hr;obtain⟨oa,cap,rfl,⟨hn,_⟩,_⟩:=hr;exact⟨oa,cap,rfl,hn⟩
  subst hu;exact⟨.int .i64 (l.getD []).length,Ap _ _ _ hk.1 (B0 hk.2),by simp only[bB,bp,dR,aL];exact tC hn⟩
 ·have hk:=ed hv;simp only[hk,aD]at hv⊢;simp only[bH,bJ,bC,ao]at hk;rw[←hB.τ t hk.1]at hk;simp only[ae,ac,bG,az]at h;obtain⟨oa,rfl⟩:=h;exact⟨.int .i64 0,Ap _ _ _ hk.1 (B0 hk.2),by simp only[bB,bp,dR,aL];exact tC (fV _)⟩
 ·rename_i k π;simp only[ae,ac]at h;split at hv
  ·rename_i o l hg;have hk:=ed hv;simp only[hg,hk,aD]at hv⊢;simp only[bH,bJ,bC,ao]at hk;rw[←hB.τ t hk.1]at hk;obtain⟨S,hr⟩:=h.look hp hg;obtain⟨a,cap,h1,h2⟩:=adz hr;simp only[bG,az]at h1;subst h1;exact⟨.int .i64 l.length,Ap _ _ _ hk.1 (B0 hk.2),by simp only[bB,bp,dR,aL];exact tC h2⟩
  ·rename_i o l hg;have hk:=ed hv;simp only[hg,hk,aD]at hv⊢;simp only[bH,bJ,bC,ao]at hk;rw[←hB.τ t hk.1]at hk;obtain⟨S,hr⟩:=h.look hp hg;simp only[Rel,ai,bG,az]at hr;obtain⟨oa,cap,rfl,⟨hn,_⟩,_⟩:=hr;exact⟨.int .i64 l.length,Ap _ _ _ hk.1 (B0 hk.2),by simp only[bB,bp,dR,aL];exact tC hn⟩
  ·rename_i k' v' l hg;have hk:=ed hv;simp only[hg,hk,aD]at hv⊢;simp only[bH,bJ,bC,ao]at hk;rw[←hB.τ t hk.1]at hk;obtain⟨S,hr⟩:=h.look hp hg;simp only[Rel,bG,az]at hr;obtain⟨oa,es,n,rfl,_,hb,⟨hn,_⟩,he⟩:=hr;have:=QS (ty':=ty') hk.1 hk.2 hb;rw[PL he]at this;exact⟨.int .i64 l.length,this,by simp only[bB,bp,dR,aL];exact tC hn⟩
  ·exact hv.1.elim
 ·exact hv.1.elim
theorem II{o:Nat}(hok:(ty P t).ok=true)(hs:vs.length=(ty P t).size)(h1:(ty P t).agg=true\/(ty P t).size=1)(hc:iC w b o vs):
  (loadVar t ⟨b,o,none⟩).run P w=.ok (val (ty P t).agg vs) w:=by
 obtain⟨i,u,hi,hu⟩:=dn hok;rw[cV hi hu]at hs h1⊢;simp only[d7]at hs h1⊢;have hr:(loadCells ⟨b,o,none⟩ vs.length).run P w=.ok vs.toArray w:=run_loadCells_list w ⟨b,o,none⟩ vs (λj v hj=>by rw[rX];exact hc j v hj);rw[hs]at hr;have key:vs.length=1->∃v,vs=[v]/\w.cell? ⟨b,o,none⟩=some v:=λh=>by obtain⟨v,rfl⟩:=wo.1 h;exact⟨v,rfl,by simpa using hc 0 v rfl⟩
 cases u
 case struct fs=>simp[loadVar,isAgg,cP hu,sizeOf,typeInfo,hi,hr,val]
 case array n e=>simp[loadVar,isAgg,cP hu,sizeOf,typeInfo,hi,hr,val]
 all_goals
  simp at h1;obtain⟨v,rfl,hv⟩:=key (by rw[hs,h1]);simp[loadVar,isAgg,cP hu,hv,val]
theorem OL(hB:TabOk P B)(hp:Hp F p M w)(x:V)(u:bw)(h:ae p.β M (Imm F p M w) w x u)(hv:ab (lR (B.τ t) M x).1):
  ∃r,(Instr.loadAt t u).run P w=.ok r w/\ae p.β M (Imm F p M w) w (lR (B.τ t) M x).2 r:=by
 unfold lR at hv⊢;split at hv
 ·rename_i te y;have hk:=ed hv;simp only[hk,aD]at hv⊢;simp only[bH,bJ,bC,ao,dL,bN,eX,e9]at hk;have e:=hB.τ t hk.1;rw[←e]at hk⊢;simp only[bp,ai,bG,az]at h;obtain⟨b,o,us,rfl,h1,h2,h3⟩:=h;have hl:=ai.len te y us h3;refine⟨val (ty P t).agg us,?_,Ba (ko te y us h3) (λha=>?_)⟩
  ·have:=II (P:=P) hk.1 (by rw[hl,hk.2.1]) (by rw[←hk.2.1];exact hk.2.2) h2;simpa[Instr.loadAt,Instr.sureAddr]using this
  ·rw[hl];rcases hk.2.2 with h|h
   ·rw[ha]at h;cases h
   ·exact h
 ·rename_i k π;split at hv
  ·rename_i q hq;have hk:=ed hv;simp only[hq,hk,aD]at hv⊢;simp only[bH,bJ,bC,ao,dL,bN,eX,e9]at hk;have e:=hB.τ t hk.1;rw[←e]at hk⊢;simp only[ae,ac,bG,az,exists_eq_left']at h;obtain⟨S,us,b,off,cur,ty',rfl,h2,h3,h4,h5⟩:=h.look hp hq;have hl:=Rel.len _ _ _ _ h2;refine⟨val (ty P t).agg us,?_,Ba (Tt hp h5 hq) (λha=>?_)⟩
   ·have:=II (P:=P) (b:=b) (o:=off) hk.1 (by rw[hl];exact hk.2.1) (by rw[←hk.2.1];exact hk.2.2) (λj u hu=>by rw[lA w b _ cur ty' (0,0) h3];exact h4 j u hu);simpa[Instr.loadAt,Instr.sureAddr]using this
   ·rw[hl];rcases hk.2.2 with h|h
    ·rw[ha]at h;cases h
    ·exact h
  ·exact hv.1.elim
 ·rename_i v;have hk:=ed hv;simp only[hk,aD]at hv⊢;simp only[bH,bJ,bC,ao,dL,bN,eX,e9]at hk;have e:=hB.τ t hk.1;rw[←e]at hk⊢;simp only[ae,ac,bG,az]at h;obtain⟨b,o,us,rfl,h1,h2,h3⟩:=h;have hl:=nK hp v us _ h3 (mF hk.2.1);refine⟨val (ty P t).agg us,?_,Ba h3 (λha=>?_)⟩
  ·have:=II (P:=P) hk.1 hl hk.2.2 h2;simpa[Instr.loadAt,Instr.sureAddr]using this
  ·rw[hl];rcases hk.2.2 with h|h
   ·rw[ha]at h;cases h
   ·exact h
 ·exact hv.1.elim
structure Qt (p:Ow) (M:Mem) (p':Ow) (M':Mem) (w w':aQ):Prop where
 ext:Ext w w'
 old:∀j ob,go M j=some ob->go M' j=some ob/\p'.β j=p.β j/\p'.σ j=p.σ j
def cd(F:Fr)(p:Ow)(M:Mem)(w:aQ)(qt:bo)(r:Rs)(v:bw)(w':aQ):Prop:=∃p',Tr F p M w r.ev p' r.M w'/\(∀b,¬p'.L b)/\ae p'.β r.M (Imm F p' r.M w') w' r.av v/\(fresh M r.ev=true->qt=true->Qt p M p' r.M w w')
theorem cd.pure(h:Hp F p M w)(hL:∀b,¬p.L b){q:Cr}(hv:ae p.β M (Imm F p M w) w q.2 v)(qt:bo):cd F p M w qt (bR q M) v w:=⟨p,Tr.refl h,hL,hv,λ_ _=>⟨Ext.refl w,λj ob hj=>⟨hj,rfl,rfl⟩⟩⟩
theorem aaa(a b:T):mkP ⟨a.deep,a.deep.dflt⟩ ⟨b.deep,b.deep.dflt⟩=⟨(T.p a b).deep,(T.p a b).deep.dflt⟩:=by simp only[T.deep];generalize a.deep=x;generalize b.deep=y;cases x<;>cases y<;>rfl
theorem Q4(k:ij):inK k 0:=by cases k<;>simp[inK,IntKind.min,IntKind.max,IntKind.signed,IntKind.bits]
theorem tj{Im:aT}{w:aQ}:(t:T)->(zs:aM)->dO t zs=true->Rel Im w t.deep t.deep.dflt (λ_=>False) zs/\∀β M,ac β M Im w (iT t) zs
 |.p a b,zs,h=>by
  simp only[dO,aP,ao,AE,Eb]at h;obtain⟨a1,a2⟩:=tj (Im:=Im) (w:=w) a _ h.1;obtain⟨b1,b2⟩:=tj (Im:=Im) (w:=w) b _ h.2;refine⟨?_,λβ M=>?_⟩
  ·have:=EE (a:=⟨a.deep,a.deep.dflt⟩) (b:=⟨b.deep,b.deep.dflt⟩) (S:=λ_=>False) (λc hc=>hc) (λc hc=>hc) (λc hc=>hc.elim) a1 b1;rw[aaa,jb]at this;exact this
  ·simp only[iT,ac];exact⟨_,_,(jb a.size zs).symm,a2 β M,b2 β M⟩
 |.u,zs,h=>by
  cases zs with
  |nil=>exact⟨by simp only[T.deep,Rel,ai],λβ M=>by simp only[iT,ac]⟩
  |cons _ _=>simp[dO]at h
 |.int k,zs,h=>by
  have:zs=[.int k 0]:=by
   rcases zs with _|⟨v,_|⟨_,_⟩⟩
   ·simp[dO]at h
   ·cases v<;>try (simp[dO]at h)
    rename_i k' n;rcases n with (_|n)|n
    ·simp only[dO]at h;rw[nI h];rfl
    ·exact nomatch (show (false:bo)=true from h)
    ·exact nomatch (show (false:bo)=true from h)
   ·simp[dO]at h
  subst this;exact⟨by simp only[T.deep,Rel,ai,O.dflt,T.dflt];exact⟨trivial,Q4 _⟩,λβ M=>by simp only[iT,ac,ai,T.dflt];exact⟨trivial,Q4 _⟩⟩
 |.bool,zs,h=>by
  have:zs=[.bool false]:=by
   rcases zs with _|⟨v,_|⟨_,_⟩⟩
   ·simp[dO]at h
   ·cases v<;>try (simp[dO]at h)
    rw[h]
   ·simp[dO]at h
  subst this;exact⟨by simp only[T.deep,Rel,ai,O.dflt,T.dflt],λβ M=>by simp only[iT,ac,ai,T.dflt]⟩
 |.str,zs,h=>by
  have:∃s:ByteArray,zs=[.string s]/\s=ByteArray.empty:=by
   rcases zs with _|⟨v,_|⟨_,_⟩⟩
   ·simp[dO]at h
   ·cases v<;>try (simp[dO]at h)
    exact⟨_,rfl,by simpa using h⟩
   ·simp[dO]at h
  obtain⟨s,rfl,rfl⟩:=this;exact⟨by simp only[T.deep,Rel,ai,O.dflt,T.dflt];exact⟨trivial,fV _⟩,λβ M=>by simp only[iT,ac,ai,T.dflt];exact⟨trivial,fV _⟩⟩
 |.sl e,zs,h=>by
  have:zs=[.slice none 0 0]:=by
   rcases zs with _|⟨v,_|⟨_,_⟩⟩
   ·simp[dO]at h
   ·cases v<;>try (simp[dO]at h)
    rename_i a n c
    cases a with
    |some _=>simp[dO]at h
    |none=>rcases n with _|n<;>rcases c with _|c<;>first|rfl|(simp[dO]at h)
   ·simp[dO]at h
  subst this;exact⟨by simp only[T.deep,O.dflt];exact AW e.deep none,λβ M=>by simp only[iT,ac];exact⟨none,rfl⟩⟩
 |.ns e,zs,h=>by
  have:zs=[.slice none 0 0]:=by
   rcases zs with _|⟨v,_|⟨_,_⟩⟩
   ·simp[dO]at h
   ·cases v<;>try (simp[dO]at h)
    rename_i a n c
    cases a with
    |some _=>simp[dO]at h
    |none=>rcases n with _|n<;>rcases c with _|c<;>first|rfl|(simp[dO]at h)
   ·simp[dO]at h
  subst this;exact⟨by simp only[T.deep,Rel,ai];exact .inl ⟨rfl,trivial⟩,λβ M=>by simp only[iT,ac,ai];exact .inl ⟨rfl,trivial⟩⟩
 |.er e,zs,h|.pt e,zs,h|.fn f e,zs,h=>by rcases zs with _|⟨v,_|⟨_,_⟩⟩<;>simp[dO]at h
 |.any,zs,h=>by
  have:∃v:Value,zs=[v]/\v.oneCell'=true:=by
   rcases zs with _|⟨v,_|⟨_,_⟩⟩
   ·simp[dO]at h
   ·exact⟨v,rfl,by simpa[dO]using h⟩
   ·simp[dO]at h
  obtain⟨v,rfl,hv⟩:=this;exact⟨by simp only[T.deep,Rel,ai];exact⟨v,rfl,hv⟩,λβ M=>by simp only[iT,ac,ai];exact⟨v,rfl,hv⟩⟩
theorem uT(p:Ow)(k:Nat)(v:bw)(r:aT):(p.upd k v r).β k=v:=by simp[Ow.upd,Ow.updL]
theorem mG(k:Nat)(ob:Ob)(M:Mem):go ((k,ob)::M) k=some ob:=by rw[cJ,am rfl]
theorem KA{r:aT}(hf:go M k=none)(he:Ext w w'):Qt p M (p.upd k v r) ((k,ob)::del k M) w w':=
 ⟨he,λj o hj=>by
  have hne:j≠k:=by rintro rfl;rw[hf]at hj;cases hj
  exact⟨by rw[cJ,aj (cM hne),dC hne,hj],by simp[Ow.upd,Ow.updL,hne],by simp[Ow.upd,Ow.updL,hne]⟩⟩
theorem Ee{e:bM}(h:fresh M (.kl k::e)=true):go M k=none/\fresh M e=true:=by
 simp only[fresh,aP,ao]at h;refine⟨?_,h.2⟩
 cases hg:go M k with
 |none=>rfl
 |some _=>rw[hg]at h;simp[isN]at h
theorem xh{x:Ev}{r:bM}(h:fresh M [x]=false):fresh M (x::r)=false:=by
 cases x with
 |kl j=>simp only[fresh,aP,bC]at h⊢;rw[h];rfl
 |mv _ _|cut _ _ _|fz _ _|un _ _|kn _ _|tk _ _ _=>rfl
theorem Pd{x:Ev}(h:fresh (del k M) [x]=false):fresh M [x]=false:=by
 cases x with
 |kl j=>
  simp only[fresh,aP,bC]at h⊢;by_cases e:j=k
  ·subst e;rw[eJ]at h;simp[isN]at h
  ·rw[dC e]at h;exact h
 |mv _ _|cut _ _ _|fz _ _|un _ _|kn _ _|tk _ _ _=>rfl
theorem Rt(h:Hp F p M w)(hL:∀b,¬p.L b)(k:Nat)(e:bF)(hcs:cs.toList=vs)(hc:Cv F p (del k M) w k q e0 vs p1 M1 S)(hk1:go M1 k=none)(qt:bo):cd F p M w qt ⟨[],.ad k [.de],.kl k::e0,(k,⟨.pt q.o,q.x⟩)::M1⟩ (.pointer (some ⟨w.heap.size,0,none⟩)) (w.alloc (.cells cs e)):=by
 have hext:Ext w (w.alloc (.cells cs e)):=Ext.of_grown (zc w _ none) (bd _);have hnew:(w.alloc (.cells cs e)).heap[w.heap.size]? = some (.cells cs e (0,0)):=rY w _;have hcs':cs=vs.toArray:=by rw[←hcs]
 have hSsz:∀b,S b->b<w.heap.size:=λb hb=>(hc.tr.hp.lim b ((hc.L b).2 (.inr hb))).1
 have ht1:Tr F p1 M1 w [] (p1.upd k (.pointer (some ⟨w.heap.size,0,none⟩)) (λb=>b=w.heap.size\/S b)) ((k,⟨.pt q.o,q.x⟩)::M1) (w.alloc (.cells cs e)):=by
  refine Tr.new hc.tr.hp k hk1 _ _ _ (hext.toL _) (λb hb=>?_) (λhkp=>?_)
  ·rcases hb with rfl|hb
   ·exact .inl ⟨bd _,(cN.1 hnew).1⟩
   ·exact .inr ((hc.L b).2 (.inr hb))
  ·simp only[Rel];refine⟨w.heap.size,vs,e,S,rfl,.inl rfl,by rw[←hcs'];exact hnew,λc hcS=>⟨.inr hcS,λe'=>by have:=hSsz c hcS;omega⟩,?_⟩;exact Rel.keep hkp _ _ _ _ (λb hb=>hext.old b (hSsz b hb)) hc.rel
 have htr:Tr F p M w (.kl k::e0) (p1.upd k (.pointer (some ⟨w.heap.size,0,none⟩)) (λb=>b=w.heap.size\/S b)) ((k,⟨.pt q.o,q.x⟩)::M1) (w.alloc (.cells cs e)):=by
  have h1:=(Tr.kl h k).trans (hc.tr.trans ht1);have e1:ap [Ev.kl k] (ap e0 [])=.kl k::e0:=by rw[eL,eL];simp
  rw[e1]at h1;exact h1
 refine⟨_,htr,λb hb=>hb,?_,λhf _=>?_⟩
 ·simp only[ae,ac];refine⟨_,rfl,⟨.pt q.o,q.x⟩,cellsOf (w.alloc (.cells cs e)) w.heap.size 0 q.o.size,w.heap.size,0,mG _ _ _,by simp only[gok],⟨⟨q.o,q.x⟩,by simp only[get]⟩,rfl,?_,rfl⟩;rw[uT];simp only[res]
 ·obtain⟨hf1,hf2⟩:=Ee hf;rcases hc.fr with⟨rfl,rfl,rfl⟩|⟨x,r,rfl,hx⟩
  ·exact KA hf1 hext
  ·rw[xh (Pd hx)]at hf2;cases hf2
abbrev jN:Type:=Nat->Nat->Prop
theorem RG(h:Hp F p M w)(k:Nat){l:List o.strip.den}{T:jN}(ht:Tr F p (del k M) w e0 p1 M1 w)(hk1:go M1 k=none)(hg:w.grownBy w' none/\w.drawn<=w'.drawn)(hown:w'.ownsRow 0 ety o.size v l.length xs)(hroot:∀b,dv v=some b->w.heap.size<=b/\b<w'.heap.size)(hl:l.length<=nb)(hT:∀i c,T i c->p1.L c)(hTd:∀i j c,i≠j->T i c->¬T j c)(hrows:∀(i:Nat)(x:o.strip.den),l[i]? = some x->Rel (Imm F p1 M1 w) w o x (T i) ((xs.drop (i*o.size)).take o.size))(hfr:(e0=[]/\M1=del k M/\p1=p)\/∃x r,e0=x::r/\fresh (del k M) [x]=false)(qt:bo):cd F p M w qt ⟨[],.ref k [],.kl k::e0,(k,⟨.sl o,l⟩)::M1⟩ v w':=by
 obtain⟨hg,hgd⟩:=hg;have hext:Ext w w':=Ext.of_grown hg hgd;have hTs:∀i b,T i b->b<w.heap.size:=λi b hb=>(ht.hp.lim b (hT i b hb)).1
 have ht1:Tr F p1 M1 w [] (p1.upd k v (λb=>dv v=some b\/∃i,T i b)) ((k,⟨.sl o,l⟩)::M1) w':=by
  refine Tr.new ht.hp k hk1 _ _ _ (hext.toL _) (λb hb=>?_) (λhkp=>?_)
  ·rcases hb with hb|⟨i,hb⟩
   ·exact .inl (hroot b hb)
   ·exact .inr (hT i b hb)
  ·simp only[Rel];refine⟨v,ety,xs,T,rfl,Fj hown,hl,λc hc=>.inl hc,λi c hc=>⟨.inr ⟨i,hc⟩,λe=>by have:=hTs i c hc;have:=(hroot c e).1;omega⟩,hTd,λi x hx=>?_⟩;exact Rel.keep hkp _ _ _ _ (λb hb=>hext.old b (hTs i b hb)) (hrows i x hx)
 have htr:Tr F p M w (.kl k::e0) (p1.upd k v (λb=>dv v=some b\/∃i,T i b)) ((k,⟨.sl o,l⟩)::M1) w':=by
  have h1:=(Tr.kl h k).trans (ht.trans ht1);have e1:ap [Ev.kl k] (ap e0 [])=.kl k::e0:=by rw[eL,eL];simp
  rw[e1]at h1;exact h1
 refine⟨_,htr,λb hb=>hb,?_,λhf _=>?_⟩
 ·simp only[ae,ac];refine⟨⟨.sl o,l⟩,none,mG _ _ _,by simp only[gok],⟨⟨.sl o,l⟩,by simp only[get]⟩,?_⟩;rw[uT];simp only[res]
 ·obtain⟨hf1,hf2⟩:=Ee hf;rcases hfr with⟨rfl,rfl,rfl⟩|⟨x,r,rfl,hx⟩
  ·exact KA hf1 hext
  ·rw[xh (Pd hx)]at hf2;cases hf2
theorem Be(h:Hp F p M w)(k:Nat):Hp F p (del k M) w:=(h.del k).1
theorem A6(t:T):t.deep.size=t.size:=by unfold O.size;rw[T.deep_strip]
theorem uY(hB:TabOk P B)(h:B.z t=true):∃i z,P.info? t=some i/\i.zero=some z/\dO (B.σ t) z.cells.toList=true:=by obtain⟨zs,h1,h2⟩:=hB.z t h;obtain⟨i,z,h3,h4,rfl⟩:=B_ h1;exact⟨i,z,h3,h4,h2⟩
theorem abj(hB:TabOk P B)(h:Hp F p M w)(hL:∀b,¬p.L b)(o:eP)(hv:ab (y7 B t o M).vc)(qt:bo)(hop:op.op=.alloc t):
  ∃v w',(execOp a.eval op).run P w=.ok (.value v) w'/\cd F p M w qt (y7 B t o M) v w':=by
 unfold y7 at hv⊢
 cases o with
 |none=>exact hv.1.elim
 |some k=>
  simp only at hv⊢
  cases hk:aO [(B.τ t).ok,B.z t]with
  |false=>rw[hk]at hv;exact hv.1.elim
  |true=>
   simp only[aD];simp only[bH,bJ,bC,ao]at hk;obtain⟨i,z,hi,hz,h0⟩:=uY hB hk.2;refine⟨.pointer (some ⟨w.heap.size,0,none⟩),w.alloc (.cells z.cells t),by simp[execOp,hop,Instr.alloc,zeroValue,typeInfo,hi,hz,newVar,newRow],?_⟩
   have:=Rt h hL k t (q:=⟨(B.σ t).deep,(B.σ t).deep.dflt⟩) (cs:=z.cells) rfl
    ⟨rfl,λb=>(or_false _).symm▸jQ,λb hb=>hb.elim,Tr.refl (Be h k),(tj (B.σ t) _ h0).1,.inl ⟨rfl,rfl,rfl⟩⟩ (eJ k M) qt
   exact this
theorem aaq(h:Hp F p M w)(hL:∀b,¬p.L b)(o:eP)(x:V)(y:dJ)(hx:ae p.β M (Imm F p M w) w x (a.eval y))(hv:ab (F7 B t o x M).vc)(qt:bo)(hop:op.op=.box t y):
  ∃v w',(execOp a.eval op).run P w=.ok (.value v) w'/\cd F p M w qt (F7 B t o x M) v w':=by
 unfold F7 at hv⊢
 cases o with
 |none=>exact hv.1.elim
 |some k=>
  simp only at hv⊢;split at hv
  ·rename_i q e M' hc;refine⟨.pointer (some ⟨w.heap.size,0,none⟩),w.alloc (.cells (a.eval y).cells t),by simp[execOp,hop,Instr.box,newVar,newRow],?_⟩;have hcv:fP x=true:=by cases x<;>first|rfl|(exfalso;revert hc;simp only[V.cells,V.ev];cases B.σ t<;>simp[conv])
   have h1:=(Tr.kl h k).c _ _ (xm h hx hcv);obtain⟨g,p',S,cv⟩:=uW k (B.σ t) _ (del k M) p _ q e M' (Be h k) h1 hc;exact Rt h hL k t rfl cv (by rw[g];exact eJ k M) qt
  ·cases hs:x.cells.size M with
   |none=>rw[hs]at hv;exact hv.1.elim
   |some n=>
   simp only[isN,gu,Bool.not_false,aD]at hv⊢;have hcv:fP x=true:=Ax hs;have hx1:=xm h hx hcv;have hext:Ext w (w.alloc (.cells (a.eval y).cells t)):=Ext.of_grown (zc w _ none) (bd _);have hnew:(w.alloc (.cells (a.eval y).cells t)).heap[w.heap.size]? = some (.cells (a.eval y).cells t (0,0)):=rY w _;have ht:=Tr.ext h hext;refine⟨.pointer (some ⟨w.heap.size,0,none⟩),w.alloc (.cells (a.eval y).cells t),by simp[execOp,hop,Instr.box,newVar,newRow],p,ht,hL,?_,λ_ _=>⟨hext,λj ob hj=>⟨hj,rfl,rfl⟩⟩⟩;simp only[ae,ac,bG,az];refine⟨w.heap.size,0,(a.eval y).cells.toList,rfl,⟨(cN.1 hnew).1,.inr (.inr h.size),hL _,λj hj hb=>?_⟩,λj u hu=>?_,?_⟩
   ·have:=(h.own j _ hj hb).1;omega
   ·rw[lA _ _ _ _ t (0,0) hnew];simpa using hu
   ·have:=ht.c _ _ hx1;simpa only [V.evs]using this
theorem OY(off:Nat):∀(vs:aM)(k:Nat)(cells:nz),off+k+vs.length<=cells.size->
  ((vs.zipIdx k).foldl (λ(cs:nz) (x:Value×Nat)=>cs.setIfInBounds (off+x.2) x.1) cells).toList=cells.toList.take (off+k)++vs++cells.toList.drop (off+k+vs.length)
 |[],k,cells,_=>ak
 |v::r,k,cells,h=>by
  simp only[List.zipIdx_cons,iA];simp only[aX]at h;rw[OY off r (k+1) (cells.setIfInBounds (off+k) v) (by simp;omega)];simp only[Array.toList_setIfInBounds,aX]
  have h1:(cells.toList.set (off+k) v).take (off+(k+1))=cells.toList.take (off+k)++[v]:=by
   apply mo;intro j;simp only[fE,o9,List.getElem?_append,dW,rW];by_cases hj:j<off+k
   ·rw[am aa,aj aa,am aa,am hj]
   ·by_cases hj2:j=off+k
    ·subst hj2;rw[am aa,am rfl,am aa,aj aa,Cz aa];simp
    ·rw[aj aa,aj aa,Cz aa];simp;omega
  have h2:(cells.toList.set (off+k) v).drop (off+(k+1)+r.length)=cells.toList.drop (off+k+(r.length+1)):=by rw[List.drop_set_of_lt aa];congr 1;omega
  rw[h1,h2];simp
theorem Po{i:Nat}(hp:place i=some (off,n))(hn:v.cells.size=n)(hb:off+n<=cells.size):
  ∃cells':Array Value,cells'.toList=df cells.toList off v.cells.toList/\Instr.fill place cells ((i,v)::vals)=Instr.fill place cells' vals:=by
 refine⟨v.cells.zipIdx.foldl (λcs (c,j)=>cs.setIfInBounds (off+j) c) cells,?_,?_⟩
 ·have hf:=OY off v.cells.toList 0 cells (by simp;omega);rw[←Array.foldl_toList,Array.toList_zipIdx,hf];simp only[df,Nat.add_zero]
 ·simp only[Instr.fill,hp];rw[aj];simp only[ne_eq,e9,db,not_or,Decidable.not_not,Nat.not_lt];omega
theorem Kf(hp:Hp F p M w):(π:bz)->(v y v':V)->(vs us:aM)->(n:Nat)->(z:V)->ac p.β M (Imm F p M w) w v vs->dM M π v=some (n,z)->z.size M=some us.length->ac p.β M (Imm F p M w) w y us->iQ π v y=some v'->
  ac p.β M (Imm F p M w) w v' (df vs n us)/\n+us.length<=vs.length
 |[],v,y,v',vs,us,n,z,r,hs,hz,hy,h=>by
  have:dM M [] v=some (0,v):=by cases v<;>rfl
  rw[this]at hs;cases hs;have:iQ [] v y=some y:=by cases v<;>rfl
  rw[this]at h;cases h;have hl:=nK hp v vs _ r hz;refine⟨?_,aa⟩;unfold df;rw[jO,←hl,List.drop_length];simpa using hy
 |.l::π,.p a b,y,v',vs,us,n,z,r,hs,hz,hy,h=>by
  simp only[dM]at hs;simp only[iQ]at h;simp only[ac]at r;obtain⟨va,vb,rfl,ha,hb⟩:=r;split at h
  ·rename_i q hq;cases h;obtain⟨k1,k2⟩:=Kf hp π a y q va us n z ha hs hz hy hq;refine⟨?_,by rw[bn];omega⟩;simp only[ac];exact⟨_,vb,(Pz k2).symm,k1,hb⟩
  ·cases h
 |.r::π,.p a b,y,v',vs,us,n,z,r,hs,hz,hy,h=>by
  simp only[dM]at hs;simp only[iQ]at h;simp only[ac]at r;obtain⟨va,vb,rfl,ha,hb⟩:=r;split at hs
  ·rename_i m n' v1 hm hs1;cases hs;split at h
   ·rename_i q hq;cases h;obtain⟨k1,k2⟩:=Kf hp π b y q vb us n' z hb hs1 hz hy hq;have hl:=nK hp a va m ha hm;refine⟨?_,by rw[bn,E9];omega⟩;simp only[ac];exact⟨va,_,by rw[Qq,hl,E9],ha,k1⟩
   ·cases h
  ·cases hs
 |.l::_,.any,_,_,_,_,_,_,_,_,_,_,h|.l::_,.nl,_,_,_,_,_,_,_,_,_,_,h|.l::_,.np,_,_,_,_,_,_,_,_,_,_,h|.l::_,.u,_,_,_,_,_,_,_,_,_,_,h|.l::_,.d _ _,_,_,_,_,_,_,_,_,_,_,h|.l::_,.ref _ _,_,_,_,_,_,_,_,_,_,_,h|.l::_,.ad _ _,_,_,_,_,_,_,_,_,_,_,h|.l::_,.ag _,_,_,_,_,_,_,_,_,_,_,h|.l::_,.tup _,_,_,_,_,_,_,_,_,_,_,h|.l::_,.gd _ _ _ _,_,_,_,_,_,_,_,_,_,_,h|.l::_,.fn _ _,_,_,_,_,_,_,_,_,_,_,h|.l::_,.ifc _ _,_,_,_,_,_,_,_,_,_,_,h|.l::_,.bx _,_,_,_,_,_,_,_,_,_,_,h|.r::_,.any,_,_,_,_,_,_,_,_,_,_,h|.r::_,.nl,_,_,_,_,_,_,_,_,_,_,h|.r::_,.np,_,_,_,_,_,_,_,_,_,_,h|.r::_,.u,_,_,_,_,_,_,_,_,_,_,h|.r::_,.d _ _,_,_,_,_,_,_,_,_,_,_,h|.r::_,.ref _ _,_,_,_,_,_,_,_,_,_,_,h|.r::_,.ad _ _,_,_,_,_,_,_,_,_,_,_,h|.r::_,.ag _,_,_,_,_,_,_,_,_,_,_,h|.r::_,.tup _,_,_,_,_,_,_,_,_,_,_,h|.r::_,.gd _ _ _ _,_,_,_,_,_,_,_,_,_,_,h|.r::_,.fn _ _,_,_,_,_,_,_,_,_,_,_,h|.r::_,.ifc _ _,_,_,_,_,_,_,_,_,_,_,h|.r::_,.bx _,_,_,_,_,_,_,_,_,_,_,h|.ix _::_,_,_,_,_,_,_,_,_,_,_,_,h|.de::_,_,_,_,_,_,_,_,_,_,_,_,h=>by simp[iQ]at h
theorem IR(hp:Hp F p M w)(place:Nat->Option (bz×Nat×Nat))(f:dI)(g:Operand->Value):(parts:ou)->(v v':V)->(cells:nz)->(∀q∈parts,ae p.β M (Imm F p M w) w (f q.2) (g q.2))->
  ac p.β M (Imm F p M w) w v cells.toList->lN M place f parts v=some v'->
  ∃cells',Instr.fill (λi=>(place i).map λq=>q.2) cells (parts.map λq=>(q.1,g q.2))=some cells'/\ac p.β M (Imm F p M w) w v' cells'.toList
 |[],v,v',cells,_,r,h=>by simp only[lN,aI]at h;subst h;exact⟨cells,rfl,r⟩
 |(i,x)::parts,v,v',cells,hfg,r,h=>by
  simp only[lN]at h;split at h
  ·rename_i π off n hpl;split at h
   ·rename_i m z hs
    cases hk:aO [bT m off,eK M z n,eK M (f x).cells n]with
    |false=>rw[hk]at h;cases h
    |true=>
     rw[hk]at h;simp only[aD]at h;simp only[bH,bJ,bC,ao,dL,bN]at hk;obtain⟨rfl,k2,k3⟩:=hk;split at h
     ·rename_i v1 hv1;have hc:=xm hp (hfg (i,x) ak) (Ax (mF k3));have hn:=nK hp _ _ _ hc (mF k3);obtain⟨s1,s2⟩:=Kf hp π v (f x).cells v1 cells.toList (g x).cells.toList m z r hs (by rw[hn];exact mF k2) hc hv1;simp only[rW]at hn s2;obtain⟨cells1,c1,c2⟩:=Po (place:=λi=>(place i).map λq=>q.2) (cells:=cells) (i:=i) (v:=g x) (vals:=parts.map λq=>(q.1,g q.2)) (off:=m) (n:=n) (by simp[hpl]) hn aa;rw[←c1]at s1;obtain⟨cells',e1,e2⟩:=IR hp place f g parts v1 v' cells1 (λq hq=>hfg q (by simp[hq])) s1 h;exact⟨cells',by rw[iN,c2];exact e1,e2⟩
     ·cases h
   ·cases h
  ·cases h
theorem ON{pl pl':Nat->Option (Nat×Nat)}(h:∀i q,pl i=some q->pl' i=some q):∀(l:List (Nat×Value)) (cells cells':nz),Instr.fill pl cells l=some cells'->Instr.fill pl' cells l=some cells'
 |[],cells,cells',hf=>hf
 |(i,v)::l,cells,cells',hf=>by
  unfold Instr.fill at hf⊢
  cases hp:pl i with
  |none=>simp only[hp]at hf;cases hf
  |some q=>
   obtain⟨off,n⟩:=q;simp only[hp]at hf;simp only[h i _ hp];split at hf
   ·cases hf
   ·rename_i hc;rw[aj hc];exact ON h l _ _ hf
theorem cK(x:Array α):toL x=x.toList:=by cases x;rfl
theorem Zv(hB:TabOk P B)(hp:Hp F p M w)(hL:∀b,¬p.L b)(f:dI)(hf:∀q∈parts.toList,ae p.β M (Imm F p M w) w (f q.2) (a.eval q.2))(hv:ab (oR B t (toL parts) f M).vc)(qt:bo)(hop:op.op=.build t parts):
  ∃v w',(execOp a.eval op).run P w=.ok (.value v) w'/\cd F p M w qt (oR B t (toL parts) f M) v w':=by
 unfold oR at hv⊢
 cases hk:aO [(B.τ t).ok,yr B (B.τ t),B.z t]with
 |false=>rw[hk]at hv;exact hv.1.elim
 |true=>
  rw[hk]at hv;simp only[aD]at hv⊢;simp only[bH,bJ,bC,ao]at hk;split at hv
  ·rename_i v hev;have eτ:=hB.τ t hk.1
   cases harr:(B.τ t).arr with
   |some q=>
    obtain⟨e,n⟩:=q;have hbo:=hk.2.1;simp only[yr,harr]at hbo;have ee:=hB.τ e hbo;obtain⟨inf,z,hi,hz,h0⟩:=uY hB hk.2.2;obtain⟨ie,ue,hie,hue⟩:=dn (by rw[ee];exact hbo);obtain⟨inf',u,hi',hu⟩:=dn (P:=P) (t:=t) (by rw[eτ];exact hk.1);rw[hi]at hi';cases hi';have hu2:u=.array n e:=by rw[←eτ,cV hi hu]at harr;simp only[d7]at harr;cases u<;>simp at harr;rw[harr.1,harr.2]
    subst hu2;have hsz:(B.τ e).size=ie.size:=by rw[←ee,cV hie hue];rfl
    rw[cK]at hev;obtain⟨cells',h1,h2⟩:=IR hp _ f a.eval parts.toList (iT (B.σ t)) v z.cells hf ((tj (B.σ t) _ h0).2 _ _) hev
    have hb:P.built t (parts.toList.map λq=>(q.1,a.eval q.2))=some cells':=by
     simp only[Program.built,hi,hu,hz,hie];refine ON (λi q hq=>?_) _ _ _ h1;simp only[Gb,harr]at hq
     cases hl:Nat.ble (Nat.succ i) n with
     |false=>rw[hl]at hq;cases hq
     |true=>rw[hl]at hq;simp only[aD,fq,aI]at hq;rw[←hq,hsz];rfl
    refine⟨.agg cells',w,?_,?_⟩
    ·have:=run_build w t ((parts.toList.map λq=>(q.1,a.eval q.2)).toArray) cells' (by simpa using hb);simp only[execOp,hop,fW];rw[show (parts.map λx=>match x with|(i,x)=>(i,a.eval x))=(parts.toList.map λq=>(q.1,a.eval q.2)).toArray from by apply mq;simp];rw[this];rfl
    ·refine cd.pure (q:=([],.ag v)) hp hL ?_ qt;simp only[ae];exact⟨cells'.toList,ak,h2⟩
   |none=>
   have hpl:Gb B (B.τ t)=λi=>(match dT (B.τ t).fld i with|some q=>some (nW (len (B.τ t).fld) i,q.1,q.2.2)|none=>none):=by funext i;simp only[Gb,harr];cases dT (B.τ t).fld i<;>rfl
   rw[hpl]at hev;simp only[yr,harr]at hk;rw[←eτ]at hk hev;obtain⟨inf,z,hi,hz,h0⟩:=uY hB hk.2.2;obtain⟨inf',u,hi',hu⟩:=dn hk.1;rw[hi]at hi';cases hi';rw[cV hi hu]at hk hev;have hsz:=hk.2.1;simp only[d7]at hsz hev;cases u<;>simp at hsz
   case struct fs=>
    simp only at hev;rw[cK]at hev;obtain⟨cells',h1,h2⟩:=IR hp _ f a.eval parts.toList (iT (B.σ t)) v z.cells hf ((tj (B.σ t) _ h0).2 _ _) hev
    have hb:P.built t (parts.toList.map λq=>(q.1,a.eval q.2))=some cells':=by
     have hplaces:fs.toList.mapM (λf=>(P.info? f.type).map λi=>(f.offset,i.size))=some (fs.toList.map λf=>(f.offset,P.cellsOf f.type)):=by
      have v3':∀f∈fs.toList,(P.info? f.type).isSome=true:=λf hfm=>by obtain⟨i,hi',rfl⟩:=Array.getElem_of_mem (jS.1 hfm);exact hsz i hi'
      generalize fs.toList=l at v3'
      induction l with
      |nil=>rfl
      |cons f l ih=>
       have hf':=v3' f ak
       cases hif:P.info? f.type with
       |none=>rw[hif]at hf';cases hf'
       |some i'=>simp only[C0,fq,iN,ih (λg hg=>v3' g (by simp[hg])),Program.cellsOf,hif];rfl
     simp only[Program.built,hi,hu,hz,hplaces];rw[←h1];congr 1
     funext i
     simp only[ti,gJ,List.getElem?_toArray];cases fs.toList[i]?<;>rfl
    refine⟨.agg cells',w,?_,?_⟩
    ·have:=run_build w t ((parts.toList.map λq=>(q.1,a.eval q.2)).toArray) cells' (by simpa using hb);simp only[execOp,hop,fW];rw[show (parts.map λx=>match x with|(i,x)=>(i,a.eval x))=(parts.toList.map λq=>(q.1,a.eval q.2)).toArray from by apply mq;simp];rw[this];rfl
    ·refine cd.pure (q:=([],.ag v)) hp hL ?_ qt;simp only[ae];exact⟨cells'.toList,ak,h2⟩
  ·exact hv.1.elim
theorem RZ(x:α)(n:Nat):iJ x n=List.replicate n x:=by
 induction n with
 |zero=>rfl
 |succ n ih=>rw[iJ,ih];rfl
theorem R3(l:List α)(i:Nat)(y:α):tQ l i y=l.set i y:=by
 induction l generalizing i with
 |nil=>rfl
 |cons x l ih=>cases i with
  |zero=>rfl
  |succ i=>rw[tQ,ih];rfl
theorem I'(q:α->Bool)(l:List α):BV q l=true<->∀x∈l,q x=true:=by
 induction l with
 |nil=>simp[BV]
 |cons x l ih=>simp only[BV,cz,forall_eq_or_imp];cases h:q x<;>simp[ih]
def yw(β:fD)(M:Mem)(Im:aT)(w:aQ)(sz:Nat)(l:cf)(xs:aM):Prop:=xs.length=l.length*sz/\∀(i:Nat)(v:V),l[i]? = some v->ac β M Im w v ((xs.drop (i*sz)).take sz)
theorem NC(z:bw)(size:Nat)(hzl:z.cells.size=size):∀m,(madeCells z.cells (m*size)).toList=(List.replicate m z.cells.toList).flatten:=by
 intro m;apply mo;intro j;by_cases hj:j<m*size
 ·have hpos:0<size:=wt (λh0=>by rw[h0]at hj;omega);have hmod:=Nat.mod_lt j hpos;have h1:(madeCells z.cells (m*size)).toList[j]? = some (z.cells[j%z.cells.size]!):=by simp[madeCells,hj]
  rw[h1,hzl]
  have key:∀(m j:Nat),j<m*size->((List.replicate m z.cells.toList).flatten)[j]? = some z.cells[j%size]!:=by
   intro m
   induction m with
   |zero=>intro j hj;omega
   |succ m ih=>
    intro j hj;rw[uo,wu,List.getElem?_append];simp only[rW,hzl];by_cases hjs:j<size
    ·rw[am hjs,Nat.mod_eq_of_lt hjs];simp[hzl,hjs,getElem!_pos]
    ·rw[aj hjs,ih (j-size) (by rw[lB]at hj;omega)];congr 2;rw[←Nat.mod_eq_sub_mod aa]
  rw[key m j hj]
 ·rw[ja (by simp[madeCells];omega),ja];simp[hzl];omega
theorem IX{zs:aM}:∀(n i:Nat),i<n->(((List.replicate n zs).flatten.drop (i*zs.length)).take zs.length)=zs
 |0,i,h=>aa
 |n+1,0,h=>by simp[uo]
 |n+1,i+1,h=>by rw[uo,wu,um,Nat.add_comm,←wn,Cs];exact IX n i aa
theorem yw.rep{v:V}(h:ac β M Im w v zs)(n:Nat):yw β M Im w zs.length (iJ v n) (List.replicate n zs).flatten:=by
 rw[RZ];refine⟨ak,λi x hx=>?_⟩;rw[G5]at hx;split at hx
 ·rename_i hi;cases hx;rw[IX n i hi];exact h
 ·cases hx
theorem O0(hp:Hp F p M w){sz:Nat}(f:dI)(g:Operand->Value):(parts:ou)->(l l':cf)->(cells:nz)->(∀q∈parts,ae p.β M (Imm F p M w) w (f q.2) (g q.2))->
  yw p.β M (Imm F p M w) w sz l cells.toList->jA M sz f parts l=some l'->
  ∃cells',Instr.fill (λi=>some (i*sz,sz)) cells (parts.map λq=>(q.1,g q.2))=some cells'/\yw p.β M (Imm F p M w) w sz l' cells'.toList/\l'.length=l.length
 |[],l,l',cells,_,r,h=>by simp only[jA,aI]at h;subst h;exact⟨cells,rfl,r,rfl⟩
 |(i,x)::parts,l,l',cells,hfg,r,h=>by
  simp only[jA]at h
  cases hb:nob (Nat.ble (Nat.succ i) (len l)) (eK M (f x).cells sz)with
  |false=>rw[hb]at h;cases h
  |true=>
   rw[hb]at h;simp only[aD]at h;simp only[aP,ao]at hb;have hi:i<l.length:=by have:=eU hb.1;rw[oX]at this;omega
   have k3:=hb.2;have hc:=xm hp (hfg (i,x) ak) (Ax (mF k3));have hn:=nK hp _ _ _ hc (mF k3);obtain⟨r1,r2⟩:=r;have hle:i*sz+sz<=l.length*sz:=by have:=n7 sz (show i+1<=l.length from hi);rw[lB]at this;omega
   simp only[rW]at hn r1;obtain⟨cells1,c1,c2⟩:=Po (place:=λi=>some (i*sz,sz)) (cells:=cells) (i:=i) (v:=g x) (vals:=parts.map λq=>(q.1,g q.2)) (off:=i*sz) (n:=sz) rfl hn aa
   have hr1:yw p.β M (Imm F p M w) w sz (tQ l i (f x).cells) cells1.toList:=by
    rw[R3,c1];refine⟨?_,λj v hj=>?_⟩
    ·unfold df;simp[hn];omega
    ·rw[QJ (n:=l.length) (by simpa using r1) hi (by simpa using hn)];rw[o9]at hj;by_cases e:j=i
     ·subst e;rw[am rfl,am hi]at hj;cases hj;rw[am rfl];exact hc
     ·rw[aj (cM e)]at hj;rw[aj e];exact r2 j v hj
   obtain⟨cells',e1,e2,e3⟩:=O0 hp f g parts _ l' cells1 (λq hq=>hfg q (by simp[hq])) hr1 h;exact⟨cells',by rw[iN,c2];exact e1,e2,by rw[e3,R3,gK]⟩
theorem Y5{o:Option Ob}(h:go M' k=none\/go M' k=o)(ho:o=none):go M' k=none:=by rcases h with h|h<;>rw[h]<;>exact ho
theorem qS(a:List α):ap a []=a:=by rw[eL];simp
theorem Ok(k:Nat)(o:O):(l:cf)->(ev:bM)->(M:Mem)->(p:Ow)->(rows:List (List Value))->(xs:List o.strip.den)->(e:bM)->(M':Mem)->Hp F p M w->go M k=none->
  rows.length=l.length->(∀(i:Nat)(v:V)(vs:aM),l[i]? = some v->rows[i]? = some vs->ac p.β M (Imm F p M w) w (v.evs ev) vs)->jh k o ev l M=some (xs,e,M')->
  ∃e1 p',∃T:Nat->Nat->Prop,e=ap ev e1/\Tr F p M w e1 p' M' w/\go M' k=none/\xs.length=l.length/\(∀b,p'.L b<->p.L b\/∃i,T i b)/\(∀i b,T i b->¬p.L b)/\(∀i j b,i≠j->T i b->¬T j b)/\
   (∀(i:Nat)(x:o.strip.den)(vs:aM),xs[i]? = some x->rows[i]? = some vs->Rel (Imm F p' M' w) w o x (T i) vs)/\((e1=[]/\M'=M/\p'=p)\/∃x r,e1=x::r/\fresh M [x]=false)
 |[],ev,M,p,rows,xs,e,M',h,hk,hl,hr,hc=>by simp only[jh,aI,bE]at hc;obtain⟨rfl,rfl,rfl⟩:=hc;exact⟨[],p,λ_ _=>False,(qS ev).symm,Tr.refl h,hk,rfl,λb=>ak,λi b hb=>hb.elim,λi j b _ hb=>hb.elim,λi x vs hx=>by simp at hx,.inl ⟨rfl,rfl,rfl⟩⟩
 |v::r,ev,M,p,rows,xs,e,M',h,hk,hl,hr,hc=>by
  simp only[jh]at hc;split at hc
  ·rename_i x e0 M1 hc1;split at hc
   ·rename_i l1 e2 M2 hc2;simp only[aI,bE]at hc;obtain⟨rfl,rfl,rfl⟩:=hc
    cases rows with
    |nil=>simp at hl
    |cons vs rows=>
     obtain⟨g,p1,S,cv⟩:=Q0 h k o (v.evs ev) vs x e0 (hr 0 v vs rfl rfl) hc1;have hk1:go M1 k=none:=Y5 g hk;obtain⟨e1,p',T,i1,i2,i3,i4,i5,i6,i7,i8,i9⟩:=Ok k o r (ap ev e0) M1 p1 rows l1 _ _ cv.tr.hp hk1 (by simpa using hl) (λi v' vs' hv' hvs'=>by rw[xG];exact cv.tr.c _ _ (hr (i+1) v' vs' (by simpa using hv') (by simpa using hvs'))) hc2;refine⟨ap e0 e1,p',λi=>match i with|0=>S|i+1=>T i,by rw[i1];simp only[eL,dk],cv.tr.trans i2,i3,by simp[i4],λb=>?_,λi b hb=>?_,λi j b hij hb=>?_,λi x' vs' hx hvs=>?_,?_⟩
     ·rw[i5,cv.L];constructor
      ·rintro ((h1|h1)|⟨i,h1⟩)
       ·exact .inl h1
       ·exact .inr ⟨0,h1⟩
       ·exact .inr ⟨i+1,h1⟩
      ·rintro (h1|⟨i,h1⟩)
       ·exact .inl (.inl h1)
       ·cases i with
        |zero=>exact .inl (.inr h1)
        |succ i=>exact .inr ⟨i,h1⟩
     ·cases i with
      |zero=>exact cv.sp b hb
      |succ i=>exactλhL=>i6 i b hb ((cv.L b).2 (.inl hL))
     ·cases i with
      |zero=>
       cases j with
       |zero=>exact absurd rfl hij
       |succ j=>exactλhb'=>i6 j b hb' ((cv.L b).2 (.inr hb))
      |succ i=>
       cases j with
       |zero=>exactλhb'=>i6 i b hb ((cv.L b).2 (.inr hb'))
       |succ j=>exact i7 i j b (λe=>hij (by rw[e])) hb
     ·cases i with
      |zero=>simp only[iz,aI]at hx hvs;subst hx;subst hvs;exact Rel.keep i2.keep _ _ _ _ (λ_ _=>rfl) cv.rel
      |succ i=>exact i8 i x' vs' (by simpa using hx) (by simpa using hvs)
     ·rcases cv.fr with⟨rfl,rfl,rfl⟩|⟨y,ry,rfl,hy⟩
      ·exact i9
      ·exact .inr ⟨y,ap ry e1,rfl,hy⟩
   ·cases hc
  ·cases hc
theorem AG(e:bM):∀(l:cf)(i:Nat),(gy e l)[i]? = (l[i]?).map λv=>v.evs e
 |[],i|v::l,0=>by simp[gy]
 |v::l,i+1=>by simp only[gy,lC];exact AG e l i
theorem qG(e:bM):∀l:List V,(gy e l).length=l.length
 |[]=>rfl
 |v::l=>by simp[gy,qG e l]
def oU(sz n:Nat)(xs:aM):List (List Value):=(List.range n).map λi=>(xs.drop (i*sz)).take sz
theorem Zu(sz n:Nat)(xs:aM):(oU sz n xs).length=n:=by simp[oU]
theorem Zx{i:Nat}(h:(oU sz n xs)[i]? = some vs):vs=(xs.drop (i*sz)).take sz:=by
 unfold oU at h;rw[gJ]at h;by_cases hi:i<n
 ·rw[n6 hi]at h;simpa using h.symm
 ·rw[ja (by simpa using hi)]at h;cases h
theorem KP(h:n<=nb):n<=maxLen:=by unfold nb at h;unfold maxLen;omega
theorem U'(hB:TabOk P B)(h:Hp F p M w)(hL:∀b,¬p.L b)(f:dI)(hf:∀q∈parts.toList,ae p.β M (Imm F p M w) w (f q.2) (a.eval q.2))(o:eP)(hv:ab (mS B t n (toL parts) f o M).vc)(qt:bo)(hop:op.op=.buildSlice t n parts):
  ∃v w',(execOp a.eval op).run P w=.ok (.value v) w'/\cd F p M w qt (mS B t n (toL parts) f o M) v w':=by
 unfold mS at hv⊢;split at hv
 ·rename_i k e he;split at hv
  ·rename_i l hl
   cases hk:aO [(B.τ t).ok,(B.τ e).ok,B.z e,Nat.ble (Nat.mul n (B.τ e).size) 16777216,Nat.ble n nb,bT (B.σ e).size (B.τ e).size]with
   |false=>rw[hk]at hv;exact hv.1.elim
   |true=>
    simp only[hl,hk,aD]at hv⊢;simp only[bH,bJ,bC,ao,dL,bN]at hk;obtain⟨k1,k2,k3,k4,k5,k6⟩:=hk;replace k4:=eU k4;replace k5:=eU k5;have eτ:=hB.τ t k1;have eτ':=hB.τ e k2;obtain⟨infe,z,hie,hz,h0⟩:=uY hB k3;rw[←eτ']at k2 k4 k6 hl;rw[←eτ]at k1 he;obtain⟨inf,u,hi,hu⟩:=dn k1;obtain⟨infe',ue,hie',hue⟩:=dn k2;rw[hie]at hie';cases hie';rw[cV hi hu]at he;rw[cV hie hue]at k4 k6 hl;simp only[d7]at he k4 k6 hl;cases u<;>simp at he;obtain rfl:=he.symm;obtain⟨z1,z2⟩:=tj (Im:=Imm F p M w) (w:=w) (B.σ e) _ h0;have hzl:z.cells.size=infe.size:=by have:=Rel.len _ _ _ _ z1;rw[A6,k6]at this;simpa using this
    have hrep:=yw.rep (z2 p.β M) n;rw[←NC z infe.size hzl n,show z.cells.toList.length=infe.size by simpa using hzl]at hrep;rw[cK]at hl;obtain⟨cells',c1,c2,c3⟩:=O0 h f a.eval parts.toList _ l (madeCells z.cells (n*infe.size)) hf hrep hl;have hln:l.length=n:=by rw[c3,RZ,eA]
    have hrun:(execOp a.eval op).run P w=.ok (.value (.slice (some ⟨w.heap.size,0,none⟩) n n)) (w.alloc (.cells cells' e)):=by
     have h1':Instr.fill (λi=>some (i*infe.size,infe.size)) ((Array.range (n*infe.size)).map λx=>z.cells[x%z.cells.size]!) (parts.map λx=>match x with|(i,x)=>(i,a.eval x)).toList=some cells':=by rw[←c1];simp[madeCells]
     have k4':n*infe.size<=16777216:=k4;have hsmall:¬(16777216<n*infe.size):=aa
     by_cases h0:n*infe.size=0
     ·simp only[execOp,hop,Instr.buildSlice,cP hu,sizeOf,typeInfo,run_program,hie,fW,lD,il,Sem.run_ite,h0,dA];rw[h0]at h1';simp only[show (Array.range 0).map (λx=>(#[]:Array Value)[x%(#[]:Array Value).size]!)=(Array.range 0).map λx=>z.cells[x%z.cells.size]! from by simp,h1'];simp[newRow]
     ·simp[execOp,hop,Instr.buildSlice,cP hu,sizeOf,typeInfo,hie,hsmall,h0,zeroValue,hz,newRow];simp at h1';simp[h1']
    have hgrow:w.grownBy (w.alloc (.cells cells' e)) none:=zc w _ none
    have hown:(w.alloc (.cells cells' e)).ownsRow 0 e infe.size (.slice (some ⟨w.heap.size,0,none⟩) n n) n cells'.toList:=by
     have hsz:cells'.size=n*infe.size:=by have:=c2.1;rw[hln]at this;simpa using this
     exact⟨by simpa using hsz,.inr ⟨w.heap.size,n,cells',rfl,fV _,rY w _,bd _,KP k5,hsz,fU (by simp[hsz])⟩⟩
    have hroot:∀b,dv (.slice (some ⟨w.heap.size,0,none⟩) n n)=some b->w.heap.size<=b/\b<(w.alloc (.cells cells' e)).heap.size:=λb hb=>by have hb:=Oz hb;subst hb;exact⟨bd _,(cN.1 (rY w _)).1⟩
    have hrel:∀(i:Nat)(v:V)(vs:aM),(gy [.kl k] l)[i]? = some v->(oU infe.size n cells'.toList)[i]? = some vs->ac p.β (del k M) (Imm F p (del k M) w) w (v.evs []) vs:=λi v vs hv hvs=>by
     rw[AG]at hv
     cases hli:l[i]? with
     |none=>rw[hli]at hv;cases hv
     |some v0=>rw[hli]at hv;cases hv;rw[Zx hvs];exact (Tr.kl h k).c _ _ (c2.2 i v0 hli)
    have key:∀(oo:O)(x:List oo.strip.den)(ev:bM)(M':Mem),jh k oo [] (gy [.kl k] l) (del k M)=some (x,ev,M')->oo.size=infe.size->
      cd F p M w qt ⟨[],.ref k [],.kl k::ev,(k,⟨.sl oo,x⟩)::M'⟩ (.slice (some ⟨w.heap.size,0,none⟩) n n) (w.alloc (.cells cells' e)):=λoo x ev M' hcv hos=>by
     obtain⟨e1,p',T,i1,i2,i3,i4,i5,i6,i7,i8,i9⟩:=Ok k oo _ [] (del k M) p (oU infe.size n cells'.toList) x ev M' (Be h k) (eJ k M) (by rw[Zu,qG,hln]) hrel hcv;simp only[ap]at i1;subst i1;have hxl:x.length=n:=by rw[i4,qG,hln]
     refine RG h k i2 i3 ⟨hgrow,bd _⟩ (ety:=e) (xs:=cells'.toList) (T:=T) (by rw[hxl,hos];exact hown) hroot (by rw[hxl];exact k5) (λi c hc=>(i5 c).2 (.inr ⟨i,hc⟩)) i7 (λi y hy=>?_) i9 qt;rw[hos];have hi:i<n:=by rw[←hxl];exact (gp.1 hy).1
     exact i8 i y _ hy (by unfold oU;rw[gJ,n6 hi];rfl)
    refine⟨_,_,hrun,?_⟩;split at hv
    ·rename_i hnil;have hn:n=0:=by have:=congrArg List.length hnil;rw[qG,hln]at this;simpa using this
     subst hn;refine⟨p,Tr.ext h (Ext.of_grown hgrow (bd _)),hL,?_,λ_ _=>⟨Ext.of_grown hgrow (bd _),λj ob hj=>⟨hj,rfl,rfl⟩⟩⟩;unfold Sz;split
     ·rename_i e' _;rw[bp];simp only[ai];refine .inr ⟨[],_,_,_,rfl,rfl,_,0,rfl,⟨fV _,bd _⟩,λ_=>⟨rfl,rfl⟩,λa ha hpos=>absurd hpos (oA 0)⟩
     ·simp only[ae,ac];exact⟨_,rfl⟩
    ·rename_i v r hcons;split at hv
     ·rename_i q e0 M0 hcv0;split at hv
      ·rename_i x ev M' hcv;refine key q.o x ev M' (by rw[hcons];exact hcv) ?_
       have hr0:=hrel 0 v ((oU infe.size n cells'.toList).headD []) (by rw[hcons];rfl) (by
        have hn:0<n:=by have:=congrArg List.length hcons;rw[qG,hln]at this;simp at this;omega
        cases n with
        |zero=>omega
        |succ n=>simp[oU,List.range_succ_eq_map])
       simp only[V.evs]at hr0;obtain⟨g,p',S,cv⟩:=uW k (B.σ e) v (del k M) p _ q e0 M0 (Be h k) hr0 hcv0;have h1:=Rel.len _ _ _ _ cv.rel;rw[←h1];have hn:0<n:=by have:=congrArg List.length hcons;rw[qG,hln]at this;simp at this;omega
       have hcl:cells'.toList.length=n*infe.size:=by rw[c2.1,hln]
       have hle:infe.size<=n*infe.size:=Nat.le_mul_of_pos_left _ hn
       cases n with
       |zero=>omega
       |succ n=>simp[oU,List.range_succ_eq_map];rw[rW]at hcl;omega
      ·split at hv
       ·rename_i x ev M' hcv;exact key (.fz (B.σ e)) x ev M' (by rw[hcons];exact hcv) (by simp only[O.size,O.strip];exact k6)
       ·exact hv.1.elim
     ·exact hv.1.elim
  ·exact hv.1.elim
 ·exact hv.1.elim
theorem Pq{zs:aM}:∀(c n:Nat),n<=c->(List.replicate c zs).flatten.take (n*zs.length)=(List.replicate n zs).flatten
 |_,0,_=>ak
 |0,n+1,h=>aa
 |c+1,n+1,h=>by rw[uo,wu,uo,wu,um,Nat.add_comm,List.take_length_add_append,Pq c n aa]
theorem abn{nl nc:Int}(h:0<=nl/\nl<=nc/\nc<=(nb:Int)/\nc*(b:Int)<=(nb:Int)):∃n c:Nat,nl=n/\nc=c/\n<=c/\c<=nb/\c*b<=nb:=by
 obtain⟨h1,h2,h3,h4⟩:=h;obtain⟨n,rfl⟩:=Int.eq_ofNat_of_zero_le h1;obtain⟨c,rfl⟩:=Int.eq_ofNat_of_zero_le (wv h1 h2);refine⟨n,c,rfl,rfl,aa,aa,?_⟩;have:((c*b:Nat):Int)<=(nb:Int):=by rw[C1];exact h4
 omega
theorem Z6(hB:TabOk P B)(h:Hp F p M w)(hL:∀b,¬p.L b){l c:dJ}(x y:V)(hx:ae p.β M (Imm F p M w) w x (a.eval l))(hy:ae p.β M (Imm F p M w) w y (a.eval c))(o:eP)(hv:ab (Bz B t x y o M).vc)(qt:bo)(hop:op.op=.makeSlice t l c):
  ∃v w',(execOp a.eval op).run P w=.ok (.value v) w'/\cd F p M w qt (Bz B t x y o M) v w':=by
 unfold Bz at hv⊢;split at hv
 ·rename_i k e kl nl kc nc he
  cases hk:aO [(B.τ t).ok,(B.τ e).ok,B.z e,bT (B.σ e).size (B.τ e).size]with
  |false=>rw[hk]at hv;exact hv.1.elim
  |true=>
   simp only[he,hk,aD,dX,fx,az]at hv⊢;simp only[bH,bJ,bC,ao,dL,bN]at hk;obtain⟨k1,k2,k3,k4⟩:=hk;simp only[bp,dR]at hx hy;have eτ:=hB.τ t k1;have eτ':=hB.τ e k2;obtain⟨infe,z,hie,hz,h0⟩:=uY hB k3;rw[←eτ']at k2 k4;simp only[←eτ']at hv;rw[←eτ]at k1 he;obtain⟨inf,u,hi,hu⟩:=dn k1;obtain⟨infe',ue,hie',hue⟩:=dn k2;rw[hie]at hie';cases hie';rw[cV hi hu]at he;rw[cV hie hue]at k4;simp only[cV hie hue]at hv;simp only[d7]at he hv k4;cases u<;>simp at he;obtain rfl:=he.symm;obtain⟨n,c',rfl,rfl,v2,v3,v4⟩:=abn hv;obtain⟨z1,z2⟩:=tj (Im:=Imm F p (del k M) w) (w:=w) (B.σ e) _ h0;have hzl:z.cells.toList.length=infe.size:=by have h1:=Rel.len _ _ _ _ z1;rw[A6,k4]at h1;exact h1
   have hbytes:(infe.bytes:Int)*((c':Nat):Int)<=281474976710656:=by
    have:((c'*infe.bytes:Nat):Int)<=281474976710656:=by have:=v4;simp only[nb]at this;omega
    rw[C1,Int.mul_comm]at this;exact this
   have hr:=run_make (P:=P) w t e infe z hu hie hz kl kc (n:Int) (c':Int) aa aa hbytes (by have:=v3;simp only[nb]at this;omega);simp only[cQ]at hr;have hown:(w.alloc (.cells (madeCells z.cells (c'*infe.size)) e)).ownsRow 0 e infe.size (.slice (some ⟨w.heap.size,0,none⟩) n c') n (List.replicate n z.cells.toList).flatten:=by refine⟨by simp[←hzl],.inr ⟨w.heap.size,c',_,rfl,fV _,rY w _,v2,KP v3,size_madeCells _ _,?_⟩⟩;rw[NC z infe.size (by simpa using hzl),←hzl];exact Pq c' n v2
   have hd:=RG h k (e0:=[]) (o:=(B.σ e).deep) (l:=List.replicate n (B.σ e).deep.dflt) (T:=λ_ _=>False) (Tr.refl (Be h k)) (eJ k M) ⟨zc w (.cells (madeCells z.cells (c'*infe.size)) e) none,bd _⟩
    (ety:=e) (v:=.slice (some ⟨w.heap.size,0,none⟩) n c') (xs:=(List.replicate n z.cells.toList).flatten) (by rw[eA,A6,k4];exact hown)
    (λb hb=>by have hb:=Oz hb;subst hb;exact⟨bd _,(cN.1 (rY w _)).1⟩) (by rw[eA];omega) (λi c hc=>hc.elim) (λi j c _ hc=>hc.elim)
    (λi x hx=>by
     rw[G5]at hx;split at hx
     ·rename_i hi;cases hx;rw[show (B.σ e).deep.size=z.cells.toList.length by rw[A6,k4,hzl],IX n i hi];exact z1
     ·cases hx) (.inl ⟨rfl,rfl,rfl⟩) qt
   refine⟨_,_,?_,hd⟩;simp[execOp,hop,hx.1,hy.1,hr]
 ·exact hv.1.elim
theorem E'{ob2:Ob}{c:Prop}(h:yA π ob=some (c,ob2)):∃(p0:bz)(i:Nat)(e:O)(l:List (Option e.strip.den)),jB π=some (p0,i)/\get p0 ob.o ob.x=some ⟨.sl (.op e),l⟩/\c=(vC l=true)/\set p0 ob.o ob.x ⟨.sl e,pv e.dflt l⟩=some ob2:=by
 unfold yA at h;split at h
 ·rename_i p0 i hx;split at h
  ·rename_i e l hq;split at h
   ·rename_i o2 hs;simp only[aI,bE]at h;obtain⟨rfl,rfl⟩:=h;exact⟨p0,i,e,l,hx,hq,rfl,hs⟩
   ·cases h
  ·cases h
 ·cases h
theorem Ov(hB:TabOk P B)(h:Hp F p M w)(hL:∀b,¬p.L b){x0 y0:dJ}(x y:V)(hx:ae p.β M (Imm F p M w) w x (a.eval x0))(hy:ae p.β M (Imm F p M w) w y (a.eval y0))(hv:ab (kT B t x y M).vc)(hop:op.op=.store t x0 y0):
  ∃w',(execOp a.eval op).run P w=.ok .skip w'/\cd F p M w false (kT B t x y M) undef w':=by
 unfold kT at hv⊢;split at hv
 ·rename_i k π;split at hv
  ·rename_i ob q hob hq
   cases hk:aO [(B.τ t).ok,eK M y.cells (B.τ t).size,bT q.o.strip.size (B.τ t).size,neg (isZ (B.τ t).size)]with
   |false=>rw[hk]at hv;exact hv.1.elim
   |true=>
    simp only[hk,aD]at hv⊢;simp only[bH,bJ,bC,ao,dL,bN]at hk;obtain⟨k1,k2,k3,k4⟩:=hk;split at hv
    ·rename_i z e M' hcv;split at hv
     ·rename_i obx ob' hgx hset
      cases hz:bT z.o.strip.size (B.τ t).size with
      |false=>rw[hz]at hv;exact hv.1.elim
      |true=>
       simp only[hz,aD]at hv⊢;simp only[dL,bN]at hz;have hcy:=xm h hy (Ax (mF k2));have hny:=nK h _ _ _ hcy (mF k2)
       have hcvo:(go M' k=none\/go M' k=go M k)/\∃p1 S,Cv F p M w k z e (a.eval y0).cells.toList p1 M' S:=by
        cases hix:nZ π with
        |true=>
         rw[hix]at hcv;simp only[aD]at hcv;split at hcv
         ·rename_i z' e' M1 hcw;cases hcv;exact Q0 h k q.o _ _ z' e hcy hcw
         ·cases hcv
        |false=>rw[hix]at hcv;simp only[bc]at hcv;obtain⟨g,r⟩:=Y' B.tk k (B.σ t) _ M p _ z e M' h hcy hcv;exact⟨.inr g,r⟩
       obtain⟨g,p1,S,cv⟩:=hcvo
       have hgk:go M' k=some ob:=by
        rcases g with g|g
        ·rw[g]at hgx;cases hgx
        ·rw[g,hob]
       have hp1:=cv.tr.hp;simp only[ae,ac,bG,az,exists_eq_left']at hx;have hx1:Adr p1.β M' w k π (a.eval x0):=hx.same h (by rw[hgk,hob]) (by rw[cv.β]) (λ_ _ _=>rfl);obtain⟨ob2,us0,b,off,j1,j2,j3,j4,j5,j6⟩:=hx1;rw[hgk]at j1;cases j1;obtain⟨ob3,q1,q2⟩:=nG hq;rw[hob]at q1;cases q1;obtain⟨us,pl,S',e1,e2,e3,e4,e5,e6⟩:=look hp1 hgk j2 q2;rw[e1]at j5;simp only[aI,bE]at j5;obtain⟨rfl,rfl⟩:=j5;obtain⟨b0,off0,cur,ty',c1,c2,c3,c4,c5⟩:=e4 j4;simp only[aI,bE]at c1;obtain⟨rfl,rfl⟩:=c1;have hlen:us.length=(a.eval y0).cells.toList.length:=by rw[Rel.len _ _ _ _ e3,hny];exact k3
       have hpos:0<us.length:=by
        rw[hlen,hny]
        cases hs:(B.τ t).size with
        |zero=>rw[hs]at k4;simp[isZ]at k4
        |succ n=>omega
       have hfit:off+us.length<=cur.size:=by have:=c5 (us.length-1) us[us.length-1] (bU aa);have:=(cN.1 this).1;omega
       have hone:=ac.one h _ _ hcy;have hrun:=run_storeCells_at P b off ty' (a.eval y0).cells.toList 0 cur w c4 (by rw[←hlen];omega) hone;simp only[Nat.add_zero]at hrun;generalize hw':w.setRow b (cur.toList.take off++(a.eval y0).cells.toList++cur.toList.drop (off+(a.eval y0).cells.toList.length)).toArray=w' at hrun;have hchg:Chg w w' (λc=>bV π=true/\∃o,some (b,off)=some (c,o)):=by subst hw';refine⟨rfl,⟨rfl,bd _⟩,rfl,ak,λc hc=>setRow_other w b c _ (λe=>hc ⟨j4,off,by rw[e]⟩)⟩
       have hblk:w'.heap[b]? = some (.cells (df cur.toList off (a.eval y0).cells.toList).toArray ty' (0,0)):=by subst hw';rw[setRow_heap w b cur _ ty' _ c4];simp only[df]
       have hput:=Tr.put (L':=λ_=>False) (us':=(a.eval y0).cells.toList) (S'':=S) hp1 hgk e2 e4 e6 hset (by simp only[O.size];rw[hz,k3]) (mH _ _ _ _ j4) hchg
        (λ_ b' off' hp cur' ty'' hc'=>by simp only[aI,bE]at hp;obtain⟨rfl,rfl⟩:=hp;rw[c4]at hc';cases hc';exact hblk) (λc hc=>.inl ((cv.L c).2 (.inr hc))) (λc hc=>hc.elim) (λhc=>hc.choose_spec.1.elim)
        (λhkp=>Rel.keep hkp _ _ _ _ (λc hc=>hchg.old c (λ⟨_,o,e⟩=>by simp only[aI,bE]at e;obtain⟨rfl,_⟩:=e;exact (hp1.lim b ((cv.L b).2 (.inr hc))).2.2 k (bP hgk) c2)) cv.rel)
       have hgoal:(execOp a.eval op).run P w=.ok .skip w':=by
        have eτ:=hB.τ t k1;rw[←eτ]at k1 hny;obtain⟨inf,ud,hi,hu⟩:=dn k1;rw[cV hi hu]at hny;simp only[d7]at hny;have hsz:(a.eval y0).cells.size=inf.size:=by simpa using hny
        simp[execOp,hop,Instr.storeAt,Instr.sureAddr,j6,storeVar,sizeOf,typeInfo,hi,hsz,hrun]
       cases hcl:yA π ob' with
       |none=>exact⟨w',hgoal,_,cv.tr.trans hput,λb hb=>hb,by simp only[ae],λ_ hq=>by cases hq⟩
       |some co=>obtain⟨c,ob2⟩:=co;simp only[hcl,dX,fx,az]at hv⊢;obtain⟨p5,i5,e5,l5,x1,x2,rfl,x3⟩:=E' hcl;obtain⟨g1,_,_,_⟩:=Ks π ob'.o ob'.x p5 i5 _ x1 x2;obtain⟨p6,hL6,hlab⟩:=Tr.relP hput.hp (lJ ob' M' (bP hgk)) g1 x2 x3 rfl (λIm S vs r=>aca e5.dflt hv r);rw[RE]at hlab;exact⟨w',hgoal,p6,cv.tr.trans (hput.trans hlab),λb hb=>(hL6 b).1 hb,by simp only[ae],λ_ hq=>by cases hq⟩
     ·exact hv.1.elim
    ·exact hv.1.elim
  ·exact hv.1.elim
 ·exact hv.1.elim
def Sr(w:aQ)(sz:Nat)(u:bw)(m:Nat)(news:aM):Prop:=news.length=m*sz/\((u=.slice none 0 0/\m=0)\/∃a c,u=.slice (some a) m c/\∀(j:Nat)(x:bw),news[j]? = some x->w.cell? (a.add j)=some x)
theorem QI{g:Nat}(hg:w.heap[g]? = some (.cells cur ety (0,0)))(ht:(cur.toList.drop off).take (n*sz)=xs):
  ∀(j:Nat)(u:bw),xs[j]? = some u->w.cell? ((⟨g,off,none⟩:Addr).add j)=some u:=λj u hu=>by
 rw[rX,lA w g _ cur ety (0,0) hg];rw[←ht,fE]at hu;split at hu
 ·rw[gn]at hu;simpa using hu
 ·cases hu
theorem ND(w:aQ)(t ty e ety:bF)(i:TypeInfo)(z:bw)(ht:P.underlying t=some (.slice e))(hi:P.info? e=some i)(hz:i.zero=some z)(hzs:z.cells.size=i.size)(v u:bw)(n m:Nat)(xs news:aM)(hown:kX w ety i.size v n xs)(hsr:Sr w i.size u m news)(h1:∀x∈news,x.oneCell'=true)(hb0:i.bytes≠0)(hbytes:(n+m)*i.bytes<=nb):
  ∃v' w' ety',(Builtin.append_ #[t,t] ty #[v,u]).run P w=.ok v' w'/\kX w' ety' i.size v' (n+m) (xs++news)/\(w.grownBy w' (dv v)/\w.drawn<=w'.drawn)/\
   (∀b,dv v'=some b->(dv v=some b\/w.heap.size<=b)/\b<w'.heap.size):=by
 have h63:n+m<=maxLen:=by refine KP (c8 ?_ hbytes);exact C2 _ (wt hb0)
 have hsmall:n+m<=9223372036854775807:=by simp only[maxLen]at h63;omega
 obtain⟨hl,hsr⟩:=hsr;have hlen:(xs++news).length=(n+m)*i.size:=by rw[bn,hown.1,hl,lB]
 rcases hsr with⟨rfl,rfl⟩|⟨a,c,rfl,hnews⟩
 ·have hn:news=[]:=jR (by simpa using hl);subst hn;refine⟨v,w,ety,?_,by simpa using hown,⟨⟨rfl,rfl,rfl,bd _,λ_ _ _=>rfl⟩,bd _⟩,λb hb=>⟨.inl hb,?_⟩⟩
  ·rcases hown.2 with⟨rfl,oa,rfl⟩|⟨g,off,cap,cur,rfl,_,hnc,_⟩
   ·cases oa<;>simp[Builtin.append_,cP ht,sizeOf,typeInfo,hi,Builtin.lenOf,Builtin.firstCells,storeCells]
   ·simp[Builtin.append_,cP ht,sizeOf,typeInfo,hi,Builtin.lenOf,Builtin.firstCells,hnc,storeCells]
  ·rcases hown.2 with⟨rfl,oa,rfl⟩|⟨g,off,cap,cur,rfl,hg,_⟩
   ·cases oa<;>cases hb
   ·simp only[dv,aI]at hb;subst hb;exact (cN.1 hg).1
 have grown:∀(old:Nat)(row:eP),
   (w.drew.alloc (.cells (xs.toArray++news.toArray++Builtin.zeroCells z.cells (grownCap w (n+m) old e-(n+m))) e)).ownsRow 0 e i.size
    (.slice (some ⟨w.heap.size,0,none⟩) (n+m) (grownCap w (n+m) old e)) (n+m) (xs++news)/\
   w.grownBy (w.drew.alloc (.cells (xs.toArray++news.toArray++Builtin.zeroCells z.cells (grownCap w (n+m) old e-(n+m))) e)) row:=by
  intro old row;have hge:=grownCap_ge w (n+m) old e;have hcm:grownCap w (n+m) old e<=maxLen:=grownCap_le_maxLen w (n+m) old e h63;refine⟨⟨hlen,.inr ⟨w.heap.size,_,_,rfl,fV _,rY w.drew _,hge,hcm,?_,?_⟩⟩,⟨rfl,rfl,rfl,ak,λk hk _=>Below.heap_alloc w.drew _ k hk⟩⟩
  ·simp only[Array.size_append,List.size_toArray,size_zeroCells,hzs,hown.1,hl,←lB];congr 1;omega
  ·simp only[Array.toList_append,dk];rw[←dk,←hlen];exact yW
 have rt:∀(N K b:Nat),dv (.slice (some ⟨w.heap.size,0,none⟩) N K)=some b->b=w.heap.size:=λN K b hb=>by
  cases K with
  |zero=>cases hb
  |succ k=>simp only[dv,aI]at hb;exact hb.symm
 rcases hown.2 with⟨rfl,oa,rfl⟩|⟨g,off,cap,cur,rfl,hg,hnc,hcm,hcs,htake⟩
 ·have hx:xs=[]:=jR (by simpa using hown.1);subst hx;by_cases hm:m=0
  ·subst hm;have hn:news=[]:=jR (by simpa using hl);subst hn;refine⟨.slice oa 0 0,w,ety,?_,hown,⟨⟨rfl,rfl,rfl,bd _,λ_ _ _=>rfl⟩,bd _⟩,λb hb=>by cases oa<;>cases hb⟩;cases oa<;>simp[Builtin.append_,cP ht,sizeOf,typeInfo,hi,Builtin.lenOf,Builtin.firstCells,loadCells,loadCellsFrom,storeCells]
  ·cases oa with
   |none=>have hr:=run_append_nil (P:=P) w t ty e i z ht hi hz a m c news hl hnews aa aa (by have hb:=hbytes;simp only[jO,nb]at hb;omega);have hgr:=grown 0 (dv (.slice none 0 0));simp only[jO,o7,Array.empty_append]at hgr⊢;exact⟨_,_,e,hr,Fj hgr.1,⟨hgr.2,jT _⟩,λb hb=>by have:=rt _ _ _ hb;subst this;exact⟨.inr (bd _),ak⟩⟩
   |some a0=>have hr:=run_append_grow (P:=P) w t ty e i z ht hi hz a0 0 0 [] ak (λj u hu=>by simp at hu) a m c news hl hnews aa aa (growslice_fits aa (by simpa only [nb]using hbytes));have hgr:=grown 0 (dv (.slice (some a0) 0 0));exact⟨_,_,e,hr,Fj hgr.1,⟨hgr.2,jT _⟩,λb hb=>by have:=rt _ _ _ hb;subst this;exact⟨.inr (bd _),ak⟩⟩
 ·by_cases hroom:n+m<=cap+1
  ·have hfit:off+n*i.size+news.length<=cur.size:=by rw[hl,hcs,rV,←lB];exact Nat.add_le_add_left (n7 _ hroom) _
   have hr:(Builtin.append_ #[t,t] ty #[.slice (some ⟨g,off,none⟩) n (cap+1),.slice (some a) m c]).run P w =
     .ok (.slice (some ⟨g,off,none⟩) (n+m) (cap+1)) (w.setRow g (cur.toList.take (off+n*i.size)++news++cur.toList.drop (off+n*i.size+news.length)).toArray):=by
    have hf:=run_firstCells_some (P:=P) w i.size m a m c news hl hnews;have hst:=run_storeCells_at P g (off+n*i.size) ety news 0 cur w hg (by simpa using hfit) h1;simp only[Nat.add_zero]at hst;simp[Builtin.append_,cP ht,sizeOf,typeInfo,hi,Builtin.lenOf,hroom,hf,rX,hst]
   have hgrow:w.grownBy (w.setRow g (cur.toList.take (off+n*i.size)++news++cur.toList.drop (off+n*i.size+news.length)).toArray) (dv (.slice (some ⟨g,off,none⟩) n (cap+1))):=⟨rfl,rfl,rfl,ak,λk _ hk=>setRow_other w g k _ (λe=>hk (by simp[dv,e]))⟩;refine⟨_,_,ety,hr,⟨hlen,.inr ⟨g,off,cap,_,rfl,setRow_heap w g cur _ ety _ hg,hroom,hcm,?_,?_⟩⟩,⟨hgrow,bd _⟩,λb hb=>?_⟩
   ·simp only[List.size_toArray,bn,dW,jw,rW];omega
   ·have hd:(cur.toList.take (off+n*i.size)++news++cur.toList.drop (off+n*i.size+news.length)).drop off=xs++news++cur.toList.drop (off+n*i.size+news.length):=by have hcl:cur.toList.length=cur.size:=rW;rw[dk,yX (by simp;omega),Cy,show off+n*i.size-off=n*i.size by omega,htake,dk]
    show ((cur.toList.take (off+n*i.size)++news++cur.toList.drop (off+n*i.size+news.length)).drop off).take _=_;rw[hd,←hlen];exact yW
   ·simp only[dv,aI]at hb;subst hb;exact⟨.inl rfl,by simpa using (cN.1 hg).1⟩
  ·have holds:=QI hg htake;have hr:=run_append_grow (P:=P) w t ty e i z ht hi hz ⟨g,off,none⟩ n (cap+1) xs hown.1 holds a m c news hl hnews aa aa (growslice_fits aa (by simpa only [nb]using hbytes));have hgr:=grown (cap+1) (dv (.slice (some ⟨g,off,none⟩) n (cap+1)));exact⟨_,_,e,hr,Fj hgr.1,⟨hgr.2,jT _⟩,λb hb=>by have:=rt _ _ _ hb;subst this;exact⟨.inr (bd _),ak⟩⟩
theorem NN(w:aQ)(t ty e:bF)(i:TypeInfo)(ht:P.underlying t=some (.slice e))(hi:P.info? e=some i)(ety:bF)(v:bw)(n:Nat)(xs:aM)(hown:kX w ety i.size v n xs)(ob:yT):
  (Builtin.append_ #[t,t] ty #[v,.slice ob 0 0]).run P w=.ok v w:=by
 rcases hown.2 with⟨rfl,oa,rfl⟩|⟨g,off,cap,cur,rfl,hg,hnc,_⟩
 ·cases oa<;>cases ob<;>simp[Builtin.append_,cP ht,sizeOf,typeInfo,hi,Builtin.lenOf,Builtin.firstCells,loadCells,loadCellsFrom,storeCells]
 ·cases ob<;>simp[Builtin.append_,cP ht,sizeOf,typeInfo,hi,Builtin.lenOf,Builtin.firstCells,hnc,loadCells,loadCellsFrom,storeCells]
theorem YV{o j:Nat}(h:(cellsOf w b o n)[j]? = some u):j<n/\u=(w.cell? ⟨b,o+j,none⟩).getD undef:=by
 unfold cellsOf at h;rw[gJ]at h;by_cases hj:j<n
 ·rw[n6 hj]at h;exact⟨hj,by simpa using h.symm⟩
 ·rw[ja (by simpa using hj)]at h;cases h
theorem Ze(w:aQ)(b o sz n i:Nat)(hi:i<n):((cellsOf w b o (n*sz)).drop (i*sz)).take sz=cellsOf w b (o+i*sz) sz:=by
 have hle:i*sz+sz<=n*sz:=by have:=n7 sz (show i+1<=n from hi);rw[lB]at this;omega
 unfold cellsOf;apply mo;intro j;rw[fE,gn,gJ,gJ];by_cases hj:j<sz
 ·rw[am hj,n6 aa,n6 hj];simp only[fq];congr 4;omega
 ·rw[aj hj,ja (by simpa using hj)];rfl
theorem abg{t:T}{l:List t.den}(h:ai Im w (.sl t) l [u]):∃news,Sr w t.size u l.length news/\∀(i:Nat)(x:t.den),l[i]? = some x->ai Im w t x ((news.drop (i*t.size)).take t.size):=by
 simp only[ai,bG,az]at h;obtain⟨oa,cap,rfl,h1,h2,h3⟩:=h
 cases oa with
 |none=>obtain⟨h4,rfl⟩:=h2 rfl;exact⟨[],⟨by simp[h4],.inl ⟨by rw[h4],h4⟩⟩,λi x hx=>by have:=(gp.1 hx).1;omega⟩
 |some ad=>
  by_cases hz:l.length=0
  ·exact⟨[],⟨by simp[hz],.inr ⟨ad,cap,rfl,λj x hj=>by simp at hj⟩⟩,λi x hx=>by have:=(gp.1 hx).1;omega⟩
  ·obtain⟨k1,k2,k3⟩:=h3 ad rfl aa;obtain⟨b,o,s⟩:=ad;simp only at k1 k2 k3;subst k1;have hrow:∀(i:Nat)(x:t.den),l[i]? = some x->∃us,iC w b (o+i*t.size) us/\us.length=t.size/\ai Im w t x us:=λi x hx=>by obtain⟨us,u1,u2⟩:=k3 i x hx;exact⟨us,u1,ai.len t x us u2,u2⟩
   refine⟨cellsOf w b o (l.length*t.size),⟨by simp[cellsOf],.inr ⟨_,cap,rfl,λj x hj=>?_⟩⟩,λi x hx=>?_⟩
   ·obtain⟨hj1,rfl⟩:=YV hj;have hpos:0<t.size:=wt (λh0=>by rw[h0]at hj1;omega);have hdiv:j / t.size<l.length:=(Nat.div_lt_iff_lt_mul hpos).2 hj1;obtain⟨us,u1,u2,u3⟩:=hrow (j / t.size) _ (bU hdiv);have hmod:=Nat.mod_lt j hpos;have hc:=u1 (j%t.size) us[j%t.size] (bU aa);have e:o+j / t.size*t.size+j%t.size=o+j:=by have:=Nat.div_add_mod' j t.size;omega
    rw[e]at hc;rw[rX,hc];rfl
   ·have hi:=(gp.1 hx).1;rw[Ze w b o t.size l.length i hi];obtain⟨us,u1,u2,u3⟩:=hrow i x hx;rw[uH u2 u1];exact u3
theorem AS{l:List o.strip.den}(h:Rel Im w (.sl o) l S [u]):∃ety xs,∃T:Nat->Nat->Prop,kX w ety o.size u l.length xs/\l.length<=nb/\(∀c,dv u=some c->S c)/\(∀i c,T i c->S c/\dv u≠some c)/\(∀i j c,i≠j->T i c->¬T j c)/\
  (∀(i:Nat)(x:o.strip.den),l[i]? = some x->Rel Im w o x (T i) ((xs.drop (i*o.size)).take o.size))/\Sr w o.size u l.length xs:=by
 simp only[Rel,bG,az]at h;obtain⟨v,ety,xs,T,rfl,h2,h3,h4,h5,h6,h7⟩:=h;refine⟨ety,xs,T,h2,h3,h4,h5,h6,h7,h2.1,?_⟩;rcases h2.2 with⟨hn,oa,rfl⟩|⟨g,off,cap,cur,rfl,hg,_,_,_,r⟩
 ·cases oa with
  |none=>exact .inl ⟨rfl,hn⟩
  |some b=>have hx:xs=[]:=jR (by rw[h2.1,hn];simp);exact .inr ⟨b,0,by rw[hn],λj y hy=>by rw[hx]at hy;simp at hy⟩
 ·exact .inr ⟨_,cap+1,rfl,QI hg r⟩
theorem OT{i:Nat}(hx:xs.length=n*sz)(hi:i<n):((xs++ys).drop (i*sz)).take sz=(xs.drop (i*sz)).take sz:=by
 have hle:i*sz+sz<=n*sz:=by have:=n7 sz (show i+1<=n from hi);rw[lB]at this;omega
 rw[yX aa,Cu (by rw[jw];omega)]
theorem Oi{i:Nat}(hx:xs.length=n*sz)(hi:n<=i):((xs++ys).drop (i*sz)).take sz=(ys.drop ((i-n)*sz)).take sz:=by have hle:n*sz<=i*sz:=n7 sz hi;rw[List.drop_append,Cw aa,o7,hx,Nat.sub_mul]
theorem PK{Q:List Value->Prop}(hl:news.length=m*sz)(hr:∀i,i<m->∀u∈(news.drop (i*sz)).take sz,u.oneCell'=true):∀u∈news,u.oneCell'=true:=by intro u hu;obtain⟨j,hj,rfl⟩:=jP hu;have hpos:0<sz:=wt (λh0=>by rw[hl,h0]at hj;omega);have hdiv:j / sz<m:=(Nat.div_lt_iff_lt_mul hpos).2 (by rw[←hl];exact hj);have hmod:=Nat.mod_lt j hpos;refine hr (j / sz) hdiv _ (ul (i:=j%sz) ?_);rw[fE,am hmod,gn,show j / sz*sz+j%sz=j by have:=Nat.div_add_mod' j sz;omega];exact bU hj
theorem Sn(hp:Hp F p M w)(k:Nat)(hk:go M k=none){ty:bF}(ht:P.underlying t=some (.slice e))(hi:P.info? e=some i)(hz:i.zero=some z)(hzs:z.cells.size=i.size)(hb0:i.bytes≠0){l m:List o.strip.den}{S2:aT}(ho:o.size=i.size)(h1:Rel (Imm F p M w) w (.sl o) l S1 [v])(h2:Rel (Imm F p M w) w (.sl o) m S2 [u])(hS1:∀b,S1 b->p.L b)(hS2:∀b,S2 b->p.L b)(hd:∀b,S1 b->¬S2 b)(hroom:bg l.length m.length i.bytes):
  ∃v' w' p',(Builtin.append_ #[t,t] ty #[v,u]).run P w=.ok v' w'/\Tr F p M w [] p' ((k,⟨.sl o,l++m⟩)::M) w'/\(∀b,¬p'.L b)/\ae p'.β ((k,⟨.sl o,l++m⟩)::M) (Imm F p' ((k,⟨.sl o,l++m⟩)::M) w') w' (.ref k []) v':=by
 obtain⟨ety,xs,T1,a1,a2,a3,a4,a5,a6,_⟩:=AS h1;obtain⟨ety2,ys,T2,b1,b2,b3,b4,b5,b6,b7⟩:=AS h2;rw[ho]at a1 b7;unfold bg at hroom;obtain⟨v',w',ety',r1,r2,⟨r3,r3d⟩,r4⟩:=ND (P:=P) w t ty e ety i z ht hi hz hzs v u l.length m.length xs ys a1 b7 (PK (Q:=λ_=>True) (sz:=o.size) (m:=m.length) b1.1 (λi hi=>Rel.one _ _ _ _ (b6 i _ (bU hi)))) hb0 hroom;have hext:ExtL w w' p.L:=⟨r3.os,⟨r3.tape,r3d⟩,r3.output,r3.size,λb hb hL=>r3.block b hb (λe=>hL (hS1 b (a3 b e.symm)))⟩;have hnb:l.length+m.length<=nb:=c8 (C2 _ (wt hb0)) hroom;have hx1:xs.length=l.length*o.size:=by rw[ho];exact a1.1
 refine⟨v',w',_,r1,Tr.new hp k hk v' (λb=>dv v'=some b\/(∃i,T1 i b)\/∃i,T2 i b) ⟨.sl o,l++m⟩ hext (λb hb=>?_) (λhkp=>?_),λb hb=>hb,?_⟩
 ·rcases hb with hb|⟨i,hb⟩|⟨i,hb⟩
  ·rcases (r4 b hb).1 with h|h
   ·exact .inr (hS1 b (a3 b h))
   ·exact .inl ⟨h,(r4 b hb).2⟩
  ·exact .inr (hS1 b (a4 i b hb).1)
  ·exact .inr (hS2 b (b4 i b hb).1)
 ·have hne1:∀i b,T1 i b->dv v≠some b:=λi b hb=>(a4 i b hb).2;have hne2:∀i b,T2 i b->dv v≠some b:=λi b hb e=>hd b (a3 b e) (b4 i b hb).1;have hlt:∀b,p.L b->b<w.heap.size:=λb hb=>(hp.lim b hb).1
  have hnr:∀b,p.L b->dv v≠some b->dv v'≠some b:=λb hb hne e=>by
   rcases (r4 b e).1 with h|h
   ·exact hne h
   ·have:=hlt b hb;omega
  simp only[Rel];refine⟨v',ety',xs++ys,λi c=>(i<l.length/\T1 i c)\/(l.length<=i/\T2 (i-l.length) c),rfl,by rw[bn,ho];exact r2,by rw[bn];exact hnb,λc hc=>.inl hc,λi c hc=>?_,λi j c hij hc=>?_,λi x hx=>?_⟩
  ·rcases hc with⟨_,hc⟩|⟨_,hc⟩
   ·exact⟨.inr (.inl ⟨i,hc⟩),hnr c (hS1 c (a4 i c hc).1) (hne1 i c hc)⟩
   ·exact⟨.inr (.inr ⟨_,hc⟩),hnr c (hS2 c (b4 _ c hc).1) (hne2 _ c hc)⟩
  ·rcases hc with⟨g1,hc⟩|⟨g1,hc⟩
   ·rintro (⟨g2,hc'⟩|⟨g2,hc'⟩)
    ·exact a5 i j c hij hc hc'
    ·exact hd c (a4 i c hc).1 (b4 _ c hc').1
   ·rintro (⟨g2,hc'⟩|⟨g2,hc'⟩)
    ·exact hd c (a4 j c hc').1 (b4 _ c hc).1
    ·exact b5 _ _ c aa hc hc'
  ·by_cases hil:i<l.length
   ·rw[fT hil]at hx;rw[OT hx1 hil];refine Rel.wide _ _ (T1 i) _ _ (λb hb=>.inl ⟨hil,hb⟩) (Rel.keep hkp _ _ _ _ (λb hb=>r3.block b (hlt b (hS1 b (a4 i b hb).1)) (λe=>hne1 i b hb e.symm)) (a6 i x hx))
   ·rw[g9 aa]at hx;rw[Oi hx1 aa];refine Rel.wide _ _ (T2 (i-l.length)) _ _ (λb hb=>.inr ⟨aa,hb⟩) (Rel.keep hkp _ _ _ _ (λb hb=>r3.block b (hlt b (hS2 b (b4 _ b hb).1)) (λe=>hne2 _ b hb e.symm)) (b6 _ x hx))
 ·simp only[ae,ac];refine⟨⟨.sl o,l++m⟩,none,mG _ _ _,by simp only[gok],⟨⟨.sl o,l++m⟩,by simp only[get]⟩,?_⟩;rw[uT];simp only[res]
theorem JQ(hp:Hp F p M w)(k:Nat)(hk:go M k=none){ty:bF}(ht:P.underlying t=some (.slice e))(hi:P.info? e=some i)(hz:i.zero=some z)(hzs:z.cells.size=i.size)(hb0:i.bytes≠0){l m:List o.strip.den}(ho:o.size=i.size)(h1:Rel (Imm F p M w) w (.sl o) l S1 [v])(h2:ai (Imm F p M w) w (.sl o.strip) m [u])(hS1:∀b,S1 b->p.L b)(hroom:bg l.length m.length i.bytes):
  ∃v' w' p',(Builtin.append_ #[t,t] ty #[v,u]).run P w=.ok v' w'/\Tr F p M w [] p' ((k,⟨.sl (.fz o.strip),l++m⟩)::M) w'/\(∀b,¬p'.L b)/\ae p'.β ((k,⟨.sl (.fz o.strip),l++m⟩)::M) (Imm F p' ((k,⟨.sl (.fz o.strip),l++m⟩)::M) w') w' (.ref k []) v':=by
 obtain⟨ety,xs,T1,a1,a2,a3,a4,a5,a6,_⟩:=AS h1;obtain⟨ys,b7,b6⟩:=abg h2;have ho':o.strip.size=i.size:=ho;rw[ho]at a1;rw[ho']at b7;unfold bg at hroom;obtain⟨v',w',ety',r1,r2,⟨r3,r3d⟩,r4⟩:=ND (P:=P) w t ty e ety i z ht hi hz hzs v u l.length m.length xs ys a1 b7 (PK (Q:=λ_=>True) (sz:=o.strip.size) (m:=m.length) (by rw[ho'];exact b7.1) (λi hi=>ai.one _ _ _ (b6 i _ (bU hi)))) hb0 hroom;have hext:ExtL w w' p.L:=⟨r3.os,⟨r3.tape,r3d⟩,r3.output,r3.size,λb hb hL=>r3.block b hb (λe=>hL (hS1 b (a3 b e.symm)))⟩;have hnb:l.length+m.length<=nb:=c8 (C2 _ (wt hb0)) hroom;have hx1:xs.length=l.length*o.size:=by rw[ho];exact a1.1
 refine⟨v',w',_,r1,Tr.new hp k hk v' (λb=>dv v'=some b) ⟨.sl (.fz o.strip),l++m⟩ hext (λb hb=>?_) (λhkp=>?_),λb hb=>hb,?_⟩
 ·rcases (r4 b hb).1 with h|h
  ·exact .inr (hS1 b (a3 b h))
  ·exact .inl ⟨h,(r4 b hb).2⟩
 ·have hlt:∀b,p.L b->b<w.heap.size:=λb hb=>(hp.lim b hb).1
  have hnr:∀b,p.L b->dv v≠some b->dv v'≠some b:=λb hb hne e=>by
   rcases (r4 b e).1 with h|h
   ·exact hne h
   ·have:=hlt b hb;omega
  have hT:∀i b,T1 i b->Imm F (p.upd k v' λb=>dv v'=some b) ((k,⟨.sl (.fz o.strip),l++m⟩)::M) w' b:=λi b hb=>by
   have hLb:=hS1 b (a4 i b hb).1;refine⟨by have:=hlt b hLb;have:=r3.size;omega,.inr (hp.lim b hLb).2.1.r,λh=>h,λj hj=>?_⟩;by_cases e:j=k
   ·subst e;rw[show (p.upd j v' λb=>dv v'=some b).σ j=λb=>dv v'=some b by simp[Ow.upd,Ow.updL]];exact hnr b hLb (a4 i b hb).2
   ·rw[show (p.upd k v' λb=>dv v'=some b).σ j=p.σ j by simp[Ow.upd,Ow.updL,e]];refine (hp.lim b hLb).2.2 j ?_;unfold bm at hj⊢
    rwa [cJ,aj (cM e)]at hj
  simp only[Rel];have hsz:(O.fz o.strip).size=o.size:=rfl;refine⟨v',ety',xs++ys,λ_ _=>False,rfl,by rw[bn,hsz,ho];exact r2,by rw[bn];exact hnb,λc hc=>hc,λi c hc=>hc.elim,λi j c _ hc=>hc.elim,λi x hx=>?_⟩;rw[hsz];by_cases hil:i<l.length
  ·rw[fT hil]at hx;rw[OT hx1 hil];have h3:=Rel.keep hkp _ _ _ _ (λb hb=>r3.block b (hlt b (hS1 b (a4 i b hb).1)) (λe=>(a4 i b hb).2 e.symm)) (a6 i x hx);exact Rel.frz (λ_ h=>h) _ _ _ _ (hT i) h3
  ·rw[g9 aa]at hx;rw[Oi hx1 aa];exact ai.keep hkp _ _ _ (b6 _ x hx)
 ·simp only[ae,ac];refine⟨⟨.sl (.fz o.strip),l++m⟩,none,mG _ _ _,by simp only[gok],⟨⟨.sl (.fz o.strip),l++m⟩,by simp only[get]⟩,?_⟩;rw[uT];simp only[res]
def F5(F:Fr)(p:Ow)(M:Mem)(w:aQ)(u:bw):Src->Prop
 |.nil=>∃oa,u=.slice oa 0 0
 |.own j e l=>go M j=some ⟨.sl e,l⟩/\u=p.β j
 |.dat ev M1 t l=>Tr F p M w ev p M1 w/\ai (Imm F p M1 w) w (.sl t) l [u]/\lS M M1
theorem ad5(h:Hp F p M w)(x:V)(u:bw)(hx:ae p.β M (Imm F p M w) w x u)(s:Src)(hs:rh M x=some s):F5 F p M w u s:=by
 unfold rh at hs;split at hs
 ·cases hs;simp only[ae,ac,bG,az]at hx;exact hx
 ·cases hs;exact⟨Tr.refl h,bp.1 hx,lS.refl M⟩
 ·rename_i j π;simp only[ae,ac]at hx;split at hs
  ·rename_i e l hj;cases hs;obtain⟨ob,pl,k1,k2,k3,k4⟩:=hx;simp only[res,aI,bE,bG,az]at k4;exact⟨hj,k4.1.symm⟩
  ·rename_i ob hj _;split at hs
   ·rename_i e l hq;cases hs;exact⟨Tr.frz h j ob hj,JB h hj hq hx,Em j M⟩
   ·rename_i t l hq;cases hs;exact⟨Tr.frz h j ob hj,JB h hj hq hx,Em j M⟩
   ·cases hs
  ·cases hs
 ·cases hs
structure ApT (P:cX) (t e:bF) (i:TypeInfo) (z:bw):Prop where
 ht:P.underlying t=some (.slice e)
 hi:P.info? e=some i
 hz:i.zero=some z
 hzs:z.cells.size=i.size
 hb:i.bytes≠0
theorem cd.app{r:Rs}(ht:Tr F p M w r.ev p' r.M w')(hL:∀b,¬p'.L b)(hv:ae p'.β r.M (Imm F p' r.M w') w' r.av v):cd F p M w false r v w':=⟨p',ht,hL,hv,λ_ h=>by cases h⟩
theorem cd.appQ{r:Rs}(ht:Tr F p M w r.ev p' r.M w')(hL:∀b,¬p'.L b)(hv:ae p'.β r.M (Imm F p' r.M w') w' r.av v)(hf:fresh M r.ev=false):cd F p M w qt r v w':=⟨p',ht,hL,hv,λh=>by rw[hf]at h;cases h⟩
structure Tk (F:Fr) (p:Ow) (M:Mem) (w:aQ) (q:Ob) (e:bM) (vs:aM) (p':Ow) (M':Mem) (S:aT):Prop where
 L:∀b,S b->p'.L b
 tr:Tr F p M w e p' M' w
 rel:Rel (Imm F p' M' w) w q.o q.x S vs
theorem Cv.tk{e:bM}(h:Cv F p M w k q e vs p' M' S):Tk F p M w q e vs p' M' S:=⟨λb hb=>(h.L b).2 (.inr hb),h.tr,h.rel⟩
theorem Jl(A:ApT P t e i z){l:List o.strip.den}{ev:bM}(ho:o.size=i.size)(cv:Tk F p M w ⟨.sl o,l⟩ ev [v] p1 M1 S1)(hL:∀b,¬p.L b)(d j:Nat){e':O}{m:List e'.strip.den}(hj:go M1 j=some ⟨.sl e',m⟩)(hu:u=p1.β j)(hjg:j<gid)(hv:ab (tp i.bytes d o l j e' m ev M1 M0).vc):
  ∃v' w',(Builtin.append_ #[t,t] ty' #[v,u]).run P w=.ok v' w'/\cd F p M w false (tp i.bytes d o l j e' m ev M1 M0) v' w':=by
 have hp1:=cv.tr.hp;unfold tp at hv⊢;split at hv
 ·rename_i m' he hm;simp only[dX,fx,az]at hv;have:=O.beq_eq he;subst this;have hq:=qD hm;simp only[Ob.mk.injEq,heq_eq_eq,aL]at hq;subst hq;have c2:=Cv.whole hp1 j hj hjg;have c2r:=c2.rel;have hL2:∀b,S1 b->(⟨p1.β,p1.σ,λb=>p1.L b\/p1.σ j b⟩:Ow).L b:=λb hb=>.inl (cv.L b hb);have hlim:=hp1.lim;have r1:=Rel.keep c2.tr.keep _ _ _ _ (λ_ _=>rfl) cv.rel;obtain⟨hk1,hk2⟩:=Hp.del c2.tr.hp d;have r1':=Rel.keep hk2 _ _ _ _ (λ_ _=>rfl) r1;have c2r':=Rel.keep hk2 _ _ _ _ (λ_ _=>rfl) c2r;rw[←hu]at c2r';obtain⟨v',w',p',g1,g2,g3,g4⟩:=Sn (P:=P) (ty:=ty') hk1 d (eJ d _) A.ht A.hi A.hz A.hzs A.hb ho r1' c2r' hL2 (λb hb=>.inr hb) (λb hb hb'=>(hlim b (cv.L b hb)).2.2 j (bP hj) hb') hv;refine⟨v',w',g1,cd.app (r:=⟨_,.ref d [],ap ev [.kl j,.kl d],_⟩) ?_ g3 g4⟩;have:=cv.tr.trans (c2.tr.trans ((Tr.kl c2.tr.hp d).trans g2));simpa only [ap]using this
 ·split at hv
  ·rename_i m1 hm1;simp only[dX,fx,az]at hv;have hf:=Tr.frz hp1 j _ hj;have hrj:=hp1.objs j _ hj;have hrf:ai (Imm F p1 (del j M1) w) w (.sl e'.strip) m [u]:=by rw[hu];have:=Rel.frz (λb hb=>((hp1.del j).2 b hb).1) _ _ (p1.σ j) _ (λb hb=>tf hp1 (bP hj) hb) hrj;simpa only [O.strip]using this
   have hrf2:ai (Imm F p1 (del j M1) w) w (.sl o.strip) m1 [u]:=nE hm1 hrf;have r1:=Rel.keep hf.keep _ _ _ _ (λ_ _=>rfl) cv.rel;obtain⟨hk1,hk2⟩:=Hp.del hf.hp d;obtain⟨v',w',p',g1,g2,g3,g4⟩:=JQ (P:=P) (ty:=ty') hk1 d (eJ d _) A.ht A.hi A.hz A.hzs A.hb ho (Rel.keep hk2 _ _ _ _ (λ_ _=>rfl) r1) (ai.keep hk2 _ _ _ hrf2) cv.L hv;refine⟨v',w',g1,cd.app (r:=⟨_,.ref d [],ap ev [.fz j ⟨.sl e',m⟩,.kl d],_⟩) ?_ g3 g4⟩;have:=cv.tr.trans (hf.trans ((Tr.kl hf.hp d).trans g2));simpa only [ap]using this
  ·exact hv.1.elim
theorem Je(A:ApT P t e i z){l:List o.strip.den}{ev:bM}(ho:o.size=i.size)(cv:Tk F p M w ⟨.sl o,l⟩ ev [v] p1 M1 S1)(hL:∀b,¬p.L b)(d:Nat){m:List t'.den}(hm:ai (Imm F p1 M1 w) w (.sl t') m [u])(hv:ab (tD i.bytes d o l t' m ev M1 M0).vc):
  ∃v' w',(Builtin.append_ #[t,t] ty' #[v,u]).run P w=.ok v' w'/\cd F p M w false (tD i.bytes d o l t' m ev M1 M0) v' w':=by
 have hp1:=cv.tr.hp;unfold tD at hv⊢;split at hv
 ·rename_i m1 hm1;simp only[dX,fx,az]at hv;have hrf2:ai (Imm F p1 M1 w) w (.sl o.strip) m1 [u]:=nE hm1 hm;obtain⟨hk1,hk2⟩:=Hp.del hp1 d;obtain⟨v',w',p',g1,g2,g3,g4⟩:=JQ (P:=P) (ty:=ty') hk1 d (eJ d _) A.ht A.hi A.hz A.hzs A.hb ho (Rel.keep hk2 _ _ _ _ (λ_ _=>rfl) cv.rel) (ai.keep hk2 _ _ _ hrf2) cv.L hv;refine⟨v',w',g1,cd.app (r:=⟨_,.ref d [],ap ev [.kl d],_⟩) ?_ g3 g4⟩;have:=cv.tr.trans ((Tr.kl hp1 d).trans g2);simpa only [ap]using this
 ·exact hv.1.elim
theorem ZS(h:LG π ob=some ob'):∃(p0:bz)(i:Nat)(e:O)(l:List e.strip.den),jB π=some (p0,i)/\get p0 ob.o ob.x=some ⟨.sl e,l⟩/\set p0 ob.o ob.x ⟨.sl (.op e),om l i⟩=some ob':=by
 unfold LG at h;split at h
 ·rename_i p0 i hx;split at h
  ·rename_i e l hq;exact⟨p0,i,e,l,hx,hq,h⟩
  ·cases h
 ·cases h
theorem K_(hB:TabOk P B)(h:Hp F p M w)(hL:∀b,¬p.L b)(dst:eP)(s x:V)(v u:bw)(hs:ae p.β M (Imm F p M w) w s v)(hx:ae p.β M (Imm F p M w) w x u)(hv:ab (pb B dst t s x M).vc):
  ∃v' w',(Builtin.append_ #[t,t] ty' #[v,u]).run P w=.ok v' w'/\cd F p M w false (pb B dst t s x M) v' w':=by
 unfold pb at hv⊢;split at hv
 ·rename_i e d src he hsrc;have hso:=ad5 h x u hx src hsrc
  cases hk:aO [(B.τ t).ok,(B.τ e).ok,neg (Nat.beq (B.τ e).bytes 0),B.z e,bT (B.σ e).size (B.τ e).size]with
  |false=>rw[hk]at hv;exact hv.1.elim
  |true=>
   simp only[hk,aD]at hv⊢;simp only[bH,bJ,bC,ao,dL,bN]at hk;obtain⟨k1,k2,k3,k4,k5⟩:=hk;have eτ:=hB.τ t k1;have eτ':=hB.τ e k2;obtain⟨infe,z,hie,hz,h0⟩:=uY hB k4;rw[←eτ']at k2 k3 k5;simp only[←eτ']at hv⊢;rw[←eτ]at k1 he;obtain⟨inf,ud,hi,hu⟩:=dn k1;obtain⟨infe',ue,hie',hue⟩:=dn k2;rw[hie]at hie';cases hie';rw[cV hi hu]at he;rw[cV hie hue]at k3 k5;simp only[cV hie hue]at hv⊢;simp only[d7]at he k3 k5 hv⊢;cases ud<;>simp at he;obtain rfl:=he.symm;have hzs:z.cells.size=infe.size:=by have h1:=Rel.len _ _ _ _ (tj (Im:=Imm F p M w) (w:=w) (B.σ e) _ h0).1;rw[A6,k5]at h1;simpa using h1
   have A:ApT P t e infe z:=⟨hu,hie,hz,hzs,by rintro h;rw[h]at k3;simp at k3⟩;split at hv
   ·simp only[ae,ac,bG,az]at hs;obtain⟨oa,rfl⟩:=hs;split at hv
    ·simp only[F5]at hso;obtain⟨ob,rfl⟩:=hso;exact⟨.slice oa 0 0,w,by cases oa<;>cases ob<;>simp[Builtin.append_,cP hu,sizeOf,typeInfo,hie,Builtin.lenOf,Builtin.firstCells,loadCells,loadCellsFrom,storeCells],cd.app (r:=⟨[],.nl,[],M⟩) (Tr.refl h) hL (by simp only[ae,ac];exact⟨oa,rfl⟩)⟩
    ·rename_i j e' m;obtain⟨hj,rfl⟩:=hso
     cases hkk:aO [d6 j d,bT e'.strip.size infe.size]with
     |false=>rw[hkk]at hv;exact hv.1.elim
     |true=>simp only[hkk,aD,dX,fx,az]at hv⊢;simp only[bH,bJ,bC,ao,dL,bN]at hkk;obtain⟨hne,hg⟩:=sV (r:=j) (k:=d) (by rw[hkk.1];rfl);have c2:=Cv.whole h d hj hg;obtain⟨hk1,hk2⟩:=Hp.del c2.tr.hp d;obtain⟨v',w',p',g1,g2,g3,g4⟩:=Sn (P:=P) (ty:=ty') hk1 d (eJ d _) A.ht A.hi A.hz A.hzs A.hb (l:=([]:List e'.strip.den)) hkk.2 (AW e' oa) (Rel.keep hk2 _ _ _ _ (λ_ _=>rfl) c2.rel) (λb hb=>hb.elim) (λb hb=>.inr hb) (λb hb=>hb.elim) hv;refine⟨v',w',g1,cd.app (r:=⟨_,.ref d [],[.kl j,.kl d],_⟩) ?_ g3 g4⟩;exact c2.tr.trans ((Tr.kl c2.tr.hp d).trans g2)
    ·rename_i ev M1 t' m;obtain⟨h1,h2,h3⟩:=hso
     cases hkk:bT t'.size infe.size with
     |false=>rw[hkk]at hv;exact hv.1.elim
     |true=>simp only[hkk,aD,dX,fx,az]at hv⊢;simp only[dL,bN]at hkk;obtain⟨hk1,hk2⟩:=Hp.del h1.hp d;obtain⟨v',w',p',g1,g2,g3,g4⟩:=JQ (P:=P) (ty:=ty') hk1 d (eJ d _) A.ht A.hi A.hz A.hzs A.hb (o:=.fz t') (l:=([]:List t'.den)) hkk (AW (.fz t') oa) (ai.keep hk2 _ _ _ h2) (λb hb=>hb.elim) hv;refine⟨v',w',g1,cd.app (r:=⟨_,.ref d [],ap ev [.kl d],_⟩) ?_ g3 g4⟩;exact h1.trans ((Tr.kl h1.hp d).trans g2)
   ·rename_i k π;simp only[ae,ac]at hs;split at hv
    ·rename_i o l hob;have hvβ:v=p.β k:=by obtain⟨ob,pl,q1,q2,q3,q4⟩:=hs;simp only[res,aI,bE,bG,az]at q4;exact q4.1.symm
     cases hkk:aO [bT o.strip.size infe.size,Nat.ble (Nat.succ k) gid]with
     |false=>rw[hkk]at hv;exact hv.1.elim
     |true=>
      simp only[hkk,aD]at hv⊢;simp only[bH,bJ,bC,ao,dL,bN]at hkk;have hkg:k<gid:=eU hkk.2;split at hv
      ·simp only[F5]at hso;obtain⟨ob2,rfl⟩:=hso;obtain⟨ety,xs,T1,a1,_⟩:=AS (h.objs k _ hob);rw[show o.size=infe.size from hkk.1,←hvβ]at a1;refine⟨_,_,?_,cd.app (r:=⟨[],.ref k [],[],M⟩) (Tr.refl h) hL (by simp only[ae,ac];exact hs)⟩;exact NN w t ty' e infe hu hie _ _ _ _ a1 ob2
      ·rename_i j e' m;obtain⟨hj,rfl⟩:=hso
       cases hok:neg (d6 j k)with
       |true=>rw[hok]at hv;exact hv.1.elim
       |false=>simp only[hok,bc]at hv⊢;obtain⟨hne,hg⟩:=sV hok;have c1:=Cv.whole h k hob hkg;rw[←hvβ]at c1;exact Jl A hkk.1 c1.tk hL k j (by rw[dC hne];exact hj) rfl hg hv
      ·rename_i ev M1 t' m;obtain⟨h1,h2,h3⟩:=hso;split at hv
       ·rename_i obx hgx
        have hgk:go M1 k=some ⟨.sl o,l⟩:=by
         rcases h3 k with g|g
         ·rw[g]at hgx;cases hgx
         ·rw[g,hob]
        have c1:=Cv.whole h1.hp k hgk hkg;rw[←hvβ]at c1;have c0:Tk F p M w ⟨.sl o,l⟩ (ap ev [.kl k]) [v] _ (del k M1) _:=⟨c1.tk.L,h1.trans c1.tr,c1.rel⟩;exact Je A hkk.1 c0 hL k (ai.keep c1.tr.keep _ _ _ h2) hv
       ·exact hv.1.elim
    ·rename_i ob hob _;split at hv
     ·rename_i o l ob' hq hset
      cases hkk:aO [bT o.strip.size infe.size,neg (Nat.beq d k),Nat.ble (Nat.succ k) gid]with
      |false=>rw[hkk]at hv;exact hv.1.elim
      |true=>
       simp only[hkk,aD]at hv⊢;simp only[bH,bJ,bC,ao,dL,bN]at hkk;have hkg:k<gid:=eU hkk.2.2;have hs0:=hs;obtain⟨ob1,pl,q1,q2,q3,q4⟩:=hs;rw[hob]at q1;cases q1;split at hv
       ·simp only[F5]at hso;obtain⟨ob2,rfl⟩:=hso;obtain⟨us,pl',S',e1,e2,e3,_⟩:=look h hob q2 hq;rw[e1]at q4;simp only[aI,bE]at q4;obtain⟨rfl,rfl⟩:=q4;obtain⟨ety,xs,T1,a1,_⟩:=AS e3;refine⟨_,_,?_,cd.app (r:=⟨[],.ref k _,[],M⟩) (Tr.refl h) hL (by simp only[ae,ac];exact hs0)⟩;exact NN w t ty' e infe hu hie _ _ _ _ (by rw[show o.size=infe.size from hkk.1]at a1;exact a1) ob2
       ·rename_i j e' m;obtain⟨hj,rfl⟩:=hso
        cases hok:aO [d6 j k,d6 j d]with
        |false=>rw[hok]at hv;exact hv.1.elim
        |true=>simp only[hok,aD]at hv⊢;simp only[bH,bJ,bC,ao]at hok;obtain⟨hne,hg⟩:=sV (r:=j) (k:=k) (by rw[hok.1];rfl);obtain⟨p1,S,k1,k2,k3,k4,k5⟩:=Tr.cut h hob hkg q2 hq q4 hset;have hc:Tk F p M w ⟨.sl o,l⟩ [.cut k ob.o ob'.o] [v] p1 (put k ob' M) S:=⟨λb hb=>(k2 b).2 (.inr hb),k4,k5⟩;exact Jl A hkk.1 hc hL d j (by rw[iR ob' hne];exact hj) (by rw[k1]) hg hv
       ·rename_i ev M1 t' m;obtain⟨h1,h2,h3⟩:=hso;split at hv
        ·rename_i obx hgx
         have hgk:go M1 k=some ob:=by
          rcases h3 k with g|g
          ·rw[g]at hgx;cases hgx
          ·rw[g,hob]
         obtain⟨p1,S,k1,k2,k3,k4,k5⟩:=Tr.cut h1.hp hgk hkg q2 hq q4 hset;have hc:Tk F p M w ⟨.sl o,l⟩ (ap ev [.cut k ob.o ob'.o]) [v] p1 (put k ob' M1) S:=⟨λb hb=>(k2 b).2 (.inr hb),h1.trans k4,k5⟩;exact Je A hkk.1 hc hL d (ai.keep k4.keep _ _ _ h2) hv
        ·exact hv.1.elim
     ·rename_i o l hq hset;split at hv
      ·rename_i ob' htk;obtain⟨p5,i0,e0,l0,x1,x2,x3⟩:=ZS htk;have hq5:=(Ks _ ob.o ob.x p5 i0 _ x1 x2).2.2.1 e0 l0 rfl;rw[hq]at hq5;simp only[aI,Ob.mk.injEq]at hq5;obtain⟨rfl,hq5⟩:=hq5;cases hq5
       cases hkk:aO [bT o.strip.size infe.size,neg (Nat.beq d k),Nat.ble (Nat.succ k) gid]with
       |false=>rw[hkk]at hv;exact hv.1.elim
       |true=>
        simp only[hkk,aD]at hv⊢;simp only[bH,bJ,bC,ao,dL,bN]at hkk;have hkg:k<gid:=eU hkk.2.2;obtain⟨ob1,pl,q1,q2,q3,q4⟩:=hs;rw[hob]at q1;cases q1;split at hv
        ·exact hv.1.elim
        ·rename_i j e' m;obtain⟨hj,rfl⟩:=hso
         cases hok:aO [d6 j k,d6 j d]with
         |false=>rw[hok]at hv;exact hv.1.elim
         |true=>simp only[hok,aD]at hv⊢;simp only[bH,bJ,bC,ao]at hok;obtain⟨hne,hg⟩:=sV (r:=j) (k:=k) (by rw[hok.1];rfl);obtain⟨p1,S,k1,k2,k3,k4,k5⟩:=Tr.take h hob hkg x1 x2 q2 q4 x3;have hc:Tk F p M w ⟨.sl o,l0.getD i0 (O.sl o).dflt⟩ _ [v] p1 (put k ob' M) S:=⟨λb hb=>(k2 b).2 (.inr hb),k4,k5⟩;exact Jl A hkk.1 hc hL d j (by rw[iR _ hne];exact hj) (by rw[k1]) hg hv
        ·rename_i ev M1 t' m;obtain⟨h1,h2,h3⟩:=hso;split at hv
         ·rename_i obx hgx
          have hgk:go M1 k=some ob:=by
           rcases h3 k with g|g
           ·rw[g]at hgx;cases hgx
           ·rw[g,hob]
          obtain⟨p1,S,k1,k2,k3,k4,k5⟩:=Tr.take h1.hp hgk hkg x1 x2 q2 q4 x3;have hc:Tk F p M w ⟨.sl o,l0.getD i0 (O.sl o).dflt⟩ _ [v] p1 (put k ob' M1) S:=⟨λb hb=>(k2 b).2 (.inr hb),h1.trans k4,k5⟩;exact Je A hkk.1 hc hL d (ai.keep k4.keep _ _ _ h2) hv
         ·exact hv.1.elim
      ·exact hv.1.elim
     ·exact hv.1.elim
    ·exact hv.1.elim
   ·exact hv.1.elim
 ·exact hv.1.elim
end Go.Bm
