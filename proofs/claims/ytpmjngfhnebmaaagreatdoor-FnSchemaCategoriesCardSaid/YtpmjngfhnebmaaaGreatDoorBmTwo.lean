/- The typed machine that the walks of this claim go by: its data, its operations and the proof that each is sound. No condition. -/
import Derived.Test.YtpmjngfhnebmaaaGreatDoorBmOne
import Derived.Laws.BytesArg
import Derived.ChangeKeysEq
import Derived.Laws.StructEq
import Derived.MapKept
set_option linter.unusedVariables false
set_option linter.unusedSimpArgs false
set_option linter.unusedSectionVars false
namespace Go.Bm
open Go.RowKit
abbrev aD:=@cond_true
abbrev bH:=@List.cons.injEq
abbrev aL:=@true_and
abbrev aA:=@and_true
abbrev lh:=@Iff.rfl
abbrev wn:=@Option.getD_none
abbrev aM:=@List.length_nil
abbrev dO:=@Nat.zero_le
abbrev dY:=@Option.getD_some
abbrev d5:=@List.length_map
abbrev uj:=@Nat.lt_irrefl
abbrev ia:=@Nat.le_of_ble_eq_true
abbrev yH:=@Bool.false_or
abbrev eU:=@List.all_eq_true
abbrev uk:=@List.mem_of_getElem?
abbrev Cm:=@List.length_eq_one_iff
abbrev yI:=@List.headD_cons
abbrev lT:=@ByteArray.size_append
abbrev fy:=@Bool.not_eq_true'
abbrev eE:=@Bool.false_eq_true
abbrev gU:=@Sem.run_bind
abbrev jn:=@Result.andThen_ok
abbrev gO:=@List.map_cons
abbrev yJ:=@Nat.mul_one
abbrev wo:=@Bool.not_true
abbrev d8:=@run_underlying
abbrev wq:=@beq_self_eq_true
abbrev fR:=@Bool.or_eq_true
abbrev yK:=@MapKept.run_getObj_map
abbrev iS:=@List.eq_nil_of_length_eq_zero
abbrev qv:=@Array.getElem?_toList
abbrev qw:=@Addr.add_lit
abbrev yL:=@World.grownBy_alloc
abbrev rR:=@heap_alloc_new
abbrev eF:=@Array.getElem?_eq_some_iff
abbrev jF:=@List.foldl_cons
abbrev aH:=@List.length_cons
abbrev yM:=@Nat.min_eq_left
abbrev cj:=@decide_eq_true_eq
abbrev mM:=@Array.ext'
abbrev lj:=@Array.mem_toList_iff
abbrev cQ:=@List.mem_cons
abbrev wu:=@Nat.pos_of_ne_zero
abbrev wv:=@List.replicate_succ
abbrev ww:=@List.flatten_cons
abbrev yN:=@List.getElem?_replicate
abbrev jG:=@List.getElem?_cons_zero
abbrev oR:=@List.getElem?_cons_succ
abbrev lk:=@List.length_replicate
abbrev oS:=@Sem.run_pure
abbrev wx:=@Int.le_trans
abbrev bB:=@Int.toNat_natCast
abbrev Cn:=@Nat.le_mul_of_pos_right
abbrev wy:=@Nat.le_succ
abbrev Gf:=@Nat.div_lt_iff_lt_mul
variable {B:Tab}{F:Fr}{Im S S' S1:aT}{M M' M'' M0 M1:Mem}{P:d4}{Q:List Value->Prop}{a:Act}{agg c qt:bC}{b fsz k m n off r sz:Nat}{cells cs cur:lP}{e ety ft t ty':bW}{e0:cg}{env:Env}{es:Array MapEntry}{i:TypeInfo}{l:aw}{news us va vb vs xs ys zs:aJ}{o:O}{ob ob' q:Ob}{op:bR}{p p' p'' p1:Ow}{p0 π ρ:bA}{parts:Array (Nat×Operand)}{pl:Pl}{place:Nat->Option (Nat×Nat)}{s:ByteArray}{t':T}{u v z:bm}{vals:List (Nat×Value)}{w w' w'' w0:aK}{x:eO}{α:Type}{β:gM}
theorem Jw{Im:aT}{w:aK}:(o:O)->(x:o.strip.den)->(S:aT)->(vs:aJ)->Rel Im w o x S vs->ah Im w o.hole (o.holeX x) vs
 |.fz t,x,S,vs,r=>by simpa only [Rel,O.hole,O.holeX]using r
 |.p a b,x,S,vs,r=>by simp only[Rel]at r;obtain⟨va,vb,S1,S2,h1,h2,h3,h4,h5,h6⟩:=r;simp only[O.hole,O.holeX,ah];exact⟨va,vb,h1,Jw a _ _ va h5,Jw b _ _ vb h6⟩
 |.sl e,x,S,vs,r=>by simp only[Rel]at r;obtain⟨v,ety,xs,T,h,h2,_⟩:=r;simp only[O.hole,ah];exact⟨v,h,Ov h2⟩
 |.pt o,x,S,vs,r=>by simp only[Rel]at r;obtain⟨b,us,ty',S',h,_⟩:=r;simp only[O.hole,ah];exact⟨_,h,rfl⟩
 |.mp k v,x,S,vs,r=>by simp only[Rel]at r;obtain⟨b,es,n,h,_⟩:=r;simp only[O.hole,ah];exact⟨_,h,rfl⟩
 |.op e,x,S,vs,r=>by simp only[Rel]at r;simp only[O.hole,O.holeX,ah];exact⟨r.1,r.2.1,λy hy=>by cases hy⟩
theorem IW:(o:O)->o.hole.size=o.size
 |.fz t=>rfl
 |.p a b=>by simp only[O.hole,O.size,T.size,DP];rw[IW a,IW b];rfl
 |.sl e|.pt o|.mp _ _|.op _=>rfl
theorem D'(ad:Pl):ad.plus 0=ad:=by cases ad<;>rfl
theorem Pr(ad:Pl)(a b:Nat):(ad.plus a).plus b=ad.plus (a+b):=by cases ad<;>simp[Pl.plus,wi]
theorem mf(w:aK):(π:bA)->(o:O)->(n:Nat)->fh π o=some n->∀(x:o.strip.den)(vs:aJ)(ad:Pl),(∃q,get π o x=some q)/\gok π o x/\∃us,res w π o vs ad=some (us,ad.plus n)
 |[],o,n,h,x,vs,ad=>by simp only[fh,aG]at h;subst h;exact⟨⟨⟨o,x⟩,by simp only[get]⟩,by simp only[gok],⟨vs,by simp only[res,D']⟩⟩
 |.l::π,.p a b,n,h,x,vs,ad=>by simp only[fh]at h;obtain⟨h1,h2,h3⟩:=mf w π a n h x.1 (vs.take a.size) ad;exact⟨by simpa only [get]using h1,by simpa only [gok]using h2,by simpa only [res]using h3⟩
 |.r::π,.p a b,n,h,x,vs,ad=>by
  simp only[fh]at h;split at h
  ·rename_i m hm;simp only[aG]at h;obtain⟨h1,h2,us,h3⟩:=mf w π b m hm x.2 (vs.drop a.size) (ad.plus a.size);refine⟨by simpa only [get]using h1,by simpa only [gok]using h2,us,?_⟩;simp only[res];rw[h3,Pr,←h];simp[O.size]
  ·cases h
 |.l::π,.fz (.p a b),n,h,x,vs,ad=>by simp only[fh]at h;obtain⟨h1,h2,h3⟩:=mf w π (.fz a) n h x.1 (vs.take a.size) ad;exact⟨by simpa only [get]using h1,by simpa only [gok]using h2,by simpa only [res]using h3⟩
 |.r::π,.fz (.p a b),n,h,x,vs,ad=>by
  simp only[fh]at h;split at h
  ·rename_i m hm;simp only[aG]at h;obtain⟨h1,h2,us,h3⟩:=mf w π (.fz b) m hm x.2 (vs.drop a.size) (ad.plus a.size);refine⟨by simpa only [get]using h1,by simpa only [gok]using h2,us,?_⟩;simp only[res];rw[h3,Pr,←h];simp
  ·cases h
 |.l::_,.sl _,_,h,_,_,_|.l::_,.pt _,_,h,_,_,_|.l::_,.fz (.int _),_,h,_,_,_|.l::_,.fz .bool,_,h,_,_,_|.l::_,.fz .str,_,h,_,_,_|.l::_,.fz .u,_,h,_,_,_|.l::_,.fz (.sl _),_,h,_,_,_|.l::_,.fz (.pt _),_,h,_,_,_|.l::_,.fz (.fn _ _),_,h,_,_,_|.l::_,.fz .any,_,h,_,_,_|.r::_,.sl _,_,h,_,_,_|.r::_,.pt _,_,h,_,_,_|.r::_,.fz (.int _),_,h,_,_,_|.r::_,.fz .bool,_,h,_,_,_|.r::_,.fz .str,_,h,_,_,_|.r::_,.fz .u,_,h,_,_,_|.r::_,.fz (.sl _),_,h,_,_,_|.r::_,.fz (.pt _),_,h,_,_,_|.r::_,.fz (.fn _ _),_,h,_,_,_|.r::_,.fz .any,_,h,_,_,_|.ix _::_,_,_,h,_,_,_|.de::_,_,_,h,_,_,_=>by simp[fh]at h
theorem Jx{a b:fu}(h:oy a b=true):∃n,a=some n/\b=some n:=by cases a<;>cases b<;>simp[oy]at h;subst h;exact⟨_,rfl,rfl⟩
theorem Ay(h:gH π o=some n):∃ρ o',π=.de::ρ/\o=.pt o'/\fh ρ o'=some n:=by
 unfold gH at h;split at h
 ·exact⟨_,_,rfl,rfl,h⟩
 ·cases h
structure Chg (w w':aK) (t:aT):Prop where
 os:w'.os=w.os
 tape:TD w' w
 output:w'.output=w.output
 size:w'.heap.size=w.heap.size
 old:∀b,¬t b->w'.heap[b]? = w.heap[b]?
theorem Tr.put(h:Hp F p M w){n:Ob}{us':aJ}{S'' L':aT}(hk:go M k=some ob)(hsub:∀c,S' c->p.σ k c)(hpl:cn π=true->∃b off cur ty',pl=some (b,off)/\p.σ k b/\¬S' b/\w.heap[b]? = some (.cells cur ty' (0,0))/\∀(j:Nat)(u:bm),us[j]? = some u->cur[off+j]? = some u)(hwand:Wand (Imm F p M w) w π ob.o ob.x (p.σ k) S' q [p.β k] pl)(hset:set π ob.o ob.x n=some ob')(hsz:n.o.size=q.o.size)(hout:eV π ob.o [p.β k] us'=[p.β k])(hc:Chg w w' (λb=>cn π=true/\∃off,pl=some (b,off)))(hc0:cn π=true->∀b off,pl=some (b,off)->∀cur ty',w.heap[b]? = some (.cells cur ty' (0,0))->w'.heap[b]? = some (.cells (dA cur.toList off us').toArray ty' (0,0)))(hS:∀c,S'' c->p.L c\/S' c)(hL:∀c,L' c->(p.L c\/S' c)/\¬S'' c)(hg:(∃c,L' c/\S' c)->k<gid)(hn:cN (Imm F p M w) (Imm F ⟨p.β,λj=>if j=k thenλc=>(p.σ k c/\¬S' c)\/S'' c else p.σ j,L'⟩ (put k ob' M) w') w w'->
   Rel (Imm F ⟨p.β,λj=>if j=k thenλc=>(p.σ k c/\¬S' c)\/S'' c else p.σ j,L'⟩ (put k ob' M) w') w' n.o n.x S'' us'):
  Tr F p M w [.cut k ob.o ob'.o] ⟨p.β,λj=>if j=k thenλc=>(p.σ k c/\¬S' c)\/S'' c else p.σ j,L'⟩ (put k ob' M) w':=by
 generalize hp':(⟨p.β,λj=>if j=k thenλc=>(p.σ k c/\¬S' c)\/S'' c else p.σ j,L'⟩:Ow)=p' at hn⊢;have hβ:p'.β=p.β:=by rw[←hp']
 have hσk:p'.σ k=λc=>(p.σ k c/\¬S' c)\/S'' c:=by rw[←hp'];simp
 have hσ:∀j,j≠k->p'.σ j=p.σ j:=λj hj=>by rw[←hp'];simp[hj]
 have hL':∀c,p'.L c->(p.L c\/S' c)/\¬S'' c:=by rw[←hp'];exact hL
 have hgk:∀c,p'.L c->S' c->k<gid:=λc h1 h2=>hg ⟨c,by rw[←hp']at h1;exact h1,h2⟩;have hlk:=cz hk;have htk:∀b,(cn π=true/\∃off,pl=some (b,off))->p.σ k b:=λb hb=>by obtain⟨b0,off,cur,ty',k1,k2,_⟩:=hpl hb.1;obtain⟨off',k3⟩:=hb.2;rw[k1]at k3;cases k3;exact k2
 have hkeep:cN (Imm F p M w) (Imm F p' (Bm.put k ob' M) w') w w':=λb hb=>by
  refine⟨⟨by rw[hc.size];exact hb.1,hb.2.1,λhl=>?_,λj hj=>?_⟩,hc.old b (λht=>hb.2.2.2 k hlk (htk b ht))⟩
  ·rcases (hL' b hl).1 with h1|h1
   ·exact hb.2.2.1 h1
   ·exact hb.2.2.2 k hlk (hsub b h1)
  ·by_cases e:j=k
   ·subst e;rw[hσk];rintro (⟨h1,_⟩|h1)
    ·exact hb.2.2.2 j hlk h1
    ·rcases hS b h1 with h2|h2
     ·exact hb.2.2.1 h2
     ·exact hb.2.2.2 j hlk (hsub b h2)
   ·rw[hσ j e];exact hb.2.2.2 j (xp.1 hj)
 have hoth:∀j,j≠k->bF M j->∀b,p.σ j b->w'.heap[b]? = w.heap[b]?:=λj hj hl b hb=>hc.old b (λht=>h.sep j k b hj hl hlk hb (htk b ht))
 have hwd:=hwand (Imm F p' (Bm.put k ob' M) w') w' n S'' us' ob' hset hsz (hn hkeep) hkeep (λc h1 h2=>(hS c h1).elim (λh3=>((h.lim c h3).2.2 k hlk h2).elim) id) hc0
  (λc h1 _ h3=>hc.old c (λht=>h3 c ht.2.choose ht.2.choose_spec ht.1 rfl))
 rw[hout]at hwd;refine Tr.one _ hkeep (λj ρ vs r=>?_) (λj ρ v r=>?_) ⟨λj o hj=>?_,λj j' b hne hj hj' hb=>?_,λj b hj hb=>?_,λb hb=>?_,hc.os.trans h.os,hc.tape.trans h.tape,hc.output.trans h.output,by rw[hc.size];exact h.size,λb hb hR=>?_⟩
 ·simp only[Ev.ref,dP];by_cases e:j=k
  ·subst e;rw[am rfl]
   cases ρ with
   |nil=>simp only[kT,aD,ac];obtain⟨o,pl0,k1,k2,k3,k4⟩:=r;simp only[res,aG,bS]at k4;obtain⟨rfl,rfl⟩:=k4;exact⟨ob',none,sR ob' M hlk,by simp only[gok],⟨ob',by simp only[get]⟩,by simp only[res,hβ]⟩
   |cons s ρ=>simp only[kT,bp,ac];exact r.one h
  ·rw[ai e];simp only[ac];exact r.same h (pn ob' e M) (by rw[hβ]) (hoth j e)
 ·simp only[Ev.ad,dP];by_cases e:j=k
  ·subst e;rw[am rfl]
   cases hs:oy (gH ρ ob.o) (gH ρ ob'.o)with
   |false=>simp only[bp,ac];intro u hu;rw[cP.1 hu];exact r.one
   |true=>simp only[aD,ac];refine⟨v,rfl,?_⟩;obtain⟨m,s1,s2⟩:=Jx hs;obtain⟨o,us0,b0,off0,k1,k2,k3,k4,k5,rfl⟩:=r;rw[hk]at k1;cases k1;obtain⟨ρ1,o1,rfl,e1,f1⟩:=Ay s1;obtain⟨ρ2,o2,e2',e2,f2⟩:=Ay s2;simp only[bH,aL]at e2';subst e2';obtain⟨ox,xx⟩:=ob;obtain⟨ox',xx'⟩:=ob';simp only at e1 e2;subst e1 e2;have hr:=h.objs j _ hk;simp only[Rel]at hr;obtain⟨bb,us1,ty',S1,r1,r2,r3,r4,r5⟩:=hr;simp only[bH,aA]at r1;rw[r1]at k5;simp only[res]at k5;obtain⟨_,_,us2,q3⟩:=mf w ρ1 o1 m f1 xx (cellsOf w bb 0 o1.size) (some (bb,0));rw[q3]at k5;simp only[aG,bS]at k5;obtain⟨q1,q2,us3,q3'⟩:=mf w' ρ1 o2 m f2 xx' (cellsOf w' bb 0 o2.size) (some (bb,0));refine⟨_,us3,b0,off0,sR _ M hlk,by simpa only [gok]using q2,by simpa only [get]using q1,by simp only[cn],?_,rfl⟩;rw[hβ,r1];simp only[res];rw[q3',k5.2]
  ·rw[ai e];simp only[ac];exact⟨v,rfl,r.same h (pn ob' e M) (by rw[hβ]) (hoth j e)⟩
 ·by_cases e:j=k
  ·subst e;rw[sR ob' M hlk]at hj;cases hj;rw[hβ,hσk];exact hwd.2
  ·rw[pn ob' e]at hj;rw[hβ,hσ j e];exact Rel.keep hkeep _ _ _ _ (hoth j e (cz hj)) (h.objs j o hj)
 ·have hj1:=xp.1 hj;have hj2:=xp.1 hj';by_cases e:j=k
  ·rw[e,hσk]at hb;rw[hσ j' (λe'=>hne (e.trans e'.symm))];rcases hb with⟨h1,_⟩|h1
   ·exact h.sep k j' b (λe'=>hne (e.trans e')) hlk hj2 h1
   ·rcases hS b h1 with h2|h2
    ·exact (h.lim b h2).2.2 j' hj2
    ·exact h.sep k j' b (λe'=>hne (e.trans e')) hlk hj2 (hsub b h2)
  ·rw[hσ j e]at hb;by_cases e':j'=k
   ·rw[e',hσk];rintro (⟨h1,_⟩|h1)
    ·exact h.sep j k b e hj1 hlk hb h1
    ·rcases hS b h1 with h2|h2
     ·exact (h.lim b h2).2.2 j hj1 hb
     ·exact h.sep j k b e hj1 hlk hb (hsub b h2)
   ·rw[hσ j' e'];exact h.sep j j' b hne hj1 hj2 hb
 ·have hj1:=xp.1 hj;rw[hc.size];by_cases e:j=k
  ·rw[e,hσk]at hb;rcases hb with⟨h1,_⟩|h1
   ·rw[e];exact h.own k b hlk h1
   ·rcases hS b h1 with h2|h2
    ·exact⟨(h.lim b h2).1,.inr (h.lim b h2).2.1⟩
    ·rw[e];exact h.own k b hlk (hsub b h2)
  ·rw[hσ j e]at hb;exact h.own j b hj1 hb
 ·obtain⟨h1,h2⟩:=hL' b hb;rw[hc.size];rcases h1 with h1|h1
  ·refine⟨(h.lim b h1).1,(h.lim b h1).2.1,λj hj=>?_⟩;by_cases e:j=k
   ·rw[e,hσk];rintro (⟨h3,_⟩|h3)
    ·exact (h.lim b h1).2.2 k hlk h3
    ·exact h2 h3
   ·rw[hσ j e];exact (h.lim b h1).2.2 j (xp.1 hj)
  ·have ho:=h.own k b hlk (hsub b h1);have hg':=hgk b hb h1;refine⟨ho.1,ho.2.elim (λh=>by have:=h.1;omega) id,λj hj=>?_⟩;by_cases e:j=k
   ·rw[e,hσk];rintro (⟨_,h3⟩|h3)
    ·exact h3 h1
    ·exact h2 h3
   ·rw[hσ j e];exact h.sep k j b (dg e) hlk (xp.1 hj) (hsub b h1)
 ·rw[hc.old b (λht=>?_)]
  ·exact h.old b hb hR
  ·rcases (h.own k b hlk (htk b ht)).2 with h1|h1
   ·exact hR h1.2
   ·exact h1.r.elim hR (λh'=>aa)
theorem Aq{a b:T}{x:a.den}{y:b.den}(h:gF b x=some y):∃e:a=b,e▸x=y:=by
 unfold gF at h;split at h
 ·rename_i he;cases h;exact⟨T.beq_eq he,rfl⟩
 ·cases h
theorem Zw(o:O)(x:o.strip.den):ja ⟨o,x⟩ o=some x:=by
 unfold ja;split
 ·rfl
 ·rename_i h;rw[O.beq_refl]at h;cases h
theorem R0(k:Nat)(a b:Ob):∀M:Mem,put k a (put k b M)=put k a M
 |[]=>rfl
 |(j,x)::r=>by
  simp only[put,dP];split
  ·simp only[put,dP,eX]
  ·rename_i h;simp only[put,dP,ai h];rw[R0 k a b r]
theorem qQ{a b:T}{x:a.den}{y:b.den}(h:gF b x=some y)(r:ah Im w a x vs):ah Im w b y vs:=by obtain⟨rfl,rfl⟩:=Aq h;exact r
theorem xh{x:o.strip.den}(h:ja q o=some x):q=⟨o,x⟩:=by
 unfold ja at h;split at h
 ·rename_i he;cases h;obtain⟨qo,qx⟩:=q;have:=O.beq_eq he;subst this;rfl
 ·cases h
theorem qO{cur:aJ}(h:∀(j:Nat)(u:bm),us[j]? = some u->cur[off+j]? = some u):dA cur off us=cur:=by
 rcases us.eq_nil_or_concat with rfl|⟨_,_,hne⟩
 ·simp[dA]
 have hlen:off+us.length<=cur.length:=by
  have hp:0<us.length:=by rw[hne];simp
  have:=h (us.length-1) us[us.length-1] (bX aa);have:=(gN.1 this).1;omega
 apply lR;intro j;unfold dA;by_cases q1:j<off
 ·rw[eP,g9 (by simp;omega),g7,am q1]
 ·by_cases q2:j<off+us.length
  ·rw[g9 (by simp;omega),jD (by simp;omega)];rw[show j-(List.take off cur).length=j-off by simp;omega,bX (by omega:j-off<us.length)];have:=h (j-off) us[j-off] (bX aa);rw[show off+(j-off)=j by omega]at this;rw[this]
  ·rw[jD (by simp;omega),g8];congr 1;simp;omega
theorem Chg.refl(w:aK)(t:aT):Chg w w t:=⟨rfl,TD.refl w,rfl,rfl,λ_ _=>rfl⟩
theorem Tr.cut(h:Hp F p M w)(hk:go M k=some ob)(hg:k<gid)(h2:gok π ob.o ob.x)(h3:get π ob.o ob.x=some q)(h4:res w π ob.o [p.β k] none=some (us,pl))(hset:set π ob.o ob.x ⟨.fz q.o.hole,q.o.holeX q.x⟩=some ob'):
  ∃p':Ow,∃S:Nat->Prop,p'.β=p.β/\(∀b,p'.L b<->p.L b\/S b)/\(∀b,S b->¬p.L b)/\Tr F p M w [.cut k ob.o ob'.o] p' (Bm.put k ob' M) w/\Rel (Imm F p' (Bm.put k ob' M) w) w q.o q.x S us:=by
 obtain⟨us0,pl0,S',e1,e2,e3,e4,e5,e6⟩:=look h hk h2 h3;rw[e1]at h4;cases h4;have hl:=cz hk
 have hout:eV π ob.o [p.β k] us=[p.β k]:=by
  cases hh:cn π with
  |true=>exact mZ π _ _ _ hh
  |false=>
   obtain⟨n,k1,k2,k3,k4,k5⟩:=e5 hh;rw[k5 us rfl];refine qO (λj u hu=>?_);rw[k3,g7]at hu;split at hu
   ·rw[g8]at hu;exact hu
   ·cases hu
 have ht:=Tr.put (S'':=λ_=>False) (L':=λb=>p.L b\/S' b) (us':=us) (w':=w) h hk e2 e4 e6 hset (by simp only[O.size,O.strip];exact IW q.o) hout (Chg.refl w _)
  (λhh b off hp cur ty' hb=>by obtain⟨b0,off0,cur0,ty0,k1,k2,k3,k4,k5⟩:=e4 hh;rw[k1]at hp;cases hp;rw[k4]at hb;cases hb;rw[k4,qO (by simpa using k5)]) (λc hc=>hc.elim) (λc hc=>⟨hc,λh=>h⟩) (λ_=>hg)
  (λhk'=>by simp only[Rel];exact Jw q.o q.x (λb=>S' b) us (Rel.keep hk' _ _ _ _ (λ_ _=>rfl) e3))
 exact⟨⟨p.β,_,λb=>p.L b\/S' b⟩,S',rfl,λb=>lh,λb hb hL=>(h.lim b hL).2.2 k hl (e2 b hb),ht,Rel.keep ht.keep _ _ _ _ (λ_ _=>rfl) e3⟩
theorem xd:(v:V)->(M:Mem)->Hp F p M w->Tr F p M w (cD M v).1 p (cD M v).2 w
 |.ref k _,M,h=>by
  simp only[cD];split
  ·rename_i ob hk;exact Tr.frz h k ob hk
  ·exact Tr.refl h
 |.ad k _,M,h=>by
  simp only[cD];split
  ·rename_i ob hk;exact Tr.frz h k ob hk
  ·exact Tr.refl h
 |.p a b,M,h=>by simp only[cD];have h1:=xd a M h;have h2:=xd b _ h1.hp;exact h1.trans h2
 |.ag v,M,h|.fn _ v,M,h|.ifc _ v,M,h|.bx v,M,h|.tup v,M,h|.gd _ _ _ v,M,h=>by simp only[cD];exact xd v M h
 |.any,M,h|.nl,M,h|.np,M,h|.u,M,h|.d _ _,M,h=>by simp only[cD];exact Tr.refl h
theorem Aj:(v:V)->(M:Mem)->((cD M v).1=[]/\(cD M v).2=M)\/∃x r,(cD M v).1=x::r/\dv M [x]=false
 |.ref k _,M=>by
  simp only[cD];split
  ·exact .inr ⟨_,_,rfl,rfl⟩
  ·exact .inl ⟨rfl,rfl⟩
 |.ad k _,M=>by
  simp only[cD];split
  ·exact .inr ⟨_,_,rfl,rfl⟩
  ·exact .inl ⟨rfl,rfl⟩
 |.p a b,M=>by
  simp only[cD];rcases Aj a M with⟨h1,h2⟩|⟨x,r,h1,h2⟩
  ·rw[h1,h2];simp only[ap];exact Aj b M
  ·exact .inr ⟨x,_,by rw[h1];rfl,h2⟩
 |.ag v,M|.fn _ v,M|.ifc _ v,M|.bx v,M|.tup v,M|.gd _ _ _ v,M=>by simp only[cD];exact Aj v M
 |.any,M|.nl,M|.np,M|.u,M|.d _ _,M=>by simp[cD]
def mn(M M':Mem):Prop:=∀k,go M' k=none\/go M' k=go M k
theorem mn.refl(M:Mem):mn M M:=λ_=>.inr rfl
theorem mn.trans(h:mn M M')(k:mn M' M''):mn M M'':=λj=>by
 rcases k j with e|e
 ·exact .inl e
 ·rcases h j with e'|e'
  ·exact .inl (by rw[e,e'])
  ·exact .inr (by rw[e,e'])
theorem DC(k:Nat)(M:Mem):mn M (del k M):=λj=>by
 by_cases e:j=k
 ·subst e;exact .inl (fU j M)
 ·exact .inr (fg e M)
theorem C1:(v:V)->(M:Mem)->mn M (cD M v).2
 |.ref k _,M=>by
  simp only[cD];split
  ·exact DC k M
  ·exact mn.refl M
 |.ad k _,M=>by
  simp only[cD];split
  ·exact DC k M
  ·exact mn.refl M
 |.p a b,M=>by simp only[cD];exact (C1 a M).trans (C1 b _)
 |.ag v,M|.fn _ v,M|.ifc _ v,M|.bx v,M|.tup v,M|.gd _ _ _ v,M=>by simp only[cD];exact C1 v M
 |.any,M|.nl,M|.np,M|.u,M|.d _ _,M=>by simp only[cD];exact mn.refl M
theorem Ly{a:T}{x:Option (List a.den)}(r:ah Im w (.ns (.sl a)) x vs):ah Im w (.sl a) (x.getD []) vs:=by
 simp only[ah]at r;rcases r with⟨rfl,rfl⟩|⟨y,b,n,c,rfl,rfl,r⟩
 ·simp only[ah,wn,aM];exact⟨none,0,rfl,⟨dO _,aZ _⟩,λ_=>⟨trivial,rfl⟩,λa ha=>by cases ha⟩
 ·simpa only [ah,dY]using r
theorem Tt{a b:T}{f:a.den->b.den}(hs:a.size=b.size)(hf:∀(x:a.den)(vs:aJ),ah Im w a x vs->ah Im w b (f x) vs){l:List a.den}(r:ah Im w (.sl a) l vs):ah Im w (.sl b) (l.map f) vs:=by
 simp only[ah]at r⊢;obtain⟨oa,cap,h1,h2,h3,h4⟩:=r;refine⟨oa,cap,by rw[d5];exact h1,by rw[d5];exact h2,λh=>by rw[d5];exact h3 h,λad ha hp=>?_⟩;rw[d5]at hp;obtain⟨k1,k2,k3⟩:=h4 ad ha hp;refine⟨k1,k2,λi z hz=>?_⟩;rw[fQ]at hz
 cases hx:l[i]? with
 |none=>rw[hx]at hz;cases hz
 |some q=>rw[hx]at hz;simp only[dX,aG]at hz;subst hz;obtain⟨us,u1,u2⟩:=k3 i q hx;exact⟨us,by rw[←hs];exact u1,hf _ _ u2⟩
theorem Jy{a b:T}{x:a.den}{y:b.den}(h:LH a x b=some y)(r:ah Im w a x vs):ah Im w b y vs:=by
 unfold LH at h;split at h
 ·exact qQ h (Ly r)
 ·rename_i a x b;exact qQ h (Tt (a:=.ns (.sl a)) (b:=.sl a) (f:=λx=>Option.getD x []) rfl (λx vs r=>Ly r) r)
 ·rename_i c a x d b;refine qQ h (Tt (a:=.p c (.ns (.sl a))) (b:=.p c (.sl a)) (f:=λx=>(x.1,x.2.getD [])) rfl (λx vs r=>?_) r);simp only[ah]at r;obtain⟨va,vb,h1,h2,h3⟩:=r;unfold ah;exact⟨va,vb,h1,h2,Ly (by simpa only [ah]using h3)⟩
 ·rename_i a x b;split at h
  ·rename_i y' hy;cases h;have r':=qQ hy r;have r0:=r;simp only[ah]at r0;obtain⟨oa,cap,rfl,_⟩:=r0;simp only[ah]at r'⊢;exact .inr ⟨_,_,_,_,rfl,rfl,r'⟩
  ·cases h
 ·rename_i i x j
  cases hb:Nat.beq i j with
  |true=>rw[hb]at h;simp only[aD,aG]at h;have:=dh hb;subst this;subst h;exact r
  |false=>
   rw[hb]at h;simp only[bp]at h;simp only[ah]at r⊢;rcases r with⟨rfl,hv⟩|⟨s,rfl,hv⟩
   ·simp only[aG]at h;subst h;exact .inl ⟨rfl,hv⟩
   ·cases h
 ·exact qQ h r
theorem acy(a:T):∀(b:T)(x:a.den)(y:b.den)(vs:aJ),coD a x b=some y->ah Im w a x vs->ah Im w b y vs:=by
 induction a with
 |p a c iha ihc=>
  intro b x y vs h r
  cases b with
  |p b d=>
   simp only[coD]at h;split at h
   ·rename_i y1 y2 h1 h2;cases h;simp only[ah]at r⊢;obtain⟨va,vb,e,r1,r2⟩:=r;exact⟨va,vb,e,iha b _ _ _ h1 r1,ihc d _ _ _ h2 r2⟩
   ·cases h
  |_=>simp only[coD]at h;exact Jy h r
 |pt a ih=>
  intro b x y vs h r
  cases b with
  |pt b=>simp only[coD]at h;simp only[ah]at r⊢;obtain⟨bb,o,us,e,h1,h2,h3⟩:=r;exact⟨bb,o,us,e,h1,h2,ih b _ _ _ h h3⟩
  |_=>simp only[coD]at h;exact Jy h r
 |_=>intro b x y vs h r;simp only[coD]at h;exact Jy h r
theorem x8{a b:T}{x:a.den}{y:b.den}(h:asD a x b=some y)(r:ah Im w a x vs):ah Im w b y vs:=by
 unfold asD at h;split at h
 ·rename_i z hz;cases h;exact qQ hz r
 ·exact acy _ _ _ _ _ h r
theorem o7{β:gM}{Im:aT}:(v:V)->(t:T)->(vs:aJ)->(x:t.den)->ac β M Im w v vs->v.as t=some x->ah Im w t x vs
 |.d s y,t,vs,x,r,h=>by simp only[ac]at r;simp only[V.as]at h;exact x8 h r
 |.p a b,.p t s,vs,x,r,h=>by
  simp only[ac]at r;simp only[V.as]at h;split at h
  ·rename_i y z hy hz;cases h;obtain⟨va,vb,h1,h2,h3⟩:=r;simp only[ah];exact⟨va,vb,h1,o7 a t va y h2 hy,o7 b s vb z h3 hz⟩
  ·cases h
 |.nl,.sl _,vs,x,r,h=>by simp only[ac]at r;simp only[V.as,aG]at h;subst h;simp only[ah];obtain⟨oa,r⟩:=r;exact⟨oa,0,r,⟨dO _,aZ _⟩,λ_=>⟨rfl,rfl⟩,λa ha hpos=>absurd hpos (uj 0)⟩
 |.u,.u,vs,x,r,h=>by simp only[ac]at r;simp only[ah];exact r
 |.np,.any,vs,x,r,h=>by simp only[ac]at r;simp only[ah];exact⟨_,r,rfl⟩
 |.bx v,.pt t,vs,x,r,h=>by simp only[V.as]at h;simp only[ac]at r;obtain⟨b,o,us,h1,h2,h3,h4⟩:=r;simp only[ah];exact⟨b,o,us,h1,h2,h3,o7 v t us x h4 h⟩
 |.fn f v,.fn f' t,vs,x,r,h=>by
  simp only[ac]at r;simp only[V.as,dP]at h;split at h
  ·rename_i e;subst e;obtain⟨us,h1,h2⟩:=r;simp only[ah];exact⟨us,h1,o7 v t us x h2 h⟩
  ·cases h
 |.p _ _,.int _,_,_,_,h|.p _ _,.bool,_,_,_,h|.p _ _,.str,_,_,_,h|.p _ _,.u,_,_,_,h|.p _ _,.sl _,_,_,_,h|.p _ _,.pt _,_,_,_,h|.p _ _,.fn _ _,_,_,_,h|.p _ _,.any,_,_,_,h|.nl,.int _,_,_,_,h|.nl,.bool,_,_,_,h|.nl,.str,_,_,_,h|.nl,.u,_,_,_,h|.nl,.p _ _,_,_,_,h|.nl,.pt _,_,_,_,h|.nl,.fn _ _,_,_,_,h|.nl,.any,_,_,_,h|.u,.int _,_,_,_,h|.u,.bool,_,_,_,h|.u,.str,_,_,_,h|.u,.sl _,_,_,_,h|.u,.p _ _,_,_,_,h|.u,.pt _,_,_,_,h|.u,.fn _ _,_,_,_,h|.u,.any,_,_,_,h|.np,.int _,_,_,_,h|.np,.bool,_,_,_,h|.np,.str,_,_,_,h|.np,.sl _,_,_,_,h|.np,.p _ _,_,_,_,h|.np,.pt _,_,_,_,h|.np,.fn _ _,_,_,_,h|.np,.u,_,_,_,h|.fn _ _,.int _,_,_,_,h|.fn _ _,.bool,_,_,_,h|.fn _ _,.str,_,_,_,h|.fn _ _,.sl _,_,_,_,h|.fn _ _,.p _ _,_,_,_,h|.fn _ _,.pt _,_,_,_,h|.fn _ _,.u,_,_,_,h|.fn _ _,.any,_,_,_,h|.bx _,.int _,_,_,_,h|.bx _,.bool,_,_,_,h|.bx _,.str,_,_,_,h|.bx _,.sl _,_,_,_,h|.bx _,.p _ _,_,_,_,h|.bx _,.fn _ _,_,_,_,h|.bx _,.u,_,_,_,h|.bx _,.any,_,_,_,h|.any,_,_,_,_,h|.ref _ _,_,_,_,_,h|.ad _ _,_,_,_,_,h|.ag _,_,_,_,r,h|.tup _,_,_,_,r,h|.gd _ _ _ _,_,_,_,r,h=>by simp[V.as]at h
 |.ifc f v,.ifc f' t,vs,x,r,h=>by
  simp only[ac]at r;simp only[V.as,dP]at h;split at h
  ·rename_i e;subst e;obtain⟨u,h1,h2⟩:=r;simp only[ah];exact⟨u,h1,o7 v t [u] x h2 h⟩
  ·cases h
 |.ifc _ _,.int _,_,_,_,h|.ifc _ _,.bool,_,_,_,h|.ifc _ _,.str,_,_,_,h|.ifc _ _,.sl _,_,_,_,h|.ifc _ _,.p _ _,_,_,_,h|.ifc _ _,.pt _,_,_,_,h|.ifc _ _,.u,_,_,_,h|.ifc _ _,.any,_,_,_,h|.ifc _ _,.fn _ _,_,_,_,h=>by simp[V.as]at h
structure Cv (F:Fr) (p:Ow) (M:Mem) (w:aK) (k:Nat) (q:Ob) (e:cg) (vs:aJ) (p':Ow) (M':Mem) (S:aT):Prop where
 β:p'.β=p.β
 L:∀b,p'.L b<->p.L b\/S b
 sp:∀b,S b->¬p.L b
 tr:Tr F p M w e p' M' w
 rel:Rel (Imm F p' M' w) w q.o q.x S vs
 fr:(e=[]/\M'=M/\p'=p)\/∃x r,e=x::r/\dv M [x]=false
theorem Cv.dat(h:Hp F p M w)(k:Nat){t:T}{x:t.den}(r:ah (Imm F p M w) w t x vs):Cv F p M w k ⟨.fz t,x⟩ [] vs p M (λ_=>False):=⟨rfl,λb=>ak,λb hb=>hb.elim,Tr.refl h,by simp only[Rel];exact r,.inl ⟨rfl,rfl,rfl⟩⟩
theorem Cv.frz(h:Hp F p M w)(k:Nat)(hk:go M r=some ob){t:T}{x:t.den}(hr:ah (Imm F p (del r M) w) w t x vs):Cv F p M w k ⟨.fz t,x⟩ [.fz r ob] vs p (del r M) (λ_=>False):=⟨rfl,λb=>ak,λb hb=>hb.elim,Tr.frz h r ob hk,by simp only[Rel];exact hr,.inr ⟨_,_,rfl,rfl⟩⟩
theorem Cv.whole(h:Hp F p M w)(k:Nat)(hk:go M r=some ob)(hg:r<gid):Cv F p M w k ob [.kl r] [p.β r] ⟨p.β,p.σ,λb=>p.L b\/p.σ r b⟩ (del r M) (p.σ r):=⟨rfl,λb=>lh,λb hb hL=>(h.lim b hL).2.2 r (cz hk) hb,Tr.lim h r (cz hk) hg,Rel.keep (Tr.lim h r (cz hk) hg).keep _ _ _ _ (λ_ _=>rfl) (h.objs r ob hk),.inr ⟨_,_,rfl,by simp[dv,hk,isN]⟩⟩
theorem sW(h:neg (eo r k)=false):r≠k/\r<gid:=by
 simp only[gr,eo,aP]at h
 cases h1:Nat.beq r k with
 |true=>simp[h1]at h
 |false=>
  cases h2:Nat.ble (Nat.succ r) gid with
  |false=>simp[h1,h2]at h
  |true=>exact⟨λe=>by subst e;simp at h1,ia h2⟩
abbrev yD:Type:=Option Addr
theorem Rv(w:aK)(ety:bW)(sz:Nat)(oa:yD):l7 w ety sz (.slice oa 0 0) 0 []:=⟨ak,.inl ⟨rfl,oa,rfl⟩⟩
theorem AG(e:O)(oa:yD):Rel Im w (.sl e) ([]:List e.strip.den) (λ_=>False) [.slice oa 0 0]:=by
 simp only[Rel];refine⟨_,0,[],λ_ _=>False,rfl,Rv w 0 e.size oa,dO _,?_,?_,?_,?_⟩
 ·intro c hc;cases oa<;>cases hc
 ·intro i c hc;exact hc.elim
 ·intro i j c _ hc;exact hc.elim
 ·intro i x hx;simp at hx
theorem Jo(h:Hp F p M w)(hk:go M r=some ob)(hq:get ρ ob.o ob.x=some q)(hr:Ref p.β M w r ρ vs):ah (Imm F p (del r M) w) w q.o.strip q.x vs:=by obtain⟨ob',pl,h1,h2,⟨q',h3⟩,h4⟩:=hr;rw[hk]at h1;cases h1;obtain⟨us,pl',S',e1,e2,e3,_⟩:=look h hk h2 hq;rw[e1]at h4;cases h4;exact Rel.frz (λb hb=>((h.del r).2 b hb).1) _ _ S' _ (λb hb=>uY h (cz hk) (e2 b hb)) e3
theorem abl(h:Hp F p M w)(hk:go M r=some ob)(hq:get ρ ob.o ob.x=some q)(hr:Adr p.β M w r ρ v):ah (Imm F p (del r M) w) w (.pt q.o.strip) q.x [v]:=by obtain⟨ob',us0,b0,off0,h1,h2,⟨q',h3⟩,h4,h5,rfl⟩:=hr;rw[hk]at h1;cases h1;obtain⟨us,pl',S',e1,e2,e3,e4,_⟩:=look h hk h2 hq;rw[e1]at h5;simp only[aG,bS]at h5;obtain⟨rfl,rfl⟩:=h5;obtain⟨b,off,cur,ty',k1,k2,k3,k4,k5⟩:=e4 h4;simp only[aG,bS]at k1;obtain⟨rfl,rfl⟩:=k1;simp only[ah];refine⟨b0,off0,us,rfl,uY h (cz hk) k2,λj' u hu=>?_,Rel.frz (λb hb=>((h.del r).2 b hb).1) _ _ S' _ (λb hb=>uY h (cz hk) (e2 b hb)) e3⟩;rw[lQ w b0 _ cur ty' (0,0) k4];exact k5 j' u hu
theorem DV{w:aK}:∀(π:bA)(o o':O)(l:bK),trk π o=some l->trk π o'=some l->(∀vs ad,res w π o vs ad=res w π o' vs ad)/\(∀x,gok π o' x)/\∀x,∃q,get π o' x=some q
 |[],o,o',l,h,h'=>⟨λ_ _=>rfl,λ_=>by simp only[gok],λx=>⟨_,rfl⟩⟩
 |.l::π,.p a b,o',l,h,h'=>by
  simp only[trk]at h;split at h
  ·rename_i l1 h1;cases h
   cases o' with
   |p a' b'=>
    simp only[trk]at h';split at h'
    ·rename_i l2 h2;simp only[aG,bH,aL]at h';obtain⟨e1,rfl⟩:=h';obtain⟨q1,q2,q3⟩:=DV (w:=w) π a a' l2 h1 h2;exact⟨λvs ad=>by simp only[res,O.size];rw[e1];exact q1 _ _,λx=>by simp only[gok];exact q2 _,λx=>by simp only[get];exact q3 _⟩
    ·cases h'
   |_=>simp[trk]at h'
  ·cases h
 |.r::π,.p a b,o',l,h,h'=>by
  simp only[trk]at h;split at h
  ·rename_i l1 h1;cases h
   cases o' with
   |p a' b'=>
    simp only[trk]at h';split at h'
    ·rename_i l2 h2;simp only[aG,bH,aL]at h';obtain⟨e1,rfl⟩:=h';obtain⟨q1,q2,q3⟩:=DV (w:=w) π b b' l2 h1 h2;exact⟨λvs ad=>by simp only[res,O.size];rw[e1];exact q1 _ _,λx=>by simp only[gok];exact q2 _,λx=>by simp only[get];exact q3 _⟩
    ·cases h'
   |_=>simp[trk]at h'
  ·cases h
 |.de::π,.pt t,o',l,h,h'=>by
  simp only[trk]at h;split at h
  ·rename_i l1 h1;cases h
   cases o' with
   |pt t'=>
    simp only[trk]at h';split at h'
    ·rename_i l2 h2;simp only[aG,bH,aL]at h';obtain⟨e1,rfl⟩:=h';obtain⟨q1,q2,q3⟩:=DV (w:=w) π t t' l2 h1 h2;exact⟨λvs ad=>by simp only[res,O.size];rw[e1];split<;>first|exact q1 _ _|rfl,λx=>by simp only[gok];exact q2 _,λx=>by simp only[get];exact q3 _⟩
    ·cases h'
   |_=>simp[trk]at h'
  ·cases h
 |.l::_,.fz _,_,_,h,_|.l::_,.sl _,_,_,h,_|.l::_,.pt _,_,_,h,_|.l::_,.mp _ _,_,_,h,_|.l::_,.op _,_,_,h,_|.r::_,.fz _,_,_,h,_|.r::_,.sl _,_,_,h,_|.r::_,.pt _,_,_,h,_|.r::_,.mp _ _,_,_,h,_|.r::_,.op _,_,_,h,_|.de::_,.fz _,_,_,h,_|.de::_,.sl _,_,_,h,_|.de::_,.p _ _,_,_,h,_|.de::_,.mp _ _,_,_,h,_|.de::_,.op _,_,_,h,_=>by simp[trk]at h
 |.ix _::_,o,_,_,h,_=>by cases o<;>simp[trk]at h
theorem Tr.tk(h:Hp F p M w)(hk:go M k=some ob)(hβ:p'.β=p.β)(t:Tr F p M w [.cut k ob.o ob'.o] p' (Bm.put k ob' M) w):Tr F p M w [.tk k ob.o ob'.o] p' (Bm.put k ob' M) w:=by
 have hlk:=cz hk;refine Tr.one _ t.keep (λj ρ vs r=>?_) (λj ρ v r=>?_) t.hp
 ·have hc:=t.c (.ref j ρ) vs (by simp only[ac];exact r);simp only[V.evs,V.ev,Ev.ref]at hc;simp only[Ev.ref]
  cases hb:Nat.beq j k with
  |false=>rw[hb]at hc;exact hc
  |true=>
   rw[hb]at hc;simp only[aD]at hc⊢
   cases hn:kT ρ with
   |true=>rw[hn]at hc;simpa only [gD,Bool.true_or,aD]using hc
   |false=>
    simp only[gD,yH]
    cases hs:ET (trk ρ ob.o) (trk ρ ob'.o)with
    |false=>simp only[bp,ac];exact r.one h
    |true=>
     simp only[aD,ac];have hjk:=dh hb;subst hjk
     obtain⟨l,s1,s2⟩:∃l,trk ρ ob.o=some l/\trk ρ ob'.o=some l:=by
      cases h1:trk ρ ob.o with
      |none=>rw[h1]at hs;cases hs
      |some a=>
       cases h2:trk ρ ob'.o with
       |none=>rw[h1,h2]at hs;cases hs
       |some b=>rw[h1,h2]at hs;exact⟨b,by rw[PI hs],rfl⟩
     obtain⟨q1,q2,q3⟩:=DV (w:=w) ρ ob.o ob'.o l s1 s2;obtain⟨o,pl0,k1,k2,k3,k4⟩:=r;rw[hk]at k1;cases k1;exact⟨ob',pl0,sR ob' M hlk,q2 _,q3 _,by rw[hβ,←q1];exact k4⟩
 ·have hc:=t.c (.ad j ρ) [v] (by simp only[ac];exact⟨v,rfl,r⟩);simp only[V.evs,V.ev,Ev.ad]at hc;simp only[Ev.ad];exact hc
theorem QK(h:Hp F p M w)(k r:Nat)(ρ:bA)(vs:aJ)(q:Ob)(e:cg)(M':Mem)(hr:Ref p.β M w r ρ vs)(hc:qZ k r ρ M=some (q,e,M')):go M' k=go M k/\∃p' S,Cv F p M w k q e vs p' M' S:=by
 unfold qZ at hc
 cases hok:neg (eo r k)with
 |true=>rw[hok]at hc;simp at hc
 |false=>
  rw[hok]at hc;obtain⟨hne,hg⟩:=sW hok;simp only[bp]at hc;split at hc
  ·rename_i ob hob;split at hc
   ·rename_i q1 hq1;split at hc
    ·cases hc;refine⟨fg (dg hne) M,?_⟩;obtain⟨ob',pl,h1,h2,h3,h4⟩:=hr;simp only[res,aG,bS]at h4;obtain⟨rfl,rfl⟩:=h4;simp only[get,aG]at hq1;subst hq1;exact⟨_,_,Cv.whole h k hob hg⟩
    ·cases hix:r9 ρ with
     |true=>rw[hix]at hc;simp only[aD,aG,bS]at hc;obtain⟨rfl,rfl,rfl⟩:=hc;exact⟨fg (dg hne) M,_,_,Cv.frz h k hob (Jo h hob hq1 hr)⟩
     |false=>
      rw[hix]at hc;simp only[bp]at hc;split at hc
      ·rename_i ob' hset;simp only[aG,bS]at hc;obtain⟨rfl,rfl,rfl⟩:=hc;refine⟨pn ob' (dg hne) M,?_⟩;obtain⟨ob0,pl,h1,h2,h3,h4⟩:=hr;rw[hob]at h1;cases h1;obtain⟨p',S,k1,k2,k3,k4,k5⟩:=Tr.cut h hob hg h2 hq1 h4 hset;exact⟨p',S,k1,k2,k3,Tr.tk h hob k1 k4,k5,.inr ⟨_,_,rfl,rfl⟩⟩
      ·cases hc
   ·cases hc
  ·cases hc
theorem ac6(h:Hp F p M w)(k r:Nat)(ρ:bA)(v:bm)(q:Ob)(e:cg)(M':Mem)(hr:Adr p.β M w r ρ v)(hc:AY k r ρ M=some (q,e,M')):go M' k=go M k/\∃p' S,Cv F p M w k q e [v] p' M' S:=by
 unfold AY at hc
 cases hok:neg (eo r k)with
 |true=>rw[hok]at hc;simp at hc
 |false=>
  rw[hok]at hc;obtain⟨hne,hg⟩:=sW hok;simp only[bp]at hc;split at hc
  ·rename_i o x hob;cases hc;refine⟨fg (dg hne) M,?_⟩;obtain⟨ob',us0,b0,off0,h1,h2,h3,h4,h5,rfl⟩:=hr;rw[hob]at h1;cases h1;have hrr:=h.objs r _ hob;simp only[Rel]at hrr;obtain⟨bb,us1,ty',S1,r1,r2,r3,r4,r5⟩:=hrr;simp only[bH,aA]at r1;rw[r1]at h5;simp only[res,aG,bS]at h5;obtain⟨_,rfl,rfl⟩:=h5;rw[←r1];exact⟨_,_,Cv.whole h k hob hg⟩
  ·rename_i ob hob _;split at hc
   ·rename_i q1 hq1;simp only[aG,bS]at hc;obtain⟨rfl,rfl,rfl⟩:=hc;exact⟨fg (dg hne) M,_,_,Cv.frz h k hob (abl h hob hq1 hr)⟩
   ·cases hc
  ·cases hc
theorem Cv.pair{q':Ob}{e e':cg}(h:Cv F p M w k q e va p' M' S)(h':Cv F p' M' w k q' e' vb p'' M'' S'):
  Cv F p M w k (mkP q q') (ap e e') (va++vb) p'' M'' (λb=>S b\/S' b):=by
 refine⟨h'.β.trans h.β,λb=>by rw[h'.L,h.L,or_assoc],λb hb=>?_,h.tr.trans h'.tr,?_,?_⟩
 ·rcases hb with hb|hb
  ·exact h.sp b hb
  ·exactλhL=>h'.sp b hb ((h.L b).2 (.inl hL))
 ·exact Es (λc hc=>.inl hc) (λc hc=>.inr hc) (λc hc hc'=>h'.sp c hc' ((h.L c).2 (.inr hc))) (Rel.keep h'.tr.keep _ _ _ _ (λ_ _=>rfl) h.rel) h'.rel
 ·rcases h.fr with⟨rfl,rfl,rfl⟩|⟨x,r,rfl,hx⟩
  ·exact h'.fr
  ·exact .inr ⟨x,ap r e',rfl,hx⟩
theorem ve(k:Nat):(t:T)->(v:V)->(M:Mem)->(p:Ow)->(vs:aJ)->(q:Ob)->(e:cg)->(M':Mem)->Hp F p M w->ac p.β M (Imm F p M w) w v vs->conv k t v M=some (q,e,M')->go M' k=go M k/\∃p' S,Cv F p M w k q e vs p' M' S
 |t,.ref r ρ,M,p,vs,q,e,M',h,hr,hc=>by simp only[ac]at hr;refine QK h k r ρ vs q e M' hr ?_;cases t<;>simpa only [conv]using hc
 |t,.ad r ρ,M,p,vs,q,e,M',h,hr,hc=>by simp only[ac]at hr;obtain⟨v,rfl,hr⟩:=hr;refine ac6 h k r ρ v q e M' hr ?_;cases t<;>simpa only [conv]using hc
 |t,.d s x,M,p,vs,q,e,M',h,hr,hc=>by
  simp only[ac]at hr;have:conv k t (.d s x) M=some (⟨.fz s,x⟩,[],M):=by cases t<;>simp only[conv]
  rw[this]at hc;cases hc;exact⟨rfl,_,_,Cv.dat h k hr⟩
 |t,.u,M,p,vs,q,e,M',h,hr,hc=>by
  simp only[ac]at hr;have:conv k t .u M=some (⟨.fz .u,()⟩,[],M):=by cases t<;>simp only[conv]
  rw[this]at hc;cases hc;exact⟨rfl,_,_,Cv.dat h k (by simp only[ah];exact hr)⟩
 |t,.np,M,p,vs,q,e,M',h,hr,hc=>by
  simp only[ac]at hr;have:conv k t .np M=some (⟨.fz .any,()⟩,[],M):=by cases t<;>simp only[conv]
  rw[this]at hc;cases hc;exact⟨rfl,_,_,Cv.dat h k (by simp only[ah];exact⟨_,hr,rfl⟩)⟩
 |.sl t,.nl,M,p,vs,q,e,M',h,hr,hc=>by simp only[ac]at hr;simp only[conv,aG,bS]at hc;obtain⟨rfl,rfl,rfl⟩:=hc;obtain⟨oa,rfl⟩:=hr;exact⟨rfl,p,λ_=>False,rfl,λb=>ak,λb hb=>hb.elim,Tr.refl h,AG t.deep oa,.inl ⟨rfl,rfl,rfl⟩⟩
 |t,.fn f .u,M,p,vs,q,e,M',h,hr,hc=>by
  simp only[ac]at hr;have:conv k t (.fn f .u) M=some (⟨.fz (.fn f .u),()⟩,[],M):=by cases t<;>simp only[conv]
  rw[this]at hc;cases hc;refine⟨rfl,_,_,Cv.dat h k ?_⟩;simp only[ah];exact hr
 |.p t s,.p a b,M,p,vs,q,e,M',h,hr,hc=>by
  simp only[ac]at hr;obtain⟨va,vb,rfl,ha,hb⟩:=hr;simp only[conv]at hc;split at hc
  ·rename_i q1 e1 M1 hc1;split at hc
   ·rename_i q2 e2 M2 hc2;simp only[aG,bS]at hc;obtain⟨rfl,rfl,rfl⟩:=hc;obtain⟨g1,p1,S1,c1⟩:=ve k t a M p va q1 e1 M1 h ha hc1;obtain⟨g2,p2,S2,c2⟩:=ve k s (b.evs e1) M1 p1 vb q2 e2 M2 c1.tr.hp (c1.tr.c _ _ hb) hc2;exact⟨g2.trans g1,p2,_,c1.pair c2⟩
   ·cases hc
  ·cases hc
 |.int _,.p _ _,_,_,_,_,_,_,_,_,h|.bool,.p _ _,_,_,_,_,_,_,_,_,h|.str,.p _ _,_,_,_,_,_,_,_,_,h|.u,.p _ _,_,_,_,_,_,_,_,_,h|.sl _,.p _ _,_,_,_,_,_,_,_,_,h|.pt _,.p _ _,_,_,_,_,_,_,_,_,h|.fn _ _,.p _ _,_,_,_,_,_,_,_,_,h|.any,.p _ _,_,_,_,_,_,_,_,_,h|.int _,.nl,_,_,_,_,_,_,_,_,h|.bool,.nl,_,_,_,_,_,_,_,_,h|.str,.nl,_,_,_,_,_,_,_,_,h|.u,.nl,_,_,_,_,_,_,_,_,h|.p _ _,.nl,_,_,_,_,_,_,_,_,h|.pt _,.nl,_,_,_,_,_,_,_,_,h|.fn _ _,.nl,_,_,_,_,_,_,_,_,h|.any,.nl,_,_,_,_,_,_,_,_,h=>by simp[conv]at h
 |t,.fn _ (.p _ _),_,_,_,_,_,_,_,_,h|t,.fn _ .any,_,_,_,_,_,_,_,_,h|t,.fn _ .nl,_,_,_,_,_,_,_,_,h|t,.fn _ .np,_,_,_,_,_,_,_,_,h|t,.fn _ (.d _ _),_,_,_,_,_,_,_,_,h|t,.fn _ (.ref _ _),_,_,_,_,_,_,_,_,h|t,.fn _ (.ad _ _),_,_,_,_,_,_,_,_,h|t,.fn _ (.ag _),_,_,_,_,_,_,_,_,h|t,.fn _ (.tup _),_,_,_,_,_,_,_,_,h|t,.fn _ (.gd _ _ _ _),_,_,_,_,_,_,_,_,h|t,.fn _ (.fn _ _),_,_,_,_,_,_,_,_,h|t,.fn _ (.ifc _ _),_,_,_,_,_,_,_,_,h|t,.fn _ (.bx _),_,_,_,_,_,_,_,_,h|t,.any,_,_,_,_,_,_,_,_,h|t,.ag _,_,_,_,_,_,_,_,_,h|t,.tup _,_,_,_,_,_,_,_,_,h|t,.gd _ _ _ _,_,_,_,_,_,_,_,_,h|t,.ifc _ _,_,_,_,_,_,_,_,_,h|t,.bx _,_,_,_,_,_,_,_,_,h=>by cases t<;>simp[conv]at h
termination_by t=>SizeOf.sizeOf t
theorem M4(h:Hp F p M w)(k:Nat)(o:O)(v:V)(vs:aJ)(x:o.strip.den)(e:cg)(hr:ac p.β M (Imm F p M w) w v vs)(hc:rk k o v M=some (x,e,M')):
  (go M' k=none\/go M' k=go M k)/\∃p' S,Cv F p M w k ⟨o,x⟩ e vs p' M' S:=by
 have key:∀r,(match conv k o.strip v M with
  |some (q,e,M')=>(match ja q o with|some x=>some (x,e,M')|none=>none)
  |none=>none)=some r->r=(x,e,M')->(go M' k=none\/go M' k=go M k)/\∃p' S,Cv F p M w k ⟨o,x⟩ e vs p' M' S:=by
  intro r hr1 hr2;split at hr1
  ·rename_i q e1 M1 hc1;split at hr1
   ·rename_i y hy;cases hr1;cases hr2;obtain⟨g,p',S,c⟩:=ve k o.strip v M p vs q e M' h hr hc1;rw[xh hy]at c;exact⟨.inr g,p',S,c⟩
   ·cases hr1
  ·cases hr1
 cases o with
 |fz t=>
  simp only[rk]at hc;have hf:=xd v M h;have hth:=C1 v M;have hfr:=Aj v M;generalize cD M v=z at hc hf hth hfr;obtain⟨e1,M1⟩:=z;simp only at hc hf hth hfr;split at hc
  ·rename_i y hy;cases hc;refine⟨hth k,p,λ_=>False,rfl,λb=>ak,λb hb=>hb.elim,hf,?_,hfr.imp (λh=>⟨h.1,h.2,rfl⟩) id⟩;simp only[Rel];exact o7 _ t vs x (hf.c _ _ hr) hy
  ·cases hc
 |p a b|sl a|pt a|mp _ _|op _=>exact key _ hc rfl
theorem QH(h:Hp F p M w)(k:Nat)(o:O)(v:V)(vs:aJ)(x:o.strip.den)(e:cg)(hr:ac p.β M (Imm F p M w) w v vs)(hc:rE k o v M=some (x,e,M')):
  (go M' k=none\/go M' k=go M k)/\∃p' S,Cv F p M w k ⟨o,x⟩ e vs p' M' S:=by
 cases o with
 |fz t|p a b|sl a|pt a|mp _ _=>exact M4 h k _ v vs x e hr hc
 |op a=>
  simp only[rE]at hc;split at hc
  ·rename_i y ev M1 hc1;cases hc;obtain⟨g,p',S,c⟩:=M4 h k a v vs y e hr hc1;refine⟨g,p',S,c.β,c.L,c.sp,c.tr,?_,c.fr⟩;have r:=c.rel;simp only[Rel];refine⟨Rel.len _ _ _ _ r,Rel.one _ _ _ _ r,λz hz=>?_⟩;cases hz;exact r
  ·cases hc
theorem adc{e:O}{l:List e.strip.den}(r:Rel Im w (.sl e) l S vs):Rel Im w (.sl (.op e)) (mB l) S vs:=by
 simp only[Rel]at r⊢;obtain⟨v,ety,xs,T,rfl,h2,h3,h4,h5,h6,h7⟩:=r;refine⟨v,ety,xs,T,rfl,by simp only[mB,d5];exact h2,by simpa[mB]using h3,h4,h5,h6,λi x hx=>?_⟩;simp only[mB,fQ]at hx
 cases hl:l[i]? with
 |none=>rw[hl]at hx;cases hx
 |some y=>rw[hl]at hx;cases hx;have r1:=h7 i y hl;have hsz:(O.op e).size=e.size:=rfl;rw[hsz];refine⟨Rel.len _ _ _ _ r1,Rel.one _ _ _ _ r1,λz hz=>?_⟩;cases hz;exact r1
theorem acz{e:O}{l:List (Option e.strip.den)}(z:e.strip.den)(ha:vP l=true)(r:Rel Im w (.sl (.op e)) l S vs):Rel Im w (.sl e) (kS z l) S vs:=by
 simp only[Rel]at r⊢;obtain⟨v,ety,xs,T,rfl,h2,h3,h4,h5,h6,h7⟩:=r;refine⟨v,ety,xs,T,rfl,by simp only[kS,d5];exact h2,by simpa[kS]using h3,h4,h5,h6,λi x hx=>?_⟩;simp only[kS,fQ]at hx
 cases hl:l[i]? with
 |none=>rw[hl]at hx;cases hx
 |some y=>
  rw[hl]at hx;cases hx;have hy:y.isSome=true:=by simp only[vP,eU]at ha;exact ha y (uk hl)
  obtain⟨y,rfl⟩:=yG.1 hy;exact (h7 i _ hl).2.2 y rfl
theorem IU{e:O}{l:List e.strip.den}{i:Nat}(hi:i<l.length)(r:Rel Im w (.sl e) l S vs):
  ∃us pl,∃Si:Nat->Prop,(∀ad,res w [.ix i] (.sl e) vs ad=some (us,pl))/\(∀c,Si c->S c)/\Rel Im w e (l.getD i e.dflt) Si us/\Rel Im w (.sl (.op e)) (oL l i) (λc=>S c/\¬Si c) vs:=by
 have r1:=adc r;have hy:(mB l).getD i none=some (l.getD i e.dflt):=by simp only[mB,bN,fQ,bX hi,dX,dY]
 have h2:gok [.ix i] (.sl (.op e)) (mB l):=by simp only[gok,mB,d5];exact⟨hi,trivial⟩
 have h3:get [.ix i] (.sl (.op e)) (mB l)=some ⟨.op e,(mB l).getD i none⟩:=by simp only[get,O.dflt]
 have hset:set [.ix i] (.sl (.op e)) (mB l) ⟨.op e,none⟩=some ⟨.sl (.op e),(mB l).set i none⟩:=by simp only[set];rw[show ja ⟨.op e,none⟩ (.op e)=some none from Zw _ _]
 obtain⟨us,pl,Si,e1,e2,e3,e4,_,e6⟩:=pJ [.ix i] (.sl (.op e)) (mB l) S vs none _ r1 h2 h3 (λb off e=>by cases e);rw[hy]at e3;simp only[Rel]at e3;have hr:Rel Im w (.op e) (none:Option e.strip.den) (λ_=>False) us:=by simp only[Rel];exact⟨e3.1,e3.2.1,λz hz=>by cases hz⟩
 have hw:=e6 Im w ⟨.op e,none⟩ (λ_=>False) us _ hset rfl hr (cN.refl _ _) (λc h=>h.elim)
  (λhh b off hp cur ty' hb=>by obtain⟨b0,off0,cur0,ty0,k1,k2,k3,k4,k5⟩:=e4 hh;rw[k1]at hp;cases hp;rw[k4]at hb;cases hb;rw[k4,qO (by simpa using k5)]) (λ_ _ _ _=>rfl)
 rw[mZ [.ix i] _ _ _ rfl]at hw;refine⟨us,pl,Si,λad=>?_,e2,e3.2.2 _ rfl,?_⟩
 ·have:∀ad ad',res w [.ix i] (.sl e) vs ad=res w [.ix i] (.sl (.op e)) vs ad':=λad ad'=>by simp only[res];rfl
  rw[this ad none];exact e1
 ·have hS:(λc=>(S c/\¬Si c)\/False)=λc=>S c/\¬Si c:=funext λc=>or_false _;rw[hS]at hw;exact hw.2
theorem Kf:∀(π:bA)(o:O)(x:o.strip.den)(p0:bA)(i:Nat)(q:Ob),kD π=some (p0,i)->get p0 o x=some q->gok p0 o x/\(gok π o x->∀(e:O)(l:List e.strip.den),q=⟨.sl e,l⟩->i<l.length)/\
  (∀(e:O)(l:List e.strip.den),q=⟨.sl e,l⟩->get π o x=some ⟨e,l.getD i e.dflt⟩)/\∀(w:aK)(e:O)(l:List e.strip.den),q=⟨.sl e,l⟩->∀vs ad us pl,res w p0 o vs ad=some (us,pl)->res w π o vs ad=res w [.ix i] (.sl e) us pl:=by
 intro π
 induction π with
 |nil=>intro o x p0 i q h;simp[kD]at h
 |cons s π ih=>
  intro o x p0 i q h hg
  cases s with
  |ix n=>
   cases π with
   |nil=>
    simp only[kD,aG,bS]at h;obtain⟨rfl,rfl⟩:=h;simp only[get,aG]at hg;subst hg;refine⟨by simp only[gok],λh1 e l hq=>?_,λe l hq=>?_,λw e l hq vs ad us pl hr=>?_⟩
    ·cases hq;simp only[gok]at h1;exact h1.1
    ·cases hq;simp only[get]
    ·cases hq;simp only[res,aG,bS]at hr;obtain⟨rfl,rfl⟩:=hr;rfl
   |cons _ _=>simp[kD]at h
  |l=>
   simp only[kD]at h;split at h
   ·rename_i p1 i1 h1;cases h
    cases o with
    |p a b=>simp only[get]at hg;obtain⟨k1,k2,k3,k4⟩:=ih a x.1 p1 _ q h1 hg;exact⟨by simp only[gok];exact k1,λg=>by simp only[gok]at g;exact k2 g,λe l hq=>by simp only[get];exact k3 e l hq,λw e l hq vs ad us pl hr=>by simp only[res]at hr⊢;exact k4 w e l hq _ _ _ _ hr⟩
    |fz t=>
     cases t with
     |p a b=>simp only[get]at hg;obtain⟨k1,k2,k3,k4⟩:=ih (.fz a) x.1 p1 _ q h1 hg;exact⟨by simp only[gok];exact k1,λg=>by simp only[gok]at g;exact k2 g,λe l hq=>by simp only[get];exact k3 e l hq,λw e l hq vs ad us pl hr=>by simp only[res]at hr⊢;exact k4 w e l hq _ _ _ _ hr⟩
     |_=>simp[get]at hg
    |_=>simp[get]at hg
   ·cases h
  |r=>
   simp only[kD]at h;split at h
   ·rename_i p1 i1 h1;cases h
    cases o with
    |p a b=>simp only[get]at hg;obtain⟨k1,k2,k3,k4⟩:=ih b x.2 p1 _ q h1 hg;exact⟨by simp only[gok];exact k1,λg=>by simp only[gok]at g;exact k2 g,λe l hq=>by simp only[get];exact k3 e l hq,λw e l hq vs ad us pl hr=>by simp only[res]at hr⊢;exact k4 w e l hq _ _ _ _ hr⟩
    |fz t=>
     cases t with
     |p a b=>simp only[get]at hg;obtain⟨k1,k2,k3,k4⟩:=ih (.fz b) x.2 p1 _ q h1 hg;exact⟨by simp only[gok];exact k1,λg=>by simp only[gok]at g;exact k2 g,λe l hq=>by simp only[get];exact k3 e l hq,λw e l hq vs ad us pl hr=>by simp only[res]at hr⊢;exact k4 w e l hq _ _ _ _ hr⟩
     |_=>simp[get]at hg
    |_=>simp[get]at hg
   ·cases h
  |de=>
   simp only[kD]at h;split at h
   ·rename_i p1 i1 h1;cases h
    cases o with
    |pt t=>
     simp only[get]at hg;obtain⟨k1,k2,k3,k4⟩:=ih t x p1 _ q h1 hg;refine⟨by simp only[gok];exact k1,λg=>by simp only[gok]at g;exact k2 g,λe l hq=>by simp only[get];exact k3 e l hq,λw e l hq vs ad us pl hr=>?_⟩;simp only[res]at hr⊢;split at hr
     ·exact k4 w e l hq _ _ _ _ hr
     ·cases hr
    |_=>simp[get]at hg
   ·cases h
theorem adr{v:V}{e:cg}(h:Hp F p M w)(hr:ac p.β M (Imm F p M w) w v vs)(hc:FS k v M=some (q,e,M')):go M' k=go M k/\∃p' S,Cv F p M w k q e vs p' M' S:=by
 unfold FS at hc;split at hc
 ·rename_i r i
  cases hb:neg (eo r k)with
  |true=>rw[hb]at hc;cases hc
  |false=>
   rw[hb]at hc;simp only[bp]at hc;obtain⟨hne,hg⟩:=sW hb;split at hc
   ·rename_i e0 l hk;cases hc;simp only[ac]at hr;obtain⟨ob,pl,h1,h2,⟨q,h3⟩,h4⟩:=hr;rw[hk]at h1;cases h1;have hi:i<l.length:=by simp only[gok]at h2;exact h2.1
    obtain⟨us,pl1,Si,e1,e2,e3,_⟩:=IU hi (h.objs r _ hk);rw[e1 none]at h4;cases h4;have cv:=Cv.whole h k hk hg;have hd:=Tr.drop cv.tr.hp (λb=>p.L b\/Si b) (λb hb=>(cv.L b).2 (hb.imp id (e2 b)));refine⟨fg (λe=>hne e.symm) M,⟨p.β,p.σ,λb=>p.L b\/Si b⟩,Si,rfl,λb=>lh,λb hb=>cv.sp b (e2 b hb),cv.tr.trans hd,?_,cv.fr.elim (λz=>nomatch z.1) .inr⟩;have r1:=Rel.keep cv.tr.keep _ _ _ _ (λ_ _=>rfl) e3;exact Rel.keep hd.keep _ _ _ _ (λ_ _=>rfl) r1
   ·cases hc
 ·cases hc
theorem abr(b:bC)(k:Nat)(t:T)(v:V)(M:Mem)(p:Ow)(vs:aJ)(q:Ob)(e:cg)(M':Mem)(h:Hp F p M w)(hr:ac p.β M (Imm F p M w) w v vs)(hc:Bx b k t v M=some (q,e,M')):go M' k=go M k/\∃p' S,Cv F p M w k q e vs p' M' S:=by
 unfold Bx at hc;split at hc
 ·rename_i r ht;cases hc
  cases b with
  |false=>cases ht
  |true=>exact adr h hr ht
 ·exact ve k t v M p vs q e M' h hr hc
theorem Tr.take(h:Hp F p M w){i:Nat}{e:O}{l:List e.strip.den}(hk:go M k=some ob)(hg:k<gid)(hx:kD π=some (p0,i))(hq:get p0 ob.o ob.x=some ⟨.sl e,l⟩)(h2:gok π ob.o ob.x)(h4:res w π ob.o [p.β k] none=some (us,pl))(hset:set p0 ob.o ob.x ⟨.sl (.op e),oL l i⟩=some ob'):
  ∃p':Ow,∃S:Nat->Prop,p'.β=p.β/\(∀b,p'.L b<->p.L b\/S b)/\(∀b,S b->¬p.L b)/\Tr F p M w [.tk k ob.o ob'.o] p' (Bm.put k ob' M) w/\Rel (Imm F p' (Bm.put k ob' M) w) w e (l.getD i e.dflt) S us:=by
 obtain⟨g1,g2,_,g4⟩:=Kf π ob.o ob.x p0 i _ hx hq;have hi:=g2 h2 e l rfl;obtain⟨us0,pl0,S',e1,e2,e3,e4,e5,e6⟩:=look h hk g1 hq;obtain⟨us1,pl1,Si,r1,r2,r3,r4⟩:=IU hi e3;rw[g4 w e l rfl _ _ _ _ e1,r1]at h4;cases h4;have hl:=cz hk
 have hout:eV p0 ob.o [p.β k] us0=[p.β k]:=by
  cases hh:cn p0 with
  |true=>exact mZ p0 _ _ _ hh
  |false=>
   obtain⟨n,k1,k2,k3,k4,k5⟩:=e5 hh;rw[k5 us0 rfl];refine qO (λj u hu=>?_);rw[k3,g7]at hu;split at hu
   ·rw[g8]at hu;exact hu
   ·cases hu
 have ht:=Tr.put (S'':=λc=>S' c/\¬Si c) (L':=λb=>p.L b\/Si b) (us':=us0) (w':=w) h hk e2 e4 e6 hset rfl hout (Chg.refl w _)
  (λhh b off hp cur ty' hb=>by obtain⟨b0,off0,cur0,ty0,k1,k2,k3,k4,k5⟩:=e4 hh;rw[k1]at hp;cases hp;rw[k4]at hb;cases hb;rw[k4,qO (by simpa using k5)]) (λc hc=>.inr hc.1)
  (λc hc=>hc.elim (λhc=>⟨.inl hc,λhs=>(h.lim c hc).2.2 k hl (e2 c hs.1)⟩) λhc=>⟨.inr (r2 c hc),λhs=>hs.2 hc⟩) (λ_=>hg)
  (λhk'=>Rel.keep hk' _ _ _ _ (λ_ _=>rfl) r4)
 exact⟨⟨p.β,_,λb=>p.L b\/Si b⟩,Si,rfl,λb=>lh,λb hb hL=>(h.lim b hL).2.2 k hl (e2 b (r2 b hb)),Tr.tk h hk rfl ht,Rel.keep ht.keep _ _ _ _ (λ_ _=>rfl) r3⟩
theorem Tr.relP(h:Hp F p M w){n:Ob}(hk:go M k=some ob)(hgo:gok p0 ob.o ob.x)(hq:get p0 ob.o ob.x=some q)(hset:set p0 ob.o ob.x n=some ob')(hsz:n.o.size=q.o.size)(hr:∀(Im S:aT)(vs:aJ),Rel Im w q.o q.x S vs->Rel Im w n.o n.x S vs):∃p':Ow,(∀b,p'.L b<->p.L b)/\Tr F p M w [.cut k ob.o ob'.o] p' (Bm.put k ob' M) w:=by
 obtain⟨us0,pl0,S',e1,e2,e3,e4,e5,e6⟩:=look h hk hgo hq;have hl:=cz hk
 have hout:eV p0 ob.o [p.β k] us0=[p.β k]:=by
  cases hh:cn p0 with
  |true=>exact mZ p0 _ _ _ hh
  |false=>
   obtain⟨n,k1,k2,k3,k4,k5⟩:=e5 hh;rw[k5 us0 rfl];refine qO (λj u hu=>?_);rw[k3,g7]at hu;split at hu
   ·rw[g8]at hu;exact hu
   ·cases hu
 have ht:=Tr.put (S'':=S') (L':=p.L) (us':=us0) (w':=w) h hk e2 e4 e6 hset hsz hout (Chg.refl w _)
  (λhh b off hp cur ty' hb=>by obtain⟨b0,off0,cur0,ty0,k1,k2,k3,k4,k5⟩:=e4 hh;rw[k1]at hp;cases hp;rw[k4]at hb;cases hb;rw[k4,qO (by simpa using k5)]) (λc hc=>.inr hc)
  (λc hc=>⟨.inl hc,λhs=>(h.lim c hc).2.2 k hl (e2 c hs)⟩) (λhc=>absurd (e2 _ hc.choose_spec.2) ((h.lim _ hc.choose_spec.1).2.2 k hl))
  (λhk'=>hr _ _ _ (Rel.keep hk' _ _ _ _ (λ_ _=>rfl) e3))
 exact⟨⟨p.β,λj=>if j=k thenλc=>(p.σ k c/\¬S' c)\/S' c else p.σ j,p.L⟩,λb=>lh,ht⟩
def ab:List Prop->Prop
 |[]=>True
 |p::r=>p/\ab r
@[simp] theorem eY:ab []=True:=rfl
abbrev nM:Type:=List Prop
@[simp] theorem e9 (p:Prop) (r:nM):ab (p::r)=(p/\ab r):=rfl
theorem fW(a b:nM):ab (ap a b)<->ab a/\ab b:=by
 induction a with
 |nil=>simp[ap]
 |cons p a ih=>simp only[ap,e9,ih,and_assoc]
theorem kB(l:nM)(K:Prop):conj l K<->ab l/\K:=by
 induction l with
 |nil=>simp[conj]
 |cons p l ih=>simp only[conj,e9,ih,and_assoc]
theorem xB(g:Prop)(l:nM)(K:Prop):imp g l K<->(g->ab l)/\K:=by
 induction l with
 |nil=>simp[imp]
 |cons p l _=>
  simp only[imp,e9,kB];constructor
  ·rintro⟨h1,h3⟩;exact⟨λhg=>⟨(h1 hg).2,(h1 hg).1⟩,h3⟩
  ·rintro⟨h1,h3⟩;exact⟨λhg=>⟨(h1 hg).2,(h1 hg).1⟩,h3⟩
theorem PL(l:nM)(K:Prop):imps l K<->(ab l->K):=by
 induction l with
 |nil=>simp[imps]
 |cons p l ih=>simp only[imps,e9,ih];constructor<;>intro h<;>intros<;>simp_all
@[simp] theorem bT:aP []=true:=rfl
@[simp] theorem bQ (b:bC) (r:fw):aP (b::r)=(b&&aP r):=by cases b<;>rfl
theorem eW{x:Cb}(h:ab (bif c then x else bad).1):c=true:=by
 cases c with
 |true=>rfl
 |false=>exact h.1.elim
theorem dQ(h:(ty P t).ok=true):∃i u,P.info? t=some i/\P.underlying t=some u:=by
 unfold ty at h;split at h
 ·rename_i i u hi hu;exact⟨i,u,hi,hu⟩
 ·simp[Fx]at h
theorem dB{u:TypeDesc}(hi:P.info? t=some i)(hu:P.underlying t=some u):ty P t=eL P i u:=by simp only[ty,hi,hu]
theorem aab(h:tyZ P t=some zs):∃i z,P.info? t=some i/\i.zero=some z/\zs=z.cells.toList:=by
 unfold tyZ at h;split at h
 ·rename_i i hi;split at h
  ·rename_i z hz;cases h;exact⟨i,z,hi,hz,rfl⟩
  ·cases h
 ·cases h
theorem Ke(n:Int):inK .i64 n<->-9223372036854775808<=n/\n<=9223372036854775807:=by simp[inK,IntKind.min,IntKind.max,IntKind.signed,IntKind.bits]
theorem KV(n:Int):inK .u8 n<->0<=n/\n<=255:=by simp[inK,IntKind.min,IntKind.max,IntKind.signed,IntKind.bits]
theorem R8(n:Int):inK .u64 n<->0<=n/\n<=18446744073709551615:=by simp[inK,IntKind.min,IntKind.max,IntKind.signed,IntKind.bits]
theorem Rd(n:Int):inK .i32 n<->-2147483648<=n/\n<=2147483647:=by simp[inK,IntKind.min,IntKind.max,IntKind.signed,IntKind.bits]
theorem Sa(n:Int):inK .u32 n<->0<=n/\n<=4294967295:=by simp[inK,IntKind.min,IntKind.max,IntKind.signed,IntKind.bits]
theorem QW(n:Int):inK .u16 n<->0<=n/\n<=65535:=by simp[inK,IntKind.min,IntKind.max,IntKind.signed,IntKind.bits]
theorem Rb(n:Int):inK .i16 n<->-32768<=n/\n<=32767:=by simp[inK,IntKind.min,IntKind.max,IntKind.signed,IntKind.bits]
theorem Tv(n:Int):inK .i8 n<->-128<=n/\n<=127:=by simp[inK,IntKind.min,IntKind.max,IntKind.signed,IntKind.bits]
theorem tj{k:gT}{n:Int}(h:inK k n):k.wrap n=n:=by
 cases k
 all_goals first|rw[Ke]at h|rw[KV]at h|rw[R8]at h|rw[Rd]at h|rw[Sa]at h|rw[QW]at h|rw[Rb]at h|rw[Tv]at h
 all_goals (simp[IntKind.wrap,IntKind.signed,IntKind.bits];omega)
theorem xn(k:gT)(n:Int):inK k (k.wrap n):=by
 cases k
 all_goals first|rw[Ke]|rw[KV]|rw[R8]|rw[Rd]|rw[Sa]|rw[QW]|rw[Rb]|rw[Tv]
 all_goals (simp[IntKind.wrap,IntKind.signed,IntKind.bits];omega)
theorem tE(h:n<=nb):inK .i64 n:=(Ke n).2 ⟨aa,by simp only[nb]at h;omega⟩
theorem ov:(ρ π:bA)->(o:O)->(x:o.strip.den)->get (ap ρ π) o x=(match get ρ o x with|some q=>get π q.o q.x|none=>none)
 |[],π,o,x=>by simp only[ap,get]
 |.l::ρ,π,.p a b,x=>by simp only[ap,get];exact ov ρ π a x.1
 |.r::ρ,π,.p a b,x=>by simp only[ap,get];exact ov ρ π b x.2
 |.l::ρ,π,.fz (.p a b),x=>by simp only[ap,get];exact ov ρ π (.fz a) x.1
 |.r::ρ,π,.fz (.p a b),x=>by simp only[ap,get];exact ov ρ π (.fz b) x.2
 |.ix i::ρ,π,.sl e,x=>by simp only[ap,get];exact ov ρ π e _
 |.de::ρ,π,.pt t,x=>by simp only[ap,get];exact ov ρ π t x
 |.l::_,_,.sl _,_|.l::_,_,.mp _ _,_|.l::_,_,.op _,_|.l::_,_,.pt _,_|.l::_,_,.fz (.int _),_|.l::_,_,.fz .bool,_|.l::_,_,.fz .str,_|.l::_,_,.fz .u,_|.l::_,_,.fz (.sl _),_|.l::_,_,.fz (.pt _),_|.l::_,_,.fz (.fn _ _),_|.l::_,_,.fz (.ifc _ _),_|.l::_,_,.fz (.ib _ _),_|.l::_,_,.fz (.mp _ _),_|.l::_,_,.fz (.op _),_|.l::_,_,.fz (.ns _),_|.l::_,_,.fz (.er _),_|.l::_,_,.fz .any,_|.r::_,_,.sl _,_|.r::_,_,.mp _ _,_|.r::_,_,.op _,_|.r::_,_,.pt _,_|.r::_,_,.fz (.int _),_|.r::_,_,.fz .bool,_|.r::_,_,.fz .str,_|.r::_,_,.fz .u,_|.r::_,_,.fz (.sl _),_|.r::_,_,.fz (.pt _),_|.r::_,_,.fz (.fn _ _),_|.r::_,_,.fz (.ifc _ _),_|.r::_,_,.fz (.ib _ _),_|.r::_,_,.fz (.mp _ _),_|.r::_,_,.fz (.op _),_|.r::_,_,.fz (.ns _),_|.r::_,_,.fz (.er _),_|.r::_,_,.fz .any,_|.ix _::_,_,.fz _,_|.ix _::_,_,.p _ _,_|.ix _::_,_,.pt _,_|.ix _::_,_,.mp _ _,_|.ix _::_,_,.op _,_|.de::_,_,.fz _,_|.de::_,_,.p _ _,_|.de::_,_,.sl _,_|.de::_,_,.mp _ _,_|.de::_,_,.op _,_=>by simp only[ap,get]
theorem pB:(ρ π:bA)->(o:O)->(x:o.strip.den)->(q:Ob)->get ρ o x=some q->gok ρ o x->gok π q.o q.x->gok (ap ρ π) o x
 |[],π,o,x,q,h,_,h2=>by simp only[get,aG]at h;subst h;exact h2
 |.l::ρ,π,.p a b,x,q,h,h1,h2=>by simp only[ap,get,gok]at h h1⊢;exact pB ρ π a x.1 q h h1 h2
 |.r::ρ,π,.p a b,x,q,h,h1,h2=>by simp only[ap,get,gok]at h h1⊢;exact pB ρ π b x.2 q h h1 h2
 |.l::ρ,π,.fz (.p a b),x,q,h,h1,h2=>by simp only[ap,get,gok]at h h1⊢;exact pB ρ π (.fz a) x.1 q h h1 h2
 |.r::ρ,π,.fz (.p a b),x,q,h,h1,h2=>by simp only[ap,get,gok]at h h1⊢;exact pB ρ π (.fz b) x.2 q h h1 h2
 |.ix i::ρ,π,.sl e,x,q,h,h1,h2=>by simp only[ap,get,gok]at h h1⊢;exact⟨h1.1,pB ρ π e _ q h h1.2 h2⟩
 |.de::ρ,π,.pt t,x,q,h,h1,h2=>by simp only[ap,get,gok]at h h1⊢;exact pB ρ π t x q h h1 h2
 |.l::_,_,.sl _,_,_,h,_,_|.l::_,_,.mp _ _,_,_,h,_,_|.l::_,_,.op _,_,_,h,_,_|.l::_,_,.pt _,_,_,h,_,_|.l::_,_,.fz (.int _),_,_,h,_,_|.l::_,_,.fz .bool,_,_,h,_,_|.l::_,_,.fz .str,_,_,h,_,_|.l::_,_,.fz .u,_,_,h,_,_|.l::_,_,.fz (.sl _),_,_,h,_,_|.l::_,_,.fz (.pt _),_,_,h,_,_|.l::_,_,.fz (.fn _ _),_,_,h,_,_|.l::_,_,.fz (.ifc _ _),_,_,h,_,_|.l::_,_,.fz (.ib _ _),_,_,h,_,_|.l::_,_,.fz (.mp _ _),_,_,h,_,_|.l::_,_,.fz (.op _),_,_,h,_,_|.l::_,_,.fz (.ns _),_,_,h,_,_|.l::_,_,.fz (.er _),_,_,h,_,_|.l::_,_,.fz .any,_,_,h,_,_|.r::_,_,.sl _,_,_,h,_,_|.r::_,_,.mp _ _,_,_,h,_,_|.r::_,_,.op _,_,_,h,_,_|.r::_,_,.pt _,_,_,h,_,_|.r::_,_,.fz (.int _),_,_,h,_,_|.r::_,_,.fz .bool,_,_,h,_,_|.r::_,_,.fz .str,_,_,h,_,_|.r::_,_,.fz .u,_,_,h,_,_|.r::_,_,.fz (.sl _),_,_,h,_,_|.r::_,_,.fz (.pt _),_,_,h,_,_|.r::_,_,.fz (.fn _ _),_,_,h,_,_|.r::_,_,.fz (.ifc _ _),_,_,h,_,_|.r::_,_,.fz (.ib _ _),_,_,h,_,_|.r::_,_,.fz (.mp _ _),_,_,h,_,_|.r::_,_,.fz (.op _),_,_,h,_,_|.r::_,_,.fz (.ns _),_,_,h,_,_|.r::_,_,.fz (.er _),_,_,h,_,_|.r::_,_,.fz .any,_,_,h,_,_|.ix _::_,_,.fz _,_,_,h,_,_|.ix _::_,_,.p _ _,_,_,h,_,_|.ix _::_,_,.pt _,_,_,h,_,_|.ix _::_,_,.mp _ _,_,_,h,_,_|.ix _::_,_,.op _,_,_,h,_,_|.de::_,_,.fz _,_,_,h,_,_|.de::_,_,.p _ _,_,_,h,_,_|.de::_,_,.sl _,_,_,h,_,_|.de::_,_,.mp _ _,_,_,h,_,_|.de::_,_,.op _,_,_,h,_,_=>by simp[get]at h
theorem pu(w:aK):(ρ π:bA)->(o:O)->(x:o.strip.den)->(q:Ob)->(vs:aJ)->(ad:Pl)->get ρ o x=some q->res w (ap ρ π) o vs ad=(match res w ρ o vs ad with|some r=>res w π q.o r.1 r.2|none=>none)
 |[],π,o,x,q,vs,ad,h=>by simp only[get,aG]at h;subst h;simp only[ap,res]
 |.l::ρ,π,.p a b,x,q,vs,ad,h=>by simp only[ap,get,res]at h⊢;exact pu w ρ π a x.1 q _ _ h
 |.r::ρ,π,.p a b,x,q,vs,ad,h=>by simp only[ap,get,res]at h⊢;exact pu w ρ π b x.2 q _ _ h
 |.l::ρ,π,.fz (.p a b),x,q,vs,ad,h=>by simp only[ap,get,res]at h⊢;exact pu w ρ π (.fz a) x.1 q _ _ h
 |.r::ρ,π,.fz (.p a b),x,q,vs,ad,h=>by simp only[ap,get,res]at h⊢;exact pu w ρ π (.fz b) x.2 q _ _ h
 |.ix i::ρ,π,.sl e,x,q,vs,ad,h=>by
  simp only[ap,get,res]at h⊢;split
  ·rename_i a n c;exact pu w ρ π e _ q _ _ h
  ·rfl
 |.de::ρ,π,.pt t,x,q,vs,ad,h=>by
  simp only[ap,get,res]at h⊢;split
  ·rename_i a;exact pu w ρ π t x q _ _ h
  ·rfl
 |.l::_,_,.sl _,_,_,_,_,h|.l::_,_,.mp _ _,_,_,_,_,h|.l::_,_,.op _,_,_,_,_,h|.l::_,_,.pt _,_,_,_,_,h|.l::_,_,.fz (.int _),_,_,_,_,h|.l::_,_,.fz .bool,_,_,_,_,h|.l::_,_,.fz .str,_,_,_,_,h|.l::_,_,.fz .u,_,_,_,_,h|.l::_,_,.fz (.sl _),_,_,_,_,h|.l::_,_,.fz (.pt _),_,_,_,_,h|.l::_,_,.fz (.fn _ _),_,_,_,_,h|.l::_,_,.fz (.ifc _ _),_,_,_,_,h|.l::_,_,.fz (.ib _ _),_,_,_,_,h|.l::_,_,.fz (.mp _ _),_,_,_,_,h|.l::_,_,.fz (.op _),_,_,_,_,h|.l::_,_,.fz (.ns _),_,_,_,_,h|.l::_,_,.fz (.er _),_,_,_,_,h|.l::_,_,.fz .any,_,_,_,_,h|.r::_,_,.sl _,_,_,_,_,h|.r::_,_,.mp _ _,_,_,_,_,h|.r::_,_,.op _,_,_,_,_,h|.r::_,_,.pt _,_,_,_,_,h|.r::_,_,.fz (.int _),_,_,_,_,h|.r::_,_,.fz .bool,_,_,_,_,h|.r::_,_,.fz .str,_,_,_,_,h|.r::_,_,.fz .u,_,_,_,_,h|.r::_,_,.fz (.sl _),_,_,_,_,h|.r::_,_,.fz (.pt _),_,_,_,_,h|.r::_,_,.fz (.fn _ _),_,_,_,_,h|.r::_,_,.fz (.ifc _ _),_,_,_,_,h|.r::_,_,.fz (.ib _ _),_,_,_,_,h|.r::_,_,.fz (.mp _ _),_,_,_,_,h|.r::_,_,.fz (.op _),_,_,_,_,h|.r::_,_,.fz (.ns _),_,_,_,_,h|.r::_,_,.fz (.er _),_,_,_,_,h|.r::_,_,.fz .any,_,_,_,_,h|.ix _::_,_,.fz _,_,_,_,_,h|.ix _::_,_,.p _ _,_,_,_,_,h|.ix _::_,_,.pt _,_,_,_,_,h|.ix _::_,_,.mp _ _,_,_,_,_,h|.ix _::_,_,.op _,_,_,_,_,h|.de::_,_,.fz _,_,_,_,_,h|.de::_,_,.p _ _,_,_,_,_,h|.de::_,_,.sl _,_,_,_,_,h|.de::_,_,.mp _ _,_,_,_,_,h|.de::_,_,.op _,_,_,_,_,h=>by simp[get]at h
theorem Du:(ρ π:bA)->(cn ρ||cn π)=true->cn (ap ρ π)=true
 |[],π,h=>by simpa[cn,ap]using h
 |.l::ρ,π,h|.r::ρ,π,h=>by simp only[ap,cn]at h⊢;exact Du ρ π h
 |.ix _::ρ,π,h|.de::ρ,π,h=>by simp only[ap,cn]
theorem xg:(π:bA)->(o:O)->(n:Nat)->ii π o.strip=some n->fh π o=some n/\cn π=false
 |[],o,n,h=>by simp only[ii]at h;simp only[fh,h,cn,and_self]
 |.l::π,.p a b,n,h=>by simp only[ii]at h;obtain⟨h1,h2⟩:=xg π a n h;exact⟨by simpa only [fh]using h1,by simpa only [cn]using h2⟩
 |.r::π,.p a b,n,h=>by
  simp only[ii]at h;split at h
  ·rename_i m hm;obtain⟨h1,h2⟩:=xg π b m hm;exact⟨by simp only[fh,h1];exact h,by simpa only [cn]using h2⟩
  ·cases h
 |.l::π,.fz (.p a b),n,h=>by simp only[ii]at h;obtain⟨h1,h2⟩:=xg π (.fz a) n h;exact⟨by simpa only [fh]using h1,by simpa only [cn]using h2⟩
 |.r::π,.fz (.p a b),n,h=>by
  simp only[ii]at h;split at h
  ·rename_i m hm;obtain⟨h1,h2⟩:=xg π (.fz b) m hm;exact⟨by simp only[fh,h1];exact h,by simpa only [cn]using h2⟩
  ·cases h
 |.l::_,.sl _,_,h|.l::_,.mp _ _,_,h|.l::_,.op _,_,h|.l::_,.pt _,_,h|.l::_,.fz (.int _),_,h|.l::_,.fz .bool,_,h|.l::_,.fz .str,_,h|.l::_,.fz .u,_,h|.l::_,.fz (.sl _),_,h|.l::_,.fz (.pt _),_,h|.l::_,.fz (.fn _ _),_,h|.l::_,.fz (.ifc _ _),_,h|.l::_,.fz (.ib _ _),_,h|.l::_,.fz (.mp _ _),_,h|.l::_,.fz (.op _),_,h|.l::_,.fz (.ns _),_,h|.l::_,.fz (.er _),_,h|.l::_,.fz .any,_,h|.r::_,.sl _,_,h|.r::_,.mp _ _,_,h|.r::_,.op _,_,h|.r::_,.pt _,_,h|.r::_,.fz (.int _),_,h|.r::_,.fz .bool,_,h|.r::_,.fz .str,_,h|.r::_,.fz .u,_,h|.r::_,.fz (.sl _),_,h|.r::_,.fz (.pt _),_,h|.r::_,.fz (.fn _ _),_,h|.r::_,.fz (.ifc _ _),_,h|.r::_,.fz (.ib _ _),_,h|.r::_,.fz (.mp _ _),_,h|.r::_,.fz (.op _),_,h|.r::_,.fz (.ns _),_,h|.r::_,.fz (.er _),_,h|.r::_,.fz .any,_,h|.ix _::_,_,_,h|.de::_,_,_,h=>by simp[ii]at h
theorem Kv{Im:aT}{w:aK}:(π:bA)->(t:T)->(x:t.den)->(n:Nat)->(q:(t:T)×t.den)->(vs:aJ)->ii π t=some n->vL π t x=some q->ah Im w t x vs->
  ∃va us vb,vs=va++us++vb/\va.length=n/\ah Im w q.1 q.2 us
 |[],t,x,n,q,vs,h,hq,r=>by simp only[ii,aG]at h;simp only[vL,aG]at hq;subst h;subst hq;exact⟨[],vs,[],ak,rfl,r⟩
 |.l::π,.p a b,x,n,q,vs,h,hq,r=>by simp only[ii]at h;simp only[vL]at hq;simp only[ah]at r;obtain⟨va,vb,rfl,ha,hb⟩:=r;obtain⟨v1,us,v2,rfl,k2,k3⟩:=Kv π a x.1 n q va h hq ha;exact⟨v1,us,v2++vb,ak,k2,k3⟩
 |.r::π,.p a b,x,n,q,vs,h,hq,r=>by
  simp only[ii]at h;simp only[vL]at hq;simp only[ah]at r;obtain⟨va,vb,rfl,ha,hb⟩:=r;split at h
  ·rename_i m hm;simp only[aG]at h;obtain⟨v1,us,v2,rfl,k2,k3⟩:=Kv π b x.2 m q vb hm hq hb;exact⟨va++v1,us,v2,ak,by rw[bj,ah.len a _ _ ha,k2,←h];simp,k3⟩
  ·cases h
 |.l::_,.int _,_,_,_,_,h,_,_|.l::_,.bool,_,_,_,_,h,_,_|.l::_,.str,_,_,_,_,h,_,_|.l::_,.u,_,_,_,_,h,_,_|.l::_,.sl _,_,_,_,_,h,_,_|.l::_,.pt _,_,_,_,_,h,_,_|.l::_,.fn _ _,_,_,_,_,h,_,_|.l::_,.ifc _ _,_,_,_,_,h,_,_|.l::_,.mp _ _,_,_,_,_,h,_,_|.l::_,.op _,_,_,_,_,h,_,_|.l::_,.any,_,_,_,_,h,_,_|.r::_,.int _,_,_,_,_,h,_,_|.r::_,.bool,_,_,_,_,h,_,_|.r::_,.str,_,_,_,_,h,_,_|.r::_,.u,_,_,_,_,h,_,_|.r::_,.sl _,_,_,_,_,h,_,_|.r::_,.pt _,_,_,_,_,h,_,_|.r::_,.fn _ _,_,_,_,_,h,_,_|.r::_,.ifc _ _,_,_,_,_,h,_,_|.r::_,.mp _ _,_,_,_,_,h,_,_|.r::_,.op _,_,_,_,_,h,_,_|.r::_,.any,_,_,_,_,h,_,_|.ix _::_,_,_,_,_,_,h,_,_|.de::_,_,_,_,_,_,h,_,_=>by simp[ii]at h
theorem iW.sub{o:Nat}(h:iW w b o (va++us++vb)):iW w b (o+va.length) us:=λj u hu=>by
 have:=h (va.length+j) u (by rw[eP,jD aa,Ge,g9 (gN.1 hu).1];exact hu)
 rwa [show o+(va.length+j)=o+va.length+j by omega]at this
theorem Pc(h:v.oneCell'=true):v.cells=#[v]:=by cases v<;>simp[Value.oneCell']at h<;>rfl
theorem od(h:fq M k π=some q):∃ob,go M k=some ob/\get π ob.o ob.x=some q:=by
 unfold fq at h;split at h
 ·rename_i ob hob;exact⟨ob,hob,h⟩
 ·cases h
theorem Ref.look(hp:Hp F p M w)(h:Ref p.β M w k π vs)(hq:fq M k π=some q):∃S,Rel (Imm F p M w) w q.o q.x S vs:=by obtain⟨ob,h1,h2⟩:=od hq;obtain⟨ob',pl,k1,k2,k3,k4⟩:=h;rw[h1]at k1;cases k1;obtain⟨us,pl',S',e1,e2,e3,_⟩:=Bm.look hp h1 k2 h2;rw[e1]at k4;cases k4;exact⟨S',e3⟩
theorem Adr.look(hp:Hp F p M w)(h:Adr p.β M w k π v)(hq:fq M k π=some q):
  ∃S us b off cur ty',v=.pointer (some ⟨b,off,none⟩)/\Rel (Imm F p M w) w q.o q.x S us/\w.heap[b]? = some (.cells cur ty' (0,0))/\(∀(j:Nat)(u:bm),us[j]? = some u->cur[off+j]? = some u)/\Ref p.β M w k π us:=by
 obtain⟨ob,h1,h2⟩:=od hq;obtain⟨ob',us0,b0,off0,k1,k2,k3,k4,k5,k6⟩:=h;rw[h1]at k1;cases k1;obtain⟨us,pl',S',e1,e2,e3,e4,_⟩:=Bm.look hp h1 k2 h2;rw[e1]at k5;simp only[aG,bS]at k5;obtain⟨rfl,rfl⟩:=k5;obtain⟨b,off,cur,ty',g1,g2,g3,g4,g5⟩:=e4 k4;simp only[aG,bS]at g1;obtain⟨rfl,rfl⟩:=g1;exact⟨S',us,b0,off0,cur,ty',k6,e3,g4,g5,ob,_,h1,k2,⟨q,h2⟩,e1⟩
theorem T9(hp:Hp F p M w)(h:Ref p.β M w k π vs)(hq:fq M k π=some q):ac p.β M (Imm F p M w) w (toV k π q.o q.x) vs:=by
 obtain⟨S,hr⟩:=h.look hp hq;obtain⟨o,x⟩:=q
 cases o with
 |fz t=>
  have:toV k π (.fz t) x=fm t x:=by cases π<;>rfl
  simp only[this];simp only[Rel]at hr;exact fG t x vs hr
 |p a b=>
  have:toV k π (.p a b) x=.ref k π:=by cases π<;>rfl
  simp only[this,ac];exact h
 |sl e=>
  have:toV k π (.sl e) x=.ref k π:=by cases π<;>rfl
  simp only[this,ac];exact h
 |mp e e'=>
  have:toV k π (.mp e e') x=.ref k π:=by cases π<;>rfl
  simp only[this,ac];exact h
 |op e=>
  have:toV k π (.op e) x=.ref k π:=by cases π<;>rfl
  simp only[this,ac];exact h
 |pt o=>
  have:toV k π (.pt o) x=.ad k (ap π [.de]):=by cases π<;>rfl
  simp only[this,ac];obtain⟨ob,h1,h2⟩:=od hq;obtain⟨ob',pl,k1,k2,k3,k4⟩:=h;rw[h1]at k1;cases k1;simp only[Rel]at hr;obtain⟨b,us,ty',S',r1,r2,r3,r4,r5⟩:=hr;refine⟨_,r1,ob,cellsOf w b 0 o.size,b,0,h1,pB π [.de] _ _ _ h2 k2 (by simp only[gok]),⟨⟨o,x⟩,by rw[ov,h2];simp only[get]⟩,Du π [.de] (by simp[cn]),?_,rfl⟩;rw[pu w π [.de] ob.o ob.x _ _ _ h2,k4,r1];simp only[res]
theorem Ref.sub(hp:Hp F p M w)(h:Ref p.β M w k ρ vs)(hq:fq M k ρ=some q)(ho:ii π q.o.strip=some n):
  (∃q',fq M k (ap ρ π)=some q')/\∃va us vb,vs=va++us++vb/\va.length=n/\Ref p.β M w k (ap ρ π) us:=by
 obtain⟨ob,h1,h2⟩:=od hq;obtain⟨ob',pl,k1,k2,k3,k4⟩:=h;rw[h1]at k1;cases k1;obtain⟨us,pl',S',e1,e2,e3,_⟩:=Bm.look hp h1 k2 h2;rw[e1]at k4;cases k4;obtain⟨o1,o2⟩:=xg π q.o n ho;obtain⟨⟨q',g1⟩,g2,us',g3⟩:=mf w π q.o n o1 q.x vs pl;obtain⟨us2,pl2,S2,f1,f2,f3,f4,f5,f6⟩:=pJ π q.o q.x S' vs none q' e3 g2 g1 (λb off e=>by cases e);obtain⟨n',b1,b2,b3,b4,b5⟩:=f5 o2;rw[o1]at b1;cases b1
 have hres:∀ad,res w π q.o vs ad=some (us2,ad.plus n):=λad=>by
  obtain⟨_,_,us3,g4⟩:=mf w π q.o n o1 q.x vs ad;obtain⟨us4,pl4,S4,i1,i2,i3,i4,i5,i6⟩:=pJ π q.o q.x S' vs none q' e3 g2 g1 (λb off e=>by cases e)
  have hh:∀(π:bA)(o:O)(vs:aJ)(ad ad':Pl)(u u':aJ)(pl pl':Pl),cn π=false->res w π o vs ad=some (u,pl)->res w π o vs ad'=some (u',pl')->u=u':=by
   intro π
   induction π with
   |nil=>intro o vs ad ad' u u' pl pl' _ r1 r2;simp only[res,aG,bS]at r1 r2;rw[←r1.1,←r2.1]
   |cons s π ih=>
    intro o vs ad ad' u u' pl pl' hh r1 r2
    cases s with
    |l=>
     simp only[cn]at hh
     cases o with
     |p a b=>simp only[res]at r1 r2;exact ih _ _ _ _ _ _ _ _ hh r1 r2
     |fz t=>cases t<;>simp only[res]at r1 r2<;>first|exact ih _ _ _ _ _ _ _ _ hh r1 r2|cases r1
     |sl e|pt e|mp _ _|op _=>simp only[res]at r1;cases r1
    |r=>
     simp only[cn]at hh
     cases o with
     |p a b=>simp only[res]at r1 r2;exact ih _ _ _ _ _ _ _ _ hh r1 r2
     |fz t=>cases t<;>simp only[res]at r1 r2<;>first|exact ih _ _ _ _ _ _ _ _ hh r1 r2|cases r1
     |sl e|pt e|mp _ _|op _=>simp only[res]at r1;cases r1
    |de|ix i=>simp[cn]at hh
  rw[g4,hh π q.o vs ad none us3 us2 _ _ o2 g4 f1]
 refine⟨⟨q',?_⟩,vs.take n,us2,vs.drop (n+us2.length),?_,by rw[ez];omega,ob,pl.plus n,h1,pB ρ π _ _ _ h2 k2 g2,⟨q',by rw[ov,h2];exact g1⟩,?_⟩
 ·unfold fq;rw[h1];simp only;rw[ov,h2];exact g1
 ·conv=>lhs;rw[←kx n vs]
  rw[eP];congr 1
  conv=>lhs;rw[←kx us2.length (vs.drop n)]
  rw[←b3,wj]
 ·rw[pu w ρ π ob.o ob.x _ _ _ h2,e1];exact hres pl
theorem Adr.sub(hp:Hp F p M w)(h:Adr p.β M w k ρ v)(hq:fq M k ρ=some q)(ho:ii π q.o.strip=some n):
  ∃b off,v=.pointer (some ⟨b,off,none⟩)/\Adr p.β M w k (ap ρ π) (.pointer (some ⟨b,off+n,none⟩)):=by
 obtain⟨ob,h1,h2⟩:=od hq;obtain⟨ob',us0,b0,off0,k1,k2,k3,k4,k5,k6⟩:=h;rw[h1]at k1;cases k1;obtain⟨o1,o2⟩:=xg π q.o n ho;obtain⟨⟨q',g1⟩,g2,us',g3⟩:=mf w π q.o n o1 q.x us0 (some (b0,off0));refine⟨b0,off0,k6,ob,us',b0,off0+n,h1,pB ρ π _ _ _ h2 k2 g2,⟨q',by rw[ov,h2];exact g1⟩,Du ρ π (by rw[k4];rfl),?_,rfl⟩;rw[pu w ρ π ob.o ob.x _ _ _ h2,k5];exact g3
theorem ac.one(hp:Hp F p M w):(v:V)->(vs:aJ)->ac p.β M (Imm F p M w) w v vs->∀u∈vs,u.oneCell'=true
 |.p a b,vs,r=>by
  simp only[ac]at r;obtain⟨va,vb,rfl,ha,hb⟩:=r;intro u hu;rcases dN.1 hu with hu|hu
  ·exact ac.one hp a va ha u hu
  ·exact ac.one hp b vb hb u hu
 |.u,vs,r=>by simp only[ac]at r;subst r;intro u hu;cases hu
 |.ref k π,vs,r=>by simp only[ac]at r;exact r.one hp
 |.ad k π,vs,r=>by simp only[ac]at r;obtain⟨v,rfl,h⟩:=r;intro u hu;rw[cP.1 hu];exact h.one
 |.d t x,vs,r=>by simp only[ac]at r;exact ah.one t x vs r
 |.nl,vs,r=>by simp only[ac]at r;obtain⟨oa,rfl⟩:=r;intro u hu;rw[cP.1 hu];rfl
 |.np,vs,r=>by simp only[ac]at r;subst r;intro u hu;rw[cP.1 hu];rfl
 |.any,vs,r=>by simpa only [ac]using r
 |.fn f v,vs,r=>by simp only[ac]at r;obtain⟨us,rfl,_⟩:=r;intro u hu;rw[cP.1 hu];rfl
 |.ag _,vs,r|.tup _,vs,r|.gd _ _ _ _,vs,r=>by simp only[ac]at r
 |.ifc t v,vs,r=>by simp only[ac]at r;obtain⟨u,rfl,_⟩:=r;intro u hu;rw[cP.1 hu];rfl
 |.bx v,vs,r=>by simp only[ac]at r;obtain⟨b,o,us,rfl,_⟩:=r;intro u hu;rw[cP.1 hu];rfl
theorem xr(hp:Hp F p M w){v:V}(h:aj p.β M (Imm F p M w) w v u)(hc:fZ v=true):ac p.β M (Imm F p M w) w v.cells u.cells.toList:=by
 have key:ac p.β M (Imm F p M w) w v [u]->v.cells=v->ac p.β M (Imm F p M w) w v.cells u.cells.toList:=λr e=>by rw[Pc (ac.one hp v _ r u ak),e];exact r
 cases v with
 |any|tup _|gd _ _ _ _=>cases hc
 |ifc _ _=>exact key (by simpa only [aj]using h) rfl
 |ag y=>simp only[aj]at h;obtain⟨vs,rfl,h⟩:=h;simpa[V.cells,Value.cells]using h
 |p a b|u|ref k π|ad k π|d t y|nl|np|fn f y|bx y=>exact key (by simpa only [aj]using h) rfl
theorem o_{a b:fu}(h:L7 a b=some n):∃x y,a=some x/\b=some y/\n=x+y:=by cases a<;>cases b<;>simp[L7]at h;exact⟨_,_,rfl,rfl,h.symm⟩
theorem ng(hp:Hp F p M w):(v:V)->(vs:aJ)->(n:Nat)->ac p.β M (Imm F p M w) w v vs->v.size M=some n->vs.length=n
 |.p a b,vs,n,r,h=>by simp only[ac]at r;obtain⟨va,vb,rfl,ha,hb⟩:=r;simp only[V.size]at h;obtain⟨x,y,hx,hy,rfl⟩:=o_ h;rw[bj,ng hp a va x ha hx,ng hp b vb y hb hy]
 |.u,vs,n,r,h=>by simp only[ac]at r;simp only[V.size,aG]at h;subst r;subst h;rfl
 |.ref k π,vs,n,r,h=>by
  simp only[ac]at r;simp only[V.size]at h;split at h
  ·rename_i q hq;cases h;obtain⟨S,hr⟩:=r.look hp hq;exact Rel.len _ _ _ _ hr
  ·cases h
 |.ad k π,vs,n,r,h=>by simp only[ac]at r;obtain⟨v,rfl,_⟩:=r;simp only[V.size,aG]at h;subst h;rfl
 |.d t x,vs,n,r,h=>by simp only[ac]at r;simp only[V.size,aG]at h;subst h;exact ah.len t x vs r
 |.nl,vs,n,r,h=>by simp only[ac]at r;simp only[V.size,aG]at h;obtain⟨oa,rfl⟩:=r;subst h;rfl
 |.np,vs,n,r,h=>by simp only[ac]at r;simp only[V.size,aG]at h;subst r;subst h;rfl
 |.fn f v,vs,n,r,h=>by simp only[ac]at r;obtain⟨us,rfl,_⟩:=r;simp only[V.size,aG]at h;subst h;rfl
 |.any,vs,n,r,h|.ag _,vs,n,r,h|.tup _,vs,n,r,h|.gd _ _ _ _,vs,n,r,h=>by simp[V.size]at h
 |.ifc t v,vs,n,r,h=>by simp only[ac]at r;obtain⟨u,rfl,_⟩:=r;simp only[V.size,aG]at h;subst h;rfl
 |.bx v,vs,n,r,h=>by simp only[ac]at r;obtain⟨b,o,us,rfl,_⟩:=r;simp only[V.size,aG]at h;subst h;rfl
theorem lW{v:V}(h:fX M v n=true):v.size M=some n:=by
 unfold fX at h;split at h
 ·rename_i m hm;simp only[eZ,cR]at h;rw[hm,h]
 ·cases h
theorem Ao{v:V}(h:v.cells.size M=some n):fZ v=true:=by cases v<;>first|rfl|simp[V.cells,V.size]at h
theorem Ew(hp:Hp F p M w):(π:bA)->(v:V)->(vs:aJ)->(n:Nat)->(v':V)->ac p.β M (Imm F p M w) w v vs->gj M π v=some (n,v')->
  ∃va us vb,vs=va++us++vb/\va.length=n/\ac p.β M (Imm F p M w) w v' us
 |[],v,vs,n,v',r,h=>by
  have:gj M [] v=some (0,v):=by cases v<;>rfl
  rw[this]at h;cases h;exact⟨[],vs,[],ak,rfl,r⟩
 |.l::π,.p a b,vs,n,v',r,h=>by simp only[gj]at h;simp only[ac]at r;obtain⟨va,vb,rfl,ha,hb⟩:=r;obtain⟨v1,us,v2,rfl,k2,k3⟩:=Ew hp π a va n v' ha h;exact⟨v1,us,v2++vb,ak,k2,k3⟩
 |.r::π,.p a b,vs,n,v',r,h=>by
  simp only[gj]at h;simp only[ac]at r;obtain⟨va,vb,rfl,ha,hb⟩:=r;split at h
  ·rename_i m n' v1 hm hs;cases h;obtain⟨v1,us,v2,rfl,k2,k3⟩:=Ew hp π b vb n' v' hb hs;exact⟨va++v1,us,v2,ak,by rw[bj,ng hp a va m ha hm,k2];simp,k3⟩
  ·cases h
 |s::π,.ref k ρ,vs,n,v',r,h=>by
  have:gj M (s::π) (.ref k ρ)=(match fq M k ρ,fq M k (ap ρ (s::π))with
   |some q,some q'=>(match ii (s::π) q.o.strip with|some n=>some (n,toV k (ap ρ (s::π)) q'.o q'.x)|none=>none)
   |_,_=>none):=by cases s<;>rfl
  rw[this]at h;simp only[ac]at r;split at h
  ·rename_i q q' hq hq';split at h
   ·rename_i m hm;cases h;obtain⟨_,va,us,vb,h1,h2,h3⟩:=r.sub hp hq hm;exact⟨va,us,vb,h1,h2,T9 hp h3 hq'⟩
   ·cases h
  ·cases h
 |.ix _::_,.p _ _,_,_,_,_,h|.de::_,.p _ _,_,_,_,_,h=>by simp[gj]at h
 |s::_,.any,_,_,_,_,h|s::_,.nl,_,_,_,_,h|s::_,.np,_,_,_,_,h|s::_,.u,_,_,_,_,h|s::_,.d _ _,_,_,_,_,h|s::_,.ad _ _,_,_,_,_,h|s::_,.ag _,_,_,_,_,h|s::_,.tup _,_,_,_,_,h|s::_,.gd _ _ _ _,_,_,_,_,h|s::_,.fn _ _,_,_,_,_,h|s::_,.ifc _ _,_,_,_,_,h|s::_,.bx _,_,_,_,_,h=>by cases s<;>simp[gj]at h
def val(agg:bC)(vs:aJ):Value:=bif agg then .agg vs.toArray else vs.headD undef
theorem Er{v:V}(r:ac β M Im w v vs)(h:agg=false->vs.length=1):aj β M Im w (lF agg v) (val agg vs):=by
 cases agg with
 |true=>simp only[lF,val,aD,aj];exact⟨vs,rfl,r⟩
 |false=>obtain⟨u,rfl⟩:=Cm.1 (h rfl);simp only[lF,val,bp,yI];exact ky r
theorem bn{t:T}{x:t.den}:aj β M Im w (.d t x) v<->ah Im w t x [v]:=by simp only[aj,ac]
theorem dZ{k:gT}{n:Int}:ah Im w (.int k) n [v]<->v=.int k n/\inK k n:=by simp[ah]
theorem gh{b:bC}:ah Im w .bool b [v]<->v=.bool b:=by simp[ah]
theorem qW:ah Im w .str s [v]<->v=.string s/\s.size<=nb:=by simp[ah]
theorem Bn(k:gT)(n:Int)(hv:ab (ar k n).1):aj β M Im w (ar k n).2 (.int k (k.wrap n)):=by
 cases k
 case i64=>simp only[ar,e9,eY,aA]at hv;simp only[ar,bn,dZ,tj hv,aL];exact hv
 all_goals
  simp only[ar,bn,dZ,aL];exact xn _ _
theorem abb(op:lO)(k:gT)(a b:Int)(t:bW)(x y:eO)(hv:ab (mo op k a b).1):
  ∃r,(do eqGuard op t x y (.int k a) (.int k b);binOp op t (.int k a) (.int k b):Sem Value).run P w=.ok r w/\aj β M Im w (mo op k a b).2 r:=by
 cases op
 case add=>exact⟨.int k (k.wrap (a+b)),by simp[eqGuard,binOp,Op.intArith],Bn k _ hv⟩
 case sub=>exact⟨.int k (k.wrap (a-b)),by simp[eqGuard,binOp,Op.intArith],Bn k _ hv⟩
 case mul=>exact⟨.int k (k.wrap (a*b)),by simp[eqGuard,binOp,Op.intArith],Bn k _ hv⟩
 case quo=>simp only[mo,e9]at hv⊢;exact⟨.int k (k.wrap (a.tdiv b)),by simp[eqGuard,binOp,Op.intDiv,hv.1],Bn k _ hv.2⟩
 case rem=>simp only[mo,e9]at hv⊢;exact⟨.int k (a.tmod b),by simp[eqGuard,binOp,Op.intDiv,hv.1],by simp only[bn,dZ,aL];exact hv.2.1⟩
 case eql=>exact⟨.bool (a==b),by simp[eqGuard,binOp,Op.intCmp],by simp only[mo,bw,bn,gh]⟩
 case neq=>exact⟨.bool (a != b),by simp[eqGuard,binOp,Op.intCmp],by simp only[mo,bw,bn,gh]⟩
 case lss=>exact⟨.bool (decide (a<b)),by simp[eqGuard,binOp,Op.intCmp],by simp only[mo,bw,bn,gh]⟩
 case leq=>exact⟨.bool (decide (a<=b)),by simp[eqGuard,binOp,Op.intCmp],by simp only[mo,bw,bn,gh]⟩
 case gtr=>exact⟨.bool (decide (b<a)),by simp[eqGuard,binOp,Op.intCmp],by simp only[mo,bw,bn,gh]⟩
 case geq=>exact⟨.bool (decide (b<=a)),by simp[eqGuard,binOp,Op.intCmp],by simp only[mo,bw,bn,gh]⟩
 case and=>exact⟨.int k (tW k a b),by simp[eqGuard,binOp,Op.intBits,tW],by simp only[mo,bw,bn,dZ,aL];exact xn _ _⟩
 case shr=>
  simp only[mo,e9]at hv⊢;refine⟨.int k (pW k a b),?_,by simp only[bn,dZ,aL];exact hv.2.1⟩;have h0:¬b<0:=aa
  simp[eqGuard,binOp,Op.shift,pW,h0]
 all_goals exact hv.1.elim
theorem Y'(op:lO)(a b:ByteArray)(t:bW)(x y:eO)(hv:ab (pQ op a b).1):
  ∃r,(do eqGuard op t x y (.string a) (.string b);binOp op t (.string a) (.string b):Sem Value).run P w=.ok r w/\aj β M Im w (pQ op a b).2 r:=by
 cases op
 case add=>
  simp only[pQ,e9,eY,aA]at hv⊢;have h1:¬(((a.size+b.size:Nat):Int)>IntKind.i64.max):=by simp only[nb]at hv;simp[IntKind.max,IntKind.signed,IntKind.bits];omega
  refine⟨.string (a++b),?_,?_⟩
  ·have h2:¬(9223372036854775807<(a.size:Int)+b.size):=by simp only[nb]at hv;omega
   simp[eqGuard,binOp,Op.stringOp,IntKind.max,IntKind.signed,IntKind.bits,h2]
  ·simp only[bn,qW,aL];rw[lT];exact hv
 case eql=>exact⟨.bool (a.toList==b.toList),by simp[eqGuard,binOp,Op.stringOp],by simp only[pQ,bw,bn,gh]⟩
 case neq=>exact⟨.bool (!(a.toList==b.toList)),by simp[eqGuard,binOp,Op.stringOp],by simp only[pQ,bw,bn,gh]⟩
 case lss=>exact⟨.bool (Op.bytesLess a.toList b.toList),by simp[eqGuard,binOp,Op.stringOp],by simp only[pQ,bw,bn,gh]⟩
 case leq=>exact⟨.bool (Op.bytesLess a.toList b.toList||a.toList==b.toList),by simp[eqGuard,binOp,Op.stringOp],by simp only[pQ,bw,bn,gh]⟩
 case gtr=>exact⟨.bool (!(Op.bytesLess a.toList b.toList||a.toList==b.toList)),by simp[eqGuard,binOp,Op.stringOp],by simp only[pQ,bw,bn,gh]⟩
 case geq=>exact⟨.bool (!(Op.bytesLess a.toList b.toList)),by simp[eqGuard,binOp,Op.stringOp],by simp only[pQ,bw,bn,gh]⟩
 all_goals exact hv.1.elim
theorem aan(hB:TabOk P B)(op:lO)(t:bW)(x y:eO)(ax ay:V)(u v:bm)(h:aj β M Im w ax u)(h':aj β M Im w ay v)(hv:ab (Fa (B.τ t) op ax ay).1):
  ∃r,(do eqGuard op t x y u v;binOp op t u v:Sem Value).run P w=.ok r w/\aj β M Im w (Fa (B.τ t) op ax ay).2 r:=by
 unfold Fa at hv⊢;split at hv
 ·rename_i k a k' b;simp only[bn,dZ]at h h';obtain⟨rfl,_⟩:=h;obtain⟨rfl,_⟩:=h';have hk:=eW hv;simp only[hk,aD]at hv⊢;obtain rfl:=oi hk;exact abb op _ _ _ t x y hv
 ·rename_i a b;simp only[bn,gh]at h h';subst h;subst h';have hk:=eW hv;simp only[hk,aD]at hv⊢;simp only[bQ,bT,bM,ao]at hk;rw[←hB.τ t hk.1]at hk;obtain⟨i,d,hi,hd⟩:=dQ hk.1;rw[dB hi hd]at hk;have h2:=hk.2;simp only[eL]at h2;cases d<;>simp at h2;cases op
  case eql=>exact⟨.bool (a==b),by simp[eqGuard,run_eql_bool w t a b hd],by simp only[bw,bn,gh]⟩
  case neq=>exact⟨.bool (a != b),by simp[eqGuard,binOp,run_equal_bool w t a b hd];cases a<;>cases b<;>rfl,by simp only[bw,bn,gh]⟩
  all_goals exact hv.1.elim
 ·simp only[bn,qW]at h h';obtain⟨rfl,_⟩:=h;obtain⟨rfl,_⟩:=h';exact Y' op _ _ t x y hv
 ·exact hv.1.elim
theorem Rz(g:bC)(ts:Array TypeId)(t:bW)(ax ay:V)(u v:bm)(h:aj β M Im w ax u)(h':aj β M Im w ay v)(hv:ab (BG g ax ay).1):
  ∃r,(bif g then Builtin.max_ ts t #[u,v]else Builtin.min_ ts t #[u,v]).run P w=.ok r w/\aj β M Im w (BG g ax ay).2 r:=by
 unfold BG at hv⊢;split at hv
 ·rename_i k a k' b;simp only[bn,dZ]at h h';obtain⟨rfl,ha⟩:=h;obtain⟨rfl,hb⟩:=h';have hk:=eW hv;simp only[hk,aD]at hv⊢;obtain rfl:=oi hk
  cases g with
  |true=>refine⟨.int k (mxR a b),?_,by simp only[bw,bn,dZ,aD];refine⟨trivial,?_⟩;unfold mxR;split<;>assumption⟩;simp only[aD,mxR];exact run_max_int2 _ _ _ _ _ _ _
  |false=>refine⟨.int k (mnR a b),?_,by simp only[bw,bn,dZ,bp];refine⟨trivial,?_⟩;unfold mnR;split<;>assumption⟩;simp only[bp,mnR];exact run_min_int2 _ _ _ _ _ _ _
 ·exact hv.1.elim
theorem eqF(w:aK)(P:d4)(d:Nat):∀(n:Nat)(a b:V)(vs vs':aJ)(r:bC)(pre pre':aJ)(fs:List Field),nk n a b=some r->ac β M Im w0 a vs->ac β M Im w0 b vs'->
  oA P fs pre.length=true->fs.length=n->pre'.length=pre.length->(Op.eqFields (d+1) (pre++vs).toArray (pre'++vs').toArray fs).run P w=.ok r w:=by
 have one : ∀ (k k' : IntKind) (x y : Int) (vs vs' pre pre' : List Value) (f : Field), (bif aP [neg (f.name == "_"), Nat.beq f.offset pre.length, pG (P.underlying f.type)] then True else False) -> pre'.length = pre.length ->
   f.name ≠ "_" /\ (part f.type (pre ++ .int k x :: vs).toArray f.offset).run P w = .ok (.int k x) w /\ (part f.type (pre' ++ .int k' y :: vs').toArray f.offset).run P w = .ok (.int k' y) w /\ (Op.equalIn (d + 1) f.type (.int k x) (.int k y)).run P w = .ok (x == y) w := by
  intro k k' x y vs vs' pre pre' f h hl
  cases hb : aP [neg (f.name == "_"), Nat.beq f.offset pre.length, pG (P.underlying f.type)] with
  |false=>rw[hb]at h;exact h.elim
  |true=>
   simp only[bQ,bT,bM,ao,gr,fy]at hb;obtain⟨h1,h2,h3⟩:=hb;have h2:=dh h2
   cases hu:P.underlying f.type with
   |none=>rw[hu]at h3;cases h3
   |some u=>
    rw[hu]at h3;cases u<;>simp only[pG,eE]at h3;have hp:P.plainKey f.type=true:=by simp[Program.plainKey,hu]
    exact⟨by simpa using h1,run_part_plain w hp (by rw[h2];simp),run_part_plain w hp (by rw[h2,←hl];simp),run_equalIn_int w d f.type k _ x y hu⟩
 intro n
 induction n with
 |zero=>intro a b vs vs' r pre pre' fs h;cases a<;>cases b<;>simp[nk]at h
 |succ n ih=>
  intro a b vs vs' r pre pre' fs h ha hb hf hl hp;obtain⟨f,fs,rfl⟩:∃f r,fs=f::r:=by cases fs with|nil=>cases hl|cons f r=>exact⟨f,r,rfl⟩
  simp only[oA]at hf
  have hc : (bif aP [neg (f.name == "_"), Nat.beq f.offset pre.length, pG (P.underlying f.type)] then True else False) /\ oA P fs (Nat.succ pre.length) = true := by
   cases hb : aP [neg (f.name == "_"), Nat.beq f.offset pre.length, pG (P.underlying f.type)] with
   |false=>rw[hb]at hf;cases hf
   |true=>rw[hb]at hf;exact⟨trivial,hf⟩
  cases n with
  |zero=>
   unfold nk at h;split at h
   ·rename_i k x k' y he;simp only[ac,ah]at ha hb;obtain⟨rfl,_⟩:=ha;obtain⟨rfl,_⟩:=hb
    cases hk:j9 k k' with
    |false=>rw[hk]at h;cases h
    |true=>
     rw[hk]at h;cases h;have:=oi hk;subst this;have hfs:fs=[]:=by cases fs with|nil=>rfl|cons _ _=>simp at hl
     subst hfs;obtain⟨o1,o2,o3,o4⟩:=one k k x y [] [] pre pre' f hc.1 hp;simp only[Op.eqFields,am o1,gU,o2,jn,o3,o4,ne_eq,not_false_eq_true,eX];cases x==y<;>simp
   ·rename_i n' _ _ _ _ _ _ he;omega
   ·cases h
  |succ n=>
   unfold nk at h;split at h
   ·rename_i he;omega
   ·rename_i n' k x a' k' y b' he;have:n'=n:=aa
    subst this
    cases hr:nk (n'+1) a' b' with
    |none=>rw[hr]at h;cases h
    |some r'=>
     rw[hr]at h
     cases hk:j9 k k' with
     |false=>rw[hk]at h;cases h
     |true=>
      rw[hk]at h;cases h;have:=oi hk;subst this;simp only[ac,ah]at ha hb;obtain⟨va,va',rfl,⟨rfl,_⟩,ha'⟩:=ha;obtain⟨vb,vb',rfl,⟨rfl,_⟩,hb'⟩:=hb;obtain⟨o1,o2,o3,o4⟩:=one k k x y va' vb' pre pre' f hc.1 hp;have hi:=ih a' b' va' vb' r' (pre++[.int k x]) (pre'++[.int k y]) fs hr ha' hb' (by simpa using hc.2) (by simpa using hl) (by simpa using hp);simp only[eP,List.singleton_append]at hi⊢;simp only[Op.eqFields,am o1,gU,o2,jn,o3,o4,ne_eq,not_false_eq_true,eX];cases x==y
      ·simp
      ·simp;exact hi
   ·cases h
def v6(e : TypeId)(i : Nat): Field := { (default : Field) with name := "a", type := e, offset := i }
theorem Ok(w:aK)(P:d4)(d:Nat)(e:bW)(xs ys:lP):∀is:List Nat,(Op.eqItems d e 1 xs ys is).run P w=(Op.eqFields d xs ys (is.map (v6 e))).run P w
 |[]=>rfl
 |i::is=>by
  have h : (v6 e i).name ≠ "_" := by simp [v6]
  simp only[gO,Op.eqItems,Op.eqFields,am h,yJ];simp only[v6,gU];congr 1;funext x w1;congr 1;funext y w2;congr 1;funext r w3;cases r
  ·rfl
  ·exact Ok w3 P d e xs ys is
theorem r_(hB:TabOk P B)(op:lO)(t:bW)(x y:eO)(ax ay:V)(u v:bm)(h:aj β M Im w ax u)(h':aj β M Im w ay v)(hv:ab (EI B t op ax ay).1):
  ∃r,(do eqGuard op t x y u v;binOp op t u v:Sem Value).run P w=.ok r w/\aj β M Im w (EI B t op ax ay).2 r:=by
 unfold EI at hv⊢;split at hv
 ·rename_i a b;simp only[aj]at h h';obtain⟨vs,rfl,ha⟩:=h;obtain⟨vs',rfl,hb⟩:=h';unfold U0 at hv⊢
  have key:∀r,nk (B.q t) a b=some r->(eqGuard op t x y (.agg vs.toArray) (.agg vs'.toArray)).run P w=.ok () w/\(Op.equalIn 10000 t (.agg vs.toArray) (.agg vs'.toArray)).run P w=.ok r w:=by
   intro r hr
   have hz:isZ (B.q t)=false:=by
    cases hq:B.q t with
    |zero=>rw[hq]at hr;cases a<;>cases b<;>simp[nk]at hr
    |succ n=>rfl
   have hq:=hB.q t hz;unfold yx at hq;split at hq
   ·rename_i fs hu
    cases hall:aP [neg (P.stoodInHeld t),neg (P.eqGuardType P.depth t),oA P (toL fs) 0]with
    |false=>rw[hall]at hq;simp only[bp]at hq;rw[←hq]at hz;cases hz
    |true=>
     rw[hall]at hq;simp only[aD]at hq;simp only[bQ,bT,bM,ao,gr,fy]at hall;obtain⟨h1,h2,h3⟩:=hall;have hfs:P.fieldsOf t=fs:=by simp[Program.fieldsOf,hu]
     refine⟨run_eqGuard_agg w op t x y _ _ h2,?_⟩;rw[run_equalIn_struct w 9999 t _ _ (by rw[hfs];exact hu) h1,hfs];have htl:toL fs=fs.toList:=by cases fs;rfl
     rw[htl]at h3 hq;have:=eqF w P (w0:=w) 9998 (B.q t) a b vs vs' r [] [] fs.toList hr ha hb h3 (by rw[←hq,AO]) rfl;simpa using this
   ·rename_i n e hu
    cases hall:aP [neg (P.eqGuardType P.depth t),pG (P.underlying e),Nat.beq (P.cellsOf e) 1]with
    |false=>rw[hall]at hq;simp only[bp]at hq;rw[←hq]at hz;cases hz
    |true=>
     rw[hall]at hq;simp only[aD]at hq;simp only[bQ,bT,bM,ao,gr,fy]at hall;obtain⟨h1,h2,h3⟩:=hall;have h3:=dh h3
     have hie:∃i,P.info? e=some i:=by
      unfold Program.cellsOf at h3
      cases h:P.info? e with
      |none=>simp[h]at h3
      |some i=>exact⟨i,rfl⟩
     obtain⟨ie,hie⟩:=hie;refine⟨run_eqGuard_agg w op t x y _ _ h1,?_⟩;rw[run_equalIn_array w 9999 _ _ hu hie,h3,Ok]
     have hin:∀(m i:Nat),oA P ((List.range' i m).map (v6 e)) i=true:=λm=>by
      induction m with
      |zero=>intro i;rfl
      |succ m ih=>
       intro i;have h4:∀i:Nat,Nat.beq i i=true:=fun i=>Nat.beq_refl i;have h5 : ((("a" : String) == "_") = false) := by decide
       simp only[List.range'_succ,gO,oA,v6,h4,h2,h5,gr,Bool.not_false,bQ,bT,nN,bM,aD];exact ih (i+1)
     rw[List.range_eq_range'];have:=eqF w P (w0:=w) 9998 (B.q t) a b vs vs' r [] [] ((List.range' 0 n).map (v6 e)) hr ha hb (hin n 0) (by simp[hq]) rfl;simpa using this
   ·rw[←hq]at hz;cases hz
  split at hv
  ·rename_i r hr;obtain⟨k1,k2⟩:=key r hr;exact⟨.bool r,by simp only[gU,k1,jn,run_eql_struct,k2],by simp only[bw,bn,gh]⟩
  ·rename_i r hr;obtain⟨k1,k2⟩:=key r hr;exact⟨.bool (!r),by simp only[gU,k1,jn,run_neq_struct,k2],by simp only[bw,bn,gh]⟩
  ·exact hv.1.elim
 ·exact aan hB op t x y ax ay u v h h' hv
theorem k_(a:Act):(y:eO)->KI y=true->a.eval y=.slice none 0 0
 |.const (.slice none n m),h=>by simp only[KI,aU,ao]at h;have h1:=dh h.1;have h2:=dh h.2;subst h1;subst h2;rfl
theorem h_(a:Act):(y:eO)->SY y=true->y=.const .nilIface/\a.eval y=.nilIface
 |.const .nilIface,_=>⟨rfl,rfl⟩
theorem TH{y:eO}{e:T}{l:Option (List e.den)}{op:lO}(hop:op=.eql\/op=.neq)(hok:(ty P t).ok=true)(hel:neg (isN (ty P t).el)=true)(h:ah Im w (.ns (.sl e)) l [u])(hl:vF l=true):
  (do eqGuard op t x y u (.slice none 0 0);binOp op t u (.slice none 0 0):Sem Value).run P w=.ok (.bool (bif op==.eql then l.isNone else l.isSome)) w:=by
 obtain⟨inf,c,hi,hc⟩:=dQ hok;rw[dB hi hc]at hel;simp only[eL]at hel;cases c<;>simp only[isN,gr,wo,eE]at hel
 have hu:(l=none/\u=.slice none 0 0)\/∃y b n c,l=some y/\u=.slice (some b) n c:=by
  simp only[ah,bH,aA]at h;rcases h with⟨rfl,rfl⟩|⟨y,a,n,c,rfl,rfl,oa,cap,⟨rfl,rfl,rfl⟩,_,hn,_⟩
  ·exact .inl ⟨rfl,rfl⟩
  ·cases a with
   |some b=>exact .inr ⟨y,b,_,_,rfl,rfl⟩
   |none=>
    exfalso;have:=(hn rfl).1
    cases y with
    |nil=>simp[vF]at hl
    |cons _ _=>simp at this
 have key:(Op.equal t u (.slice none 0 0)).run P w=.ok l.isNone w:=by show (Op.equalIn (9999+1) t u (.slice none 0 0)).run P w=.ok l.isNone w;generalize 9999=d;rcases hu with⟨rfl,rfl⟩|⟨y,b,n,c,rfl,rfl⟩<;>simp[Op.equalIn,d8 hc]
 have hu':∃b n c,u=.slice b n c:=by
  rcases hu with⟨_,rfl⟩|⟨y,b,n,c,_,rfl⟩
  ·exact⟨_,_,_,rfl⟩
  ·exact⟨_,_,_,rfl⟩
 obtain⟨b,n,c,rfl⟩:=hu';generalize hz:l.isNone=z at key;have hz':l.isSome=!z:=by rw[←hz];cases l<;>rfl
 rw[hz'];rcases hop with rfl|rfl
 ·simp[eqGuard,binOp,key]
 ·simp[eqGuard,binOp,key];cases z<;>rfl
theorem Sz{i:bW}{b:bC}{op:lO}(hop:op=.eql\/op=.neq)(hok:(ty P t).ok=true)(hel:(ty P t).ifc=true)(h:ah Im w (.er i) b [u]):
  (do eqGuard op t x (.const .nilIface) u .nilIface;binOp op t u .nilIface:Sem Value).run P w=.ok (.bool (bif op==.eql then !b else b)) w:=by
 obtain⟨inf,c,hi,hc⟩:=dQ hok;rw[dB hi hc]at hel;simp only[eL]at hel;cases c<;>simp only[eE]at hel;have hu:(b=false/\u=.nilIface)\/∃s,b=true/\u=.iface i (.agg #[.string s]):=by simpa only [ah,bH,aA]using h
 have key:(Op.equal t u .nilIface).run P w=.ok (!b) w:=by show (Op.equalIn (9999+1) t u .nilIface).run P w=.ok (!b) w;generalize 9999=d;rcases hu with⟨rfl,rfl⟩|⟨s,rfl,rfl⟩<;>simp[Op.equalIn,d8 hc]
 have hg:(eqGuard op t x (.const .nilIface) u .nilIface).run P w=.ok () w:=by rcases hu with⟨rfl,rfl⟩|⟨s,rfl,rfl⟩<;>rcases hop with rfl|rfl<;>simp[eqGuard]
 rcases hop with rfl|rfl
 ·simp only[gU,hg,jn];rcases hu with⟨rfl,rfl⟩|⟨s,rfl,rfl⟩<;>simp[binOp,key]<;>rfl
 ·simp only[gU,hg,jn];rcases hu with⟨rfl,rfl⟩|⟨s,rfl,rfl⟩<;>simp[binOp,key]<;>rfl
theorem f_(hB:TabOk P B)(op:lO)(t:bW)(x y:eO)(z zi:bC)(ax ay:V)(u v:bm)(hz:z=true->v=.slice none 0 0)(hzi:zi=true->y=.const .nilIface/\v=.nilIface)(h:aj β M Im w ax u)(h':aj β M Im w ay v)(hv:ab (EO B t op z zi ax ay).1):
  ∃r,(do eqGuard op t x y u v;binOp op t u v:Sem Value).run P w=.ok r w/\aj β M Im w (EO B t op z zi ax ay).2 r:=by
 unfold EO at hv⊢;split at hv
 ·have hk:=eW hv;simp only[hk,aD]at hv⊢;simp only[bQ,bT,bM,ao]at hk;rw[←hB.τ t hk.1]at hk;rw[bn]at h;rw[hz rfl];exact⟨_,TH (.inl rfl) hk.1 hk.2 h hv.1,by simp only[bn,ah];rfl⟩
 ·have hk:=eW hv;simp only[hk,aD]at hv⊢;simp only[bQ,bT,bM,ao]at hk;rw[←hB.τ t hk.1]at hk;rw[bn]at h;rw[hz rfl];exact⟨_,TH (.inr rfl) hk.1 hk.2 h hv.1,by simp only[bn,ah];rfl⟩
 ·have hk:=eW hv;simp only[hk,aD]at hv⊢;simp only[bQ,bT,bM,ao]at hk;obtain⟨k1,k2,k3⟩:=hk;have e:=hB.τ t k2;rw[←e]at k2 k3;rw[bn]at h;obtain⟨rfl,rfl⟩:=hzi k1;exact⟨_,Sz (.inl rfl) k2 k3 h,by simp only[bw,bn,ah];rfl⟩
 ·have hk:=eW hv;simp only[hk,aD]at hv⊢;simp only[bQ,bT,bM,ao]at hk;obtain⟨k1,k2,k3⟩:=hk;have e:=hB.τ t k2;rw[←e]at k2 k3;rw[bn]at h;obtain⟨rfl,rfl⟩:=hzi k1;exact⟨_,Sz (.inr rfl) k2 k3 h,by simp only[bw,bn,ah];rfl⟩
 ·exact r_ hB op t x y ax ay u v h h' hv
theorem acl(op:UnOp)(x:V)(u:bm)(h:aj β M Im w x u)(hv:ab (FE op x).1):∃r,(Op.unary op u).run P w=.ok r w/\aj β M Im w (FE op x).2 r:=by
 unfold FE at hv⊢;split at hv
 ·simp only[bn,gh]at h;subst h;exact⟨_,by simp[Op.unary];rfl,by simp only[bw,bn,gh]⟩
 ·simp only[bn,dZ]at h;obtain⟨rfl,_⟩:=h;exact⟨_,by simp[Op.unary,Op.intArith];rfl,by simpa using Bn _ _ hv⟩
 ·exact hv.1.elim
theorem ZV(hB:TabOk P B)(s d:bW)(x:V)(u:bm)(h:aj β M Im w x u)(hv:ab (EJ (B.τ s) (B.τ d) x).1):∃r,(convert s d u).run P w=.ok r w/\aj β M Im w (EJ (B.τ s) (B.τ d) x).2 r:=by
 unfold EJ at hv⊢;split at hv
 ·rename_i k n k1 k' h1 h2;have hk:=eW hv;simp only[hk,aD]at hv⊢;simp only[bQ,bT,bM,ao]at hk;obtain⟨o1,o2,o3⟩:=hk;rw[←hB.τ s o1]at h1 o1;rw[←hB.τ d o2]at h2 o2;obtain rfl:=oi o3;obtain⟨i,c,hi,hc⟩:=dQ o1;obtain⟨i',c',hi',hc'⟩:=dQ o2;rw[dB hi hc]at h1;rw[dB hi' hc']at h2;simp only[eL]at h1 h2;cases c<;>simp at h1;cases c'<;>simp at h2;subst h1;subst h2;simp only[bn,dZ]at h;obtain⟨rfl,hk⟩:=h;rename_i kd;refine⟨.int kd (kd.wrap n),by simp[convert,d8 hc,d8 hc',Conv.intToInt],?_⟩
  cases hkk:j9 _ kd with
  |true=>obtain rfl:=oi hkk;simp only[aD,bw,bn,dZ];exact⟨by rw[tj hk],hk⟩
  |false=>simp only[bp,bw,bn,dZ,aL];exact xn _ _
 ·exact hv.1.elim
theorem T0:(x:V)->(vs:aJ)->(i:Nat)->(y:V)->cH β M Im w x vs->nth x i=some y->∃u,vs[i]? = some u/\aj β M Im w y u
 |.p a b,vs,0,y,r,h=>by simp only[cH]at r;simp only[nth,aG]at h;subst h;obtain⟨u,us,rfl,h1,_⟩:=r;exact⟨u,rfl,h1⟩
 |.p a b,vs,i+1,y,r,h=>by simp only[cH]at r;simp only[nth]at h;obtain⟨u,us,rfl,_,h2⟩:=r;obtain⟨v,h3,h4⟩:=T0 b us i y h2 h;exact⟨v,by simpa using h3,h4⟩
 |.any,_,_,_,_,h|.nl,_,_,_,_,h|.np,_,_,_,_,h|.u,_,_,_,_,h|.d _ _,_,_,_,_,h|.ref _ _,_,_,_,_,h|.ad _ _,_,_,_,_,h|.ag _,_,_,_,_,h|.tup _,_,_,_,_,h|.gd _ _ _ _,_,_,_,_,h|.fn _ _,_,_,_,_,h|.ifc _ _,_,_,_,_,h|.bx _,_,_,_,_,h=>by simp[nth]at h
theorem U_(x:V)(i:Nat)(u:bm)(h:aj β M Im w x u)(hv:ab (yj x i).1):∃r,(Instr.extract u i).run P w=.ok r w/\aj β M Im w (yj x i).2 r:=by
 unfold yj at hv⊢;split at hv
 ·rename_i v;split at hv
  ·rename_i y hy;simp only[aj]at h;obtain⟨vs,rfl,hl⟩:=h;obtain⟨u,hu1,hu2⟩:=T0 v vs i y hl hy;exact⟨u,by simp[Instr.extract,hu1],by simp only[hy,bw];exact hu2⟩
  ·exact hv.1.elim
 ·exact hv.1.elim
theorem abq(x:V)(u:bm)(h:aj p.β M (Imm F p M w) w x u)(hv:ab (Fc x).1):(∃a,u=.pointer (some a))/\aj p.β M (Imm F p M w) w (Fc x).2 u:=by
 unfold Fc at hv⊢;split at hv
 ·refine⟨?_,h⟩;simp only[bn,ah,bH,aA]at h;obtain⟨b,o,us,rfl,_⟩:=h;exact⟨_,rfl⟩
 ·refine⟨?_,h⟩;simp only[aj,ac,bH,aA,exists_eq_left']at h;obtain⟨_,_,_,_,_,_,_,_,_,rfl⟩:=h;exact⟨_,rfl⟩
 ·refine⟨?_,h⟩;simp only[aj,ac,bH,aA]at h;obtain⟨b,o,us,rfl,_⟩:=h;exact⟨_,rfl⟩
 ·exact hv.1.elim
theorem Zf{i:Nat}(b o:Nat)(hok:(ty P t).ok=true)(hf:(ty P t).fld[i]? = some (off,ft,fsz))(hz:fsz≠0):
  (Instr.fieldAt t (.pointer (some ⟨b,o,none⟩)) i).run P w=.ok (.pointer (some ⟨b,o+off,none⟩)) w:=by
 obtain⟨inf,u,hi,hu⟩:=dQ hok;rw[dB hi hu]at hf;simp only[eL]at hf;cases u<;>simp at hf
 case struct fs=>
  obtain⟨f,hf,rfl,rfl,rfl⟩:=hf
  have hc:∃inf',P.info? f.type=some inf'/\inf'.size≠0:=by
   unfold Program.cellsOf at hz
   cases h:P.info? f.type with
   |none=>simp[h]at hz
   |some inf'=>exact⟨inf',rfl,by simpa[h]using hz⟩
  obtain⟨inf',h1,h2⟩:=hc;have hadd:(⟨b,o,none⟩:Addr).add f.offset=⟨b,o+f.offset,none⟩:=by unfold Addr.add;split<;>simp_all
  simp[Instr.fieldAt,d8 hu,hf,Instr.sureAddr,fieldPlace,sizeOf,typeInfo,h1,h2,hadd]
theorem Sb(hp:Hp F p M w)(x:V)(π:bA)(off:Nat)(u:bm)(h:aj p.β M (Imm F p M w) w x u)(hv:ab (rG M x π off).1):
  ∃b o,u=.pointer (some ⟨b,o,none⟩)/\aj p.β M (Imm F p M w) w (rG M x π off).2 (.pointer (some ⟨b,o+off,none⟩)):=by
 unfold rG at hv⊢;split at hv
 ·rename_i t y;split at hv
  ·rename_i n q hn hq;have hk:=eW hv;simp only[hk,aD]at hv⊢;simp only[eZ,cR]at hk;subst hk;simp only[bn,ah,bH,aA]at h;obtain⟨b,o,us,rfl,h1,h2,h3⟩:=h;obtain⟨va,us',vb,rfl,k2,k3⟩:=Kv π t y n q us hn hq h3;refine⟨b,o,rfl,?_⟩;simp only[hn,hq,eZ,wq,aD,bw,bn,ah];exact⟨b,o+n,us',rfl,h1,by rw[←k2];exact h2.sub,k3⟩
  ·exact hv.1.elim
 ·rename_i k ρ;split at hv
  ·rename_i q hq;split at hv
   ·rename_i n hn;have hk:=eW hv;simp only[hk,aD]at hv⊢;simp only[eZ,cR]at hk;subst hk;simp only[aj,ac,bH,aA,exists_eq_left']at h;obtain⟨b,o,rfl,h1⟩:=h.sub hp hq hn;refine⟨b,o,rfl,?_⟩;simp only[hq,hn,eZ,wq,aD,bw,aj,ac];exact⟨_,rfl,h1⟩
   ·exact hv.1.elim
  ·exact hv.1.elim
 ·rename_i v;split at hv
  ·rename_i q hq;obtain⟨n,v'⟩:=q;have hk:=eW hv;simp only[hk,aD]at hv⊢;simp only[eZ,cR]at hk;subst hk;simp only[aj,ac,bH,aA]at h;obtain⟨b,o,us,rfl,h1,h2,h3⟩:=h;obtain⟨va,us',vb,rfl,k2,k3⟩:=Ew hp π v us n v' h3 hq;refine⟨b,o,rfl,?_⟩;simp only[hq,eZ,wq,aD,bw,aj,ac,bH,aA];exact⟨b,o+n,us',rfl,h1,by rw[←k2];exact h2.sub,k3⟩
  ·exact hv.1.elim
 ·exact hv.1.elim
theorem a_(hB:TabOk P B)(hp:Hp F p M w){i:Nat}(x:V)(u:bm)(h:aj p.β M (Imm F p M w) w x u)(hv:ab (vn (B.τ t) M x i).1):
  ∃r,(Instr.fieldAt t u i).run P w=.ok r w/\aj p.β M (Imm F p M w) w (vn (B.τ t) M x i).2 r:=by
 unfold vn at hv⊢;split at hv
 ·rename_i off ft fsz hf;have hk:=eW hv;simp only[hk,aD]at hv⊢;simp only[bQ,bT,bM,ao]at hk;obtain⟨b,o,rfl,h1⟩:=Sb hp x _ off u h hv;have e:=hB.τ t hk.1;refine⟨_,Zf (t:=t) (i:=i) (off:=off) (ft:=ft) (fsz:=fsz) b o (by rw[e];exact hk.1) (by rw[e,←ti];exact hf) ?_,?_⟩
  ·rintro rfl;simp at hk
  ·simpa only [hf,bQ,bT,bM,hk.1,hk.2,nN,aD]using h1
 ·exact hv.1.elim
theorem aay(hB:TabOk P B)(hp:Hp F p M w){i:Nat}(x:V)(u:bm)(h:aj p.β M (Imm F p M w) w x u)(hv:ab (vu B (B.τ t) M x i).1):
  ∃r,(Instr.field t u i).run P w=.ok r w/\aj p.β M (Imm F p M w) w (vu B (B.τ t) M x i).2 r:=by
 unfold vu at hv⊢;split at hv
 ·rename_i off ft fsz v hf;split at hv
  ·rename_i n y hs;have hk:=eW hv;simp only[hk,aD]at hv⊢;simp only[bQ,bT,bM,ao,gD,eZ,cR,fR]at hk;obtain⟨o1,o2,rfl,o4,o5⟩:=hk;simp only[aj]at h;obtain⟨vs,rfl,hr⟩:=h;obtain⟨va,us,vb,rfl,k2,k3⟩:=Ew hp _ v vs n y hr hs;have hlen:=ng hp y us _ k3 (lW o4);have e:=hB.τ t o1;have e':=hB.τ ft o2;rw[←e,ti]at hf;rw[←e]at o1;obtain⟨inf,d,hi,hu⟩:=dQ o1;rw[dB hi hu]at hf;simp only[eL]at hf;cases d<;>simp at hf
   case struct fs=>
    obtain⟨f,hf,rfl,rfl,rfl⟩:=hf;rw[←e']at o2 o5 hlen⊢;obtain⟨inf',d',hi',hu'⟩:=dQ o2;have hx:((va++us++vb).drop f.offset).take us.length=us:=by rw[eP,←k2,List.drop_left,Cj]
    refine⟨val (ty P f.type).agg us,?_,?_⟩
    ·cases ha:(ty P f.type).agg with
     |true=>simp only[val,aD];rw[dB hi' hu']at ha hlen;simp only[eL]at ha hlen;rw[hlen]at hx;cases d'<;>simp at ha<;>simp[Instr.field,d8 hu,hf,asAgg,part,isAgg,d8 hu',sizeOf,typeInfo,hi',List.extract_eq_take_drop]<;>simpa using hx
     |false=>
      simp only[val,bp];rw[ha]at o5
      have h1:us.length=1:=by
       rw[hlen];rcases o5 with h|h
       ·cases h
       ·exact h
      obtain⟨u0,rfl⟩:=Cm.1 h1;rw[dB hi' hu']at ha;simp only[eL]at ha;have hget:(va++[u0]++vb)[f.offset]? = some u0:=by rw[eP,←k2,jD (aZ _)];simp
      have hget':(va++u0::vb)[f.offset]? = some u0:=by simpa using hget
      cases d'<;>simp at ha<;>simp[Instr.field,d8 hu,hf,asAgg,part,isAgg,d8 hu',hget']
    ·exact Er k3 (λha=>by
      rw[hlen];rcases o5 with h|h
      ·rw[ha]at h;cases h
      ·exact h)
  ·exact hv.1.elim
 ·exact hv.1.elim
theorem Ou(k:gT)(n:Int)(a:Addr)(len cap:Nat)(hok:(ty P t).ok=true)(he:(ty P t).el=some e)(heok:(ty P e).ok=true)(ha:a.spot=none)(h0:0<=n)(h1:n<len):
  (Instr.indexAt t (.slice (some a) len cap) (.int k n)).run P w=.ok (.pointer (some ⟨a.block,a.off+n.toNat*(ty P e).size,none⟩)) w:=by
 obtain⟨inf,u,hi,hu⟩:=dQ hok;obtain⟨inf',u',hi',hu'⟩:=dQ heok;rw[dB hi hu]at he;rw[dB hi' hu'];simp only[eL]at he⊢;cases u<;>simp at he;subst he;have hadd:a.add (n.toNat*inf'.size)=⟨a.block,a.off+n.toNat*inf'.size,none⟩:=by obtain⟨b,o,s⟩:=a;simp only at ha;subst ha;unfold Addr.add;split<;>simp_all
 simp[Instr.indexAt,asIntOf,d8 hu,h0,h1,sizeOf,typeInfo,hi',hadd]
theorem ixb{n:Int}(h0:0<=n)(h1:n<m):n.toNat<m:=aa
theorem Th{t:T}{l:List t.den}{te:bW}(k:gT)(n:Int)(h:ah Im w (.sl t) l [u])(h0:0<=n)(h1:n<l.length)(hok:(ty P te).ok=true)(he:(ty P te).el=some e)(heok:(ty P e).ok=true)(hs:t.size=(ty P e).size):
  ∃r,(Instr.indexAt te u (.int k n)).run P w=.ok r w/\ah Im w (.pt t) (l.getD n.toNat t.dflt) [r]:=by
 simp only[ah,bH,aA]at h;obtain⟨oa,cap,rfl,h3,h4,h5⟩:=h
 cases oa with
 |none=>have:=(h4 rfl).1;omega
 |some a=>
  obtain⟨s1,s2,s3⟩:=h5 a rfl aa;have hi:n.toNat<l.length:=aa
  have hx:l[n.toNat]? = some (l.getD n.toNat t.dflt):=by rw[bN,bX hi];rfl
  obtain⟨us,u1,u2⟩:=s3 n.toNat _ hx;refine⟨_,Ou k n a l.length cap hok he heok s1 h0 h1,?_⟩;simp only[ah];exact⟨_,_,us,rfl,s2,by rw[←hs];exact u1,u2⟩
theorem aa7(hB:TabOk P B)(hp:Hp F p M w)(x i:V)(u v:bm)(h:aj p.β M (Imm F p M w) w x u)(h':aj p.β M (Imm F p M w) w i v)(hv:ab (vv B (B.τ t) M x i).1):
  ∃r,(Instr.indexAt t u v).run P w=.ok r w/\aj p.β M (Imm F p M w) w (vv B (B.τ t) M x i).2 r:=by
 unfold vv at hv⊢;split at hv
 ·rename_i e ki n he;simp only[bn,dZ]at h';obtain⟨rfl,_⟩:=h';split at hv
  ·rename_i te l;have hk:=eW hv;simp only[he,hk,aD,e9,eY,aA]at hv⊢;simp only[bQ,bT,bM,ao,eZ,cR]at hk;rw[←hB.τ t hk.1]at he;obtain⟨r,h1,h2⟩:=Th (P:=P) (te:=t) ki n (bn.1 h) hv.1 hv.2 (by rw[hB.τ t hk.1];exact hk.1) he (by rw[hB.τ e hk.2.1];exact hk.2.1) (by rw[hB.τ e hk.2.1];exact hk.2.2);exact⟨r,h1,bn.2 h2⟩
  ·rename_i k π;simp only[aj,ac]at h;split at hv
   ·rename_i o l hg;have hk:=eW hv;simp only[he,hg,hk,aD,e9,eY,aA]at hv⊢;simp only[bQ,bT,bM,ao,eZ,cR]at hk;rw[←hB.τ t hk.1]at he;obtain⟨ob,g1,g2⟩:=od hg;obtain⟨S,hr⟩:=h.look hp hg;obtain⟨ob',pl,k1,k2,k3,k4⟩:=h;rw[g1]at k1;cases k1;simp only[Rel,bH,aA]at hr;obtain⟨v',ety,xs,T,rfl,r2,r3,_⟩:=hr;rcases uU r2 with⟨hn,_⟩|⟨g,off0,cap,cur,rfl,_⟩
    ·have:=ixb hv.1 hv.2;omega
    ·refine⟨_,Ou ki n ⟨g,off0,none⟩ l.length (cap+1) (by rw[hB.τ t hk.1];exact hk.1) he (by rw[hB.τ e hk.2.1];exact hk.2.1) rfl hv.1 hv.2,?_⟩;have hi:n.toNat<l.length:=ixb hv.1 hv.2;simp only[aj,ac];refine⟨_,rfl,ob,cellsOf w g (off0+n.toNat*o.size) o.size,g,off0+n.toNat*(ty P e).size,g1,pB π [.ix n.toNat] _ _ _ g2 k2 (by simp only[gok,aA];exact hi),⟨⟨o,l.getD n.toNat o.dflt⟩,by rw[ov,g2];simp only[get]⟩,Du _ _ (by simp[cn]),?_,rfl⟩;rw[pu w π [.ix n.toNat] ob.o ob.x _ _ _ g2,k4];simp only[res];rw[show (ty P e).size=o.size by rw[hB.τ e hk.2.1];exact hk.2.2.symm]
   ·rename_i te l hg;have hk:=eW hv;simp only[he,hg,hk,aD,e9,eY,aA]at hv⊢;simp only[bQ,bT,bM,ao,eZ,cR]at hk;rw[←hB.τ t hk.1]at he;obtain⟨S,hr⟩:=h.look hp hg;simp only[Rel]at hr;obtain⟨r,h1,h2⟩:=Th (P:=P) (te:=t) ki n hr hv.1 hv.2 (by rw[hB.τ t hk.1];exact hk.1) he (by rw[hB.τ e hk.2.1];exact hk.2.1) (by rw[hB.τ e hk.2.1];exact hk.2.2);exact⟨r,h1,bn.2 h2⟩
   ·exact hv.1.elim
  ·exact hv.1.elim
 ·exact hv.1.elim
theorem YT{len:Nat}(k:gT)(n:Int)(b o:Nat)(hok:(ty P t).ok=true)(he:(ty P t).arr=some (e,len))(heok:(ty P e).ok=true)(h0:0<=n)(h1:n<len):
  (Instr.indexAt t (.pointer (some ⟨b,o,none⟩)) (.int k n)).run P w=.ok (.pointer (some ⟨b,o+n.toNat*(ty P e).size,none⟩)) w:=by
 obtain⟨inf,u,hi,hu⟩:=dQ hok;obtain⟨inf',u',hi',hu'⟩:=dQ heok;rw[dB hi hu]at he;rw[dB hi' hu'];simp only[eL]at he⊢;cases u<;>simp at he;obtain⟨rfl,rfl⟩:=he;have hadd:(⟨b,o,none⟩:Addr).add (n.toNat*inf'.size)=⟨b,o+n.toNat*inf'.size,none⟩:=by unfold Addr.add;split<;>simp_all
 simp[Instr.indexAt,asIntOf,d8 hu,Instr.sureAddr,sizeOf,typeInfo,hi',h0,h1,hadd]
theorem R_(hB:TabOk P B)(hp:Hp F p M w)(x i:V)(u v:bm)(h:aj p.β M (Imm F p M w) w x u)(h':aj p.β M (Imm F p M w) w i v)(hv:ab (vy B (B.τ t) M x i).1):
  ∃r,(Instr.indexAt t u v).run P w=.ok r w/\aj p.β M (Imm F p M w) w (vy B (B.τ t) M x i).2 r:=by
 unfold vy at hv⊢
 cases ha:(B.τ t).arr with
 |none=>simp only[ha]at hv⊢;exact aa7 hB hp x i u v h h' hv
 |some q=>
  obtain⟨e,n⟩:=q;simp only[ha]at hv⊢;unfold Lp at hv⊢;split at hv
  ·rename_i k m;simp only[bn,dZ]at h';obtain⟨rfl,_⟩:=h'
   cases hk:aP [(B.τ t).ok,(B.τ e).ok]with
   |false=>rw[hk]at hv;exact hv.1.elim
   |true=>simp only[hk,aD]at hv⊢;simp only[bQ,bT,bM,ao]at hk;simp only[e9]at hv;obtain⟨b,o,rfl,hr⟩:=Sb hp x _ _ u h hv.2.2;have e1:=hB.τ t hk.1;have e2:=hB.τ e hk.2;refine⟨_,YT k m b o (by rw[e1];exact hk.1) (by rw[e1];exact ha) (by rw[e2];exact hk.2) hv.1 hv.2.1,?_⟩;rw[e2];exact hr
  ·exact hv.1.elim
theorem P_(hB:TabOk P B)(t:bW){x:V}(k:gT)(m:Int)(u v:bm)(h:aj β M Im w (.ag x) u)(h':aj β M Im w (.d (.int k) m) v)(hv:ab (Lv B (B.τ t) (B.σ t) x m).1):
  ∃r,(Instr.index t u v).run P w=.ok r w/\aj β M Im w (Lv B (B.τ t) (B.σ t) x m).2 r:=by
 have h:False/\True:=hv;exact h.1.elim
theorem ack(hB:TabOk P B)(t:bW)(x i:V)(u v:bm)(h:aj β M Im w x u)(h':aj β M Im w i v)(hv:ab (F0 B (B.τ t) (B.σ t) x i).1):∃r,(Instr.index t u v).run P w=.ok r w/\aj β M Im w (F0 B (B.τ t) (B.σ t) x i).2 r:=by
 unfold F0 at hv⊢;split at hv
 ·rename_i x k m;exact P_ hB t k m u v h h' hv
 ·rename_i s k n;simp only[bn,qW]at h;simp only[bn,dZ]at h';obtain⟨rfl,_⟩:=h;obtain⟨rfl,_⟩:=h';have hk:=eW hv;simp only[hk,aD,e9,eY,aA]at hv⊢;simp only[bQ,bT,bM,ao]at hk;obtain⟨h3,h4⟩:=hv;rw[←hB.τ t hk.1]at hk;obtain⟨inf,c,hi,hc⟩:=dQ hk.1;rw[dB hi hc]at hk;have h2:=hk.2;simp only[eL]at h2;cases c<;>simp at h2;have hlt:n.toNat<s.size:=ixb h3 h4;have hb:(s.data.toList.getD n.toNat 0)=s[n.toNat]:=by rw[bN,bX (by simpa using hlt)];rfl
  refine⟨.int .u8 (s[n.toNat]).toNat,?_,?_⟩
  ·simp[Instr.index,asIntOf,d8 hc,h3,hlt,getElem?_pos]
  ·simp only[bn,dZ];rw[hb];refine⟨rfl,?_⟩;have:=(s[n.toNat]).toNat_lt;exact (KV (s[n.toNat]).toNat).2 ⟨aa,aa⟩
 ·exact hv.1.elim
theorem Ai(a:yD)(n cap:Nat)(h1:(ty P t).ok=true)(h2:(ty P t).el≠none):(Builtin.len_ #[t] ty' #[.slice a n cap]).run P w=.ok (.int .i64 n) w:=by obtain⟨inf,c,hi,hc⟩:=dQ h1;rw[dB hi hc]at h2;simp only[eL]at h2;cases c<;>simp at h2;simp[Builtin.len_,d8 hc,goInt]
theorem Bf{o:Option α}(h:neg (isN o)=true):o≠none:=by
 cases o with
 |none=>simp[isN]at h
 |some _=>simp
theorem ad2{l:List o.strip.den}(r:Rel Im w (.sl o) l S vs):∃a cap,vs=[.slice a l.length cap]/\l.length<=nb:=by
 simp only[Rel]at r;obtain⟨v,ety,xs,T,rfl,h1,h2,_⟩:=r;rcases uU h1 with⟨hn,oa,rfl⟩|⟨g,off0,cap,cur,rfl,_⟩
 ·exact⟨oa,0,by rw[hn],h2⟩
 ·exact⟨_,cap+1,rfl,h2⟩
theorem RT(hok:(ty P t).ok=true)(hm:neg (isN (ty P t).mp)=true)(hb:w.heap[r]? = some (.map es n)):
  (Builtin.len_ #[t] ty' #[.map (some r)]).run P w=.ok (.int .i64 es.size) w:=by
 obtain⟨inf,c,hi,hc⟩:=dQ hok;rw[dB hi hc]at hm;simp only[eL]at hm;cases c<;>simp only[isN,gr,wo,eE]at hm;simp[Builtin.len_,d8 hc,goInt,yK hb]
theorem Qc{k v:T}{l:List (k.den×v.den)}(h:nC k v es l):es.size=l.length:=by have:=congrArg List.length h;simpa using this
theorem B_{x:V}(h:yz M x=some l):∃k π,x=.ref k π/\fq M k π=some ⟨.sl (.fz (.int .u8)),l⟩:=by
 unfold yz at h;split at h
 ·split at h
  ·rename_i hg;cases h;exact⟨_,_,rfl,hg⟩
  ·cases h
 ·cases h
theorem Zs(hB:TabOk P B)(hp:Hp F p M w)(s d:bW)(x:V)(u:bm)(h:aj p.β M (Imm F p M w) w x u)(hv:ab (vl B s d M x).1):∃r,(convert s d u).run P w=.ok r w/\aj p.β M (Imm F p M w) w (vl B s d M x).2 r:=by
 unfold vl at hv⊢;split at hv
 ·rename_i e l he hl;have hk:=eW hv;simp only[he,hl,hk,aD]at hv⊢;simp only[bQ,bT,bM,ao]at hk;obtain⟨k1,k2,k3,k4,k5⟩:=hk;have e1:=hB.τ s k1;have e2:=hB.τ d k2;have e3:=hB.τ e k4;rw[←e1]at k1 he;rw[←e2]at k2 k3;rw[←e3]at k4 k5;obtain⟨i1,c1,hi1,hc1⟩:=dQ k1;obtain⟨i2,c2,hi2,hc2⟩:=dQ k2;obtain⟨i3,c3,hi3,hc3⟩:=dQ k4;rw[dB hi1 hc1]at he;rw[dB hi2 hc2]at k3;rw[dB hi3 hc3]at k5;simp only[eL]at he k3 k5;cases c1<;>simp at he;subst he;cases c2<;>simp at k3;have hu8:c3=.int .u8:=by cases c3<;>simp only[LB,eE]at k5;rename_i kk;cases kk<;>simp only[LB,eE]at k5;rfl
  subst hu8;obtain⟨k,π,rfl,hg⟩:=B_ hl;simp only[aj,ac]at h;obtain⟨S,hr⟩:=h.look hp hg;simp only[Rel]at hr;obtain⟨v,ety,xs,T,hv1,hown,hnb,_,_,_,hel⟩:=hr;simp only[bH,aA]at hv1;subst hv1;have hsz:(nh l).size<=nb:=by simp only[nh,ByteArray.size];simpa using hnb
  refine⟨.string (nh l),?_,by simp only[bw,bn,qW,aL];exact hsz⟩;obtain⟨hxl,ho⟩:=hown;rcases ho with⟨hn,oa,rfl⟩|⟨g,off,c,cur,rfl,hb,hc1',hc2',hcs,htk⟩
  ·have:l=[]:=iS hn;subst this
   cases oa with
   |none=>exact run_convert_bytes_nil (P:=P) w s _ hc1 hc3 0 0 d hc2
   |some a=>rw[run_convert_bytes_string w s d _ _ 0 0 hc1 hc3 hc2,run_bytesToString w a 0 0 [] (by simp[loadCells,loadCellsFrom])];rfl
  ·refine run_convert_bytes_arg (P:=P) w s _ hc1 hc3 g off l.length (c+1) l rfl (λi hi=>?_) d hc2;have h1:=hel i _ (bX hi);have hs1:(O.fz (.int .u8)).size=1:=rfl;simp only[Rel,ah,hs1,yJ]at h1;rw[hs1,yJ]at htk;have h2:xs[i]? = some (.int .u8 l[i]):=by have:=congrArg (λz:List Value=>z[0]?) h1.1;simpa using this
   have h3:cur.toList[off+i]? = some (.int .u8 l[i]):=by rw[←htk,g7,am hi,g8]at h2;exact h2
   simp only[World.cell?,hb];simp only[qv]at h3;simp[h3,List.getD,bX hi]
 ·exact ZV hB s d x u h hv
theorem aba(hB:TabOk P B)(hp:Hp F p M w)(x:V)(u:bm)(h:aj p.β M (Imm F p M w) w x u)(hv:ab (vt (B.τ t) M x).1):
  ∃r,(Builtin.len_ #[t] ty' #[u]).run P w=.ok r w/\aj p.β M (Imm F p M w) w (vt (B.τ t) M x).2 r:=by
 unfold vt at hv⊢;split at hv
 ·rename_i s;have hk:=eW hv;simp only[hk,aD]at hv⊢;simp only[bQ,bT,bM,ao]at hk;rw[←hB.τ t hk.1]at hk;obtain⟨inf,c,hi,hc⟩:=dQ hk.1;rw[dB hi hc]at hk;have h2:=hk.2;simp only[eL]at h2;cases c<;>simp at h2;simp only[bn,qW]at h;obtain⟨rfl,hs⟩:=h;exact⟨.int .i64 s.size,by simp[Builtin.len_,d8 hc,goInt],by simp only[bw,bn,dZ,aL];exact tE hs⟩
 ·rename_i t' l;have hk:=eW hv;simp only[hk,aD]at hv⊢;simp only[bQ,bT,bM,ao]at hk;rw[←hB.τ t hk.1]at hk;simp only[bn,ah,bH,aA]at h;obtain⟨oa,cap,rfl,⟨hn,_⟩,_⟩:=h;exact⟨.int .i64 l.length,Ai _ _ _ hk.1 (Bf hk.2),by simp only[bw,bn,dZ,aL];exact tE hn⟩
 ·rename_i k' v' l;have hk:=eW hv;simp only[hk,aD]at hv⊢;simp only[bQ,bT,bM,ao]at hk;rw[←hB.τ t hk.1]at hk;simp only[bn,ah,bH,aA]at h;obtain⟨oa,es,n,rfl,_,hb,⟨hn,_⟩,he⟩:=h;have:=RT (ty':=ty') hk.1 hk.2 hb;rw[Qc he]at this;exact⟨.int .i64 l.length,this,by simp only[bw,bn,dZ,aL];exact tE hn⟩
 ·rename_i t' l;have hk:=eW hv;simp only[hk,aD]at hv⊢;simp only[bQ,bT,bM,ao]at hk;rw[←hB.τ t hk.1]at hk;simp only[bn]at h
  obtain⟨oa,cap,hu,hn⟩:∃oa cap,u=.slice oa (l.getD []).length cap/\(l.getD []).length<=nb:=by
   simp only[ah]at h;rcases h with⟨rfl,h⟩|⟨y,_,_,_,rfl,h,hr⟩
   ·simp only[bH,aA]at h;exact⟨none,0,h,dO _⟩
   ·simp only[ah,bH,aA]at hr;obtain⟨oa,cap,rfl,⟨hn,_⟩,_⟩:=hr;exact⟨oa,cap,rfl,hn⟩
  subst hu;exact⟨.int .i64 (l.getD []).length,Ai _ _ _ hk.1 (Bf hk.2),by simp only[bw,bn,dZ,aL];exact tE hn⟩
 ·have hk:=eW hv;simp only[hk,aD]at hv⊢;simp only[bQ,bT,bM,ao]at hk;rw[←hB.τ t hk.1]at hk;simp only[aj,ac,bH,aA]at h;obtain⟨oa,rfl⟩:=h;exact⟨.int .i64 0,Ai _ _ _ hk.1 (Bf hk.2),by simp only[bw,bn,dZ,aL];exact tE (dO _)⟩
 ·rename_i k π;simp only[aj,ac]at h;split at hv
  ·rename_i o l hg;have hk:=eW hv;simp only[hg,hk,aD]at hv⊢;simp only[bQ,bT,bM,ao]at hk;rw[←hB.τ t hk.1]at hk;obtain⟨S,hr⟩:=h.look hp hg;obtain⟨a,cap,h1,h2⟩:=ad2 hr;simp only[bH,aA]at h1;subst h1;exact⟨.int .i64 l.length,Ai _ _ _ hk.1 (Bf hk.2),by simp only[bw,bn,dZ,aL];exact tE h2⟩
  ·rename_i o l hg;have hk:=eW hv;simp only[hg,hk,aD]at hv⊢;simp only[bQ,bT,bM,ao]at hk;rw[←hB.τ t hk.1]at hk;obtain⟨S,hr⟩:=h.look hp hg;simp only[Rel,ah,bH,aA]at hr;obtain⟨oa,cap,rfl,⟨hn,_⟩,_⟩:=hr;exact⟨.int .i64 l.length,Ai _ _ _ hk.1 (Bf hk.2),by simp only[bw,bn,dZ,aL];exact tE hn⟩
  ·rename_i k' v' l hg;have hk:=eW hv;simp only[hg,hk,aD]at hv⊢;simp only[bQ,bT,bM,ao]at hk;rw[←hB.τ t hk.1]at hk;obtain⟨S,hr⟩:=h.look hp hg;simp only[Rel,bH,aA]at hr;obtain⟨oa,es,n,rfl,_,hb,⟨hn,_⟩,he⟩:=hr;have:=RT (ty':=ty') hk.1 hk.2 hb;rw[Qc he]at this;exact⟨.int .i64 l.length,this,by simp only[bw,bn,dZ,aL];exact tE hn⟩
  ·exact hv.1.elim
 ·exact hv.1.elim
theorem IC{o:Nat}(hok:(ty P t).ok=true)(hs:vs.length=(ty P t).size)(h1:(ty P t).agg=true\/(ty P t).size=1)(hc:iW w b o vs):
  (loadVar t ⟨b,o,none⟩).run P w=.ok (val (ty P t).agg vs) w:=by
 obtain⟨i,u,hi,hu⟩:=dQ hok;rw[dB hi hu]at hs h1⊢;simp only[eL]at hs h1⊢;have hr:(loadCells ⟨b,o,none⟩ vs.length).run P w=.ok vs.toArray w:=run_loadCells_list w ⟨b,o,none⟩ vs (λj v hj=>by rw[qw];exact hc j v hj);rw[hs]at hr;have key:vs.length=1->∃v,vs=[v]/\w.cell? ⟨b,o,none⟩=some v:=λh=>by obtain⟨v,rfl⟩:=Cm.1 h;exact⟨v,rfl,by simpa using hc 0 v rfl⟩
 cases u
 case struct fs=>simp[loadVar,isAgg,d8 hu,sizeOf,typeInfo,hi,hr,val]
 case array n e=>simp[loadVar,isAgg,d8 hu,sizeOf,typeInfo,hi,hr,val]
 all_goals
  simp at h1;obtain⟨v,rfl,hv⟩:=key (by rw[hs,h1]);simp[loadVar,isAgg,d8 hu,hv,val]
theorem OW(hB:TabOk P B)(hp:Hp F p M w)(x:V)(u:bm)(h:aj p.β M (Imm F p M w) w x u)(hv:ab (p7 (B.τ t) M x).1):
  ∃r,(Instr.loadAt t u).run P w=.ok r w/\aj p.β M (Imm F p M w) w (p7 (B.τ t) M x).2 r:=by
 unfold p7 at hv⊢;split at hv
 ·rename_i te y;have hk:=eW hv;simp only[hk,aD]at hv⊢;simp only[bQ,bT,bM,ao,eZ,cR,gD,fR]at hk;have e:=hB.τ t hk.1;rw[←e]at hk⊢;simp only[bn,ah,bH,aA]at h;obtain⟨b,o,us,rfl,h1,h2,h3⟩:=h;have hl:=ah.len te y us h3;refine⟨val (ty P t).agg us,?_,Er (fG te y us h3) (λha=>?_)⟩
  ·have:=IC (P:=P) hk.1 (by rw[hl,hk.2.1]) (by rw[←hk.2.1];exact hk.2.2) h2;simpa[Instr.loadAt,Instr.sureAddr]using this
  ·rw[hl];rcases hk.2.2 with h|h
   ·rw[ha]at h;cases h
   ·exact h
 ·rename_i k π;split at hv
  ·rename_i q hq;have hk:=eW hv;simp only[hq,hk,aD]at hv⊢;simp only[bQ,bT,bM,ao,eZ,cR,gD,fR]at hk;have e:=hB.τ t hk.1;rw[←e]at hk⊢;simp only[aj,ac,bH,aA,exists_eq_left']at h;obtain⟨S,us,b,off,cur,ty',rfl,h2,h3,h4,h5⟩:=h.look hp hq;have hl:=Rel.len _ _ _ _ h2;refine⟨val (ty P t).agg us,?_,Er (T9 hp h5 hq) (λha=>?_)⟩
   ·have:=IC (P:=P) (b:=b) (o:=off) hk.1 (by rw[hl];exact hk.2.1) (by rw[←hk.2.1];exact hk.2.2) (λj u hu=>by rw[lQ w b _ cur ty' (0,0) h3];exact h4 j u hu);simpa[Instr.loadAt,Instr.sureAddr]using this
   ·rw[hl];rcases hk.2.2 with h|h
    ·rw[ha]at h;cases h
    ·exact h
  ·exact hv.1.elim
 ·rename_i v;have hk:=eW hv;simp only[hk,aD]at hv⊢;simp only[bQ,bT,bM,ao,eZ,cR,gD,fR]at hk;have e:=hB.τ t hk.1;rw[←e]at hk⊢;simp only[aj,ac,bH,aA]at h;obtain⟨b,o,us,rfl,h1,h2,h3⟩:=h;have hl:=ng hp v us _ h3 (lW hk.2.1);refine⟨val (ty P t).agg us,?_,Er h3 (λha=>?_)⟩
  ·have:=IC (P:=P) hk.1 hl hk.2.2 h2;simpa[Instr.loadAt,Instr.sureAddr]using this
  ·rw[hl];rcases hk.2.2 with h|h
   ·rw[ha]at h;cases h
   ·exact h
 ·exact hv.1.elim
structure Qt (p:Ow) (M:Mem) (p':Ow) (M':Mem) (w w':aK):Prop where
 ext:Ext w w'
 old:∀j ob,go M j=some ob->go M' j=some ob/\p'.β j=p.β j/\p'.σ j=p.σ j
def cu(F:Fr)(p:Ow)(M:Mem)(w:aK)(qt:bC)(r:Rs)(v:bm)(w':aK):Prop:=∃p',Tr F p M w r.ev p' r.M w'/\(∀b,¬p'.L b)/\aj p'.β r.M (Imm F p' r.M w') w' r.av v/\(dv M r.ev=true->qt=true->Qt p M p' r.M w w')
theorem cu.pure(h:Hp F p M w)(hL:∀b,¬p.L b){q:Cb}(hv:aj p.β M (Imm F p M w) w q.2 v)(qt:bC):cu F p M w qt (ck q M) v w:=⟨p,Tr.refl h,hL,hv,λ_ _=>⟨Ext.refl w,λj ob hj=>⟨hj,rfl,rfl⟩⟩⟩
theorem aa6(a b:T):mkP ⟨a.deep,a.deep.dflt⟩ ⟨b.deep,b.deep.dflt⟩=⟨(T.p a b).deep,(T.p a b).deep.dflt⟩:=by simp only[T.deep];generalize a.deep=x;generalize b.deep=y;cases x<;>cases y<;>rfl
theorem Qx(k:gT):inK k 0:=by cases k<;>simp[inK,IntKind.min,IntKind.max,IntKind.signed,IntKind.bits]
theorem tm{Im:aT}{w:aK}:(t:T)->(zs:aJ)->eG t zs=true->Rel Im w t.deep t.deep.dflt (λ_=>False) zs/\∀β M,ac β M Im w (iZ t) zs
 |.p a b,zs,h=>by
  simp only[eG,aU,ao,DN,Jh]at h;obtain⟨a1,a2⟩:=tm (Im:=Im) (w:=w) a _ h.1;obtain⟨b1,b2⟩:=tm (Im:=Im) (w:=w) b _ h.2;refine⟨?_,λβ M=>?_⟩
  ·have:=Es (a:=⟨a.deep,a.deep.dflt⟩) (b:=⟨b.deep,b.deep.dflt⟩) (S:=λ_=>False) (λc hc=>hc) (λc hc=>hc) (λc hc=>hc.elim) a1 b1;rw[aa6,kx]at this;exact this
  ·simp only[iZ,ac];exact⟨_,_,(kx a.size zs).symm,a2 β M,b2 β M⟩
 |.u,zs,h=>by
  cases zs with
  |nil=>exact⟨by simp only[T.deep,Rel,ah],λβ M=>by simp only[iZ,ac]⟩
  |cons _ _=>simp[eG]at h
 |.int k,zs,h=>by
  have:zs=[.int k 0]:=by
   rcases zs with _|⟨v,_|⟨_,_⟩⟩
   ·simp[eG]at h
   ·cases v<;>try (simp[eG]at h)
    rename_i k' n;rcases n with (_|n)|n
    ·simp only[eG]at h;rw[oi h];rfl
    ·exact nomatch (show (false:bC)=true from h)
    ·exact nomatch (show (false:bC)=true from h)
   ·simp[eG]at h
  subst this;exact⟨by simp only[T.deep,Rel,ah,O.dflt,T.dflt];exact⟨trivial,Qx _⟩,λβ M=>by simp only[iZ,ac,ah,T.dflt];exact⟨trivial,Qx _⟩⟩
 |.bool,zs,h=>by
  have:zs=[.bool false]:=by
   rcases zs with _|⟨v,_|⟨_,_⟩⟩
   ·simp[eG]at h
   ·cases v<;>try (simp[eG]at h)
    rw[h]
   ·simp[eG]at h
  subst this;exact⟨by simp only[T.deep,Rel,ah,O.dflt,T.dflt],λβ M=>by simp only[iZ,ac,ah,T.dflt]⟩
 |.str,zs,h=>by
  have:∃s:ByteArray,zs=[.string s]/\s=ByteArray.empty:=by
   rcases zs with _|⟨v,_|⟨_,_⟩⟩
   ·simp[eG]at h
   ·cases v<;>try (simp[eG]at h)
    exact⟨_,rfl,by simpa using h⟩
   ·simp[eG]at h
  obtain⟨s,rfl,rfl⟩:=this;exact⟨by simp only[T.deep,Rel,ah,O.dflt,T.dflt];exact⟨trivial,dO _⟩,λβ M=>by simp only[iZ,ac,ah,T.dflt];exact⟨trivial,dO _⟩⟩
 |.sl e,zs,h=>by
  have:zs=[.slice none 0 0]:=by
   rcases zs with _|⟨v,_|⟨_,_⟩⟩
   ·simp[eG]at h
   ·cases v<;>try (simp[eG]at h)
    rename_i a n c
    cases a with
    |some _=>simp[eG]at h
    |none=>rcases n with _|n<;>rcases c with _|c<;>first|rfl|(simp[eG]at h)
   ·simp[eG]at h
  subst this;exact⟨by simp only[T.deep,O.dflt];exact AG e.deep none,λβ M=>by simp only[iZ,ac];exact⟨none,rfl⟩⟩
 |.ns e,zs,h=>by
  have:zs=[.slice none 0 0]:=by
   rcases zs with _|⟨v,_|⟨_,_⟩⟩
   ·simp[eG]at h
   ·cases v<;>try (simp[eG]at h)
    rename_i a n c
    cases a with
    |some _=>simp[eG]at h
    |none=>rcases n with _|n<;>rcases c with _|c<;>first|rfl|(simp[eG]at h)
   ·simp[eG]at h
  subst this;exact⟨by simp only[T.deep,Rel,ah];exact .inl ⟨rfl,trivial⟩,λβ M=>by simp only[iZ,ac,ah];exact .inl ⟨rfl,trivial⟩⟩
 |.er e,zs,h|.pt e,zs,h|.fn f e,zs,h=>by rcases zs with _|⟨v,_|⟨_,_⟩⟩<;>simp[eG]at h
 |.any,zs,h=>by
  have:∃v:Value,zs=[v]/\v.oneCell'=true:=by
   rcases zs with _|⟨v,_|⟨_,_⟩⟩
   ·simp[eG]at h
   ·exact⟨v,rfl,by simpa[eG]using h⟩
   ·simp[eG]at h
  obtain⟨v,rfl,hv⟩:=this;exact⟨by simp only[T.deep,Rel,ah];exact⟨v,rfl,hv⟩,λβ M=>by simp only[iZ,ac,ah];exact⟨v,rfl,hv⟩⟩
theorem uW(p:Ow)(k:Nat)(v:bm)(r:aT):(p.upd k v r).β k=v:=by simp[Ow.upd,Ow.updL]
theorem mY(k:Nat)(ob:Ob)(M:Mem):go ((k,ob)::M) k=some ob:=by rw[dR,am rfl]
theorem KB{r:aT}(hf:go M k=none)(he:Ext w w'):Qt p M (p.upd k v r) ((k,ob)::del k M) w w':=
 ⟨he,λj o hj=>by
  have hne:j≠k:=by rintro rfl;rw[hf]at hj;cases hj
  exact⟨by rw[dR,ai (dg hne),fg hne,hj],by simp[Ow.upd,Ow.updL,hne],by simp[Ow.upd,Ow.updL,hne]⟩⟩
theorem DA{e:cg}(h:dv M (.kl k::e)=true):go M k=none/\dv M e=true:=by
 simp only[dv,aU,ao]at h;refine⟨?_,h.2⟩
 cases hg:go M k with
 |none=>rfl
 |some _=>rw[hg]at h;simp[isN]at h
theorem Dx{x:Ev}{r:cg}(h:dv M [x]=false):dv M (x::r)=false:=by
 cases x with
 |kl j=>simp only[dv,aU,bM]at h⊢;rw[h];rfl
 |mv _ _|cut _ _ _|fz _ _|un _ _|kn _ _|tk _ _ _=>rfl
theorem Pt{x:Ev}(h:dv (del k M) [x]=false):dv M [x]=false:=by
 cases x with
 |kl j=>
  simp only[dv,aU,bM]at h⊢;by_cases e:j=k
  ·subst e;rw[fU]at h;simp[isN]at h
  ·rw[fg e]at h;exact h
 |mv _ _|cut _ _ _|fz _ _|un _ _|kn _ _|tk _ _ _=>rfl
theorem Sl(h:Hp F p M w)(hL:∀b,¬p.L b)(k:Nat)(e:bW)(hcs:cs.toList=vs)(hc:Cv F p (del k M) w k q e0 vs p1 M1 S)(hk1:go M1 k=none)(qt:bC):cu F p M w qt ⟨[],.ad k [.de],.kl k::e0,(k,⟨.pt q.o,q.x⟩)::M1⟩ (.pointer (some ⟨w.heap.size,0,none⟩)) (w.alloc (.cells cs e)):=by
 have hext:Ext w (w.alloc (.cells cs e)):=Ext.of_grown (yL w _ none) (aZ _);have hnew:(w.alloc (.cells cs e)).heap[w.heap.size]? = some (.cells cs e (0,0)):=rR w _;have hcs':cs=vs.toArray:=by rw[←hcs]
 have hSsz:∀b,S b->b<w.heap.size:=λb hb=>(hc.tr.hp.lim b ((hc.L b).2 (.inr hb))).1
 have ht1:Tr F p1 M1 w [] (p1.upd k (.pointer (some ⟨w.heap.size,0,none⟩)) (λb=>b=w.heap.size\/S b)) ((k,⟨.pt q.o,q.x⟩)::M1) (w.alloc (.cells cs e)):=by
  refine Tr.new hc.tr.hp k hk1 _ _ _ (hext.toL _) (λb hb=>?_) (λhkp=>?_)
  ·rcases hb with rfl|hb
   ·exact .inl ⟨aZ _,(eF.1 hnew).1⟩
   ·exact .inr ((hc.L b).2 (.inr hb))
  ·simp only[Rel];refine⟨w.heap.size,vs,e,S,rfl,.inl rfl,by rw[←hcs'];exact hnew,λc hcS=>⟨.inr hcS,λe'=>by have:=hSsz c hcS;omega⟩,?_⟩;exact Rel.keep hkp _ _ _ _ (λb hb=>hext.old b (hSsz b hb)) hc.rel
 have htr:Tr F p M w (.kl k::e0) (p1.upd k (.pointer (some ⟨w.heap.size,0,none⟩)) (λb=>b=w.heap.size\/S b)) ((k,⟨.pt q.o,q.x⟩)::M1) (w.alloc (.cells cs e)):=by
  have h1:=(Tr.kl h k).trans (hc.tr.trans ht1);have e1:ap [Ev.kl k] (ap e0 [])=.kl k::e0:=by rw[fB,fB];simp
  rw[e1]at h1;exact h1
 refine⟨_,htr,λb hb=>hb,?_,λhf _=>?_⟩
 ·simp only[aj,ac];refine⟨_,rfl,⟨.pt q.o,q.x⟩,cellsOf (w.alloc (.cells cs e)) w.heap.size 0 q.o.size,w.heap.size,0,mY _ _ _,by simp only[gok],⟨⟨q.o,q.x⟩,by simp only[get]⟩,rfl,?_,rfl⟩;rw[uW];simp only[res]
 ·obtain⟨hf1,hf2⟩:=DA hf;rcases hc.fr with⟨rfl,rfl,rfl⟩|⟨x,r,rfl,hx⟩
  ·exact KB hf1 hext
  ·rw[Dx (Pt hx)]at hf2;cases hf2
abbrev y9:Type:=Nat->Nat->Prop
theorem R4(h:Hp F p M w)(k:Nat){l:List o.strip.den}{T:y9}(ht:Tr F p (del k M) w e0 p1 M1 w)(hk1:go M1 k=none)(hg:w.grownBy w' none/\w.drawn<=w'.drawn)(hown:w'.ownsRow 0 ety o.size v l.length xs)(hroot:∀b,dI v=some b->w.heap.size<=b/\b<w'.heap.size)(hl:l.length<=nb)(hT:∀i c,T i c->p1.L c)(hTd:∀i j c,i≠j->T i c->¬T j c)(hrows:∀(i:Nat)(x:o.strip.den),l[i]? = some x->Rel (Imm F p1 M1 w) w o x (T i) ((xs.drop (i*o.size)).take o.size))(hfr:(e0=[]/\M1=del k M/\p1=p)\/∃x r,e0=x::r/\dv (del k M) [x]=false)(qt:bC):cu F p M w qt ⟨[],.ref k [],.kl k::e0,(k,⟨.sl o,l⟩)::M1⟩ v w':=by
 obtain⟨hg,hgd⟩:=hg;have hext:Ext w w':=Ext.of_grown hg hgd;have hTs:∀i b,T i b->b<w.heap.size:=λi b hb=>(ht.hp.lim b (hT i b hb)).1
 have ht1:Tr F p1 M1 w [] (p1.upd k v (λb=>dI v=some b\/∃i,T i b)) ((k,⟨.sl o,l⟩)::M1) w':=by
  refine Tr.new ht.hp k hk1 _ _ _ (hext.toL _) (λb hb=>?_) (λhkp=>?_)
  ·rcases hb with hb|⟨i,hb⟩
   ·exact .inl (hroot b hb)
   ·exact .inr (hT i b hb)
  ·simp only[Rel];refine⟨v,ety,xs,T,rfl,EN hown,hl,λc hc=>.inl hc,λi c hc=>⟨.inr ⟨i,hc⟩,λe=>by have:=hTs i c hc;have:=(hroot c e).1;omega⟩,hTd,λi x hx=>?_⟩;exact Rel.keep hkp _ _ _ _ (λb hb=>hext.old b (hTs i b hb)) (hrows i x hx)
 have htr:Tr F p M w (.kl k::e0) (p1.upd k v (λb=>dI v=some b\/∃i,T i b)) ((k,⟨.sl o,l⟩)::M1) w':=by
  have h1:=(Tr.kl h k).trans (ht.trans ht1);have e1:ap [Ev.kl k] (ap e0 [])=.kl k::e0:=by rw[fB,fB];simp
  rw[e1]at h1;exact h1
 refine⟨_,htr,λb hb=>hb,?_,λhf _=>?_⟩
 ·simp only[aj,ac];refine⟨⟨.sl o,l⟩,none,mY _ _ _,by simp only[gok],⟨⟨.sl o,l⟩,by simp only[get]⟩,?_⟩;rw[uW];simp only[res]
 ·obtain⟨hf1,hf2⟩:=DA hf;rcases hfr with⟨rfl,rfl,rfl⟩|⟨x,r,rfl,hx⟩
  ·exact KB hf1 hext
  ·rw[Dx (Pt hx)]at hf2;cases hf2
theorem AV(h:Hp F p M w)(k:Nat):Hp F p (del k M) w:=(h.del k).1
theorem Aw(t:T):t.deep.size=t.size:=by unfold O.size;rw[T.deep_strip]
theorem vj(hB:TabOk P B)(h:B.z t=true):∃i z,P.info? t=some i/\i.zero=some z/\eG (B.σ t) z.cells.toList=true:=by obtain⟨zs,h1,h2⟩:=hB.z t h;obtain⟨i,z,h3,h4,rfl⟩:=aab h1;exact⟨i,z,h3,h4,h2⟩
theorem acg(hB:TabOk P B)(h:Hp F p M w)(hL:∀b,¬p.L b)(o:fu)(hv:ab (BN B t o M).vc)(qt:bC)(hop:op.op=.alloc t):
  ∃v w',(execOp a.eval op).run P w=.ok (.value v) w'/\cu F p M w qt (BN B t o M) v w':=by
 unfold BN at hv⊢
 cases o with
 |none=>exact hv.1.elim
 |some k=>
  simp only at hv⊢
  cases hk:aP [(B.τ t).ok,B.z t]with
  |false=>rw[hk]at hv;exact hv.1.elim
  |true=>
   simp only[aD];simp only[bQ,bT,bM,ao]at hk;obtain⟨i,z,hi,hz,h0⟩:=vj hB hk.2;refine⟨.pointer (some ⟨w.heap.size,0,none⟩),w.alloc (.cells z.cells t),by simp[execOp,hop,Instr.alloc,zeroValue,typeInfo,hi,hz,newVar,newRow],?_⟩
   have:=Sl h hL k t (q:=⟨(B.σ t).deep,(B.σ t).deep.dflt⟩) (cs:=z.cells) rfl
    ⟨rfl,λb=>(or_false _).symm▸lh,λb hb=>hb.elim,Tr.refl (AV h k),(tm (B.σ t) _ h0).1,.inl ⟨rfl,rfl,rfl⟩⟩ (fU k M) qt
   exact this
theorem abj(h:Hp F p M w)(hL:∀b,¬p.L b)(o:fu)(x:V)(y:eO)(hx:aj p.β M (Imm F p M w) w x (a.eval y))(hv:ab (EZ B t o x M).vc)(qt:bC)(hop:op.op=.box t y):
  ∃v w',(execOp a.eval op).run P w=.ok (.value v) w'/\cu F p M w qt (EZ B t o x M) v w':=by
 unfold EZ at hv⊢
 cases o with
 |none=>exact hv.1.elim
 |some k=>
  simp only at hv⊢;split at hv
  ·rename_i q e M' hc;refine⟨.pointer (some ⟨w.heap.size,0,none⟩),w.alloc (.cells (a.eval y).cells t),by simp[execOp,hop,Instr.box,newVar,newRow],?_⟩;have hcv:fZ x=true:=by cases x<;>first|rfl|(exfalso;revert hc;simp only[V.cells,V.ev];cases B.σ t<;>simp[conv])
   have h1:=(Tr.kl h k).c _ _ (xr h hx hcv);obtain⟨g,p',S,cv⟩:=ve k (B.σ t) _ (del k M) p _ q e M' (AV h k) h1 hc;exact Sl h hL k t rfl cv (by rw[g];exact fU k M) qt
  ·cases hs:x.cells.size M with
   |none=>rw[hs]at hv;exact hv.1.elim
   |some n=>
   simp only[isN,gr,Bool.not_false,aD]at hv⊢;have hcv:fZ x=true:=Ao hs;have hx1:=xr h hx hcv;have hext:Ext w (w.alloc (.cells (a.eval y).cells t)):=Ext.of_grown (yL w _ none) (aZ _);have hnew:(w.alloc (.cells (a.eval y).cells t)).heap[w.heap.size]? = some (.cells (a.eval y).cells t (0,0)):=rR w _;have ht:=Tr.ext h hext;refine⟨.pointer (some ⟨w.heap.size,0,none⟩),w.alloc (.cells (a.eval y).cells t),by simp[execOp,hop,Instr.box,newVar,newRow],p,ht,hL,?_,λ_ _=>⟨hext,λj ob hj=>⟨hj,rfl,rfl⟩⟩⟩;simp only[aj,ac,bH,aA];refine⟨w.heap.size,0,(a.eval y).cells.toList,rfl,⟨(eF.1 hnew).1,.inr (.inr h.size),hL _,λj hj hb=>?_⟩,λj u hu=>?_,?_⟩
   ·have:=(h.own j _ hj hb).1;omega
   ·rw[lQ _ _ _ _ t (0,0) hnew];simpa using hu
   ·have:=ht.c _ _ hx1;simpa only [V.evs]using this
theorem Pm(off:Nat):∀(vs:aJ)(k:Nat)(cells:lP),off+k+vs.length<=cells.size->
  ((vs.zipIdx k).foldl (λ(cs:lP) (x:Value×Nat)=>cs.setIfInBounds (off+x.2) x.1) cells).toList=cells.toList.take (off+k)++vs++cells.toList.drop (off+k+vs.length)
 |[],k,cells,_=>ak
 |v::r,k,cells,h=>by
  simp only[List.zipIdx_cons,jF];simp only[aH]at h;rw[Pm off r (k+1) (cells.setIfInBounds (off+k) v) (by simp;omega)];simp only[Array.toList_setIfInBounds,aH]
  have h1:(cells.toList.set (off+k) v).take (off+(k+1))=cells.toList.take (off+k)++[v]:=by
   apply lR;intro j;simp only[g7,wm,List.getElem?_append,ez,ld];by_cases hj:j<off+k
   ·rw[am aa,ai aa,am aa,am hj]
   ·by_cases hj2:j=off+k
    ·subst hj2;rw[am aa,am rfl,am aa,ai aa,yM aa];simp
    ·rw[ai aa,ai aa,yM aa];simp;omega
  have h2:(cells.toList.set (off+k) v).drop (off+(k+1)+r.length)=cells.toList.drop (off+k+(r.length+1)):=by rw[List.drop_set_of_lt aa];congr 1;omega
  rw[h1,h2];simp
theorem P5{i:Nat}(hp:place i=some (off,n))(hn:v.cells.size=n)(hb:off+n<=cells.size):
  ∃cells':Array Value,cells'.toList=dA cells.toList off v.cells.toList/\Instr.fill place cells ((i,v)::vals)=Instr.fill place cells' vals:=by
 refine⟨v.cells.zipIdx.foldl (λcs (c,j)=>cs.setIfInBounds (off+j) c) cells,?_,?_⟩
 ·have hf:=Pm off v.cells.toList 0 cells (by simp;omega);rw[←Array.foldl_toList,Array.toList_zipIdx,hf];simp only[dA,Nat.add_zero]
 ·simp only[Instr.fill,hp];rw[ai];simp only[ne_eq,fR,cj,not_or,Decidable.not_not,Nat.not_lt];omega
theorem JN(hp:Hp F p M w):(π:bA)->(v y v':V)->(vs us:aJ)->(n:Nat)->(z:V)->ac p.β M (Imm F p M w) w v vs->gj M π v=some (n,z)->z.size M=some us.length->ac p.β M (Imm F p M w) w y us->iV π v y=some v'->
  ac p.β M (Imm F p M w) w v' (dA vs n us)/\n+us.length<=vs.length
 |[],v,y,v',vs,us,n,z,r,hs,hz,hy,h=>by
  have:gj M [] v=some (0,v):=by cases v<;>rfl
  rw[this]at hs;cases hs;have:iV [] v y=some y:=by cases v<;>rfl
  rw[this]at h;cases h;have hl:=ng hp v vs _ r hz;refine⟨?_,aa⟩;unfold dA;rw[jC,←hl,List.drop_length];simpa using hy
 |.l::π,.p a b,y,v',vs,us,n,z,r,hs,hz,hy,h=>by
  simp only[gj]at hs;simp only[iV]at h;simp only[ac]at r;obtain⟨va,vb,rfl,ha,hb⟩:=r;split at h
  ·rename_i q hq;cases h;obtain⟨k1,k2⟩:=JN hp π a y q va us n z ha hs hz hy hq;refine⟨?_,by rw[bj];omega⟩;simp only[ac];exact⟨_,vb,(PP k2).symm,k1,hb⟩
  ·cases h
 |.r::π,.p a b,y,v',vs,us,n,z,r,hs,hz,hy,h=>by
  simp only[gj]at hs;simp only[iV]at h;simp only[ac]at r;obtain⟨va,vb,rfl,ha,hb⟩:=r;split at hs
  ·rename_i m n' v1 hm hs1;cases hs;split at h
   ·rename_i q hq;cases h;obtain⟨k1,k2⟩:=JN hp π b y q vb us n' z hb hs1 hz hy hq;have hl:=ng hp a va m ha hm;refine⟨?_,by rw[bj,DP];omega⟩;simp only[ac];exact⟨va,_,by rw[Q6,hl,DP],ha,k1⟩
   ·cases h
  ·cases hs
 |.l::_,.any,_,_,_,_,_,_,_,_,_,_,h|.l::_,.nl,_,_,_,_,_,_,_,_,_,_,h|.l::_,.np,_,_,_,_,_,_,_,_,_,_,h|.l::_,.u,_,_,_,_,_,_,_,_,_,_,h|.l::_,.d _ _,_,_,_,_,_,_,_,_,_,_,h|.l::_,.ref _ _,_,_,_,_,_,_,_,_,_,_,h|.l::_,.ad _ _,_,_,_,_,_,_,_,_,_,_,h|.l::_,.ag _,_,_,_,_,_,_,_,_,_,_,h|.l::_,.tup _,_,_,_,_,_,_,_,_,_,_,h|.l::_,.gd _ _ _ _,_,_,_,_,_,_,_,_,_,_,h|.l::_,.fn _ _,_,_,_,_,_,_,_,_,_,_,h|.l::_,.ifc _ _,_,_,_,_,_,_,_,_,_,_,h|.l::_,.bx _,_,_,_,_,_,_,_,_,_,_,h|.r::_,.any,_,_,_,_,_,_,_,_,_,_,h|.r::_,.nl,_,_,_,_,_,_,_,_,_,_,h|.r::_,.np,_,_,_,_,_,_,_,_,_,_,h|.r::_,.u,_,_,_,_,_,_,_,_,_,_,h|.r::_,.d _ _,_,_,_,_,_,_,_,_,_,_,h|.r::_,.ref _ _,_,_,_,_,_,_,_,_,_,_,h|.r::_,.ad _ _,_,_,_,_,_,_,_,_,_,_,h|.r::_,.ag _,_,_,_,_,_,_,_,_,_,_,h|.r::_,.tup _,_,_,_,_,_,_,_,_,_,_,h|.r::_,.gd _ _ _ _,_,_,_,_,_,_,_,_,_,_,h|.r::_,.fn _ _,_,_,_,_,_,_,_,_,_,_,h|.r::_,.ifc _ _,_,_,_,_,_,_,_,_,_,_,h|.r::_,.bx _,_,_,_,_,_,_,_,_,_,_,h|.ix _::_,_,_,_,_,_,_,_,_,_,_,_,h|.de::_,_,_,_,_,_,_,_,_,_,_,_,h=>by simp[iV]at h
theorem IJ(hp:Hp F p M w)(place:Nat->Option (bA×Nat×Nat))(f:eD)(g:Operand->Value):(parts:oP)->(v v':V)->(cells:lP)->(∀q∈parts,aj p.β M (Imm F p M w) w (f q.2) (g q.2))->
  ac p.β M (Imm F p M w) w v cells.toList->mg M place f parts v=some v'->
  ∃cells',Instr.fill (λi=>(place i).map λq=>q.2) cells (parts.map λq=>(q.1,g q.2))=some cells'/\ac p.β M (Imm F p M w) w v' cells'.toList
 |[],v,v',cells,_,r,h=>by simp only[mg,aG]at h;subst h;exact⟨cells,rfl,r⟩
 |(i,x)::parts,v,v',cells,hfg,r,h=>by
  simp only[mg]at h;split at h
  ·rename_i π off n hpl;split at h
   ·rename_i m z hs
    cases hk:aP [cy m off,fX M z n,fX M (f x).cells n]with
    |false=>rw[hk]at h;cases h
    |true=>
     rw[hk]at h;simp only[aD]at h;simp only[bQ,bT,bM,ao,eZ,cR]at hk;obtain⟨rfl,k2,k3⟩:=hk;split at h
     ·rename_i v1 hv1;have hc:=xr hp (hfg (i,x) ak) (Ao (lW k3));have hn:=ng hp _ _ _ hc (lW k3);obtain⟨s1,s2⟩:=JN hp π v (f x).cells v1 cells.toList (g x).cells.toList m z r hs (by rw[hn];exact lW k2) hc hv1;simp only[ld]at hn s2;obtain⟨cells1,c1,c2⟩:=P5 (place:=λi=>(place i).map λq=>q.2) (cells:=cells) (i:=i) (v:=g x) (vals:=parts.map λq=>(q.1,g q.2)) (off:=m) (n:=n) (by simp[hpl]) hn aa;rw[←c1]at s1;obtain⟨cells',e1,e2⟩:=IJ hp place f g parts v1 v' cells1 (λq hq=>hfg q (by simp[hq])) s1 h;exact⟨cells',by rw[gO,c2];exact e1,e2⟩
     ·cases h
   ·cases h
  ·cases h
theorem OY{pl pl':Nat->Option (Nat×Nat)}(h:∀i q,pl i=some q->pl' i=some q):∀(l:List (Nat×Value)) (cells cells':lP),Instr.fill pl cells l=some cells'->Instr.fill pl' cells l=some cells'
 |[],cells,cells',hf=>hf
 |(i,v)::l,cells,cells',hf=>by
  unfold Instr.fill at hf⊢
  cases hp:pl i with
  |none=>simp only[hp]at hf;cases hf
  |some q=>
   obtain⟨off,n⟩:=q;simp only[hp]at hf;simp only[h i _ hp];split at hf
   ·cases hf
   ·rename_i hc;rw[ai hc];exact OY h l _ _ hf
theorem ds(x:Array α):toL x=x.toList:=by cases x;rfl
theorem Z9(hB:TabOk P B)(hp:Hp F p M w)(hL:∀b,¬p.L b)(f:eD)(hf:∀q∈parts.toList,aj p.β M (Imm F p M w) w (f q.2) (a.eval q.2))(hv:ab (pq B t (toL parts) f M).vc)(qt:bC)(hop:op.op=.build t parts):
  ∃v w',(execOp a.eval op).run P w=.ok (.value v) w'/\cu F p M w qt (pq B t (toL parts) f M) v w':=by
 unfold pq at hv⊢
 cases hk:aP [(B.τ t).ok,yo B (B.τ t),B.z t]with
 |false=>rw[hk]at hv;exact hv.1.elim
 |true=>
  rw[hk]at hv;simp only[aD]at hv⊢;simp only[bQ,bT,bM,ao]at hk;split at hv
  ·rename_i v hev;have eτ:=hB.τ t hk.1
   cases harr:(B.τ t).arr with
   |some q=>
    obtain⟨e,n⟩:=q;have hbo:=hk.2.1;simp only[yo,harr]at hbo;have ee:=hB.τ e hbo;obtain⟨inf,z,hi,hz,h0⟩:=vj hB hk.2.2;obtain⟨ie,ue,hie,hue⟩:=dQ (by rw[ee];exact hbo);obtain⟨inf',u,hi',hu⟩:=dQ (P:=P) (t:=t) (by rw[eτ];exact hk.1);rw[hi]at hi';cases hi';have hu2:u=.array n e:=by rw[←eτ,dB hi hu]at harr;simp only[eL]at harr;cases u<;>simp at harr;rw[harr.1,harr.2]
    subst hu2;have hsz:(B.τ e).size=ie.size:=by rw[←ee,dB hie hue];rfl
    rw[ds]at hev;obtain⟨cells',h1,h2⟩:=IJ hp _ f a.eval parts.toList (iZ (B.σ t)) v z.cells hf ((tm (B.σ t) _ h0).2 _ _) hev
    have hb:P.built t (parts.toList.map λq=>(q.1,a.eval q.2))=some cells':=by
     simp only[Program.built,hi,hu,hz,hie];refine OY (λi q hq=>?_) _ _ _ h1;simp only[FN,harr]at hq
     cases hl:Nat.ble (Nat.succ i) n with
     |false=>rw[hl]at hq;cases hq
     |true=>rw[hl]at hq;simp only[aD,dX,aG]at hq;rw[←hq,hsz];rfl
    refine⟨.agg cells',w,?_,?_⟩
    ·have:=run_build w t ((parts.toList.map λq=>(q.1,a.eval q.2)).toArray) cells' (by simpa using hb);simp only[execOp,hop,gU];rw[show (parts.map λx=>match x with|(i,x)=>(i,a.eval x))=(parts.toList.map λq=>(q.1,a.eval q.2)).toArray from by apply mM;simp];rw[this];rfl
    ·refine cu.pure (q:=([],.ag v)) hp hL ?_ qt;simp only[aj];exact⟨cells'.toList,ak,h2⟩
   |none=>
   have hpl:FN B (B.τ t)=λi=>(match eQ (B.τ t).fld i with|some q=>some (rx (len (B.τ t).fld) i,q.1,q.2.2)|none=>none):=by funext i;simp only[FN,harr];cases eQ (B.τ t).fld i<;>rfl
   rw[hpl]at hev;simp only[yo,harr]at hk;rw[←eτ]at hk hev;obtain⟨inf,z,hi,hz,h0⟩:=vj hB hk.2.2;obtain⟨inf',u,hi',hu⟩:=dQ hk.1;rw[hi]at hi';cases hi';rw[dB hi hu]at hk hev;have hsz:=hk.2.1;simp only[eL]at hsz hev;cases u<;>simp at hsz
   case struct fs=>
    simp only at hev;rw[ds]at hev;obtain⟨cells',h1,h2⟩:=IJ hp _ f a.eval parts.toList (iZ (B.σ t)) v z.cells hf ((tm (B.σ t) _ h0).2 _ _) hev
    have hb:P.built t (parts.toList.map λq=>(q.1,a.eval q.2))=some cells':=by
     have hplaces:fs.toList.mapM (λf=>(P.info? f.type).map λi=>(f.offset,i.size))=some (fs.toList.map λf=>(f.offset,P.cellsOf f.type)):=by
      have v3':∀f∈fs.toList,(P.info? f.type).isSome=true:=λf hfm=>by obtain⟨i,hi',rfl⟩:=Array.getElem_of_mem (lj.1 hfm);exact hsz i hi'
      generalize fs.toList=l at v3'
      induction l with
      |nil=>rfl
      |cons f l ih=>
       have hf':=v3' f ak
       cases hif:P.info? f.type with
       |none=>rw[hif]at hf';cases hf'
       |some i'=>simp only[List.mapM_cons,dX,gO,ih (λg hg=>v3' g (by simp[hg])),Program.cellsOf,hif];rfl
     simp only[Program.built,hi,hu,hz,hplaces];rw[←h1];congr 1
     funext i
     simp only[ti,fQ,List.getElem?_toArray];cases fs.toList[i]?<;>rfl
    refine⟨.agg cells',w,?_,?_⟩
    ·have:=run_build w t ((parts.toList.map λq=>(q.1,a.eval q.2)).toArray) cells' (by simpa using hb);simp only[execOp,hop,gU];rw[show (parts.map λx=>match x with|(i,x)=>(i,a.eval x))=(parts.toList.map λq=>(q.1,a.eval q.2)).toArray from by apply mM;simp];rw[this];rfl
    ·refine cu.pure (q:=([],.ag v)) hp hL ?_ qt;simp only[aj];exact⟨cells'.toList,ak,h2⟩
  ·exact hv.1.elim
theorem S9(x:α)(n:Nat):iR x n=List.replicate n x:=by
 induction n with
 |zero=>rfl
 |succ n ih=>rw[iR,ih];rfl
theorem Sy(l:List α)(i:Nat)(y:α):ua l i y=l.set i y:=by
 induction l generalizing i with
 |nil=>rfl
 |cons x l ih=>cases i with
  |zero=>rfl
  |succ i=>rw[ua,ih];rfl
theorem aag(q:α->Bool)(l:List α):BL q l=true<->∀x∈l,q x=true:=by
 induction l with
 |nil=>simp[BL]
 |cons x l ih=>simp only[BL,cQ,forall_eq_or_imp];cases h:q x<;>simp[ih]
def yp(β:gM)(M:Mem)(Im:aT)(w:aK)(sz:Nat)(l:cK)(xs:aJ):Prop:=xs.length=l.length*sz/\∀(i:Nat)(v:V),l[i]? = some v->ac β M Im w v ((xs.drop (i*sz)).take sz)
theorem NX(z:bm)(size:Nat)(hzl:z.cells.size=size):∀m,(madeCells z.cells (m*size)).toList=(List.replicate m z.cells.toList).flatten:=by
 intro m;apply lR;intro j;by_cases hj:j<m*size
 ·have hpos:0<size:=wu (λh0=>by rw[h0]at hj;omega);have hmod:=Nat.mod_lt j hpos;have h1:(madeCells z.cells (m*size)).toList[j]? = some (z.cells[j%z.cells.size]!):=by simp[madeCells,hj]
  rw[h1,hzl]
  have key:∀(m j:Nat),j<m*size->((List.replicate m z.cells.toList).flatten)[j]? = some z.cells[j%size]!:=by
   intro m
   induction m with
   |zero=>intro j hj;omega
   |succ m ih=>
    intro j hj;rw[wv,ww,List.getElem?_append];simp only[ld,hzl];by_cases hjs:j<size
    ·rw[am hjs,Nat.mod_eq_of_lt hjs];simp[hzl,hjs,getElem!_pos]
    ·rw[ai hjs,ih (j-size) (by rw[jk]at hj;omega)];congr 2;rw[←Nat.mod_eq_sub_mod aa]
  rw[key m j hj]
 ·rw[jj (by simp[madeCells];omega),jj];simp[hzl];omega
theorem IT{zs:aJ}:∀(n i:Nat),i<n->(((List.replicate n zs).flatten.drop (i*zs.length)).take zs.length)=zs
 |0,i,h=>aa
 |n+1,0,h=>by simp[wv]
 |n+1,i+1,h=>by rw[wv,ww,Nat.succ_mul,Nat.add_comm,←wj,List.drop_left];exact IT n i aa
theorem yp.rep{v:V}(h:ac β M Im w v zs)(n:Nat):yp β M Im w zs.length (iR v n) (List.replicate n zs).flatten:=by
 rw[S9];refine⟨ak,λi x hx=>?_⟩;rw[yN]at hx;split at hx
 ·rename_i hi;cases hx;rw[IT n i hi];exact h
 ·cases hx
theorem OC(hp:Hp F p M w){sz:Nat}(f:eD)(g:Operand->Value):(parts:oP)->(l l':cK)->(cells:lP)->(∀q∈parts,aj p.β M (Imm F p M w) w (f q.2) (g q.2))->
  yp p.β M (Imm F p M w) w sz l cells.toList->jU M sz f parts l=some l'->
  ∃cells',Instr.fill (λi=>some (i*sz,sz)) cells (parts.map λq=>(q.1,g q.2))=some cells'/\yp p.β M (Imm F p M w) w sz l' cells'.toList/\l'.length=l.length
 |[],l,l',cells,_,r,h=>by simp only[jU,aG]at h;subst h;exact⟨cells,rfl,r,rfl⟩
 |(i,x)::parts,l,l',cells,hfg,r,h=>by
  simp only[jU]at h
  cases hb:nob (Nat.ble (Nat.succ i) (len l)) (fX M (f x).cells sz)with
  |false=>rw[hb]at h;cases h
  |true=>
   rw[hb]at h;simp only[aD]at h;simp only[aU,ao]at hb;have hi:i<l.length:=by have:=ia hb.1;rw[AO]at this;omega
   have k3:=hb.2;have hc:=xr hp (hfg (i,x) ak) (Ao (lW k3));have hn:=ng hp _ _ _ hc (lW k3);obtain⟨r1,r2⟩:=r;have hle:i*sz+sz<=l.length*sz:=by have:=kw sz (show i+1<=l.length from hi);rw[jk]at this;omega
   simp only[ld]at hn r1;obtain⟨cells1,c1,c2⟩:=P5 (place:=λi=>some (i*sz,sz)) (cells:=cells) (i:=i) (v:=g x) (vals:=parts.map λq=>(q.1,g q.2)) (off:=i*sz) (n:=sz) rfl hn aa
   have hr1:yp p.β M (Imm F p M w) w sz (ua l i (f x).cells) cells1.toList:=by
    rw[Sy,c1];refine⟨?_,λj v hj=>?_⟩
    ·unfold dA;simp[hn];omega
    ·rw[RE (n:=l.length) (by simpa using r1) hi (by simpa using hn)];rw[wm]at hj;by_cases e:j=i
     ·subst e;rw[am rfl,am hi]at hj;cases hj;rw[am rfl];exact hc
     ·rw[ai (dg e)]at hj;rw[ai e];exact r2 j v hj
   obtain⟨cells',e1,e2,e3⟩:=OC hp f g parts _ l' cells1 (λq hq=>hfg q (by simp[hq])) hr1 h;exact⟨cells',by rw[gO,c2];exact e1,e2,by rw[e3,Sy,fx]⟩
theorem YG{o:Option Ob}(h:go M' k=none\/go M' k=o)(ho:o=none):go M' k=none:=by rcases h with h|h<;>rw[h]<;>exact ho
theorem tA(a:List α):ap a []=a:=by rw[fB];simp
theorem O6(k:Nat)(o:O):(l:cK)->(ev:cg)->(M:Mem)->(p:Ow)->(rows:List (List Value))->(xs:List o.strip.den)->(e:cg)->(M':Mem)->Hp F p M w->go M k=none->
  rows.length=l.length->(∀(i:Nat)(v:V)(vs:aJ),l[i]? = some v->rows[i]? = some vs->ac p.β M (Imm F p M w) w (v.evs ev) vs)->jr k o ev l M=some (xs,e,M')->
  ∃e1 p',∃T:Nat->Nat->Prop,e=ap ev e1/\Tr F p M w e1 p' M' w/\go M' k=none/\xs.length=l.length/\(∀b,p'.L b<->p.L b\/∃i,T i b)/\(∀i b,T i b->¬p.L b)/\(∀i j b,i≠j->T i b->¬T j b)/\
   (∀(i:Nat)(x:o.strip.den)(vs:aJ),xs[i]? = some x->rows[i]? = some vs->Rel (Imm F p' M' w) w o x (T i) vs)/\((e1=[]/\M'=M/\p'=p)\/∃x r,e1=x::r/\dv M [x]=false)
 |[],ev,M,p,rows,xs,e,M',h,hk,hl,hr,hc=>by simp only[jr,aG,bS]at hc;obtain⟨rfl,rfl,rfl⟩:=hc;exact⟨[],p,λ_ _=>False,(tA ev).symm,Tr.refl h,hk,rfl,λb=>ak,λi b hb=>hb.elim,λi j b _ hb=>hb.elim,λi x vs hx=>by simp at hx,.inl ⟨rfl,rfl,rfl⟩⟩
 |v::r,ev,M,p,rows,xs,e,M',h,hk,hl,hr,hc=>by
  simp only[jr]at hc;split at hc
  ·rename_i x e0 M1 hc1;split at hc
   ·rename_i l1 e2 M2 hc2;simp only[aG,bS]at hc;obtain⟨rfl,rfl,rfl⟩:=hc
    cases rows with
    |nil=>simp at hl
    |cons vs rows=>
     obtain⟨g,p1,S,cv⟩:=QH h k o (v.evs ev) vs x e0 (hr 0 v vs rfl rfl) hc1;have hk1:go M1 k=none:=YG g hk;obtain⟨e1,p',T,i1,i2,i3,i4,i5,i6,i7,i8,i9⟩:=O6 k o r (ap ev e0) M1 p1 rows l1 _ _ cv.tr.hp hk1 (by simpa using hl) (λi v' vs' hv' hvs'=>by rw[xO];exact cv.tr.c _ _ (hr (i+1) v' vs' (by simpa using hv') (by simpa using hvs'))) hc2;refine⟨ap e0 e1,p',λi=>match i with|0=>S|i+1=>T i,by rw[i1];simp only[fB,eP],cv.tr.trans i2,i3,by simp[i4],λb=>?_,λi b hb=>?_,λi j b hij hb=>?_,λi x' vs' hx hvs=>?_,?_⟩
     ·rw[i5,cv.L];constructor
      ·rintro ((h1|h1)|⟨i,h1⟩)
       ·exact .inl h1
       ·exact .inr ⟨0,h1⟩
       ·exact .inr ⟨i+1,h1⟩
      ·rintro (h1|⟨i,h1⟩)
       ·exact .inl (.inl h1)
       ·cases i with
        |zero=>exact .inl (.inr h1)
        |succ i=>exact .inr ⟨i,h1⟩
     ·cases i with
      |zero=>exact cv.sp b hb
      |succ i=>exactλhL=>i6 i b hb ((cv.L b).2 (.inl hL))
     ·cases i with
      |zero=>
       cases j with
       |zero=>exact absurd rfl hij
       |succ j=>exactλhb'=>i6 j b hb' ((cv.L b).2 (.inr hb))
      |succ i=>
       cases j with
       |zero=>exactλhb'=>i6 i b hb ((cv.L b).2 (.inr hb'))
       |succ j=>exact i7 i j b (λe=>hij (by rw[e])) hb
     ·cases i with
      |zero=>simp only[jG,aG]at hx hvs;subst hx;subst hvs;exact Rel.keep i2.keep _ _ _ _ (λ_ _=>rfl) cv.rel
      |succ i=>exact i8 i x' vs' (by simpa using hx) (by simpa using hvs)
     ·rcases cv.fr with⟨rfl,rfl,rfl⟩|⟨y,ry,rfl,hy⟩
      ·exact i9
      ·exact .inr ⟨y,ap ry e1,rfl,hy⟩
   ·cases hc
  ·cases hc
theorem A4(e:cg):∀(l:cK)(i:Nat),(gv e l)[i]? = (l[i]?).map λv=>v.evs e
 |[],i|v::l,0=>by simp[gv]
 |v::l,i+1=>by simp only[gv,oR];exact A4 e l i
theorem qV(e:cg):∀l:List V,(gv e l).length=l.length
 |[]=>rfl
 |v::l=>by simp[gv,qV e l]
def pA(sz n:Nat)(xs:aJ):List (List Value):=(List.range n).map λi=>(xs.drop (i*sz)).take sz
theorem Z8(sz n:Nat)(xs:aJ):(pA sz n xs).length=n:=by simp[pA]
theorem ZO{i:Nat}(h:(pA sz n xs)[i]? = some vs):vs=(xs.drop (i*sz)).take sz:=by
 unfold pA at h;rw[fQ]at h;by_cases hi:i<n
 ·rw[nO hi]at h;simpa using h.symm
 ·rw[jj (by simpa using hi)]at h;cases h
theorem KS(h:n<=nb):n<=maxLen:=by unfold nb at h;unfold maxLen;omega
theorem aat(hB:TabOk P B)(h:Hp F p M w)(hL:∀b,¬p.L b)(f:eD)(hf:∀q∈parts.toList,aj p.β M (Imm F p M w) w (f q.2) (a.eval q.2))(o:fu)(hv:ab (n5 B t n (toL parts) f o M).vc)(qt:bC)(hop:op.op=.buildSlice t n parts):
  ∃v w',(execOp a.eval op).run P w=.ok (.value v) w'/\cu F p M w qt (n5 B t n (toL parts) f o M) v w':=by
 unfold n5 at hv⊢;split at hv
 ·rename_i k e he;split at hv
  ·rename_i l hl
   cases hk:aP [(B.τ t).ok,(B.τ e).ok,B.z e,Nat.ble (Nat.mul n (B.τ e).size) 16777216,Nat.ble n nb,cy (B.σ e).size (B.τ e).size]with
   |false=>rw[hk]at hv;exact hv.1.elim
   |true=>
    simp only[hl,hk,aD]at hv⊢;simp only[bQ,bT,bM,ao,eZ,cR]at hk;obtain⟨k1,k2,k3,k4,k5,k6⟩:=hk;replace k4:=ia k4;replace k5:=ia k5;have eτ:=hB.τ t k1;have eτ':=hB.τ e k2;obtain⟨infe,z,hie,hz,h0⟩:=vj hB k3;rw[←eτ']at k2 k4 k6 hl;rw[←eτ]at k1 he;obtain⟨inf,u,hi,hu⟩:=dQ k1;obtain⟨infe',ue,hie',hue⟩:=dQ k2;rw[hie]at hie';cases hie';rw[dB hi hu]at he;rw[dB hie hue]at k4 k6 hl;simp only[eL]at he k4 k6 hl;cases u<;>simp at he;obtain rfl:=he.symm;obtain⟨z1,z2⟩:=tm (Im:=Imm F p M w) (w:=w) (B.σ e) _ h0;have hzl:z.cells.size=infe.size:=by have:=Rel.len _ _ _ _ z1;rw[Aw,k6]at this;simpa using this
    have hrep:=yp.rep (z2 p.β M) n;rw[←NX z infe.size hzl n,show z.cells.toList.length=infe.size by simpa using hzl]at hrep;rw[ds]at hl;obtain⟨cells',c1,c2,c3⟩:=OC h f a.eval parts.toList _ l (madeCells z.cells (n*infe.size)) hf hrep hl;have hln:l.length=n:=by rw[c3,S9,lk]
    have hrun:(execOp a.eval op).run P w=.ok (.value (.slice (some ⟨w.heap.size,0,none⟩) n n)) (w.alloc (.cells cells' e)):=by
     have h1':Instr.fill (λi=>some (i*infe.size,infe.size)) ((Array.range (n*infe.size)).map λx=>z.cells[x%z.cells.size]!) (parts.map λx=>match x with|(i,x)=>(i,a.eval x)).toList=some cells':=by rw[←c1];simp[madeCells]
     have k4':n*infe.size<=16777216:=k4;have hsmall:¬(16777216<n*infe.size):=aa
     by_cases h0:n*infe.size=0
     ·simp only[execOp,hop,Instr.buildSlice,d8 hu,sizeOf,typeInfo,run_program,hie,gU,oS,jn,Sem.run_ite,h0,eX];rw[h0]at h1';simp only[show (Array.range 0).map (λx=>(#[]:Array Value)[x%(#[]:Array Value).size]!)=(Array.range 0).map λx=>z.cells[x%z.cells.size]! from by simp,h1'];simp[newRow]
     ·simp[execOp,hop,Instr.buildSlice,d8 hu,sizeOf,typeInfo,hie,hsmall,h0,zeroValue,hz,newRow];simp at h1';simp[h1']
    have hgrow:w.grownBy (w.alloc (.cells cells' e)) none:=yL w _ none
    have hown:(w.alloc (.cells cells' e)).ownsRow 0 e infe.size (.slice (some ⟨w.heap.size,0,none⟩) n n) n cells'.toList:=by
     have hsz:cells'.size=n*infe.size:=by have:=c2.1;rw[hln]at this;simpa using this
     exact⟨by simpa using hsz,.inr ⟨w.heap.size,n,cells',rfl,dO _,rR w _,aZ _,KS k5,hsz,uh (by simp[hsz])⟩⟩
    have hroot:∀b,dI (.slice (some ⟨w.heap.size,0,none⟩) n n)=some b->w.heap.size<=b/\b<(w.alloc (.cells cells' e)).heap.size:=λb hb=>by have hb:=OB hb;subst hb;exact⟨aZ _,(eF.1 (rR w _)).1⟩
    have hrel:∀(i:Nat)(v:V)(vs:aJ),(gv [.kl k] l)[i]? = some v->(pA infe.size n cells'.toList)[i]? = some vs->ac p.β (del k M) (Imm F p (del k M) w) w (v.evs []) vs:=λi v vs hv hvs=>by
     rw[A4]at hv
     cases hli:l[i]? with
     |none=>rw[hli]at hv;cases hv
     |some v0=>rw[hli]at hv;cases hv;rw[ZO hvs];exact (Tr.kl h k).c _ _ (c2.2 i v0 hli)
    have key:∀(oo:O)(x:List oo.strip.den)(ev:cg)(M':Mem),jr k oo [] (gv [.kl k] l) (del k M)=some (x,ev,M')->oo.size=infe.size->
      cu F p M w qt ⟨[],.ref k [],.kl k::ev,(k,⟨.sl oo,x⟩)::M'⟩ (.slice (some ⟨w.heap.size,0,none⟩) n n) (w.alloc (.cells cells' e)):=λoo x ev M' hcv hos=>by
     obtain⟨e1,p',T,i1,i2,i3,i4,i5,i6,i7,i8,i9⟩:=O6 k oo _ [] (del k M) p (pA infe.size n cells'.toList) x ev M' (AV h k) (fU k M) (by rw[Z8,qV,hln]) hrel hcv;simp only[ap]at i1;subst i1;have hxl:x.length=n:=by rw[i4,qV,hln]
     refine R4 h k i2 i3 ⟨hgrow,aZ _⟩ (ety:=e) (xs:=cells'.toList) (T:=T) (by rw[hxl,hos];exact hown) hroot (by rw[hxl];exact k5) (λi c hc=>(i5 c).2 (.inr ⟨i,hc⟩)) i7 (λi y hy=>?_) i9 qt;rw[hos];have hi:i<n:=by rw[←hxl];exact (gN.1 hy).1
     exact i8 i y _ hy (by unfold pA;rw[fQ,nO hi];rfl)
    refine⟨_,_,hrun,?_⟩;split at hv
    ·rename_i hnil;have hn:n=0:=by have:=congrArg List.length hnil;rw[qV,hln]at this;simpa using this
     subst hn;refine⟨p,Tr.ext h (Ext.of_grown hgrow (aZ _)),hL,?_,λ_ _=>⟨Ext.of_grown hgrow (aZ _),λj ob hj=>⟨hj,rfl,rfl⟩⟩⟩;unfold SH;split
     ·rename_i e' _;rw[bn];simp only[ah];refine .inr ⟨[],_,_,_,rfl,rfl,_,0,rfl,⟨dO _,aZ _⟩,λ_=>⟨rfl,rfl⟩,λa ha hpos=>absurd hpos (uj 0)⟩
     ·simp only[aj,ac];exact⟨_,rfl⟩
    ·rename_i v r hcons;split at hv
     ·rename_i q e0 M0 hcv0;split at hv
      ·rename_i x ev M' hcv;refine key q.o x ev M' (by rw[hcons];exact hcv) ?_
       have hr0:=hrel 0 v ((pA infe.size n cells'.toList).headD []) (by rw[hcons];rfl) (by
        have hn:0<n:=by have:=congrArg List.length hcons;rw[qV,hln]at this;simp at this;omega
        cases n with
        |zero=>omega
        |succ n=>simp[pA,List.range_succ_eq_map])
       simp only[V.evs]at hr0;obtain⟨g,p',S,cv⟩:=ve k (B.σ e) v (del k M) p _ q e0 M0 (AV h k) hr0 hcv0;have h1:=Rel.len _ _ _ _ cv.rel;rw[←h1];have hn:0<n:=by have:=congrArg List.length hcons;rw[qV,hln]at this;simp at this;omega
       have hcl:cells'.toList.length=n*infe.size:=by rw[c2.1,hln]
       have hle:infe.size<=n*infe.size:=Nat.le_mul_of_pos_left _ hn
       cases n with
       |zero=>omega
       |succ n=>simp[pA,List.range_succ_eq_map];rw[ld]at hcl;omega
      ·split at hv
       ·rename_i x ev M' hcv;exact key (.fz (B.σ e)) x ev M' (by rw[hcons];exact hcv) (by simp only[O.size,O.strip];exact k6)
       ·exact hv.1.elim
     ·exact hv.1.elim
  ·exact hv.1.elim
 ·exact hv.1.elim
theorem P6{zs:aJ}:∀(c n:Nat),n<=c->(List.replicate c zs).flatten.take (n*zs.length)=(List.replicate n zs).flatten
 |_,0,_=>ak
 |0,n+1,h=>aa
 |c+1,n+1,h=>by rw[wv,ww,wv,ww,Nat.succ_mul,Nat.add_comm,List.take_length_add_append,P6 c n aa]
theorem acj{nl nc:Int}(h:0<=nl/\nl<=nc/\nc<=(nb:Int)/\nc*(b:Int)<=(nb:Int)):∃n c:Nat,nl=n/\nc=c/\n<=c/\c<=nb/\c*b<=nb:=by
 obtain⟨h1,h2,h3,h4⟩:=h;obtain⟨n,rfl⟩:=Int.eq_ofNat_of_zero_le h1;obtain⟨c,rfl⟩:=Int.eq_ofNat_of_zero_le (wx h1 h2);refine⟨n,c,rfl,rfl,aa,aa,?_⟩;have:((c*b:Nat):Int)<=(nb:Int):=by rw[Int.natCast_mul];exact h4
 omega
theorem c_(hB:TabOk P B)(h:Hp F p M w)(hL:∀b,¬p.L b){l c:eO}(x y:V)(hx:aj p.β M (Imm F p M w) w x (a.eval l))(hy:aj p.β M (Imm F p M w) w y (a.eval c))(o:fu)(hv:ab (Be B t x y o M).vc)(qt:bC)(hop:op.op=.makeSlice t l c):
  ∃v w',(execOp a.eval op).run P w=.ok (.value v) w'/\cu F p M w qt (Be B t x y o M) v w':=by
 unfold Be at hv⊢;split at hv
 ·rename_i k e kl nl kc nc he
  cases hk:aP [(B.τ t).ok,(B.τ e).ok,B.z e,cy (B.σ e).size (B.τ e).size]with
  |false=>rw[hk]at hv;exact hv.1.elim
  |true=>
   simp only[he,hk,aD,e9,eY,aA]at hv⊢;simp only[bQ,bT,bM,ao,eZ,cR]at hk;obtain⟨k1,k2,k3,k4⟩:=hk;simp only[bn,dZ]at hx hy;have eτ:=hB.τ t k1;have eτ':=hB.τ e k2;obtain⟨infe,z,hie,hz,h0⟩:=vj hB k3;rw[←eτ']at k2 k4;simp only[←eτ']at hv;rw[←eτ]at k1 he;obtain⟨inf,u,hi,hu⟩:=dQ k1;obtain⟨infe',ue,hie',hue⟩:=dQ k2;rw[hie]at hie';cases hie';rw[dB hi hu]at he;rw[dB hie hue]at k4;simp only[dB hie hue]at hv;simp only[eL]at he hv k4;cases u<;>simp at he;obtain rfl:=he.symm;obtain⟨n,c',rfl,rfl,v2,v3,v4⟩:=acj hv;obtain⟨z1,z2⟩:=tm (Im:=Imm F p (del k M) w) (w:=w) (B.σ e) _ h0;have hzl:z.cells.toList.length=infe.size:=by have h1:=Rel.len _ _ _ _ z1;rw[Aw,k4]at h1;exact h1
   have hbytes:(infe.bytes:Int)*((c':Nat):Int)<=281474976710656:=by
    have:((c'*infe.bytes:Nat):Int)<=281474976710656:=by have:=v4;simp only[nb]at this;omega
    rw[Int.natCast_mul,Int.mul_comm]at this;exact this
   have hr:=run_make (P:=P) w t e infe z hu hie hz kl kc (n:Int) (c':Int) aa aa hbytes (by have:=v3;simp only[nb]at this;omega);simp only[bB]at hr;have hown:(w.alloc (.cells (madeCells z.cells (c'*infe.size)) e)).ownsRow 0 e infe.size (.slice (some ⟨w.heap.size,0,none⟩) n c') n (List.replicate n z.cells.toList).flatten:=by refine⟨by simp[←hzl],.inr ⟨w.heap.size,c',_,rfl,dO _,rR w _,v2,KS v3,size_madeCells _ _,?_⟩⟩;rw[NX z infe.size (by simpa using hzl),←hzl];exact P6 c' n v2
   have hd:=R4 h k (e0:=[]) (o:=(B.σ e).deep) (l:=List.replicate n (B.σ e).deep.dflt) (T:=λ_ _=>False) (Tr.refl (AV h k)) (fU k M) ⟨yL w (.cells (madeCells z.cells (c'*infe.size)) e) none,aZ _⟩
    (ety:=e) (v:=.slice (some ⟨w.heap.size,0,none⟩) n c') (xs:=(List.replicate n z.cells.toList).flatten) (by rw[lk,Aw,k4];exact hown)
    (λb hb=>by have hb:=OB hb;subst hb;exact⟨aZ _,(eF.1 (rR w _)).1⟩) (by rw[lk];omega) (λi c hc=>hc.elim) (λi j c _ hc=>hc.elim)
    (λi x hx=>by
     rw[yN]at hx;split at hx
     ·rename_i hi;cases hx;rw[show (B.σ e).deep.size=z.cells.toList.length by rw[Aw,k4,hzl],IT n i hi];exact z1
     ·cases hx) (.inl ⟨rfl,rfl,rfl⟩) qt
   refine⟨_,_,?_,hd⟩;simp[execOp,hop,hx.1,hy.1,hr]
 ·exact hv.1.elim
theorem E_{ob2:Ob}{c:Prop}(h:FM π ob=some (c,ob2)):∃(p0:bA)(i:Nat)(e:O)(l:List (Option e.strip.den)),kD π=some (p0,i)/\get p0 ob.o ob.x=some ⟨.sl (.op e),l⟩/\c=(vP l=true)/\set p0 ob.o ob.x ⟨.sl e,kS e.dflt l⟩=some ob2:=by
 unfold FM at h;split at h
 ·rename_i p0 i hx;split at h
  ·rename_i e l hq;split at h
   ·rename_i o2 hs;simp only[aG,bS]at h;obtain⟨rfl,rfl⟩:=h;exact⟨p0,i,e,l,hx,hq,rfl,hs⟩
   ·cases h
  ·cases h
 ·cases h
theorem Z3(hB:TabOk P B)(h:Hp F p M w)(hL:∀b,¬p.L b){x0 y0:eO}(x y:V)(hx:aj p.β M (Imm F p M w) w x (a.eval x0))(hy:aj p.β M (Imm F p M w) w y (a.eval y0))(hv:ab (vf B t x y M).vc)(hop:op.op=.store t x0 y0):
  ∃w',(execOp a.eval op).run P w=.ok .skip w'/\cu F p M w false (vf B t x y M) undef w':=by
 unfold vf at hv⊢;split at hv
 ·rename_i k π;split at hv
  ·rename_i ob q hob hq
   cases hk:aP [(B.τ t).ok,fX M y.cells (B.τ t).size,cy q.o.strip.size (B.τ t).size,neg (isZ (B.τ t).size)]with
   |false=>rw[hk]at hv;exact hv.1.elim
   |true=>
    simp only[hk,aD]at hv⊢;simp only[bQ,bT,bM,ao,eZ,cR]at hk;obtain⟨k1,k2,k3,k4⟩:=hk;split at hv
    ·rename_i z e M' hcv;split at hv
     ·rename_i obx ob' hgx hset
      cases hz:cy z.o.strip.size (B.τ t).size with
      |false=>rw[hz]at hv;exact hv.1.elim
      |true=>
       simp only[hz,aD]at hv⊢;simp only[eZ,cR]at hz;have hcy:=xr h hy (Ao (lW k2));have hny:=ng h _ _ _ hcy (lW k2)
       have hcvo:(go M' k=none\/go M' k=go M k)/\∃p1 S,Cv F p M w k z e (a.eval y0).cells.toList p1 M' S:=by
        cases hix:r9 π with
        |true=>
         rw[hix]at hcv;simp only[aD]at hcv;split at hcv
         ·rename_i z' e' M1 hcw;cases hcv;exact QH h k q.o _ _ z' e hcy hcw
         ·cases hcv
        |false=>rw[hix]at hcv;simp only[bp]at hcv;obtain⟨g,r⟩:=abr B.tk k (B.σ t) _ M p _ z e M' h hcy hcv;exact⟨.inr g,r⟩
       obtain⟨g,p1,S,cv⟩:=hcvo
       have hgk:go M' k=some ob:=by
        rcases g with g|g
        ·rw[g]at hgx;cases hgx
        ·rw[g,hob]
       have hp1:=cv.tr.hp;simp only[aj,ac,bH,aA,exists_eq_left']at hx;have hx1:Adr p1.β M' w k π (a.eval x0):=hx.same h (by rw[hgk,hob]) (by rw[cv.β]) (λ_ _ _=>rfl);obtain⟨ob2,us0,b,off,j1,j2,j3,j4,j5,j6⟩:=hx1;rw[hgk]at j1;cases j1;obtain⟨ob3,q1,q2⟩:=od hq;rw[hob]at q1;cases q1;obtain⟨us,pl,S',e1,e2,e3,e4,e5,e6⟩:=look hp1 hgk j2 q2;rw[e1]at j5;simp only[aG,bS]at j5;obtain⟨rfl,rfl⟩:=j5;obtain⟨b0,off0,cur,ty',c1,c2,c3,c4,c5⟩:=e4 j4;simp only[aG,bS]at c1;obtain⟨rfl,rfl⟩:=c1;have hlen:us.length=(a.eval y0).cells.toList.length:=by rw[Rel.len _ _ _ _ e3,hny];exact k3
       have hpos:0<us.length:=by
        rw[hlen,hny]
        cases hs:(B.τ t).size with
        |zero=>rw[hs]at k4;simp[isZ]at k4
        |succ n=>omega
       have hfit:off+us.length<=cur.size:=by have:=c5 (us.length-1) us[us.length-1] (bX aa);have:=(eF.1 this).1;omega
       have hone:=ac.one h _ _ hcy;have hrun:=run_storeCells_at P b off ty' (a.eval y0).cells.toList 0 cur w c4 (by rw[←hlen];omega) hone;simp only[Nat.add_zero]at hrun;generalize hw':w.setRow b (cur.toList.take off++(a.eval y0).cells.toList++cur.toList.drop (off+(a.eval y0).cells.toList.length)).toArray=w' at hrun;have hchg:Chg w w' (λc=>cn π=true/\∃o,some (b,off)=some (c,o)):=by subst hw';refine⟨rfl,⟨rfl,aZ _⟩,rfl,ak,λc hc=>setRow_other w b c _ (λe=>hc ⟨j4,off,by rw[e]⟩)⟩
       have hblk:w'.heap[b]? = some (.cells (dA cur.toList off (a.eval y0).cells.toList).toArray ty' (0,0)):=by subst hw';rw[setRow_heap w b cur _ ty' _ c4];simp only[dA]
       have hput:=Tr.put (L':=λ_=>False) (us':=(a.eval y0).cells.toList) (S'':=S) hp1 hgk e2 e4 e6 hset (by simp only[O.size];rw[hz,k3]) (mZ _ _ _ _ j4) hchg
        (λ_ b' off' hp cur' ty'' hc'=>by simp only[aG,bS]at hp;obtain⟨rfl,rfl⟩:=hp;rw[c4]at hc';cases hc';exact hblk) (λc hc=>.inl ((cv.L c).2 (.inr hc))) (λc hc=>hc.elim) (λhc=>hc.choose_spec.1.elim)
        (λhkp=>Rel.keep hkp _ _ _ _ (λc hc=>hchg.old c (λ⟨_,o,e⟩=>by simp only[aG,bS]at e;obtain⟨rfl,_⟩:=e;exact (hp1.lim b ((cv.L b).2 (.inr hc))).2.2 k (cz hgk) c2)) cv.rel)
       have hgoal:(execOp a.eval op).run P w=.ok .skip w':=by
        have eτ:=hB.τ t k1;rw[←eτ]at k1 hny;obtain⟨inf,ud,hi,hu⟩:=dQ k1;rw[dB hi hu]at hny;simp only[eL]at hny;have hsz:(a.eval y0).cells.size=inf.size:=by simpa using hny
        simp[execOp,hop,Instr.storeAt,Instr.sureAddr,j6,storeVar,sizeOf,typeInfo,hi,hsz,hrun]
       cases hcl:FM π ob' with
       |none=>exact⟨w',hgoal,_,cv.tr.trans hput,λb hb=>hb,by simp only[aj],λ_ hq=>by cases hq⟩
       |some co=>obtain⟨c,ob2⟩:=co;simp only[hcl,e9,eY,aA]at hv⊢;obtain⟨p5,i5,e5,l5,x1,x2,rfl,x3⟩:=E_ hcl;obtain⟨g1,_,_,_⟩:=Kf π ob'.o ob'.x p5 i5 _ x1 x2;obtain⟨p6,hL6,hlab⟩:=Tr.relP hput.hp (sR ob' M' (cz hgk)) g1 x2 x3 rfl (λIm S vs r=>acz e5.dflt hv r);rw[R0]at hlab;exact⟨w',hgoal,p6,cv.tr.trans (hput.trans hlab),λb hb=>(hL6 b).1 hb,by simp only[aj],λ_ hq=>by cases hq⟩
     ·exact hv.1.elim
    ·exact hv.1.elim
  ·exact hv.1.elim
 ·exact hv.1.elim
def Sr(w:aK)(sz:Nat)(u:bm)(m:Nat)(news:aJ):Prop:=news.length=m*sz/\((u=.slice none 0 0/\m=0)\/∃a c,u=.slice (some a) m c/\∀(j:Nat)(x:bm),news[j]? = some x->w.cell? (a.add j)=some x)
theorem JD{g:Nat}(hg:w.heap[g]? = some (.cells cur ety (0,0)))(ht:(cur.toList.drop off).take (n*sz)=xs):
  ∀(j:Nat)(u:bm),xs[j]? = some u->w.cell? ((⟨g,off,none⟩:Addr).add j)=some u:=λj u hu=>by
 rw[qw,lQ w g _ cur ety (0,0) hg];rw[←ht,g7]at hu;split at hu
 ·rw[g8]at hu;simpa using hu
 ·cases hu
theorem NS(w:aK)(t ty e ety:bW)(i:TypeInfo)(z:bm)(ht:P.underlying t=some (.slice e))(hi:P.info? e=some i)(hz:i.zero=some z)(hzs:z.cells.size=i.size)(v u:bm)(n m:Nat)(xs news:aJ)(hown:l7 w ety i.size v n xs)(hsr:Sr w i.size u m news)(h1:∀x∈news,x.oneCell'=true)(hb0:i.bytes≠0)(hbytes:(n+m)*i.bytes<=nb):
  ∃v' w' ety',(Builtin.append_ #[t,t] ty #[v,u]).run P w=.ok v' w'/\l7 w' ety' i.size v' (n+m) (xs++news)/\(w.grownBy w' (dI v)/\w.drawn<=w'.drawn)/\
   (∀b,dI v'=some b->(dI v=some b\/w.heap.size<=b)/\b<w'.heap.size):=by
 have h63:n+m<=maxLen:=by refine KS (eu ?_ hbytes);exact Cn _ (wu hb0)
 have hsmall:n+m<=9223372036854775807:=by simp only[maxLen]at h63;omega
 obtain⟨hl,hsr⟩:=hsr;have hlen:(xs++news).length=(n+m)*i.size:=by rw[bj,hown.1,hl,jk]
 rcases hsr with⟨rfl,rfl⟩|⟨a,c,rfl,hnews⟩
 ·have hn:news=[]:=iS (by simpa using hl);subst hn;refine⟨v,w,ety,?_,by simpa using hown,⟨⟨rfl,rfl,rfl,aZ _,λ_ _ _=>rfl⟩,aZ _⟩,λb hb=>⟨.inl hb,?_⟩⟩
  ·rcases hown.2 with⟨rfl,oa,rfl⟩|⟨g,off,cap,cur,rfl,_,hnc,_⟩
   ·cases oa<;>simp[Builtin.append_,d8 ht,sizeOf,typeInfo,hi,Builtin.lenOf,Builtin.firstCells,storeCells]
   ·simp[Builtin.append_,d8 ht,sizeOf,typeInfo,hi,Builtin.lenOf,Builtin.firstCells,hnc,storeCells]
  ·rcases hown.2 with⟨rfl,oa,rfl⟩|⟨g,off,cap,cur,rfl,hg,_⟩
   ·cases oa<;>cases hb
   ·simp only[dI,aG]at hb;subst hb;exact (eF.1 hg).1
 have grown:∀(old:Nat)(row:fu),
   (w.drew.alloc (.cells (xs.toArray++news.toArray++Builtin.zeroCells z.cells (grownCap w (n+m) old e-(n+m))) e)).ownsRow 0 e i.size
    (.slice (some ⟨w.heap.size,0,none⟩) (n+m) (grownCap w (n+m) old e)) (n+m) (xs++news)/\
   w.grownBy (w.drew.alloc (.cells (xs.toArray++news.toArray++Builtin.zeroCells z.cells (grownCap w (n+m) old e-(n+m))) e)) row:=by
  intro old row;have hge:=grownCap_ge w (n+m) old e;have hcm:grownCap w (n+m) old e<=maxLen:=grownCap_le_maxLen w (n+m) old e h63;refine⟨⟨hlen,.inr ⟨w.heap.size,_,_,rfl,dO _,rR w.drew _,hge,hcm,?_,?_⟩⟩,⟨rfl,rfl,rfl,ak,λk hk _=>Below.heap_alloc w.drew _ k hk⟩⟩
  ·simp only[Array.size_append,List.size_toArray,size_zeroCells,hzs,hown.1,hl,←jk];congr 1;omega
  ·simp only[Array.toList_append,eP];rw[←eP,←hlen];exact Cj
 have rt:∀(N K b:Nat),dI (.slice (some ⟨w.heap.size,0,none⟩) N K)=some b->b=w.heap.size:=λN K b hb=>by
  cases K with
  |zero=>cases hb
  |succ k=>simp only[dI,aG]at hb;exact hb.symm
 rcases hown.2 with⟨rfl,oa,rfl⟩|⟨g,off,cap,cur,rfl,hg,hnc,hcm,hcs,htake⟩
 ·have hx:xs=[]:=iS (by simpa using hown.1);subst hx;by_cases hm:m=0
  ·subst hm;have hn:news=[]:=iS (by simpa using hl);subst hn;refine⟨.slice oa 0 0,w,ety,?_,hown,⟨⟨rfl,rfl,rfl,aZ _,λ_ _ _=>rfl⟩,aZ _⟩,λb hb=>by cases oa<;>cases hb⟩;cases oa<;>simp[Builtin.append_,d8 ht,sizeOf,typeInfo,hi,Builtin.lenOf,Builtin.firstCells,loadCells,loadCellsFrom,storeCells]
  ·cases oa with
   |none=>have hr:=run_append_nil (P:=P) w t ty e i z ht hi hz a m c news hl hnews aa aa (by have hb:=hbytes;simp only[jC,nb]at hb;omega);have hgr:=grown 0 (dI (.slice none 0 0));simp only[jC,rQ,Array.empty_append]at hgr⊢;exact⟨_,_,e,hr,EN hgr.1,⟨hgr.2,wy _⟩,λb hb=>by have:=rt _ _ _ hb;subst this;exact⟨.inr (aZ _),ak⟩⟩
   |some a0=>have hr:=run_append_grow (P:=P) w t ty e i z ht hi hz a0 0 0 [] ak (λj u hu=>by simp at hu) a m c news hl hnews aa aa (growslice_fits aa (by simpa only [nb]using hbytes));have hgr:=grown 0 (dI (.slice (some a0) 0 0));exact⟨_,_,e,hr,EN hgr.1,⟨hgr.2,wy _⟩,λb hb=>by have:=rt _ _ _ hb;subst this;exact⟨.inr (aZ _),ak⟩⟩
 ·by_cases hroom:n+m<=cap+1
  ·have hfit:off+n*i.size+news.length<=cur.size:=by rw[hl,hcs,wi,←jk];exact Nat.add_le_add_left (kw _ hroom) _
   have hr:(Builtin.append_ #[t,t] ty #[.slice (some ⟨g,off,none⟩) n (cap+1),.slice (some a) m c]).run P w =
     .ok (.slice (some ⟨g,off,none⟩) (n+m) (cap+1)) (w.setRow g (cur.toList.take (off+n*i.size)++news++cur.toList.drop (off+n*i.size+news.length)).toArray):=by
    have hf:=run_firstCells_some (P:=P) w i.size m a m c news hl hnews;have hst:=run_storeCells_at P g (off+n*i.size) ety news 0 cur w hg (by simpa using hfit) h1;simp only[Nat.add_zero]at hst;simp[Builtin.append_,d8 ht,sizeOf,typeInfo,hi,Builtin.lenOf,hroom,hf,qw,hst]
   have hgrow:w.grownBy (w.setRow g (cur.toList.take (off+n*i.size)++news++cur.toList.drop (off+n*i.size+news.length)).toArray) (dI (.slice (some ⟨g,off,none⟩) n (cap+1))):=⟨rfl,rfl,rfl,ak,λk _ hk=>setRow_other w g k _ (λe=>hk (by simp[dI,e]))⟩;refine⟨_,_,ety,hr,⟨hlen,.inr ⟨g,off,cap,_,rfl,setRow_heap w g cur _ ety _ hg,hroom,hcm,?_,?_⟩⟩,⟨hgrow,aZ _⟩,λb hb=>?_⟩
   ·simp only[List.size_toArray,bj,ez,iz,ld];omega
   ·have hd:(cur.toList.take (off+n*i.size)++news++cur.toList.drop (off+n*i.size+news.length)).drop off=xs++news++cur.toList.drop (off+n*i.size+news.length):=by have hcl:cur.toList.length=cur.size:=ld;rw[eP,yF (by simp;omega),Cl,show off+n*i.size-off=n*i.size by omega,htake,eP]
    show ((cur.toList.take (off+n*i.size)++news++cur.toList.drop (off+n*i.size+news.length)).drop off).take _=_;rw[hd,←hlen];exact Cj
   ·simp only[dI,aG]at hb;subst hb;exact⟨.inl rfl,by simpa using (eF.1 hg).1⟩
  ·have holds:=JD hg htake;have hr:=run_append_grow (P:=P) w t ty e i z ht hi hz ⟨g,off,none⟩ n (cap+1) xs hown.1 holds a m c news hl hnews aa aa (growslice_fits aa (by simpa only [nb]using hbytes));have hgr:=grown (cap+1) (dI (.slice (some ⟨g,off,none⟩) n (cap+1)));exact⟨_,_,e,hr,EN hgr.1,⟨hgr.2,wy _⟩,λb hb=>by have:=rt _ _ _ hb;subst this;exact⟨.inr (aZ _),ak⟩⟩
theorem Oo(w:aK)(t ty e:bW)(i:TypeInfo)(ht:P.underlying t=some (.slice e))(hi:P.info? e=some i)(ety:bW)(v:bm)(n:Nat)(xs:aJ)(hown:l7 w ety i.size v n xs)(ob:yD):
  (Builtin.append_ #[t,t] ty #[v,.slice ob 0 0]).run P w=.ok v w:=by
 rcases hown.2 with⟨rfl,oa,rfl⟩|⟨g,off,cap,cur,rfl,hg,hnc,_⟩
 ·cases oa<;>cases ob<;>simp[Builtin.append_,d8 ht,sizeOf,typeInfo,hi,Builtin.lenOf,Builtin.firstCells,loadCells,loadCellsFrom,storeCells]
 ·cases ob<;>simp[Builtin.append_,d8 ht,sizeOf,typeInfo,hi,Builtin.lenOf,Builtin.firstCells,hnc,loadCells,loadCellsFrom,storeCells]
theorem Zd{o j:Nat}(h:(cellsOf w b o n)[j]? = some u):j<n/\u=(w.cell? ⟨b,o+j,none⟩).getD undef:=by
 unfold cellsOf at h;rw[fQ]at h;by_cases hj:j<n
 ·rw[nO hj]at h;exact⟨hj,by simpa using h.symm⟩
 ·rw[jj (by simpa using hj)]at h;cases h
theorem Zp(w:aK)(b o sz n i:Nat)(hi:i<n):((cellsOf w b o (n*sz)).drop (i*sz)).take sz=cellsOf w b (o+i*sz) sz:=by
 have hle:i*sz+sz<=n*sz:=by have:=kw sz (show i+1<=n from hi);rw[jk]at this;omega
 unfold cellsOf;apply lR;intro j;rw[g7,g8,fQ,fQ];by_cases hj:j<sz
 ·rw[am hj,nO aa,nO hj];simp only[dX];congr 4;omega
 ·rw[ai hj,jj (by simpa using hj)];rfl
theorem ace{t:T}{l:List t.den}(h:ah Im w (.sl t) l [u]):∃news,Sr w t.size u l.length news/\∀(i:Nat)(x:t.den),l[i]? = some x->ah Im w t x ((news.drop (i*t.size)).take t.size):=by
 simp only[ah,bH,aA]at h;obtain⟨oa,cap,rfl,h1,h2,h3⟩:=h
 cases oa with
 |none=>obtain⟨h4,rfl⟩:=h2 rfl;exact⟨[],⟨by simp[h4],.inl ⟨by rw[h4],h4⟩⟩,λi x hx=>by have:=(gN.1 hx).1;omega⟩
 |some ad=>
  by_cases hz:l.length=0
  ·exact⟨[],⟨by simp[hz],.inr ⟨ad,cap,rfl,λj x hj=>by simp at hj⟩⟩,λi x hx=>by have:=(gN.1 hx).1;omega⟩
  ·obtain⟨k1,k2,k3⟩:=h3 ad rfl aa;obtain⟨b,o,s⟩:=ad;simp only at k1 k2 k3;subst k1;have hrow:∀(i:Nat)(x:t.den),l[i]? = some x->∃us,iW w b (o+i*t.size) us/\us.length=t.size/\ah Im w t x us:=λi x hx=>by obtain⟨us,u1,u2⟩:=k3 i x hx;exact⟨us,u1,ah.len t x us u2,u2⟩
   refine⟨cellsOf w b o (l.length*t.size),⟨by simp[cellsOf],.inr ⟨_,cap,rfl,λj x hj=>?_⟩⟩,λi x hx=>?_⟩
   ·obtain⟨hj1,rfl⟩:=Zd hj;have hpos:0<t.size:=wu (λh0=>by rw[h0]at hj1;omega);have hdiv:j / t.size<l.length:=(Gf hpos).2 hj1;obtain⟨us,u1,u2,u3⟩:=hrow (j / t.size) _ (bX hdiv);have hmod:=Nat.mod_lt j hpos;have hc:=u1 (j%t.size) us[j%t.size] (bX aa);have e:o+j / t.size*t.size+j%t.size=o+j:=by have:=Nat.div_add_mod' j t.size;omega
    rw[e]at hc;rw[qw,hc];rfl
   ·have hi:=(gN.1 hx).1;rw[Zp w b o t.size l.length i hi];obtain⟨us,u1,u2,u3⟩:=hrow i x hx;rw[uT u2 u1];exact u3
theorem AC{l:List o.strip.den}(h:Rel Im w (.sl o) l S [u]):∃ety xs,∃T:Nat->Nat->Prop,l7 w ety o.size u l.length xs/\l.length<=nb/\(∀c,dI u=some c->S c)/\(∀i c,T i c->S c/\dI u≠some c)/\(∀i j c,i≠j->T i c->¬T j c)/\
  (∀(i:Nat)(x:o.strip.den),l[i]? = some x->Rel Im w o x (T i) ((xs.drop (i*o.size)).take o.size))/\Sr w o.size u l.length xs:=by
 simp only[Rel,bH,aA]at h;obtain⟨v,ety,xs,T,rfl,h2,h3,h4,h5,h6,h7⟩:=h;refine⟨ety,xs,T,h2,h3,h4,h5,h6,h7,h2.1,?_⟩;rcases h2.2 with⟨hn,oa,rfl⟩|⟨g,off,cap,cur,rfl,hg,_,_,_,r⟩
 ·cases oa with
  |none=>exact .inl ⟨rfl,hn⟩
  |some b=>have hx:xs=[]:=iS (by rw[h2.1,hn];simp);exact .inr ⟨b,0,by rw[hn],λj y hy=>by rw[hx]at hy;simp at hy⟩
 ·exact .inr ⟨_,cap+1,rfl,JD hg r⟩
theorem Pg{i:Nat}(hx:xs.length=n*sz)(hi:i<n):((xs++ys).drop (i*sz)).take sz=(xs.drop (i*sz)).take sz:=by
 have hle:i*sz+sz<=n*sz:=by have:=kw sz (show i+1<=n from hi);rw[jk]at this;omega
 rw[yF aa,Gd (by rw[iz];omega)]
theorem O4{i:Nat}(hx:xs.length=n*sz)(hi:n<=i):((xs++ys).drop (i*sz)).take sz=(ys.drop ((i-n)*sz)).take sz:=by have hle:n*sz<=i*sz:=kw sz hi;rw[List.drop_append,Ck aa,rQ,hx,Nat.sub_mul]
theorem PZ{Q:List Value->Prop}(hl:news.length=m*sz)(hr:∀i,i<m->∀u∈(news.drop (i*sz)).take sz,u.oneCell'=true):∀u∈news,u.oneCell'=true:=by intro u hu;obtain⟨j,hj,rfl⟩:=mL hu;have hpos:0<sz:=wu (λh0=>by rw[hl,h0]at hj;omega);have hdiv:j / sz<m:=(Gf hpos).2 (by rw[←hl];exact hj);have hmod:=Nat.mod_lt j hpos;refine hr (j / sz) hdiv _ (uk (i:=j%sz) ?_);rw[g7,am hmod,g8,show j / sz*sz+j%sz=j by have:=Nat.div_add_mod' j sz;omega];exact bX hj
theorem Se(hp:Hp F p M w)(k:Nat)(hk:go M k=none){ty:bW}(ht:P.underlying t=some (.slice e))(hi:P.info? e=some i)(hz:i.zero=some z)(hzs:z.cells.size=i.size)(hb0:i.bytes≠0){l m:List o.strip.den}{S2:aT}(ho:o.size=i.size)(h1:Rel (Imm F p M w) w (.sl o) l S1 [v])(h2:Rel (Imm F p M w) w (.sl o) m S2 [u])(hS1:∀b,S1 b->p.L b)(hS2:∀b,S2 b->p.L b)(hd:∀b,S1 b->¬S2 b)(hroom:aX l.length m.length i.bytes):
  ∃v' w' p',(Builtin.append_ #[t,t] ty #[v,u]).run P w=.ok v' w'/\Tr F p M w [] p' ((k,⟨.sl o,l++m⟩)::M) w'/\(∀b,¬p'.L b)/\aj p'.β ((k,⟨.sl o,l++m⟩)::M) (Imm F p' ((k,⟨.sl o,l++m⟩)::M) w') w' (.ref k []) v':=by
 obtain⟨ety,xs,T1,a1,a2,a3,a4,a5,a6,_⟩:=AC h1;obtain⟨ety2,ys,T2,b1,b2,b3,b4,b5,b6,b7⟩:=AC h2;rw[ho]at a1 b7;unfold aX at hroom;obtain⟨v',w',ety',r1,r2,⟨r3,r3d⟩,r4⟩:=NS (P:=P) w t ty e ety i z ht hi hz hzs v u l.length m.length xs ys a1 b7 (PZ (Q:=λ_=>True) (sz:=o.size) (m:=m.length) b1.1 (λi hi=>Rel.one _ _ _ _ (b6 i _ (bX hi)))) hb0 hroom;have hext:ExtL w w' p.L:=⟨r3.os,⟨r3.tape,r3d⟩,r3.output,r3.size,λb hb hL=>r3.block b hb (λe=>hL (hS1 b (a3 b e.symm)))⟩;have hnb:l.length+m.length<=nb:=eu (Cn _ (wu hb0)) hroom;have hx1:xs.length=l.length*o.size:=by rw[ho];exact a1.1
 refine⟨v',w',_,r1,Tr.new hp k hk v' (λb=>dI v'=some b\/(∃i,T1 i b)\/∃i,T2 i b) ⟨.sl o,l++m⟩ hext (λb hb=>?_) (λhkp=>?_),λb hb=>hb,?_⟩
 ·rcases hb with hb|⟨i,hb⟩|⟨i,hb⟩
  ·rcases (r4 b hb).1 with h|h
   ·exact .inr (hS1 b (a3 b h))
   ·exact .inl ⟨h,(r4 b hb).2⟩
  ·exact .inr (hS1 b (a4 i b hb).1)
  ·exact .inr (hS2 b (b4 i b hb).1)
 ·have hne1:∀i b,T1 i b->dI v≠some b:=λi b hb=>(a4 i b hb).2;have hne2:∀i b,T2 i b->dI v≠some b:=λi b hb e=>hd b (a3 b e) (b4 i b hb).1;have hlt:∀b,p.L b->b<w.heap.size:=λb hb=>(hp.lim b hb).1
  have hnr:∀b,p.L b->dI v≠some b->dI v'≠some b:=λb hb hne e=>by
   rcases (r4 b e).1 with h|h
   ·exact hne h
   ·have:=hlt b hb;omega
  simp only[Rel];refine⟨v',ety',xs++ys,λi c=>(i<l.length/\T1 i c)\/(l.length<=i/\T2 (i-l.length) c),rfl,by rw[bj,ho];exact r2,by rw[bj];exact hnb,λc hc=>.inl hc,λi c hc=>?_,λi j c hij hc=>?_,λi x hx=>?_⟩
  ·rcases hc with⟨_,hc⟩|⟨_,hc⟩
   ·exact⟨.inr (.inl ⟨i,hc⟩),hnr c (hS1 c (a4 i c hc).1) (hne1 i c hc)⟩
   ·exact⟨.inr (.inr ⟨_,hc⟩),hnr c (hS2 c (b4 _ c hc).1) (hne2 _ c hc)⟩
  ·rcases hc with⟨g1,hc⟩|⟨g1,hc⟩
   ·rintro (⟨g2,hc'⟩|⟨g2,hc'⟩)
    ·exact a5 i j c hij hc hc'
    ·exact hd c (a4 i c hc).1 (b4 _ c hc').1
   ·rintro (⟨g2,hc'⟩|⟨g2,hc'⟩)
    ·exact hd c (a4 j c hc').1 (b4 _ c hc).1
    ·exact b5 _ _ c aa hc hc'
  ·by_cases hil:i<l.length
   ·rw[g9 hil]at hx;rw[Pg hx1 hil];refine Rel.wide _ _ (T1 i) _ _ (λb hb=>.inl ⟨hil,hb⟩) (Rel.keep hkp _ _ _ _ (λb hb=>r3.block b (hlt b (hS1 b (a4 i b hb).1)) (λe=>hne1 i b hb e.symm)) (a6 i x hx))
   ·rw[jD aa]at hx;rw[O4 hx1 aa];refine Rel.wide _ _ (T2 (i-l.length)) _ _ (λb hb=>.inr ⟨aa,hb⟩) (Rel.keep hkp _ _ _ _ (λb hb=>r3.block b (hlt b (hS2 b (b4 _ b hb).1)) (λe=>hne2 _ b hb e.symm)) (b6 _ x hx))
 ·simp only[aj,ac];refine⟨⟨.sl o,l++m⟩,none,mY _ _ _,by simp only[gok],⟨⟨.sl o,l++m⟩,by simp only[get]⟩,?_⟩;rw[uW];simp only[res]
theorem JJ(hp:Hp F p M w)(k:Nat)(hk:go M k=none){ty:bW}(ht:P.underlying t=some (.slice e))(hi:P.info? e=some i)(hz:i.zero=some z)(hzs:z.cells.size=i.size)(hb0:i.bytes≠0){l m:List o.strip.den}(ho:o.size=i.size)(h1:Rel (Imm F p M w) w (.sl o) l S1 [v])(h2:ah (Imm F p M w) w (.sl o.strip) m [u])(hS1:∀b,S1 b->p.L b)(hroom:aX l.length m.length i.bytes):
  ∃v' w' p',(Builtin.append_ #[t,t] ty #[v,u]).run P w=.ok v' w'/\Tr F p M w [] p' ((k,⟨.sl (.fz o.strip),l++m⟩)::M) w'/\(∀b,¬p'.L b)/\aj p'.β ((k,⟨.sl (.fz o.strip),l++m⟩)::M) (Imm F p' ((k,⟨.sl (.fz o.strip),l++m⟩)::M) w') w' (.ref k []) v':=by
 obtain⟨ety,xs,T1,a1,a2,a3,a4,a5,a6,_⟩:=AC h1;obtain⟨ys,b7,b6⟩:=ace h2;have ho':o.strip.size=i.size:=ho;rw[ho]at a1;rw[ho']at b7;unfold aX at hroom;obtain⟨v',w',ety',r1,r2,⟨r3,r3d⟩,r4⟩:=NS (P:=P) w t ty e ety i z ht hi hz hzs v u l.length m.length xs ys a1 b7 (PZ (Q:=λ_=>True) (sz:=o.strip.size) (m:=m.length) (by rw[ho'];exact b7.1) (λi hi=>ah.one _ _ _ (b6 i _ (bX hi)))) hb0 hroom;have hext:ExtL w w' p.L:=⟨r3.os,⟨r3.tape,r3d⟩,r3.output,r3.size,λb hb hL=>r3.block b hb (λe=>hL (hS1 b (a3 b e.symm)))⟩;have hnb:l.length+m.length<=nb:=eu (Cn _ (wu hb0)) hroom;have hx1:xs.length=l.length*o.size:=by rw[ho];exact a1.1
 refine⟨v',w',_,r1,Tr.new hp k hk v' (λb=>dI v'=some b) ⟨.sl (.fz o.strip),l++m⟩ hext (λb hb=>?_) (λhkp=>?_),λb hb=>hb,?_⟩
 ·rcases (r4 b hb).1 with h|h
  ·exact .inr (hS1 b (a3 b h))
  ·exact .inl ⟨h,(r4 b hb).2⟩
 ·have hlt:∀b,p.L b->b<w.heap.size:=λb hb=>(hp.lim b hb).1
  have hnr:∀b,p.L b->dI v≠some b->dI v'≠some b:=λb hb hne e=>by
   rcases (r4 b e).1 with h|h
   ·exact hne h
   ·have:=hlt b hb;omega
  have hT:∀i b,T1 i b->Imm F (p.upd k v' λb=>dI v'=some b) ((k,⟨.sl (.fz o.strip),l++m⟩)::M) w' b:=λi b hb=>by
   have hLb:=hS1 b (a4 i b hb).1;refine⟨by have:=hlt b hLb;have:=r3.size;omega,.inr (hp.lim b hLb).2.1.r,λh=>h,λj hj=>?_⟩;by_cases e:j=k
   ·subst e;rw[show (p.upd j v' λb=>dI v'=some b).σ j=λb=>dI v'=some b by simp[Ow.upd,Ow.updL]];exact hnr b hLb (a4 i b hb).2
   ·rw[show (p.upd k v' λb=>dI v'=some b).σ j=p.σ j by simp[Ow.upd,Ow.updL,e]];refine (hp.lim b hLb).2.2 j ?_;unfold bF at hj⊢
    rwa [dR,ai (dg e)]at hj
  simp only[Rel];have hsz:(O.fz o.strip).size=o.size:=rfl;refine⟨v',ety',xs++ys,λ_ _=>False,rfl,by rw[bj,hsz,ho];exact r2,by rw[bj];exact hnb,λc hc=>hc,λi c hc=>hc.elim,λi j c _ hc=>hc.elim,λi x hx=>?_⟩;rw[hsz];by_cases hil:i<l.length
  ·rw[g9 hil]at hx;rw[Pg hx1 hil];have h3:=Rel.keep hkp _ _ _ _ (λb hb=>r3.block b (hlt b (hS1 b (a4 i b hb).1)) (λe=>(a4 i b hb).2 e.symm)) (a6 i x hx);exact Rel.frz (λ_ h=>h) _ _ _ _ (hT i) h3
  ·rw[jD aa]at hx;rw[O4 hx1 aa];exact ah.keep hkp _ _ _ (b6 _ x hx)
 ·simp only[aj,ac];refine⟨⟨.sl (.fz o.strip),l++m⟩,none,mY _ _ _,by simp only[gok],⟨⟨.sl (.fz o.strip),l++m⟩,by simp only[get]⟩,?_⟩;rw[uW];simp only[res]
def EV(F:Fr)(p:Ow)(M:Mem)(w:aK)(u:bm):Src->Prop
 |.nil=>∃oa,u=.slice oa 0 0
 |.own j e l=>go M j=some ⟨.sl e,l⟩/\u=p.β j
 |.dat ev M1 t l=>Tr F p M w ev p M1 w/\ah (Imm F p M1 w) w (.sl t) l [u]/\mn M M1
theorem ae1(h:Hp F p M w)(x:V)(u:bm)(hx:aj p.β M (Imm F p M w) w x u)(s:Src)(hs:r8 M x=some s):EV F p M w u s:=by
 unfold r8 at hs;split at hs
 ·cases hs;simp only[aj,ac,bH,aA]at hx;exact hx
 ·cases hs;exact⟨Tr.refl h,bn.1 hx,mn.refl M⟩
 ·rename_i j π;simp only[aj,ac]at hx;split at hs
  ·rename_i e l hj;cases hs;obtain⟨ob,pl,k1,k2,k3,k4⟩:=hx;simp only[res,aG,bS,bH,aA]at k4;exact⟨hj,k4.1.symm⟩
  ·rename_i ob hj _;split at hs
   ·rename_i e l hq;cases hs;exact⟨Tr.frz h j ob hj,Jo h hj hq hx,DC j M⟩
   ·rename_i t l hq;cases hs;exact⟨Tr.frz h j ob hj,Jo h hj hq hx,DC j M⟩
   ·cases hs
  ·cases hs
 ·cases hs
structure ApT (P:d4) (t e:bW) (i:TypeInfo) (z:bm):Prop where
 ht:P.underlying t=some (.slice e)
 hi:P.info? e=some i
 hz:i.zero=some z
 hzs:z.cells.size=i.size
 hb:i.bytes≠0
theorem cu.app{r:Rs}(ht:Tr F p M w r.ev p' r.M w')(hL:∀b,¬p'.L b)(hv:aj p'.β r.M (Imm F p' r.M w') w' r.av v):cu F p M w false r v w':=⟨p',ht,hL,hv,λ_ h=>by cases h⟩
theorem cu.appQ{r:Rs}(ht:Tr F p M w r.ev p' r.M w')(hL:∀b,¬p'.L b)(hv:aj p'.β r.M (Imm F p' r.M w') w' r.av v)(hf:dv M r.ev=false):cu F p M w qt r v w':=⟨p',ht,hL,hv,λh=>by rw[hf]at h;cases h⟩
structure Tk (F:Fr) (p:Ow) (M:Mem) (w:aK) (q:Ob) (e:cg) (vs:aJ) (p':Ow) (M':Mem) (S:aT):Prop where
 L:∀b,S b->p'.L b
 tr:Tr F p M w e p' M' w
 rel:Rel (Imm F p' M' w) w q.o q.x S vs
theorem Cv.tk{e:cg}(h:Cv F p M w k q e vs p' M' S):Tk F p M w q e vs p' M' S:=⟨λb hb=>(h.L b).2 (.inr hb),h.tr,h.rel⟩
theorem IV(A:ApT P t e i z){l:List o.strip.den}{ev:cg}(ho:o.size=i.size)(cv:Tk F p M w ⟨.sl o,l⟩ ev [v] p1 M1 S1)(hL:∀b,¬p.L b)(d j:Nat){e':O}{m:List e'.strip.den}(hj:go M1 j=some ⟨.sl e',m⟩)(hu:u=p1.β j)(hjg:j<gid)(hv:ab (tx i.bytes d o l j e' m ev M1 M0).vc):
  ∃v' w',(Builtin.append_ #[t,t] ty' #[v,u]).run P w=.ok v' w'/\cu F p M w false (tx i.bytes d o l j e' m ev M1 M0) v' w':=by
 have hp1:=cv.tr.hp;unfold tx at hv⊢;split at hv
 ·rename_i m' he hm;simp only[e9,eY,aA]at hv;have:=O.beq_eq he;subst this;have hq:=xh hm;simp only[Ob.mk.injEq,heq_eq_eq,aL]at hq;subst hq;have c2:=Cv.whole hp1 j hj hjg;have c2r:=c2.rel;have hL2:∀b,S1 b->(⟨p1.β,p1.σ,λb=>p1.L b\/p1.σ j b⟩:Ow).L b:=λb hb=>.inl (cv.L b hb);have hlim:=hp1.lim;have r1:=Rel.keep c2.tr.keep _ _ _ _ (λ_ _=>rfl) cv.rel;obtain⟨hk1,hk2⟩:=Hp.del c2.tr.hp d;have r1':=Rel.keep hk2 _ _ _ _ (λ_ _=>rfl) r1;have c2r':=Rel.keep hk2 _ _ _ _ (λ_ _=>rfl) c2r;rw[←hu]at c2r';obtain⟨v',w',p',g1,g2,g3,g4⟩:=Se (P:=P) (ty:=ty') hk1 d (fU d _) A.ht A.hi A.hz A.hzs A.hb ho r1' c2r' hL2 (λb hb=>.inr hb) (λb hb hb'=>(hlim b (cv.L b hb)).2.2 j (cz hj) hb') hv;refine⟨v',w',g1,cu.app (r:=⟨_,.ref d [],ap ev [.kl j,.kl d],_⟩) ?_ g3 g4⟩;have:=cv.tr.trans (c2.tr.trans ((Tr.kl c2.tr.hp d).trans g2));simpa only [ap]using this
 ·split at hv
  ·rename_i m1 hm1;simp only[e9,eY,aA]at hv;have hf:=Tr.frz hp1 j _ hj;have hrj:=hp1.objs j _ hj;have hrf:ah (Imm F p1 (del j M1) w) w (.sl e'.strip) m [u]:=by rw[hu];have:=Rel.frz (λb hb=>((hp1.del j).2 b hb).1) _ _ (p1.σ j) _ (λb hb=>uY hp1 (cz hj) hb) hrj;simpa only [O.strip]using this
   have hrf2:ah (Imm F p1 (del j M1) w) w (.sl o.strip) m1 [u]:=qQ hm1 hrf;have r1:=Rel.keep hf.keep _ _ _ _ (λ_ _=>rfl) cv.rel;obtain⟨hk1,hk2⟩:=Hp.del hf.hp d;obtain⟨v',w',p',g1,g2,g3,g4⟩:=JJ (P:=P) (ty:=ty') hk1 d (fU d _) A.ht A.hi A.hz A.hzs A.hb ho (Rel.keep hk2 _ _ _ _ (λ_ _=>rfl) r1) (ah.keep hk2 _ _ _ hrf2) cv.L hv;refine⟨v',w',g1,cu.app (r:=⟨_,.ref d [],ap ev [.fz j ⟨.sl e',m⟩,.kl d],_⟩) ?_ g3 g4⟩;have:=cv.tr.trans (hf.trans ((Tr.kl hf.hp d).trans g2));simpa only [ap]using this
  ·exact hv.1.elim
theorem IX(A:ApT P t e i z){l:List o.strip.den}{ev:cg}(ho:o.size=i.size)(cv:Tk F p M w ⟨.sl o,l⟩ ev [v] p1 M1 S1)(hL:∀b,¬p.L b)(d:Nat){m:List t'.den}(hm:ah (Imm F p1 M1 w) w (.sl t') m [u])(hv:ab (tF i.bytes d o l t' m ev M1 M0).vc):
  ∃v' w',(Builtin.append_ #[t,t] ty' #[v,u]).run P w=.ok v' w'/\cu F p M w false (tF i.bytes d o l t' m ev M1 M0) v' w':=by
 have hp1:=cv.tr.hp;unfold tF at hv⊢;split at hv
 ·rename_i m1 hm1;simp only[e9,eY,aA]at hv;have hrf2:ah (Imm F p1 M1 w) w (.sl o.strip) m1 [u]:=qQ hm1 hm;obtain⟨hk1,hk2⟩:=Hp.del hp1 d;obtain⟨v',w',p',g1,g2,g3,g4⟩:=JJ (P:=P) (ty:=ty') hk1 d (fU d _) A.ht A.hi A.hz A.hzs A.hb ho (Rel.keep hk2 _ _ _ _ (λ_ _=>rfl) cv.rel) (ah.keep hk2 _ _ _ hrf2) cv.L hv;refine⟨v',w',g1,cu.app (r:=⟨_,.ref d [],ap ev [.kl d],_⟩) ?_ g3 g4⟩;have:=cv.tr.trans ((Tr.kl hp1 d).trans g2);simpa only [ap]using this
 ·exact hv.1.elim
theorem i_(h:LC π ob=some ob'):∃(p0:bA)(i:Nat)(e:O)(l:List e.strip.den),kD π=some (p0,i)/\get p0 ob.o ob.x=some ⟨.sl e,l⟩/\set p0 ob.o ob.x ⟨.sl (.op e),oL l i⟩=some ob':=by
 unfold LC at h;split at h
 ·rename_i p0 i hx;split at h
  ·rename_i e l hq;exact⟨p0,i,e,l,hx,hq,h⟩
  ·cases h
 ·cases h
theorem aak(hB:TabOk P B)(h:Hp F p M w)(hL:∀b,¬p.L b)(dst:fu)(s x:V)(v u:bm)(hs:aj p.β M (Imm F p M w) w s v)(hx:aj p.β M (Imm F p M w) w x u)(hv:ab (pO B dst t s x M).vc):
  ∃v' w',(Builtin.append_ #[t,t] ty' #[v,u]).run P w=.ok v' w'/\cu F p M w false (pO B dst t s x M) v' w':=by
 unfold pO at hv⊢;split at hv
 ·rename_i e d src he hsrc;have hso:=ae1 h x u hx src hsrc
  cases hk:aP [(B.τ t).ok,(B.τ e).ok,neg (Nat.beq (B.τ e).bytes 0),B.z e,cy (B.σ e).size (B.τ e).size]with
  |false=>rw[hk]at hv;exact hv.1.elim
  |true=>
   simp only[hk,aD]at hv⊢;simp only[bQ,bT,bM,ao,eZ,cR]at hk;obtain⟨k1,k2,k3,k4,k5⟩:=hk;have eτ:=hB.τ t k1;have eτ':=hB.τ e k2;obtain⟨infe,z,hie,hz,h0⟩:=vj hB k4;rw[←eτ']at k2 k3 k5;simp only[←eτ']at hv⊢;rw[←eτ]at k1 he;obtain⟨inf,ud,hi,hu⟩:=dQ k1;obtain⟨infe',ue,hie',hue⟩:=dQ k2;rw[hie]at hie';cases hie';rw[dB hi hu]at he;rw[dB hie hue]at k3 k5;simp only[dB hie hue]at hv⊢;simp only[eL]at he k3 k5 hv⊢;cases ud<;>simp at he;obtain rfl:=he.symm;have hzs:z.cells.size=infe.size:=by have h1:=Rel.len _ _ _ _ (tm (Im:=Imm F p M w) (w:=w) (B.σ e) _ h0).1;rw[Aw,k5]at h1;simpa using h1
   have A:ApT P t e infe z:=⟨hu,hie,hz,hzs,by rintro h;rw[h]at k3;simp at k3⟩;split at hv
   ·simp only[aj,ac,bH,aA]at hs;obtain⟨oa,rfl⟩:=hs;split at hv
    ·simp only[EV]at hso;obtain⟨ob,rfl⟩:=hso;exact⟨.slice oa 0 0,w,by cases oa<;>cases ob<;>simp[Builtin.append_,d8 hu,sizeOf,typeInfo,hie,Builtin.lenOf,Builtin.firstCells,loadCells,loadCellsFrom,storeCells],cu.app (r:=⟨[],.nl,[],M⟩) (Tr.refl h) hL (by simp only[aj,ac];exact⟨oa,rfl⟩)⟩
    ·rename_i j e' m;obtain⟨hj,rfl⟩:=hso
     cases hkk:aP [eo j d,cy e'.strip.size infe.size]with
     |false=>rw[hkk]at hv;exact hv.1.elim
     |true=>simp only[hkk,aD,e9,eY,aA]at hv⊢;simp only[bQ,bT,bM,ao,eZ,cR]at hkk;obtain⟨hne,hg⟩:=sW (r:=j) (k:=d) (by rw[hkk.1];rfl);have c2:=Cv.whole h d hj hg;obtain⟨hk1,hk2⟩:=Hp.del c2.tr.hp d;obtain⟨v',w',p',g1,g2,g3,g4⟩:=Se (P:=P) (ty:=ty') hk1 d (fU d _) A.ht A.hi A.hz A.hzs A.hb (l:=([]:List e'.strip.den)) hkk.2 (AG e' oa) (Rel.keep hk2 _ _ _ _ (λ_ _=>rfl) c2.rel) (λb hb=>hb.elim) (λb hb=>.inr hb) (λb hb=>hb.elim) hv;refine⟨v',w',g1,cu.app (r:=⟨_,.ref d [],[.kl j,.kl d],_⟩) ?_ g3 g4⟩;exact c2.tr.trans ((Tr.kl c2.tr.hp d).trans g2)
    ·rename_i ev M1 t' m;obtain⟨h1,h2,h3⟩:=hso
     cases hkk:cy t'.size infe.size with
     |false=>rw[hkk]at hv;exact hv.1.elim
     |true=>simp only[hkk,aD,e9,eY,aA]at hv⊢;simp only[eZ,cR]at hkk;obtain⟨hk1,hk2⟩:=Hp.del h1.hp d;obtain⟨v',w',p',g1,g2,g3,g4⟩:=JJ (P:=P) (ty:=ty') hk1 d (fU d _) A.ht A.hi A.hz A.hzs A.hb (o:=.fz t') (l:=([]:List t'.den)) hkk (AG (.fz t') oa) (ah.keep hk2 _ _ _ h2) (λb hb=>hb.elim) hv;refine⟨v',w',g1,cu.app (r:=⟨_,.ref d [],ap ev [.kl d],_⟩) ?_ g3 g4⟩;exact h1.trans ((Tr.kl h1.hp d).trans g2)
   ·rename_i k π;simp only[aj,ac]at hs;split at hv
    ·rename_i o l hob;have hvβ:v=p.β k:=by obtain⟨ob,pl,q1,q2,q3,q4⟩:=hs;simp only[res,aG,bS,bH,aA]at q4;exact q4.1.symm
     cases hkk:aP [cy o.strip.size infe.size,Nat.ble (Nat.succ k) gid]with
     |false=>rw[hkk]at hv;exact hv.1.elim
     |true=>
      simp only[hkk,aD]at hv⊢;simp only[bQ,bT,bM,ao,eZ,cR]at hkk;have hkg:k<gid:=ia hkk.2;split at hv
      ·simp only[EV]at hso;obtain⟨ob2,rfl⟩:=hso;obtain⟨ety,xs,T1,a1,_⟩:=AC (h.objs k _ hob);rw[show o.size=infe.size from hkk.1,←hvβ]at a1;refine⟨_,_,?_,cu.app (r:=⟨[],.ref k [],[],M⟩) (Tr.refl h) hL (by simp only[aj,ac];exact hs)⟩;exact Oo w t ty' e infe hu hie _ _ _ _ a1 ob2
      ·rename_i j e' m;obtain⟨hj,rfl⟩:=hso
       cases hok:neg (eo j k)with
       |true=>rw[hok]at hv;exact hv.1.elim
       |false=>simp only[hok,bp]at hv⊢;obtain⟨hne,hg⟩:=sW hok;have c1:=Cv.whole h k hob hkg;rw[←hvβ]at c1;exact IV A hkk.1 c1.tk hL k j (by rw[fg hne];exact hj) rfl hg hv
      ·rename_i ev M1 t' m;obtain⟨h1,h2,h3⟩:=hso;split at hv
       ·rename_i obx hgx
        have hgk:go M1 k=some ⟨.sl o,l⟩:=by
         rcases h3 k with g|g
         ·rw[g]at hgx;cases hgx
         ·rw[g,hob]
        have c1:=Cv.whole h1.hp k hgk hkg;rw[←hvβ]at c1;have c0:Tk F p M w ⟨.sl o,l⟩ (ap ev [.kl k]) [v] _ (del k M1) _:=⟨c1.tk.L,h1.trans c1.tr,c1.rel⟩;exact IX A hkk.1 c0 hL k (ah.keep c1.tr.keep _ _ _ h2) hv
       ·exact hv.1.elim
    ·rename_i ob hob _;split at hv
     ·rename_i o l ob' hq hset
      cases hkk:aP [cy o.strip.size infe.size,neg (Nat.beq d k),Nat.ble (Nat.succ k) gid]with
      |false=>rw[hkk]at hv;exact hv.1.elim
      |true=>
       simp only[hkk,aD]at hv⊢;simp only[bQ,bT,bM,ao,eZ,cR]at hkk;have hkg:k<gid:=ia hkk.2.2;have hs0:=hs;obtain⟨ob1,pl,q1,q2,q3,q4⟩:=hs;rw[hob]at q1;cases q1;split at hv
       ·simp only[EV]at hso;obtain⟨ob2,rfl⟩:=hso;obtain⟨us,pl',S',e1,e2,e3,_⟩:=look h hob q2 hq;rw[e1]at q4;simp only[aG,bS]at q4;obtain⟨rfl,rfl⟩:=q4;obtain⟨ety,xs,T1,a1,_⟩:=AC e3;refine⟨_,_,?_,cu.app (r:=⟨[],.ref k _,[],M⟩) (Tr.refl h) hL (by simp only[aj,ac];exact hs0)⟩;exact Oo w t ty' e infe hu hie _ _ _ _ (by rw[show o.size=infe.size from hkk.1]at a1;exact a1) ob2
       ·rename_i j e' m;obtain⟨hj,rfl⟩:=hso
        cases hok:aP [eo j k,eo j d]with
        |false=>rw[hok]at hv;exact hv.1.elim
        |true=>simp only[hok,aD]at hv⊢;simp only[bQ,bT,bM,ao]at hok;obtain⟨hne,hg⟩:=sW (r:=j) (k:=k) (by rw[hok.1];rfl);obtain⟨p1,S,k1,k2,k3,k4,k5⟩:=Tr.cut h hob hkg q2 hq q4 hset;have hc:Tk F p M w ⟨.sl o,l⟩ [.cut k ob.o ob'.o] [v] p1 (put k ob' M) S:=⟨λb hb=>(k2 b).2 (.inr hb),k4,k5⟩;exact IV A hkk.1 hc hL d j (by rw[pn ob' hne];exact hj) (by rw[k1]) hg hv
       ·rename_i ev M1 t' m;obtain⟨h1,h2,h3⟩:=hso;split at hv
        ·rename_i obx hgx
         have hgk:go M1 k=some ob:=by
          rcases h3 k with g|g
          ·rw[g]at hgx;cases hgx
          ·rw[g,hob]
         obtain⟨p1,S,k1,k2,k3,k4,k5⟩:=Tr.cut h1.hp hgk hkg q2 hq q4 hset;have hc:Tk F p M w ⟨.sl o,l⟩ (ap ev [.cut k ob.o ob'.o]) [v] p1 (put k ob' M1) S:=⟨λb hb=>(k2 b).2 (.inr hb),h1.trans k4,k5⟩;exact IX A hkk.1 hc hL d (ah.keep k4.keep _ _ _ h2) hv
        ·exact hv.1.elim
     ·rename_i o l hq hset;split at hv
      ·rename_i ob' htk;obtain⟨p5,i0,e0,l0,x1,x2,x3⟩:=i_ htk;have hq5:=(Kf _ ob.o ob.x p5 i0 _ x1 x2).2.2.1 e0 l0 rfl;rw[hq]at hq5;simp only[aG,Ob.mk.injEq]at hq5;obtain⟨rfl,hq5⟩:=hq5;cases hq5
       cases hkk:aP [cy o.strip.size infe.size,neg (Nat.beq d k),Nat.ble (Nat.succ k) gid]with
       |false=>rw[hkk]at hv;exact hv.1.elim
       |true=>
        simp only[hkk,aD]at hv⊢;simp only[bQ,bT,bM,ao,eZ,cR]at hkk;have hkg:k<gid:=ia hkk.2.2;obtain⟨ob1,pl,q1,q2,q3,q4⟩:=hs;rw[hob]at q1;cases q1;split at hv
        ·exact hv.1.elim
        ·rename_i j e' m;obtain⟨hj,rfl⟩:=hso
         cases hok:aP [eo j k,eo j d]with
         |false=>rw[hok]at hv;exact hv.1.elim
         |true=>simp only[hok,aD]at hv⊢;simp only[bQ,bT,bM,ao]at hok;obtain⟨hne,hg⟩:=sW (r:=j) (k:=k) (by rw[hok.1];rfl);obtain⟨p1,S,k1,k2,k3,k4,k5⟩:=Tr.take h hob hkg x1 x2 q2 q4 x3;have hc:Tk F p M w ⟨.sl o,l0.getD i0 (O.sl o).dflt⟩ _ [v] p1 (put k ob' M) S:=⟨λb hb=>(k2 b).2 (.inr hb),k4,k5⟩;exact IV A hkk.1 hc hL d j (by rw[pn _ hne];exact hj) (by rw[k1]) hg hv
        ·rename_i ev M1 t' m;obtain⟨h1,h2,h3⟩:=hso;split at hv
         ·rename_i obx hgx
          have hgk:go M1 k=some ob:=by
           rcases h3 k with g|g
           ·rw[g]at hgx;cases hgx
           ·rw[g,hob]
          obtain⟨p1,S,k1,k2,k3,k4,k5⟩:=Tr.take h1.hp hgk hkg x1 x2 q2 q4 x3;have hc:Tk F p M w ⟨.sl o,l0.getD i0 (O.sl o).dflt⟩ _ [v] p1 (put k ob' M1) S:=⟨λb hb=>(k2 b).2 (.inr hb),h1.trans k4,k5⟩;exact IX A hkk.1 hc hL d (ah.keep k4.keep _ _ _ h2) hv
         ·exact hv.1.elim
      ·exact hv.1.elim
     ·exact hv.1.elim
    ·exact hv.1.elim
   ·exact hv.1.elim
 ·exact hv.1.elim
end Go.Bm
