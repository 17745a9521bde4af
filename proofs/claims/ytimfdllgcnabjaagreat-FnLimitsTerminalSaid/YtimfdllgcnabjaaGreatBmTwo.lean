/- The typed machine that the walks of this claim go by: its data, its operations and the proof that each is sound. No condition. -/
import Derived.Test.YtimfdllgcnabjaaGreatBmOne
import Derived.Laws.BytesArg
import Derived.ChangeKeysEq
import Derived.Laws.StructEq
import Derived.MapKept
set_option linter.unusedVariables false
set_option linter.unusedSimpArgs false
set_option linter.unusedSectionVars false
/- The ff machine:what is stored,what is handed on. -/
namespace Go.Bm
open Go.RowKit
abbrev a0d:=@cond_true
abbrev a0q:=@List.cons.injEq
abbrev a0f:=@true_and
abbrev a0c:=@and_true
abbrev a17:=@Iff.rfl
abbrev a2w:=@Option.getD_none
abbrev a0i:=@List.length_nil
abbrev a1j:=@Nat.zero_le
abbrev a1n:=@Option.getD_some
abbrev a00:=@List.length_map
abbrev a2x:=@Nat.lt_irrefl
abbrev a08:=@Nat.le_of_ble_eq_true
abbrev a37:=@Bool.false_or
abbrev a1y:=@List.all_eq_true
abbrev a3m:=@List.mem_of_getElem?
abbrev a5c:=@List.length_eq_one_iff
abbrev a1z:=@Bool.not_eq_true'
abbrev a1g:=@Bool.false_eq_true
abbrev a1q:=@Sem.run_bind
abbrev a14:=@Result.andThen_ok
abbrev a2h:=@List.map_cons
abbrev a3n:=@Bool.not_true
abbrev a06:=@run_underlying
abbrev a38:=@beq_self_eq_true
abbrev a09:=@Bool.or_eq_true
abbrev a18:=@List.eq_nil_of_length_eq_zero
abbrev a5d:=@Array.getElem?_toList
abbrev a24:=@Addr.add_lit
abbrev a4t:=@World.grownBy_alloc
abbrev a3e:=@heap_alloc_new
abbrev a0x:=@Array.getElem?_eq_some_iff
abbrev a10:=@List.foldl_cons
abbrev a0h:=@List.length_cons
abbrev a39:=@Nat.min_eq_left
abbrev a0w:=@decide_eq_true_eq
abbrev a2k:=@Array.ext'
abbrev a19:=@Array.mem_toList_iff
abbrev a4u:=@List.mapM_cons
abbrev a0t:=@List.mem_cons
abbrev a3o:=@Nat.pos_of_ne_zero
abbrev a3f:=@List.replicate_succ
abbrev a3p:=@List.flatten_cons
abbrev a4v:=@List.getElem?_replicate
abbrev a1u:=@List.getElem?_cons_zero
abbrev a2i:=@List.getElem?_cons_succ
abbrev a05:=@List.length_replicate
abbrev a2l:=@Sem.run_pure
abbrev a3q:=@Int.le_trans
abbrev a4w:=@Int.natCast_mul
abbrev a0y:=@Int.toNat_natCast
abbrev a4x:=@Nat.le_mul_of_pos_right
abbrev a2a:=@Nat.le_succ
theorem ax3{Im:Nat->Prop}{w:World}:(o:O)->(x:o.strip.den)->(S:Nat->Prop)->(vs:List Value)->Rel Im w o x S vs->aq Im w o.hole (o.holeX x) vs
 |.fz t,x,S,vs,r=>by simpa only [Rel,O.hole,O.holeX]using r
 |.p a b,x,S,vs,r=>by simp only[Rel]at r;obtain⟨va,vb,S1,S2,h1,h2,h3,h4,h5,h6⟩:=r;simp only[O.hole,O.holeX,aq];exact⟨va,vb,h1,ax3 a _ _ va h5,ax3 b _ _ vb h6⟩
 |.sl e,x,S,vs,r=>by simp only[Rel]at r;obtain⟨v,ety,xs,T,h,h2,_⟩:=r;simp only[O.hole,aq];exact⟨v,h,axh h2⟩
 |.pt o,x,S,vs,r=>by simp only[Rel]at r;obtain⟨b,us,ty',S',h,_⟩:=r;simp only[O.hole,aq];exact⟨_,h,rfl⟩
 |.mp k v,x,S,vs,r=>by simp only[Rel]at r;obtain⟨b,es,n,h,_⟩:=r;simp only[O.hole,aq];exact⟨_,h,rfl⟩
 |.op e,x,S,vs,r=>by simp only[Rel]at r;simp only[O.hole,O.holeX,aq];exact⟨r.1,r.2.1,fun y hy=>by cases hy⟩
theorem au9:(o:O)->o.hole.size=o.size
 |.fz t=>rfl
 |.p a b=>by simp only[O.hole,O.size,T.size,avy];rw[au9 a,au9 b];rfl
 |.sl e|.pt o|.mp _ _|.op _=>rfl
theorem btj(ad:Pl):ad.plus 0=ad:=by cases ad<;>rfl
theorem bf9(ad:Pl)(a b:Nat):(ad.plus a).plus b=ad.plus (a+b):=by cases ad<;>simp[Pl.plus,a22]
theorem tx(w:World):(π:cr)->(o:O)->(n:Nat)->jj π o=some n->∀(x:o.strip.den)(vs:List Value)(ad:Pl),(∃q,get π o x=some q)/\gok π o x/\∃us,res w π o vs ad=some (us,ad.plus n)
 |[],o,n,h,x,vs,ad=>by simp only[jj,a0e]at h;subst h;exact⟨⟨⟨o,x⟩,by simp only[get]⟩,by simp only[gok],⟨vs,by simp only[res,btj]⟩⟩
 |.l::π,.p a b,n,h,x,vs,ad=>by simp only[jj]at h;obtain⟨h1,h2,h3⟩:=tx w π a n h x.1 (vs.take a.size) ad;exact⟨by simpa only [get]using h1,by simpa only [gok]using h2,by simpa only [res]using h3⟩
 |.r::π,.p a b,n,h,x,vs,ad=>by
  simp only[jj]at h;split at h
  ·rename_i m hm;simp only[a0e]at h;obtain⟨h1,h2,us,h3⟩:=tx w π b m hm x.2 (vs.drop a.size) (ad.plus a.size);refine⟨by simpa only [get]using h1,by simpa only [gok]using h2,us,?_⟩;simp only[res];rw[h3,bf9,←h];simp[O.size]
  ·cases h
 |.l::π,.fz (.p a b),n,h,x,vs,ad=>by simp only[jj]at h;obtain⟨h1,h2,h3⟩:=tx w π (.fz a) n h x.1 (vs.take a.size) ad;exact⟨by simpa only [get]using h1,by simpa only [gok]using h2,by simpa only [res]using h3⟩
 |.r::π,.fz (.p a b),n,h,x,vs,ad=>by
  simp only[jj]at h;split at h
  ·rename_i m hm;simp only[a0e]at h;obtain⟨h1,h2,us,h3⟩:=tx w π (.fz b) m hm x.2 (vs.drop a.size) (ad.plus a.size);refine⟨by simpa only [get]using h1,by simpa only [gok]using h2,us,?_⟩;simp only[res];rw[h3,bf9,←h];simp
  ·cases h
 |.l::_,.sl _,_,h,_,_,_|.l::_,.pt _,_,h,_,_,_|.l::_,.fz (.int _),_,h,_,_,_|.l::_,.fz .bool,_,h,_,_,_|.l::_,.fz .str,_,h,_,_,_|.l::_,.fz .u,_,h,_,_,_|.l::_,.fz (.sl _),_,h,_,_,_|.l::_,.fz (.pt _),_,h,_,_,_|.l::_,.fz (.fn _ _),_,h,_,_,_|.l::_,.fz .any,_,h,_,_,_|.r::_,.sl _,_,h,_,_,_|.r::_,.pt _,_,h,_,_,_|.r::_,.fz (.int _),_,h,_,_,_|.r::_,.fz .bool,_,h,_,_,_|.r::_,.fz .str,_,h,_,_,_|.r::_,.fz .u,_,h,_,_,_|.r::_,.fz (.sl _),_,h,_,_,_|.r::_,.fz (.pt _),_,h,_,_,_|.r::_,.fz (.fn _ _),_,h,_,_,_|.r::_,.fz .any,_,h,_,_,_|.ix _::_,_,_,h,_,_,_|.de::_,_,_,h,_,_,_=>by simp[jj]at h
theorem arn{a b:Option Nat}(h:aan a b=true):∃n,a=some n/\b=some n:=by cases a<;>cases b<;>simp[aan]at h;subst h;exact⟨_,rfl,rfl⟩
theorem acl{π:cr}{o:O}{n:Nat}(h:qb π o=some n):∃ρ o',π=.de::ρ/\o=.pt o'/\jj ρ o'=some n:=by
 unfold qb at h;split at h
 ·exact⟨_,_,rfl,rfl,h⟩
 ·cases h
structure Chg (w w':World) (t:Nat->Prop):Prop where
 os:w'.os=w.os
 tape:TD w' w
 output:w'.output=w.output
 size:w'.heap.size=w.heap.size
 old:∀b,¬t b->w'.heap[b]? = w.heap[b]?
section
variable {F:Fr} {p p' p'':Ow} {env:Env} {M M' M'':Mem} {a:Act} {w w' w'':World}
theorem Tr.put(h:Hp F p M w){k:Nat}{ob ob' n q:Ob}{π:cr}{us us':List Value}{pl:Pl}{S' S'' L':Nat->Prop}(hk:go M k=some ob)
  (hsub:∀c,S' c->p.σ k c) (hpl:dp π=true->∃b off cur ty',pl=some (b,off)/\p.σ k b/\¬S' b/\w.heap[b]? = some (.cells cur ty' (0,0))/\∀(j:Nat)(u:Value),us[j]? = some u->cur[off+j]? = some u)
  (hwand:Wand (Imm F p M w) w π ob.o ob.x (p.σ k) S' q [p.β k] pl)
  (hset:set π ob.o ob.x n=some ob') (hsz:n.o.size=q.o.size) (hout:fk π ob.o [p.β k] us'=[p.β k])
  (hc:Chg w w' (fun b=>dp π=true/\∃off,pl=some (b,off)))
  (hc0:dp π=true->∀b off,pl=some (b,off)->∀cur ty',w.heap[b]? = some (.cells cur ty' (0,0))->w'.heap[b]? = some (.cells (gg cur.toList off us').toArray ty' (0,0)))
  (hS:∀c,S'' c->p.L c\/S' c) (hL:∀c,L' c->(p.L c\/S' c)/\¬S'' c) (hg:(∃c,L' c/\S' c)->k<gid)
  (hn:ju (Imm F p M w) (Imm F ⟨p.β,fun j=>if j=k then fun c=>(p.σ k c/\¬S' c)\/S'' c else p.σ j,L'⟩ (put k ob' M) w') w w'->
   Rel (Imm F ⟨p.β,fun j=>if j=k then fun c=>(p.σ k c/\¬S' c)\/S'' c else p.σ j,L'⟩ (put k ob' M) w') w' n.o n.x S'' us') :
  Tr F p M w [.cut k ob.o ob'.o] ⟨p.β,fun j=>if j=k then fun c=>(p.σ k c/\¬S' c)\/S'' c else p.σ j,L'⟩ (put k ob' M) w':=by
 generalize hp':(⟨p.β,fun j=>if j=k then fun c=>(p.σ k c/\¬S' c)\/S'' c else p.σ j,L'⟩:Ow)=p' at hn⊢;have hβ:p'.β=p.β:=by rw[←hp']
 have hσk:p'.σ k=fun c=>(p.σ k c/\¬S' c)\/S'' c:=by rw[←hp'];simp
 have hσ:∀j,j≠k->p'.σ j=p.σ j:=fun j hj=>by rw[←hp'];simp[hj]
 have hL':∀c,p'.L c->(p.L c\/S' c)/\¬S'' c:=by rw[←hp'];exact hL
 have hgk:∀c,p'.L c->S' c->k<gid:=fun c h1 h2=>hg ⟨c,by rw[←hp']at h1;exact h1,h2⟩;have hlk:=cq hk;have htk:∀b,(dp π=true/\∃off,pl=some (b,off))->p.σ k b:=fun b hb=>by obtain⟨b0,off,cur,ty',k1,k2,_⟩:=hpl hb.1;obtain⟨off',k3⟩:=hb.2;rw[k1]at k3;cases k3;exact k2
 have hkeep:ju (Imm F p M w) (Imm F p' (Bm.put k ob' M) w') w w':=fun b hb=>by
  refine⟨⟨by rw[hc.size];exact hb.1,hb.2.1,fun hl=>?_,fun j hj=>?_⟩,hc.old b (fun ht=>hb.2.2.2 k hlk (htk b ht))⟩
  ·rcases (hL' b hl).1 with h1|h1
   ·exact hb.2.2.1 h1
   ·exact hb.2.2.2 k hlk (hsub b h1)
  ·by_cases e:j=k
   ·subst e;rw[hσk];rintro (⟨h1,_⟩|h1)
    ·exact hb.2.2.2 j hlk h1
    ·rcases hS b h1 with h2|h2
     ·exact hb.2.2.1 h2
     ·exact hb.2.2.2 j hlk (hsub b h2)
   ·rw[hσ j e];exact hb.2.2.2 j (afc.1 hj)
 have hoth:∀j,j≠k->c6 M j->∀b,p.σ j b->w'.heap[b]? = w.heap[b]?:=fun j hj hl b hb=>hc.old b (fun ht=>h.sep j k b hj hl hlk hb (htk b ht))
 have hwd:=hwand (Imm F p' (Bm.put k ob' M) w') w' n S'' us' ob' hset hsz (hn hkeep) hkeep (fun c h1 h2=>(hS c h1).elim (fun h3=>((h.lim c h3).2.2 k hlk h2).elim) id) hc0
  (fun c h1 _ h3=>hc.old c (fun ht=>h3 c ht.2.choose ht.2.choose_spec ht.1 rfl))
 rw[hout]at hwd;refine Tr.one _ hkeep (fun j ρ vs r=>?_) (fun j ρ v r=>?_) ⟨fun j o hj=>?_,fun j j' b hne hj hj' hb=>?_,fun j b hj hb=>?_,fun b hb=>?_,hc.os.trans h.os,hc.tape.trans h.tape,hc.output.trans h.output,by rw[hc.size];exact h.size,fun b hb hR=>?_⟩
 ·simp only[Ev.ref,dg];by_cases e:j=k
  ·subst e;rw[a0a rfl]
   cases ρ with
   |nil=>simp only[z7,a0d,ak];obtain⟨o,pl0,k1,k2,k3,k4⟩:=r;simp only[res,a0e,a0n]at k4;obtain⟨rfl,rfl⟩:=k4;exact⟨ob',none,my ob' M hlk,by simp only[gok],⟨ob',by simp only[get]⟩,by simp only[res,hβ]⟩
   |cons s ρ=>simp only[z7,a0j,ak];exact r.one h
  ·rw[ds e];simp only[ak];exact r.same h (lu ob' e M) (by rw[hβ]) (hoth j e)
 ·simp only[Ev.ad,dg];by_cases e:j=k
  ·subst e;rw[a0a rfl]
   cases hs:aan (qb ρ ob.o) (qb ρ ob'.o)with
   |false=>simp only[a0j,ak];intro u hu;rw[a0s.1 hu];exact r.one
   |true=>simp only[a0d,ak];refine⟨v,rfl,?_⟩;obtain⟨m,s1,s2⟩:=arn hs;obtain⟨o,us0,b0,off0,k1,k2,k3,k4,k5,rfl⟩:=r;rw[hk]at k1;cases k1;obtain⟨ρ1,o1,rfl,e1,f1⟩:=acl s1;obtain⟨ρ2,o2,e2',e2,f2⟩:=acl s2;simp only[a0q,a0f]at e2';subst e2';obtain⟨ox,xx⟩:=ob;obtain⟨ox',xx'⟩:=ob';simp only at e1 e2;subst e1 e2;have hr:=h.objs j _ hk;simp only[Rel]at hr;obtain⟨bb,us1,ty',S1,r1,r2,r3,r4,r5⟩:=hr;simp only[a0q,a0c]at r1;rw[r1]at k5;simp only[res]at k5;obtain⟨_,_,us2,q3⟩:=tx w ρ1 o1 m f1 xx (cellsOf w bb 0 o1.size) (some (bb,0));rw[q3]at k5;simp only[a0e,a0n]at k5;obtain⟨q1,q2,us3,q3'⟩:=tx w' ρ1 o2 m f2 xx' (cellsOf w' bb 0 o2.size) (some (bb,0));refine⟨_,us3,b0,off0,my _ M hlk,by simpa only [gok]using q2,by simpa only [get]using q1,by simp only[dp],?_,rfl⟩;rw[hβ,r1];simp only[res];rw[q3',k5.2]
  ·rw[ds e];simp only[ak];exact⟨v,rfl,r.same h (lu ob' e M) (by rw[hβ]) (hoth j e)⟩
 ·by_cases e:j=k
  ·subst e;rw[my ob' M hlk]at hj;cases hj;rw[hβ,hσk];exact hwd.2
  ·rw[lu ob' e]at hj;rw[hβ,hσ j e];exact Rel.keep hkeep _ _ _ _ (hoth j e (cq hj)) (h.objs j o hj)
 ·have hj1:=afc.1 hj;have hj2:=afc.1 hj';by_cases e:j=k
  ·rw[e,hσk]at hb;rw[hσ j' (fun e'=>hne (e.trans e'.symm))];rcases hb with⟨h1,_⟩|h1
   ·exact h.sep k j' b (fun e'=>hne (e.trans e')) hlk hj2 h1
   ·rcases hS b h1 with h2|h2
    ·exact (h.lim b h2).2.2 j' hj2
    ·exact h.sep k j' b (fun e'=>hne (e.trans e')) hlk hj2 (hsub b h2)
  ·rw[hσ j e]at hb;by_cases e':j'=k
   ·rw[e',hσk];rintro (⟨h1,_⟩|h1)
    ·exact h.sep j k b e hj1 hlk hb h1
    ·rcases hS b h1 with h2|h2
     ·exact (h.lim b h2).2.2 j hj1 hb
     ·exact h.sep j k b e hj1 hlk hb (hsub b h2)
   ·rw[hσ j' e'];exact h.sep j j' b hne hj1 hj2 hb
 ·have hj1:=afc.1 hj;rw[hc.size];by_cases e:j=k
  ·rw[e,hσk]at hb;rcases hb with⟨h1,_⟩|h1
   ·rw[e];exact h.own k b hlk h1
   ·rcases hS b h1 with h2|h2
    ·exact⟨(h.lim b h2).1,.inr (h.lim b h2).2.1⟩
    ·rw[e];exact h.own k b hlk (hsub b h2)
  ·rw[hσ j e]at hb;exact h.own j b hj1 hb
 ·obtain⟨h1,h2⟩:=hL' b hb;rw[hc.size];rcases h1 with h1|h1
  ·refine⟨(h.lim b h1).1,(h.lim b h1).2.1,fun j hj=>?_⟩;by_cases e:j=k
   ·rw[e,hσk];rintro (⟨h3,_⟩|h3)
    ·exact (h.lim b h1).2.2 k hlk h3
    ·exact h2 h3
   ·rw[hσ j e];exact (h.lim b h1).2.2 j (afc.1 hj)
  ·have ho:=h.own k b hlk (hsub b h1);have hg':=hgk b hb h1;refine⟨ho.1,ho.2.elim (fun h=>by have:=h.1;omega) id,fun j hj=>?_⟩;by_cases e:j=k
   ·rw[e,hσk];rintro (⟨_,h3⟩|h3)
    ·exact h3 h1
    ·exact h2 h3
   ·rw[hσ j e];exact h.sep k j b (a0u e) hlk (afc.1 hj) (hsub b h1)
 ·rw[hc.old b (fun ht=>?_)]
  ·exact h.old b hb hR
  ·rcases (h.own k b hlk (htk b ht)).2 with h1|h1
   ·exact hR h1.2
   ·exact h1.r.elim hR (fun h'=>by omega)
end
end Go.Bm
/- The ff machine:what is handed on into a tree. -/
namespace Go.Bm
open Go.RowKit
theorem ag5{a b:T}{x:a.den}{y:b.den}(h:rj b x=some y):∃e:a=b,e▸x=y:=by
 unfold rj at h;split at h
 ·rename_i he;cases h;exact⟨T.beq_eq he,rfl⟩
 ·cases h
theorem bo7(o:O)(x:o.strip.den):yp ⟨o,x⟩ o=some x:=by
 unfold yp;split
 ·rfl
 ·rename_i h;rw[O.beq_refl]at h;cases h
theorem bnw(k:Nat)(a b:Ob):∀M:Mem,put k a (put k b M)=put k a M
 |[]=>rfl
 |(j,x)::r=>by
  simp only[put,dg];split
  ·simp only[put,dg,a04]
  ·rename_i h;simp only[put,dg,ds h];rw[bnw k a b r]
theorem x5{Im:Nat->Prop}{w:World}{a b:T}{x:a.den}{y:b.den}{vs:List Value}(h:rj b x=some y)(r:aq Im w a x vs):aq Im w b y vs:=by obtain⟨rfl,rfl⟩:=ag5 h;exact r
theorem xq{q:Ob}{o:O}{x:o.strip.den}(h:yp q o=some x):q=⟨o,x⟩:=by
 unfold yp at h;split at h
 ·rename_i he;cases h;obtain⟨qo,qx⟩:=q;have:=O.beq_eq he;subst this;rfl
 ·cases h
theorem x9{cur:List Value}{off:Nat}{us:List Value}(h:∀(j:Nat)(u:Value),us[j]? = some u->cur[off+j]? = some u):gg cur off us=cur:=by
 rcases us.eq_nil_or_concat with rfl|⟨_,_,hne⟩
 ·simp[gg]
 have hlen:off+us.length<=cur.length:=by
  have hp:0<us.length:=by rw[hne];simp
  have:=h (us.length-1) us[us.length-1] (a0p (by omega));have:=(a1i.1 this).1;omega
 apply a2o;intro j;unfold gg;by_cases q1:j<off
 ·rw[a01,a1f (by simp;omega),a1d,a0a q1]
 ·by_cases q2:j<off+us.length
  ·rw[a1f (by simp;omega),a1s (by simp;omega)];rw[show j-(List.take off cur).length=j-off by simp;omega,a0p (by omega:j-off<us.length)];have:=h (j-off) us[j-off] (a0p (by omega));rw[show off+(j-off)=j by omega]at this;rw[this]
  ·rw[a1s (by simp;omega),a1l];congr 1;simp;omega
theorem Chg.refl(w:World)(t:Nat->Prop):Chg w w t:=⟨rfl,TD.refl w,rfl,rfl,fun _ _=>rfl⟩
section
variable {F:Fr} {p p' p'':Ow} {env:Env} {M M' M'':Mem} {a:Act} {w w' w'':World}
theorem Tr.cut(h:Hp F p M w){k:Nat}{ob ob' q:Ob}{π:cr}{us:List Value}{pl:Pl}(hk:go M k=some ob)(hg:k<gid)(h2:gok π ob.o ob.x)(h3:get π ob.o ob.x=some q)
  (h4:res w π ob.o [p.β k] none=some (us,pl)) (hset:set π ob.o ob.x ⟨.fz q.o.hole,q.o.holeX q.x⟩=some ob') :
  ∃p':Ow,∃S:Nat->Prop,p'.β=p.β/\(∀b,p'.L b<->p.L b\/S b)/\(∀b,S b->¬p.L b)/\Tr F p M w [.cut k ob.o ob'.o] p' (Bm.put k ob' M) w/\Rel (Imm F p' (Bm.put k ob' M) w) w q.o q.x S us:=by
 obtain⟨us0,pl0,S',e1,e2,e3,e4,e5,e6⟩:=look h hk h2 h3;rw[e1]at h4;cases h4;have hl:=cq hk
 have hout:fk π ob.o [p.β k] us=[p.β k]:=by
  cases hh:dp π with
  |true=>exact ui π _ _ _ hh
  |false=>
   obtain⟨n,k1,k2,k3,k4,k5⟩:=e5 hh;rw[k5 us rfl];refine x9 (fun j u hu=>?_);rw[k3,a1d]at hu;split at hu
   ·rw[a1l]at hu;exact hu
   ·cases hu
 have ht:=Tr.put (S'':=fun _=>False) (L':=fun b=>p.L b\/S' b) (us':=us) (w':=w) h hk e2 e4 e6 hset (by simp only[O.size,O.strip];exact au9 q.o) hout (Chg.refl w _)
  (fun hh b off hp cur ty' hb=>by obtain⟨b0,off0,cur0,ty0,k1,k2,k3,k4,k5⟩:=e4 hh;rw[k1]at hp;cases hp;rw[k4]at hb;cases hb;rw[k4,x9 (by simpa using k5)]) (fun c hc=>hc.elim) (fun c hc=>⟨hc,fun h=>h⟩) (fun _=>hg)
  (fun hk'=>by simp only[Rel];exact ax3 q.o q.x (fun b=>S' b) us (Rel.keep hk' _ _ _ _ (fun _ _=>rfl) e3))
 exact⟨⟨p.β,_,fun b=>p.L b\/S' b⟩,S',rfl,fun b=>a17,fun b hb hL=>(h.lim b hL).2.2 k hl (e2 b hb),ht,Rel.keep ht.keep _ _ _ _ (fun _ _=>rfl) e3⟩
theorem yu:(v:V)->(M:Mem)->Hp F p M w->Tr F p M w (cu M v).1 p (cu M v).2 w
 |.ref k _,M,h=>by
  simp only[cu];split
  ·rename_i ob hk;exact Tr.frz h k ob hk
  ·exact Tr.refl h
 |.ad k _,M,h=>by
  simp only[cu];split
  ·rename_i ob hk;exact Tr.frz h k ob hk
  ·exact Tr.refl h
 |.p a b,M,h=>by simp only[cu];have h1:=yu a M h;have h2:=yu b _ h1.hp;exact h1.trans h2
 |.ag v,M,h|.fn _ v,M,h|.ifc _ v,M,h|.bx v,M,h|.tup v,M,h|.gd _ _ _ v,M,h=>by simp only[cu];exact yu v M h
 |.any,M,h|.nl,M,h|.np,M,h|.u,M,h|.d _ _,M,h=>by simp only[cu];exact Tr.refl h
theorem abe:(v:V)->(M:Mem)->((cu M v).1=[]/\(cu M v).2=M)\/∃x r,(cu M v).1=x::r/\fresh M [x]=false
 |.ref k _,M=>by
  simp only[cu];split
  ·exact .inr ⟨_,_,rfl,rfl⟩
  ·exact .inl ⟨rfl,rfl⟩
 |.ad k _,M=>by
  simp only[cu];split
  ·exact .inr ⟨_,_,rfl,rfl⟩
  ·exact .inl ⟨rfl,rfl⟩
 |.p a b,M=>by
  simp only[cu];rcases abe a M with⟨h1,h2⟩|⟨x,r,h1,h2⟩
  ·rw[h1,h2];simp only[ap];exact abe b M
  ·exact .inr ⟨x,_,by rw[h1];rfl,h2⟩
 |.ag v,M|.fn _ v,M|.ifc _ v,M|.bx v,M|.tup v,M|.gd _ _ _ v,M=>by simp only[cu];exact abe v M
 |.any,M|.nl,M|.np,M|.u,M|.d _ _,M=>by simp[cu]
def acc(M M':Mem):Prop:=∀k,go M' k=none\/go M' k=go M k
theorem acc.refl(M:Mem):acc M M:=fun _=>.inr rfl
theorem acc.trans{M M' M'':Mem}(h:acc M M')(k:acc M' M''):acc M M'':=fun j=>by
 rcases k j with e|e
 ·exact .inl e
 ·rcases h j with e'|e'
  ·exact .inl (by rw[e,e'])
  ·exact .inr (by rw[e,e'])
theorem asp(k:Nat)(M:Mem):acc M (del k M):=fun j=>by
 by_cases e:j=k
 ·subst e;exact .inl (dy j M)
 ·exact .inr (dx e M)
theorem xy:(v:V)->(M:Mem)->acc M (cu M v).2
 |.ref k _,M=>by
  simp only[cu];split
  ·exact asp k M
  ·exact acc.refl M
 |.ad k _,M=>by
  simp only[cu];split
  ·exact asp k M
  ·exact acc.refl M
 |.p a b,M=>by simp only[cu];exact (xy a M).trans (xy b _)
 |.ag v,M|.fn _ v,M|.ifc _ v,M|.bx v,M|.tup v,M|.gd _ _ _ v,M=>by simp only[cu];exact xy v M
 |.any,M|.nl,M|.np,M|.u,M|.d _ _,M=>by simp only[cu];exact acc.refl M
theorem bq0{Im:Nat->Prop}{w:World}{a:T}{x:Option (List a.den)}{vs:List Value}(r:aq Im w (.ns (.sl a)) x vs):aq Im w (.sl a) (x.getD []) vs:=by
 simp only[aq]at r;rcases r with⟨rfl,rfl⟩|⟨y,b,n,c,rfl,rfl,r⟩
 ·simp only[aq,a2w,a0i];exact⟨none,0,rfl,⟨a1j _,a0k _⟩,fun _=>⟨trivial,rfl⟩,fun a ha=>by cases ha⟩
 ·simpa only [aq,a1n]using r
theorem bs2{Im:Nat->Prop}{w:World}{a b:T}{f:a.den->b.den}(hs:a.size=b.size)(hf:∀(x:a.den)(vs:List Value),aq Im w a x vs->aq Im w b (f x) vs){l:List a.den}{vs:List Value}(r:aq Im w (.sl a) l vs):aq Im w (.sl b) (l.map f) vs:=by
 simp only[aq]at r⊢;obtain⟨oa,cap,h1,h2,h3,h4⟩:=r;refine⟨oa,cap,by rw[a00];exact h1,by rw[a00];exact h2,fun h=>by rw[a00];exact h3 h,fun ad ha hp=>?_⟩;rw[a00]at hp;obtain⟨k1,k2,k3⟩:=h4 ad ha hp;refine⟨k1,k2,fun i z hz=>?_⟩;rw[a1r]at hz
 cases hx:l[i]? with
 |none=>rw[hx]at hz;cases hz
 |some q=>rw[hx]at hz;simp only[a1e,a0e]at hz;subst hz;obtain⟨us,u1,u2⟩:=k3 i q hx;exact⟨us,by rw[←hs];exact u1,hf _ _ u2⟩
theorem ayg{Im:Nat->Prop}{w:World}{a b:T}{x:a.den}{y:b.den}{vs:List Value}(h:bw2 a x b=some y)(r:aq Im w a x vs):aq Im w b y vs:=by
 unfold bw2 at h;split at h
 ·exact x5 h (bq0 r)
 ·rename_i a x b;exact x5 h (bs2 (a:=.ns (.sl a)) (b:=.sl a) (f:=fun x=>Option.getD x []) rfl (fun x vs r=>bq0 r) r)
 ·rename_i c a x d b;refine x5 h (bs2 (a:=.p c (.ns (.sl a))) (b:=.p c (.sl a)) (f:=fun x=>(x.1,x.2.getD [])) rfl (fun x vs r=>?_) r);simp only[aq]at r;obtain⟨va,vb,h1,h2,h3⟩:=r;unfold aq;exact⟨va,vb,h1,h2,bq0 (by simpa only [aq]using h3)⟩
 ·rename_i a x b;split at h
  ·rename_i y' hy;cases h;have r':=x5 hy r;have r0:=r;simp only[aq]at r0;obtain⟨oa,cap,rfl,_⟩:=r0;simp only[aq]at r'⊢;exact .inr ⟨_,_,_,_,rfl,rfl,r'⟩
  ·cases h
 ·rename_i i x j
  cases hb:Nat.beq i j with
  |true=>rw[hb]at h;simp only[a0d,a0e]at h;have:=a0v hb;subst this;subst h;exact r
  |false=>
   rw[hb]at h;simp only[a0j]at h;simp only[aq]at r⊢;rcases r with⟨rfl,hv⟩|⟨s,rfl,hv⟩
   ·simp only[a0e]at h;subst h;exact .inl ⟨rfl,hv⟩
   ·cases h
 ·exact x5 h r
theorem bz2{Im:Nat->Prop}{w:World}(a:T):∀(b:T)(x:a.den)(y:b.den)(vs:List Value),coD a x b=some y->aq Im w a x vs->aq Im w b y vs:=by
 induction a with
 |p a c iha ihc=>
  intro b x y vs h r
  cases b with
  |p b d=>
   simp only[coD]at h;split at h
   ·rename_i y1 y2 h1 h2;cases h;simp only[aq]at r⊢;obtain⟨va,vb,e,r1,r2⟩:=r;exact⟨va,vb,e,iha b _ _ _ h1 r1,ihc d _ _ _ h2 r2⟩
   ·cases h
  |_=>simp only[coD]at h;exact ayg h r
 |pt a ih=>
  intro b x y vs h r
  cases b with
  |pt b=>simp only[coD]at h;simp only[aq]at r⊢;obtain⟨bb,o,us,e,h1,h2,h3⟩:=r;exact⟨bb,o,us,e,h1,h2,ih b _ _ _ h h3⟩
  |_=>simp only[coD]at h;exact ayg h r
 |_=>intro b x y vs h r;simp only[coD]at h;exact ayg h r
theorem awr{Im:Nat->Prop}{w:World}{a b:T}{x:a.den}{y:b.den}{vs:List Value}(h:asD a x b=some y)(r:aq Im w a x vs):aq Im w b y vs:=by
 unfold asD at h;split at h
 ·rename_i z hz;cases h;exact x5 hz r
 ·exact bz2 _ _ _ _ _ h r
theorem aiu{β:Nat->Value}{Im:Nat->Prop}:(v:V)->(t:T)->(vs:List Value)->(x:t.den)->ak β M Im w v vs->v.as t=some x->aq Im w t x vs
 |.d s y,t,vs,x,r,h=>by simp only[ak]at r;simp only[V.as]at h;exact awr h r
 |.p a b,.p t s,vs,x,r,h=>by
  simp only[ak]at r;simp only[V.as]at h;split at h
  ·rename_i y z hy hz;cases h;obtain⟨va,vb,h1,h2,h3⟩:=r;simp only[aq];exact⟨va,vb,h1,aiu a t va y h2 hy,aiu b s vb z h3 hz⟩
  ·cases h
 |.nl,.sl _,vs,x,r,h=>by simp only[ak]at r;simp only[V.as,a0e]at h;subst h;simp only[aq];obtain⟨oa,r⟩:=r;exact⟨oa,0,r,⟨a1j _,a0k _⟩,fun _=>⟨rfl,rfl⟩,fun a ha hpos=>absurd hpos (a2x 0)⟩
 |.u,.u,vs,x,r,h=>by simp only[ak]at r;simp only[aq];exact r
 |.np,.any,vs,x,r,h=>by simp only[ak]at r;simp only[aq];exact⟨_,r,rfl⟩
 |.bx v,.pt t,vs,x,r,h=>by simp only[V.as]at h;simp only[ak]at r;obtain⟨b,o,us,h1,h2,h3,h4⟩:=r;simp only[aq];exact⟨b,o,us,h1,h2,h3,aiu v t us x h4 h⟩
 |.fn f v,.fn f' t,vs,x,r,h=>by
  simp only[ak]at r;simp only[V.as,dg]at h;split at h
  ·rename_i e;subst e;obtain⟨us,h1,h2⟩:=r;simp only[aq];exact⟨us,h1,aiu v t us x h2 h⟩
  ·cases h
 |.p _ _,.int _,_,_,_,h|.p _ _,.bool,_,_,_,h|.p _ _,.str,_,_,_,h|.p _ _,.u,_,_,_,h|.p _ _,.sl _,_,_,_,h|.p _ _,.pt _,_,_,_,h|.p _ _,.fn _ _,_,_,_,h|.p _ _,.any,_,_,_,h|.nl,.int _,_,_,_,h|.nl,.bool,_,_,_,h|.nl,.str,_,_,_,h|.nl,.u,_,_,_,h|.nl,.p _ _,_,_,_,h|.nl,.pt _,_,_,_,h|.nl,.fn _ _,_,_,_,h|.nl,.any,_,_,_,h|.u,.int _,_,_,_,h|.u,.bool,_,_,_,h|.u,.str,_,_,_,h|.u,.sl _,_,_,_,h|.u,.p _ _,_,_,_,h|.u,.pt _,_,_,_,h|.u,.fn _ _,_,_,_,h|.u,.any,_,_,_,h|.np,.int _,_,_,_,h|.np,.bool,_,_,_,h|.np,.str,_,_,_,h|.np,.sl _,_,_,_,h|.np,.p _ _,_,_,_,h|.np,.pt _,_,_,_,h|.np,.fn _ _,_,_,_,h|.np,.u,_,_,_,h|.fn _ _,.int _,_,_,_,h|.fn _ _,.bool,_,_,_,h|.fn _ _,.str,_,_,_,h|.fn _ _,.sl _,_,_,_,h|.fn _ _,.p _ _,_,_,_,h|.fn _ _,.pt _,_,_,_,h|.fn _ _,.u,_,_,_,h|.fn _ _,.any,_,_,_,h|.bx _,.int _,_,_,_,h|.bx _,.bool,_,_,_,h|.bx _,.str,_,_,_,h|.bx _,.sl _,_,_,_,h|.bx _,.p _ _,_,_,_,h|.bx _,.fn _ _,_,_,_,h|.bx _,.u,_,_,_,h|.bx _,.any,_,_,_,h|.any,_,_,_,_,h|.ref _ _,_,_,_,_,h|.ad _ _,_,_,_,_,h|.ag _,_,_,_,r,h|.tup _,_,_,_,r,h|.gd _ _ _ _,_,_,_,r,h=>by simp[V.as]at h
 |.ifc f v,.ifc f' t,vs,x,r,h=>by
  simp only[ak]at r;simp only[V.as,dg]at h;split at h
  ·rename_i e;subst e;obtain⟨u,h1,h2⟩:=r;simp only[aq];exact⟨u,h1,aiu v t [u] x h2 h⟩
  ·cases h
 |.ifc _ _,.int _,_,_,_,h|.ifc _ _,.bool,_,_,_,h|.ifc _ _,.str,_,_,_,h|.ifc _ _,.sl _,_,_,_,h|.ifc _ _,.p _ _,_,_,_,h|.ifc _ _,.pt _,_,_,_,h|.ifc _ _,.u,_,_,_,h|.ifc _ _,.any,_,_,_,h|.ifc _ _,.fn _ _,_,_,_,h=>by simp[V.as]at h
structure Cv (F:Fr) (p:Ow) (M:Mem) (w:World) (k:Nat) (q:Ob) (e:List Ev) (vs:List Value) (p':Ow) (M':Mem) (S:Nat->Prop):Prop where
 β:p'.β=p.β
 L:∀b,p'.L b<->p.L b\/S b
 sp:∀b,S b->¬p.L b
 tr:Tr F p M w e p' M' w
 rel:Rel (Imm F p' M' w) w q.o q.x S vs
 fr:(e=[]/\M'=M/\p'=p)\/∃x r,e=x::r/\fresh M [x]=false
theorem Cv.dat(h:Hp F p M w)(k:Nat){t:T}{x:t.den}{vs:List Value}(r:aq (Imm F p M w) w t x vs):Cv F p M w k ⟨.fz t,x⟩ [] vs p M (fun _=>False):=⟨rfl,fun b=>by simp,fun b hb=>hb.elim,Tr.refl h,by simp only[Rel];exact r,.inl ⟨rfl,rfl,rfl⟩⟩
theorem Cv.frz(h:Hp F p M w)(k:Nat){r:Nat}{ob:Ob}(hk:go M r=some ob){t:T}{x:t.den}{vs:List Value}(hr:aq (Imm F p (del r M) w) w t x vs):Cv F p M w k ⟨.fz t,x⟩ [.fz r ob] vs p (del r M) (fun _=>False):=⟨rfl,fun b=>by simp,fun b hb=>hb.elim,Tr.frz h r ob hk,by simp only[Rel];exact hr,.inr ⟨_,_,rfl,rfl⟩⟩
theorem Cv.whole(h:Hp F p M w)(k:Nat){r:Nat}{ob:Ob}(hk:go M r=some ob)(hg:r<gid):Cv F p M w k ob [.kl r] [p.β r] ⟨p.β,p.σ,fun b=>p.L b\/p.σ r b⟩ (del r M) (p.σ r):=⟨rfl,fun b=>a17,fun b hb hL=>(h.lim b hL).2.2 r (cq hk) hb,Tr.lim h r (cq hk) hg,Rel.keep (Tr.lim h r (cq hk) hg).keep _ _ _ _ (fun _ _=>rfl) (h.objs r ob hk),.inr ⟨_,_,rfl,by simp[fresh,hk,isN]⟩⟩
theorem zu{r k:Nat}(h:neg (nq r k)=false):r≠k/\r<gid:=by
 simp only[qu,nq,cd]at h
 cases h1:Nat.beq r k with
 |true=>simp[h1]at h
 |false=>
  cases h2:Nat.ble (Nat.succ r) gid with
  |false=>simp[h1,h2]at h
  |true=>exact⟨fun e=>by subst e;simp at h1,a08 h2⟩
theorem bm2(w:World)(ety:TypeId)(sz:Nat)(oa:Option Addr):xm w ety sz (.slice oa 0 0) 0 []:=⟨by simp,.inl ⟨rfl,oa,rfl⟩⟩
theorem aqc{Im:Nat->Prop}(e:O)(oa:Option Addr):Rel Im w (.sl e) ([]:List e.strip.den) (fun _=>False) [.slice oa 0 0]:=by
 simp only[Rel];refine⟨_,0,[],fun _ _=>False,rfl,bm2 w 0 e.size oa,a1j _,?_,?_,?_,?_⟩
 ·intro c hc;cases oa<;>cases hc
 ·intro i c hc;exact hc.elim
 ·intro i j c _ hc;exact hc.elim
 ·intro i x hx;simp at hx
theorem ayq(h:Hp F p M w){r:Nat}{ob q:Ob}{ρ:cr}{vs:List Value}(hk:go M r=some ob)(hq:get ρ ob.o ob.x=some q)(hr:Ref p.β M w r ρ vs):aq (Imm F p (del r M) w) w q.o.strip q.x vs:=by obtain⟨ob',pl,h1,h2,⟨q',h3⟩,h4⟩:=hr;rw[hk]at h1;cases h1;obtain⟨us,pl',S',e1,e2,e3,_⟩:=look h hk h2 hq;rw[e1]at h4;cases h4;exact Rel.frz (fun b hb=>((h.del r).2 b hb).1) _ _ S' _ (fun b hb=>aft h (cq hk) (e2 b hb)) e3
theorem bwn(h:Hp F p M w){r:Nat}{ob q:Ob}{ρ:cr}{v:Value}(hk:go M r=some ob)(hq:get ρ ob.o ob.x=some q)(hr:Adr p.β M w r ρ v):aq (Imm F p (del r M) w) w (.pt q.o.strip) q.x [v]:=by obtain⟨ob',us0,b0,off0,h1,h2,⟨q',h3⟩,h4,h5,rfl⟩:=hr;rw[hk]at h1;cases h1;obtain⟨us,pl',S',e1,e2,e3,e4,_⟩:=look h hk h2 hq;rw[e1]at h5;simp only[a0e,a0n]at h5;obtain⟨rfl,rfl⟩:=h5;obtain⟨b,off,cur,ty',k1,k2,k3,k4,k5⟩:=e4 h4;simp only[a0e,a0n]at k1;obtain⟨rfl,rfl⟩:=k1;simp only[aq];refine⟨b0,off0,us,rfl,aft h (cq hk) k2,fun j' u hu=>?_,Rel.frz (fun b hb=>((h.del r).2 b hb).1) _ _ S' _ (fun b hb=>aft h (cq hk) (e2 b hb)) e3⟩;rw[a2f w b0 _ cur ty' (0,0) k4];exact k5 j' u hu
theorem avr{w:World}:∀(π:cr)(o o':O)(l:List Nat),trk π o=some l->trk π o'=some l->(∀vs ad,res w π o vs ad=res w π o' vs ad)/\(∀x,gok π o' x)/\∀x,∃q,get π o' x=some q
 |[],o,o',l,h,h'=>⟨fun _ _=>rfl,fun _=>by simp only[gok],fun x=>⟨_,rfl⟩⟩
 |.l::π,.p a b,o',l,h,h'=>by
  simp only[trk]at h;split at h
  ·rename_i l1 h1;cases h
   cases o' with
   |p a' b'=>
    simp only[trk]at h';split at h'
    ·rename_i l2 h2;simp only[a0e,a0q,a0f]at h';obtain⟨e1,rfl⟩:=h';obtain⟨q1,q2,q3⟩:=avr (w:=w) π a a' l2 h1 h2;exact⟨fun vs ad=>by simp only[res,O.size];rw[e1];exact q1 _ _,fun x=>by simp only[gok];exact q2 _,fun x=>by simp only[get];exact q3 _⟩
    ·cases h'
   |_=>simp[trk]at h'
  ·cases h
 |.r::π,.p a b,o',l,h,h'=>by
  simp only[trk]at h;split at h
  ·rename_i l1 h1;cases h
   cases o' with
   |p a' b'=>
    simp only[trk]at h';split at h'
    ·rename_i l2 h2;simp only[a0e,a0q,a0f]at h';obtain⟨e1,rfl⟩:=h';obtain⟨q1,q2,q3⟩:=avr (w:=w) π b b' l2 h1 h2;exact⟨fun vs ad=>by simp only[res,O.size];rw[e1];exact q1 _ _,fun x=>by simp only[gok];exact q2 _,fun x=>by simp only[get];exact q3 _⟩
    ·cases h'
   |_=>simp[trk]at h'
  ·cases h
 |.de::π,.pt t,o',l,h,h'=>by
  simp only[trk]at h;split at h
  ·rename_i l1 h1;cases h
   cases o' with
   |pt t'=>
    simp only[trk]at h';split at h'
    ·rename_i l2 h2;simp only[a0e,a0q,a0f]at h';obtain⟨e1,rfl⟩:=h';obtain⟨q1,q2,q3⟩:=avr (w:=w) π t t' l2 h1 h2;exact⟨fun vs ad=>by simp only[res,O.size];rw[e1];split<;>first|exact q1 _ _|rfl,fun x=>by simp only[gok];exact q2 _,fun x=>by simp only[get];exact q3 _⟩
    ·cases h'
   |_=>simp[trk]at h'
  ·cases h
 |.l::_,.fz _,_,_,h,_|.l::_,.sl _,_,_,h,_|.l::_,.pt _,_,_,h,_|.l::_,.mp _ _,_,_,h,_|.l::_,.op _,_,_,h,_|.r::_,.fz _,_,_,h,_|.r::_,.sl _,_,_,h,_|.r::_,.pt _,_,_,h,_|.r::_,.mp _ _,_,_,h,_|.r::_,.op _,_,_,h,_|.de::_,.fz _,_,_,h,_|.de::_,.sl _,_,_,h,_|.de::_,.p _ _,_,_,h,_|.de::_,.mp _ _,_,_,h,_|.de::_,.op _,_,_,h,_=>by simp[trk]at h
 |.ix _::_,o,_,_,h,_=>by cases o<;>simp[trk]at h
theorem Tr.tk(h:Hp F p M w){k:Nat}{ob ob':Ob}(hk:go M k=some ob)(hβ:p'.β=p.β)(t:Tr F p M w [.cut k ob.o ob'.o] p' (Bm.put k ob' M) w):Tr F p M w [.tk k ob.o ob'.o] p' (Bm.put k ob' M) w:=by
 have hlk:=cq hk;refine Tr.one _ t.keep (fun j ρ vs r=>?_) (fun j ρ v r=>?_) t.hp
 ·have hc:=t.c (.ref j ρ) vs (by simp only[ak];exact r);simp only[V.evs,V.ev,Ev.ref]at hc;simp only[Ev.ref]
  cases hb:Nat.beq j k with
  |false=>rw[hb]at hc;exact hc
  |true=>
   rw[hb]at hc;simp only[a0d]at hc⊢
   cases hn:z7 ρ with
   |true=>rw[hn]at hc;simpa only [lq,Bool.true_or,a0d]using hc
   |false=>
    simp only[lq,a37]
    cases hs:bhw (trk ρ ob.o) (trk ρ ob'.o)with
    |false=>simp only[a0j,ak];exact r.one h
    |true=>
     simp only[a0d,ak];have hjk:=a0v hb;subst hjk
     obtain⟨l,s1,s2⟩:∃l,trk ρ ob.o=some l/\trk ρ ob'.o=some l:=by
      cases h1:trk ρ ob.o with
      |none=>rw[h1]at hs;cases hs
      |some a=>
       cases h2:trk ρ ob'.o with
       |none=>rw[h1,h2]at hs;cases hs
       |some b=>rw[h1,h2]at hs;exact⟨b,by rw[bir hs],rfl⟩
     obtain⟨q1,q2,q3⟩:=avr (w:=w) ρ ob.o ob'.o l s1 s2;obtain⟨o,pl0,k1,k2,k3,k4⟩:=r;rw[hk]at k1;cases k1;exact⟨ob',pl0,my ob' M hlk,q2 _,q3 _,by rw[hβ,←q1];exact k4⟩
 ·have hc:=t.c (.ad j ρ) [v] (by simp only[ak];exact⟨v,rfl,r⟩);simp only[V.evs,V.ev,Ev.ad]at hc;simp only[Ev.ad];exact hc
theorem blu(h:Hp F p M w)(k r:Nat)(ρ:cr)(vs:List Value)(q:Ob)(e:List Ev)(M':Mem)(hr:Ref p.β M w r ρ vs)
  (hc:ac4 k r ρ M=some (q,e,M')):go M' k=go M k/\∃p' S,Cv F p M w k q e vs p' M' S:=by
 unfold ac4 at hc
 cases hok:neg (nq r k)with
 |true=>rw[hok]at hc;simp at hc
 |false=>
  rw[hok]at hc;obtain⟨hne,hg⟩:=zu hok;simp only[a0j]at hc;split at hc
  ·rename_i ob hob;split at hc
   ·rename_i q1 hq1;split at hc
    ·cases hc;refine⟨dx (a0u hne) M,?_⟩;obtain⟨ob',pl,h1,h2,h3,h4⟩:=hr;simp only[res,a0e,a0n]at h4;obtain⟨rfl,rfl⟩:=h4;simp only[get,a0e]at hq1;subst hq1;exact⟨_,_,Cv.whole h k hob hg⟩
    ·cases hix:agp ρ with
     |true=>rw[hix]at hc;simp only[a0d,a0e,a0n]at hc;obtain⟨rfl,rfl,rfl⟩:=hc;exact⟨dx (a0u hne) M,_,_,Cv.frz h k hob (ayq h hob hq1 hr)⟩
     |false=>
      rw[hix]at hc;simp only[a0j]at hc;split at hc
      ·rename_i ob' hset;simp only[a0e,a0n]at hc;obtain⟨rfl,rfl,rfl⟩:=hc;refine⟨lu ob' (a0u hne) M,?_⟩;obtain⟨ob0,pl,h1,h2,h3,h4⟩:=hr;rw[hob]at h1;cases h1;obtain⟨p',S,k1,k2,k3,k4,k5⟩:=Tr.cut h hob hg h2 hq1 h4 hset;exact⟨p',S,k1,k2,k3,Tr.tk h hob k1 k4,k5,.inr ⟨_,_,rfl,rfl⟩⟩
      ·cases hc
   ·cases hc
  ·cases hc
theorem ca8(h:Hp F p M w)(k r:Nat)(ρ:cr)(v:Value)(q:Ob)(e:List Ev)(M':Mem)(hr:Adr p.β M w r ρ v)
  (hc:auj k r ρ M=some (q,e,M')):go M' k=go M k/\∃p' S,Cv F p M w k q e [v] p' M' S:=by
 unfold auj at hc
 cases hok:neg (nq r k)with
 |true=>rw[hok]at hc;simp at hc
 |false=>
  rw[hok]at hc;obtain⟨hne,hg⟩:=zu hok;simp only[a0j]at hc;split at hc
  ·rename_i o x hob;cases hc;refine⟨dx (a0u hne) M,?_⟩;obtain⟨ob',us0,b0,off0,h1,h2,h3,h4,h5,rfl⟩:=hr;rw[hob]at h1;cases h1;have hrr:=h.objs r _ hob;simp only[Rel]at hrr;obtain⟨bb,us1,ty',S1,r1,r2,r3,r4,r5⟩:=hrr;simp only[a0q,a0c]at r1;rw[r1]at h5;simp only[res,a0e,a0n]at h5;obtain⟨_,rfl,rfl⟩:=h5;rw[←r1];exact⟨_,_,Cv.whole h k hob hg⟩
  ·rename_i ob hob _;split at hc
   ·rename_i q1 hq1;simp only[a0e,a0n]at hc;obtain⟨rfl,rfl,rfl⟩:=hc;exact⟨dx (a0u hne) M,_,_,Cv.frz h k hob (bwn h hob hq1 hr)⟩
   ·cases hc
  ·cases hc
theorem Cv.pair{k:Nat}{q q':Ob}{e e':List Ev}{va vb:List Value}{S S':Nat->Prop}(h:Cv F p M w k q e va p' M' S)(h':Cv F p' M' w k q' e' vb p'' M'' S') :
  Cv F p M w k (mkP q q') (ap e e') (va++vb) p'' M'' (fun b=>S b\/S' b):=by
 refine⟨h'.β.trans h.β,fun b=>by rw[h'.L,h.L,or_assoc],fun b hb=>?_,h.tr.trans h'.tr,?_,?_⟩
 ·rcases hb with hb|hb
  ·exact h.sp b hb
  ·exact fun hL=>h'.sp b hb ((h.L b).2 (.inl hL))
 ·exact awi (fun c hc=>.inl hc) (fun c hc=>.inr hc) (fun c hc hc'=>h'.sp c hc' ((h.L c).2 (.inr hc))) (Rel.keep h'.tr.keep _ _ _ _ (fun _ _=>rfl) h.rel) h'.rel
 ·rcases h.fr with⟨rfl,rfl,rfl⟩|⟨x,r,rfl,hx⟩
  ·exact h'.fr
  ·exact .inr ⟨x,ap r e',rfl,hx⟩
theorem ahg(k:Nat):(t:T)->(v:V)->(M:Mem)->(p:Ow)->(vs:List Value)->(q:Ob)->(e:List Ev)->(M':Mem)->Hp F p M w->ak p.β M (Imm F p M w) w v vs->conv k t v M=some (q,e,M')->go M' k=go M k/\∃p' S,Cv F p M w k q e vs p' M' S
 |t,.ref r ρ,M,p,vs,q,e,M',h,hr,hc=>by simp only[ak]at hr;refine blu h k r ρ vs q e M' hr ?_;cases t<;>simpa only [conv]using hc
 |t,.ad r ρ,M,p,vs,q,e,M',h,hr,hc=>by simp only[ak]at hr;obtain⟨v,rfl,hr⟩:=hr;refine ca8 h k r ρ v q e M' hr ?_;cases t<;>simpa only [conv]using hc
 |t,.d s x,M,p,vs,q,e,M',h,hr,hc=>by
  simp only[ak]at hr;have:conv k t (.d s x) M=some (⟨.fz s,x⟩,[],M):=by cases t<;>simp only[conv]
  rw[this]at hc;cases hc;exact⟨rfl,_,_,Cv.dat h k hr⟩
 |t,.u,M,p,vs,q,e,M',h,hr,hc=>by
  simp only[ak]at hr;have:conv k t .u M=some (⟨.fz .u,()⟩,[],M):=by cases t<;>simp only[conv]
  rw[this]at hc;cases hc;exact⟨rfl,_,_,Cv.dat h k (by simp only[aq];exact hr)⟩
 |t,.np,M,p,vs,q,e,M',h,hr,hc=>by
  simp only[ak]at hr;have:conv k t .np M=some (⟨.fz .any,()⟩,[],M):=by cases t<;>simp only[conv]
  rw[this]at hc;cases hc;exact⟨rfl,_,_,Cv.dat h k (by simp only[aq];exact⟨_,hr,rfl⟩)⟩
 |.sl t,.nl,M,p,vs,q,e,M',h,hr,hc=>by simp only[ak]at hr;simp only[conv,a0e,a0n]at hc;obtain⟨rfl,rfl,rfl⟩:=hc;obtain⟨oa,rfl⟩:=hr;exact⟨rfl,p,fun _=>False,rfl,fun b=>by simp,fun b hb=>hb.elim,Tr.refl h,aqc t.deep oa,.inl ⟨rfl,rfl,rfl⟩⟩
 |t,.fn f .u,M,p,vs,q,e,M',h,hr,hc=>by
  simp only[ak]at hr;have:conv k t (.fn f .u) M=some (⟨.fz (.fn f .u),()⟩,[],M):=by cases t<;>simp only[conv]
  rw[this]at hc;cases hc;refine⟨rfl,_,_,Cv.dat h k ?_⟩;simp only[aq];exact hr
 |.p t s,.p a b,M,p,vs,q,e,M',h,hr,hc=>by
  simp only[ak]at hr;obtain⟨va,vb,rfl,ha,hb⟩:=hr;simp only[conv]at hc;split at hc
  ·rename_i q1 e1 M1 hc1;split at hc
   ·rename_i q2 e2 M2 hc2;simp only[a0e,a0n]at hc;obtain⟨rfl,rfl,rfl⟩:=hc;obtain⟨g1,p1,S1,c1⟩:=ahg k t a M p va q1 e1 M1 h ha hc1;obtain⟨g2,p2,S2,c2⟩:=ahg k s (b.evs e1) M1 p1 vb q2 e2 M2 c1.tr.hp (c1.tr.c _ _ hb) hc2;exact⟨g2.trans g1,p2,_,c1.pair c2⟩
   ·cases hc
  ·cases hc
 |.int _,.p _ _,_,_,_,_,_,_,_,_,h|.bool,.p _ _,_,_,_,_,_,_,_,_,h|.str,.p _ _,_,_,_,_,_,_,_,_,h|.u,.p _ _,_,_,_,_,_,_,_,_,h|.sl _,.p _ _,_,_,_,_,_,_,_,_,h|.pt _,.p _ _,_,_,_,_,_,_,_,_,h|.fn _ _,.p _ _,_,_,_,_,_,_,_,_,h|.any,.p _ _,_,_,_,_,_,_,_,_,h|.int _,.nl,_,_,_,_,_,_,_,_,h|.bool,.nl,_,_,_,_,_,_,_,_,h|.str,.nl,_,_,_,_,_,_,_,_,h|.u,.nl,_,_,_,_,_,_,_,_,h|.p _ _,.nl,_,_,_,_,_,_,_,_,h|.pt _,.nl,_,_,_,_,_,_,_,_,h|.fn _ _,.nl,_,_,_,_,_,_,_,_,h|.any,.nl,_,_,_,_,_,_,_,_,h=>by simp[conv]at h
 |t,.fn _ (.p _ _),_,_,_,_,_,_,_,_,h|t,.fn _ .any,_,_,_,_,_,_,_,_,h|t,.fn _ .nl,_,_,_,_,_,_,_,_,h|t,.fn _ .np,_,_,_,_,_,_,_,_,h|t,.fn _ (.d _ _),_,_,_,_,_,_,_,_,h|t,.fn _ (.ref _ _),_,_,_,_,_,_,_,_,h|t,.fn _ (.ad _ _),_,_,_,_,_,_,_,_,h|t,.fn _ (.ag _),_,_,_,_,_,_,_,_,h|t,.fn _ (.tup _),_,_,_,_,_,_,_,_,h|t,.fn _ (.gd _ _ _ _),_,_,_,_,_,_,_,_,h|t,.fn _ (.fn _ _),_,_,_,_,_,_,_,_,h|t,.fn _ (.ifc _ _),_,_,_,_,_,_,_,_,h|t,.fn _ (.bx _),_,_,_,_,_,_,_,_,h|t,.any,_,_,_,_,_,_,_,_,h|t,.ag _,_,_,_,_,_,_,_,_,h|t,.tup _,_,_,_,_,_,_,_,_,h|t,.gd _ _ _ _,_,_,_,_,_,_,_,_,h|t,.ifc _ _,_,_,_,_,_,_,_,_,h|t,.bx _,_,_,_,_,_,_,_,_,h=>by cases t<;>simp[conv]at h
termination_by t=>SizeOf.sizeOf t
theorem afw(h:Hp F p M w)(k:Nat)(o:O)(v:V)(vs:List Value)(x:o.strip.den)(e:List Ev)(hr:ak p.β M (Imm F p M w) w v vs)(hc:aha k o v M=some (x,e,M')) :
  (go M' k=none\/go M' k=go M k)/\∃p' S,Cv F p M w k ⟨o,x⟩ e vs p' M' S:=by
 have key:∀r,(match conv k o.strip v M with
  |some (q,e,M')=>(match yp q o with|some x=>some (x,e,M')|none=>none)
  |none=>none)=some r->r=(x,e,M')->(go M' k=none\/go M' k=go M k)/\∃p' S,Cv F p M w k ⟨o,x⟩ e vs p' M' S:=by
  intro r hr1 hr2;split at hr1
  ·rename_i q e1 M1 hc1;split at hr1
   ·rename_i y hy;cases hr1;cases hr2;obtain⟨g,p',S,c⟩:=ahg k o.strip v M p vs q e M' h hr hc1;rw[xq hy]at c;exact⟨.inr g,p',S,c⟩
   ·cases hr1
  ·cases hr1
 cases o with
 |fz t=>
  simp only[aha]at hc;have hf:=yu v M h;have hth:=xy v M;have hfr:=abe v M;generalize cu M v=z at hc hf hth hfr;obtain⟨e1,M1⟩:=z;simp only at hc hf hth hfr;split at hc
  ·rename_i y hy;cases hc;refine⟨hth k,p,fun _=>False,rfl,fun b=>by simp,fun b hb=>hb.elim,hf,?_,hfr.imp (fun h=>⟨h.1,h.2,rfl⟩) id⟩;simp only[Rel];exact aiu _ t vs x (hf.c _ _ hr) hy
  ·cases hc
 |p a b|sl a|pt a|mp _ _|op _=>exact key _ hc rfl
theorem blb(h:Hp F p M w)(k:Nat)(o:O)(v:V)(vs:List Value)(x:o.strip.den)(e:List Ev)(hr:ak p.β M (Imm F p M w) w v vs)(hc:alj k o v M=some (x,e,M')) :
  (go M' k=none\/go M' k=go M k)/\∃p' S,Cv F p M w k ⟨o,x⟩ e vs p' M' S:=by
 cases o with
 |fz t|p a b|sl a|pt a|mp _ _=>exact afw h k _ v vs x e hr hc
 |op a=>
  simp only[alj]at hc;split at hc
  ·rename_i y ev M1 hc1;cases hc;obtain⟨g,p',S,c⟩:=afw h k a v vs y e hr hc1;refine⟨g,p',S,c.β,c.L,c.sp,c.tr,?_,c.fr⟩;have r:=c.rel;simp only[Rel];refine⟨Rel.len _ _ _ _ r,Rel.one _ _ _ _ r,fun z hz=>?_⟩;cases hz;exact r
  ·cases hc
theorem cah{Im:Nat->Prop}{e:O}{l:List e.strip.den}{S:Nat->Prop}{vs:List Value}(r:Rel Im w (.sl e) l S vs):Rel Im w (.sl (.op e)) (ah1 l) S vs:=by
 simp only[Rel]at r⊢;obtain⟨v,ety,xs,T,rfl,h2,h3,h4,h5,h6,h7⟩:=r;refine⟨v,ety,xs,T,rfl,by simp only[ah1,a00];exact h2,by simpa[ah1]using h3,h4,h5,h6,fun i x hx=>?_⟩;simp only[ah1,a1r]at hx
 cases hl:l[i]? with
 |none=>rw[hl]at hx;cases hx
 |some y=>rw[hl]at hx;cases hx;have r1:=h7 i y hl;have hsz:(O.op e).size=e.size:=rfl;rw[hsz];refine⟨Rel.len _ _ _ _ r1,Rel.one _ _ _ _ r1,fun z hz=>?_⟩;cases hz;exact r1
theorem bz4{Im:Nat->Prop}{e:O}{l:List (Option e.strip.den)}{S:Nat->Prop}{vs:List Value}(z:e.strip.den)(ha:ayj l=true)(r:Rel Im w (.sl (.op e)) l S vs):Rel Im w (.sl e) (ao7 z l) S vs:=by
 simp only[Rel]at r⊢;obtain⟨v,ety,xs,T,rfl,h2,h3,h4,h5,h6,h7⟩:=r;refine⟨v,ety,xs,T,rfl,by simp only[ao7,a00];exact h2,by simpa[ao7]using h3,h4,h5,h6,fun i x hx=>?_⟩;simp only[ao7,a1r]at hx
 cases hl:l[i]? with
 |none=>rw[hl]at hx;cases hx
 |some y=>
  rw[hl]at hx;cases hx;have hy:y.isSome=true:=by simp only[ayj,a1y]at ha;exact ha y (a3m hl)
  obtain⟨y,rfl⟩:=Option.isSome_iff_exists.1 hy;exact (h7 i _ hl).2.2 y rfl
theorem atv{Im:Nat->Prop}{e:O}{l:List e.strip.den}{S:Nat->Prop}{vs:List Value}{i:Nat}(hi:i<l.length)(r:Rel Im w (.sl e) l S vs) :
  ∃us pl,∃Si:Nat->Prop,(∀ad,res w [.ix i] (.sl e) vs ad=some (us,pl))/\(∀c,Si c->S c)/\Rel Im w e (l.getD i e.dflt) Si us/\Rel Im w (.sl (.op e)) (anh l i) (fun c=>S c/\¬Si c) vs:=by
 have r1:=cah r;have hy:(ah1 l).getD i none=some (l.getD i e.dflt):=by simp only[ah1,a0l,a1r,a0p hi,a1e,a1n]
 have h2:gok [.ix i] (.sl (.op e)) (ah1 l):=by simp only[gok,ah1,a00];exact⟨hi,trivial⟩
 have h3:get [.ix i] (.sl (.op e)) (ah1 l)=some ⟨.op e,(ah1 l).getD i none⟩:=by simp only[get,O.dflt]
 have hset:set [.ix i] (.sl (.op e)) (ah1 l) ⟨.op e,none⟩=some ⟨.sl (.op e),(ah1 l).set i none⟩:=by simp only[set];rw[show yp ⟨.op e,none⟩ (.op e)=some none from bo7 _ _]
 obtain⟨us,pl,Si,e1,e2,e3,e4,_,e6⟩:=ai2 [.ix i] (.sl (.op e)) (ah1 l) S vs none _ r1 h2 h3 (fun b off e=>by cases e);rw[hy]at e3;simp only[Rel]at e3;have hr:Rel Im w (.op e) (none:Option e.strip.den) (fun _=>False) us:=by simp only[Rel];exact⟨e3.1,e3.2.1,fun z hz=>by cases hz⟩
 have hw:=e6 Im w ⟨.op e,none⟩ (fun _=>False) us _ hset rfl hr (ju.refl _ _) (fun c h=>h.elim)
  (fun hh b off hp cur ty' hb=>by obtain⟨b0,off0,cur0,ty0,k1,k2,k3,k4,k5⟩:=e4 hh;rw[k1]at hp;cases hp;rw[k4]at hb;cases hb;rw[k4,x9 (by simpa using k5)]) (fun _ _ _ _=>rfl)
 rw[ui [.ix i] _ _ _ rfl]at hw;refine⟨us,pl,Si,fun ad=>?_,e2,e3.2.2 _ rfl,?_⟩
 ·have:∀ad ad',res w [.ix i] (.sl e) vs ad=res w [.ix i] (.sl (.op e)) vs ad':=fun ad ad'=>by simp only[res];rfl
  rw[this ad none];exact e1
 ·have hS:(fun c=>(S c/\¬Si c)\/False)=fun c=>S c/\¬Si c:=funext fun c=>or_false _;rw[hS]at hw;exact hw.2
theorem beu:∀(π:cr)(o:O)(x:o.strip.den)(p0:cr)(i:Nat)(q:Ob),vj π=some (p0,i)->get p0 o x=some q->gok p0 o x/\(gok π o x->∀(e:O)(l:List e.strip.den),q=⟨.sl e,l⟩->i<l.length)/\
  (∀(e:O)(l:List e.strip.den),q=⟨.sl e,l⟩->get π o x=some ⟨e,l.getD i e.dflt⟩)/\∀(w:World)(e:O)(l:List e.strip.den),q=⟨.sl e,l⟩->∀vs ad us pl,res w p0 o vs ad=some (us,pl)->res w π o vs ad=res w [.ix i] (.sl e) us pl:=by
 intro π
 induction π with
 |nil=>intro o x p0 i q h;simp[vj]at h
 |cons s π ih=>
  intro o x p0 i q h hg
  cases s with
  |ix n=>
   cases π with
   |nil=>
    simp only[vj,a0e,a0n]at h;obtain⟨rfl,rfl⟩:=h;simp only[get,a0e]at hg;subst hg;refine⟨by simp only[gok],fun h1 e l hq=>?_,fun e l hq=>?_,fun w e l hq vs ad us pl hr=>?_⟩
    ·cases hq;simp only[gok]at h1;exact h1.1
    ·cases hq;simp only[get]
    ·cases hq;simp only[res,a0e,a0n]at hr;obtain⟨rfl,rfl⟩:=hr;rfl
   |cons _ _=>simp[vj]at h
  |l=>
   simp only[vj]at h;split at h
   ·rename_i p1 i1 h1;cases h
    cases o with
    |p a b=>simp only[get]at hg;obtain⟨k1,k2,k3,k4⟩:=ih a x.1 p1 _ q h1 hg;exact⟨by simp only[gok];exact k1,fun g=>by simp only[gok]at g;exact k2 g,fun e l hq=>by simp only[get];exact k3 e l hq,fun w e l hq vs ad us pl hr=>by simp only[res]at hr⊢;exact k4 w e l hq _ _ _ _ hr⟩
    |fz t=>
     cases t with
     |p a b=>simp only[get]at hg;obtain⟨k1,k2,k3,k4⟩:=ih (.fz a) x.1 p1 _ q h1 hg;exact⟨by simp only[gok];exact k1,fun g=>by simp only[gok]at g;exact k2 g,fun e l hq=>by simp only[get];exact k3 e l hq,fun w e l hq vs ad us pl hr=>by simp only[res]at hr⊢;exact k4 w e l hq _ _ _ _ hr⟩
     |_=>simp[get]at hg
    |_=>simp[get]at hg
   ·cases h
  |r=>
   simp only[vj]at h;split at h
   ·rename_i p1 i1 h1;cases h
    cases o with
    |p a b=>simp only[get]at hg;obtain⟨k1,k2,k3,k4⟩:=ih b x.2 p1 _ q h1 hg;exact⟨by simp only[gok];exact k1,fun g=>by simp only[gok]at g;exact k2 g,fun e l hq=>by simp only[get];exact k3 e l hq,fun w e l hq vs ad us pl hr=>by simp only[res]at hr⊢;exact k4 w e l hq _ _ _ _ hr⟩
    |fz t=>
     cases t with
     |p a b=>simp only[get]at hg;obtain⟨k1,k2,k3,k4⟩:=ih (.fz b) x.2 p1 _ q h1 hg;exact⟨by simp only[gok];exact k1,fun g=>by simp only[gok]at g;exact k2 g,fun e l hq=>by simp only[get];exact k3 e l hq,fun w e l hq vs ad us pl hr=>by simp only[res]at hr⊢;exact k4 w e l hq _ _ _ _ hr⟩
     |_=>simp[get]at hg
    |_=>simp[get]at hg
   ·cases h
  |de=>
   simp only[vj]at h;split at h
   ·rename_i p1 i1 h1;cases h
    cases o with
    |pt t=>
     simp only[get]at hg;obtain⟨k1,k2,k3,k4⟩:=ih t x p1 _ q h1 hg;refine⟨by simp only[gok];exact k1,fun g=>by simp only[gok]at g;exact k2 g,fun e l hq=>by simp only[get];exact k3 e l hq,fun w e l hq vs ad us pl hr=>?_⟩;simp only[res]at hr⊢;split at hr
     ·exact k4 w e l hq _ _ _ _ hr
     ·cases hr
    |_=>simp[get]at hg
   ·cases h
theorem cax{k:Nat}{v:V}{vs:List Value}{q:Ob}{e:List Ev}(h:Hp F p M w)(hr:ak p.β M (Imm F p M w) w v vs)(hc:azu k v M=some (q,e,M')):go M' k=go M k/\∃p' S,Cv F p M w k q e vs p' M' S:=by
 unfold azu at hc;split at hc
 ·rename_i r i
  cases hb:neg (nq r k)with
  |true=>rw[hb]at hc;cases hc
  |false=>
   rw[hb]at hc;simp only[a0j]at hc;obtain⟨hne,hg⟩:=zu hb;split at hc
   ·rename_i e0 l hk;cases hc;simp only[ak]at hr;obtain⟨ob,pl,h1,h2,⟨q,h3⟩,h4⟩:=hr;rw[hk]at h1;cases h1;have hi:i<l.length:=by simp only[gok]at h2;exact h2.1
    obtain⟨us,pl1,Si,e1,e2,e3,_⟩:=atv hi (h.objs r _ hk);rw[e1 none]at h4;cases h4;have cv:=Cv.whole h k hk hg;have hd:=Tr.drop cv.tr.hp (fun b=>p.L b\/Si b) (fun b hb=>(cv.L b).2 (hb.imp id (e2 b)));refine⟨dx (fun e=>hne e.symm) M,⟨p.β,p.σ,fun b=>p.L b\/Si b⟩,Si,rfl,fun b=>a17,fun b hb=>cv.sp b (e2 b hb),cv.tr.trans hd,?_,cv.fr.elim (fun z=>nomatch z.1) .inr⟩;have r1:=Rel.keep cv.tr.keep _ _ _ _ (fun _ _=>rfl) e3;exact Rel.keep hd.keep _ _ _ _ (fun _ _=>rfl) r1
   ·cases hc
 ·cases hc
theorem bwv(b:Bool)(k:Nat)(t:T)(v:V)(M:Mem)(p:Ow)(vs:List Value)(q:Ob)(e:List Ev)(M':Mem)(h:Hp F p M w)(hr:ak p.β M (Imm F p M w) w v vs)(hc:alg b k t v M=some (q,e,M')):go M' k=go M k/\∃p' S,Cv F p M w k q e vs p' M' S:=by
 unfold alg at hc;split at hc
 ·rename_i r ht;cases hc
  cases b with
  |false=>cases ht
  |true=>exact cax h hr ht
 ·exact ahg k t v M p vs q e M' h hr hc
theorem Tr.take(h:Hp F p M w){k i:Nat}{ob ob':Ob}{π p0:cr}{e:O}{l:List e.strip.den}{us:List Value}{pl:Pl}(hk:go M k=some ob)(hg:k<gid)(hx:vj π=some (p0,i))(hq:get p0 ob.o ob.x=some ⟨.sl e,l⟩)(h2:gok π ob.o ob.x)
  (h4:res w π ob.o [p.β k] none=some (us,pl)) (hset:set p0 ob.o ob.x ⟨.sl (.op e),anh l i⟩=some ob') :
  ∃p':Ow,∃S:Nat->Prop,p'.β=p.β/\(∀b,p'.L b<->p.L b\/S b)/\(∀b,S b->¬p.L b)/\Tr F p M w [.tk k ob.o ob'.o] p' (Bm.put k ob' M) w/\Rel (Imm F p' (Bm.put k ob' M) w) w e (l.getD i e.dflt) S us:=by
 obtain⟨g1,g2,_,g4⟩:=beu π ob.o ob.x p0 i _ hx hq;have hi:=g2 h2 e l rfl;obtain⟨us0,pl0,S',e1,e2,e3,e4,e5,e6⟩:=look h hk g1 hq;obtain⟨us1,pl1,Si,r1,r2,r3,r4⟩:=atv hi e3;rw[g4 w e l rfl _ _ _ _ e1,r1]at h4;cases h4;have hl:=cq hk
 have hout:fk p0 ob.o [p.β k] us0=[p.β k]:=by
  cases hh:dp p0 with
  |true=>exact ui p0 _ _ _ hh
  |false=>
   obtain⟨n,k1,k2,k3,k4,k5⟩:=e5 hh;rw[k5 us0 rfl];refine x9 (fun j u hu=>?_);rw[k3,a1d]at hu;split at hu
   ·rw[a1l]at hu;exact hu
   ·cases hu
 have ht:=Tr.put (S'':=fun c=>S' c/\¬Si c) (L':=fun b=>p.L b\/Si b) (us':=us0) (w':=w) h hk e2 e4 e6 hset rfl hout (Chg.refl w _)
  (fun hh b off hp cur ty' hb=>by obtain⟨b0,off0,cur0,ty0,k1,k2,k3,k4,k5⟩:=e4 hh;rw[k1]at hp;cases hp;rw[k4]at hb;cases hb;rw[k4,x9 (by simpa using k5)]) (fun c hc=>.inr hc.1)
  (fun c hc=>hc.elim (fun hc=>⟨.inl hc,fun hs=>(h.lim c hc).2.2 k hl (e2 c hs.1)⟩) fun hc=>⟨.inr (r2 c hc),fun hs=>hs.2 hc⟩) (fun _=>hg)
  (fun hk'=>Rel.keep hk' _ _ _ _ (fun _ _=>rfl) r4)
 exact⟨⟨p.β,_,fun b=>p.L b\/Si b⟩,Si,rfl,fun b=>a17,fun b hb hL=>(h.lim b hL).2.2 k hl (e2 b (r2 b hb)),Tr.tk h hk rfl ht,Rel.keep ht.keep _ _ _ _ (fun _ _=>rfl) r3⟩
theorem Tr.relP(h:Hp F p M w){k:Nat}{ob ob' q n:Ob}{p0:cr}(hk:go M k=some ob)(hgo:gok p0 ob.o ob.x)(hq:get p0 ob.o ob.x=some q)(hset:set p0 ob.o ob.x n=some ob')(hsz:n.o.size=q.o.size)
  (hr:∀(Im S:Nat->Prop)(vs:List Value),Rel Im w q.o q.x S vs->Rel Im w n.o n.x S vs):∃p':Ow,(∀b,p'.L b<->p.L b)/\Tr F p M w [.cut k ob.o ob'.o] p' (Bm.put k ob' M) w:=by
 obtain⟨us0,pl0,S',e1,e2,e3,e4,e5,e6⟩:=look h hk hgo hq;have hl:=cq hk
 have hout:fk p0 ob.o [p.β k] us0=[p.β k]:=by
  cases hh:dp p0 with
  |true=>exact ui p0 _ _ _ hh
  |false=>
   obtain⟨n,k1,k2,k3,k4,k5⟩:=e5 hh;rw[k5 us0 rfl];refine x9 (fun j u hu=>?_);rw[k3,a1d]at hu;split at hu
   ·rw[a1l]at hu;exact hu
   ·cases hu
 have ht:=Tr.put (S'':=S') (L':=p.L) (us':=us0) (w':=w) h hk e2 e4 e6 hset hsz hout (Chg.refl w _)
  (fun hh b off hp cur ty' hb=>by obtain⟨b0,off0,cur0,ty0,k1,k2,k3,k4,k5⟩:=e4 hh;rw[k1]at hp;cases hp;rw[k4]at hb;cases hb;rw[k4,x9 (by simpa using k5)]) (fun c hc=>.inr hc)
  (fun c hc=>⟨.inl hc,fun hs=>(h.lim c hc).2.2 k hl (e2 c hs)⟩) (fun hc=>absurd (e2 _ hc.choose_spec.2) ((h.lim _ hc.choose_spec.1).2.2 k hl))
  (fun hk'=>hr _ _ _ (Rel.keep hk' _ _ _ _ (fun _ _=>rfl) e3))
 exact⟨⟨p.β,fun j=>if j=k then fun c=>(p.σ k c/\¬S' c)\/S' c else p.σ j,p.L⟩,fun b=>a17,ht⟩
end
end Go.Bm
/- The ff machine:ways joined,values looked at. -/
namespace Go.Bm
open Go.RowKit
def ab:List Prop->Prop
 |[]=>True
 |p::r=>p/\ab r
@[simp] theorem fh:ab []=True:=rfl
@[simp] theorem d7 (p:Prop) (r:List Prop):ab (p::r)=(p/\ab r):=rfl
theorem kv(a b:List Prop):ab (ap a b)<->ab a/\ab b:=by
 induction a with
 |nil=>simp[ap]
 |cons p a ih=>simp only[ap,d7,ih,and_assoc]
theorem oq(l:List Prop)(K:Prop):conj l K<->ab l/\K:=by
 induction l with
 |nil=>simp[conj]
 |cons p l ih=>simp only[conj,d7,ih,and_assoc]
theorem aly(g:Prop)(l:List Prop)(K:Prop):imp g l K<->(g->ab l)/\K:=by
 induction l with
 |nil=>simp[imp]
 |cons p l _=>
  simp only[imp,d7,oq];constructor
  ·rintro⟨h1,h3⟩;exact⟨fun hg=>⟨(h1 hg).2,(h1 hg).1⟩,h3⟩
  ·rintro⟨h1,h3⟩;exact⟨fun hg=>⟨(h1 hg).2,(h1 hg).1⟩,h3⟩
theorem bjr(l:List Prop)(K:Prop):imps l K<->(ab l->K):=by
 induction l with
 |nil=>simp[imps]
 |cons p l ih=>simp only[imps,d7,ih];constructor<;>intro h<;>intros<;>simp_all
@[simp] theorem bz:cd []=true:=rfl
@[simp] theorem br (b:Bool) (r:List Bool):cd (b::r)=(b&&cd r):=by cases b<;>rfl
theorem km{c:Bool}{x:List Prop×V}(h:ab (bif c then x else bad).1):c=true:=by
 cases c with
 |true=>rfl
 |false=>exact h.1.elim
theorem gu{P:Program}{t:TypeId}(h:(ty P t).ok=true):∃i u,P.info? t=some i/\P.underlying t=some u:=by
 unfold ty at h;split at h
 ·rename_i i u hi hu;exact⟨i,u,hi,hu⟩
 ·simp[bpn]at h
theorem ke{P:Program}{t:TypeId}{i:TypeInfo}{u:TypeDesc}(hi:P.info? t=some i)(hu:P.underlying t=some u):ty P t=rk P i u:=by simp only[ty,hi,hu]
theorem bu0{P:Program}{t:TypeId}{zs:List Value}(h:tyZ P t=some zs):∃i z,P.info? t=some i/\i.zero=some z/\zs=z.cells.toList:=by
 unfold tyZ at h;split at h
 ·rename_i i hi;split at h
  ·rename_i z hz;cases h;exact⟨i,z,hi,hz,rfl⟩
  ·cases h
 ·cases h
theorem bet(n:Int):inK .i64 n<->-9223372036854775808<=n/\n<=9223372036854775807:=by simp[inK,IntKind.min,IntKind.max,IntKind.signed,IntKind.bits]
theorem bla(n:Int):inK .u8 n<->0<=n/\n<=255:=by simp[inK,IntKind.min,IntKind.max,IntKind.signed,IntKind.bits]
theorem bn3(n:Int):inK .u64 n<->0<=n/\n<=18446744073709551615:=by simp[inK,IntKind.min,IntKind.max,IntKind.signed,IntKind.bits]
theorem bm9(n:Int):inK .i32 n<->-2147483648<=n/\n<=2147483647:=by simp[inK,IntKind.min,IntKind.max,IntKind.signed,IntKind.bits]
theorem bor(n:Int):inK .u32 n<->0<=n/\n<=4294967295:=by simp[inK,IntKind.min,IntKind.max,IntKind.signed,IntKind.bits]
theorem bm5(n:Int):inK .u16 n<->0<=n/\n<=65535:=by simp[inK,IntKind.min,IntKind.max,IntKind.signed,IntKind.bits]
theorem bm8(n:Int):inK .i16 n<->-32768<=n/\n<=32767:=by simp[inK,IntKind.min,IntKind.max,IntKind.signed,IntKind.bits]
theorem bs7(n:Int):inK .i8 n<->-128<=n/\n<=127:=by simp[inK,IntKind.min,IntKind.max,IntKind.signed,IntKind.bits]
theorem apy{k:IntKind}{n:Int}(h:inK k n):k.wrap n=n:=by
 cases k
 all_goals first|rw[bet]at h|rw[bla]at h|rw[bn3]at h|rw[bm9]at h|rw[bor]at h|rw[bm5]at h|rw[bm8]at h|rw[bs7]at h
 all_goals (simp[IntKind.wrap,IntKind.signed,IntKind.bits];omega)
theorem ahe(k:IntKind)(n:Int):inK k (k.wrap n):=by
 cases k
 all_goals first|rw[bet]|rw[bla]|rw[bn3]|rw[bm9]|rw[bor]|rw[bm5]|rw[bm8]|rw[bs7]
 all_goals (simp[IntKind.wrap,IntKind.signed,IntKind.bits];omega)
theorem ajx{n:Nat}(h:n<=nb):inK .i64 n:=(bet n).2 ⟨by omega,by simp only[nb]at h;omega⟩
theorem acq:(ρ π:cr)->(o:O)->(x:o.strip.den)->get (ap ρ π) o x=(match get ρ o x with|some q=>get π q.o q.x|none=>none)
 |[],π,o,x=>by simp only[ap,get]
 |.l::ρ,π,.p a b,x=>by simp only[ap,get];exact acq ρ π a x.1
 |.r::ρ,π,.p a b,x=>by simp only[ap,get];exact acq ρ π b x.2
 |.l::ρ,π,.fz (.p a b),x=>by simp only[ap,get];exact acq ρ π (.fz a) x.1
 |.r::ρ,π,.fz (.p a b),x=>by simp only[ap,get];exact acq ρ π (.fz b) x.2
 |.ix i::ρ,π,.sl e,x=>by simp only[ap,get];exact acq ρ π e _
 |.de::ρ,π,.pt t,x=>by simp only[ap,get];exact acq ρ π t x
 |.l::_,_,.sl _,_|.l::_,_,.mp _ _,_|.l::_,_,.op _,_|.l::_,_,.pt _,_|.l::_,_,.fz (.int _),_|.l::_,_,.fz .bool,_|.l::_,_,.fz .str,_|.l::_,_,.fz .u,_|.l::_,_,.fz (.sl _),_|.l::_,_,.fz (.pt _),_|.l::_,_,.fz (.fn _ _),_|.l::_,_,.fz (.ifc _ _),_|.l::_,_,.fz (.ib _ _),_|.l::_,_,.fz (.mp _ _),_|.l::_,_,.fz (.op _),_|.l::_,_,.fz (.ns _),_|.l::_,_,.fz (.er _),_|.l::_,_,.fz .any,_|.r::_,_,.sl _,_|.r::_,_,.mp _ _,_|.r::_,_,.op _,_|.r::_,_,.pt _,_|.r::_,_,.fz (.int _),_|.r::_,_,.fz .bool,_|.r::_,_,.fz .str,_|.r::_,_,.fz .u,_|.r::_,_,.fz (.sl _),_|.r::_,_,.fz (.pt _),_|.r::_,_,.fz (.fn _ _),_|.r::_,_,.fz (.ifc _ _),_|.r::_,_,.fz (.ib _ _),_|.r::_,_,.fz (.mp _ _),_|.r::_,_,.fz (.op _),_|.r::_,_,.fz (.ns _),_|.r::_,_,.fz (.er _),_|.r::_,_,.fz .any,_|.ix _::_,_,.fz _,_|.ix _::_,_,.p _ _,_|.ix _::_,_,.pt _,_|.ix _::_,_,.mp _ _,_|.ix _::_,_,.op _,_|.de::_,_,.fz _,_|.de::_,_,.p _ _,_|.de::_,_,.sl _,_|.de::_,_,.mp _ _,_|.de::_,_,.op _,_=>by simp only[ap,get]
theorem aei:(ρ π:cr)->(o:O)->(x:o.strip.den)->(q:Ob)->get ρ o x=some q->gok ρ o x->gok π q.o q.x->gok (ap ρ π) o x
 |[],π,o,x,q,h,_,h2=>by simp only[get,a0e]at h;subst h;exact h2
 |.l::ρ,π,.p a b,x,q,h,h1,h2=>by simp only[ap,get,gok]at h h1⊢;exact aei ρ π a x.1 q h h1 h2
 |.r::ρ,π,.p a b,x,q,h,h1,h2=>by simp only[ap,get,gok]at h h1⊢;exact aei ρ π b x.2 q h h1 h2
 |.l::ρ,π,.fz (.p a b),x,q,h,h1,h2=>by simp only[ap,get,gok]at h h1⊢;exact aei ρ π (.fz a) x.1 q h h1 h2
 |.r::ρ,π,.fz (.p a b),x,q,h,h1,h2=>by simp only[ap,get,gok]at h h1⊢;exact aei ρ π (.fz b) x.2 q h h1 h2
 |.ix i::ρ,π,.sl e,x,q,h,h1,h2=>by simp only[ap,get,gok]at h h1⊢;exact⟨h1.1,aei ρ π e _ q h h1.2 h2⟩
 |.de::ρ,π,.pt t,x,q,h,h1,h2=>by simp only[ap,get,gok]at h h1⊢;exact aei ρ π t x q h h1 h2
 |.l::_,_,.sl _,_,_,h,_,_|.l::_,_,.mp _ _,_,_,h,_,_|.l::_,_,.op _,_,_,h,_,_|.l::_,_,.pt _,_,_,h,_,_|.l::_,_,.fz (.int _),_,_,h,_,_|.l::_,_,.fz .bool,_,_,h,_,_|.l::_,_,.fz .str,_,_,h,_,_|.l::_,_,.fz .u,_,_,h,_,_|.l::_,_,.fz (.sl _),_,_,h,_,_|.l::_,_,.fz (.pt _),_,_,h,_,_|.l::_,_,.fz (.fn _ _),_,_,h,_,_|.l::_,_,.fz (.ifc _ _),_,_,h,_,_|.l::_,_,.fz (.ib _ _),_,_,h,_,_|.l::_,_,.fz (.mp _ _),_,_,h,_,_|.l::_,_,.fz (.op _),_,_,h,_,_|.l::_,_,.fz (.ns _),_,_,h,_,_|.l::_,_,.fz (.er _),_,_,h,_,_|.l::_,_,.fz .any,_,_,h,_,_|.r::_,_,.sl _,_,_,h,_,_|.r::_,_,.mp _ _,_,_,h,_,_|.r::_,_,.op _,_,_,h,_,_|.r::_,_,.pt _,_,_,h,_,_|.r::_,_,.fz (.int _),_,_,h,_,_|.r::_,_,.fz .bool,_,_,h,_,_|.r::_,_,.fz .str,_,_,h,_,_|.r::_,_,.fz .u,_,_,h,_,_|.r::_,_,.fz (.sl _),_,_,h,_,_|.r::_,_,.fz (.pt _),_,_,h,_,_|.r::_,_,.fz (.fn _ _),_,_,h,_,_|.r::_,_,.fz (.ifc _ _),_,_,h,_,_|.r::_,_,.fz (.ib _ _),_,_,h,_,_|.r::_,_,.fz (.mp _ _),_,_,h,_,_|.r::_,_,.fz (.op _),_,_,h,_,_|.r::_,_,.fz (.ns _),_,_,h,_,_|.r::_,_,.fz (.er _),_,_,h,_,_|.r::_,_,.fz .any,_,_,h,_,_|.ix _::_,_,.fz _,_,_,h,_,_|.ix _::_,_,.p _ _,_,_,h,_,_|.ix _::_,_,.pt _,_,_,h,_,_|.ix _::_,_,.mp _ _,_,_,h,_,_|.ix _::_,_,.op _,_,_,h,_,_|.de::_,_,.fz _,_,_,h,_,_|.de::_,_,.p _ _,_,_,h,_,_|.de::_,_,.sl _,_,_,h,_,_|.de::_,_,.mp _ _,_,_,h,_,_|.de::_,_,.op _,_,_,h,_,_=>by simp[get]at h
theorem aek(w:World):(ρ π:cr)->(o:O)->(x:o.strip.den)->(q:Ob)->(vs:List Value)->(ad:Pl)->get ρ o x=some q->res w (ap ρ π) o vs ad=(match res w ρ o vs ad with|some r=>res w π q.o r.1 r.2|none=>none)
 |[],π,o,x,q,vs,ad,h=>by simp only[get,a0e]at h;subst h;simp only[ap,res]
 |.l::ρ,π,.p a b,x,q,vs,ad,h=>by simp only[ap,get,res]at h⊢;exact aek w ρ π a x.1 q _ _ h
 |.r::ρ,π,.p a b,x,q,vs,ad,h=>by simp only[ap,get,res]at h⊢;exact aek w ρ π b x.2 q _ _ h
 |.l::ρ,π,.fz (.p a b),x,q,vs,ad,h=>by simp only[ap,get,res]at h⊢;exact aek w ρ π (.fz a) x.1 q _ _ h
 |.r::ρ,π,.fz (.p a b),x,q,vs,ad,h=>by simp only[ap,get,res]at h⊢;exact aek w ρ π (.fz b) x.2 q _ _ h
 |.ix i::ρ,π,.sl e,x,q,vs,ad,h=>by
  simp only[ap,get,res]at h⊢;split
  ·rename_i a n c;exact aek w ρ π e _ q _ _ h
  ·rfl
 |.de::ρ,π,.pt t,x,q,vs,ad,h=>by
  simp only[ap,get,res]at h⊢;split
  ·rename_i a;exact aek w ρ π t x q _ _ h
  ·rfl
 |.l::_,_,.sl _,_,_,_,_,h|.l::_,_,.mp _ _,_,_,_,_,h|.l::_,_,.op _,_,_,_,_,h|.l::_,_,.pt _,_,_,_,_,h|.l::_,_,.fz (.int _),_,_,_,_,h|.l::_,_,.fz .bool,_,_,_,_,h|.l::_,_,.fz .str,_,_,_,_,h|.l::_,_,.fz .u,_,_,_,_,h|.l::_,_,.fz (.sl _),_,_,_,_,h|.l::_,_,.fz (.pt _),_,_,_,_,h|.l::_,_,.fz (.fn _ _),_,_,_,_,h|.l::_,_,.fz (.ifc _ _),_,_,_,_,h|.l::_,_,.fz (.ib _ _),_,_,_,_,h|.l::_,_,.fz (.mp _ _),_,_,_,_,h|.l::_,_,.fz (.op _),_,_,_,_,h|.l::_,_,.fz (.ns _),_,_,_,_,h|.l::_,_,.fz (.er _),_,_,_,_,h|.l::_,_,.fz .any,_,_,_,_,h|.r::_,_,.sl _,_,_,_,_,h|.r::_,_,.mp _ _,_,_,_,_,h|.r::_,_,.op _,_,_,_,_,h|.r::_,_,.pt _,_,_,_,_,h|.r::_,_,.fz (.int _),_,_,_,_,h|.r::_,_,.fz .bool,_,_,_,_,h|.r::_,_,.fz .str,_,_,_,_,h|.r::_,_,.fz .u,_,_,_,_,h|.r::_,_,.fz (.sl _),_,_,_,_,h|.r::_,_,.fz (.pt _),_,_,_,_,h|.r::_,_,.fz (.fn _ _),_,_,_,_,h|.r::_,_,.fz (.ifc _ _),_,_,_,_,h|.r::_,_,.fz (.ib _ _),_,_,_,_,h|.r::_,_,.fz (.mp _ _),_,_,_,_,h|.r::_,_,.fz (.op _),_,_,_,_,h|.r::_,_,.fz (.ns _),_,_,_,_,h|.r::_,_,.fz (.er _),_,_,_,_,h|.r::_,_,.fz .any,_,_,_,_,h|.ix _::_,_,.fz _,_,_,_,_,h|.ix _::_,_,.p _ _,_,_,_,_,h|.ix _::_,_,.pt _,_,_,_,_,h|.ix _::_,_,.mp _ _,_,_,_,_,h|.ix _::_,_,.op _,_,_,_,_,h|.de::_,_,.fz _,_,_,_,_,h|.de::_,_,.p _ _,_,_,_,_,h|.de::_,_,.sl _,_,_,_,_,h|.de::_,_,.mp _ _,_,_,_,_,h|.de::_,_,.op _,_,_,_,_,h=>by simp[get]at h
theorem anc:(ρ π:cr)->(dp ρ||dp π)=true->dp (ap ρ π)=true
 |[],π,h=>by simpa[dp,ap]using h
 |.l::ρ,π,h|.r::ρ,π,h=>by simp only[ap,dp]at h⊢;exact anc ρ π h
 |.ix _::ρ,π,h|.de::ρ,π,h=>by simp only[ap,dp]
theorem ada:(π:cr)->(o:O)->(n:Nat)->c8 π o.strip=some n->jj π o=some n/\dp π=false
 |[],o,n,h=>by simp only[c8]at h;simp only[jj,h,dp,and_self]
 |.l::π,.p a b,n,h=>by simp only[c8]at h;obtain⟨h1,h2⟩:=ada π a n h;exact⟨by simpa only [jj]using h1,by simpa only [dp]using h2⟩
 |.r::π,.p a b,n,h=>by
  simp only[c8]at h;split at h
  ·rename_i m hm;obtain⟨h1,h2⟩:=ada π b m hm;exact⟨by simp only[jj,h1];exact h,by simpa only [dp]using h2⟩
  ·cases h
 |.l::π,.fz (.p a b),n,h=>by simp only[c8]at h;obtain⟨h1,h2⟩:=ada π (.fz a) n h;exact⟨by simpa only [jj]using h1,by simpa only [dp]using h2⟩
 |.r::π,.fz (.p a b),n,h=>by
  simp only[c8]at h;split at h
  ·rename_i m hm;obtain⟨h1,h2⟩:=ada π (.fz b) m hm;exact⟨by simp only[jj,h1];exact h,by simpa only [dp]using h2⟩
  ·cases h
 |.l::_,.sl _,_,h|.l::_,.mp _ _,_,h|.l::_,.op _,_,h|.l::_,.pt _,_,h|.l::_,.fz (.int _),_,h|.l::_,.fz .bool,_,h|.l::_,.fz .str,_,h|.l::_,.fz .u,_,h|.l::_,.fz (.sl _),_,h|.l::_,.fz (.pt _),_,h|.l::_,.fz (.fn _ _),_,h|.l::_,.fz (.ifc _ _),_,h|.l::_,.fz (.ib _ _),_,h|.l::_,.fz (.mp _ _),_,h|.l::_,.fz (.op _),_,h|.l::_,.fz (.ns _),_,h|.l::_,.fz (.er _),_,h|.l::_,.fz .any,_,h|.r::_,.sl _,_,h|.r::_,.mp _ _,_,h|.r::_,.op _,_,h|.r::_,.pt _,_,h|.r::_,.fz (.int _),_,h|.r::_,.fz .bool,_,h|.r::_,.fz .str,_,h|.r::_,.fz .u,_,h|.r::_,.fz (.sl _),_,h|.r::_,.fz (.pt _),_,h|.r::_,.fz (.fn _ _),_,h|.r::_,.fz (.ifc _ _),_,h|.r::_,.fz (.ib _ _),_,h|.r::_,.fz (.mp _ _),_,h|.r::_,.fz (.op _),_,h|.r::_,.fz (.ns _),_,h|.r::_,.fz (.er _),_,h|.r::_,.fz .any,_,h|.ix _::_,_,_,h|.de::_,_,_,h=>by simp[c8]at h
theorem bfa{Im:Nat->Prop}{w:World}:(π:cr)->(t:T)->(x:t.den)->(n:Nat)->(q:(t:T)×t.den)->(vs:List Value)->c8 π t=some n->ayx π t x=some q->aq Im w t x vs->
  ∃va us vb,vs=va++us++vb/\va.length=n/\aq Im w q.1 q.2 us
 |[],t,x,n,q,vs,h,hq,r=>by simp only[c8,a0e]at h;simp only[ayx,a0e]at hq;subst h;subst hq;exact⟨[],vs,[],by simp,rfl,r⟩
 |.l::π,.p a b,x,n,q,vs,h,hq,r=>by simp only[c8]at h;simp only[ayx]at hq;simp only[aq]at r;obtain⟨va,vb,rfl,ha,hb⟩:=r;obtain⟨v1,us,v2,rfl,k2,k3⟩:=bfa π a x.1 n q va h hq ha;exact⟨v1,us,v2++vb,by simp,k2,k3⟩
 |.r::π,.p a b,x,n,q,vs,h,hq,r=>by
  simp only[c8]at h;simp only[ayx]at hq;simp only[aq]at r;obtain⟨va,vb,rfl,ha,hb⟩:=r;split at h
  ·rename_i m hm;simp only[a0e]at h;obtain⟨v1,us,v2,rfl,k2,k3⟩:=bfa π b x.2 m q vb hm hq hb;exact⟨va++v1,us,v2,by simp,by rw[a0m,aq.len a _ _ ha,k2,←h];simp,k3⟩
  ·cases h
 |.l::_,.int _,_,_,_,_,h,_,_|.l::_,.bool,_,_,_,_,h,_,_|.l::_,.str,_,_,_,_,h,_,_|.l::_,.u,_,_,_,_,h,_,_|.l::_,.sl _,_,_,_,_,h,_,_|.l::_,.pt _,_,_,_,_,h,_,_|.l::_,.fn _ _,_,_,_,_,h,_,_|.l::_,.ifc _ _,_,_,_,_,h,_,_|.l::_,.mp _ _,_,_,_,_,h,_,_|.l::_,.op _,_,_,_,_,h,_,_|.l::_,.any,_,_,_,_,h,_,_|.r::_,.int _,_,_,_,_,h,_,_|.r::_,.bool,_,_,_,_,h,_,_|.r::_,.str,_,_,_,_,h,_,_|.r::_,.u,_,_,_,_,h,_,_|.r::_,.sl _,_,_,_,_,h,_,_|.r::_,.pt _,_,_,_,_,h,_,_|.r::_,.fn _ _,_,_,_,_,h,_,_|.r::_,.ifc _ _,_,_,_,_,h,_,_|.r::_,.mp _ _,_,_,_,_,h,_,_|.r::_,.op _,_,_,_,_,h,_,_|.r::_,.any,_,_,_,_,h,_,_|.ix _::_,_,_,_,_,_,h,_,_|.de::_,_,_,_,_,_,h,_,_=>by simp[c8]at h
theorem pg.sub{w:World}{b o:Nat}{va us vb:List Value}(h:pg w b o (va++us++vb)):pg w b (o+va.length) us:=fun j u hu=>by
 have:=h (va.length+j) u (by rw[a01,a1s (by omega),a4q,a1f (a1i.1 hu).1];exact hu)
 rwa [show o+(va.length+j)=o+va.length+j by omega]at this
theorem bgu{v:Value}(h:v.oneCell'=true):v.cells=#[v]:=by cases v<;>simp[Value.oneCell']at h<;>rfl
section
variable {F:Fr} {p p' p'':Ow} {env:Env} {M M' M'':Mem} {a:Act} {w w' w'':World} {P:Program} {B:Tab}
theorem uk{M:Mem}{k:Nat}{π:cr}{q:Ob}(h:qh M k π=some q):∃ob,go M k=some ob/\get π ob.o ob.x=some q:=by
 unfold qh at h;split at h
 ·rename_i ob hob;exact⟨ob,hob,h⟩
 ·cases h
theorem Ref.look(hp:Hp F p M w){k:Nat}{π:cr}{vs:List Value}{q:Ob}(h:Ref p.β M w k π vs)(hq:qh M k π=some q):∃S,Rel (Imm F p M w) w q.o q.x S vs:=by obtain⟨ob,h1,h2⟩:=uk hq;obtain⟨ob',pl,k1,k2,k3,k4⟩:=h;rw[h1]at k1;cases k1;obtain⟨us,pl',S',e1,e2,e3,_⟩:=Bm.look hp h1 k2 h2;rw[e1]at k4;cases k4;exact⟨S',e3⟩
theorem Adr.look(hp:Hp F p M w){k:Nat}{π:cr}{v:Value}{q:Ob}(h:Adr p.β M w k π v)(hq:qh M k π=some q) :
  ∃S us b off cur ty',v=.pointer (some ⟨b,off,none⟩)/\Rel (Imm F p M w) w q.o q.x S us/\w.heap[b]? = some (.cells cur ty' (0,0))/\(∀(j:Nat)(u:Value),us[j]? = some u->cur[off+j]? = some u)/\Ref p.β M w k π us:=by
 obtain⟨ob,h1,h2⟩:=uk hq;obtain⟨ob',us0,b0,off0,k1,k2,k3,k4,k5,k6⟩:=h;rw[h1]at k1;cases k1;obtain⟨us,pl',S',e1,e2,e3,e4,_⟩:=Bm.look hp h1 k2 h2;rw[e1]at k5;simp only[a0e,a0n]at k5;obtain⟨rfl,rfl⟩:=k5;obtain⟨b,off,cur,ty',g1,g2,g3,g4,g5⟩:=e4 k4;simp only[a0e,a0n]at g1;obtain⟨rfl,rfl⟩:=g1;exact⟨S',us,b0,off0,cur,ty',k6,e3,g4,g5,ob,_,h1,k2,⟨q,h2⟩,e1⟩
theorem buj(hp:Hp F p M w){k:Nat}{π:cr}{vs:List Value}{q:Ob}(h:Ref p.β M w k π vs)(hq:qh M k π=some q):ak p.β M (Imm F p M w) w (toV k π q.o q.x) vs:=by
 obtain⟨S,hr⟩:=h.look hp hq;obtain⟨o,x⟩:=q
 cases o with
 |fz t=>
  have:toV k π (.fz t) x=n9 t x:=by cases π<;>rfl
  simp only[this];simp only[Rel]at hr;exact th t x vs hr
 |p a b=>
  have:toV k π (.p a b) x=.ref k π:=by cases π<;>rfl
  simp only[this,ak];exact h
 |sl e=>
  have:toV k π (.sl e) x=.ref k π:=by cases π<;>rfl
  simp only[this,ak];exact h
 |mp e e'=>
  have:toV k π (.mp e e') x=.ref k π:=by cases π<;>rfl
  simp only[this,ak];exact h
 |op e=>
  have:toV k π (.op e) x=.ref k π:=by cases π<;>rfl
  simp only[this,ak];exact h
 |pt o=>
  have:toV k π (.pt o) x=.ad k (ap π [.de]):=by cases π<;>rfl
  simp only[this,ak];obtain⟨ob,h1,h2⟩:=uk hq;obtain⟨ob',pl,k1,k2,k3,k4⟩:=h;rw[h1]at k1;cases k1;simp only[Rel]at hr;obtain⟨b,us,ty',S',r1,r2,r3,r4,r5⟩:=hr;refine⟨_,r1,ob,cellsOf w b 0 o.size,b,0,h1,aei π [.de] _ _ _ h2 k2 (by simp only[gok]),⟨⟨o,x⟩,by rw[acq,h2];simp only[get]⟩,anc π [.de] (by simp[dp]),?_,rfl⟩;rw[aek w π [.de] ob.o ob.x _ _ _ h2,k4,r1];simp only[res]
theorem Ref.sub(hp:Hp F p M w){k:Nat}{ρ π:cr}{vs:List Value}{q:Ob}{n:Nat}(h:Ref p.β M w k ρ vs)(hq:qh M k ρ=some q)(ho:c8 π q.o.strip=some n) :
  (∃q',qh M k (ap ρ π)=some q')/\∃va us vb,vs=va++us++vb/\va.length=n/\Ref p.β M w k (ap ρ π) us:=by
 obtain⟨ob,h1,h2⟩:=uk hq;obtain⟨ob',pl,k1,k2,k3,k4⟩:=h;rw[h1]at k1;cases k1;obtain⟨us,pl',S',e1,e2,e3,_⟩:=Bm.look hp h1 k2 h2;rw[e1]at k4;cases k4;obtain⟨o1,o2⟩:=ada π q.o n ho;obtain⟨⟨q',g1⟩,g2,us',g3⟩:=tx w π q.o n o1 q.x vs pl;obtain⟨us2,pl2,S2,f1,f2,f3,f4,f5,f6⟩:=ai2 π q.o q.x S' vs none q' e3 g2 g1 (fun b off e=>by cases e);obtain⟨n',b1,b2,b3,b4,b5⟩:=f5 o2;rw[o1]at b1;cases b1
 have hres:∀ad,res w π q.o vs ad=some (us2,ad.plus n):=fun ad=>by
  obtain⟨_,_,us3,g4⟩:=tx w π q.o n o1 q.x vs ad;obtain⟨us4,pl4,S4,i1,i2,i3,i4,i5,i6⟩:=ai2 π q.o q.x S' vs none q' e3 g2 g1 (fun b off e=>by cases e)
  have hh:∀(π:cr)(o:O)(vs:List Value)(ad ad':Pl)(u u':List Value)(pl pl':Pl),dp π=false->res w π o vs ad=some (u,pl)->res w π o vs ad'=some (u',pl')->u=u':=by
   intro π
   induction π with
   |nil=>intro o vs ad ad' u u' pl pl' _ r1 r2;simp only[res,a0e,a0n]at r1 r2;rw[←r1.1,←r2.1]
   |cons s π ih=>
    intro o vs ad ad' u u' pl pl' hh r1 r2
    cases s with
    |l=>
     simp only[dp]at hh
     cases o with
     |p a b=>simp only[res]at r1 r2;exact ih _ _ _ _ _ _ _ _ hh r1 r2
     |fz t=>cases t<;>simp only[res]at r1 r2<;>first|exact ih _ _ _ _ _ _ _ _ hh r1 r2|cases r1
     |sl e|pt e|mp _ _|op _=>simp only[res]at r1;cases r1
    |r=>
     simp only[dp]at hh
     cases o with
     |p a b=>simp only[res]at r1 r2;exact ih _ _ _ _ _ _ _ _ hh r1 r2
     |fz t=>cases t<;>simp only[res]at r1 r2<;>first|exact ih _ _ _ _ _ _ _ _ hh r1 r2|cases r1
     |sl e|pt e|mp _ _|op _=>simp only[res]at r1;cases r1
    |de|ix i=>simp[dp]at hh
  rw[g4,hh π q.o vs ad none us3 us2 _ _ o2 g4 f1]
 refine⟨⟨q',?_⟩,vs.take n,us2,vs.drop (n+us2.length),?_,by rw[a03];omega,ob,pl.plus n,h1,aei ρ π _ _ _ h2 k2 g2,⟨q',by rw[acq,h2];exact g1⟩,?_⟩
 ·unfold qh;rw[h1];simp only;rw[acq,h2];exact g1
 ·conv=>lhs;rw[←a1x n vs]
  rw[a01];congr 1
  conv=>lhs;rw[←a1x us2.length (vs.drop n)]
  rw[←b3,a3l]
 ·rw[aek w ρ π ob.o ob.x _ _ _ h2,e1];exact hres pl
theorem Adr.sub(hp:Hp F p M w){k:Nat}{ρ π:cr}{v:Value}{q:Ob}{n:Nat}(h:Adr p.β M w k ρ v)(hq:qh M k ρ=some q)(ho:c8 π q.o.strip=some n) :
  ∃b off,v=.pointer (some ⟨b,off,none⟩)/\Adr p.β M w k (ap ρ π) (.pointer (some ⟨b,off+n,none⟩)):=by
 obtain⟨ob,h1,h2⟩:=uk hq;obtain⟨ob',us0,b0,off0,k1,k2,k3,k4,k5,k6⟩:=h;rw[h1]at k1;cases k1;obtain⟨o1,o2⟩:=ada π q.o n ho;obtain⟨⟨q',g1⟩,g2,us',g3⟩:=tx w π q.o n o1 q.x us0 (some (b0,off0));refine⟨b0,off0,k6,ob,us',b0,off0+n,h1,aei ρ π _ _ _ h2 k2 g2,⟨q',by rw[acq,h2];exact g1⟩,anc ρ π (by rw[k4];rfl),?_,rfl⟩;rw[aek w ρ π ob.o ob.x _ _ _ h2,k5];exact g3
theorem ak.one(hp:Hp F p M w):(v:V)->(vs:List Value)->ak p.β M (Imm F p M w) w v vs->∀u∈vs,u.oneCell'=true
 |.p a b,vs,r=>by
  simp only[ak]at r;obtain⟨va,vb,rfl,ha,hb⟩:=r;intro u hu;rcases a07.1 hu with hu|hu
  ·exact ak.one hp a va ha u hu
  ·exact ak.one hp b vb hb u hu
 |.u,vs,r=>by simp only[ak]at r;subst r;intro u hu;cases hu
 |.ref k π,vs,r=>by simp only[ak]at r;exact r.one hp
 |.ad k π,vs,r=>by simp only[ak]at r;obtain⟨v,rfl,h⟩:=r;intro u hu;rw[a0s.1 hu];exact h.one
 |.d t x,vs,r=>by simp only[ak]at r;exact aq.one t x vs r
 |.nl,vs,r=>by simp only[ak]at r;obtain⟨oa,rfl⟩:=r;intro u hu;rw[a0s.1 hu];rfl
 |.np,vs,r=>by simp only[ak]at r;subst r;intro u hu;rw[a0s.1 hu];rfl
 |.any,vs,r=>by simpa only [ak]using r
 |.fn f v,vs,r=>by simp only[ak]at r;obtain⟨us,rfl,_⟩:=r;intro u hu;rw[a0s.1 hu];rfl
 |.ag _,vs,r|.tup _,vs,r|.gd _ _ _ _,vs,r=>by simp only[ak]at r
 |.ifc t v,vs,r=>by simp only[ak]at r;obtain⟨u,rfl,_⟩:=r;intro u hu;rw[a0s.1 hu];rfl
 |.bx v,vs,r=>by simp only[ak]at r;obtain⟨b,o,us,rfl,_⟩:=r;intro u hu;rw[a0s.1 hu];rfl
theorem ahh(hp:Hp F p M w){v:V}{u:Value}(h:ao p.β M (Imm F p M w) w v u)(hc:od v=true):ak p.β M (Imm F p M w) w v.cells u.cells.toList:=by
 have key:ak p.β M (Imm F p M w) w v [u]->v.cells=v->ak p.β M (Imm F p M w) w v.cells u.cells.toList:=fun r e=>by rw[bgu (ak.one hp v _ r u (by simp)),e];exact r
 cases v with
 |any|tup _|gd _ _ _ _=>cases hc
 |ifc _ _=>exact key (by simpa only [ao]using h) rfl
 |ag y=>simp only[ao]at h;obtain⟨vs,rfl,h⟩:=h;simpa[V.cells,Value.cells]using h
 |p a b|u|ref k π|ad k π|d t y|nl|np|fn f y|bx y=>exact key (by simpa only [ao]using h) rfl
theorem btm{a b:Option Nat}{n:Nat}(h:bus a b=some n):∃x y,a=some x/\b=some y/\n=x+y:=by cases a<;>cases b<;>simp[bus]at h;exact⟨_,_,rfl,rfl,h.symm⟩
theorem zc(hp:Hp F p M w):(v:V)->(vs:List Value)->(n:Nat)->ak p.β M (Imm F p M w) w v vs->v.size M=some n->vs.length=n
 |.p a b,vs,n,r,h=>by simp only[ak]at r;obtain⟨va,vb,rfl,ha,hb⟩:=r;simp only[V.size]at h;obtain⟨x,y,hx,hy,rfl⟩:=btm h;rw[a0m,zc hp a va x ha hx,zc hp b vb y hb hy]
 |.u,vs,n,r,h=>by simp only[ak]at r;simp only[V.size,a0e]at h;subst r;subst h;rfl
 |.ref k π,vs,n,r,h=>by
  simp only[ak]at r;simp only[V.size]at h;split at h
  ·rename_i q hq;cases h;obtain⟨S,hr⟩:=r.look hp hq;exact Rel.len _ _ _ _ hr
  ·cases h
 |.ad k π,vs,n,r,h=>by simp only[ak]at r;obtain⟨v,rfl,_⟩:=r;simp only[V.size,a0e]at h;subst h;rfl
 |.d t x,vs,n,r,h=>by simp only[ak]at r;simp only[V.size,a0e]at h;subst h;exact aq.len t x vs r
 |.nl,vs,n,r,h=>by simp only[ak]at r;simp only[V.size,a0e]at h;obtain⟨oa,rfl⟩:=r;subst h;rfl
 |.np,vs,n,r,h=>by simp only[ak]at r;simp only[V.size,a0e]at h;subst r;subst h;rfl
 |.fn f v,vs,n,r,h=>by simp only[ak]at r;obtain⟨us,rfl,_⟩:=r;simp only[V.size,a0e]at h;subst h;rfl
 |.any,vs,n,r,h|.ag _,vs,n,r,h|.tup _,vs,n,r,h|.gd _ _ _ _,vs,n,r,h=>by simp[V.size]at h
 |.ifc t v,vs,n,r,h=>by simp only[ak]at r;obtain⟨u,rfl,_⟩:=r;simp only[V.size,a0e]at h;subst h;rfl
 |.bx v,vs,n,r,h=>by simp only[ak]at r;obtain⟨b,o,us,rfl,_⟩:=r;simp only[V.size,a0e]at h;subst h;rfl
theorem o7{M:Mem}{v:V}{n:Nat}(h:kx M v n=true):v.size M=some n:=by
 unfold kx at h;split at h
 ·rename_i m hm;simp only[iz,a0r]at h;rw[hm,h]
 ·cases h
theorem af3{M:Mem}{v:V}{n:Nat}(h:v.cells.size M=some n):od v=true:=by cases v<;>first|rfl|simp[V.cells,V.size]at h
theorem awn(hp:Hp F p M w):(π:cr)->(v:V)->(vs:List Value)->(n:Nat)->(v':V)->ak p.β M (Imm F p M w) w v vs->fe M π v=some (n,v')->
  ∃va us vb,vs=va++us++vb/\va.length=n/\ak p.β M (Imm F p M w) w v' us
 |[],v,vs,n,v',r,h=>by
  have:fe M [] v=some (0,v):=by cases v<;>rfl
  rw[this]at h;cases h;exact⟨[],vs,[],by simp,rfl,r⟩
 |.l::π,.p a b,vs,n,v',r,h=>by simp only[fe]at h;simp only[ak]at r;obtain⟨va,vb,rfl,ha,hb⟩:=r;obtain⟨v1,us,v2,rfl,k2,k3⟩:=awn hp π a va n v' ha h;exact⟨v1,us,v2++vb,by simp,k2,k3⟩
 |.r::π,.p a b,vs,n,v',r,h=>by
  simp only[fe]at h;simp only[ak]at r;obtain⟨va,vb,rfl,ha,hb⟩:=r;split at h
  ·rename_i m n' v1 hm hs;cases h;obtain⟨v1,us,v2,rfl,k2,k3⟩:=awn hp π b vb n' v' hb hs;exact⟨va++v1,us,v2,by simp,by rw[a0m,zc hp a va m ha hm,k2];simp,k3⟩
  ·cases h
 |s::π,.ref k ρ,vs,n,v',r,h=>by
  have:fe M (s::π) (.ref k ρ)=(match qh M k ρ,qh M k (ap ρ (s::π))with
   |some q,some q'=>(match c8 (s::π) q.o.strip with|some n=>some (n,toV k (ap ρ (s::π)) q'.o q'.x)|none=>none)
   |_,_=>none):=by cases s<;>rfl
  rw[this]at h;simp only[ak]at r;split at h
  ·rename_i q q' hq hq';split at h
   ·rename_i m hm;cases h;obtain⟨_,va,us,vb,h1,h2,h3⟩:=r.sub hp hq hm;exact⟨va,us,vb,h1,h2,buj hp h3 hq'⟩
   ·cases h
  ·cases h
 |.ix _::_,.p _ _,_,_,_,_,h|.de::_,.p _ _,_,_,_,_,h=>by simp[fe]at h
 |s::_,.any,_,_,_,_,h|s::_,.nl,_,_,_,_,h|s::_,.np,_,_,_,_,h|s::_,.u,_,_,_,_,h|s::_,.d _ _,_,_,_,_,h|s::_,.ad _ _,_,_,_,_,h|s::_,.ag _,_,_,_,_,h|s::_,.tup _,_,_,_,_,h|s::_,.gd _ _ _ _,_,_,_,_,h|s::_,.fn _ _,_,_,_,_,h|s::_,.ifc _ _,_,_,_,_,h|s::_,.bx _,_,_,_,_,h=>by cases s<;>simp[fe]at h
def val(agg:Bool)(vs:List Value):Value:=bif agg then .agg vs.toArray else vs.headD undef
theorem awh{β:Nat->Value}{Im:Nat->Prop}{agg:Bool}{v:V}{vs:List Value}(r:ak β M Im w v vs)(h:agg=false->vs.length=1):ao β M Im w (age agg v) (val agg vs):=by
 cases agg with
 |true=>simp only[age,val,a0d,ao];exact⟨vs,rfl,r⟩
 |false=>obtain⟨u,rfl⟩:=a5c.1 (h rfl);simp only[age,val,a0j,List.headD_cons];exact bu r
end
end Go.Bm
/- The ff machine:operations that only look. -/
namespace Go.Bm
open Go.RowKit
section
variable {F:Fr} {p p' p'':Ow} {env:Env} {M M' M'':Mem} {a:Act} {w w' w'':World} {P:Program} {B:Tab}
variable {β:Nat->Value} {Im:Nat->Prop}
theorem cf{t:T}{x:t.den}{v:Value}:ao β M Im w (.d t x) v<->aq Im w t x [v]:=by simp only[ao,ak]
theorem fx{k:IntKind}{n:Int}{v:Value}:aq Im w (.int k) n [v]<->v=.int k n/\inK k n:=by simp[aq]
theorem jy{b:Bool}{v:Value}:aq Im w .bool b [v]<->v=.bool b:=by simp[aq]
theorem am0{s:ByteArray}{v:Value}:aq Im w .str s [v]<->v=.string s/\s.size<=nb:=by simp[aq]
theorem az7(k:IntKind)(n:Int)(hv:ab (ar k n).1):ao β M Im w (ar k n).2 (.int k (k.wrap n)):=by
 cases k
 case i64=>simp only[ar,d7,fh,a0c]at hv;simp only[ar,cf,fx,apy hv,a0f];exact hv
 all_goals
  simp only[ar,cf,fx,a0f];exact ahe _ _
theorem bv9(op:BinOp)(k:IntKind)(a b:Int)(t:TypeId)(x y:Operand)(hv:ab (adi op k a b).1) :
  ∃r,(do eqGuard op t x y (.int k a) (.int k b);binOp op t (.int k a) (.int k b):Sem Value).run P w=.ok r w/\ao β M Im w (adi op k a b).2 r:=by
 cases op
 case add=>exact⟨.int k (k.wrap (a+b)),by simp[eqGuard,binOp,Op.intArith],az7 k _ hv⟩
 case sub=>exact⟨.int k (k.wrap (a-b)),by simp[eqGuard,binOp,Op.intArith],az7 k _ hv⟩
 case mul=>exact⟨.int k (k.wrap (a*b)),by simp[eqGuard,binOp,Op.intArith],az7 k _ hv⟩
 case quo=>simp only[adi,d7]at hv⊢;exact⟨.int k (k.wrap (a.tdiv b)),by simp[eqGuard,binOp,Op.intDiv,hv.1],az7 k _ hv.2⟩
 case rem=>simp only[adi,d7]at hv⊢;exact⟨.int k (a.tmod b),by simp[eqGuard,binOp,Op.intDiv,hv.1],by simp only[cf,fx,a0f];exact hv.2.1⟩
 case eql=>exact⟨.bool (a==b),by simp[eqGuard,binOp,Op.intCmp],by simp only[adi,du,cf,jy]⟩
 case neq=>exact⟨.bool (a != b),by simp[eqGuard,binOp,Op.intCmp],by simp only[adi,du,cf,jy]⟩
 case lss=>exact⟨.bool (decide (a<b)),by simp[eqGuard,binOp,Op.intCmp],by simp only[adi,du,cf,jy]⟩
 case leq=>exact⟨.bool (decide (a<=b)),by simp[eqGuard,binOp,Op.intCmp],by simp only[adi,du,cf,jy]⟩
 case gtr=>exact⟨.bool (decide (b<a)),by simp[eqGuard,binOp,Op.intCmp],by simp only[adi,du,cf,jy]⟩
 case geq=>exact⟨.bool (decide (b<=a)),by simp[eqGuard,binOp,Op.intCmp],by simp only[adi,du,cf,jy]⟩
 case and=>exact⟨.int k (ats k a b),by simp[eqGuard,binOp,Op.intBits,ats],by simp only[adi,du,cf,fx,a0f];exact ahe _ _⟩
 case shr=>
  simp only[adi,d7]at hv⊢;refine⟨.int k (ao6 k a b),?_,by simp only[cf,fx,a0f];exact hv.2.1⟩;have h0:¬b<0:=by omega
  simp[eqGuard,binOp,Op.shift,ao6,h0]
 all_goals exact hv.1.elim
theorem buv(op:BinOp)(a b:ByteArray)(t:TypeId)(x y:Operand)(hv:ab (bpj op a b).1) :
  ∃r,(do eqGuard op t x y (.string a) (.string b);binOp op t (.string a) (.string b):Sem Value).run P w=.ok r w/\ao β M Im w (bpj op a b).2 r:=by
 have h:False/\True:=hv;exact h.1.elim
theorem bv3(hB:TabOk P B)(op:BinOp)(t:TypeId)(x y:Operand)(ax ay:V)(u v:Value)(h:ao β M Im w ax u)(h':ao β M Im w ay v)(hv:ab (bhj (B.τ t) op ax ay).1) :
  ∃r,(do eqGuard op t x y u v;binOp op t u v:Sem Value).run P w=.ok r w/\ao β M Im w (bhj (B.τ t) op ax ay).2 r:=by
 unfold bhj at hv⊢;split at hv
 ·rename_i k a k' b;simp only[cf,fx]at h h';obtain⟨rfl,_⟩:=h;obtain⟨rfl,_⟩:=h';have hk:=km hv;simp only[hk,a0d]at hv⊢;obtain rfl:=ac1 hk;exact bv9 op _ _ _ t x y hv
 ·rename_i a b;simp only[cf,jy]at h h';subst h;subst h';have hk:=km hv;simp only[hk,a0d]at hv⊢;simp only[br,bz,a0o,a0b]at hk;rw[←hB.τ t hk.1]at hk;obtain⟨i,d,hi,hd⟩:=gu hk.1;rw[ke hi hd]at hk;have h2:=hk.2;simp only[rk]at h2;cases d<;>simp at h2;cases op
  case eql=>exact⟨.bool (a==b),by simp[eqGuard,run_eql_bool w t a b hd],by simp only[du,cf,jy]⟩
  case neq=>exact⟨.bool (a != b),by simp[eqGuard,binOp,run_equal_bool w t a b hd];cases a<;>cases b<;>rfl,by simp only[du,cf,jy]⟩
  all_goals exact hv.1.elim
 ·simp only[cf,am0]at h h';obtain⟨rfl,_⟩:=h;obtain⟨rfl,_⟩:=h';exact buv op _ _ t x y hv
 ·exact hv.1.elim
theorem bnu(g:Bool)(ts:Array TypeId)(t:TypeId)(ax ay:V)(u v:Value)(h:ao β M Im w ax u)(h':ao β M Im w ay v)(hv:ab (biu g ax ay).1) :
  ∃r,(bif g then Builtin.max_ ts t #[u,v]else Builtin.min_ ts t #[u,v]).run P w=.ok r w/\ao β M Im w (biu g ax ay).2 r:=by
 unfold biu at hv⊢;split at hv
 ·rename_i k a k' b;simp only[cf,fx]at h h';obtain⟨rfl,ha⟩:=h;obtain⟨rfl,hb⟩:=h';have hk:=km hv;simp only[hk,a0d]at hv⊢;obtain rfl:=ac1 hk
  cases g with
  |true=>refine⟨.int k (mxR a b),?_,by simp only[du,cf,fx,a0d];refine⟨trivial,?_⟩;unfold mxR;split<;>assumption⟩;simp only[a0d,mxR];exact run_max_int2 _ _ _ _ _ _ _
  |false=>refine⟨.int k (mnR a b),?_,by simp only[du,cf,fx,a0j];refine⟨trivial,?_⟩;unfold mnR;split<;>assumption⟩;simp only[a0j,mnR];exact run_min_int2 _ _ _ _ _ _ _
 ·exact hv.1.elim
theorem eqF(w:World)(P:Program){β:Nat->Value}{M:Mem}{Im:Nat->Prop}{w0:World}(d:Nat):∀(n:Nat)(a b:V)(vs vs':List Value)(r:Bool)(pre pre':List Value)(fs:List Field),agn n a b=some r->ak β M Im w0 a vs->ak β M Im w0 b vs'->
  aoj P fs pre.length=true->fs.length=n->pre'.length=pre.length->(Op.eqFields (d+1) (pre++vs).toArray (pre'++vs').toArray fs).run P w=.ok r w:=by
 have one : ∀ (k k' : IntKind) (x y : Int) (vs vs' pre pre' : List Value) (f : Field), (bif cd [neg (f.name == "_"), Nat.beq f.offset pre.length, aof (P.underlying f.type)] then True else False) -> pre'.length = pre.length ->
   f.name ≠ "_" /\ (part f.type (pre ++ .int k x :: vs).toArray f.offset).run P w = .ok (.int k x) w /\ (part f.type (pre' ++ .int k' y :: vs').toArray f.offset).run P w = .ok (.int k' y) w /\ (Op.equalIn (d + 1) f.type (.int k x) (.int k y)).run P w = .ok (x == y) w := by
  intro k k' x y vs vs' pre pre' f h hl
  cases hb : cd [neg (f.name == "_"), Nat.beq f.offset pre.length, aof (P.underlying f.type)] with
  |false=>rw[hb]at h;exact h.elim
  |true=>
   simp only[br,bz,a0o,a0b,qu,a1z]at hb;obtain⟨h1,h2,h3⟩:=hb;have h2:=a0v h2
   cases hu:P.underlying f.type with
   |none=>rw[hu]at h3;cases h3
   |some u=>
    rw[hu]at h3;cases u<;>simp only[aof,a1g]at h3;have hp:P.plainKey f.type=true:=by simp[Program.plainKey,hu]
    exact⟨by simpa using h1,run_part_plain w hp (by rw[h2];simp),run_part_plain w hp (by rw[h2,←hl];simp),run_equalIn_int w d f.type k _ x y hu⟩
 intro n
 induction n with
 |zero=>intro a b vs vs' r pre pre' fs h;cases a<;>cases b<;>simp[agn]at h
 |succ n ih=>
  intro a b vs vs' r pre pre' fs h ha hb hf hl hp;obtain⟨f,fs,rfl⟩:∃f r,fs=f::r:=by cases fs with|nil=>cases hl|cons f r=>exact⟨f,r,rfl⟩
  simp only[aoj]at hf
  have hc : (bif cd [neg (f.name == "_"), Nat.beq f.offset pre.length, aof (P.underlying f.type)] then True else False) /\ aoj P fs (Nat.succ pre.length) = true := by
   cases hb : cd [neg (f.name == "_"), Nat.beq f.offset pre.length, aof (P.underlying f.type)] with
   |false=>rw[hb]at hf;cases hf
   |true=>rw[hb]at hf;exact⟨trivial,hf⟩
  cases n with
  |zero=>
   unfold agn at h;split at h
   ·rename_i k x k' y he;simp only[ak,aq]at ha hb;obtain⟨rfl,_⟩:=ha;obtain⟨rfl,_⟩:=hb
    cases hk:afm k k' with
    |false=>rw[hk]at h;cases h
    |true=>
     rw[hk]at h;cases h;have:=ac1 hk;subst this;have hfs:fs=[]:=by cases fs with|nil=>rfl|cons _ _=>simp at hl
     subst hfs;obtain⟨o1,o2,o3,o4⟩:=one k k x y [] [] pre pre' f hc.1 hp;simp only[Op.eqFields,a0a o1,a1q,o2,a14,o3,o4,ne_eq,not_false_eq_true,a04];cases x==y<;>simp
   ·rename_i n' _ _ _ _ _ _ he;omega
   ·cases h
  |succ n=>
   unfold agn at h;split at h
   ·rename_i he;omega
   ·rename_i n' k x a' k' y b' he;have:n'=n:=by omega
    subst this
    cases hr:agn (n'+1) a' b' with
    |none=>rw[hr]at h;cases h
    |some r'=>
     rw[hr]at h
     cases hk:afm k k' with
     |false=>rw[hk]at h;cases h
     |true=>
      rw[hk]at h;cases h;have:=ac1 hk;subst this;simp only[ak,aq]at ha hb;obtain⟨va,va',rfl,⟨rfl,_⟩,ha'⟩:=ha;obtain⟨vb,vb',rfl,⟨rfl,_⟩,hb'⟩:=hb;obtain⟨o1,o2,o3,o4⟩:=one k k x y va' vb' pre pre' f hc.1 hp;have hi:=ih a' b' va' vb' r' (pre++[.int k x]) (pre'++[.int k y]) fs hr ha' hb' (by simpa using hc.2) (by simpa using hl) (by simpa using hp);simp only[a01,List.singleton_append]at hi⊢;simp only[Op.eqFields,a0a o1,a1q,o2,a14,o3,o4,ne_eq,not_false_eq_true,a04];cases x==y
      ·simp
      ·simp;exact hi
   ·cases h
def arf(e : TypeId)(i : Nat) : Field := { (default : Field) with name := "a", type := e, offset := i }
theorem aur(w:World)(P:Program)(d:Nat)(e:TypeId)(xs ys:Array Value):∀is:List Nat,(Op.eqItems d e 1 xs ys is).run P w=(Op.eqFields d xs ys (is.map (arf e))).run P w
 |[]=>rfl
 |i::is=>by
  have h : (arf e i).name ≠ "_" := by simp [arf]
  simp only[a2h,Op.eqItems,Op.eqFields,a0a h,Nat.mul_one];simp only[arf,a1q];congr 1;funext x w1;congr 1;funext y w2;congr 1;funext r w3;cases r
  ·rfl
  ·exact aur w3 P d e xs ys is
theorem btr(hB:TabOk P B)(op:BinOp)(t:TypeId)(x y:Operand)(ax ay:V)(u v:Value)(h:ao β M Im w ax u)(h':ao β M Im w ay v)(hv:ab (bb2 B t op ax ay).1) :
  ∃r,(do eqGuard op t x y u v;binOp op t u v:Sem Value).run P w=.ok r w/\ao β M Im w (bb2 B t op ax ay).2 r:=by
 unfold bb2 at hv⊢;split at hv
 ·rename_i a b;simp only[ao]at h h';obtain⟨vs,rfl,ha⟩:=h;obtain⟨vs',rfl,hb⟩:=h';unfold by0 at hv⊢
  have key:∀r,agn (B.q t) a b=some r->(eqGuard op t x y (.agg vs.toArray) (.agg vs'.toArray)).run P w=.ok () w/\(Op.equalIn 10000 t (.agg vs.toArray) (.agg vs'.toArray)).run P w=.ok r w:=by
   intro r hr
   have hz:isZ (B.q t)=false:=by
    cases hq:B.q t with
    |zero=>rw[hq]at hr;cases a<;>cases b<;>simp[agn]at hr
    |succ n=>rfl
   have hq:=hB.q t hz;unfold bkz at hq;split at hq
   ·rename_i fs hu
    cases hall:cd [neg (P.stoodInHeld t),neg (P.eqGuardType P.depth t),aoj P (toL fs) 0]with
    |false=>rw[hall]at hq;simp only[a0j]at hq;rw[←hq]at hz;cases hz
    |true=>
     rw[hall]at hq;simp only[a0d]at hq;simp only[br,bz,a0o,a0b,qu,a1z]at hall;obtain⟨h1,h2,h3⟩:=hall;have hfs:P.fieldsOf t=fs:=by simp[Program.fieldsOf,hu]
     refine⟨run_eqGuard_agg w op t x y _ _ h2,?_⟩;rw[run_equalIn_struct w 9999 t _ _ (by rw[hfs];exact hu) h1,hfs];have htl:toL fs=fs.toList:=by cases fs;rfl
     rw[htl]at h3 hq;have:=eqF w P (w0:=w) 9998 (B.q t) a b vs vs' r [] [] fs.toList hr ha hb h3 (by rw[←hq,aga]) rfl;simpa using this
   ·rename_i n e hu
    cases hall:cd [neg (P.eqGuardType P.depth t),aof (P.underlying e),Nat.beq (P.cellsOf e) 1]with
    |false=>rw[hall]at hq;simp only[a0j]at hq;rw[←hq]at hz;cases hz
    |true=>
     rw[hall]at hq;simp only[a0d]at hq;simp only[br,bz,a0o,a0b,qu,a1z]at hall;obtain⟨h1,h2,h3⟩:=hall;have h3:=a0v h3
     have hie:∃i,P.info? e=some i:=by
      unfold Program.cellsOf at h3
      cases h:P.info? e with
      |none=>simp[h]at h3
      |some i=>exact⟨i,rfl⟩
     obtain⟨ie,hie⟩:=hie;refine⟨run_eqGuard_agg w op t x y _ _ h1,?_⟩;rw[run_equalIn_array w 9999 _ _ hu hie,h3,aur]
     have hin:∀(m i:Nat),aoj P ((List.range' i m).map (arf e)) i=true:=fun m=>by
      induction m with
      |zero=>intro i;rfl
      |succ m ih=>
       intro i;have h4:∀i:Nat,Nat.beq i i=true:=fun i=>Nat.beq_refl i;have h5 : ((("a" : String) == "_") = false) := by decide
       simp only[List.range'_succ,a2h,aoj,arf,h4,h2,h5,qu,Bool.not_false,br,bz,a2n,a0o,a0d];exact ih (i+1)
     rw[List.range_eq_range'];have:=eqF w P (w0:=w) 9998 (B.q t) a b vs vs' r [] [] ((List.range' 0 n).map (arf e)) hr ha hb (hin n 0) (by simp[hq]) rfl;simpa using this
   ·rw[←hq]at hz;cases hz
  split at hv
  ·rename_i r hr;obtain⟨k1,k2⟩:=key r hr;exact⟨.bool r,by simp only[a1q,k1,a14,run_eql_struct,k2],by simp only[du,cf,jy]⟩
  ·rename_i r hr;obtain⟨k1,k2⟩:=key r hr;exact⟨.bool (!r),by simp only[a1q,k1,a14,run_neq_struct,k2],by simp only[du,cf,jy]⟩
  ·exact hv.1.elim
 ·exact bv3 hB op t x y ax ay u v h h' hv
theorem bsh(a:Act):(y:Operand)->bko y=true->a.eval y=.slice none 0 0
 |.const (.slice none n m),h=>by simp only[bko,be,a0b]at h;have h1:=a0v h.1;have h2:=a0v h.2;subst h1;subst h2;rfl
theorem bsa(a:Act):(y:Operand)->bry y=true->y=.const .nilIface/\a.eval y=.nilIface
 |.const .nilIface,_=>⟨rfl,rfl⟩
theorem bt6{t:TypeId}{x y:Operand}{u:Value}{e:T}{l:Option (List e.den)}{op:BinOp}(hop:op=.eql\/op=.neq)(hok:(ty P t).ok=true)(hel:neg (isN (ty P t).el)=true)(h:aq Im w (.ns (.sl e)) l [u])(hl:bih l=true) :
  (do eqGuard op t x y u (.slice none 0 0);binOp op t u (.slice none 0 0):Sem Value).run P w=.ok (.bool (bif op==.eql then l.isNone else l.isSome)) w:=by
 obtain⟨inf,c,hi,hc⟩:=gu hok;rw[ke hi hc]at hel;simp only[rk]at hel;cases c<;>simp only[isN,qu,a3n,a1g]at hel
 have hu:(l=none/\u=.slice none 0 0)\/∃y b n c,l=some y/\u=.slice (some b) n c:=by
  simp only[aq,a0q,a0c]at h;rcases h with⟨rfl,rfl⟩|⟨y,a,n,c,rfl,rfl,oa,cap,⟨rfl,rfl,rfl⟩,_,hn,_⟩
  ·exact .inl ⟨rfl,rfl⟩
  ·cases a with
   |some b=>exact .inr ⟨y,b,_,_,rfl,rfl⟩
   |none=>
    exfalso;have:=(hn rfl).1
    cases y with
    |nil=>simp[bih]at hl
    |cons _ _=>simp at this
 have key:(Op.equal t u (.slice none 0 0)).run P w=.ok l.isNone w:=by show (Op.equalIn (9999+1) t u (.slice none 0 0)).run P w=.ok l.isNone w;generalize 9999=d;rcases hu with⟨rfl,rfl⟩|⟨y,b,n,c,rfl,rfl⟩<;>simp[Op.equalIn,a06 hc]
 have hu':∃b n c,u=.slice b n c:=by
  rcases hu with⟨_,rfl⟩|⟨y,b,n,c,_,rfl⟩
  ·exact⟨_,_,_,rfl⟩
  ·exact⟨_,_,_,rfl⟩
 obtain⟨b,n,c,rfl⟩:=hu';generalize hz:l.isNone=z at key;have hz':l.isSome=!z:=by rw[←hz];cases l<;>rfl
 rw[hz'];rcases hop with rfl|rfl
 ·simp[eqGuard,binOp,key]
 ·simp[eqGuard,binOp,key];cases z<;>rfl
theorem boi{t i:TypeId}{x:Operand}{u:Value}{b:Bool}{op:BinOp}(hop:op=.eql\/op=.neq)(hok:(ty P t).ok=true)(hel:(ty P t).ifc=true)(h:aq Im w (.er i) b [u]) :
  (do eqGuard op t x (.const .nilIface) u .nilIface;binOp op t u .nilIface:Sem Value).run P w=.ok (.bool (bif op==.eql then !b else b)) w:=by
 obtain⟨inf,c,hi,hc⟩:=gu hok;rw[ke hi hc]at hel;simp only[rk]at hel;cases c<;>simp only[a1g]at hel;have hu:(b=false/\u=.nilIface)\/∃s,b=true/\u=.iface i (.agg #[.string s]):=by simpa only [aq,a0q,a0c]using h
 have key:(Op.equal t u .nilIface).run P w=.ok (!b) w:=by show (Op.equalIn (9999+1) t u .nilIface).run P w=.ok (!b) w;generalize 9999=d;rcases hu with⟨rfl,rfl⟩|⟨s,rfl,rfl⟩<;>simp[Op.equalIn,a06 hc]
 have hg:(eqGuard op t x (.const .nilIface) u .nilIface).run P w=.ok () w:=by rcases hu with⟨rfl,rfl⟩|⟨s,rfl,rfl⟩<;>rcases hop with rfl|rfl<;>simp[eqGuard]
 rcases hop with rfl|rfl
 ·simp only[a1q,hg,a14];rcases hu with⟨rfl,rfl⟩|⟨s,rfl,rfl⟩<;>simp[binOp,key]<;>rfl
 ·simp only[a1q,hg,a14];rcases hu with⟨rfl,rfl⟩|⟨s,rfl,rfl⟩<;>simp[binOp,key]<;>rfl
theorem br2(hB:TabOk P B)(op:BinOp)(t:TypeId)(x y:Operand)(z zi:Bool)(ax ay:V)(u v:Value)(hz:z=true->v=.slice none 0 0)(hzi:zi=true->y=.const .nilIface/\v=.nilIface)(h:ao β M Im w ax u)(h':ao β M Im w ay v)(hv:ab (bcf B t op z zi ax ay).1) :
  ∃r,(do eqGuard op t x y u v;binOp op t u v:Sem Value).run P w=.ok r w/\ao β M Im w (bcf B t op z zi ax ay).2 r:=by
 unfold bcf at hv⊢;split at hv
 ·have hk:=km hv;simp only[hk,a0d]at hv⊢;simp only[br,bz,a0o,a0b]at hk;rw[←hB.τ t hk.1]at hk;rw[cf]at h;rw[hz rfl];exact⟨_,bt6 (.inl rfl) hk.1 hk.2 h hv.1,by simp only[cf,aq];rfl⟩
 ·have hk:=km hv;simp only[hk,a0d]at hv⊢;simp only[br,bz,a0o,a0b]at hk;rw[←hB.τ t hk.1]at hk;rw[cf]at h;rw[hz rfl];exact⟨_,bt6 (.inr rfl) hk.1 hk.2 h hv.1,by simp only[cf,aq];rfl⟩
 ·have hk:=km hv;simp only[hk,a0d]at hv⊢;simp only[br,bz,a0o,a0b]at hk;obtain⟨k1,k2,k3⟩:=hk;have e:=hB.τ t k2;rw[←e]at k2 k3;rw[cf]at h;obtain⟨rfl,rfl⟩:=hzi k1;exact⟨_,boi (.inl rfl) k2 k3 h,by simp only[du,cf,aq];rfl⟩
 ·have hk:=km hv;simp only[hk,a0d]at hv⊢;simp only[br,bz,a0o,a0b]at hk;obtain⟨k1,k2,k3⟩:=hk;have e:=hB.τ t k2;rw[←e]at k2 k3;rw[cf]at h;obtain⟨rfl,rfl⟩:=hzi k1;exact⟨_,boi (.inr rfl) k2 k3 h,by simp only[du,cf,aq];rfl⟩
 ·exact btr hB op t x y ax ay u v h h' hv
theorem bzj(op:UnOp)(x:V)(u:Value)(h:ao β M Im w x u)(hv:ab (bp6 op x).1):∃r,(Op.unary op u).run P w=.ok r w/\ao β M Im w (bp6 op x).2 r:=by
 unfold bp6 at hv⊢;split at hv
 ·simp only[cf,jy]at h;subst h;exact⟨_,by simp[Op.unary];rfl,by simp only[du,cf,jy]⟩
 ·simp only[cf,fx]at h;obtain⟨rfl,_⟩:=h;exact⟨_,by simp[Op.unary,Op.intArith];rfl,by simpa using az7 _ _ hv⟩
 ·exact hv.1.elim
theorem bri(hB:TabOk P B)(s d:TypeId)(x:V)(u:Value)(h:ao β M Im w x u)(hv:ab (bb4 (B.τ s) (B.τ d) x).1):∃r,(convert s d u).run P w=.ok r w/\ao β M Im w (bb4 (B.τ s) (B.τ d) x).2 r:=by
 unfold bb4 at hv⊢;split at hv
 ·rename_i k n k1 k' h1 h2;have hk:=km hv;simp only[hk,a0d]at hv⊢;simp only[br,bz,a0o,a0b]at hk;obtain⟨o1,o2,o3⟩:=hk;rw[←hB.τ s o1]at h1 o1;rw[←hB.τ d o2]at h2 o2;obtain rfl:=ac1 o3;obtain⟨i,c,hi,hc⟩:=gu o1;obtain⟨i',c',hi',hc'⟩:=gu o2;rw[ke hi hc]at h1;rw[ke hi' hc']at h2;simp only[rk]at h1 h2;cases c<;>simp at h1;cases c'<;>simp at h2;subst h1;subst h2;simp only[cf,fx]at h;obtain⟨rfl,hk⟩:=h;rename_i kd;refine⟨.int kd (kd.wrap n),by simp[convert,a06 hc,a06 hc',Conv.intToInt],?_⟩
  cases hkk:afm _ kd with
  |true=>obtain rfl:=ac1 hkk;simp only[a0d,du,cf,fx];exact⟨by rw[apy hk],hk⟩
  |false=>simp only[a0j,du,cf,fx,a0f];exact ahe _ _
 ·exact hv.1.elim
theorem btb:(x:V)->(vs:List Value)->(i:Nat)->(y:V)->da β M Im w x vs->nth x i=some y->∃u,vs[i]? = some u/\ao β M Im w y u
 |.p a b,vs,0,y,r,h=>by simp only[da]at r;simp only[nth,a0e]at h;subst h;obtain⟨u,us,rfl,h1,_⟩:=r;exact⟨u,rfl,h1⟩
 |.p a b,vs,i+1,y,r,h=>by simp only[da]at r;simp only[nth]at h;obtain⟨u,us,rfl,_,h2⟩:=r;obtain⟨v,h3,h4⟩:=btb b us i y h2 h;exact⟨v,by simpa using h3,h4⟩
 |.any,_,_,_,_,h|.nl,_,_,_,_,h|.np,_,_,_,_,h|.u,_,_,_,_,h|.d _ _,_,_,_,_,h|.ref _ _,_,_,_,_,h|.ad _ _,_,_,_,_,h|.ag _,_,_,_,_,h|.tup _,_,_,_,_,h|.gd _ _ _ _,_,_,_,_,h|.fn _ _,_,_,_,_,h|.ifc _ _,_,_,_,_,h|.bx _,_,_,_,_,h=>by simp[nth]at h
theorem buo(x:V)(i:Nat)(u:Value)(h:ao β M Im w x u)(hv:ab (awg x i).1):∃r,(Instr.extract u i).run P w=.ok r w/\ao β M Im w (awg x i).2 r:=by
 unfold awg at hv⊢;split at hv
 ·rename_i v;split at hv
  ·rename_i y hy;simp only[ao]at h;obtain⟨vs,rfl,hl⟩:=h;obtain⟨u,hu1,hu2⟩:=btb v vs i y hl hy;exact⟨u,by simp[Instr.extract,hu1],by simp only[hy,du];exact hu2⟩
  ·exact hv.1.elim
 ·exact hv.1.elim
theorem bwt(x:V)(u:Value)(h:ao p.β M (Imm F p M w) w x u)(hv:ab (bhn x).1):(∃a,u=.pointer (some a))/\ao p.β M (Imm F p M w) w (bhn x).2 u:=by
 unfold bhn at hv⊢;split at hv
 ·refine⟨?_,h⟩;simp only[cf,aq,a0q,a0c]at h;obtain⟨b,o,us,rfl,_⟩:=h;exact⟨_,rfl⟩
 ·refine⟨?_,h⟩;simp only[ao,ak,a0q,a0c,exists_eq_left']at h;obtain⟨_,_,_,_,_,_,_,_,_,rfl⟩:=h;exact⟨_,rfl⟩
 ·refine⟨?_,h⟩;simp only[ao,ak,a0q,a0c]at h;obtain⟨b,o,us,rfl,_⟩:=h;exact⟨_,rfl⟩
 ·exact hv.1.elim
theorem bmk{t:TypeId}{i off:Nat}{ft:TypeId}{fsz:Nat}(b o:Nat)(hok:(ty P t).ok=true)(hf:(ty P t).fld[i]? = some (off,ft,fsz))(hz:fsz≠0) :
  (Instr.fieldAt t (.pointer (some ⟨b,o,none⟩)) i).run P w=.ok (.pointer (some ⟨b,o+off,none⟩)) w:=by
 obtain⟨inf,u,hi,hu⟩:=gu hok;rw[ke hi hu]at hf;simp only[rk]at hf;cases u<;>simp at hf
 case struct fs=>
  obtain⟨f,hf,rfl,rfl,rfl⟩:=hf
  have hc:∃inf',P.info? f.type=some inf'/\inf'.size≠0:=by
   unfold Program.cellsOf at hz
   cases h:P.info? f.type with
   |none=>simp[h]at hz
   |some inf'=>exact⟨inf',rfl,by simpa[h]using hz⟩
  obtain⟨inf',h1,h2⟩:=hc;have hadd:(⟨b,o,none⟩:Addr).add f.offset=⟨b,o+f.offset,none⟩:=by unfold Addr.add;split<;>simp_all
  simp[Instr.fieldAt,a06 hu,hf,Instr.sureAddr,fieldPlace,sizeOf,typeInfo,h1,h2,hadd]
theorem bos(hp:Hp F p M w)(x:V)(π:cr)(off:Nat)(u:Value)(h:ao p.β M (Imm F p M w) w x u)(hv:ab (akc M x π off).1) :
  ∃b o,u=.pointer (some ⟨b,o,none⟩)/\ao p.β M (Imm F p M w) w (akc M x π off).2 (.pointer (some ⟨b,o+off,none⟩)):=by
 unfold akc at hv⊢;split at hv
 ·rename_i t y;split at hv
  ·rename_i n q hn hq;have hk:=km hv;simp only[hk,a0d]at hv⊢;simp only[iz,a0r]at hk;subst hk;simp only[cf,aq,a0q,a0c]at h;obtain⟨b,o,us,rfl,h1,h2,h3⟩:=h;obtain⟨va,us',vb,rfl,k2,k3⟩:=bfa π t y n q us hn hq h3;refine⟨b,o,rfl,?_⟩;simp only[hn,hq,iz,a38,a0d,du,cf,aq];exact⟨b,o+n,us',rfl,h1,by rw[←k2];exact h2.sub,k3⟩
  ·exact hv.1.elim
 ·rename_i k ρ;split at hv
  ·rename_i q hq;split at hv
   ·rename_i n hn;have hk:=km hv;simp only[hk,a0d]at hv⊢;simp only[iz,a0r]at hk;subst hk;simp only[ao,ak,a0q,a0c,exists_eq_left']at h;obtain⟨b,o,rfl,h1⟩:=h.sub hp hq hn;refine⟨b,o,rfl,?_⟩;simp only[hq,hn,iz,a38,a0d,du,ao,ak];exact⟨_,rfl,h1⟩
   ·exact hv.1.elim
  ·exact hv.1.elim
 ·rename_i v;split at hv
  ·rename_i q hq;obtain⟨n,v'⟩:=q;have hk:=km hv;simp only[hk,a0d]at hv⊢;simp only[iz,a0r]at hk;subst hk;simp only[ao,ak,a0q,a0c]at h;obtain⟨b,o,us,rfl,h1,h2,h3⟩:=h;obtain⟨va,us',vb,rfl,k2,k3⟩:=awn hp π v us n v' h3 hq;refine⟨b,o,rfl,?_⟩;simp only[hq,iz,a38,a0d,du,ao,ak,a0q,a0c];exact⟨b,o+n,us',rfl,h1,by rw[←k2];exact h2.sub,k3⟩
  ·exact hv.1.elim
 ·exact hv.1.elim
theorem bsx(hB:TabOk P B)(hp:Hp F p M w){t:TypeId}{i:Nat}(x:V)(u:Value)(h:ao p.β M (Imm F p M w) w x u)(hv:ab (aen (B.τ t) M x i).1) :
  ∃r,(Instr.fieldAt t u i).run P w=.ok r w/\ao p.β M (Imm F p M w) w (aen (B.τ t) M x i).2 r:=by
 unfold aen at hv⊢;split at hv
 ·rename_i off ft fsz hf;have hk:=km hv;simp only[hk,a0d]at hv⊢;simp only[br,bz,a0o,a0b]at hk;obtain⟨b,o,rfl,h1⟩:=bos hp x _ off u h hv;have e:=hB.τ t hk.1;refine⟨_,bmk (t:=t) (i:=i) (off:=off) (ft:=ft) (fsz:=fsz) b o (by rw[e];exact hk.1) (by rw[e,←afp];exact hf) ?_,?_⟩
  ·rintro rfl;simp at hk
  ·simpa only [hf,br,bz,a0o,hk.1,hk.2,a2n,a0d]using h1
 ·exact hv.1.elim
theorem bvm(hB:TabOk P B)(hp:Hp F p M w){t:TypeId}{i:Nat}(x:V)(u:Value)(h:ao p.β M (Imm F p M w) w x u)(hv:ab (aix B (B.τ t) M x i).1) :
  ∃r,(Instr.field t u i).run P w=.ok r w/\ao p.β M (Imm F p M w) w (aix B (B.τ t) M x i).2 r:=by
 unfold aix at hv⊢;split at hv
 ·rename_i off ft fsz v hf;split at hv
  ·rename_i n y hs;have hk:=km hv;simp only[hk,a0d]at hv⊢;simp only[br,bz,a0o,a0b,lq,iz,a0r,a09]at hk;obtain⟨o1,o2,rfl,o4,o5⟩:=hk;simp only[ao]at h;obtain⟨vs,rfl,hr⟩:=h;obtain⟨va,us,vb,rfl,k2,k3⟩:=awn hp _ v vs n y hr hs;have hlen:=zc hp y us _ k3 (o7 o4);have e:=hB.τ t o1;have e':=hB.τ ft o2;rw[←e,afp]at hf;rw[←e]at o1;obtain⟨inf,d,hi,hu⟩:=gu o1;rw[ke hi hu]at hf;simp only[rk]at hf;cases d<;>simp at hf
   case struct fs=>
    obtain⟨f,hf,rfl,rfl,rfl⟩:=hf;rw[←e']at o2 o5 hlen⊢;obtain⟨inf',d',hi',hu'⟩:=gu o2;have hx:((va++us++vb).drop f.offset).take us.length=us:=by rw[a01,←k2,List.drop_left,a4n]
    refine⟨val (ty P f.type).agg us,?_,?_⟩
    ·cases ha:(ty P f.type).agg with
     |true=>simp only[val,a0d];rw[ke hi' hu']at ha hlen;simp only[rk]at ha hlen;rw[hlen]at hx;cases d'<;>simp at ha<;>simp[Instr.field,a06 hu,hf,asAgg,part,isAgg,a06 hu',sizeOf,typeInfo,hi',List.extract_eq_take_drop]<;>simpa using hx
     |false=>
      simp only[val,a0j];rw[ha]at o5
      have h1:us.length=1:=by
       rw[hlen];rcases o5 with h|h
       ·cases h
       ·exact h
      obtain⟨u0,rfl⟩:=a5c.1 h1;rw[ke hi' hu']at ha;simp only[rk]at ha;have hget:(va++[u0]++vb)[f.offset]? = some u0:=by rw[a01,←k2,a1s (a0k _)];simp
      have hget':(va++u0::vb)[f.offset]? = some u0:=by simpa using hget
      cases d'<;>simp at ha<;>simp[Instr.field,a06 hu,hf,asAgg,part,isAgg,a06 hu',hget']
    ·exact awh k3 (fun ha=>by
      rw[hlen];rcases o5 with h|h
      ·rw[ha]at h;cases h
      ·exact h)
  ·exact hv.1.elim
 ·exact hv.1.elim
theorem axg{t e:TypeId}(k:IntKind)(n:Int)(a:Addr)(len cap:Nat)(hok:(ty P t).ok=true)(he:(ty P t).el=some e)(heok:(ty P e).ok=true)(ha:a.spot=none)(h0:0<=n)(h1:n<len) :
  (Instr.indexAt t (.slice (some a) len cap) (.int k n)).run P w=.ok (.pointer (some ⟨a.block,a.off+n.toNat*(ty P e).size,none⟩)) w:=by
 obtain⟨inf,u,hi,hu⟩:=gu hok;obtain⟨inf',u',hi',hu'⟩:=gu heok;rw[ke hi hu]at he;rw[ke hi' hu'];simp only[rk]at he⊢;cases u<;>simp at he;subst he;have hadd:a.add (n.toNat*inf'.size)=⟨a.block,a.off+n.toNat*inf'.size,none⟩:=by obtain⟨b,o,s⟩:=a;simp only at ha;subst ha;unfold Addr.add;split<;>simp_all
 simp[Instr.indexAt,asIntOf,a06 hu,h0,h1,sizeOf,typeInfo,hi',hadd]
theorem ixb{n:Int}{m:Nat}(h0:0<=n)(h1:n<m):n.toNat<m:=by omega
theorem br9{t:T}{l:List t.den}{u:Value}{te e:TypeId}(k:IntKind)(n:Int)(h:aq Im w (.sl t) l [u])(h0:0<=n)(h1:n<l.length)(hok:(ty P te).ok=true)(he:(ty P te).el=some e)(heok:(ty P e).ok=true)(hs:t.size=(ty P e).size) :
  ∃r,(Instr.indexAt te u (.int k n)).run P w=.ok r w/\aq Im w (.pt t) (l.getD n.toNat t.dflt) [r]:=by
 simp only[aq,a0q,a0c]at h;obtain⟨oa,cap,rfl,h3,h4,h5⟩:=h
 cases oa with
 |none=>have:=(h4 rfl).1;omega
 |some a=>
  obtain⟨s1,s2,s3⟩:=h5 a rfl (by omega);have hi:n.toNat<l.length:=by omega
  have hx:l[n.toNat]? = some (l.getD n.toNat t.dflt):=by rw[a0l,a0p hi];rfl
  obtain⟨us,u1,u2⟩:=s3 n.toNat _ hx;refine⟨_,axg k n a l.length cap hok he heok s1 h0 h1,?_⟩;simp only[aq];exact⟨_,_,us,rfl,s2,by rw[←hs];exact u1,u2⟩
theorem bw3(hB:TabOk P B)(hp:Hp F p M w){t:TypeId}(x i:V)(u v:Value)(h:ao p.β M (Imm F p M w) w x u)(h':ao p.β M (Imm F p M w) w i v)(hv:ab (aiy B (B.τ t) M x i).1) :
  ∃r,(Instr.indexAt t u v).run P w=.ok r w/\ao p.β M (Imm F p M w) w (aiy B (B.τ t) M x i).2 r:=by
 unfold aiy at hv⊢;split at hv
 ·rename_i e ki n he;simp only[cf,fx]at h';obtain⟨rfl,_⟩:=h';split at hv
  ·rename_i te l;have hk:=km hv;simp only[he,hk,a0d,d7,fh,a0c]at hv⊢;simp only[br,bz,a0o,a0b,iz,a0r]at hk;rw[←hB.τ t hk.1]at he;obtain⟨r,h1,h2⟩:=br9 (P:=P) (te:=t) ki n (cf.1 h) hv.1 hv.2 (by rw[hB.τ t hk.1];exact hk.1) he (by rw[hB.τ e hk.2.1];exact hk.2.1) (by rw[hB.τ e hk.2.1];exact hk.2.2);exact⟨r,h1,cf.2 h2⟩
  ·rename_i k π;simp only[ao,ak]at h;split at hv
   ·rename_i o l hg;have hk:=km hv;simp only[he,hg,hk,a0d,d7,fh,a0c]at hv⊢;simp only[br,bz,a0o,a0b,iz,a0r]at hk;rw[←hB.τ t hk.1]at he;obtain⟨ob,g1,g2⟩:=uk hg;obtain⟨S,hr⟩:=h.look hp hg;obtain⟨ob',pl,k1,k2,k3,k4⟩:=h;rw[g1]at k1;cases k1;simp only[Rel,a0q,a0c]at hr;obtain⟨v',ety,xs,T,rfl,r2,r3,_⟩:=hr;rcases ach r2 with⟨hn,_⟩|⟨g,off0,cap,cur,rfl,_⟩
    ·have:=ixb hv.1 hv.2;omega
    ·refine⟨_,axg ki n ⟨g,off0,none⟩ l.length (cap+1) (by rw[hB.τ t hk.1];exact hk.1) he (by rw[hB.τ e hk.2.1];exact hk.2.1) rfl hv.1 hv.2,?_⟩;have hi:n.toNat<l.length:=ixb hv.1 hv.2;simp only[ao,ak];refine⟨_,rfl,ob,cellsOf w g (off0+n.toNat*o.size) o.size,g,off0+n.toNat*(ty P e).size,g1,aei π [.ix n.toNat] _ _ _ g2 k2 (by simp only[gok,a0c];exact hi),⟨⟨o,l.getD n.toNat o.dflt⟩,by rw[acq,g2];simp only[get]⟩,anc _ _ (by simp[dp]),?_,rfl⟩;rw[aek w π [.ix n.toNat] ob.o ob.x _ _ _ g2,k4];simp only[res];rw[show (ty P e).size=o.size by rw[hB.τ e hk.2.1];exact hk.2.2.symm]
   ·rename_i te l hg;have hk:=km hv;simp only[he,hg,hk,a0d,d7,fh,a0c]at hv⊢;simp only[br,bz,a0o,a0b,iz,a0r]at hk;rw[←hB.τ t hk.1]at he;obtain⟨S,hr⟩:=h.look hp hg;simp only[Rel]at hr;obtain⟨r,h1,h2⟩:=br9 (P:=P) (te:=t) ki n hr hv.1 hv.2 (by rw[hB.τ t hk.1];exact hk.1) he (by rw[hB.τ e hk.2.1];exact hk.2.1) (by rw[hB.τ e hk.2.1];exact hk.2.2);exact⟨r,h1,cf.2 h2⟩
   ·exact hv.1.elim
  ·exact hv.1.elim
 ·exact hv.1.elim
theorem bjw{t e:TypeId}{len:Nat}(k:IntKind)(n:Int)(b o:Nat)(hok:(ty P t).ok=true)(he:(ty P t).arr=some (e,len))(heok:(ty P e).ok=true)(h0:0<=n)(h1:n<len) :
  (Instr.indexAt t (.pointer (some ⟨b,o,none⟩)) (.int k n)).run P w=.ok (.pointer (some ⟨b,o+n.toNat*(ty P e).size,none⟩)) w:=by
 obtain⟨inf,u,hi,hu⟩:=gu hok;obtain⟨inf',u',hi',hu'⟩:=gu heok;rw[ke hi hu]at he;rw[ke hi' hu'];simp only[rk]at he⊢;cases u<;>simp at he;obtain⟨rfl,rfl⟩:=he;have hadd:(⟨b,o,none⟩:Addr).add (n.toNat*inf'.size)=⟨b,o+n.toNat*inf'.size,none⟩:=by unfold Addr.add;split<;>simp_all
 simp[Instr.indexAt,asIntOf,a06 hu,Instr.sureAddr,sizeOf,typeInfo,hi',h0,h1,hadd]
theorem bu8(hB:TabOk P B)(hp:Hp F p M w){t:TypeId}(x i:V)(u v:Value)(h:ao p.β M (Imm F p M w) w x u)(h':ao p.β M (Imm F p M w) w i v)(hv:ab (ait B (B.τ t) M x i).1) :
  ∃r,(Instr.indexAt t u v).run P w=.ok r w/\ao p.β M (Imm F p M w) w (ait B (B.τ t) M x i).2 r:=by
 unfold ait at hv⊢
 cases ha:(B.τ t).arr with
 |none=>simp only[ha]at hv⊢;exact bw3 hB hp x i u v h h' hv
 |some q=>
  obtain⟨e,n⟩:=q;simp only[ha]at hv⊢;unfold bhq at hv⊢;split at hv
  ·rename_i k m;simp only[cf,fx]at h';obtain⟨rfl,_⟩:=h'
   cases hk:cd [(B.τ t).ok,(B.τ e).ok]with
   |false=>rw[hk]at hv;exact hv.1.elim
   |true=>simp only[hk,a0d]at hv⊢;simp only[br,bz,a0o,a0b]at hk;simp only[d7]at hv;obtain⟨b,o,rfl,hr⟩:=bos hp x _ _ u h hv.2.2;have e1:=hB.τ t hk.1;have e2:=hB.τ e hk.2;refine⟨_,bjw k m b o (by rw[e1];exact hk.1) (by rw[e1];exact ha) (by rw[e2];exact hk.2) hv.1 hv.2.1,?_⟩;rw[e2];exact hr
  ·exact hv.1.elim
theorem bzh(hB:TabOk P B)(t:TypeId)(x i:V)(u v:Value)(h:ao β M Im w x u)(h':ao β M Im w i v)(hv:ab (bo3 (B.τ t) x i).1):∃r,(Instr.index t u v).run P w=.ok r w/\ao β M Im w (bo3 (B.τ t) x i).2 r:=by
 unfold bo3 at hv⊢;split at hv
 ·rename_i s k n;simp only[cf,am0]at h;simp only[cf,fx]at h';obtain⟨rfl,_⟩:=h;obtain⟨rfl,_⟩:=h';have hk:=km hv;simp only[hk,a0d,d7,fh,a0c]at hv⊢;simp only[br,bz,a0o,a0b]at hk;obtain⟨h3,h4⟩:=hv;rw[←hB.τ t hk.1]at hk;obtain⟨inf,c,hi,hc⟩:=gu hk.1;rw[ke hi hc]at hk;have h2:=hk.2;simp only[rk]at h2;cases c<;>simp at h2;have hlt:n.toNat<s.size:=ixb h3 h4;have hb:(s.data.toList.getD n.toNat 0)=s[n.toNat]:=by rw[a0l,a0p (by simpa using hlt)];rfl
  refine⟨.int .u8 (s[n.toNat]).toNat,?_,?_⟩
  ·simp[Instr.index,asIntOf,a06 hc,h3,hlt,getElem?_pos]
  ·simp only[cf,fx];rw[hb];refine⟨rfl,?_⟩;have:=(s[n.toNat]).toNat_lt;exact (bla (s[n.toNat]).toNat).2 ⟨by omega,by omega⟩
 ·exact hv.1.elim
theorem aa9{t ty':TypeId}(a:Option Addr)(n cap:Nat)(h1:(ty P t).ok=true)(h2:(ty P t).el≠none):(Builtin.len_ #[t] ty' #[.slice a n cap]).run P w=.ok (.int .i64 n) w:=by obtain⟨inf,c,hi,hc⟩:=gu h1;rw[ke hi hc]at h2;simp only[rk]at h2;cases c<;>simp at h2;simp[Builtin.len_,a06 hc,goInt]
theorem avg{α:Type}{o:Option α}(h:neg (isN o)=true):o≠none:=by
 cases o with
 |none=>simp[isN]at h
 |some _=>simp
theorem cb2{o:O}{l:List o.strip.den}{S:Nat->Prop}{vs:List Value}(r:Rel Im w (.sl o) l S vs):∃a cap,vs=[.slice a l.length cap]/\l.length<=nb:=by
 simp only[Rel]at r;obtain⟨v,ety,xs,T,rfl,h1,h2,_⟩:=r;rcases ach h1 with⟨hn,oa,rfl⟩|⟨g,off0,cap,cur,rfl,_⟩
 ·exact⟨oa,0,by rw[hn],h2⟩
 ·exact⟨_,cap+1,rfl,h2⟩
theorem bnk{t ty':TypeId}{r:Nat}{es:Array MapEntry}{n:Nat}(hok:(ty P t).ok=true)(hm:neg (isN (ty P t).mp)=true)(hb:w.heap[r]? = some (.map es n)) :
  (Builtin.len_ #[t] ty' #[.map (some r)]).run P w=.ok (.int .i64 es.size) w:=by
 obtain⟨inf,c,hi,hc⟩:=gu hok;rw[ke hi hc]at hm;simp only[rk]at hm;cases c<;>simp only[isN,qu,a3n,a1g]at hm;simp[Builtin.len_,a06 hc,goInt,MapKept.run_getObj_map hb]
theorem bjk{k v:T}{es:Array MapEntry}{l:List (k.den×v.den)}(h:bvo k v es l):es.size=l.length:=by have:=congrArg List.length h;simpa using this
theorem btd{M:Mem}{x:V}{l:List Int}(h:aze M x=some l):∃k π,x=.ref k π/\qh M k π=some ⟨.sl (.fz (.int .u8)),l⟩:=by
 unfold aze at h;split at h
 ·split at h
  ·rename_i hg;cases h;exact⟨_,_,rfl,hg⟩
  ·cases h
 ·cases h
theorem bo0(hB:TabOk P B)(hp:Hp F p M w)(s d:TypeId)(x:V)(u:Value)(h:ao p.β M (Imm F p M w) w x u)(hv:ab (abj B s d M x).1):∃r,(convert s d u).run P w=.ok r w/\ao p.β M (Imm F p M w) w (abj B s d M x).2 r:=by
 unfold abj at hv⊢;split at hv
 ·rename_i e l he hl;have hk:=km hv;simp only[he,hl,hk,a0d]at hv⊢;simp only[br,bz,a0o,a0b]at hk;obtain⟨k1,k2,k3,k4,k5⟩:=hk;have e1:=hB.τ s k1;have e2:=hB.τ d k2;have e3:=hB.τ e k4;rw[←e1]at k1 he;rw[←e2]at k2 k3;rw[←e3]at k4 k5;obtain⟨i1,c1,hi1,hc1⟩:=gu k1;obtain⟨i2,c2,hi2,hc2⟩:=gu k2;obtain⟨i3,c3,hi3,hc3⟩:=gu k4;rw[ke hi1 hc1]at he;rw[ke hi2 hc2]at k3;rw[ke hi3 hc3]at k5;simp only[rk]at he k3 k5;cases c1<;>simp at he;subst he;cases c2<;>simp at k3;have hu8:c3=.int .u8:=by cases c3<;>simp only[bvd,a1g]at k5;rename_i kk;cases kk<;>simp only[bvd,a1g]at k5;rfl
  subst hu8;obtain⟨k,π,rfl,hg⟩:=btd hl;simp only[ao,ak]at h;obtain⟨S,hr⟩:=h.look hp hg;simp only[Rel]at hr;obtain⟨v,ety,xs,T,hv1,hown,hnb,_,_,_,hel⟩:=hr;simp only[a0q,a0c]at hv1;subst hv1;have hsz:(ba0 l).size<=nb:=by simp only[ba0,ByteArray.size];simpa using hnb
  refine⟨.string (ba0 l),?_,by simp only[du,cf,am0,a0f];exact hsz⟩;obtain⟨hxl,ho⟩:=hown;rcases ho with⟨hn,oa,rfl⟩|⟨g,off,c,cur,rfl,hb,hc1',hc2',hcs,htk⟩
  ·have:l=[]:=a18 hn;subst this
   cases oa with
   |none=>exact run_convert_bytes_nil (P:=P) w s _ hc1 hc3 0 0 d hc2
   |some a=>rw[run_convert_bytes_string w s d _ _ 0 0 hc1 hc3 hc2,run_bytesToString w a 0 0 [] (by simp[loadCells,loadCellsFrom])];rfl
  ·refine run_convert_bytes_arg (P:=P) w s _ hc1 hc3 g off l.length (c+1) l rfl (fun i hi=>?_) d hc2;have h1:=hel i _ (a0p hi);have hs1:(O.fz (.int .u8)).size=1:=rfl;simp only[Rel,aq,hs1,Nat.mul_one]at h1;rw[hs1,Nat.mul_one]at htk;have h2:xs[i]? = some (.int .u8 l[i]):=by have:=congrArg (fun z:List Value=>z[0]?) h1.1;simpa using this
   have h3:cur.toList[off+i]? = some (.int .u8 l[i]):=by rw[←htk,a1d,a0a hi,a1l]at h2;exact h2
   simp only[World.cell?,hb];simp only[a5d]at h3;simp[h3,List.getD,a0p hi]
 ·exact bri hB s d x u h hv
theorem bv8(hB:TabOk P B){t ty':TypeId}(hp:Hp F p M w)(x:V)(u:Value)(h:ao p.β M (Imm F p M w) w x u)(hv:ab (arq (B.τ t) M x).1) :
  ∃r,(Builtin.len_ #[t] ty' #[u]).run P w=.ok r w/\ao p.β M (Imm F p M w) w (arq (B.τ t) M x).2 r:=by
 unfold arq at hv⊢;split at hv
 ·rename_i s;have hk:=km hv;simp only[hk,a0d]at hv⊢;simp only[br,bz,a0o,a0b]at hk;rw[←hB.τ t hk.1]at hk;obtain⟨inf,c,hi,hc⟩:=gu hk.1;rw[ke hi hc]at hk;have h2:=hk.2;simp only[rk]at h2;cases c<;>simp at h2;simp only[cf,am0]at h;obtain⟨rfl,hs⟩:=h;exact⟨.int .i64 s.size,by simp[Builtin.len_,a06 hc,goInt],by simp only[du,cf,fx,a0f];exact ajx hs⟩
 ·rename_i t' l;have hk:=km hv;simp only[hk,a0d]at hv⊢;simp only[br,bz,a0o,a0b]at hk;rw[←hB.τ t hk.1]at hk;simp only[cf,aq,a0q,a0c]at h;obtain⟨oa,cap,rfl,⟨hn,_⟩,_⟩:=h;exact⟨.int .i64 l.length,aa9 _ _ _ hk.1 (avg hk.2),by simp only[du,cf,fx,a0f];exact ajx hn⟩
 ·rename_i k' v' l;have hk:=km hv;simp only[hk,a0d]at hv⊢;simp only[br,bz,a0o,a0b]at hk;rw[←hB.τ t hk.1]at hk;simp only[cf,aq,a0q,a0c]at h;obtain⟨oa,es,n,rfl,_,hb,⟨hn,_⟩,he⟩:=h;have:=bnk (ty':=ty') hk.1 hk.2 hb;rw[bjk he]at this;exact⟨.int .i64 l.length,this,by simp only[du,cf,fx,a0f];exact ajx hn⟩
 ·rename_i t' l;have hk:=km hv;simp only[hk,a0d]at hv⊢;simp only[br,bz,a0o,a0b]at hk;rw[←hB.τ t hk.1]at hk;simp only[cf]at h
  obtain⟨oa,cap,hu,hn⟩:∃oa cap,u=.slice oa (l.getD []).length cap/\(l.getD []).length<=nb:=by
   simp only[aq]at h;rcases h with⟨rfl,h⟩|⟨y,_,_,_,rfl,h,hr⟩
   ·simp only[a0q,a0c]at h;exact⟨none,0,h,a1j _⟩
   ·simp only[aq,a0q,a0c]at hr;obtain⟨oa,cap,rfl,⟨hn,_⟩,_⟩:=hr;exact⟨oa,cap,rfl,hn⟩
  subst hu;exact⟨.int .i64 (l.getD []).length,aa9 _ _ _ hk.1 (avg hk.2),by simp only[du,cf,fx,a0f];exact ajx hn⟩
 ·have hk:=km hv;simp only[hk,a0d]at hv⊢;simp only[br,bz,a0o,a0b]at hk;rw[←hB.τ t hk.1]at hk;simp only[ao,ak,a0q,a0c]at h;obtain⟨oa,rfl⟩:=h;exact⟨.int .i64 0,aa9 _ _ _ hk.1 (avg hk.2),by simp only[du,cf,fx,a0f];exact ajx (a1j _)⟩
 ·rename_i k π;simp only[ao,ak]at h;split at hv
  ·rename_i o l hg;have hk:=km hv;simp only[hg,hk,a0d]at hv⊢;simp only[br,bz,a0o,a0b]at hk;rw[←hB.τ t hk.1]at hk;obtain⟨S,hr⟩:=h.look hp hg;obtain⟨a,cap,h1,h2⟩:=cb2 hr;simp only[a0q,a0c]at h1;subst h1;exact⟨.int .i64 l.length,aa9 _ _ _ hk.1 (avg hk.2),by simp only[du,cf,fx,a0f];exact ajx h2⟩
  ·rename_i o l hg;have hk:=km hv;simp only[hg,hk,a0d]at hv⊢;simp only[br,bz,a0o,a0b]at hk;rw[←hB.τ t hk.1]at hk;obtain⟨S,hr⟩:=h.look hp hg;simp only[Rel,aq,a0q,a0c]at hr;obtain⟨oa,cap,rfl,⟨hn,_⟩,_⟩:=hr;exact⟨.int .i64 l.length,aa9 _ _ _ hk.1 (avg hk.2),by simp only[du,cf,fx,a0f];exact ajx hn⟩
  ·rename_i k' v' l hg;have hk:=km hv;simp only[hg,hk,a0d]at hv⊢;simp only[br,bz,a0o,a0b]at hk;rw[←hB.τ t hk.1]at hk;obtain⟨S,hr⟩:=h.look hp hg;simp only[Rel,a0q,a0c]at hr;obtain⟨oa,es,n,rfl,_,hb,⟨hn,_⟩,he⟩:=hr;have:=bnk (ty':=ty') hk.1 hk.2 hb;rw[bjk he]at this;exact⟨.int .i64 l.length,this,by simp only[du,cf,fx,a0f];exact ajx hn⟩
  ·exact hv.1.elim
 ·exact hv.1.elim
theorem apt{t:TypeId}{b o:Nat}{vs:List Value}(hok:(ty P t).ok=true)(hs:vs.length=(ty P t).size)(h1:(ty P t).agg=true\/(ty P t).size=1)(hc:pg w b o vs) :
  (loadVar t ⟨b,o,none⟩).run P w=.ok (val (ty P t).agg vs) w:=by
 obtain⟨i,u,hi,hu⟩:=gu hok;rw[ke hi hu]at hs h1⊢;simp only[rk]at hs h1⊢;have hr:(loadCells ⟨b,o,none⟩ vs.length).run P w=.ok vs.toArray w:=run_loadCells_list w ⟨b,o,none⟩ vs (fun j v hj=>by rw[a24];exact hc j v hj);rw[hs]at hr;have key:vs.length=1->∃v,vs=[v]/\w.cell? ⟨b,o,none⟩=some v:=fun h=>by obtain⟨v,rfl⟩:=a5c.1 h;exact⟨v,rfl,by simpa using hc 0 v rfl⟩
 cases u
 case struct fs=>simp[loadVar,isAgg,a06 hu,sizeOf,typeInfo,hi,hr,val]
 case array n e=>simp[loadVar,isAgg,a06 hu,sizeOf,typeInfo,hi,hr,val]
 all_goals
  simp at h1;obtain⟨v,rfl,hv⟩:=key (by rw[hs,h1]);simp[loadVar,isAgg,a06 hu,hv,val]
theorem bgo(hB:TabOk P B){t:TypeId}(hp:Hp F p M w)(x:V)(u:Value)(h:ao p.β M (Imm F p M w) w x u)(hv:ab (za (B.τ t) M x).1) :
  ∃r,(Instr.loadAt t u).run P w=.ok r w/\ao p.β M (Imm F p M w) w (za (B.τ t) M x).2 r:=by
 unfold za at hv⊢;split at hv
 ·rename_i te y;have hk:=km hv;simp only[hk,a0d]at hv⊢;simp only[br,bz,a0o,a0b,iz,a0r,lq,a09]at hk;have e:=hB.τ t hk.1;rw[←e]at hk⊢;simp only[cf,aq,a0q,a0c]at h;obtain⟨b,o,us,rfl,h1,h2,h3⟩:=h;have hl:=aq.len te y us h3;refine⟨val (ty P t).agg us,?_,awh (th te y us h3) (fun ha=>?_)⟩
  ·have:=apt (P:=P) hk.1 (by rw[hl,hk.2.1]) (by rw[←hk.2.1];exact hk.2.2) h2;simpa[Instr.loadAt,Instr.sureAddr]using this
  ·rw[hl];rcases hk.2.2 with h|h
   ·rw[ha]at h;cases h
   ·exact h
 ·rename_i k π;split at hv
  ·rename_i q hq;have hk:=km hv;simp only[hq,hk,a0d]at hv⊢;simp only[br,bz,a0o,a0b,iz,a0r,lq,a09]at hk;have e:=hB.τ t hk.1;rw[←e]at hk⊢;simp only[ao,ak,a0q,a0c,exists_eq_left']at h;obtain⟨S,us,b,off,cur,ty',rfl,h2,h3,h4,h5⟩:=h.look hp hq;have hl:=Rel.len _ _ _ _ h2;refine⟨val (ty P t).agg us,?_,awh (buj hp h5 hq) (fun ha=>?_)⟩
   ·have:=apt (P:=P) (b:=b) (o:=off) hk.1 (by rw[hl];exact hk.2.1) (by rw[←hk.2.1];exact hk.2.2) (fun j u hu=>by rw[a2f w b _ cur ty' (0,0) h3];exact h4 j u hu);simpa[Instr.loadAt,Instr.sureAddr]using this
   ·rw[hl];rcases hk.2.2 with h|h
    ·rw[ha]at h;cases h
    ·exact h
  ·exact hv.1.elim
 ·rename_i v;have hk:=km hv;simp only[hk,a0d]at hv⊢;simp only[br,bz,a0o,a0b,iz,a0r,lq,a09]at hk;have e:=hB.τ t hk.1;rw[←e]at hk⊢;simp only[ao,ak,a0q,a0c]at h;obtain⟨b,o,us,rfl,h1,h2,h3⟩:=h;have hl:=zc hp v us _ h3 (o7 hk.2.1);refine⟨val (ty P t).agg us,?_,awh h3 (fun ha=>?_)⟩
  ·have:=apt (P:=P) hk.1 hl hk.2.2 h2;simpa[Instr.loadAt,Instr.sureAddr]using this
  ·rw[hl];rcases hk.2.2 with h|h
   ·rw[ha]at h;cases h
   ·exact h
 ·exact hv.1.elim
end
end Go.Bm
/- The ff machine:operations that make memory. -/
namespace Go.Bm
open Go.RowKit
structure Qt (p:Ow) (M:Mem) (p':Ow) (M':Mem) (w w':World):Prop where
 ext:Ext w w'
 old:∀j ob,go M j=some ob->go M' j=some ob/\p'.β j=p.β j/\p'.σ j=p.σ j
section
variable {F:Fr} {p p' p'':Ow} {env:Env} {M M' M'':Mem} {a:Act} {w w' w'':World} {P:Program} {B:Tab}
def gx(F:Fr)(p:Ow)(M:Mem)(w:World)(qt:Bool)(r:Rs)(v:Value)(w':World):Prop:=∃p',Tr F p M w r.ev p' r.M w'/\(∀b,¬p'.L b)/\ao p'.β r.M (Imm F p' r.M w') w' r.av v/\(fresh M r.ev=true->qt=true->Qt p M p' r.M w w')
theorem gx.pure(h:Hp F p M w)(hL:∀b,¬p.L b){q:List Prop×V}{v:Value}(hv:ao p.β M (Imm F p M w) w q.2 v)(qt:Bool):gx F p M w qt (dh q M) v w:=⟨p,Tr.refl h,hL,hv,fun _ _=>⟨Ext.refl w,fun j ob hj=>⟨hj,rfl,rfl⟩⟩⟩
theorem bw0(a b:T):mkP ⟨a.deep,a.deep.dflt⟩ ⟨b.deep,b.deep.dflt⟩=⟨(T.p a b).deep,(T.p a b).deep.dflt⟩:=by simp only[T.deep];generalize a.deep=x;generalize b.deep=y;cases x<;>cases y<;>rfl
theorem blg(k:IntKind):inK k 0:=by cases k<;>simp[inK,IntKind.min,IntKind.max,IntKind.signed,IntKind.bits]
theorem afq{Im:Nat->Prop}{w:World}:(t:T)->(zs:List Value)->jk t zs=true->Rel Im w t.deep t.deep.dflt (fun _=>False) zs/\∀β M,ak β M Im w (wn t) zs
 |.p a b,zs,h=>by
  simp only[jk,be,a0b,am5,arb]at h;obtain⟨a1,a2⟩:=afq (Im:=Im) (w:=w) a _ h.1;obtain⟨b1,b2⟩:=afq (Im:=Im) (w:=w) b _ h.2;refine⟨?_,fun β M=>?_⟩
  ·have:=awi (a:=⟨a.deep,a.deep.dflt⟩) (b:=⟨b.deep,b.deep.dflt⟩) (S:=fun _=>False) (fun c hc=>hc) (fun c hc=>hc) (fun c hc=>hc.elim) a1 b1;rw[bw0,a1x]at this;exact this
  ·simp only[wn,ak];exact⟨_,_,(a1x a.size zs).symm,a2 β M,b2 β M⟩
 |.u,zs,h=>by
  cases zs with
  |nil=>exact⟨by simp only[T.deep,Rel,aq],fun β M=>by simp only[wn,ak]⟩
  |cons _ _=>simp[jk]at h
 |.int k,zs,h=>by
  have:zs=[.int k 0]:=by
   rcases zs with _|⟨v,_|⟨_,_⟩⟩
   ·simp[jk]at h
   ·cases v<;>try (simp[jk]at h)
    rename_i k' n;rcases n with (_|n)|n
    ·simp only[jk]at h;rw[ac1 h];rfl
    ·exact nomatch (show (false:Bool)=true from h)
    ·exact nomatch (show (false:Bool)=true from h)
   ·simp[jk]at h
  subst this;exact⟨by simp only[T.deep,Rel,aq,O.dflt,T.dflt];exact⟨trivial,blg _⟩,fun β M=>by simp only[wn,ak,aq,T.dflt];exact⟨trivial,blg _⟩⟩
 |.bool,zs,h=>by
  have:zs=[.bool false]:=by
   rcases zs with _|⟨v,_|⟨_,_⟩⟩
   ·simp[jk]at h
   ·cases v<;>try (simp[jk]at h)
    rw[h]
   ·simp[jk]at h
  subst this;exact⟨by simp only[T.deep,Rel,aq,O.dflt,T.dflt],fun β M=>by simp only[wn,ak,aq,T.dflt]⟩
 |.str,zs,h=>by
  have:∃s:ByteArray,zs=[.string s]/\s=ByteArray.empty:=by
   rcases zs with _|⟨v,_|⟨_,_⟩⟩
   ·simp[jk]at h
   ·cases v<;>try (simp[jk]at h)
    exact⟨_,rfl,by simpa using h⟩
   ·simp[jk]at h
  obtain⟨s,rfl,rfl⟩:=this;exact⟨by simp only[T.deep,Rel,aq,O.dflt,T.dflt];exact⟨trivial,a1j _⟩,fun β M=>by simp only[wn,ak,aq,T.dflt];exact⟨trivial,a1j _⟩⟩
 |.sl e,zs,h=>by
  have:zs=[.slice none 0 0]:=by
   rcases zs with _|⟨v,_|⟨_,_⟩⟩
   ·simp[jk]at h
   ·cases v<;>try (simp[jk]at h)
    rename_i a n c
    cases a with
    |some _=>simp[jk]at h
    |none=>rcases n with _|n<;>rcases c with _|c<;>first|rfl|(simp[jk]at h)
   ·simp[jk]at h
  subst this;exact⟨by simp only[T.deep,O.dflt];exact aqc e.deep none,fun β M=>by simp only[wn,ak];exact⟨none,rfl⟩⟩
 |.ns e,zs,h=>by
  have:zs=[.slice none 0 0]:=by
   rcases zs with _|⟨v,_|⟨_,_⟩⟩
   ·simp[jk]at h
   ·cases v<;>try (simp[jk]at h)
    rename_i a n c
    cases a with
    |some _=>simp[jk]at h
    |none=>rcases n with _|n<;>rcases c with _|c<;>first|rfl|(simp[jk]at h)
   ·simp[jk]at h
  subst this;exact⟨by simp only[T.deep,Rel,aq];exact .inl ⟨rfl,trivial⟩,fun β M=>by simp only[wn,ak,aq];exact .inl ⟨rfl,trivial⟩⟩
 |.er e,zs,h|.pt e,zs,h|.fn f e,zs,h=>by rcases zs with _|⟨v,_|⟨_,_⟩⟩<;>simp[jk]at h
 |.any,zs,h=>by
  have:∃v:Value,zs=[v]/\v.oneCell'=true:=by
   rcases zs with _|⟨v,_|⟨_,_⟩⟩
   ·simp[jk]at h
   ·exact⟨v,rfl,by simpa[jk]using h⟩
   ·simp[jk]at h
  obtain⟨v,rfl,hv⟩:=this;exact⟨by simp only[T.deep,Rel,aq];exact⟨v,rfl,hv⟩,fun β M=>by simp only[wn,ak,aq];exact⟨v,rfl,hv⟩⟩
theorem ain(p:Ow)(k:Nat)(v:Value)(r:Nat->Prop):(p.upd k v r).β k=v:=by simp[Ow.upd,Ow.updL]
theorem qd(k:Nat)(ob:Ob)(M:Mem):go ((k,ob)::M) k=some ob:=by rw[dn,a0a rfl]
theorem br6{k:Nat}{v:Value}{r:Nat->Prop}{ob:Ob}(hf:go M k=none)(he:Ext w w'):Qt p M (p.upd k v r) ((k,ob)::del k M) w w':=
 ⟨he,fun j o hj=>by
  have hne:j≠k:=by rintro rfl;rw[hf]at hj;cases hj
  exact⟨by rw[dn,ds (a0u hne),dx hne,hj],by simp[Ow.upd,Ow.updL,hne],by simp[Ow.upd,Ow.updL,hne]⟩⟩
theorem ax4{k:Nat}{e:List Ev}(h:fresh M (.kl k::e)=true):go M k=none/\fresh M e=true:=by
 simp only[fresh,be,a0b]at h;refine⟨?_,h.2⟩
 cases hg:go M k with
 |none=>rfl
 |some _=>rw[hg]at h;simp[isN]at h
theorem afr{x:Ev}{r:List Ev}(h:fresh M [x]=false):fresh M (x::r)=false:=by
 cases x with
 |kl j=>simp only[fresh,be,a0o]at h⊢;rw[h];rfl
 |mv _ _|cut _ _ _|fz _ _|un _ _|kn _ _|tk _ _ _=>rfl
theorem bgb{k:Nat}{x:Ev}(h:fresh (del k M) [x]=false):fresh M [x]=false:=by
 cases x with
 |kl j=>
  simp only[fresh,be,a0o]at h⊢;by_cases e:j=k
  ·subst e;rw[dy]at h;simp[isN]at h
  ·rw[dx e]at h;exact h
 |mv _ _|cut _ _ _|fz _ _|un _ _|kn _ _|tk _ _ _=>rfl
theorem bn8(h:Hp F p M w)(hL:∀b,¬p.L b)(k:Nat)(e:TypeId){e0:List Ev}{p1:Ow}{M1:Mem}{S:Nat->Prop}{q:Ob}{vs:List Value}{cs:Array Value}(hcs:cs.toList=vs)(hc:Cv F p (del k M) w k q e0 vs p1 M1 S)(hk1:go M1 k=none)
  (qt:Bool):gx F p M w qt ⟨[],.ad k [.de],.kl k::e0,(k,⟨.pt q.o,q.x⟩)::M1⟩ (.pointer (some ⟨w.heap.size,0,none⟩)) (w.alloc (.cells cs e)):=by
 have hext:Ext w (w.alloc (.cells cs e)):=Ext.of_grown (a4t w _ none) (a0k _);have hnew:(w.alloc (.cells cs e)).heap[w.heap.size]? = some (.cells cs e (0,0)):=a3e w _;have hcs':cs=vs.toArray:=by rw[←hcs]
 have hSsz:∀b,S b->b<w.heap.size:=fun b hb=>(hc.tr.hp.lim b ((hc.L b).2 (.inr hb))).1
 have ht1:Tr F p1 M1 w [] (p1.upd k (.pointer (some ⟨w.heap.size,0,none⟩)) (fun b=>b=w.heap.size\/S b)) ((k,⟨.pt q.o,q.x⟩)::M1) (w.alloc (.cells cs e)):=by
  refine Tr.new hc.tr.hp k hk1 _ _ _ (hext.toL _) (fun b hb=>?_) (fun hkp=>?_)
  ·rcases hb with rfl|hb
   ·exact .inl ⟨a0k _,(a0x.1 hnew).1⟩
   ·exact .inr ((hc.L b).2 (.inr hb))
  ·simp only[Rel];refine⟨w.heap.size,vs,e,S,rfl,.inl rfl,by rw[←hcs'];exact hnew,fun c hcS=>⟨.inr hcS,fun e'=>by have:=hSsz c hcS;omega⟩,?_⟩;exact Rel.keep hkp _ _ _ _ (fun b hb=>hext.old b (hSsz b hb)) hc.rel
 have htr:Tr F p M w (.kl k::e0) (p1.upd k (.pointer (some ⟨w.heap.size,0,none⟩)) (fun b=>b=w.heap.size\/S b)) ((k,⟨.pt q.o,q.x⟩)::M1) (w.alloc (.cells cs e)):=by
  have h1:=(Tr.kl h k).trans (hc.tr.trans ht1);have e1:ap [Ev.kl k] (ap e0 [])=.kl k::e0:=by rw[mj,mj];simp
  rw[e1]at h1;exact h1
 refine⟨_,htr,fun b hb=>hb,?_,fun hf _=>?_⟩
 ·simp only[ao,ak];refine⟨_,rfl,⟨.pt q.o,q.x⟩,cellsOf (w.alloc (.cells cs e)) w.heap.size 0 q.o.size,w.heap.size,0,qd _ _ _,by simp only[gok],⟨⟨q.o,q.x⟩,by simp only[get]⟩,rfl,?_,rfl⟩;rw[ain];simp only[res]
 ·obtain⟨hf1,hf2⟩:=ax4 hf;rcases hc.fr with⟨rfl,rfl,rfl⟩|⟨x,r,rfl,hx⟩
  ·exact br6 hf1 hext
  ·rw[afr (bgb hx)]at hf2;cases hf2
theorem bny(h:Hp F p M w)(k:Nat){e0:List Ev}{p1:Ow}{M1:Mem}{o:O}{l:List o.strip.den}{v:Value}{xs:List Value}{ety:TypeId}{T:Nat->Nat->Prop}(ht:Tr F p (del k M) w e0 p1 M1 w)(hk1:go M1 k=none)(hg:w.grownBy w' none/\w.drawn<=w'.drawn)
  (hown:w'.ownsRow 0 ety o.size v l.length xs) (hroot:∀b,mi v=some b->w.heap.size<=b/\b<w'.heap.size) (hl:l.length<=nb) (hT:∀i c,T i c->p1.L c) (hTd:∀i j c,i≠j->T i c->¬T j c)
  (hrows:∀(i:Nat)(x:o.strip.den),l[i]? = some x->Rel (Imm F p1 M1 w) w o x (T i) ((xs.drop (i*o.size)).take o.size))
  (hfr:(e0=[]/\M1=del k M/\p1=p)\/∃x r,e0=x::r/\fresh (del k M) [x]=false)
  (qt:Bool):gx F p M w qt ⟨[],.ref k [],.kl k::e0,(k,⟨.sl o,l⟩)::M1⟩ v w':=by
 obtain⟨hg,hgd⟩:=hg;have hext:Ext w w':=Ext.of_grown hg hgd;have hTs:∀i b,T i b->b<w.heap.size:=fun i b hb=>(ht.hp.lim b (hT i b hb)).1
 have ht1:Tr F p1 M1 w [] (p1.upd k v (fun b=>mi v=some b\/∃i,T i b)) ((k,⟨.sl o,l⟩)::M1) w':=by
  refine Tr.new ht.hp k hk1 _ _ _ (hext.toL _) (fun b hb=>?_) (fun hkp=>?_)
  ·rcases hb with hb|⟨i,hb⟩
   ·exact .inl (hroot b hb)
   ·exact .inr (hT i b hb)
  ·simp only[Rel];refine⟨v,ety,xs,T,rfl,bce hown,hl,fun c hc=>.inl hc,fun i c hc=>⟨.inr ⟨i,hc⟩,fun e=>by have:=hTs i c hc;have:=(hroot c e).1;omega⟩,hTd,fun i x hx=>?_⟩;exact Rel.keep hkp _ _ _ _ (fun b hb=>hext.old b (hTs i b hb)) (hrows i x hx)
 have htr:Tr F p M w (.kl k::e0) (p1.upd k v (fun b=>mi v=some b\/∃i,T i b)) ((k,⟨.sl o,l⟩)::M1) w':=by
  have h1:=(Tr.kl h k).trans (ht.trans ht1);have e1:ap [Ev.kl k] (ap e0 [])=.kl k::e0:=by rw[mj,mj];simp
  rw[e1]at h1;exact h1
 refine⟨_,htr,fun b hb=>hb,?_,fun hf _=>?_⟩
 ·simp only[ao,ak];refine⟨⟨.sl o,l⟩,none,qd _ _ _,by simp only[gok],⟨⟨.sl o,l⟩,by simp only[get]⟩,?_⟩;rw[ain];simp only[res]
 ·obtain⟨hf1,hf2⟩:=ax4 hf;rcases hfr with⟨rfl,rfl,rfl⟩|⟨x,r,rfl,hx⟩
  ·exact br6 hf1 hext
  ·rw[afr (bgb hx)]at hf2;cases hf2
theorem atu(h:Hp F p M w)(k:Nat):Hp F p (del k M) w:=(h.del k).1
theorem ajm(t:T):t.deep.size=t.size:=by unfold O.size;rw[T.deep_strip]
theorem alw(hB:TabOk P B){t:TypeId}(h:B.z t=true):∃i z,P.info? t=some i/\i.zero=some z/\jk (B.σ t) z.cells.toList=true:=by obtain⟨zs,h1,h2⟩:=hB.z t h;obtain⟨i,z,h3,h4,rfl⟩:=bu0 h1;exact⟨i,z,h3,h4,h2⟩
theorem bzc(hB:TabOk P B)(h:Hp F p M w)(hL:∀b,¬p.L b){t:TypeId}(o:Option Nat)(hv:ab (bdu B t o M).vc)(qt:Bool){op:Oper}(hop:op.op=.alloc t) :
  ∃v w',(execOp a.eval op).run P w=.ok (.value v) w'/\gx F p M w qt (bdu B t o M) v w':=by
 unfold bdu at hv⊢
 cases o with
 |none=>exact hv.1.elim
 |some k=>
  simp only at hv⊢
  cases hk:cd [(B.τ t).ok,B.z t]with
  |false=>rw[hk]at hv;exact hv.1.elim
  |true=>
   simp only[a0d];simp only[br,bz,a0o,a0b]at hk;obtain⟨i,z,hi,hz,h0⟩:=alw hB hk.2;refine⟨.pointer (some ⟨w.heap.size,0,none⟩),w.alloc (.cells z.cells t),by simp[execOp,hop,Instr.alloc,zeroValue,typeInfo,hi,hz,newVar,newRow],?_⟩
   have:=bn8 h hL k t (q:=⟨(B.σ t).deep,(B.σ t).deep.dflt⟩) (cs:=z.cells) rfl
    ⟨rfl,fun b=>(or_false _).symm▸a17,fun b hb=>hb.elim,Tr.refl (atu h k),(afq (B.σ t) _ h0).1,.inl ⟨rfl,rfl,rfl⟩⟩ (dy k M) qt
   exact this
theorem bwm(h:Hp F p M w)(hL:∀b,¬p.L b){t:TypeId}(o:Option Nat)(x:V)(y:Operand)(hx:ao p.β M (Imm F p M w) w x (a.eval y))(hv:ab (bh0 B t o x M).vc)(qt:Bool){op:Oper}(hop:op.op=.box t y) :
  ∃v w',(execOp a.eval op).run P w=.ok (.value v) w'/\gx F p M w qt (bh0 B t o x M) v w':=by
 unfold bh0 at hv⊢
 cases o with
 |none=>exact hv.1.elim
 |some k=>
  simp only at hv⊢;split at hv
  ·rename_i q e M' hc;refine⟨.pointer (some ⟨w.heap.size,0,none⟩),w.alloc (.cells (a.eval y).cells t),by simp[execOp,hop,Instr.box,newVar,newRow],?_⟩;have hcv:od x=true:=by cases x<;>first|rfl|(exfalso;revert hc;simp only[V.cells,V.ev];cases B.σ t<;>simp[conv])
   have h1:=(Tr.kl h k).c _ _ (ahh h hx hcv);obtain⟨g,p',S,cv⟩:=ahg k (B.σ t) _ (del k M) p _ q e M' (atu h k) h1 hc;exact bn8 h hL k t rfl cv (by rw[g];exact dy k M) qt
  ·cases hs:x.cells.size M with
   |none=>rw[hs]at hv;exact hv.1.elim
   |some n=>
   simp only[isN,qu,Bool.not_false,a0d]at hv⊢;have hcv:od x=true:=af3 hs;have hx1:=ahh h hx hcv;have hext:Ext w (w.alloc (.cells (a.eval y).cells t)):=Ext.of_grown (a4t w _ none) (a0k _);have hnew:(w.alloc (.cells (a.eval y).cells t)).heap[w.heap.size]? = some (.cells (a.eval y).cells t (0,0)):=a3e w _;have ht:=Tr.ext h hext;refine⟨.pointer (some ⟨w.heap.size,0,none⟩),w.alloc (.cells (a.eval y).cells t),by simp[execOp,hop,Instr.box,newVar,newRow],p,ht,hL,?_,fun _ _=>⟨hext,fun j ob hj=>⟨hj,rfl,rfl⟩⟩⟩;simp only[ao,ak,a0q,a0c];refine⟨w.heap.size,0,(a.eval y).cells.toList,rfl,⟨(a0x.1 hnew).1,.inr (.inr h.size),hL _,fun j hj hb=>?_⟩,fun j u hu=>?_,?_⟩
   ·have:=(h.own j _ hj hb).1;omega
   ·rw[a2f _ _ _ _ t (0,0) hnew];simpa using hu
   ·have:=ht.c _ _ hx1;simpa only [V.evs]using this
end
end Go.Bm
/- The ff machine:literals. -/
namespace Go.Bm
open Go.RowKit
theorem bf6(off:Nat):∀(vs:List Value)(k:Nat)(cells:Array Value),off+k+vs.length<=cells.size->
  ((vs.zipIdx k).foldl (fun (cs:Array Value) (x:Value×Nat)=>cs.setIfInBounds (off+x.2) x.1) cells).toList=cells.toList.take (off+k)++vs++cells.toList.drop (off+k+vs.length)
 |[],k,cells,_=>by simp
 |v::r,k,cells,h=>by
  simp only[List.zipIdx_cons,a10];simp only[a0h]at h;rw[bf6 off r (k+1) (cells.setIfInBounds (off+k) v) (by simp;omega)];simp only[Array.toList_setIfInBounds,a0h]
  have h1:(cells.toList.set (off+k) v).take (off+(k+1))=cells.toList.take (off+k)++[v]:=by
   apply a2o;intro j;simp only[a1d,a2v,List.getElem?_append,a03,a23];by_cases hj:j<off+k
   ·rw[a0a (by omega),ds (by omega),a0a (by omega),a0a hj]
   ·by_cases hj2:j=off+k
    ·subst hj2;rw[a0a (by omega),a0a rfl,a0a (by omega),ds (by omega),a39 (by omega)];simp
    ·rw[ds (by omega),ds (by omega),a39 (by omega)];simp;omega
  have h2:(cells.toList.set (off+k) v).drop (off+(k+1)+r.length)=cells.toList.drop (off+k+(r.length+1)):=by rw[List.drop_set_of_lt (by omega)];congr 1;omega
  rw[h1,h2];simp
theorem bgi{place:Nat->Option (Nat×Nat)}{cells:Array Value}{i:Nat}{v:Value}{vals:List (Nat×Value)}{off n:Nat}(hp:place i=some (off,n))(hn:v.cells.size=n)(hb:off+n<=cells.size) :
  ∃cells':Array Value,cells'.toList=gg cells.toList off v.cells.toList/\Instr.fill place cells ((i,v)::vals)=Instr.fill place cells' vals:=by
 refine⟨v.cells.zipIdx.foldl (fun cs (c,j)=>cs.setIfInBounds (off+j) c) cells,?_,?_⟩
 ·have hf:=bf6 off v.cells.toList 0 cells (by simp;omega);rw[←Array.foldl_toList,Array.toList_zipIdx,hf];simp only[gg,Nat.add_zero]
 ·simp only[Instr.fill,hp];rw[ds];simp only[ne_eq,a09,a0w,not_or,Decidable.not_not,Nat.not_lt];omega
section
variable {F:Fr} {p p' p'':Ow} {env:Env} {M M' M'':Mem} {a:Act} {w w' w'':World} {P:Program} {B:Tab}
theorem bdv(hp:Hp F p M w):(π:cr)->(v y v':V)->(vs us:List Value)->(n:Nat)->(z:V)->ak p.β M (Imm F p M w) w v vs->fe M π v=some (n,z)->z.size M=some us.length->ak p.β M (Imm F p M w) w y us->kw π v y=some v'->
  ak p.β M (Imm F p M w) w v' (gg vs n us)/\n+us.length<=vs.length
 |[],v,y,v',vs,us,n,z,r,hs,hz,hy,h=>by
  have:fe M [] v=some (0,v):=by cases v<;>rfl
  rw[this]at hs;cases hs;have:kw [] v y=some y:=by cases v<;>rfl
  rw[this]at h;cases h;have hl:=zc hp v vs _ r hz;refine⟨?_,by omega⟩;unfold gg;rw[a16,←hl,List.drop_length];simpa using hy
 |.l::π,.p a b,y,v',vs,us,n,z,r,hs,hz,hy,h=>by
  simp only[fe]at hs;simp only[kw]at h;simp only[ak]at r;obtain⟨va,vb,rfl,ha,hb⟩:=r;split at h
  ·rename_i q hq;cases h;obtain⟨k1,k2⟩:=bdv hp π a y q va us n z ha hs hz hy hq;refine⟨?_,by rw[a0m];omega⟩;simp only[ak];exact⟨_,vb,(bi0 k2).symm,k1,hb⟩
  ·cases h
 |.r::π,.p a b,y,v',vs,us,n,z,r,hs,hz,hy,h=>by
  simp only[fe]at hs;simp only[kw]at h;simp only[ak]at r;obtain⟨va,vb,rfl,ha,hb⟩:=r;split at hs
  ·rename_i m n' v1 hm hs1;cases hs;split at h
   ·rename_i q hq;cases h;obtain⟨k1,k2⟩:=bdv hp π b y q vb us n' z hb hs1 hz hy hq;have hl:=zc hp a va m ha hm;refine⟨?_,by rw[a0m,avy];omega⟩;simp only[ak];exact⟨va,_,by rw[bkw,hl,avy],ha,k1⟩
   ·cases h
  ·cases hs
 |.l::_,.any,_,_,_,_,_,_,_,_,_,_,h|.l::_,.nl,_,_,_,_,_,_,_,_,_,_,h|.l::_,.np,_,_,_,_,_,_,_,_,_,_,h|.l::_,.u,_,_,_,_,_,_,_,_,_,_,h|.l::_,.d _ _,_,_,_,_,_,_,_,_,_,_,h|.l::_,.ref _ _,_,_,_,_,_,_,_,_,_,_,h|.l::_,.ad _ _,_,_,_,_,_,_,_,_,_,_,h|.l::_,.ag _,_,_,_,_,_,_,_,_,_,_,h|.l::_,.tup _,_,_,_,_,_,_,_,_,_,_,h|.l::_,.gd _ _ _ _,_,_,_,_,_,_,_,_,_,_,h|.l::_,.fn _ _,_,_,_,_,_,_,_,_,_,_,h|.l::_,.ifc _ _,_,_,_,_,_,_,_,_,_,_,h|.l::_,.bx _,_,_,_,_,_,_,_,_,_,_,h|.r::_,.any,_,_,_,_,_,_,_,_,_,_,h|.r::_,.nl,_,_,_,_,_,_,_,_,_,_,h|.r::_,.np,_,_,_,_,_,_,_,_,_,_,h|.r::_,.u,_,_,_,_,_,_,_,_,_,_,h|.r::_,.d _ _,_,_,_,_,_,_,_,_,_,_,h|.r::_,.ref _ _,_,_,_,_,_,_,_,_,_,_,h|.r::_,.ad _ _,_,_,_,_,_,_,_,_,_,_,h|.r::_,.ag _,_,_,_,_,_,_,_,_,_,_,h|.r::_,.tup _,_,_,_,_,_,_,_,_,_,_,h|.r::_,.gd _ _ _ _,_,_,_,_,_,_,_,_,_,_,h|.r::_,.fn _ _,_,_,_,_,_,_,_,_,_,_,h|.r::_,.ifc _ _,_,_,_,_,_,_,_,_,_,_,h|.r::_,.bx _,_,_,_,_,_,_,_,_,_,_,h|.ix _::_,_,_,_,_,_,_,_,_,_,_,_,h|.de::_,_,_,_,_,_,_,_,_,_,_,_,h=>by simp[kw]at h
theorem asv(hp:Hp F p M w)(place:Nat->Option (cr×Nat×Nat))(f:Operand->V)(g:Operand->Value):(parts:List (Nat×Operand))->(v v':V)->(cells:Array Value)->(∀q∈parts,ao p.β M (Imm F p M w) w (f q.2) (g q.2))->
  ak p.β M (Imm F p M w) w v cells.toList->v6 M place f parts v=some v'->
  ∃cells',Instr.fill (fun i=>(place i).map fun q=>q.2) cells (parts.map fun q=>(q.1,g q.2))=some cells'/\ak p.β M (Imm F p M w) w v' cells'.toList
 |[],v,v',cells,_,r,h=>by simp only[v6,a0e]at h;subst h;exact⟨cells,rfl,r⟩
 |(i,x)::parts,v,v',cells,hfg,r,h=>by
  simp only[v6]at h;split at h
  ·rename_i π off n hpl;split at h
   ·rename_i m z hs
    cases hk:cd [gb m off,kx M z n,kx M (f x).cells n]with
    |false=>rw[hk]at h;cases h
    |true=>
     rw[hk]at h;simp only[a0d]at h;simp only[br,bz,a0o,a0b,iz,a0r]at hk;obtain⟨rfl,k2,k3⟩:=hk;split at h
     ·rename_i v1 hv1;have hc:=ahh hp (hfg (i,x) (by simp)) (af3 (o7 k3));have hn:=zc hp _ _ _ hc (o7 k3);obtain⟨s1,s2⟩:=bdv hp π v (f x).cells v1 cells.toList (g x).cells.toList m z r hs (by rw[hn];exact o7 k2) hc hv1;simp only[a23]at hn s2;obtain⟨cells1,c1,c2⟩:=bgi (place:=fun i=>(place i).map fun q=>q.2) (cells:=cells) (i:=i) (v:=g x) (vals:=parts.map fun q=>(q.1,g q.2)) (off:=m) (n:=n) (by simp[hpl]) hn (by omega);rw[←c1]at s1;obtain⟨cells',e1,e2⟩:=asv hp place f g parts v1 v' cells1 (fun q hq=>hfg q (by simp[hq])) s1 h;exact⟨cells',by rw[a2h,c2];exact e1,e2⟩
     ·cases h
   ·cases h
  ·cases h
theorem bgq{pl pl':Nat->Option (Nat×Nat)}(h:∀i q,pl i=some q->pl' i=some q):∀(l:List (Nat×Value)) (cells cells':Array Value),Instr.fill pl cells l=some cells'->Instr.fill pl' cells l=some cells'
 |[],cells,cells',hf=>hf
 |(i,v)::l,cells,cells',hf=>by
  unfold Instr.fill at hf⊢
  cases hp:pl i with
  |none=>simp only[hp]at hf;cases hf
  |some q=>
   obtain⟨off,n⟩:=q;simp only[hp]at hf;simp only[h i _ hp];split at hf
   ·cases hf
   ·rename_i hc;rw[ds hc];exact bgq h l _ _ hf
theorem ew{α:Type}(x:Array α):toL x=x.toList:=by cases x;rfl
theorem bpz(hB:TabOk P B)(hp:Hp F p M w)(hL:∀b,¬p.L b){t:TypeId}{parts:Array (Nat×Operand)}(f:Operand->V)(hf:∀q∈parts.toList,ao p.β M (Imm F p M w) w (f q.2) (a.eval q.2))(hv:ab (abh B t (toL parts) f M).vc)(qt:Bool){op:Oper}(hop:op.op=.build t parts) :
  ∃v w',(execOp a.eval op).run P w=.ok (.value v) w'/\gx F p M w qt (abh B t (toL parts) f M) v w':=by
 unfold abh at hv⊢
 cases hk:cd [(B.τ t).ok,awp B (B.τ t),B.z t]with
 |false=>rw[hk]at hv;exact hv.1.elim
 |true=>
  rw[hk]at hv;simp only[a0d]at hv⊢;simp only[br,bz,a0o,a0b]at hk;split at hv
  ·rename_i v hev;have eτ:=hB.τ t hk.1
   cases harr:(B.τ t).arr with
   |some q=>
    obtain⟨e,n⟩:=q;have hbo:=hk.2.1;simp only[awp,harr]at hbo;have ee:=hB.τ e hbo;obtain⟨inf,z,hi,hz,h0⟩:=alw hB hk.2.2;obtain⟨ie,ue,hie,hue⟩:=gu (by rw[ee];exact hbo);obtain⟨inf',u,hi',hu⟩:=gu (P:=P) (t:=t) (by rw[eτ];exact hk.1);rw[hi]at hi';cases hi';have hu2:u=.array n e:=by rw[←eτ,ke hi hu]at harr;simp only[rk]at harr;cases u<;>simp at harr;rw[harr.1,harr.2]
    subst hu2;have hsz:(B.τ e).size=ie.size:=by rw[←ee,ke hie hue];rfl
    rw[ew]at hev;obtain⟨cells',h1,h2⟩:=asv hp _ f a.eval parts.toList (wn (B.σ t)) v z.cells hf ((afq (B.σ t) _ h0).2 _ _) hev
    have hb:P.built t (parts.toList.map fun q=>(q.1,a.eval q.2))=some cells':=by
     simp only[Program.built,hi,hu,hz,hie];refine bgq (fun i q hq=>?_) _ _ _ h1;simp only[bq1,harr]at hq
     cases hl:Nat.ble (Nat.succ i) n with
     |false=>rw[hl]at hq;cases hq
     |true=>rw[hl]at hq;simp only[a0d,a1e,a0e]at hq;rw[←hq,hsz];rfl
    refine⟨.agg cells',w,?_,?_⟩
    ·have:=run_build w t ((parts.toList.map fun q=>(q.1,a.eval q.2)).toArray) cells' (by simpa using hb);simp only[execOp,hop,a1q];rw[show (parts.map fun x=>match x with|(i,x)=>(i,a.eval x))=(parts.toList.map fun q=>(q.1,a.eval q.2)).toArray from by apply a2k;simp];rw[this];rfl
    ·refine gx.pure (q:=([],.ag v)) hp hL ?_ qt;simp only[ao];exact⟨cells'.toList,by simp,h2⟩
   |none=>
   have hpl:bq1 B (B.τ t)=fun i=>(match pq (B.τ t).fld i with|some q=>some (agl (len (B.τ t).fld) i,q.1,q.2.2)|none=>none):=by funext i;simp only[bq1,harr];cases pq (B.τ t).fld i<;>rfl
   rw[hpl]at hev;simp only[awp,harr]at hk;rw[←eτ]at hk hev;obtain⟨inf,z,hi,hz,h0⟩:=alw hB hk.2.2;obtain⟨inf',u,hi',hu⟩:=gu hk.1;rw[hi]at hi';cases hi';rw[ke hi hu]at hk hev;have hsz:=hk.2.1;simp only[rk]at hsz hev;cases u<;>simp at hsz
   case struct fs=>
    simp only at hev;rw[ew]at hev;obtain⟨cells',h1,h2⟩:=asv hp _ f a.eval parts.toList (wn (B.σ t)) v z.cells hf ((afq (B.σ t) _ h0).2 _ _) hev
    have hb:P.built t (parts.toList.map fun q=>(q.1,a.eval q.2))=some cells':=by
     have hplaces:fs.toList.mapM (fun f=>(P.info? f.type).map fun i=>(f.offset,i.size))=some (fs.toList.map fun f=>(f.offset,P.cellsOf f.type)):=by
      have v3':∀f∈fs.toList,(P.info? f.type).isSome=true:=fun f hfm=>by obtain⟨i,hi',rfl⟩:=Array.getElem_of_mem (a19.1 hfm);exact hsz i hi'
      generalize fs.toList=l at v3'
      induction l with
      |nil=>rfl
      |cons f l ih=>
       have hf':=v3' f (by simp)
       cases hif:P.info? f.type with
       |none=>rw[hif]at hf';cases hf'
       |some i'=>simp only[a4u,a1e,a2h,ih (fun g hg=>v3' g (by simp[hg])),Program.cellsOf,hif];rfl
     simp only[Program.built,hi,hu,hz,hplaces];rw[←h1];congr 1
     funext i
     simp only[afp,a1r,List.getElem?_toArray];cases fs.toList[i]?<;>rfl
    refine⟨.agg cells',w,?_,?_⟩
    ·have:=run_build w t ((parts.toList.map fun q=>(q.1,a.eval q.2)).toArray) cells' (by simpa using hb);simp only[execOp,hop,a1q];rw[show (parts.map fun x=>match x with|(i,x)=>(i,a.eval x))=(parts.toList.map fun q=>(q.1,a.eval q.2)).toArray from by apply a2k;simp];rw[this];rfl
    ·refine gx.pure (q:=([],.ag v)) hp hL ?_ qt;simp only[ao];exact⟨cells'.toList,by simp,h2⟩
  ·exact hv.1.elim
theorem bol{α:Type}(x:α)(n:Nat):aae x n=List.replicate n x:=by
 induction n with
 |zero=>rfl
 |succ n ih=>rw[aae,ih];rfl
theorem bog{α:Type}(l:List α)(i:Nat)(y:α):aud l i y=l.set i y:=by
 induction l generalizing i with
 |nil=>rfl
 |cons x l ih=>cases i with
  |zero=>rfl
  |succ i=>rw[aud,ih];rfl
theorem bvw{α:Type}(q:α->Bool)(l:List α):bja q l=true<->∀x∈l,q x=true:=by
 induction l with
 |nil=>simp[bja]
 |cons x l ih=>simp only[bja,a0t,forall_eq_or_imp];cases h:q x<;>simp[ih]
def bcl(β:Nat->Value)(M:Mem)(Im:Nat->Prop)(w:World)(sz:Nat)(l:List V)(xs:List Value):Prop:=xs.length=l.length*sz/\∀(i:Nat)(v:V),l[i]? = some v->ak β M Im w v ((xs.drop (i*sz)).take sz)
theorem aqk(z:Value)(size:Nat)(hzl:z.cells.size=size):∀m,(madeCells z.cells (m*size)).toList=(List.replicate m z.cells.toList).flatten:=by
 intro m;apply a2o;intro j;by_cases hj:j<m*size
 ·have hpos:0<size:=a3o (fun h0=>by rw[h0]at hj;omega);have hmod:=Nat.mod_lt j hpos;have h1:(madeCells z.cells (m*size)).toList[j]? = some (z.cells[j%z.cells.size]!):=by simp[madeCells,hj]
  rw[h1,hzl]
  have key:∀(m j:Nat),j<m*size->((List.replicate m z.cells.toList).flatten)[j]? = some z.cells[j%size]!:=by
   intro m
   induction m with
   |zero=>intro j hj;omega
   |succ m ih=>
    intro j hj;rw[a3f,a3p,List.getElem?_append];simp only[a23,hzl];by_cases hjs:j<size
    ·rw[a0a hjs,Nat.mod_eq_of_lt hjs];simp[hzl,hjs,getElem!_pos]
    ·rw[ds hjs,ih (j-size) (by rw[a2g]at hj;omega)];congr 2;rw[←Nat.mod_eq_sub_mod (by omega)]
  rw[key m j hj]
 ·rw[a12 (by simp[madeCells];omega),a12];simp[hzl];omega
theorem atn{zs:List Value}:∀(n i:Nat),i<n->(((List.replicate n zs).flatten.drop (i*zs.length)).take zs.length)=zs
 |0,i,h=>by omega
 |n+1,0,h=>by simp[a3f]
 |n+1,i+1,h=>by rw[a3f,a3p,Nat.succ_mul,Nat.add_comm,←a3l,List.drop_left];exact atn n i (by omega)
theorem bcl.rep{β:Nat->Value}{Im:Nat->Prop}{v:V}{zs:List Value}(h:ak β M Im w v zs)(n:Nat):bcl β M Im w zs.length (aae v n) (List.replicate n zs).flatten:=by
 rw[bol];refine⟨by simp,fun i x hx=>?_⟩;rw[a4v]at hx;split at hx
 ·rename_i hi;cases hx;rw[atn n i hi];exact h
 ·cases hx
theorem bbd(hp:Hp F p M w){sz:Nat}(f:Operand->V)(g:Operand->Value):(parts:List (Nat×Operand))->(l l':List V)->(cells:Array Value)->(∀q∈parts,ao p.β M (Imm F p M w) w (f q.2) (g q.2))->
  bcl p.β M (Imm F p M w) w sz l cells.toList->sj M sz f parts l=some l'->
  ∃cells',Instr.fill (fun i=>some (i*sz,sz)) cells (parts.map fun q=>(q.1,g q.2))=some cells'/\bcl p.β M (Imm F p M w) w sz l' cells'.toList/\l'.length=l.length
 |[],l,l',cells,_,r,h=>by simp only[sj,a0e]at h;subst h;exact⟨cells,rfl,r,rfl⟩
 |(i,x)::parts,l,l',cells,hfg,r,h=>by
  simp only[sj]at h
  cases hb:nob (Nat.ble (Nat.succ i) (len l)) (kx M (f x).cells sz)with
  |false=>rw[hb]at h;cases h
  |true=>
   rw[hb]at h;simp only[a0d]at h;simp only[be,a0b]at hb;have hi:i<l.length:=by have:=a08 hb.1;rw[aga]at this;omega
   have k3:=hb.2;have hc:=ahh hp (hfg (i,x) (by simp)) (af3 (o7 k3));have hn:=zc hp _ _ _ hc (o7 k3);obtain⟨r1,r2⟩:=r;have hle:i*sz+sz<=l.length*sz:=by have:=a2q sz (show i+1<=l.length from hi);rw[a2g]at this;omega
   simp only[a23]at hn r1;obtain⟨cells1,c1,c2⟩:=bgi (place:=fun i=>some (i*sz,sz)) (cells:=cells) (i:=i) (v:=g x) (vals:=parts.map fun q=>(q.1,g q.2)) (off:=i*sz) (n:=sz) rfl hn (by omega)
   have hr1:bcl p.β M (Imm F p M w) w sz (aud l i (f x).cells) cells1.toList:=by
    rw[bog,c1];refine⟨?_,fun j v hj=>?_⟩
    ·unfold gg;simp[hn];omega
    ·rw[bnc (n:=l.length) (by simpa using r1) hi (by simpa using hn)];rw[a2v]at hj;by_cases e:j=i
     ·subst e;rw[a0a rfl,a0a hi]at hj;cases hj;rw[a0a rfl];exact hc
     ·rw[ds (a0u e)]at hj;rw[ds e];exact r2 j v hj
   obtain⟨cells',e1,e2,e3⟩:=bbd hp f g parts _ l' cells1 (fun q hq=>hfg q (by simp[hq])) hr1 h;exact⟨cells',by rw[a2h,c2];exact e1,e2,by rw[e3,bog,a1m]⟩
theorem bg5{k:Nat}{o:Option Ob}(h:go M' k=none\/go M' k=o)(ho:o=none):go M' k=none:=by rcases h with h|h<;>rw[h]<;>exact ho
theorem agk{α:Type}(a:List α):ap a []=a:=by rw[mj];simp
theorem ba3(k:Nat)(o:O):(l:List V)->(ev:List Ev)->(M:Mem)->(p:Ow)->(rows:List (List Value))->(xs:List o.strip.den)->(e:List Ev)->(M':Mem)->Hp F p M w->go M k=none->
  rows.length=l.length->(∀(i:Nat)(v:V)(vs:List Value),l[i]? = some v->rows[i]? = some vs->ak p.β M (Imm F p M w) w (v.evs ev) vs)->rg k o ev l M=some (xs,e,M')->
  ∃e1 p',∃T:Nat->Nat->Prop,e=ap ev e1/\Tr F p M w e1 p' M' w/\go M' k=none/\xs.length=l.length/\(∀b,p'.L b<->p.L b\/∃i,T i b)/\(∀i b,T i b->¬p.L b)/\(∀i j b,i≠j->T i b->¬T j b)/\
   (∀(i:Nat)(x:o.strip.den)(vs:List Value),xs[i]? = some x->rows[i]? = some vs->Rel (Imm F p' M' w) w o x (T i) vs)/\((e1=[]/\M'=M/\p'=p)\/∃x r,e1=x::r/\fresh M [x]=false)
 |[],ev,M,p,rows,xs,e,M',h,hk,hl,hr,hc=>by simp only[rg,a0e,a0n]at hc;obtain⟨rfl,rfl,rfl⟩:=hc;exact⟨[],p,fun _ _=>False,(agk ev).symm,Tr.refl h,hk,rfl,fun b=>by simp,fun i b hb=>hb.elim,fun i j b _ hb=>hb.elim,fun i x vs hx=>by simp at hx,.inl ⟨rfl,rfl,rfl⟩⟩
 |v::r,ev,M,p,rows,xs,e,M',h,hk,hl,hr,hc=>by
  simp only[rg]at hc;split at hc
  ·rename_i x e0 M1 hc1;split at hc
   ·rename_i l1 e2 M2 hc2;simp only[a0e,a0n]at hc;obtain⟨rfl,rfl,rfl⟩:=hc
    cases rows with
    |nil=>simp at hl
    |cons vs rows=>
     obtain⟨g,p1,S,cv⟩:=blb h k o (v.evs ev) vs x e0 (hr 0 v vs rfl rfl) hc1;have hk1:go M1 k=none:=bg5 g hk;obtain⟨e1,p',T,i1,i2,i3,i4,i5,i6,i7,i8,i9⟩:=ba3 k o r (ap ev e0) M1 p1 rows l1 _ _ cv.tr.hp hk1 (by simpa using hl) (fun i v' vs' hv' hvs'=>by rw[aql];exact cv.tr.c _ _ (hr (i+1) v' vs' (by simpa using hv') (by simpa using hvs'))) hc2;refine⟨ap e0 e1,p',fun i=>match i with|0=>S|i+1=>T i,by rw[i1];simp only[mj,a01],cv.tr.trans i2,i3,by simp[i4],fun b=>?_,fun i b hb=>?_,fun i j b hij hb=>?_,fun i x' vs' hx hvs=>?_,?_⟩
     ·rw[i5,cv.L];constructor
      ·rintro ((h1|h1)|⟨i,h1⟩)
       ·exact .inl h1
       ·exact .inr ⟨0,h1⟩
       ·exact .inr ⟨i+1,h1⟩
      ·rintro (h1|⟨i,h1⟩)
       ·exact .inl (.inl h1)
       ·cases i with
        |zero=>exact .inl (.inr h1)
        |succ i=>exact .inr ⟨i,h1⟩
     ·cases i with
      |zero=>exact cv.sp b hb
      |succ i=>exact fun hL=>i6 i b hb ((cv.L b).2 (.inl hL))
     ·cases i with
      |zero=>
       cases j with
       |zero=>exact absurd rfl hij
       |succ j=>exact fun hb'=>i6 j b hb' ((cv.L b).2 (.inr hb))
      |succ i=>
       cases j with
       |zero=>exact fun hb'=>i6 i b hb ((cv.L b).2 (.inr hb'))
       |succ j=>exact i7 i j b (fun e=>hij (by rw[e])) hb
     ·cases i with
      |zero=>simp only[a1u,a0e]at hx hvs;subst hx;subst hvs;exact Rel.keep i2.keep _ _ _ _ (fun _ _=>rfl) cv.rel
      |succ i=>exact i8 i x' vs' (by simpa using hx) (by simpa using hvs)
     ·rcases cv.fr with⟨rfl,rfl,rfl⟩|⟨y,ry,rfl,hy⟩
      ·exact i9
      ·exact .inr ⟨y,ap ry e1,rfl,hy⟩
   ·cases hc
  ·cases hc
theorem amf(e:List Ev):∀(l:List V)(i:Nat),(ux e l)[i]? = (l[i]?).map fun v=>v.evs e
 |[],i|v::l,0=>by simp[ux]
 |v::l,i+1=>by simp only[ux,a2i];exact amf e l i
theorem aat(e:List Ev):∀l:List V,(ux e l).length=l.length
 |[]=>rfl
 |v::l=>by simp[ux,aat e l]
def aeh(sz n:Nat)(xs:List Value):List (List Value):=(List.range n).map fun i=>(xs.drop (i*sz)).take sz
theorem bpw(sz n:Nat)(xs:List Value):(aeh sz n xs).length=n:=by simp[aeh]
theorem bq3{sz n i:Nat}{xs vs:List Value}(h:(aeh sz n xs)[i]? = some vs):vs=(xs.drop (i*sz)).take sz:=by
 unfold aeh at h;rw[a1r]at h;by_cases hi:i<n
 ·rw[a2p hi]at h;simpa using h.symm
 ·rw[a12 (by simpa using hi)]at h;cases h
theorem blj{n:Nat}(h:n<=nb):n<=maxLen:=by unfold nb at h;unfold maxLen;omega
theorem bvk(hB:TabOk P B)(h:Hp F p M w)(hL:∀b,¬p.L b){t:TypeId}{n:Nat}{parts:Array (Nat×Operand)}(f:Operand->V)(hf:∀q∈parts.toList,ao p.β M (Imm F p M w) w (f q.2) (a.eval q.2))(o:Option Nat)(hv:ab (aet B t n (toL parts) f o M).vc)(qt:Bool){op:Oper}(hop:op.op=.buildSlice t n parts) :
  ∃v w',(execOp a.eval op).run P w=.ok (.value v) w'/\gx F p M w qt (aet B t n (toL parts) f o M) v w':=by
 unfold aet at hv⊢;split at hv
 ·rename_i k e he;split at hv
  ·rename_i l hl
   cases hk:cd [(B.τ t).ok,(B.τ e).ok,B.z e,Nat.ble (Nat.mul n (B.τ e).size) 16777216,Nat.ble n nb,gb (B.σ e).size (B.τ e).size]with
   |false=>rw[hk]at hv;exact hv.1.elim
   |true=>
    simp only[hl,hk,a0d]at hv⊢;simp only[br,bz,a0o,a0b,iz,a0r]at hk;obtain⟨k1,k2,k3,k4,k5,k6⟩:=hk;replace k4:=a08 k4;replace k5:=a08 k5;have eτ:=hB.τ t k1;have eτ':=hB.τ e k2;obtain⟨infe,z,hie,hz,h0⟩:=alw hB k3;rw[←eτ']at k2 k4 k6 hl;rw[←eτ]at k1 he;obtain⟨inf,u,hi,hu⟩:=gu k1;obtain⟨infe',ue,hie',hue⟩:=gu k2;rw[hie]at hie';cases hie';rw[ke hi hu]at he;rw[ke hie hue]at k4 k6 hl;simp only[rk]at he k4 k6 hl;cases u<;>simp at he;obtain rfl:=he.symm;obtain⟨z1,z2⟩:=afq (Im:=Imm F p M w) (w:=w) (B.σ e) _ h0;have hzl:z.cells.size=infe.size:=by have:=Rel.len _ _ _ _ z1;rw[ajm,k6]at this;simpa using this
    have hrep:=bcl.rep (z2 p.β M) n;rw[←aqk z infe.size hzl n,show z.cells.toList.length=infe.size by simpa using hzl]at hrep;rw[ew]at hl;obtain⟨cells',c1,c2,c3⟩:=bbd h f a.eval parts.toList _ l (madeCells z.cells (n*infe.size)) hf hrep hl;have hln:l.length=n:=by rw[c3,bol,a05]
    have hrun:(execOp a.eval op).run P w=.ok (.value (.slice (some ⟨w.heap.size,0,none⟩) n n)) (w.alloc (.cells cells' e)):=by
     have h1':Instr.fill (fun i=>some (i*infe.size,infe.size)) ((Array.range (n*infe.size)).map fun x=>z.cells[x%z.cells.size]!) (parts.map fun x=>match x with|(i,x)=>(i,a.eval x)).toList=some cells':=by rw[←c1];simp[madeCells]
     have k4':n*infe.size<=16777216:=k4;have hsmall:¬(16777216<n*infe.size):=by omega
     by_cases h0:n*infe.size=0
     ·simp only[execOp,hop,Instr.buildSlice,a06 hu,sizeOf,typeInfo,run_program,hie,a1q,a2l,a14,Sem.run_ite,h0,a04];rw[h0]at h1';simp only[show (Array.range 0).map (fun x=>(#[]:Array Value)[x%(#[]:Array Value).size]!)=(Array.range 0).map fun x=>z.cells[x%z.cells.size]! from by simp,h1'];simp[newRow]
     ·simp[execOp,hop,Instr.buildSlice,a06 hu,sizeOf,typeInfo,hie,hsmall,h0,zeroValue,hz,newRow];simp at h1';simp[h1']
    have hgrow:w.grownBy (w.alloc (.cells cells' e)) none:=a4t w _ none
    have hown:(w.alloc (.cells cells' e)).ownsRow 0 e infe.size (.slice (some ⟨w.heap.size,0,none⟩) n n) n cells'.toList:=by
     have hsz:cells'.size=n*infe.size:=by have:=c2.1;rw[hln]at this;simpa using this
     exact⟨by simpa using hsz,.inr ⟨w.heap.size,n,cells',rfl,a1j _,a3e w _,a0k _,blj k5,hsz,a1c (by simp[hsz])⟩⟩
    have hroot:∀b,mi (.slice (some ⟨w.heap.size,0,none⟩) n n)=some b->w.heap.size<=b/\b<(w.alloc (.cells cells' e)).heap.size:=fun b hb=>by have hb:=ba9 hb;subst hb;exact⟨a0k _,(a0x.1 (a3e w _)).1⟩
    have hrel:∀(i:Nat)(v:V)(vs:List Value),(ux [.kl k] l)[i]? = some v->(aeh infe.size n cells'.toList)[i]? = some vs->ak p.β (del k M) (Imm F p (del k M) w) w (v.evs []) vs:=fun i v vs hv hvs=>by
     rw[amf]at hv
     cases hli:l[i]? with
     |none=>rw[hli]at hv;cases hv
     |some v0=>rw[hli]at hv;cases hv;rw[bq3 hvs];exact (Tr.kl h k).c _ _ (c2.2 i v0 hli)
    have key:∀(oo:O)(x:List oo.strip.den)(ev:List Ev)(M':Mem),rg k oo [] (ux [.kl k] l) (del k M)=some (x,ev,M')->oo.size=infe.size->
      gx F p M w qt ⟨[],.ref k [],.kl k::ev,(k,⟨.sl oo,x⟩)::M'⟩ (.slice (some ⟨w.heap.size,0,none⟩) n n) (w.alloc (.cells cells' e)):=fun oo x ev M' hcv hos=>by
     obtain⟨e1,p',T,i1,i2,i3,i4,i5,i6,i7,i8,i9⟩:=ba3 k oo _ [] (del k M) p (aeh infe.size n cells'.toList) x ev M' (atu h k) (dy k M) (by rw[bpw,aat,hln]) hrel hcv;simp only[ap]at i1;subst i1;have hxl:x.length=n:=by rw[i4,aat,hln]
     refine bny h k i2 i3 ⟨hgrow,a0k _⟩ (ety:=e) (xs:=cells'.toList) (T:=T) (by rw[hxl,hos];exact hown) hroot (by rw[hxl];exact k5) (fun i c hc=>(i5 c).2 (.inr ⟨i,hc⟩)) i7 (fun i y hy=>?_) i9 qt;rw[hos];have hi:i<n:=by rw[←hxl];exact (a1i.1 hy).1
     exact i8 i y _ hy (by unfold aeh;rw[a1r,a2p hi];rfl)
    refine⟨_,_,hrun,?_⟩;split at hv
    ·rename_i hnil;have hn:n=0:=by have:=congrArg List.length hnil;rw[aat,hln]at this;simpa using this
     subst hn;refine⟨p,Tr.ext h (Ext.of_grown hgrow (a0k _)),hL,?_,fun _ _=>⟨Ext.of_grown hgrow (a0k _),fun j ob hj=>⟨hj,rfl,rfl⟩⟩⟩;unfold bro;split
     ·rename_i e' _;rw[cf];simp only[aq];refine .inr ⟨[],_,_,_,rfl,rfl,_,0,rfl,⟨a1j _,a0k _⟩,fun _=>⟨rfl,rfl⟩,fun a ha hpos=>absurd hpos (a2x 0)⟩
     ·simp only[ao,ak];exact⟨_,rfl⟩
    ·rename_i v r hcons;split at hv
     ·rename_i q e0 M0 hcv0;split at hv
      ·rename_i x ev M' hcv;refine key q.o x ev M' (by rw[hcons];exact hcv) ?_
       have hr0:=hrel 0 v ((aeh infe.size n cells'.toList).headD []) (by rw[hcons];rfl) (by
        have hn:0<n:=by have:=congrArg List.length hcons;rw[aat,hln]at this;simp at this;omega
        cases n with
        |zero=>omega
        |succ n=>simp[aeh,List.range_succ_eq_map])
       simp only[V.evs]at hr0;obtain⟨g,p',S,cv⟩:=ahg k (B.σ e) v (del k M) p _ q e0 M0 (atu h k) hr0 hcv0;have h1:=Rel.len _ _ _ _ cv.rel;rw[←h1];have hn:0<n:=by have:=congrArg List.length hcons;rw[aat,hln]at this;simp at this;omega
       have hcl:cells'.toList.length=n*infe.size:=by rw[c2.1,hln]
       have hle:infe.size<=n*infe.size:=Nat.le_mul_of_pos_left _ hn
       cases n with
       |zero=>omega
       |succ n=>simp[aeh,List.range_succ_eq_map];rw[a23]at hcl;omega
      ·split at hv
       ·rename_i x ev M' hcv;exact key (.fz (B.σ e)) x ev M' (by rw[hcons];exact hcv) (by simp only[O.size,O.strip];exact k6)
       ·exact hv.1.elim
     ·exact hv.1.elim
  ·exact hv.1.elim
 ·exact hv.1.elim
theorem bgk{zs:List Value}:∀(c n:Nat),n<=c->(List.replicate c zs).flatten.take (n*zs.length)=(List.replicate n zs).flatten
 |_,0,_=>by simp
 |0,n+1,h=>by omega
 |c+1,n+1,h=>by rw[a3f,a3p,a3f,a3p,Nat.succ_mul,Nat.add_comm,List.take_length_add_append,bgk c n (by omega)]
theorem bzg{nl nc:Int}{b:Nat}(h:0<=nl/\nl<=nc/\nc<=(nb:Int)/\nc*(b:Int)<=(nb:Int)):∃n c:Nat,nl=n/\nc=c/\n<=c/\c<=nb/\c*b<=nb:=by
 obtain⟨h1,h2,h3,h4⟩:=h;obtain⟨n,rfl⟩:=Int.eq_ofNat_of_zero_le h1;obtain⟨c,rfl⟩:=Int.eq_ofNat_of_zero_le (a3q h1 h2);refine⟨n,c,rfl,rfl,by omega,by omega,?_⟩;have:((c*b:Nat):Int)<=(nb:Int):=by rw[a4w];exact h4
 omega
theorem br0(hB:TabOk P B)(h:Hp F p M w)(hL:∀b,¬p.L b){t:TypeId}{l c:Operand}(x y:V)(hx:ao p.β M (Imm F p M w) w x (a.eval l))(hy:ao p.β M (Imm F p M w) w y (a.eval c))(o:Option Nat)(hv:ab (avd B t x y o M).vc)(qt:Bool){op:Oper}(hop:op.op=.makeSlice t l c) :
  ∃v w',(execOp a.eval op).run P w=.ok (.value v) w'/\gx F p M w qt (avd B t x y o M) v w':=by
 unfold avd at hv⊢;split at hv
 ·rename_i k e kl nl kc nc he
  cases hk:cd [(B.τ t).ok,(B.τ e).ok,B.z e,gb (B.σ e).size (B.τ e).size]with
  |false=>rw[hk]at hv;exact hv.1.elim
  |true=>
   simp only[he,hk,a0d,d7,fh,a0c]at hv⊢;simp only[br,bz,a0o,a0b,iz,a0r]at hk;obtain⟨k1,k2,k3,k4⟩:=hk;simp only[cf,fx]at hx hy;have eτ:=hB.τ t k1;have eτ':=hB.τ e k2;obtain⟨infe,z,hie,hz,h0⟩:=alw hB k3;rw[←eτ']at k2 k4;simp only[←eτ']at hv;rw[←eτ]at k1 he;obtain⟨inf,u,hi,hu⟩:=gu k1;obtain⟨infe',ue,hie',hue⟩:=gu k2;rw[hie]at hie';cases hie';rw[ke hi hu]at he;rw[ke hie hue]at k4;simp only[ke hie hue]at hv;simp only[rk]at he hv k4;cases u<;>simp at he;obtain rfl:=he.symm;obtain⟨n,c',rfl,rfl,v2,v3,v4⟩:=bzg hv;obtain⟨z1,z2⟩:=afq (Im:=Imm F p (del k M) w) (w:=w) (B.σ e) _ h0;have hzl:z.cells.toList.length=infe.size:=by have h1:=Rel.len _ _ _ _ z1;rw[ajm,k4]at h1;exact h1
   have hbytes:(infe.bytes:Int)*((c':Nat):Int)<=281474976710656:=by
    have:((c'*infe.bytes:Nat):Int)<=281474976710656:=by have:=v4;simp only[nb]at this;omega
    rw[a4w,Int.mul_comm]at this;exact this
   have hr:=run_make (P:=P) w t e infe z hu hie hz kl kc (n:Int) (c':Int) (by omega) (by omega) hbytes (by have:=v3;simp only[nb]at this;omega);simp only[a0y]at hr;have hown:(w.alloc (.cells (madeCells z.cells (c'*infe.size)) e)).ownsRow 0 e infe.size (.slice (some ⟨w.heap.size,0,none⟩) n c') n (List.replicate n z.cells.toList).flatten:=by refine⟨by simp[←hzl],.inr ⟨w.heap.size,c',_,rfl,a1j _,a3e w _,v2,blj v3,size_madeCells _ _,?_⟩⟩;rw[aqk z infe.size (by simpa using hzl),←hzl];exact bgk c' n v2
   have hd:=bny h k (e0:=[]) (o:=(B.σ e).deep) (l:=List.replicate n (B.σ e).deep.dflt) (T:=fun _ _=>False) (Tr.refl (atu h k)) (dy k M) ⟨a4t w (.cells (madeCells z.cells (c'*infe.size)) e) none,a0k _⟩
    (ety:=e) (v:=.slice (some ⟨w.heap.size,0,none⟩) n c') (xs:=(List.replicate n z.cells.toList).flatten) (by rw[a05,ajm,k4];exact hown)
    (fun b hb=>by have hb:=ba9 hb;subst hb;exact⟨a0k _,(a0x.1 (a3e w _)).1⟩) (by rw[a05];omega) (fun i c hc=>hc.elim) (fun i j c _ hc=>hc.elim)
    (fun i x hx=>by
     rw[a4v]at hx;split at hx
     ·rename_i hi;cases hx;rw[show (B.σ e).deep.size=z.cells.toList.length by rw[ajm,k4,hzl],atn n i hi];exact z1
     ·cases hx) (.inl ⟨rfl,rfl,rfl⟩) qt
   refine⟨_,_,?_,hd⟩;simp[execOp,hop,hx.1,hy.1,hr]
 ·exact hv.1.elim
end
end Go.Bm
/- The ff machine:stores. -/
namespace Go.Bm
open Go.RowKit
section
variable {F:Fr} {p p' p'':Ow} {env:Env} {M M' M'':Mem} {a:Act} {w w' w'':World} {P:Program} {B:Tab}
theorem bug{π:cr}{ob ob2:Ob}{c:Prop}(h:be3 π ob=some (c,ob2)):∃(p0:cr)(i:Nat)(e:O)(l:List (Option e.strip.den)),vj π=some (p0,i)/\get p0 ob.o ob.x=some ⟨.sl (.op e),l⟩/\c=(ayj l=true)/\set p0 ob.o ob.x ⟨.sl e,ao7 e.dflt l⟩=some ob2:=by
 unfold be3 at h;split at h
 ·rename_i p0 i hx;split at h
  ·rename_i e l hq;split at h
   ·rename_i o2 hs;simp only[a0e,a0n]at h;obtain⟨rfl,rfl⟩:=h;exact⟨p0,i,e,l,hx,hq,rfl,hs⟩
   ·cases h
  ·cases h
 ·cases h
theorem baq(hB:TabOk P B)(h:Hp F p M w)(hL:∀b,¬p.L b){t:TypeId}{x0 y0:Operand}(x y:V)(hx:ao p.β M (Imm F p M w) w x (a.eval x0))(hy:ao p.β M (Imm F p M w) w y (a.eval y0))(hv:ab (uq B t x y M).vc){op:Oper}(hop:op.op=.store t x0 y0) :
  ∃w',(execOp a.eval op).run P w=.ok .skip w'/\gx F p M w false (uq B t x y M) undef w':=by
 unfold uq at hv⊢;split at hv
 ·rename_i k π;split at hv
  ·rename_i ob q hob hq
   cases hk:cd [(B.τ t).ok,kx M y.cells (B.τ t).size,gb q.o.strip.size (B.τ t).size,neg (isZ (B.τ t).size)]with
   |false=>rw[hk]at hv;exact hv.1.elim
   |true=>
    simp only[hk,a0d]at hv⊢;simp only[br,bz,a0o,a0b,iz,a0r]at hk;obtain⟨k1,k2,k3,k4⟩:=hk;split at hv
    ·rename_i z e M' hcv;split at hv
     ·rename_i obx ob' hgx hset
      cases hz:gb z.o.strip.size (B.τ t).size with
      |false=>rw[hz]at hv;exact hv.1.elim
      |true=>
       simp only[hz,a0d]at hv⊢;simp only[iz,a0r]at hz;have hcy:=ahh h hy (af3 (o7 k2));have hny:=zc h _ _ _ hcy (o7 k2)
       have hcvo:(go M' k=none\/go M' k=go M k)/\∃p1 S,Cv F p M w k z e (a.eval y0).cells.toList p1 M' S:=by
        cases hix:agp π with
        |true=>
         rw[hix]at hcv;simp only[a0d]at hcv;split at hcv
         ·rename_i z' e' M1 hcw;cases hcv;exact blb h k q.o _ _ z' e hcy hcw
         ·cases hcv
        |false=>rw[hix]at hcv;simp only[a0j]at hcv;obtain⟨g,r⟩:=bwv B.tk k (B.σ t) _ M p _ z e M' h hcy hcv;exact⟨.inr g,r⟩
       obtain⟨g,p1,S,cv⟩:=hcvo
       have hgk:go M' k=some ob:=by
        rcases g with g|g
        ·rw[g]at hgx;cases hgx
        ·rw[g,hob]
       have hp1:=cv.tr.hp;simp only[ao,ak,a0q,a0c,exists_eq_left']at hx;have hx1:Adr p1.β M' w k π (a.eval x0):=hx.same h (by rw[hgk,hob]) (by rw[cv.β]) (fun _ _ _=>rfl);obtain⟨ob2,us0,b,off,j1,j2,j3,j4,j5,j6⟩:=hx1;rw[hgk]at j1;cases j1;obtain⟨ob3,q1,q2⟩:=uk hq;rw[hob]at q1;cases q1;obtain⟨us,pl,S',e1,e2,e3,e4,e5,e6⟩:=look hp1 hgk j2 q2;rw[e1]at j5;simp only[a0e,a0n]at j5;obtain⟨rfl,rfl⟩:=j5;obtain⟨b0,off0,cur,ty',c1,c2,c3,c4,c5⟩:=e4 j4;simp only[a0e,a0n]at c1;obtain⟨rfl,rfl⟩:=c1;have hlen:us.length=(a.eval y0).cells.toList.length:=by rw[Rel.len _ _ _ _ e3,hny];exact k3
       have hpos:0<us.length:=by
        rw[hlen,hny]
        cases hs:(B.τ t).size with
        |zero=>rw[hs]at k4;simp[isZ]at k4
        |succ n=>omega
       have hfit:off+us.length<=cur.size:=by have:=c5 (us.length-1) us[us.length-1] (a0p (by omega));have:=(a0x.1 this).1;omega
       have hone:=ak.one h _ _ hcy;have hrun:=run_storeCells_at P b off ty' (a.eval y0).cells.toList 0 cur w c4 (by rw[←hlen];omega) hone;simp only[Nat.add_zero]at hrun;generalize hw':w.setRow b (cur.toList.take off++(a.eval y0).cells.toList++cur.toList.drop (off+(a.eval y0).cells.toList.length)).toArray=w' at hrun;have hchg:Chg w w' (fun c=>dp π=true/\∃o,some (b,off)=some (c,o)):=by subst hw';refine⟨rfl,⟨rfl,a0k _⟩,rfl,by simp,fun c hc=>setRow_other w b c _ (fun e=>hc ⟨j4,off,by rw[e]⟩)⟩
       have hblk:w'.heap[b]? = some (.cells (gg cur.toList off (a.eval y0).cells.toList).toArray ty' (0,0)):=by subst hw';rw[setRow_heap w b cur _ ty' _ c4];simp only[gg]
       have hput:=Tr.put (L':=fun _=>False) (us':=(a.eval y0).cells.toList) (S'':=S) hp1 hgk e2 e4 e6 hset (by simp only[O.size];rw[hz,k3]) (ui _ _ _ _ j4) hchg
        (fun _ b' off' hp cur' ty'' hc'=>by simp only[a0e,a0n]at hp;obtain⟨rfl,rfl⟩:=hp;rw[c4]at hc';cases hc';exact hblk) (fun c hc=>.inl ((cv.L c).2 (.inr hc))) (fun c hc=>hc.elim) (fun hc=>hc.choose_spec.1.elim)
        (fun hkp=>Rel.keep hkp _ _ _ _ (fun c hc=>hchg.old c (fun⟨_,o,e⟩=>by simp only[a0e,a0n]at e;obtain⟨rfl,_⟩:=e;exact (hp1.lim b ((cv.L b).2 (.inr hc))).2.2 k (cq hgk) c2)) cv.rel)
       have hgoal:(execOp a.eval op).run P w=.ok .skip w':=by
        have eτ:=hB.τ t k1;rw[←eτ]at k1 hny;obtain⟨inf,ud,hi,hu⟩:=gu k1;rw[ke hi hu]at hny;simp only[rk]at hny;have hsz:(a.eval y0).cells.size=inf.size:=by simpa using hny
        simp[execOp,hop,Instr.storeAt,Instr.sureAddr,j6,storeVar,sizeOf,typeInfo,hi,hsz,hrun]
       cases hcl:be3 π ob' with
       |none=>exact⟨w',hgoal,_,cv.tr.trans hput,fun b hb=>hb,by simp only[ao],fun _ hq=>by cases hq⟩
       |some co=>obtain⟨c,ob2⟩:=co;simp only[hcl,d7,fh,a0c]at hv⊢;obtain⟨p5,i5,e5,l5,x1,x2,rfl,x3⟩:=bug hcl;obtain⟨g1,_,_,_⟩:=beu π ob'.o ob'.x p5 i5 _ x1 x2;obtain⟨p6,hL6,hlab⟩:=Tr.relP hput.hp (my ob' M' (cq hgk)) g1 x2 x3 rfl (fun Im S vs r=>bz4 e5.dflt hv r);rw[bnw]at hlab;exact⟨w',hgoal,p6,cv.tr.trans (hput.trans hlab),fun b hb=>(hL6 b).1 hb,by simp only[ao],fun _ hq=>by cases hq⟩
     ·exact hv.1.elim
    ·exact hv.1.elim
  ·exact hv.1.elim
 ·exact hv.1.elim
end
end Go.Bm
/- The ff machine:appending. -/
namespace Go.Bm
open Go.RowKit
def Sr(w:World)(sz:Nat)(u:Value)(m:Nat)(news:List Value):Prop:=news.length=m*sz/\((u=.slice none 0 0/\m=0)\/∃a c,u=.slice (some a) m c/\∀(j:Nat)(x:Value),news[j]? = some x->w.cell? (a.add j)=some x)
theorem bma{w:World}{g off n sz:Nat}{cur:Array Value}{ety:TypeId}{xs:List Value}(hg:w.heap[g]? = some (.cells cur ety (0,0)))(ht:(cur.toList.drop off).take (n*sz)=xs) :
  ∀(j:Nat)(u:Value),xs[j]? = some u->w.cell? ((⟨g,off,none⟩:Addr).add j)=some u:=fun j u hu=>by
 rw[a24,a2f w g _ cur ety (0,0) hg];rw[←ht,a1d]at hu;split at hu
 ·rw[a1l]at hu;simpa using hu
 ·cases hu
theorem aqn{P:Program}(w:World)(t ty e ety:TypeId)(i:TypeInfo)(z:Value)(ht:P.underlying t=some (.slice e))(hi:P.info? e=some i)(hz:i.zero=some z)(hzs:z.cells.size=i.size)
  (v u:Value) (n m:Nat) (xs news:List Value) (hown:xm w ety i.size v n xs) (hsr:Sr w i.size u m news) (h1:∀x∈news,x.oneCell'=true) (hb0:i.bytes≠0) (hbytes:(n+m)*i.bytes<=nb) :
  ∃v' w' ety',(Builtin.append_ #[t,t] ty #[v,u]).run P w=.ok v' w'/\xm w' ety' i.size v' (n+m) (xs++news)/\(w.grownBy w' (mi v)/\w.drawn<=w'.drawn)/\
   (∀b,mi v'=some b->(mi v=some b\/w.heap.size<=b)/\b<w'.heap.size):=by
 have h63:n+m<=maxLen:=by refine blj (a0z ?_ hbytes);exact a4x _ (a3o hb0)
 have hsmall:n+m<=9223372036854775807:=by simp only[maxLen]at h63;omega
 obtain⟨hl,hsr⟩:=hsr;have hlen:(xs++news).length=(n+m)*i.size:=by rw[a0m,hown.1,hl,a2g]
 rcases hsr with⟨rfl,rfl⟩|⟨a,c,rfl,hnews⟩
 ·have hn:news=[]:=a18 (by simpa using hl);subst hn;refine⟨v,w,ety,?_,by simpa using hown,⟨⟨rfl,rfl,rfl,a0k _,fun _ _ _=>rfl⟩,a0k _⟩,fun b hb=>⟨.inl hb,?_⟩⟩
  ·rcases hown.2 with⟨rfl,oa,rfl⟩|⟨g,off,cap,cur,rfl,_,hnc,_⟩
   ·cases oa<;>simp[Builtin.append_,a06 ht,sizeOf,typeInfo,hi,Builtin.lenOf,Builtin.firstCells,storeCells]
   ·simp[Builtin.append_,a06 ht,sizeOf,typeInfo,hi,Builtin.lenOf,Builtin.firstCells,hnc,storeCells]
  ·rcases hown.2 with⟨rfl,oa,rfl⟩|⟨g,off,cap,cur,rfl,hg,_⟩
   ·cases oa<;>cases hb
   ·simp only[mi,a0e]at hb;subst hb;exact (a0x.1 hg).1
 have grown:∀(old:Nat)(row:Option Nat),
   (w.drew.alloc (.cells (xs.toArray++news.toArray++Builtin.zeroCells z.cells (grownCap w (n+m) old e-(n+m))) e)).ownsRow 0 e i.size
    (.slice (some ⟨w.heap.size,0,none⟩) (n+m) (grownCap w (n+m) old e)) (n+m) (xs++news)/\
   w.grownBy (w.drew.alloc (.cells (xs.toArray++news.toArray++Builtin.zeroCells z.cells (grownCap w (n+m) old e-(n+m))) e)) row:=by
  intro old row;have hge:=grownCap_ge w (n+m) old e;have hcm:grownCap w (n+m) old e<=maxLen:=grownCap_le_maxLen w (n+m) old e h63;refine⟨⟨hlen,.inr ⟨w.heap.size,_,_,rfl,a1j _,a3e w.drew _,hge,hcm,?_,?_⟩⟩,⟨rfl,rfl,rfl,by simp,fun k hk _=>Below.heap_alloc w.drew _ k hk⟩⟩
  ·simp only[Array.size_append,List.size_toArray,size_zeroCells,hzs,hown.1,hl,←a2g];congr 1;omega
  ·simp only[Array.toList_append,a01];rw[←a01,←hlen];exact a4n
 have rt:∀(N K b:Nat),mi (.slice (some ⟨w.heap.size,0,none⟩) N K)=some b->b=w.heap.size:=fun N K b hb=>by
  cases K with
  |zero=>cases hb
  |succ k=>simp only[mi,a0e]at hb;exact hb.symm
 rcases hown.2 with⟨rfl,oa,rfl⟩|⟨g,off,cap,cur,rfl,hg,hnc,hcm,hcs,htake⟩
 ·have hx:xs=[]:=a18 (by simpa using hown.1);subst hx;by_cases hm:m=0
  ·subst hm;have hn:news=[]:=a18 (by simpa using hl);subst hn;refine⟨.slice oa 0 0,w,ety,?_,hown,⟨⟨rfl,rfl,rfl,a0k _,fun _ _ _=>rfl⟩,a0k _⟩,fun b hb=>by cases oa<;>cases hb⟩;cases oa<;>simp[Builtin.append_,a06 ht,sizeOf,typeInfo,hi,Builtin.lenOf,Builtin.firstCells,loadCells,loadCellsFrom,storeCells]
  ·cases oa with
   |none=>have hr:=run_append_nil (P:=P) w t ty e i z ht hi hz a m c news hl hnews (by omega) (by omega) (by have hb:=hbytes;simp only[a16,nb]at hb;omega);have hgr:=grown 0 (mi (.slice none 0 0));simp only[a16,a2s,Array.empty_append]at hgr⊢;exact⟨_,_,e,hr,bce hgr.1,⟨hgr.2,a2a _⟩,fun b hb=>by have:=rt _ _ _ hb;subst this;exact⟨.inr (a0k _),by simp⟩⟩
   |some a0=>have hr:=run_append_grow (P:=P) w t ty e i z ht hi hz a0 0 0 [] (by simp) (fun j u hu=>by simp at hu) a m c news hl hnews (by omega) (by omega) (growslice_fits (by omega) (by simpa only [nb]using hbytes));have hgr:=grown 0 (mi (.slice (some a0) 0 0));exact⟨_,_,e,hr,bce hgr.1,⟨hgr.2,a2a _⟩,fun b hb=>by have:=rt _ _ _ hb;subst this;exact⟨.inr (a0k _),by simp⟩⟩
 ·by_cases hroom:n+m<=cap+1
  ·have hfit:off+n*i.size+news.length<=cur.size:=by rw[hl,hcs,a22,←a2g];exact Nat.add_le_add_left (a2q _ hroom) _
   have hr:(Builtin.append_ #[t,t] ty #[.slice (some ⟨g,off,none⟩) n (cap+1),.slice (some a) m c]).run P w =
     .ok (.slice (some ⟨g,off,none⟩) (n+m) (cap+1)) (w.setRow g (cur.toList.take (off+n*i.size)++news++cur.toList.drop (off+n*i.size+news.length)).toArray):=by
    have hf:=run_firstCells_some (P:=P) w i.size m a m c news hl hnews;have hst:=run_storeCells_at P g (off+n*i.size) ety news 0 cur w hg (by simpa using hfit) h1;simp only[Nat.add_zero]at hst;simp[Builtin.append_,a06 ht,sizeOf,typeInfo,hi,Builtin.lenOf,hroom,hf,a24,hst]
   have hgrow:w.grownBy (w.setRow g (cur.toList.take (off+n*i.size)++news++cur.toList.drop (off+n*i.size+news.length)).toArray) (mi (.slice (some ⟨g,off,none⟩) n (cap+1))):=⟨rfl,rfl,rfl,by simp,fun k _ hk=>setRow_other w g k _ (fun e=>hk (by simp[mi,e]))⟩;refine⟨_,_,ety,hr,⟨hlen,.inr ⟨g,off,cap,_,rfl,setRow_heap w g cur _ ety _ hg,hroom,hcm,?_,?_⟩⟩,⟨hgrow,a0k _⟩,fun b hb=>?_⟩
   ·simp only[List.size_toArray,a0m,a03,a13,a23];omega
   ·have hd:(cur.toList.take (off+n*i.size)++news++cur.toList.drop (off+n*i.size+news.length)).drop off=xs++news++cur.toList.drop (off+n*i.size+news.length):=by have hcl:cur.toList.length=cur.size:=a23;rw[a01,a36 (by simp;omega),a4r,show off+n*i.size-off=n*i.size by omega,htake,a01]
    show ((cur.toList.take (off+n*i.size)++news++cur.toList.drop (off+n*i.size+news.length)).drop off).take _=_;rw[hd,←hlen];exact a4n
   ·simp only[mi,a0e]at hb;subst hb;exact⟨.inl rfl,by simpa using (a0x.1 hg).1⟩
  ·have holds:=bma hg htake;have hr:=run_append_grow (P:=P) w t ty e i z ht hi hz ⟨g,off,none⟩ n (cap+1) xs hown.1 holds a m c news hl hnews (by omega) (by omega) (growslice_fits (by omega) (by simpa only [nb]using hbytes));have hgr:=grown (cap+1) (mi (.slice (some ⟨g,off,none⟩) n (cap+1)));exact⟨_,_,e,hr,bce hgr.1,⟨hgr.2,a2a _⟩,fun b hb=>by have:=rt _ _ _ hb;subst this;exact⟨.inr (a0k _),by simp⟩⟩
theorem au0{P:Program}(w:World)(t ty e:TypeId)(i:TypeInfo)(ht:P.underlying t=some (.slice e))(hi:P.info? e=some i)(ety:TypeId)(v:Value)(n:Nat)(xs:List Value)(hown:xm w ety i.size v n xs)(ob:Option Addr) :
  (Builtin.append_ #[t,t] ty #[v,.slice ob 0 0]).run P w=.ok v w:=by
 rcases hown.2 with⟨rfl,oa,rfl⟩|⟨g,off,cap,cur,rfl,hg,hnc,_⟩
 ·cases oa<;>cases ob<;>simp[Builtin.append_,a06 ht,sizeOf,typeInfo,hi,Builtin.lenOf,Builtin.firstCells,loadCells,loadCellsFrom,storeCells]
 ·cases ob<;>simp[Builtin.append_,a06 ht,sizeOf,typeInfo,hi,Builtin.lenOf,Builtin.firstCells,hnc,loadCells,loadCellsFrom,storeCells]
theorem bmh{w:World}{b o n j:Nat}{u:Value}(h:(cellsOf w b o n)[j]? = some u):j<n/\u=(w.cell? ⟨b,o+j,none⟩).getD undef:=by
 unfold cellsOf at h;rw[a1r]at h;by_cases hj:j<n
 ·rw[a2p hj]at h;exact⟨hj,by simpa using h.symm⟩
 ·rw[a12 (by simpa using hj)]at h;cases h
theorem bmq(w:World)(b o sz n i:Nat)(hi:i<n):((cellsOf w b o (n*sz)).drop (i*sz)).take sz=cellsOf w b (o+i*sz) sz:=by
 have hle:i*sz+sz<=n*sz:=by have:=a2q sz (show i+1<=n from hi);rw[a2g]at this;omega
 unfold cellsOf;apply a2o;intro j;rw[a1d,a1l,a1r,a1r];by_cases hj:j<sz
 ·rw[a0a hj,a2p (by omega),a2p hj];simp only[a1e];congr 4;omega
 ·rw[ds hj,a12 (by simpa using hj)];rfl
section
variable {F:Fr} {p p' p'':Ow} {env:Env} {M M' M'':Mem} {a:Act} {w w' w'':World} {P:Program} {B:Tab}
theorem by9{Im:Nat->Prop}{t:T}{l:List t.den}{u:Value}(h:aq Im w (.sl t) l [u]):∃news,Sr w t.size u l.length news/\∀(i:Nat)(x:t.den),l[i]? = some x->aq Im w t x ((news.drop (i*t.size)).take t.size):=by
 simp only[aq,a0q,a0c]at h;obtain⟨oa,cap,rfl,h1,h2,h3⟩:=h
 cases oa with
 |none=>obtain⟨h4,rfl⟩:=h2 rfl;exact⟨[],⟨by simp[h4],.inl ⟨by rw[h4],h4⟩⟩,fun i x hx=>by have:=(a1i.1 hx).1;omega⟩
 |some ad=>
  by_cases hz:l.length=0
  ·exact⟨[],⟨by simp[hz],.inr ⟨ad,cap,rfl,fun j x hj=>by simp at hj⟩⟩,fun i x hx=>by have:=(a1i.1 hx).1;omega⟩
  ·obtain⟨k1,k2,k3⟩:=h3 ad rfl (by omega);obtain⟨b,o,s⟩:=ad;simp only at k1 k2 k3;subst k1;have hrow:∀(i:Nat)(x:t.den),l[i]? = some x->∃us,pg w b (o+i*t.size) us/\us.length=t.size/\aq Im w t x us:=fun i x hx=>by obtain⟨us,u1,u2⟩:=k3 i x hx;exact⟨us,u1,aq.len t x us u2,u2⟩
   refine⟨cellsOf w b o (l.length*t.size),⟨by simp[cellsOf],.inr ⟨_,cap,rfl,fun j x hj=>?_⟩⟩,fun i x hx=>?_⟩
   ·obtain⟨hj1,rfl⟩:=bmh hj;have hpos:0<t.size:=a3o (fun h0=>by rw[h0]at hj1;omega);have hdiv:j / t.size<l.length:=(Nat.div_lt_iff_lt_mul hpos).2 hj1;obtain⟨us,u1,u2,u3⟩:=hrow (j / t.size) _ (a0p hdiv);have hmod:=Nat.mod_lt j hpos;have hc:=u1 (j%t.size) us[j%t.size] (a0p (by omega));have e:o+j / t.size*t.size+j%t.size=o+j:=by have:=Nat.div_add_mod' j t.size;omega
    rw[e]at hc;rw[a24,hc];rfl
   ·have hi:=(a1i.1 hx).1;rw[bmq w b o t.size l.length i hi];obtain⟨us,u1,u2,u3⟩:=hrow i x hx;rw[aai u2 u1];exact u3
theorem ap7{Im:Nat->Prop}{o:O}{l:List o.strip.den}{S:Nat->Prop}{u:Value}(h:Rel Im w (.sl o) l S [u]):∃ety xs,∃T:Nat->Nat->Prop,xm w ety o.size u l.length xs/\l.length<=nb/\(∀c,mi u=some c->S c)/\(∀i c,T i c->S c/\mi u≠some c)/\(∀i j c,i≠j->T i c->¬T j c)/\
  (∀(i:Nat)(x:o.strip.den),l[i]? = some x->Rel Im w o x (T i) ((xs.drop (i*o.size)).take o.size))/\Sr w o.size u l.length xs:=by
 simp only[Rel,a0q,a0c]at h;obtain⟨v,ety,xs,T,rfl,h2,h3,h4,h5,h6,h7⟩:=h;refine⟨ety,xs,T,h2,h3,h4,h5,h6,h7,h2.1,?_⟩;rcases h2.2 with⟨hn,oa,rfl⟩|⟨g,off,cap,cur,rfl,hg,_,_,_,r⟩
 ·cases oa with
  |none=>exact .inl ⟨rfl,hn⟩
  |some b=>have hx:xs=[]:=a18 (by rw[h2.1,hn];simp);exact .inr ⟨b,0,by rw[hn],fun j y hy=>by rw[hx]at hy;simp at hy⟩
 ·exact .inr ⟨_,cap+1,rfl,bma hg r⟩
theorem bf1{xs ys:List Value}{n sz i:Nat}(hx:xs.length=n*sz)(hi:i<n):((xs++ys).drop (i*sz)).take sz=(xs.drop (i*sz)).take sz:=by
 have hle:i*sz+sz<=n*sz:=by have:=a2q sz (show i+1<=n from hi);rw[a2g]at this;omega
 rw[a36 (by omega),a4o (by rw[a13];omega)]
theorem az1{xs ys:List Value}{n sz i:Nat}(hx:xs.length=n*sz)(hi:n<=i):((xs++ys).drop (i*sz)).take sz=(ys.drop ((i-n)*sz)).take sz:=by have hle:n*sz<=i*sz:=a2q sz hi;rw[List.drop_append,a4p (by omega),a2s,hx,Nat.sub_mul]
theorem bjh{Q:List Value->Prop}{sz m:Nat}{news:List Value}(hl:news.length=m*sz)(hr:∀i,i<m->∀u∈(news.drop (i*sz)).take sz,u.oneCell'=true):∀u∈news,u.oneCell'=true:=by intro u hu;obtain⟨j,hj,rfl⟩:=a2d hu;have hpos:0<sz:=a3o (fun h0=>by rw[hl,h0]at hj;omega);have hdiv:j / sz<m:=(Nat.div_lt_iff_lt_mul hpos).2 (by rw[←hl];exact hj);have hmod:=Nat.mod_lt j hpos;refine hr (j / sz) hdiv _ (a3m (i:=j%sz) ?_);rw[a1d,a0a hmod,a1l,show j / sz*sz+j%sz=j by have:=Nat.div_add_mod' j sz;omega];exact a0p hj
theorem boz(hp:Hp F p M w)(k:Nat)(hk:go M k=none){t ty e:TypeId}{i:TypeInfo}{z:Value}(ht:P.underlying t=some (.slice e))(hi:P.info? e=some i)(hz:i.zero=some z)(hzs:z.cells.size=i.size)(hb0:i.bytes≠0)
  {o:O} {l m:List o.strip.den} {S1 S2:Nat->Prop} {v u:Value} (ho:o.size=i.size) (h1:Rel (Imm F p M w) w (.sl o) l S1 [v]) (h2:Rel (Imm F p M w) w (.sl o) m S2 [u]) (hS1:∀b,S1 b->p.L b) (hS2:∀b,S2 b->p.L b) (hd:∀b,S1 b->¬S2 b) (hroom:c9 l.length m.length i.bytes) :
  ∃v' w' p',(Builtin.append_ #[t,t] ty #[v,u]).run P w=.ok v' w'/\Tr F p M w [] p' ((k,⟨.sl o,l++m⟩)::M) w'/\(∀b,¬p'.L b)/\ao p'.β ((k,⟨.sl o,l++m⟩)::M) (Imm F p' ((k,⟨.sl o,l++m⟩)::M) w') w' (.ref k []) v':=by
 obtain⟨ety,xs,T1,a1,a2,a3,a4,a5,a6,_⟩:=ap7 h1;obtain⟨ety2,ys,T2,b1,b2,b3,b4,b5,b6,b7⟩:=ap7 h2;rw[ho]at a1 b7;unfold c9 at hroom;obtain⟨v',w',ety',r1,r2,⟨r3,r3d⟩,r4⟩:=aqn (P:=P) w t ty e ety i z ht hi hz hzs v u l.length m.length xs ys a1 b7 (bjh (Q:=fun _=>True) (sz:=o.size) (m:=m.length) b1.1 (fun i hi=>Rel.one _ _ _ _ (b6 i _ (a0p hi)))) hb0 hroom;have hext:ExtL w w' p.L:=⟨r3.os,⟨r3.tape,r3d⟩,r3.output,r3.size,fun b hb hL=>r3.block b hb (fun e=>hL (hS1 b (a3 b e.symm)))⟩;have hnb:l.length+m.length<=nb:=a0z (a4x _ (a3o hb0)) hroom;have hx1:xs.length=l.length*o.size:=by rw[ho];exact a1.1
 refine⟨v',w',_,r1,Tr.new hp k hk v' (fun b=>mi v'=some b\/(∃i,T1 i b)\/∃i,T2 i b) ⟨.sl o,l++m⟩ hext (fun b hb=>?_) (fun hkp=>?_),fun b hb=>hb,?_⟩
 ·rcases hb with hb|⟨i,hb⟩|⟨i,hb⟩
  ·rcases (r4 b hb).1 with h|h
   ·exact .inr (hS1 b (a3 b h))
   ·exact .inl ⟨h,(r4 b hb).2⟩
  ·exact .inr (hS1 b (a4 i b hb).1)
  ·exact .inr (hS2 b (b4 i b hb).1)
 ·have hne1:∀i b,T1 i b->mi v≠some b:=fun i b hb=>(a4 i b hb).2;have hne2:∀i b,T2 i b->mi v≠some b:=fun i b hb e=>hd b (a3 b e) (b4 i b hb).1;have hlt:∀b,p.L b->b<w.heap.size:=fun b hb=>(hp.lim b hb).1
  have hnr:∀b,p.L b->mi v≠some b->mi v'≠some b:=fun b hb hne e=>by
   rcases (r4 b e).1 with h|h
   ·exact hne h
   ·have:=hlt b hb;omega
  simp only[Rel];refine⟨v',ety',xs++ys,fun i c=>(i<l.length/\T1 i c)\/(l.length<=i/\T2 (i-l.length) c),rfl,by rw[a0m,ho];exact r2,by rw[a0m];exact hnb,fun c hc=>.inl hc,fun i c hc=>?_,fun i j c hij hc=>?_,fun i x hx=>?_⟩
  ·rcases hc with⟨_,hc⟩|⟨_,hc⟩
   ·exact⟨.inr (.inl ⟨i,hc⟩),hnr c (hS1 c (a4 i c hc).1) (hne1 i c hc)⟩
   ·exact⟨.inr (.inr ⟨_,hc⟩),hnr c (hS2 c (b4 _ c hc).1) (hne2 _ c hc)⟩
  ·rcases hc with⟨g1,hc⟩|⟨g1,hc⟩
   ·rintro (⟨g2,hc'⟩|⟨g2,hc'⟩)
    ·exact a5 i j c hij hc hc'
    ·exact hd c (a4 i c hc).1 (b4 _ c hc').1
   ·rintro (⟨g2,hc'⟩|⟨g2,hc'⟩)
    ·exact hd c (a4 j c hc').1 (b4 _ c hc).1
    ·exact b5 _ _ c (by omega) hc hc'
  ·by_cases hil:i<l.length
   ·rw[a1f hil]at hx;rw[bf1 hx1 hil];refine Rel.wide _ _ (T1 i) _ _ (fun b hb=>.inl ⟨hil,hb⟩) (Rel.keep hkp _ _ _ _ (fun b hb=>r3.block b (hlt b (hS1 b (a4 i b hb).1)) (fun e=>hne1 i b hb e.symm)) (a6 i x hx))
   ·rw[a1s (by omega)]at hx;rw[az1 hx1 (by omega)];refine Rel.wide _ _ (T2 (i-l.length)) _ _ (fun b hb=>.inr ⟨by omega,hb⟩) (Rel.keep hkp _ _ _ _ (fun b hb=>r3.block b (hlt b (hS2 b (b4 _ b hb).1)) (fun e=>hne2 _ b hb e.symm)) (b6 _ x hx))
 ·simp only[ao,ak];refine⟨⟨.sl o,l++m⟩,none,qd _ _ _,by simp only[gok],⟨⟨.sl o,l++m⟩,by simp only[get]⟩,?_⟩;rw[ain];simp only[res]
theorem bcq(hp:Hp F p M w)(k:Nat)(hk:go M k=none){t ty e:TypeId}{i:TypeInfo}{z:Value}(ht:P.underlying t=some (.slice e))(hi:P.info? e=some i)(hz:i.zero=some z)(hzs:z.cells.size=i.size)(hb0:i.bytes≠0)
  {o:O} {l m:List o.strip.den} {S1:Nat->Prop} {v u:Value} (ho:o.size=i.size) (h1:Rel (Imm F p M w) w (.sl o) l S1 [v]) (h2:aq (Imm F p M w) w (.sl o.strip) m [u]) (hS1:∀b,S1 b->p.L b) (hroom:c9 l.length m.length i.bytes) :
  ∃v' w' p',(Builtin.append_ #[t,t] ty #[v,u]).run P w=.ok v' w'/\Tr F p M w [] p' ((k,⟨.sl (.fz o.strip),l++m⟩)::M) w'/\(∀b,¬p'.L b)/\ao p'.β ((k,⟨.sl (.fz o.strip),l++m⟩)::M) (Imm F p' ((k,⟨.sl (.fz o.strip),l++m⟩)::M) w') w' (.ref k []) v':=by
 obtain⟨ety,xs,T1,a1,a2,a3,a4,a5,a6,_⟩:=ap7 h1;obtain⟨ys,b7,b6⟩:=by9 h2;have ho':o.strip.size=i.size:=ho;rw[ho]at a1;rw[ho']at b7;unfold c9 at hroom;obtain⟨v',w',ety',r1,r2,⟨r3,r3d⟩,r4⟩:=aqn (P:=P) w t ty e ety i z ht hi hz hzs v u l.length m.length xs ys a1 b7 (bjh (Q:=fun _=>True) (sz:=o.strip.size) (m:=m.length) (by rw[ho'];exact b7.1) (fun i hi=>aq.one _ _ _ (b6 i _ (a0p hi)))) hb0 hroom;have hext:ExtL w w' p.L:=⟨r3.os,⟨r3.tape,r3d⟩,r3.output,r3.size,fun b hb hL=>r3.block b hb (fun e=>hL (hS1 b (a3 b e.symm)))⟩;have hnb:l.length+m.length<=nb:=a0z (a4x _ (a3o hb0)) hroom;have hx1:xs.length=l.length*o.size:=by rw[ho];exact a1.1
 refine⟨v',w',_,r1,Tr.new hp k hk v' (fun b=>mi v'=some b) ⟨.sl (.fz o.strip),l++m⟩ hext (fun b hb=>?_) (fun hkp=>?_),fun b hb=>hb,?_⟩
 ·rcases (r4 b hb).1 with h|h
  ·exact .inr (hS1 b (a3 b h))
  ·exact .inl ⟨h,(r4 b hb).2⟩
 ·have hlt:∀b,p.L b->b<w.heap.size:=fun b hb=>(hp.lim b hb).1
  have hnr:∀b,p.L b->mi v≠some b->mi v'≠some b:=fun b hb hne e=>by
   rcases (r4 b e).1 with h|h
   ·exact hne h
   ·have:=hlt b hb;omega
  have hT:∀i b,T1 i b->Imm F (p.upd k v' fun b=>mi v'=some b) ((k,⟨.sl (.fz o.strip),l++m⟩)::M) w' b:=fun i b hb=>by
   have hLb:=hS1 b (a4 i b hb).1;refine⟨by have:=hlt b hLb;have:=r3.size;omega,.inr (hp.lim b hLb).2.1.r,fun h=>h,fun j hj=>?_⟩;by_cases e:j=k
   ·subst e;rw[show (p.upd j v' fun b=>mi v'=some b).σ j=fun b=>mi v'=some b by simp[Ow.upd,Ow.updL]];exact hnr b hLb (a4 i b hb).2
   ·rw[show (p.upd k v' fun b=>mi v'=some b).σ j=p.σ j by simp[Ow.upd,Ow.updL,e]];refine (hp.lim b hLb).2.2 j ?_;unfold c6 at hj⊢
    rwa [dn,ds (a0u e)]at hj
  simp only[Rel];have hsz:(O.fz o.strip).size=o.size:=rfl;refine⟨v',ety',xs++ys,fun _ _=>False,rfl,by rw[a0m,hsz,ho];exact r2,by rw[a0m];exact hnb,fun c hc=>hc,fun i c hc=>hc.elim,fun i j c _ hc=>hc.elim,fun i x hx=>?_⟩;rw[hsz];by_cases hil:i<l.length
  ·rw[a1f hil]at hx;rw[bf1 hx1 hil];have h3:=Rel.keep hkp _ _ _ _ (fun b hb=>r3.block b (hlt b (hS1 b (a4 i b hb).1)) (fun e=>(a4 i b hb).2 e.symm)) (a6 i x hx);exact Rel.frz (fun _ h=>h) _ _ _ _ (hT i) h3
  ·rw[a1s (by omega)]at hx;rw[az1 hx1 (by omega)];exact aq.keep hkp _ _ _ (b6 _ x hx)
 ·simp only[ao,ak];refine⟨⟨.sl (.fz o.strip),l++m⟩,none,qd _ _ _,by simp only[gok],⟨⟨.sl (.fz o.strip),l++m⟩,by simp only[get]⟩,?_⟩;rw[ain];simp only[res]
end
end Go.Bm
/- The ff machine:appending,every case. -/
namespace Go.Bm
open Go.RowKit
section
variable {F:Fr} {p p' p'':Ow} {env:Env} {M M' M'':Mem} {a:Act} {w w' w'':World} {P:Program} {B:Tab}
def bhx(F:Fr)(p:Ow)(M:Mem)(w:World)(u:Value):Src->Prop
 |.nil=>∃oa,u=.slice oa 0 0
 |.own j e l=>go M j=some ⟨.sl e,l⟩/\u=p.β j
 |.dat ev M1 t l=>Tr F p M w ev p M1 w/\aq (Imm F p M1 w) w (.sl t) l [u]/\acc M M1
theorem ccc(h:Hp F p M w)(x:V)(u:Value)(hx:ao p.β M (Imm F p M w) w x u)(s:Src)(hs:ald M x=some s):bhx F p M w u s:=by
 unfold ald at hs;split at hs
 ·cases hs;simp only[ao,ak,a0q,a0c]at hx;exact hx
 ·cases hs;exact⟨Tr.refl h,cf.1 hx,acc.refl M⟩
 ·rename_i j π;simp only[ao,ak]at hx;split at hs
  ·rename_i e l hj;cases hs;obtain⟨ob,pl,k1,k2,k3,k4⟩:=hx;simp only[res,a0e,a0n,a0q,a0c]at k4;exact⟨hj,k4.1.symm⟩
  ·rename_i ob hj _;split at hs
   ·rename_i e l hq;cases hs;exact⟨Tr.frz h j ob hj,ayq h hj hq hx,asp j M⟩
   ·rename_i t l hq;cases hs;exact⟨Tr.frz h j ob hj,ayq h hj hq hx,asp j M⟩
   ·cases hs
  ·cases hs
 ·cases hs
structure ApT (P:Program) (t e:TypeId) (i:TypeInfo) (z:Value):Prop where
 ht:P.underlying t=some (.slice e)
 hi:P.info? e=some i
 hz:i.zero=some z
 hzs:z.cells.size=i.size
 hb:i.bytes≠0
theorem gx.app{r:Rs}{v:Value}{w':World}{p':Ow}(ht:Tr F p M w r.ev p' r.M w')(hL:∀b,¬p'.L b)(hv:ao p'.β r.M (Imm F p' r.M w') w' r.av v):gx F p M w false r v w':=⟨p',ht,hL,hv,fun _ h=>by cases h⟩
theorem gx.appQ{r:Rs}{v:Value}{w':World}{p':Ow}{qt:Bool}(ht:Tr F p M w r.ev p' r.M w')(hL:∀b,¬p'.L b)(hv:ao p'.β r.M (Imm F p' r.M w') w' r.av v)(hf:fresh M r.ev=false):gx F p M w qt r v w':=⟨p',ht,hL,hv,fun h=>by rw[hf]at h;cases h⟩
variable {t e ty':TypeId} {i:TypeInfo} {z:Value}
structure Tk (F:Fr) (p:Ow) (M:Mem) (w:World) (q:Ob) (e:List Ev) (vs:List Value) (p':Ow) (M':Mem) (S:Nat->Prop):Prop where
 L:∀b,S b->p'.L b
 tr:Tr F p M w e p' M' w
 rel:Rel (Imm F p' M' w) w q.o q.x S vs
theorem Cv.tk{k:Nat}{q:Ob}{e:List Ev}{vs:List Value}{S:Nat->Prop}(h:Cv F p M w k q e vs p' M' S):Tk F p M w q e vs p' M' S:=⟨fun b hb=>(h.L b).2 (.inr hb),h.tr,h.rel⟩
theorem au8(A:ApT P t e i z){p1:Ow}{M1 M0:Mem}{o:O}{l:List o.strip.den}{S1:Nat->Prop}{v u:Value}{ev:List Ev}(ho:o.size=i.size)(cv:Tk F p M w ⟨.sl o,l⟩ ev [v] p1 M1 S1)(hL:∀b,¬p.L b)
  (d j:Nat) {e':O} {m:List e'.strip.den} (hj:go M1 j=some ⟨.sl e',m⟩) (hu:u=p1.β j) (hjg:j<gid) (hv:ab (ai9 i.bytes d o l j e' m ev M1 M0).vc) :
  ∃v' w',(Builtin.append_ #[t,t] ty' #[v,u]).run P w=.ok v' w'/\gx F p M w false (ai9 i.bytes d o l j e' m ev M1 M0) v' w':=by
 have hp1:=cv.tr.hp;unfold ai9 at hv⊢;split at hv
 ·rename_i m' he hm;simp only[d7,fh,a0c]at hv;have:=O.beq_eq he;subst this;have hq:=xq hm;simp only[Ob.mk.injEq,heq_eq_eq,a0f]at hq;subst hq;have c2:=Cv.whole hp1 j hj hjg;have c2r:=c2.rel;have hL2:∀b,S1 b->(⟨p1.β,p1.σ,fun b=>p1.L b\/p1.σ j b⟩:Ow).L b:=fun b hb=>.inl (cv.L b hb);have hlim:=hp1.lim;have r1:=Rel.keep c2.tr.keep _ _ _ _ (fun _ _=>rfl) cv.rel;obtain⟨hk1,hk2⟩:=Hp.del c2.tr.hp d;have r1':=Rel.keep hk2 _ _ _ _ (fun _ _=>rfl) r1;have c2r':=Rel.keep hk2 _ _ _ _ (fun _ _=>rfl) c2r;rw[←hu]at c2r';obtain⟨v',w',p',g1,g2,g3,g4⟩:=boz (P:=P) (ty:=ty') hk1 d (dy d _) A.ht A.hi A.hz A.hzs A.hb ho r1' c2r' hL2 (fun b hb=>.inr hb) (fun b hb hb'=>(hlim b (cv.L b hb)).2.2 j (cq hj) hb') hv;refine⟨v',w',g1,gx.app (r:=⟨_,.ref d [],ap ev [.kl j,.kl d],_⟩) ?_ g3 g4⟩;have:=cv.tr.trans (c2.tr.trans ((Tr.kl c2.tr.hp d).trans g2));simpa only [ap]using this
 ·split at hv
  ·rename_i m1 hm1;simp only[d7,fh,a0c]at hv;have hf:=Tr.frz hp1 j _ hj;have hrj:=hp1.objs j _ hj;have hrf:aq (Imm F p1 (del j M1) w) w (.sl e'.strip) m [u]:=by rw[hu];have:=Rel.frz (fun b hb=>((hp1.del j).2 b hb).1) _ _ (p1.σ j) _ (fun b hb=>aft hp1 (cq hj) hb) hrj;simpa only [O.strip]using this
   have hrf2:aq (Imm F p1 (del j M1) w) w (.sl o.strip) m1 [u]:=x5 hm1 hrf;have r1:=Rel.keep hf.keep _ _ _ _ (fun _ _=>rfl) cv.rel;obtain⟨hk1,hk2⟩:=Hp.del hf.hp d;obtain⟨v',w',p',g1,g2,g3,g4⟩:=bcq (P:=P) (ty:=ty') hk1 d (dy d _) A.ht A.hi A.hz A.hzs A.hb ho (Rel.keep hk2 _ _ _ _ (fun _ _=>rfl) r1) (aq.keep hk2 _ _ _ hrf2) cv.L hv;refine⟨v',w',g1,gx.app (r:=⟨_,.ref d [],ap ev [.fz j ⟨.sl e',m⟩,.kl d],_⟩) ?_ g3 g4⟩;have:=cv.tr.trans (hf.trans ((Tr.kl hf.hp d).trans g2));simpa only [ap]using this
  ·exact hv.1.elim
theorem aue(A:ApT P t e i z){p1:Ow}{M1 M0:Mem}{o:O}{l:List o.strip.den}{S1:Nat->Prop}{v u:Value}{ev:List Ev}(ho:o.size=i.size)(cv:Tk F p M w ⟨.sl o,l⟩ ev [v] p1 M1 S1)(hL:∀b,¬p.L b)
  (d:Nat) {t':T} {m:List t'.den} (hm:aq (Imm F p1 M1 w) w (.sl t') m [u]) (hv:ab (ajz i.bytes d o l t' m ev M1 M0).vc) :
  ∃v' w',(Builtin.append_ #[t,t] ty' #[v,u]).run P w=.ok v' w'/\gx F p M w false (ajz i.bytes d o l t' m ev M1 M0) v' w':=by
 have hp1:=cv.tr.hp;unfold ajz at hv⊢;split at hv
 ·rename_i m1 hm1;simp only[d7,fh,a0c]at hv;have hrf2:aq (Imm F p1 M1 w) w (.sl o.strip) m1 [u]:=x5 hm1 hm;obtain⟨hk1,hk2⟩:=Hp.del hp1 d;obtain⟨v',w',p',g1,g2,g3,g4⟩:=bcq (P:=P) (ty:=ty') hk1 d (dy d _) A.ht A.hi A.hz A.hzs A.hb ho (Rel.keep hk2 _ _ _ _ (fun _ _=>rfl) cv.rel) (aq.keep hk2 _ _ _ hrf2) cv.L hv;refine⟨v',w',g1,gx.app (r:=⟨_,.ref d [],ap ev [.kl d],_⟩) ?_ g3 g4⟩;have:=cv.tr.trans ((Tr.kl hp1 d).trans g2);simpa only [ap]using this
 ·exact hv.1.elim
theorem bsb{π:cr}{ob ob':Ob}(h:bvl π ob=some ob'):∃(p0:cr)(i:Nat)(e:O)(l:List e.strip.den),vj π=some (p0,i)/\get p0 ob.o ob.x=some ⟨.sl e,l⟩/\set p0 ob.o ob.x ⟨.sl (.op e),anh l i⟩=some ob':=by
 unfold bvl at h;split at h
 ·rename_i p0 i hx;split at h
  ·rename_i e l hq;exact⟨p0,i,e,l,hx,hq,h⟩
  ·cases h
 ·cases h
theorem bv1(hB:TabOk P B)(h:Hp F p M w)(hL:∀b,¬p.L b){t:TypeId}(dst:Option Nat)(s x:V)(v u:Value)(hs:ao p.β M (Imm F p M w) w s v)(hx:ao p.β M (Imm F p M w) w x u)(hv:ab (air B dst t s x M).vc) :
  ∃v' w',(Builtin.append_ #[t,t] ty' #[v,u]).run P w=.ok v' w'/\gx F p M w false (air B dst t s x M) v' w':=by
 unfold air at hv⊢;split at hv
 ·rename_i e d src he hsrc;have hso:=ccc h x u hx src hsrc
  cases hk:cd [(B.τ t).ok,(B.τ e).ok,neg (Nat.beq (B.τ e).bytes 0),B.z e,gb (B.σ e).size (B.τ e).size]with
  |false=>rw[hk]at hv;exact hv.1.elim
  |true=>
   simp only[hk,a0d]at hv⊢;simp only[br,bz,a0o,a0b,iz,a0r]at hk;obtain⟨k1,k2,k3,k4,k5⟩:=hk;have eτ:=hB.τ t k1;have eτ':=hB.τ e k2;obtain⟨infe,z,hie,hz,h0⟩:=alw hB k4;rw[←eτ']at k2 k3 k5;simp only[←eτ']at hv⊢;rw[←eτ]at k1 he;obtain⟨inf,ud,hi,hu⟩:=gu k1;obtain⟨infe',ue,hie',hue⟩:=gu k2;rw[hie]at hie';cases hie';rw[ke hi hu]at he;rw[ke hie hue]at k3 k5;simp only[ke hie hue]at hv⊢;simp only[rk]at he k3 k5 hv⊢;cases ud<;>simp at he;obtain rfl:=he.symm;have hzs:z.cells.size=infe.size:=by have h1:=Rel.len _ _ _ _ (afq (Im:=Imm F p M w) (w:=w) (B.σ e) _ h0).1;rw[ajm,k5]at h1;simpa using h1
   have A:ApT P t e infe z:=⟨hu,hie,hz,hzs,by rintro h;rw[h]at k3;simp at k3⟩;split at hv
   ·simp only[ao,ak,a0q,a0c]at hs;obtain⟨oa,rfl⟩:=hs;split at hv
    ·simp only[bhx]at hso;obtain⟨ob,rfl⟩:=hso;exact⟨.slice oa 0 0,w,by cases oa<;>cases ob<;>simp[Builtin.append_,a06 hu,sizeOf,typeInfo,hie,Builtin.lenOf,Builtin.firstCells,loadCells,loadCellsFrom,storeCells],gx.app (r:=⟨[],.nl,[],M⟩) (Tr.refl h) hL (by simp only[ao,ak];exact⟨oa,rfl⟩)⟩
    ·rename_i j e' m;obtain⟨hj,rfl⟩:=hso
     cases hkk:cd [nq j d,gb e'.strip.size infe.size]with
     |false=>rw[hkk]at hv;exact hv.1.elim
     |true=>simp only[hkk,a0d,d7,fh,a0c]at hv⊢;simp only[br,bz,a0o,a0b,iz,a0r]at hkk;obtain⟨hne,hg⟩:=zu (r:=j) (k:=d) (by rw[hkk.1];rfl);have c2:=Cv.whole h d hj hg;obtain⟨hk1,hk2⟩:=Hp.del c2.tr.hp d;obtain⟨v',w',p',g1,g2,g3,g4⟩:=boz (P:=P) (ty:=ty') hk1 d (dy d _) A.ht A.hi A.hz A.hzs A.hb (l:=([]:List e'.strip.den)) hkk.2 (aqc e' oa) (Rel.keep hk2 _ _ _ _ (fun _ _=>rfl) c2.rel) (fun b hb=>hb.elim) (fun b hb=>.inr hb) (fun b hb=>hb.elim) hv;refine⟨v',w',g1,gx.app (r:=⟨_,.ref d [],[.kl j,.kl d],_⟩) ?_ g3 g4⟩;exact c2.tr.trans ((Tr.kl c2.tr.hp d).trans g2)
    ·rename_i ev M1 t' m;obtain⟨h1,h2,h3⟩:=hso
     cases hkk:gb t'.size infe.size with
     |false=>rw[hkk]at hv;exact hv.1.elim
     |true=>simp only[hkk,a0d,d7,fh,a0c]at hv⊢;simp only[iz,a0r]at hkk;obtain⟨hk1,hk2⟩:=Hp.del h1.hp d;obtain⟨v',w',p',g1,g2,g3,g4⟩:=bcq (P:=P) (ty:=ty') hk1 d (dy d _) A.ht A.hi A.hz A.hzs A.hb (o:=.fz t') (l:=([]:List t'.den)) hkk (aqc (.fz t') oa) (aq.keep hk2 _ _ _ h2) (fun b hb=>hb.elim) hv;refine⟨v',w',g1,gx.app (r:=⟨_,.ref d [],ap ev [.kl d],_⟩) ?_ g3 g4⟩;exact h1.trans ((Tr.kl h1.hp d).trans g2)
   ·rename_i k π;simp only[ao,ak]at hs;split at hv
    ·rename_i o l hob;have hvβ:v=p.β k:=by obtain⟨ob,pl,q1,q2,q3,q4⟩:=hs;simp only[res,a0e,a0n,a0q,a0c]at q4;exact q4.1.symm
     cases hkk:cd [gb o.strip.size infe.size,Nat.ble (Nat.succ k) gid]with
     |false=>rw[hkk]at hv;exact hv.1.elim
     |true=>
      simp only[hkk,a0d]at hv⊢;simp only[br,bz,a0o,a0b,iz,a0r]at hkk;have hkg:k<gid:=a08 hkk.2;split at hv
      ·simp only[bhx]at hso;obtain⟨ob2,rfl⟩:=hso;obtain⟨ety,xs,T1,a1,_⟩:=ap7 (h.objs k _ hob);rw[show o.size=infe.size from hkk.1,←hvβ]at a1;refine⟨_,_,?_,gx.app (r:=⟨[],.ref k [],[],M⟩) (Tr.refl h) hL (by simp only[ao,ak];exact hs)⟩;exact au0 w t ty' e infe hu hie _ _ _ _ a1 ob2
      ·rename_i j e' m;obtain⟨hj,rfl⟩:=hso
       cases hok:neg (nq j k)with
       |true=>rw[hok]at hv;exact hv.1.elim
       |false=>simp only[hok,a0j]at hv⊢;obtain⟨hne,hg⟩:=zu hok;have c1:=Cv.whole h k hob hkg;rw[←hvβ]at c1;exact au8 A hkk.1 c1.tk hL k j (by rw[dx hne];exact hj) rfl hg hv
      ·rename_i ev M1 t' m;obtain⟨h1,h2,h3⟩:=hso;split at hv
       ·rename_i obx hgx
        have hgk:go M1 k=some ⟨.sl o,l⟩:=by
         rcases h3 k with g|g
         ·rw[g]at hgx;cases hgx
         ·rw[g,hob]
        have c1:=Cv.whole h1.hp k hgk hkg;rw[←hvβ]at c1;have c0:Tk F p M w ⟨.sl o,l⟩ (ap ev [.kl k]) [v] _ (del k M1) _:=⟨c1.tk.L,h1.trans c1.tr,c1.rel⟩;exact aue A hkk.1 c0 hL k (aq.keep c1.tr.keep _ _ _ h2) hv
       ·exact hv.1.elim
    ·rename_i ob hob _;split at hv
     ·rename_i o l ob' hq hset
      cases hkk:cd [gb o.strip.size infe.size,neg (Nat.beq d k),Nat.ble (Nat.succ k) gid]with
      |false=>rw[hkk]at hv;exact hv.1.elim
      |true=>
       simp only[hkk,a0d]at hv⊢;simp only[br,bz,a0o,a0b,iz,a0r]at hkk;have hkg:k<gid:=a08 hkk.2.2;have hs0:=hs;obtain⟨ob1,pl,q1,q2,q3,q4⟩:=hs;rw[hob]at q1;cases q1;split at hv
       ·simp only[bhx]at hso;obtain⟨ob2,rfl⟩:=hso;obtain⟨us,pl',S',e1,e2,e3,_⟩:=look h hob q2 hq;rw[e1]at q4;simp only[a0e,a0n]at q4;obtain⟨rfl,rfl⟩:=q4;obtain⟨ety,xs,T1,a1,_⟩:=ap7 e3;refine⟨_,_,?_,gx.app (r:=⟨[],.ref k _,[],M⟩) (Tr.refl h) hL (by simp only[ao,ak];exact hs0)⟩;exact au0 w t ty' e infe hu hie _ _ _ _ (by rw[show o.size=infe.size from hkk.1]at a1;exact a1) ob2
       ·rename_i j e' m;obtain⟨hj,rfl⟩:=hso
        cases hok:cd [nq j k,nq j d]with
        |false=>rw[hok]at hv;exact hv.1.elim
        |true=>simp only[hok,a0d]at hv⊢;simp only[br,bz,a0o,a0b]at hok;obtain⟨hne,hg⟩:=zu (r:=j) (k:=k) (by rw[hok.1];rfl);obtain⟨p1,S,k1,k2,k3,k4,k5⟩:=Tr.cut h hob hkg q2 hq q4 hset;have hc:Tk F p M w ⟨.sl o,l⟩ [.cut k ob.o ob'.o] [v] p1 (put k ob' M) S:=⟨fun b hb=>(k2 b).2 (.inr hb),k4,k5⟩;exact au8 A hkk.1 hc hL d j (by rw[lu ob' hne];exact hj) (by rw[k1]) hg hv
       ·rename_i ev M1 t' m;obtain⟨h1,h2,h3⟩:=hso;split at hv
        ·rename_i obx hgx
         have hgk:go M1 k=some ob:=by
          rcases h3 k with g|g
          ·rw[g]at hgx;cases hgx
          ·rw[g,hob]
         obtain⟨p1,S,k1,k2,k3,k4,k5⟩:=Tr.cut h1.hp hgk hkg q2 hq q4 hset;have hc:Tk F p M w ⟨.sl o,l⟩ (ap ev [.cut k ob.o ob'.o]) [v] p1 (put k ob' M1) S:=⟨fun b hb=>(k2 b).2 (.inr hb),h1.trans k4,k5⟩;exact aue A hkk.1 hc hL d (aq.keep k4.keep _ _ _ h2) hv
        ·exact hv.1.elim
     ·rename_i o l hq hset;split at hv
      ·rename_i ob' htk;obtain⟨p5,i0,e0,l0,x1,x2,x3⟩:=bsb htk;have hq5:=(beu _ ob.o ob.x p5 i0 _ x1 x2).2.2.1 e0 l0 rfl;rw[hq]at hq5;simp only[a0e,Ob.mk.injEq]at hq5;obtain⟨rfl,hq5⟩:=hq5;cases hq5
       cases hkk:cd [gb o.strip.size infe.size,neg (Nat.beq d k),Nat.ble (Nat.succ k) gid]with
       |false=>rw[hkk]at hv;exact hv.1.elim
       |true=>
        simp only[hkk,a0d]at hv⊢;simp only[br,bz,a0o,a0b,iz,a0r]at hkk;have hkg:k<gid:=a08 hkk.2.2;obtain⟨ob1,pl,q1,q2,q3,q4⟩:=hs;rw[hob]at q1;cases q1;split at hv
        ·exact hv.1.elim
        ·rename_i j e' m;obtain⟨hj,rfl⟩:=hso
         cases hok:cd [nq j k,nq j d]with
         |false=>rw[hok]at hv;exact hv.1.elim
         |true=>simp only[hok,a0d]at hv⊢;simp only[br,bz,a0o,a0b]at hok;obtain⟨hne,hg⟩:=zu (r:=j) (k:=k) (by rw[hok.1];rfl);obtain⟨p1,S,k1,k2,k3,k4,k5⟩:=Tr.take h hob hkg x1 x2 q2 q4 x3;have hc:Tk F p M w ⟨.sl o,l0.getD i0 (O.sl o).dflt⟩ _ [v] p1 (put k ob' M) S:=⟨fun b hb=>(k2 b).2 (.inr hb),k4,k5⟩;exact au8 A hkk.1 hc hL d j (by rw[lu _ hne];exact hj) (by rw[k1]) hg hv
        ·rename_i ev M1 t' m;obtain⟨h1,h2,h3⟩:=hso;split at hv
         ·rename_i obx hgx
          have hgk:go M1 k=some ob:=by
           rcases h3 k with g|g
           ·rw[g]at hgx;cases hgx
           ·rw[g,hob]
          obtain⟨p1,S,k1,k2,k3,k4,k5⟩:=Tr.take h1.hp hgk hkg x1 x2 q2 q4 x3;have hc:Tk F p M w ⟨.sl o,l0.getD i0 (O.sl o).dflt⟩ _ [v] p1 (put k ob' M1) S:=⟨fun b hb=>(k2 b).2 (.inr hb),h1.trans k4,k5⟩;exact aue A hkk.1 hc hL d (aq.keep k4.keep _ _ _ h2) hv
         ·exact hv.1.elim
      ·exact hv.1.elim
     ·exact hv.1.elim
    ·exact hv.1.elim
   ·exact hv.1.elim
 ·exact hv.1.elim
end
end Go.Bm
