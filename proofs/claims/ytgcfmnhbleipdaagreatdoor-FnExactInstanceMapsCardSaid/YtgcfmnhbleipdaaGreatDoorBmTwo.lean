/- The typed machine that the walks of this claim go by: its data, its operations and the proof that each is sound. No condition. -/
import Derived.Test.YtgcfmnhbleipdaaGreatDoorBmOne
import Derived.Laws.BytesArg
import Derived.ChangeKeysEq
import Derived.Laws.StructEq
import Derived.MapKept
set_option linter.unusedVariables false
set_option linter.unusedSimpArgs false
set_option linter.unusedSectionVars false
/- The du machine:what is stored,what is handed on. -/
namespace Go.Bm
open Go.RowKit
abbrev a0c:=@cond_true
abbrev a0i:=@List.cons.injEq
abbrev a0e:=@true_and
abbrev a0b:=@and_true
abbrev a2l:=@Iff.rfl
abbrev a3n:=@Option.getD_none
abbrev a0p:=@List.length_nil
abbrev a09:=@Nat.zero_le
abbrev a0z:=@Option.getD_some
abbrev a0x:=@List.length_map
abbrev a31:=@Nat.lt_irrefl
abbrev a15:=@Nat.le_of_ble_eq_true
abbrev a4n:=@Bool.false_or
abbrev a1l:=@List.all_eq_true
abbrev a3a:=@List.mem_of_getElem?
abbrev a4o:=@List.length_eq_one_iff
abbrev a32:=@List.headD_cons
abbrev a1i:=@Bool.not_eq_true'
abbrev a02:=@Bool.false_eq_true
abbrev a1j:=@Sem.run_bind
abbrev a1r:=@Result.andThen_ok
abbrev a05:=@List.map_cons
abbrev a33:=@Nat.mul_one
abbrev a3o:=@Bool.not_true
abbrev a0y:=@run_underlying
abbrev a34:=@beq_self_eq_true
abbrev a1f:=@Bool.or_eq_true
abbrev a35:=@MapKept.run_getObj_map
abbrev a11:=@List.eq_nil_of_length_eq_zero
abbrev a2t:=@Array.getElem?_toList
abbrev a2u:=@Addr.add_lit
abbrev a36:=@World.grownBy_alloc
abbrev a20:=@heap_alloc_new
abbrev a03:=@Array.getElem?_eq_some_iff
abbrev a16:=@List.foldl_cons
abbrev a0l:=@List.length_cons
abbrev a37:=@Nat.min_eq_left
abbrev a21:=@Nat.add_zero
abbrev a06:=@decide_eq_true_eq
abbrev a2c:=@Array.ext'
abbrev a17:=@Array.mem_toList_iff
abbrev a0s:=@List.mem_cons
abbrev a3p:=@Nat.pos_of_ne_zero
abbrev a38:=@List.replicate_succ
abbrev a4p:=@List.flatten_cons
abbrev a49:=@List.getElem?_replicate
abbrev a1s:=@List.getElem?_cons_zero
abbrev a2h:=@List.getElem?_cons_succ
abbrev a4q:=@List.length_replicate
abbrev a2m:=@Sem.run_pure
abbrev a0m:=@Int.toNat_natCast
abbrev a4r:=@Nat.le_mul_of_pos_right
abbrev a2v:=@Nat.le_succ
abbrev a5a:=@Nat.div_lt_iff_lt_mul
theorem asv{Im:Nat->Prop}{w:World}:(o:O)->(x:o.strip.den)->(S:Nat->Prop)->(vs:List Value)->Rel Im w o x S vs->ai Im w o.hole (o.holeX x) vs
 |.fz t,x,S,vs,r=>by simpa only [Rel,O.hole,O.holeX]using r
 |.p a b,x,S,vs,r=>by simp only[Rel]at r;obtain⟨va,vb,S1,S2,h1,h2,h3,h4,h5,h6⟩:=r;simp only[O.hole,O.holeX,ai];exact⟨va,vb,h1,asv a _ _ va h5,asv b _ _ vb h6⟩
 |.sl e,x,S,vs,r=>by simp only[Rel]at r;obtain⟨v,ety,xs,T,h,h2,_⟩:=r;simp only[O.hole,ai];exact⟨v,h,arz h2⟩
 |.pt o,x,S,vs,r=>by simp only[Rel]at r;obtain⟨b,us,ty',S',h,_⟩:=r;simp only[O.hole,ai];exact⟨_,h,rfl⟩
 |.mp k v,x,S,vs,r=>by simp only[Rel]at r;obtain⟨b,es,n,h,_⟩:=r;simp only[O.hole,ai];exact⟨_,h,rfl⟩
 |.op e,x,S,vs,r=>by simp only[Rel]at r;simp only[O.hole,O.holeX,ai];exact⟨r.1,r.2.1,fun y hy=>by cases hy⟩
theorem apr:(o:O)->o.hole.size=o.size
 |.fz t=>rfl
 |.p a b=>by simp only[O.hole,O.size,T.size,aqm];rw[apr a,apr b];rfl
 |.sl e=>rfl
 |.pt o=>rfl
 |.mp _ _=>rfl
 |.op _=>rfl
theorem bli(ad:Pl):ad.plus 0=ad:=by cases ad <;> rfl
theorem azi(ad:Pl)(a b:Nat):(ad.plus a).plus b=ad.plus (a+b):=by cases ad <;> simp[Pl.plus,a3k]
theorem qw(w:World):(π:bq)->(o:O)->(n:Nat)->gu π o=some n->∀(x:o.strip.den) (vs:List Value) (ad:Pl),(∃q,get π o x=some q)/\gok π o x/\∃us,res w π o vs ad=some (us,ad.plus n)
 |[],o,n,h,x,vs,ad=>by simp only[gu,a0d]at h;subst h;exact⟨⟨⟨o,x⟩,by simp only[get]⟩,by simp only[gok],⟨vs,by simp only[res,bli]⟩⟩
 |.l::π,.p a b,n,h,x,vs,ad=>by simp only[gu]at h;obtain⟨h1,h2,h3⟩:=qw w π a n h x.1 (vs.take a.size) ad;exact⟨by simpa only [get]using h1,by simpa only [gok]using h2,by simpa only [res]using h3⟩
 |.r::π,.p a b,n,h,x,vs,ad=>by
  simp only[gu]at h;split at h
  ·rename_i m hm;simp only[a0d]at h;obtain⟨h1,h2,us,h3⟩:=qw w π b m hm x.2 (vs.drop a.size) (ad.plus a.size);refine⟨by simpa only [get]using h1,by simpa only [gok]using h2,us,?_⟩;simp only[res];rw[h3,azi,←h];simp[O.size]
  ·cases h
 |.l::π,.fz (.p a b),n,h,x,vs,ad=>by simp only[gu]at h;obtain⟨h1,h2,h3⟩:=qw w π (.fz a) n h x.1 (vs.take a.size) ad;exact⟨by simpa only [get]using h1,by simpa only [gok]using h2,by simpa only [res]using h3⟩
 |.r::π,.fz (.p a b),n,h,x,vs,ad=>by
  simp only[gu]at h;split at h
  ·rename_i m hm;simp only[a0d]at h;obtain⟨h1,h2,us,h3⟩:=qw w π (.fz b) m hm x.2 (vs.drop a.size) (ad.plus a.size);refine⟨by simpa only [get]using h1,by simpa only [gok]using h2,us,?_⟩;simp only[res];rw[h3,azi,←h];simp
  ·cases h
 |.l::_,.sl _,_,h,_,_,_=>by simp[gu]at h
 |.l::_,.pt _,_,h,_,_,_=>by simp[gu]at h
 |.l::_,.fz (.int _),_,h,_,_,_=>by simp[gu]at h
 |.l::_,.fz .bool,_,h,_,_,_=>by simp[gu]at h
 |.l::_,.fz .str,_,h,_,_,_=>by simp[gu]at h
 |.l::_,.fz .u,_,h,_,_,_=>by simp[gu]at h
 |.l::_,.fz (.sl _),_,h,_,_,_=>by simp[gu]at h
 |.l::_,.fz (.pt _),_,h,_,_,_=>by simp[gu]at h
 |.l::_,.fz (.fn _ _),_,h,_,_,_=>by simp[gu]at h
 |.l::_,.fz .any,_,h,_,_,_=>by simp[gu]at h
 |.r::_,.sl _,_,h,_,_,_=>by simp[gu]at h
 |.r::_,.pt _,_,h,_,_,_=>by simp[gu]at h
 |.r::_,.fz (.int _),_,h,_,_,_=>by simp[gu]at h
 |.r::_,.fz .bool,_,h,_,_,_=>by simp[gu]at h
 |.r::_,.fz .str,_,h,_,_,_=>by simp[gu]at h
 |.r::_,.fz .u,_,h,_,_,_=>by simp[gu]at h
 |.r::_,.fz (.sl _),_,h,_,_,_=>by simp[gu]at h
 |.r::_,.fz (.pt _),_,h,_,_,_=>by simp[gu]at h
 |.r::_,.fz (.fn _ _),_,h,_,_,_=>by simp[gu]at h
 |.r::_,.fz .any,_,h,_,_,_=>by simp[gu]at h
 |.ix _::_,_,_,h,_,_,_=>by simp[gu]at h
 |.de::_,_,_,h,_,_,_=>by simp[gu]at h
theorem amk{a b:Option Nat}(h:y7 a b=true):∃n,a=some n/\b=some n:=by cases a <;> cases b <;> simp[y7]at h;subst h;exact⟨_,rfl,rfl⟩
theorem zv{π:bq}{o:O}{n:Nat}(h:qu π o=some n):∃ρ o',π=.de::ρ/\o=.pt o'/\gu ρ o'=some n:=by
 unfold qu at h;split at h
 ·exact⟨_,_,rfl,rfl,h⟩
 ·cases h
structure Chg (w w':World) (t:Nat->Prop):Prop where
 os:w'.os=w.os
 tape:TD w' w
 output:w'.output=w.output
 size:w'.heap.size=w.heap.size
 old:∀b,¬t b->w'.heap[b]? = w.heap[b]?
section
variable {F:Fr} {p p' p'':Ow} {env:Env} {M M' M'':Mem} {a:Act} {w w' w'':World}
theorem Tr.put(h:Hp F p M w){k:Nat}{ob ob' n q:Ob}{π:bq}{us us':List Value}{pl:Pl}{S' S'' L':Nat->Prop}(hk:go M k=some ob)
  (hsub:∀c,S' c->p.σ k c) (hpl:cm π=true->∃b off cur ty',pl=some (b,off)/\p.σ k b/\¬S' b/\w.heap[b]? = some (.cells cur ty' (0,0))/\∀(j:Nat) (u:Value),us[j]? = some u->cur[off+j]? = some u)
  (hwand:Wand (Imm F p M w) w π ob.o ob.x (p.σ k) S' q [p.β k] pl)
  (hset:set π ob.o ob.x n=some ob') (hsz:n.o.size=q.o.size) (hout:di π ob.o [p.β k] us'=[p.β k])
  (hc:Chg w w' (fun b=>cm π=true/\∃off,pl=some (b,off)))
  (hc0:cm π=true->∀b off,pl=some (b,off)->∀cur ty',w.heap[b]? = some (.cells cur ty' (0,0))->w'.heap[b]? = some (.cells (d3 cur.toList off us').toArray ty' (0,0)))
  (hS:∀c,S'' c->p.L c\/S' c) (hL:∀c,L' c->(p.L c\/S' c)/\¬S'' c) (hg:(∃c,L' c/\S' c)->k<gid)
  (hn:gn (Imm F p M w) (Imm F ⟨p.β,fun j=>if j=k then fun c=>(p.σ k c/\¬S' c)\/S'' c else p.σ j,L'⟩ (put k ob' M) w') w w'->
   Rel (Imm F ⟨p.β,fun j=>if j=k then fun c=>(p.σ k c/\¬S' c)\/S'' c else p.σ j,L'⟩ (put k ob' M) w') w' n.o n.x S'' us') :
  Tr F p M w [.cut k ob.o ob'.o] ⟨p.β,fun j=>if j=k then fun c=>(p.σ k c/\¬S' c)\/S'' c else p.σ j,L'⟩ (put k ob' M) w':=by
 generalize hp':(⟨p.β,fun j=>if j=k then fun c=>(p.σ k c/\¬S' c)\/S'' c else p.σ j,L'⟩:Ow)=p' at hn⊢;have hβ:p'.β=p.β:=by rw[←hp']
 have hσk:p'.σ k=fun c=>(p.σ k c/\¬S' c)\/S'' c:=by rw[←hp'];simp
 have hσ:∀j,j≠k->p'.σ j=p.σ j:=fun j hj=>by rw[←hp'];simp[hj]
 have hL':∀c,p'.L c->(p.L c\/S' c)/\¬S'' c:=by rw[←hp'];exact hL
 have hgk:∀c,p'.L c->S' c->k<gid:=fun c h1 h2=>hg ⟨c,by rw[←hp']at h1;exact h1,h2⟩;have hlk:=bo hk;have htk:∀b,(cm π=true/\∃off,pl=some (b,off))->p.σ k b:=fun b hb=>by obtain⟨b0,off,cur,ty',k1,k2,_⟩:=hpl hb.1;obtain⟨off',k3⟩:=hb.2;rw[k1]at k3;cases k3;exact k2
 have hkeep:gn (Imm F p M w) (Imm F p' (Bm.put k ob' M) w') w w':=fun b hb=>by
  refine⟨⟨by rw[hc.size];exact hb.1,hb.2.1,fun hl=>?_,fun j hj=>?_⟩,hc.old b (fun ht=>hb.2.2.2 k hlk (htk b ht))⟩
  ·rcases (hL' b hl).1 with h1|h1
   ·exact hb.2.2.1 h1
   ·exact hb.2.2.2 k hlk (hsub b h1)
  ·by_cases e:j=k
   ·subst e;rw[hσk];rintro (⟨h1,_⟩|h1)
    ·exact hb.2.2.2 j hlk h1
    ·rcases hS b h1 with h2|h2
     ·exact hb.2.2.1 h2
     ·exact hb.2.2.2 j hlk (hsub b h2)
   ·rw[hσ j e];exact hb.2.2.2 j (uf.1 hj)
 have hoth:∀j,j≠k->bt M j->∀b,p.σ j b->w'.heap[b]? = w.heap[b]?:=fun j hj hl b hb=>hc.old b (fun ht=>h.sep j k b hj hl hlk hb (htk b ht))
 have hwd:=hwand (Imm F p' (Bm.put k ob' M) w') w' n S'' us' ob' hset hsz (hn hkeep) hkeep (fun c h1 h2=>(hS c h1).elim (fun h3=>((h.lim c h3).2.2 k hlk h2).elim) id) hc0
  (fun c h1 _ h3=>hc.old c (fun ht=>h3 c ht.2.choose ht.2.choose_spec ht.1 rfl))
 rw[hout]at hwd;refine Tr.one _ hkeep (fun j ρ vs r=>?_) (fun j ρ v r=>?_) ⟨fun j o hj=>?_,fun j j' b hne hj hj' hb=>?_,fun j b hj hb=>?_,fun b hb=>?_,hc.os.trans h.os,hc.tape.trans h.tape,hc.output.trans h.output,by rw[hc.size];exact h.size,fun b hb hR=>?_⟩
 ·simp only[Ev.ref,ck];by_cases e:j=k
  ·subst e;rw[d0 rfl]
   cases ρ with
   |nil=>simp only[w8,a0c,aa];obtain⟨o,pl0,k1,k2,k3,k4⟩:=r;simp only[res,a0d,a0j]at k4;obtain⟨rfl,rfl⟩:=k4;exact⟨ob',none,mq ob' M hlk,by simp only[gok],⟨ob',by simp only[get]⟩,by simp only[res,hβ]⟩
   |cons s ρ=>simp only[w8,a0g,aa];exact r.one h
  ·rw[ds e];simp only[aa];exact r.same h (ng ob' e M) (by rw[hβ]) (hoth j e)
 ·simp only[Ev.ad,ck];by_cases e:j=k
  ·subst e;rw[d0 rfl]
   cases hs:y7 (qu ρ ob.o) (qu ρ ob'.o)with
   |false=>simp only[a0g,aa];intro u hu;rw[a0u.1 hu];exact r.one
   |true=>simp only[a0c,aa];refine⟨v,rfl,?_⟩;obtain⟨m,s1,s2⟩:=amk hs;obtain⟨o,us0,b0,off0,k1,k2,k3,k4,k5,rfl⟩:=r;rw[hk]at k1;cases k1;obtain⟨ρ1,o1,rfl,e1,f1⟩:=zv s1;obtain⟨ρ2,o2,e2',e2,f2⟩:=zv s2;simp only[a0i,a0e]at e2';subst e2';obtain⟨ox,xx⟩:=ob;obtain⟨ox',xx'⟩:=ob';simp only at e1 e2;subst e1 e2;have hr:=h.objs j _ hk;simp only[Rel]at hr;obtain⟨bb,us1,ty',S1,r1,r2,r3,r4,r5⟩:=hr;simp only[a0i,a0b]at r1;rw[r1]at k5;simp only[res]at k5;obtain⟨_,_,us2,q3⟩:=qw w ρ1 o1 m f1 xx (cellsOf w bb 0 o1.size) (some (bb,0));rw[q3]at k5;simp only[a0d,a0j]at k5;obtain⟨q1,q2,us3,q3'⟩:=qw w' ρ1 o2 m f2 xx' (cellsOf w' bb 0 o2.size) (some (bb,0));refine⟨_,us3,b0,off0,mq _ M hlk,by simpa only [gok]using q2,by simpa only [get]using q1,by simp only[cm],?_,rfl⟩;rw[hβ,r1];simp only[res];rw[q3',k5.2]
  ·rw[ds e];simp only[aa];exact⟨v,rfl,r.same h (ng ob' e M) (by rw[hβ]) (hoth j e)⟩
 ·by_cases e:j=k
  ·subst e;rw[mq ob' M hlk]at hj;cases hj;rw[hβ,hσk];exact hwd.2
  ·rw[ng ob' e]at hj;rw[hβ,hσ j e];exact Rel.keep hkeep _ _ _ _ (hoth j e (bo hj)) (h.objs j o hj)
 ·have hj1:=uf.1 hj;have hj2:=uf.1 hj';by_cases e:j=k
  ·rw[e,hσk]at hb;rw[hσ j' (fun e'=>hne (e.trans e'.symm))];rcases hb with⟨h1,_⟩|h1
   ·exact h.sep k j' b (fun e'=>hne (e.trans e')) hlk hj2 h1
   ·rcases hS b h1 with h2|h2
    ·exact (h.lim b h2).2.2 j' hj2
    ·exact h.sep k j' b (fun e'=>hne (e.trans e')) hlk hj2 (hsub b h2)
  ·rw[hσ j e]at hb;by_cases e':j'=k
   ·rw[e',hσk];rintro (⟨h1,_⟩|h1)
    ·exact h.sep j k b e hj1 hlk hb h1
    ·rcases hS b h1 with h2|h2
     ·exact (h.lim b h2).2.2 j hj1 hb
     ·exact h.sep j k b e hj1 hlk hb (hsub b h2)
   ·rw[hσ j' e'];exact h.sep j j' b hne hj1 hj2 hb
 ·have hj1:=uf.1 hj;rw[hc.size];by_cases e:j=k
  ·rw[e,hσk]at hb;rcases hb with⟨h1,_⟩|h1
   ·rw[e];exact h.own k b hlk h1
   ·rcases hS b h1 with h2|h2
    ·exact⟨(h.lim b h2).1,.inr (h.lim b h2).2.1⟩
    ·rw[e];exact h.own k b hlk (hsub b h2)
  ·rw[hσ j e]at hb;exact h.own j b hj1 hb
 ·obtain⟨h1,h2⟩:=hL' b hb;rw[hc.size];rcases h1 with h1|h1
  ·refine⟨(h.lim b h1).1,(h.lim b h1).2.1,fun j hj=>?_⟩;by_cases e:j=k
   ·rw[e,hσk];rintro (⟨h3,_⟩|h3)
    ·exact (h.lim b h1).2.2 k hlk h3
    ·exact h2 h3
   ·rw[hσ j e];exact (h.lim b h1).2.2 j (uf.1 hj)
  ·have ho:=h.own k b hlk (hsub b h1);have hg':=hgk b hb h1;refine⟨ho.1,ho.2.elim (fun h=>by have:=h.1;omega) id,fun j hj=>?_⟩;by_cases e:j=k
   ·rw[e,hσk];rintro (⟨_,h3⟩|h3)
    ·exact h3 h1
    ·exact h2 h3
   ·rw[hσ j e];exact h.sep k j b (a0w e) hlk (uf.1 hj) (hsub b h1)
 ·rw[hc.old b (fun ht=>?_)]
  ·exact h.old b hb hR
  ·rcases (h.own k b hlk (htk b ht)).2 with h1|h1
   ·exact hR h1.2
   ·omega
end
end Go.Bm
/- The du machine:what is handed on into a tree. -/
namespace Go.Bm
open Go.RowKit
theorem adf{a b:T}{x:a.den}{y:b.den}(h:od b x=some y):∃e:a=b,e▸x=y:=by
 unfold od at h;split at h
 ·rename_i he;cases h;exact⟨T.beq_eq he,rfl⟩
 ·cases h
theorem auf(o:O)(x:o.strip.den):ri ⟨o,x⟩ o=some x:=by
 unfold ri;split
 ·rfl
 ·rename_i h;rw[O.beq_refl]at h;cases h
theorem bf6(k:Nat)(a b:Ob):∀M:Mem,put k a (put k b M)=put k a M
 |[]=>rfl
 |(j,x)::r=>by
  simp only[put,ck];split
  ·simp only[put,ck,a01]
  ·rename_i h;simp only[put,ck,ds h];rw[bf6 k a b r]
theorem tv{Im:Nat->Prop}{w:World}{a b:T}{x:a.den}{y:b.den}{vs:List Value}(h:od b x=some y)(r:ai Im w a x vs):ai Im w b y vs:=by obtain⟨rfl,rfl⟩:=adf h;exact r
theorem vf{q:Ob}{o:O}{x:o.strip.den}(h:ri q o=some x):q=⟨o,x⟩:=by
 unfold ri at h;split at h
 ·rename_i he;cases h;obtain⟨qo,qx⟩:=q;have:=O.beq_eq he;subst this;rfl
 ·cases h
theorem mt{cur:List Value}{off:Nat}{us:List Value}(h:∀(j:Nat) (u:Value),us[j]? = some u->cur[off+j]? = some u):d3 cur off us=cur:=by
 rcases us.eq_nil_or_concat with rfl|⟨_,_,hne⟩
 ·simp[d3]
 have hlen:off+us.length<=cur.length:=by
  have hp:0<us.length:=by rw[hne];simp
  have:=h (us.length-1) us[us.length-1] (a0o (by omega));have:=(a1k.1 this).1;omega
 apply a2a;intro j;unfold d3;by_cases q1:j<off
 ·rw[a07,a1g (by simp;omega),a1e,d0 q1]
 ·by_cases q2:j<off+us.length
  ·rw[a1g (by simp;omega),a1x (by simp;omega)];rw[show j-(List.take off cur).length=j-off by simp;omega,a0o (by omega:j-off<us.length)];have:=h (j-off) us[j-off] (a0o (by omega));rw[show off+(j-off)=j by omega]at this;rw[this]
  ·rw[a1x (by simp;omega),a1c];congr 1;simp;omega
theorem Chg.refl(w:World)(t:Nat->Prop):Chg w w t:=⟨rfl,TD.refl w,rfl,rfl,fun _ _=>rfl⟩
section
variable {F:Fr} {p p' p'':Ow} {env:Env} {M M' M'':Mem} {a:Act} {w w' w'':World}
theorem Tr.cut(h:Hp F p M w){k:Nat}{ob ob' q:Ob}{π:bq}{us:List Value}{pl:Pl}(hk:go M k=some ob)(hg:k<gid)(h2:gok π ob.o ob.x)(h3:get π ob.o ob.x=some q)
  (h4:res w π ob.o [p.β k] none=some (us,pl)) (hset:set π ob.o ob.x ⟨.fz q.o.hole,q.o.holeX q.x⟩=some ob') :
  ∃p':Ow,∃S:Nat->Prop,p'.β=p.β/\(∀b,p'.L b<->p.L b\/S b)/\(∀b,S b->¬p.L b)/\Tr F p M w [.cut k ob.o ob'.o] p' (Bm.put k ob' M) w/\Rel (Imm F p' (Bm.put k ob' M) w) w q.o q.x S us:=by
 obtain⟨us0,pl0,S',e1,e2,e3,e4,e5,e6⟩:=look h hk h2 h3;rw[e1]at h4;cases h4;have hl:=bo hk
 have hout:di π ob.o [p.β k] us=[p.β k]:=by
  cases hh:cm π with
  |true=>exact nq π _ _ _ hh
  |false=>
   obtain⟨n,k1,k2,k3,k4,k5⟩:=e5 hh;rw[k5 us rfl];refine mt (fun j u hu=>?_);rw[k3,a1e]at hu;split at hu
   ·rw[a1c]at hu;exact hu
   ·cases hu
 have ht:=Tr.put (S'':=fun _=>False) (L':=fun b=>p.L b\/S' b) (us':=us) (w':=w) h hk e2 e4 e6 hset (by simp only[O.size,O.strip];exact apr q.o) hout (Chg.refl w _)
  (fun hh b off hp cur ty' hb=>by obtain⟨b0,off0,cur0,ty0,k1,k2,k3,k4,k5⟩:=e4 hh;rw[k1]at hp;cases hp;rw[k4]at hb;cases hb;rw[k4,mt (by simpa using k5)]) (fun c hc=>hc.elim) (fun c hc=>⟨hc,fun h=>h⟩) (fun _=>hg)
  (fun hk'=>by simp only[Rel];exact asv q.o q.x (fun b=>S' b) us (Rel.keep hk' _ _ _ _ (fun _ _=>rfl) e3))
 exact⟨⟨p.β,_,fun b=>p.L b\/S' b⟩,S',rfl,fun b=>a2l,fun b hb hL=>(h.lim b hL).2.2 k hl (e2 b hb),ht,Rel.keep ht.keep _ _ _ _ (fun _ _=>rfl) e3⟩
theorem wa:(v:V)->(M:Mem)->Hp F p M w->Tr F p M w (ca M v).1 p (ca M v).2 w
 |.ref k _,M,h=>by
  simp only[ca];split
  ·rename_i ob hk;exact Tr.frz h k ob hk
  ·exact Tr.refl h
 |.ad k _,M,h=>by
  simp only[ca];split
  ·rename_i ob hk;exact Tr.frz h k ob hk
  ·exact Tr.refl h
 |.p a b,M,h=>by simp only[ca];have h1:=wa a M h;have h2:=wa b _ h1.hp;exact h1.trans h2
 |.ag v,M,h=>by simp only[ca];exact wa v M h
 |.fn _ v,M,h=>by simp only[ca];exact wa v M h
 |.ifc _ v,M,h=>by simp only[ca];exact wa v M h
 |.bx v,M,h=>by simp only[ca];exact wa v M h
 |.tup v,M,h=>by simp only[ca];exact wa v M h
 |.gd _ _ _ v,M,h=>by simp only[ca];exact wa v M h
 |.any,M,h=>by simp only[ca];exact Tr.refl h
 |.nl,M,h=>by simp only[ca];exact Tr.refl h
 |.np,M,h=>by simp only[ca];exact Tr.refl h
 |.u,M,h=>by simp only[ca];exact Tr.refl h
 |.d _ _,M,h=>by simp only[ca];exact Tr.refl h
theorem ye:(v:V)->(M:Mem)->((ca M v).1=[]/\(ca M v).2=M)\/∃x r,(ca M v).1=x::r/\fm M [x]=false
 |.ref k _,M=>by
  simp only[ca];split
  ·exact .inr ⟨_,_,rfl,rfl⟩
  ·exact .inl ⟨rfl,rfl⟩
 |.ad k _,M=>by
  simp only[ca];split
  ·exact .inr ⟨_,_,rfl,rfl⟩
  ·exact .inl ⟨rfl,rfl⟩
 |.p a b,M=>by
  simp only[ca];rcases ye a M with⟨h1,h2⟩|⟨x,r,h1,h2⟩
  ·rw[h1,h2];simp only[ap];exact ye b M
  ·exact .inr ⟨x,_,by rw[h1];rfl,h2⟩
 |.ag v,M=>by simp only[ca];exact ye v M
 |.fn _ v,M=>by simp only[ca];exact ye v M
 |.ifc _ v,M=>by simp only[ca];exact ye v M
 |.bx v,M=>by simp only[ca];exact ye v M
 |.tup v,M=>by simp only[ca];exact ye v M
 |.gd _ _ _ v,M=>by simp only[ca];exact ye v M
 |.any,M=>by simp[ca]
 |.nl,M=>by simp[ca]
 |.np,M=>by simp[ca]
 |.u,M=>by simp[ca]
 |.d _ _,M=>by simp[ca]
def zg(M M':Mem):Prop:=∀k,go M' k=none\/go M' k=go M k
theorem zg.refl(M:Mem):zg M M:=fun _=>.inr rfl
theorem zg.trans{M M' M'':Mem}(h:zg M M')(k:zg M' M''):zg M M'':=fun j=>by
 rcases k j with e|e
 ·exact .inl e
 ·rcases h j with e'|e'
  ·exact .inl (by rw[e,e'])
  ·exact .inr (by rw[e,e'])
theorem anh(k:Nat)(M:Mem):zg M (del k M):=fun j=>by
 by_cases e:j=k
 ·subst e;exact .inl (cy j M)
 ·exact .inr (dm e M)
theorem vm:(v:V)->(M:Mem)->zg M (ca M v).2
 |.ref k _,M=>by
  simp only[ca];split
  ·exact anh k M
  ·exact zg.refl M
 |.ad k _,M=>by
  simp only[ca];split
  ·exact anh k M
  ·exact zg.refl M
 |.p a b,M=>by simp only[ca];exact (vm a M).trans (vm b _)
 |.ag v,M=>by simp only[ca];exact vm v M
 |.fn _ v,M=>by simp only[ca];exact vm v M
 |.ifc _ v,M=>by simp only[ca];exact vm v M
 |.bx v,M=>by simp only[ca];exact vm v M
 |.tup v,M=>by simp only[ca];exact vm v M
 |.gd _ _ _ v,M=>by simp only[ca];exact vm v M
 |.any,M=>by simp only[ca];exact zg.refl M
 |.nl,M=>by simp only[ca];exact zg.refl M
 |.np,M=>by simp only[ca];exact zg.refl M
 |.u,M=>by simp only[ca];exact zg.refl M
 |.d _ _,M=>by simp only[ca];exact zg.refl M
theorem bi8{Im:Nat->Prop}{w:World}{a:T}{x:Option (List a.den)}{vs:List Value}(r:ai Im w (.ns (.sl a)) x vs):ai Im w (.sl a) (x.getD []) vs:=by
 simp only[ai]at r;rcases r with⟨rfl,rfl⟩|⟨y,b,n,c,rfl,rfl,r⟩
 ·simp only[ai,a3n,a0p];exact⟨none,0,rfl,⟨a09 _,a0f _⟩,fun _=>⟨trivial,rfl⟩,fun a ha=>by cases ha⟩
 ·simpa only [ai,a0z]using r
theorem bk0{Im:Nat->Prop}{w:World}{a b:T}{f:a.den->b.den}(hs:a.size=b.size)(hf:∀(x:a.den) (vs:List Value),ai Im w a x vs->ai Im w b (f x) vs){l:List a.den}{vs:List Value}(r:ai Im w (.sl a) l vs):ai Im w (.sl b) (l.map f) vs:=by
 simp only[ai]at r⊢;obtain⟨oa,cap,h1,h2,h3,h4⟩:=r;refine⟨oa,cap,by rw[a0x];exact h1,by rw[a0x];exact h2,fun h=>by rw[a0x];exact h3 h,fun ad ha hp=>?_⟩;rw[a0x]at hp;obtain⟨k1,k2,k3⟩:=h4 ad ha hp;refine⟨k1,k2,fun i z hz=>?_⟩;rw[a1b]at hz
 cases hx:l[i]? with
 |none=>rw[hx]at hz;cases hz
 |some q=>rw[hx]at hz;simp only[a00,a0d]at hz;subst hz;obtain⟨us,u1,u2⟩:=k3 i q hx;exact⟨us,by rw[←hs];exact u1,hf _ _ u2⟩
theorem as0{Im:Nat->Prop}{w:World}{a b:T}{x:a.den}{y:b.den}{vs:List Value}(h:boy a x b=some y)(r:ai Im w a x vs):ai Im w b y vs:=by
 unfold boy at h;split at h
 ·exact tv h (bi8 r)
 ·rename_i a x b;exact tv h (bk0 (a:=.ns (.sl a)) (b:=.sl a) (f:=fun x=>Option.getD x []) rfl (fun x vs r=>bi8 r) r)
 ·rename_i c a x d b;refine tv h (bk0 (a:=.p c (.ns (.sl a))) (b:=.p c (.sl a)) (f:=fun x=>(x.1,x.2.getD [])) rfl (fun x vs r=>?_) r);simp only[ai]at r;obtain⟨va,vb,h1,h2,h3⟩:=r;unfold ai;exact⟨va,vb,h1,h2,bi8 (by simpa only [ai]using h3)⟩
 ·rename_i a x b;split at h
  ·rename_i y' hy;cases h;have r':=tv hy r;have r0:=r;simp only[ai]at r0;obtain⟨oa,cap,rfl,_⟩:=r0;simp only[ai]at r'⊢;exact .inr ⟨_,_,_,_,rfl,rfl,r'⟩
  ·cases h
 ·rename_i i x j
  cases hb:Nat.beq i j with
  |true=>rw[hb]at h;simp only[a0c,a0d]at h;have:=a0v hb;subst this;subst h;exact r
  |false=>
   rw[hb]at h;simp only[a0g]at h;simp only[ai]at r⊢;rcases r with⟨rfl,hv⟩|⟨s,rfl,hv⟩
   ·simp only[a0d]at h;subst h;exact .inl ⟨rfl,hv⟩
   ·cases h
 ·exact tv h r
theorem bqp{Im:Nat->Prop}{w:World}(a:T):∀(b:T) (x:a.den) (y:b.den) (vs:List Value),coD a x b=some y->ai Im w a x vs->ai Im w b y vs:=by
 induction a with
 |p a c iha ihc=>
  intro b x y vs h r
  cases b with
  |p b d=>
   simp only[coD]at h;split at h
   ·rename_i y1 y2 h1 h2;cases h;simp only[ai]at r⊢;obtain⟨va,vb,e,r1,r2⟩:=r;exact⟨va,vb,e,iha b _ _ _ h1 r1,ihc d _ _ _ h2 r2⟩
   ·cases h
  |_=>simp only[coD]at h;exact as0 h r
 |pt a ih=>
  intro b x y vs h r
  cases b with
  |pt b=>simp only[coD]at h;simp only[ai]at r⊢;obtain⟨bb,o,us,e,h1,h2,h3⟩:=r;exact⟨bb,o,us,e,h1,h2,ih b _ _ _ h h3⟩
  |_=>simp only[coD]at h;exact as0 h r
 |_=>intro b x y vs h r;simp only[coD]at h;exact as0 h r
theorem ah0{Im:Nat->Prop}{w:World}{a b:T}{x:a.den}{y:b.den}{vs:List Value}(h:asD a x b=some y)(r:ai Im w a x vs):ai Im w b y vs:=by
 unfold asD at h;split at h
 ·rename_i z hz;cases h;exact tv hz r
 ·exact bqp _ _ _ _ _ h r
theorem aai{β:Nat->Value}{Im:Nat->Prop}:(v:V)->(t:T)->(vs:List Value)->(x:t.den)->aa β M Im w v vs->v.as t=some x->ai Im w t x vs
 |.d s y,t,vs,x,r,h=>by simp only[aa]at r;simp only[V.as]at h;exact ah0 h r
 |.p a b,.p t s,vs,x,r,h=>by
  simp only[aa]at r;simp only[V.as]at h;split at h
  ·rename_i y z hy hz;cases h;obtain⟨va,vb,h1,h2,h3⟩:=r;simp only[ai];exact⟨va,vb,h1,aai a t va y h2 hy,aai b s vb z h3 hz⟩
  ·cases h
 |.nl,.sl _,vs,x,r,h=>by simp only[aa]at r;simp only[V.as,a0d]at h;subst h;simp only[ai];obtain⟨oa,r⟩:=r;exact⟨oa,0,r,⟨a09 _,a0f _⟩,fun _=>⟨rfl,rfl⟩,fun a ha hpos=>absurd hpos (a31 0)⟩
 |.u,.u,vs,x,r,h=>by simp only[aa]at r;simp only[ai];exact r
 |.np,.any,vs,x,r,h=>by simp only[aa]at r;simp only[ai];exact⟨_,r,rfl⟩
 |.bx v,.pt t,vs,x,r,h=>by simp only[V.as]at h;simp only[aa]at r;obtain⟨b,o,us,h1,h2,h3,h4⟩:=r;simp only[ai];exact⟨b,o,us,h1,h2,h3,aai v t us x h4 h⟩
 |.fn f v,.fn f' t,vs,x,r,h=>by
  simp only[aa]at r;simp only[V.as,ck]at h;split at h
  ·rename_i e;subst e;obtain⟨us,h1,h2⟩:=r;simp only[ai];exact⟨us,h1,aai v t us x h2 h⟩
  ·cases h
 |.p _ _,.int _,_,_,_,h=>by simp[V.as]at h
 |.p _ _,.bool,_,_,_,h=>by simp[V.as]at h
 |.p _ _,.str,_,_,_,h=>by simp[V.as]at h
 |.p _ _,.u,_,_,_,h=>by simp[V.as]at h
 |.p _ _,.sl _,_,_,_,h=>by simp[V.as]at h
 |.p _ _,.pt _,_,_,_,h=>by simp[V.as]at h
 |.p _ _,.fn _ _,_,_,_,h=>by simp[V.as]at h
 |.p _ _,.any,_,_,_,h=>by simp[V.as]at h
 |.nl,.int _,_,_,_,h=>by simp[V.as]at h
 |.nl,.bool,_,_,_,h=>by simp[V.as]at h
 |.nl,.str,_,_,_,h=>by simp[V.as]at h
 |.nl,.u,_,_,_,h=>by simp[V.as]at h
 |.nl,.p _ _,_,_,_,h=>by simp[V.as]at h
 |.nl,.pt _,_,_,_,h=>by simp[V.as]at h
 |.nl,.fn _ _,_,_,_,h=>by simp[V.as]at h
 |.nl,.any,_,_,_,h=>by simp[V.as]at h
 |.u,.int _,_,_,_,h=>by simp[V.as]at h
 |.u,.bool,_,_,_,h=>by simp[V.as]at h
 |.u,.str,_,_,_,h=>by simp[V.as]at h
 |.u,.sl _,_,_,_,h=>by simp[V.as]at h
 |.u,.p _ _,_,_,_,h=>by simp[V.as]at h
 |.u,.pt _,_,_,_,h=>by simp[V.as]at h
 |.u,.fn _ _,_,_,_,h=>by simp[V.as]at h
 |.u,.any,_,_,_,h=>by simp[V.as]at h
 |.np,.int _,_,_,_,h=>by simp[V.as]at h
 |.np,.bool,_,_,_,h=>by simp[V.as]at h
 |.np,.str,_,_,_,h=>by simp[V.as]at h
 |.np,.sl _,_,_,_,h=>by simp[V.as]at h
 |.np,.p _ _,_,_,_,h=>by simp[V.as]at h
 |.np,.pt _,_,_,_,h=>by simp[V.as]at h
 |.np,.fn _ _,_,_,_,h=>by simp[V.as]at h
 |.np,.u,_,_,_,h=>by simp[V.as]at h
 |.fn _ _,.int _,_,_,_,h=>by simp[V.as]at h
 |.fn _ _,.bool,_,_,_,h=>by simp[V.as]at h
 |.fn _ _,.str,_,_,_,h=>by simp[V.as]at h
 |.fn _ _,.sl _,_,_,_,h=>by simp[V.as]at h
 |.fn _ _,.p _ _,_,_,_,h=>by simp[V.as]at h
 |.fn _ _,.pt _,_,_,_,h=>by simp[V.as]at h
 |.fn _ _,.u,_,_,_,h=>by simp[V.as]at h
 |.fn _ _,.any,_,_,_,h=>by simp[V.as]at h
 |.bx _,.int _,_,_,_,h=>by simp[V.as]at h
 |.bx _,.bool,_,_,_,h=>by simp[V.as]at h
 |.bx _,.str,_,_,_,h=>by simp[V.as]at h
 |.bx _,.sl _,_,_,_,h=>by simp[V.as]at h
 |.bx _,.p _ _,_,_,_,h=>by simp[V.as]at h
 |.bx _,.fn _ _,_,_,_,h=>by simp[V.as]at h
 |.bx _,.u,_,_,_,h=>by simp[V.as]at h
 |.bx _,.any,_,_,_,h=>by simp[V.as]at h
 |.any,_,_,_,_,h=>by simp[V.as]at h
 |.ref _ _,_,_,_,_,h=>by simp[V.as]at h
 |.ad _ _,_,_,_,_,h=>by simp[V.as]at h
 |.ag _,_,_,_,r,h=>by simp[V.as]at h
 |.tup _,_,_,_,r,h=>by simp[V.as]at h
 |.gd _ _ _ _,_,_,_,r,h=>by simp[V.as]at h
 |.ifc f v,.ifc f' t,vs,x,r,h=>by
  simp only[aa]at r;simp only[V.as,ck]at h;split at h
  ·rename_i e;subst e;obtain⟨u,h1,h2⟩:=r;simp only[ai];exact⟨u,h1,aai v t [u] x h2 h⟩
  ·cases h
 |.ifc _ _,.int _,_,_,_,h=>by simp[V.as]at h
 |.ifc _ _,.bool,_,_,_,h=>by simp[V.as]at h
 |.ifc _ _,.str,_,_,_,h=>by simp[V.as]at h
 |.ifc _ _,.sl _,_,_,_,h=>by simp[V.as]at h
 |.ifc _ _,.p _ _,_,_,_,h=>by simp[V.as]at h
 |.ifc _ _,.pt _,_,_,_,h=>by simp[V.as]at h
 |.ifc _ _,.u,_,_,_,h=>by simp[V.as]at h
 |.ifc _ _,.any,_,_,_,h=>by simp[V.as]at h
 |.ifc _ _,.fn _ _,_,_,_,h=>by simp[V.as]at h
structure Cv (F:Fr) (p:Ow) (M:Mem) (w:World) (k:Nat) (q:Ob) (e:List Ev) (vs:List Value) (p':Ow) (M':Mem) (S:Nat->Prop):Prop where
 β:p'.β=p.β
 L:∀b,p'.L b<->p.L b\/S b
 sp:∀b,S b->¬p.L b
 tr:Tr F p M w e p' M' w
 rel:Rel (Imm F p' M' w) w q.o q.x S vs
 fr:(e=[]/\M'=M/\p'=p)\/∃x r,e=x::r/\fm M [x]=false
theorem Cv.dat(h:Hp F p M w)(k:Nat){t:T}{x:t.den}{vs:List Value}(r:ai (Imm F p M w) w t x vs):Cv F p M w k ⟨.fz t,x⟩ [] vs p M (fun _=>False):=⟨rfl,fun b=>by simp,fun b hb=>hb.elim,Tr.refl h,by simp only[Rel];exact r,.inl ⟨rfl,rfl,rfl⟩⟩
theorem Cv.frz(h:Hp F p M w)(k:Nat){r:Nat}{ob:Ob}(hk:go M r=some ob){t:T}{x:t.den}{vs:List Value}(hr:ai (Imm F p (del r M) w) w t x vs):Cv F p M w k ⟨.fz t,x⟩ [.fz r ob] vs p (del r M) (fun _=>False):=⟨rfl,fun b=>by simp,fun b hb=>hb.elim,Tr.frz h r ob hk,by simp only[Rel];exact hr,.inr ⟨_,_,rfl,rfl⟩⟩
theorem Cv.whole(h:Hp F p M w)(k:Nat){r:Nat}{ob:Ob}(hk:go M r=some ob)(hg:r<gid):Cv F p M w k ob [.kl r] [p.β r] ⟨p.β,p.σ,fun b=>p.L b\/p.σ r b⟩ (del r M) (p.σ r):=⟨rfl,fun b=>a2l,fun b hb hL=>(h.lim b hL).2.2 r (bo hk) hb,Tr.lim h r (bo hk) hg,Rel.keep (Tr.lim h r (bo hk) hg).keep _ _ _ _ (fun _ _=>rfl) (h.objs r ob hk),.inr ⟨_,_,rfl,by simp[fm,hk,isN]⟩⟩
theorem zx{r k:Nat}(h:neg (og r k)=false):r≠k/\r<gid:=by
 simp only[kh,og,bg]at h
 cases h1:Nat.beq r k with
 |true=>simp[h1]at h
 |false=>
  cases h2:Nat.ble (Nat.succ r) gid with
  |false=>simp[h1,h2]at h
  |true=>exact⟨fun e=>by subst e;simp at h1,a15 h2⟩
theorem be3(w:World)(ety:TypeId)(sz:Nat)(oa:Option Addr):ve w ety sz (.slice oa 0 0) 0 []:=⟨by simp,.inl ⟨rfl,oa,rfl⟩⟩
theorem ak8{Im:Nat->Prop}(e:O)(oa:Option Addr):Rel Im w (.sl e) ([]:List e.strip.den) (fun _=>False) [.slice oa 0 0]:=by
 simp only[Rel];refine⟨_,0,[],fun _ _=>False,rfl,be3 w 0 e.size oa,a09 _,?_,?_,?_,?_⟩
 ·intro c hc;cases oa <;> cases hc
 ·intro i c hc;exact hc.elim
 ·intro i j c _ hc;exact hc.elim
 ·intro i x hx;simp at hx
theorem as5(h:Hp F p M w){r:Nat}{ob q:Ob}{ρ:bq}{vs:List Value}(hk:go M r=some ob)(hq:get ρ ob.o ob.x=some q)(hr:Ref p.β M w r ρ vs):ai (Imm F p (del r M) w) w q.o.strip q.x vs:=by obtain⟨ob',pl,h1,h2,⟨q',h3⟩,h4⟩:=hr;rw[hk]at h1;cases h1;obtain⟨us,pl',S',e1,e2,e3,_⟩:=look h hk h2 hq;rw[e1]at h4;cases h4;exact Rel.frz (fun b hb=>((h.del r).2 b hb).1) _ _ S' _ (fun b hb=>aer h (bo hk) (e2 b hb)) e3
theorem bok(h:Hp F p M w){r:Nat}{ob q:Ob}{ρ:bq}{v:Value}(hk:go M r=some ob)(hq:get ρ ob.o ob.x=some q)(hr:Adr p.β M w r ρ v):ai (Imm F p (del r M) w) w (.pt q.o.strip) q.x [v]:=by obtain⟨ob',us0,b0,off0,h1,h2,⟨q',h3⟩,h4,h5,rfl⟩:=hr;rw[hk]at h1;cases h1;obtain⟨us,pl',S',e1,e2,e3,e4,_⟩:=look h hk h2 hq;rw[e1]at h5;simp only[a0d,a0j]at h5;obtain⟨rfl,rfl⟩:=h5;obtain⟨b,off,cur,ty',k1,k2,k3,k4,k5⟩:=e4 h4;simp only[a0d,a0j]at k1;obtain⟨rfl,rfl⟩:=k1;simp only[ai];refine⟨b0,off0,us,rfl,aer h (bo hk) k2,fun j' u hu=>?_,Rel.frz (fun b hb=>((h.del r).2 b hb).1) _ _ S' _ (fun b hb=>aer h (bo hk) (e2 b hb)) e3⟩;rw[a19 w b0 _ cur ty' (0,0) k4];exact k5 j' u hu
theorem aqa{w:World}:∀(π:bq) (o o':O) (l:List Nat),trk π o=some l->trk π o'=some l->(∀vs ad,res w π o vs ad=res w π o' vs ad)/\(∀x,gok π o' x)/\∀x,∃q,get π o' x=some q
 |[],o,o',l,h,h'=>⟨fun _ _=>rfl,fun _=>by simp only[gok],fun x=>⟨_,rfl⟩⟩
 |.l::π,.p a b,o',l,h,h'=>by
  simp only[trk]at h;split at h
  ·rename_i l1 h1;cases h
   cases o' with
   |p a' b'=>
    simp only[trk]at h';split at h'
    ·rename_i l2 h2;simp only[a0d,a0i,a0e]at h';obtain⟨e1,rfl⟩:=h';obtain⟨q1,q2,q3⟩:=aqa (w:=w) π a a' l2 h1 h2;exact⟨fun vs ad=>by simp only[res,O.size];rw[e1];exact q1 _ _,fun x=>by simp only[gok];exact q2 _,fun x=>by simp only[get];exact q3 _⟩
    ·cases h'
   |_=>simp[trk]at h'
  ·cases h
 |.r::π,.p a b,o',l,h,h'=>by
  simp only[trk]at h;split at h
  ·rename_i l1 h1;cases h
   cases o' with
   |p a' b'=>
    simp only[trk]at h';split at h'
    ·rename_i l2 h2;simp only[a0d,a0i,a0e]at h';obtain⟨e1,rfl⟩:=h';obtain⟨q1,q2,q3⟩:=aqa (w:=w) π b b' l2 h1 h2;exact⟨fun vs ad=>by simp only[res,O.size];rw[e1];exact q1 _ _,fun x=>by simp only[gok];exact q2 _,fun x=>by simp only[get];exact q3 _⟩
    ·cases h'
   |_=>simp[trk]at h'
  ·cases h
 |.de::π,.pt t,o',l,h,h'=>by
  simp only[trk]at h;split at h
  ·rename_i l1 h1;cases h
   cases o' with
   |pt t'=>
    simp only[trk]at h';split at h'
    ·rename_i l2 h2;simp only[a0d,a0i,a0e]at h';obtain⟨e1,rfl⟩:=h';obtain⟨q1,q2,q3⟩:=aqa (w:=w) π t t' l2 h1 h2;exact⟨fun vs ad=>by simp only[res,O.size];rw[e1];split <;> first|exact q1 _ _|rfl,fun x=>by simp only[gok];exact q2 _,fun x=>by simp only[get];exact q3 _⟩
    ·cases h'
   |_=>simp[trk]at h'
  ·cases h
 |.l::_,.fz _,_,_,h,_=>by simp[trk]at h
 |.l::_,.sl _,_,_,h,_=>by simp[trk]at h
 |.l::_,.pt _,_,_,h,_=>by simp[trk]at h
 |.l::_,.mp _ _,_,_,h,_=>by simp[trk]at h
 |.l::_,.op _,_,_,h,_=>by simp[trk]at h
 |.r::_,.fz _,_,_,h,_=>by simp[trk]at h
 |.r::_,.sl _,_,_,h,_=>by simp[trk]at h
 |.r::_,.pt _,_,_,h,_=>by simp[trk]at h
 |.r::_,.mp _ _,_,_,h,_=>by simp[trk]at h
 |.r::_,.op _,_,_,h,_=>by simp[trk]at h
 |.de::_,.fz _,_,_,h,_=>by simp[trk]at h
 |.de::_,.sl _,_,_,h,_=>by simp[trk]at h
 |.de::_,.p _ _,_,_,h,_=>by simp[trk]at h
 |.de::_,.mp _ _,_,_,h,_=>by simp[trk]at h
 |.de::_,.op _,_,_,h,_=>by simp[trk]at h
 |.ix _::_,o,_,_,h,_=>by cases o <;> simp[trk]at h
theorem Tr.tk(h:Hp F p M w){k:Nat}{ob ob':Ob}(hk:go M k=some ob)(hβ:p'.β=p.β)(t:Tr F p M w [.cut k ob.o ob'.o] p' (Bm.put k ob' M) w):Tr F p M w [.tk k ob.o ob'.o] p' (Bm.put k ob' M) w:=by
 have hlk:=bo hk;refine Tr.one _ t.keep (fun j ρ vs r=>?_) (fun j ρ v r=>?_) t.hp
 ·have hc:=t.c (.ref j ρ) vs (by simp only[aa];exact r);simp only[V.evs,V.ev,Ev.ref]at hc;simp only[Ev.ref]
  cases hb:Nat.beq j k with
  |false=>rw[hb]at hc;exact hc
  |true=>
   rw[hb]at hc;simp only[a0c]at hc⊢
   cases hn:w8 ρ with
   |true=>rw[hn]at hc;simpa only [mi,Bool.true_or,a0c]using hc
   |false=>
    simp only[mi,a4n]
    cases hs:bap (trk ρ ob.o) (trk ρ ob'.o)with
    |false=>simp only[a0g,aa];exact r.one h
    |true=>
     simp only[a0c,aa];have hjk:=a0v hb;subst hjk
     obtain⟨l,s1,s2⟩:∃l,trk ρ ob.o=some l/\trk ρ ob'.o=some l:=by
      cases h1:trk ρ ob.o with
      |none=>rw[h1]at hs;cases hs
      |some a=>
       cases h2:trk ρ ob'.o with
       |none=>rw[h1,h2]at hs;cases hs
       |some b=>rw[h1,h2]at hs;exact⟨b,by rw[bbe hs],rfl⟩
     obtain⟨q1,q2,q3⟩:=aqa (w:=w) ρ ob.o ob'.o l s1 s2;obtain⟨o,pl0,k1,k2,k3,k4⟩:=r;rw[hk]at k1;cases k1;exact⟨ob',pl0,mq ob' M hlk,q2 _,q3 _,by rw[hβ,←q1];exact k4⟩
 ·have hc:=t.c (.ad j ρ) [v] (by simp only[aa];exact⟨v,rfl,r⟩);simp only[V.evs,V.ev,Ev.ad]at hc;simp only[Ev.ad];exact hc
theorem bdv(h:Hp F p M w)(k r:Nat)(ρ:bq)(vs:List Value)(q:Ob)(e:List Ev)(M':Mem)(hr:Ref p.β M w r ρ vs)
  (hc:aap k r ρ M=some (q,e,M')):go M' k=go M k/\∃p' S,Cv F p M w k q e vs p' M' S:=by
 unfold aap at hc
 cases hok:neg (og r k)with
 |true=>rw[hok]at hc;simp at hc
 |false=>
  rw[hok]at hc;obtain⟨hne,hg⟩:=zx hok;simp only[a0g]at hc;split at hc
  ·rename_i ob hob;split at hc
   ·rename_i q1 hq1;split at hc
    ·cases hc;refine⟨dm (a0w hne) M,?_⟩;obtain⟨ob',pl,h1,h2,h3,h4⟩:=hr;simp only[res,a0d,a0j]at h4;obtain⟨rfl,rfl⟩:=h4;simp only[get,a0d]at hq1;subst hq1;exact⟨_,_,Cv.whole h k hob hg⟩
    ·cases hix:ahf ρ with
     |true=>rw[hix]at hc;simp only[a0c,a0d,a0j]at hc;obtain⟨rfl,rfl,rfl⟩:=hc;exact⟨dm (a0w hne) M,_,_,Cv.frz h k hob (as5 h hob hq1 hr)⟩
     |false=>
      rw[hix]at hc;simp only[a0g]at hc;split at hc
      ·rename_i ob' hset;simp only[a0d,a0j]at hc;obtain⟨rfl,rfl,rfl⟩:=hc;refine⟨ng ob' (a0w hne) M,?_⟩;obtain⟨ob0,pl,h1,h2,h3,h4⟩:=hr;rw[hob]at h1;cases h1;obtain⟨p',S,k1,k2,k3,k4,k5⟩:=Tr.cut h hob hg h2 hq1 h4 hset;exact⟨p',S,k1,k2,k3,Tr.tk h hob k1 k4,k5,.inr ⟨_,_,rfl,rfl⟩⟩
      ·cases hc
   ·cases hc
  ·cases hc
theorem brl(h:Hp F p M w)(k r:Nat)(ρ:bq)(v:Value)(q:Ob)(e:List Ev)(M':Mem)(hr:Adr p.β M w r ρ v)
  (hc:aox k r ρ M=some (q,e,M')):go M' k=go M k/\∃p' S,Cv F p M w k q e [v] p' M' S:=by
 unfold aox at hc
 cases hok:neg (og r k)with
 |true=>rw[hok]at hc;simp at hc
 |false=>
  rw[hok]at hc;obtain⟨hne,hg⟩:=zx hok;simp only[a0g]at hc;split at hc
  ·rename_i o x hob;cases hc;refine⟨dm (a0w hne) M,?_⟩;obtain⟨ob',us0,b0,off0,h1,h2,h3,h4,h5,rfl⟩:=hr;rw[hob]at h1;cases h1;have hrr:=h.objs r _ hob;simp only[Rel]at hrr;obtain⟨bb,us1,ty',S1,r1,r2,r3,r4,r5⟩:=hrr;simp only[a0i,a0b]at r1;rw[r1]at h5;simp only[res,a0d,a0j]at h5;obtain⟨_,rfl,rfl⟩:=h5;rw[←r1];exact⟨_,_,Cv.whole h k hob hg⟩
  ·rename_i ob hob _;split at hc
   ·rename_i q1 hq1;simp only[a0d,a0j]at hc;obtain⟨rfl,rfl,rfl⟩:=hc;exact⟨dm (a0w hne) M,_,_,Cv.frz h k hob (bok h hob hq1 hr)⟩
   ·cases hc
  ·cases hc
theorem Cv.pair{k:Nat}{q q':Ob}{e e':List Ev}{va vb:List Value}{S S':Nat->Prop}(h:Cv F p M w k q e va p' M' S)(h':Cv F p' M' w k q' e' vb p'' M'' S') :
  Cv F p M w k (mkP q q') (ap e e') (va++vb) p'' M'' (fun b=>S b\/S' b):=by
 refine⟨h'.β.trans h.β,fun b=>by rw[h'.L,h.L,or_assoc],fun b hb=>?_,h.tr.trans h'.tr,?_,?_⟩
 ·rcases hb with hb|hb
  ·exact h.sp b hb
  ·exact fun hL=>h'.sp b hb ((h.L b).2 (.inl hL))
 ·exact aq2 (fun c hc=>.inl hc) (fun c hc=>.inr hc) (fun c hc hc'=>h'.sp c hc' ((h.L c).2 (.inr hc))) (Rel.keep h'.tr.keep _ _ _ _ (fun _ _=>rfl) h.rel) h'.rel
 ·rcases h.fr with⟨rfl,rfl,rfl⟩|⟨x,r,rfl,hx⟩
  ·exact h'.fr
  ·exact .inr ⟨x,ap r e',rfl,hx⟩
theorem ad4(k:Nat):(t:T)->(v:V)->(M:Mem)->(p:Ow)->(vs:List Value)->(q:Ob)->(e:List Ev)->(M':Mem)->Hp F p M w->aa p.β M (Imm F p M w) w v vs->conv k t v M=some (q,e,M')->go M' k=go M k/\∃p' S,Cv F p M w k q e vs p' M' S
 |t,.ref r ρ,M,p,vs,q,e,M',h,hr,hc=>by simp only[aa]at hr;refine bdv h k r ρ vs q e M' hr ?_;cases t <;> simpa only [conv]using hc
 |t,.ad r ρ,M,p,vs,q,e,M',h,hr,hc=>by simp only[aa]at hr;obtain⟨v,rfl,hr⟩:=hr;refine brl h k r ρ v q e M' hr ?_;cases t <;> simpa only [conv]using hc
 |t,.d s x,M,p,vs,q,e,M',h,hr,hc=>by
  simp only[aa]at hr;have:conv k t (.d s x) M=some (⟨.fz s,x⟩,[],M):=by cases t <;> simp only[conv]
  rw[this]at hc;cases hc;exact⟨rfl,_,_,Cv.dat h k hr⟩
 |t,.u,M,p,vs,q,e,M',h,hr,hc=>by
  simp only[aa]at hr;have:conv k t .u M=some (⟨.fz .u,()⟩,[],M):=by cases t <;> simp only[conv]
  rw[this]at hc;cases hc;exact⟨rfl,_,_,Cv.dat h k (by simp only[ai];exact hr)⟩
 |t,.np,M,p,vs,q,e,M',h,hr,hc=>by
  simp only[aa]at hr;have:conv k t .np M=some (⟨.fz .any,()⟩,[],M):=by cases t <;> simp only[conv]
  rw[this]at hc;cases hc;exact⟨rfl,_,_,Cv.dat h k (by simp only[ai];exact⟨_,hr,rfl⟩)⟩
 |.sl t,.nl,M,p,vs,q,e,M',h,hr,hc=>by simp only[aa]at hr;simp only[conv,a0d,a0j]at hc;obtain⟨rfl,rfl,rfl⟩:=hc;obtain⟨oa,rfl⟩:=hr;exact⟨rfl,p,fun _=>False,rfl,fun b=>by simp,fun b hb=>hb.elim,Tr.refl h,ak8 t.deep oa,.inl ⟨rfl,rfl,rfl⟩⟩
 |t,.fn f .u,M,p,vs,q,e,M',h,hr,hc=>by
  simp only[aa]at hr;have:conv k t (.fn f .u) M=some (⟨.fz (.fn f .u),()⟩,[],M):=by cases t <;> simp only[conv]
  rw[this]at hc;cases hc;refine⟨rfl,_,_,Cv.dat h k ?_⟩;simp only[ai];exact hr
 |.p t s,.p a b,M,p,vs,q,e,M',h,hr,hc=>by
  simp only[aa]at hr;obtain⟨va,vb,rfl,ha,hb⟩:=hr;simp only[conv]at hc;split at hc
  ·rename_i q1 e1 M1 hc1;split at hc
   ·rename_i q2 e2 M2 hc2;simp only[a0d,a0j]at hc;obtain⟨rfl,rfl,rfl⟩:=hc;obtain⟨g1,p1,S1,c1⟩:=ad4 k t a M p va q1 e1 M1 h ha hc1;obtain⟨g2,p2,S2,c2⟩:=ad4 k s (b.evs e1) M1 p1 vb q2 e2 M2 c1.tr.hp (c1.tr.c _ _ hb) hc2;exact⟨g2.trans g1,p2,_,c1.pair c2⟩
   ·cases hc
  ·cases hc
 |.int _,.p _ _,_,_,_,_,_,_,_,_,h=>by simp[conv]at h
 |.bool,.p _ _,_,_,_,_,_,_,_,_,h=>by simp[conv]at h
 |.str,.p _ _,_,_,_,_,_,_,_,_,h=>by simp[conv]at h
 |.u,.p _ _,_,_,_,_,_,_,_,_,h=>by simp[conv]at h
 |.sl _,.p _ _,_,_,_,_,_,_,_,_,h=>by simp[conv]at h
 |.pt _,.p _ _,_,_,_,_,_,_,_,_,h=>by simp[conv]at h
 |.fn _ _,.p _ _,_,_,_,_,_,_,_,_,h=>by simp[conv]at h
 |.any,.p _ _,_,_,_,_,_,_,_,_,h=>by simp[conv]at h
 |.int _,.nl,_,_,_,_,_,_,_,_,h=>by simp[conv]at h
 |.bool,.nl,_,_,_,_,_,_,_,_,h=>by simp[conv]at h
 |.str,.nl,_,_,_,_,_,_,_,_,h=>by simp[conv]at h
 |.u,.nl,_,_,_,_,_,_,_,_,h=>by simp[conv]at h
 |.p _ _,.nl,_,_,_,_,_,_,_,_,h=>by simp[conv]at h
 |.pt _,.nl,_,_,_,_,_,_,_,_,h=>by simp[conv]at h
 |.fn _ _,.nl,_,_,_,_,_,_,_,_,h=>by simp[conv]at h
 |.any,.nl,_,_,_,_,_,_,_,_,h=>by simp[conv]at h
 |t,.fn _ (.p _ _),_,_,_,_,_,_,_,_,h=>by cases t <;> simp[conv]at h
 |t,.fn _ .any,_,_,_,_,_,_,_,_,h=>by cases t <;> simp[conv]at h
 |t,.fn _ .nl,_,_,_,_,_,_,_,_,h=>by cases t <;> simp[conv]at h
 |t,.fn _ .np,_,_,_,_,_,_,_,_,h=>by cases t <;> simp[conv]at h
 |t,.fn _ (.d _ _),_,_,_,_,_,_,_,_,h=>by cases t <;> simp[conv]at h
 |t,.fn _ (.ref _ _),_,_,_,_,_,_,_,_,h=>by cases t <;> simp[conv]at h
 |t,.fn _ (.ad _ _),_,_,_,_,_,_,_,_,h=>by cases t <;> simp[conv]at h
 |t,.fn _ (.ag _),_,_,_,_,_,_,_,_,h=>by cases t <;> simp[conv]at h
 |t,.fn _ (.tup _),_,_,_,_,_,_,_,_,h=>by cases t <;> simp[conv]at h
 |t,.fn _ (.gd _ _ _ _),_,_,_,_,_,_,_,_,h=>by cases t <;> simp[conv]at h
 |t,.fn _ (.fn _ _),_,_,_,_,_,_,_,_,h=>by cases t <;> simp[conv]at h
 |t,.fn _ (.ifc _ _),_,_,_,_,_,_,_,_,h=>by cases t <;> simp[conv]at h
 |t,.fn _ (.bx _),_,_,_,_,_,_,_,_,h=>by cases t <;> simp[conv]at h
 |t,.any,_,_,_,_,_,_,_,_,h=>by cases t <;> simp[conv]at h
 |t,.ag _,_,_,_,_,_,_,_,_,h=>by cases t <;> simp[conv]at h
 |t,.tup _,_,_,_,_,_,_,_,_,h=>by cases t <;> simp[conv]at h
 |t,.gd _ _ _ _,_,_,_,_,_,_,_,_,h=>by cases t <;> simp[conv]at h
 |t,.ifc _ _,_,_,_,_,_,_,_,_,h=>by cases t <;> simp[conv]at h
 |t,.bx _,_,_,_,_,_,_,_,_,h=>by cases t <;> simp[conv]at h
termination_by t=>SizeOf.sizeOf t
theorem ach(h:Hp F p M w)(k:Nat)(o:O)(v:V)(vs:List Value)(x:o.strip.den)(e:List Ev)(hr:aa p.β M (Imm F p M w) w v vs)(hc:adp k o v M=some (x,e,M')) :
  (go M' k=none\/go M' k=go M k)/\∃p' S,Cv F p M w k ⟨o,x⟩ e vs p' M' S:=by
 have key:∀r,(match conv k o.strip v M with
  |some (q,e,M')=>(match ri q o with|some x=>some (x,e,M')|none=>none)
  |none=>none)=some r->r=(x,e,M')->(go M' k=none\/go M' k=go M k)/\∃p' S,Cv F p M w k ⟨o,x⟩ e vs p' M' S:=by
  intro r hr1 hr2;split at hr1
  ·rename_i q e1 M1 hc1;split at hr1
   ·rename_i y hy;cases hr1;cases hr2;obtain⟨g,p',S,c⟩:=ad4 k o.strip v M p vs q e M' h hr hc1;rw[vf hy]at c;exact⟨.inr g,p',S,c⟩
   ·cases hr1
  ·cases hr1
 cases o with
 |fz t=>
  simp only[adp]at hc;have hf:=wa v M h;have hth:=vm v M;have hfr:=ye v M;generalize ca M v=z at hc hf hth hfr;obtain⟨e1,M1⟩:=z;simp only at hc hf hth hfr;split at hc
  ·rename_i y hy;cases hc;refine⟨hth k,p,fun _=>False,rfl,fun b=>by simp,fun b hb=>hb.elim,hf,?_,hfr.imp (fun h=>⟨h.1,h.2,rfl⟩) id⟩;simp only[Rel];exact aai _ t vs x (hf.c _ _ hr) hy
  ·cases hc
 |p a b=>exact key _ hc rfl
 |sl a=>exact key _ hc rfl
 |pt a=>exact key _ hc rfl
 |mp _ _=>exact key _ hc rfl
 |op _=>exact key _ hc rfl
theorem bdi(h:Hp F p M w)(k:Nat)(o:O)(v:V)(vs:List Value)(x:o.strip.den)(e:List Ev)(hr:aa p.β M (Imm F p M w) w v vs)(hc:ahl k o v M=some (x,e,M')) :
  (go M' k=none\/go M' k=go M k)/\∃p' S,Cv F p M w k ⟨o,x⟩ e vs p' M' S:=by
 cases o with
 |fz t=>exact ach h k _ v vs x e hr hc
 |p a b=>exact ach h k _ v vs x e hr hc
 |sl a=>exact ach h k _ v vs x e hr hc
 |pt a=>exact ach h k _ v vs x e hr hc
 |mp _ _=>exact ach h k _ v vs x e hr hc
 |op a=>
  simp only[ahl]at hc;split at hc
  ·rename_i y ev M1 hc1;cases hc;obtain⟨g,p',S,c⟩:=ach h k a v vs y e hr hc1;refine⟨g,p',S,c.β,c.L,c.sp,c.tr,?_,c.fr⟩;have r:=c.rel;simp only[Rel];refine⟨Rel.len _ _ _ _ r,Rel.one _ _ _ _ r,fun z hz=>?_⟩;cases hz;exact r
  ·cases hc
theorem Tr.relab(h:Hp F p M w){k:Nat}{ob ob':Ob}(hk:go M k=some ob)(hs:∀ρ,qu ρ ob.o=none)(hr:∀Im:Nat->Prop,Rel Im w ob.o ob.x (p.σ k) [p.β k]->Rel Im w ob'.o ob'.x (p.σ k) [p.β k]) :
  Tr F p M w [.cut k ob.o ob'.o] p (Bm.put k ob' M) w:=by
 have hlk:=bo hk;have hkeep:gn (Imm F p M w) (Imm F p (Bm.put k ob' M) w) w w:=fun b hb=>⟨⟨hb.1,hb.2.1,hb.2.2.1,fun j hj=>hb.2.2.2 j (uf.1 hj)⟩,rfl⟩;refine Tr.one _ hkeep (fun j ρ vs r=>?_) (fun j ρ v r=>?_) ⟨fun j o hj=>?_,fun j j' b hne hj hj'=>h.sep j j' b hne (uf.1 hj) (uf.1 hj'),fun j b hj=>h.own j b (uf.1 hj),fun b hb=>⟨(h.lim b hb).1,(h.lim b hb).2.1,fun j hj=>(h.lim b hb).2.2 j (uf.1 hj)⟩,h.os,h.tape,h.output,h.size,h.old⟩
 ·simp only[Ev.ref,ck];by_cases e:j=k
  ·subst e;rw[d0 rfl]
   cases ρ with
   |nil=>simp only[w8,a0c,aa];obtain⟨o,pl0,k1,k2,k3,k4⟩:=r;simp only[res,a0d,a0j]at k4;obtain⟨rfl,rfl⟩:=k4;exact⟨ob',none,mq ob' M hlk,by simp only[gok],⟨ob',by simp only[get]⟩,by simp only[res]⟩
   |cons s ρ=>simp only[w8,a0g,aa];exact r.one h
  ·rw[ds e];simp only[aa];exact r.same h (ng ob' e M) rfl (fun _ _ _=>rfl)
 ·simp only[Ev.ad,ck];by_cases e:j=k
  ·subst e;rw[d0 rfl,hs];simp only[y7,a0g,aa];intro u hu;rw[a0u.1 hu];exact r.one
  ·rw[ds e];simp only[aa];exact⟨v,rfl,r.same h (ng ob' e M) rfl (fun _ _ _=>rfl)⟩
 ·by_cases e:j=k
  ·subst e;rw[mq ob' M hlk]at hj;cases hj;exact Rel.keep hkeep _ _ _ _ (fun _ _=>rfl) (hr _ (h.objs j ob hk))
  ·rw[ng ob' e]at hj;exact Rel.keep hkeep _ _ _ _ (fun _ _=>rfl) (h.objs j o hj)
theorem bgc{Im:Nat->Prop}{e:O}{l:List e.strip.den}{S:Nat->Prop}{vs:List Value}(r:Rel Im w (.sl e) l S vs):Rel Im w (.sl (.op e)) (ab1 l) S vs:=by
 simp only[Rel]at r⊢;obtain⟨v,ety,xs,T,rfl,h2,h3,h4,h5,h6,h7⟩:=r;refine⟨v,ety,xs,T,rfl,by simp only[ab1,a0x];exact h2,by simpa[ab1]using h3,h4,h5,h6,fun i x hx=>?_⟩;simp only[ab1,a1b]at hx
 cases hl:l[i]? with
 |none=>rw[hl]at hx;cases hx
 |some y=>rw[hl]at hx;cases hx;have r1:=h7 i y hl;have hsz:(O.op e).size=e.size:=rfl;rw[hsz];refine⟨Rel.len _ _ _ _ r1,Rel.one _ _ _ _ r1,fun z hz=>?_⟩;cases hz;exact r1
theorem bqq{Im:Nat->Prop}{e:O}{l:List (Option e.strip.den)}{S:Nat->Prop}{vs:List Value}(z:e.strip.den)(ha:bh8 l=true)(r:Rel Im w (.sl (.op e)) l S vs):Rel Im w (.sl e) (asb z l) S vs:=by
 simp only[Rel]at r⊢;obtain⟨v,ety,xs,T,rfl,h2,h3,h4,h5,h6,h7⟩:=r;refine⟨v,ety,xs,T,rfl,by simp only[asb,a0x];exact h2,by simpa[asb]using h3,h4,h5,h6,fun i x hx=>?_⟩;simp only[asb,a1b]at hx
 cases hl:l[i]? with
 |none=>rw[hl]at hx;cases hx
 |some y=>
  rw[hl]at hx;cases hx;have hy:y.isSome=true:=by simp only[bh8,a1l]at ha;exact ha y (a3a hl)
  obtain⟨y,rfl⟩:=a48.1 hy;exact (h7 i _ hl).2.2 y rfl
theorem Tr.row(h:Hp F p M w){k i:Nat}{e:O}{l:List (Option e.strip.den)}{y:e.strip.den}{us:List Value}{pl:Pl}(hk:go M k=some ⟨.sl (.op e),l⟩)(hg:k<gid)(hi:i<l.length)(hy:l.getD i none=some y)
  (h4:res w [.ix i] (.sl (.op e)) [p.β k] none=some (us,pl)) :
  ∃p':Ow,∃S:Nat->Prop,p'.β=p.β/\(∀b,p'.L b<->p.L b\/S b)/\(∀b,S b->¬p.L b)/\Tr F p M w [.cut k (.sl (.op e)) (.sl (.op e))] p' (Bm.put k ⟨.sl (.op e),l.set i none⟩ M) w/\Rel (Imm F p' (Bm.put k ⟨.sl (.op e),l.set i none⟩ M) w) w e y S us:=by
 have h2:gok [.ix i] (.sl (.op e)) l:=by simp only[gok];exact⟨hi,trivial⟩
 have h3:get [.ix i] (.sl (.op e)) l=some ⟨.op e,l.getD i none⟩:=by simp only[get,O.dflt]
 have hset:set [.ix i] (.sl (.op e)) l ⟨.op e,none⟩=some ⟨.sl (.op e),l.set i none⟩:=by simp only[set];rw[show ri ⟨.op e,none⟩ (.op e)=some none from auf _ _]
 obtain⟨us0,pl0,S',e1,e2,e3,e4,e5,e6⟩:=look h hk h2 h3;rw[e1]at h4;cases h4;have hl:=bo hk;have hout:di [.ix i] (.sl (.op e)) [p.β k] us=[p.β k]:=nq _ _ _ _ rfl
 have ht:=Tr.put (S'':=fun _=>False) (L':=fun b=>p.L b\/S' b) (us':=us) (w':=w) h hk e2 e4 e6 hset rfl hout (Chg.refl w _)
  (fun hh b off hp cur ty' hb=>by obtain⟨b0,off0,cur0,ty0,k1,k2,k3,k4,k5⟩:=e4 hh;rw[k1]at hp;cases hp;rw[k4]at hb;cases hb;rw[k4,mt (by simpa using k5)]) (fun c hc=>hc.elim) (fun c hc=>⟨hc,fun h=>h⟩) (fun _=>hg)
  (fun hk'=>by simp only[Rel]at e3⊢;exact⟨e3.1,e3.2.1,fun z hz=>by cases hz⟩)
 refine⟨⟨p.β,_,fun b=>p.L b\/S' b⟩,S',rfl,fun b=>a2l,fun b hb hL=>(h.lim b hL).2.2 k hl (e2 b hb),ht,Rel.keep ht.keep _ _ _ _ (fun _ _=>rfl) ?_⟩;simp only[Rel]at e3;exact e3.2.2 y hy
theorem bj5{Im:Nat->Prop}{e:O}{l:List e.strip.den}{S:Nat->Prop}{vs:List Value}{i:Nat}(hi:i<l.length)(r:Rel Im w (.sl e) l S vs) :
  ∃us pl,∃Si:Nat->Prop,(∀ad,res w [.ix i] (.sl e) vs ad=some (us,pl))/\(∀c,Si c->S c)/\Rel Im w e (l.getD i e.dflt) Si us/\Rel Im w (.sl (.op e)) (bi6 l i) (fun c=>S c/\¬Si c) vs:=by
 have r1:=bgc r;have hy:(ab1 l).getD i none=some (l.getD i e.dflt):=by simp only[ab1,a0n,a1b,a0o hi,a00,a0z]
 have h2:gok [.ix i] (.sl (.op e)) (ab1 l):=by simp only[gok,ab1,a0x];exact⟨hi,trivial⟩
 have h3:get [.ix i] (.sl (.op e)) (ab1 l)=some ⟨.op e,(ab1 l).getD i none⟩:=by simp only[get,O.dflt]
 have hset:set [.ix i] (.sl (.op e)) (ab1 l) ⟨.op e,none⟩=some ⟨.sl (.op e),(ab1 l).set i none⟩:=by simp only[set];rw[show ri ⟨.op e,none⟩ (.op e)=some none from auf _ _]
 obtain⟨us,pl,Si,e1,e2,e3,e4,_,e6⟩:=aff [.ix i] (.sl (.op e)) (ab1 l) S vs none _ r1 h2 h3 (fun b off e=>by cases e);rw[hy]at e3;simp only[Rel]at e3;have hr:Rel Im w (.op e) (none:Option e.strip.den) (fun _=>False) us:=by simp only[Rel];exact⟨e3.1,e3.2.1,fun z hz=>by cases hz⟩
 have hw:=e6 Im w ⟨.op e,none⟩ (fun _=>False) us _ hset rfl hr (gn.refl _ _) (fun c h=>h.elim)
  (fun hh b off hp cur ty' hb=>by obtain⟨b0,off0,cur0,ty0,k1,k2,k3,k4,k5⟩:=e4 hh;rw[k1]at hp;cases hp;rw[k4]at hb;cases hb;rw[k4,mt (by simpa using k5)]) (fun _ _ _ _=>rfl)
 rw[nq [.ix i] _ _ _ rfl]at hw;refine⟨us,pl,Si,fun ad=>?_,e2,e3.2.2 _ rfl,?_⟩
 ·have:∀ad ad',res w [.ix i] (.sl e) vs ad=res w [.ix i] (.sl (.op e)) vs ad':=fun ad ad'=>by simp only[res];rfl
  rw[this ad none];exact e1
 ·have hS:(fun c=>(S c/\¬Si c)\/False)=fun c=>S c/\¬Si c:=funext fun c=>or_false _;rw[hS]at hw;exact hw.2
theorem ax7:∀(π:bq) (o:O) (x:o.strip.den) (p0:bq) (i:Nat) (q:Ob),ug π=some (p0,i)->get p0 o x=some q->gok p0 o x/\(gok π o x->∀(e:O) (l:List e.strip.den),q=⟨.sl e,l⟩->i<l.length)/\
  (∀(e:O) (l:List e.strip.den),q=⟨.sl e,l⟩->get π o x=some ⟨e,l.getD i e.dflt⟩)/\∀(w:World) (e:O) (l:List e.strip.den),q=⟨.sl e,l⟩->∀vs ad us pl,res w p0 o vs ad=some (us,pl)->res w π o vs ad=res w [.ix i] (.sl e) us pl:=by
 intro π
 induction π with
 |nil=>intro o x p0 i q h;simp[ug]at h
 |cons s π ih=>
  intro o x p0 i q h hg
  cases s with
  |ix n=>
   cases π with
   |nil=>
    simp only[ug,a0d,a0j]at h;obtain⟨rfl,rfl⟩:=h;simp only[get,a0d]at hg;subst hg;refine⟨by simp only[gok],fun h1 e l hq=>?_,fun e l hq=>?_,fun w e l hq vs ad us pl hr=>?_⟩
    ·cases hq;simp only[gok]at h1;exact h1.1
    ·cases hq;simp only[get]
    ·cases hq;simp only[res,a0d,a0j]at hr;obtain⟨rfl,rfl⟩:=hr;rfl
   |cons _ _=>simp[ug]at h
  |l=>
   simp only[ug]at h;split at h
   ·rename_i p1 i1 h1;cases h
    cases o with
    |p a b=>simp only[get]at hg;obtain⟨k1,k2,k3,k4⟩:=ih a x.1 p1 _ q h1 hg;exact⟨by simp only[gok];exact k1,fun g=>by simp only[gok]at g;exact k2 g,fun e l hq=>by simp only[get];exact k3 e l hq,fun w e l hq vs ad us pl hr=>by simp only[res]at hr⊢;exact k4 w e l hq _ _ _ _ hr⟩
    |fz t=>
     cases t with
     |p a b=>simp only[get]at hg;obtain⟨k1,k2,k3,k4⟩:=ih (.fz a) x.1 p1 _ q h1 hg;exact⟨by simp only[gok];exact k1,fun g=>by simp only[gok]at g;exact k2 g,fun e l hq=>by simp only[get];exact k3 e l hq,fun w e l hq vs ad us pl hr=>by simp only[res]at hr⊢;exact k4 w e l hq _ _ _ _ hr⟩
     |_=>simp[get]at hg
    |_=>simp[get]at hg
   ·cases h
  |r=>
   simp only[ug]at h;split at h
   ·rename_i p1 i1 h1;cases h
    cases o with
    |p a b=>simp only[get]at hg;obtain⟨k1,k2,k3,k4⟩:=ih b x.2 p1 _ q h1 hg;exact⟨by simp only[gok];exact k1,fun g=>by simp only[gok]at g;exact k2 g,fun e l hq=>by simp only[get];exact k3 e l hq,fun w e l hq vs ad us pl hr=>by simp only[res]at hr⊢;exact k4 w e l hq _ _ _ _ hr⟩
    |fz t=>
     cases t with
     |p a b=>simp only[get]at hg;obtain⟨k1,k2,k3,k4⟩:=ih (.fz b) x.2 p1 _ q h1 hg;exact⟨by simp only[gok];exact k1,fun g=>by simp only[gok]at g;exact k2 g,fun e l hq=>by simp only[get];exact k3 e l hq,fun w e l hq vs ad us pl hr=>by simp only[res]at hr⊢;exact k4 w e l hq _ _ _ _ hr⟩
     |_=>simp[get]at hg
    |_=>simp[get]at hg
   ·cases h
  |de=>
   simp only[ug]at h;split at h
   ·rename_i p1 i1 h1;cases h
    cases o with
    |pt t=>
     simp only[get]at hg;obtain⟨k1,k2,k3,k4⟩:=ih t x p1 _ q h1 hg;refine⟨by simp only[gok];exact k1,fun g=>by simp only[gok]at g;exact k2 g,fun e l hq=>by simp only[get];exact k3 e l hq,fun w e l hq vs ad us pl hr=>?_⟩;simp only[res]at hr⊢;split at hr
     ·exact k4 w e l hq _ _ _ _ hr
     ·cases hr
    |_=>simp[get]at hg
   ·cases h
theorem Tr.take(h:Hp F p M w){k i:Nat}{ob ob':Ob}{π p0:bq}{e:O}{l:List e.strip.den}{us:List Value}{pl:Pl}(hk:go M k=some ob)(hg:k<gid)(hx:ug π=some (p0,i))(hq:get p0 ob.o ob.x=some ⟨.sl e,l⟩)(h2:gok π ob.o ob.x)
  (h4:res w π ob.o [p.β k] none=some (us,pl)) (hset:set p0 ob.o ob.x ⟨.sl (.op e),bi6 l i⟩=some ob') :
  ∃p':Ow,∃S:Nat->Prop,p'.β=p.β/\(∀b,p'.L b<->p.L b\/S b)/\(∀b,S b->¬p.L b)/\Tr F p M w [.tk k ob.o ob'.o] p' (Bm.put k ob' M) w/\Rel (Imm F p' (Bm.put k ob' M) w) w e (l.getD i e.dflt) S us:=by
 obtain⟨g1,g2,_,g4⟩:=ax7 π ob.o ob.x p0 i _ hx hq;have hi:=g2 h2 e l rfl;obtain⟨us0,pl0,S',e1,e2,e3,e4,e5,e6⟩:=look h hk g1 hq;obtain⟨us1,pl1,Si,r1,r2,r3,r4⟩:=bj5 hi e3;rw[g4 w e l rfl _ _ _ _ e1,r1]at h4;cases h4;have hl:=bo hk
 have hout:di p0 ob.o [p.β k] us0=[p.β k]:=by
  cases hh:cm p0 with
  |true=>exact nq p0 _ _ _ hh
  |false=>
   obtain⟨n,k1,k2,k3,k4,k5⟩:=e5 hh;rw[k5 us0 rfl];refine mt (fun j u hu=>?_);rw[k3,a1e]at hu;split at hu
   ·rw[a1c]at hu;exact hu
   ·cases hu
 have ht:=Tr.put (S'':=fun c=>S' c/\¬Si c) (L':=fun b=>p.L b\/Si b) (us':=us0) (w':=w) h hk e2 e4 e6 hset rfl hout (Chg.refl w _)
  (fun hh b off hp cur ty' hb=>by obtain⟨b0,off0,cur0,ty0,k1,k2,k3,k4,k5⟩:=e4 hh;rw[k1]at hp;cases hp;rw[k4]at hb;cases hb;rw[k4,mt (by simpa using k5)]) (fun c hc=>.inr hc.1)
  (fun c hc=>hc.elim (fun hc=>⟨.inl hc,fun hs=>(h.lim c hc).2.2 k hl (e2 c hs.1)⟩) fun hc=>⟨.inr (r2 c hc),fun hs=>hs.2 hc⟩) (fun _=>hg)
  (fun hk'=>Rel.keep hk' _ _ _ _ (fun _ _=>rfl) r4)
 exact⟨⟨p.β,_,fun b=>p.L b\/Si b⟩,Si,rfl,fun b=>a2l,fun b hb hL=>(h.lim b hL).2.2 k hl (e2 b (r2 b hb)),Tr.tk h hk rfl ht,Rel.keep ht.keep _ _ _ _ (fun _ _=>rfl) r3⟩
theorem Tr.relP(h:Hp F p M w){k:Nat}{ob ob' q n:Ob}{p0:bq}(hk:go M k=some ob)(hgo:gok p0 ob.o ob.x)(hq:get p0 ob.o ob.x=some q)(hset:set p0 ob.o ob.x n=some ob')(hsz:n.o.size=q.o.size)
  (hr:∀(Im S:Nat->Prop) (vs:List Value),Rel Im w q.o q.x S vs->Rel Im w n.o n.x S vs):∃p':Ow,(∀b,p'.L b<->p.L b)/\Tr F p M w [.cut k ob.o ob'.o] p' (Bm.put k ob' M) w:=by
 obtain⟨us0,pl0,S',e1,e2,e3,e4,e5,e6⟩:=look h hk hgo hq;have hl:=bo hk
 have hout:di p0 ob.o [p.β k] us0=[p.β k]:=by
  cases hh:cm p0 with
  |true=>exact nq p0 _ _ _ hh
  |false=>
   obtain⟨n,k1,k2,k3,k4,k5⟩:=e5 hh;rw[k5 us0 rfl];refine mt (fun j u hu=>?_);rw[k3,a1e]at hu;split at hu
   ·rw[a1c]at hu;exact hu
   ·cases hu
 have ht:=Tr.put (S'':=S') (L':=p.L) (us':=us0) (w':=w) h hk e2 e4 e6 hset hsz hout (Chg.refl w _)
  (fun hh b off hp cur ty' hb=>by obtain⟨b0,off0,cur0,ty0,k1,k2,k3,k4,k5⟩:=e4 hh;rw[k1]at hp;cases hp;rw[k4]at hb;cases hb;rw[k4,mt (by simpa using k5)]) (fun c hc=>.inr hc)
  (fun c hc=>⟨.inl hc,fun hs=>(h.lim c hc).2.2 k hl (e2 c hs)⟩) (fun hc=>absurd (e2 _ hc.choose_spec.2) ((h.lim _ hc.choose_spec.1).2.2 k hl))
  (fun hk'=>hr _ _ _ (Rel.keep hk' _ _ _ _ (fun _ _=>rfl) e3))
 exact⟨⟨p.β,fun j=>if j=k then fun c=>(p.σ k c/\¬S' c)\/S' c else p.σ j,p.L⟩,fun b=>a2l,ht⟩
end
end Go.Bm
/- The du machine:ways joined,values looked at. -/
namespace Go.Bm
open Go.RowKit
def ab:List Prop->Prop
 |[]=>True
 |p::r=>p/\ab r
@[simp] theorem da:ab []=True:=rfl
@[simp] theorem cr (p:Prop) (r:List Prop):ab (p::r)=(p/\ab r):=rfl
theorem sf(a b:List Prop):ab (ap a b)<->ab a/\ab b:=by
 induction a with
 |nil=>simp[ap]
 |cons p a ih=>simp only[ap,cr,ih,and_assoc]
theorem sm(l:List Prop)(K:Prop):aka l K<->ab l/\K:=by
 induction l with
 |nil=>simp[aka]
 |cons p l ih=>simp only[aka,cr,ih,and_assoc]
theorem ak7(g:Prop)(l:List Prop)(K:Prop):imp g l K<->(g->ab l)/\K:=by
 induction l with
 |nil=>simp[imp]
 |cons p l _=>
  simp only[imp,cr,sm];constructor
  ·rintro⟨h1,h3⟩;exact⟨fun hg=>⟨(h1 hg).2,(h1 hg).1⟩,h3⟩
  ·rintro⟨h1,h3⟩;exact⟨fun hg=>⟨(h1 hg).2,(h1 hg).1⟩,h3⟩
theorem bb7(l:List Prop)(K:Prop):aki l K<->(ab l->K):=by
 induction l with
 |nil=>simp[aki]
 |cons p l ih=>simp only[aki,cr,ih];constructor <;> intro h <;> intros <;> simp_all
@[simp] theorem bh:bg []=true:=rfl
@[simp] theorem au (b:Bool) (r:List Bool):bg (b::r)=(b&&bg r):=by cases b <;> rfl
theorem io{c:Bool}{x:List Prop×V}(h:ab (bif c then x else bad).1):c=true:=by
 cases c with
 |true=>rfl
 |false=>exact h.1.elim
theorem dl{P:Program}{t:TypeId}(h:(ty P t).ok=true):∃i u,P.info? t=some i/\P.underlying t=some u:=by
 unfold ty at h;split at h
 ·rename_i i u hi hu;exact⟨i,u,hi,hu⟩
 ·simp[bhx]at h
theorem gp{P:Program}{t:TypeId}{i:TypeInfo}{u:TypeDesc}(hi:P.info? t=some i)(hu:P.underlying t=some u):ty P t=nw P i u:=by simp only[ty,hi,hu]
theorem bm0{P:Program}{t:TypeId}{zs:List Value}(h:tyZ P t=some zs):∃i z,P.info? t=some i/\i.zero=some z/\zs=z.cells.toList:=by
 unfold tyZ at h;split at h
 ·rename_i i hi;split at h
  ·rename_i z hz;cases h;exact⟨i,z,hi,hz,rfl⟩
  ·cases h
 ·cases h
theorem ax6(n:Int):inK .i64 n<->-9223372036854775808<=n/\n<=9223372036854775807:=by simp[inK,IntKind.min,IntKind.max,IntKind.signed,IntKind.bits]
theorem bde(n:Int):inK .u8 n<->0<=n/\n<=255:=by simp[inK,IntKind.min,IntKind.max,IntKind.signed,IntKind.bits]
theorem bgb(n:Int):inK .u64 n<->0<=n/\n<=18446744073709551615:=by simp[inK,IntKind.min,IntKind.max,IntKind.signed,IntKind.bits]
theorem bfg(n:Int):inK .i32 n<->-2147483648<=n/\n<=2147483647:=by simp[inK,IntKind.min,IntKind.max,IntKind.signed,IntKind.bits]
theorem bg3(n:Int):inK .u32 n<->0<=n/\n<=4294967295:=by simp[inK,IntKind.min,IntKind.max,IntKind.signed,IntKind.bits]
theorem be6(n:Int):inK .u16 n<->0<=n/\n<=65535:=by simp[inK,IntKind.min,IntKind.max,IntKind.signed,IntKind.bits]
theorem bfc(n:Int):inK .i16 n<->-32768<=n/\n<=32767:=by simp[inK,IntKind.min,IntKind.max,IntKind.signed,IntKind.bits]
theorem bk7(n:Int):inK .i8 n<->-128<=n/\n<=127:=by simp[inK,IntKind.min,IntKind.max,IntKind.signed,IntKind.bits]
theorem be9{k:IntKind}{n:Int}(h:inK k n):k.wrap n=n:=by
 cases k
 all_goals first|rw[ax6]at h|rw[bde]at h|rw[bgb]at h|rw[bfg]at h|rw[bg3]at h|rw[be6]at h|rw[bfc]at h|rw[bk7]at h
 all_goals (simp[IntKind.wrap,IntKind.signed,IntKind.bits];omega)
theorem ar7(k:IntKind)(n:Int):inK k (k.wrap n):=by
 cases k
 all_goals first|rw[ax6]|rw[bde]|rw[bgb]|rw[bfg]|rw[bg3]|rw[be6]|rw[bfc]|rw[bk7]
 all_goals (simp[IntKind.wrap,IntKind.signed,IntKind.bits];omega)
theorem af0{n:Nat}(h:n<=nb):inK .i64 n:=(ax6 n).2 ⟨by omega,by simp only[nb]at h;omega⟩
theorem aab:(ρ π:bq)->(o:O)->(x:o.strip.den)->get (ap ρ π) o x=(match get ρ o x with|some q=>get π q.o q.x|none=>none)
 |[],π,o,x=>by simp only[ap,get]
 |.l::ρ,π,.p a b,x=>by simp only[ap,get];exact aab ρ π a x.1
 |.r::ρ,π,.p a b,x=>by simp only[ap,get];exact aab ρ π b x.2
 |.l::ρ,π,.fz (.p a b),x=>by simp only[ap,get];exact aab ρ π (.fz a) x.1
 |.r::ρ,π,.fz (.p a b),x=>by simp only[ap,get];exact aab ρ π (.fz b) x.2
 |.ix i::ρ,π,.sl e,x=>by simp only[ap,get];exact aab ρ π e _
 |.de::ρ,π,.pt t,x=>by simp only[ap,get];exact aab ρ π t x
 |.l::_,_,.sl _,_=>by simp only[ap,get]
 |.l::_,_,.mp _ _,_=>by simp only[ap,get]
 |.l::_,_,.op _,_=>by simp only[ap,get]
 |.l::_,_,.pt _,_=>by simp only[ap,get]
 |.l::_,_,.fz (.int _),_=>by simp only[ap,get]
 |.l::_,_,.fz .bool,_=>by simp only[ap,get]
 |.l::_,_,.fz .str,_=>by simp only[ap,get]
 |.l::_,_,.fz .u,_=>by simp only[ap,get]
 |.l::_,_,.fz (.sl _),_=>by simp only[ap,get]
 |.l::_,_,.fz (.pt _),_=>by simp only[ap,get]
 |.l::_,_,.fz (.fn _ _),_=>by simp only[ap,get]
 |.l::_,_,.fz (.ifc _ _),_=>by simp only[ap,get]
 |.l::_,_,.fz (.mp _ _),_=>by simp only[ap,get]
 |.l::_,_,.fz (.op _),_=>by simp only[ap,get]
 |.l::_,_,.fz (.ns _),_=>by simp only[ap,get]
 |.l::_,_,.fz (.er _),_=>by simp only[ap,get]
 |.l::_,_,.fz .any,_=>by simp only[ap,get]
 |.r::_,_,.sl _,_=>by simp only[ap,get]
 |.r::_,_,.mp _ _,_=>by simp only[ap,get]
 |.r::_,_,.op _,_=>by simp only[ap,get]
 |.r::_,_,.pt _,_=>by simp only[ap,get]
 |.r::_,_,.fz (.int _),_=>by simp only[ap,get]
 |.r::_,_,.fz .bool,_=>by simp only[ap,get]
 |.r::_,_,.fz .str,_=>by simp only[ap,get]
 |.r::_,_,.fz .u,_=>by simp only[ap,get]
 |.r::_,_,.fz (.sl _),_=>by simp only[ap,get]
 |.r::_,_,.fz (.pt _),_=>by simp only[ap,get]
 |.r::_,_,.fz (.fn _ _),_=>by simp only[ap,get]
 |.r::_,_,.fz (.ifc _ _),_=>by simp only[ap,get]
 |.r::_,_,.fz (.mp _ _),_=>by simp only[ap,get]
 |.r::_,_,.fz (.op _),_=>by simp only[ap,get]
 |.r::_,_,.fz (.ns _),_=>by simp only[ap,get]
 |.r::_,_,.fz (.er _),_=>by simp only[ap,get]
 |.r::_,_,.fz .any,_=>by simp only[ap,get]
 |.ix _::_,_,.fz _,_=>by simp only[ap,get]
 |.ix _::_,_,.p _ _,_=>by simp only[ap,get]
 |.ix _::_,_,.pt _,_=>by simp only[ap,get]
 |.ix _::_,_,.mp _ _,_=>by simp only[ap,get]
 |.ix _::_,_,.op _,_=>by simp only[ap,get]
 |.de::_,_,.fz _,_=>by simp only[ap,get]
 |.de::_,_,.p _ _,_=>by simp only[ap,get]
 |.de::_,_,.sl _,_=>by simp only[ap,get]
 |.de::_,_,.mp _ _,_=>by simp only[ap,get]
 |.de::_,_,.op _,_=>by simp only[ap,get]
theorem abc:(ρ π:bq)->(o:O)->(x:o.strip.den)->(q:Ob)->get ρ o x=some q->gok ρ o x->gok π q.o q.x->gok (ap ρ π) o x
 |[],π,o,x,q,h,_,h2=>by simp only[get,a0d]at h;subst h;exact h2
 |.l::ρ,π,.p a b,x,q,h,h1,h2=>by simp only[ap,get,gok]at h h1⊢;exact abc ρ π a x.1 q h h1 h2
 |.r::ρ,π,.p a b,x,q,h,h1,h2=>by simp only[ap,get,gok]at h h1⊢;exact abc ρ π b x.2 q h h1 h2
 |.l::ρ,π,.fz (.p a b),x,q,h,h1,h2=>by simp only[ap,get,gok]at h h1⊢;exact abc ρ π (.fz a) x.1 q h h1 h2
 |.r::ρ,π,.fz (.p a b),x,q,h,h1,h2=>by simp only[ap,get,gok]at h h1⊢;exact abc ρ π (.fz b) x.2 q h h1 h2
 |.ix i::ρ,π,.sl e,x,q,h,h1,h2=>by simp only[ap,get,gok]at h h1⊢;exact⟨h1.1,abc ρ π e _ q h h1.2 h2⟩
 |.de::ρ,π,.pt t,x,q,h,h1,h2=>by simp only[ap,get,gok]at h h1⊢;exact abc ρ π t x q h h1 h2
 |.l::_,_,.sl _,_,_,h,_,_=>by simp[get]at h
 |.l::_,_,.mp _ _,_,_,h,_,_=>by simp[get]at h
 |.l::_,_,.op _,_,_,h,_,_=>by simp[get]at h
 |.l::_,_,.pt _,_,_,h,_,_=>by simp[get]at h
 |.l::_,_,.fz (.int _),_,_,h,_,_=>by simp[get]at h
 |.l::_,_,.fz .bool,_,_,h,_,_=>by simp[get]at h
 |.l::_,_,.fz .str,_,_,h,_,_=>by simp[get]at h
 |.l::_,_,.fz .u,_,_,h,_,_=>by simp[get]at h
 |.l::_,_,.fz (.sl _),_,_,h,_,_=>by simp[get]at h
 |.l::_,_,.fz (.pt _),_,_,h,_,_=>by simp[get]at h
 |.l::_,_,.fz (.fn _ _),_,_,h,_,_=>by simp[get]at h
 |.l::_,_,.fz (.ifc _ _),_,_,h,_,_=>by simp[get]at h
 |.l::_,_,.fz (.mp _ _),_,_,h,_,_=>by simp[get]at h
 |.l::_,_,.fz (.op _),_,_,h,_,_=>by simp[get]at h
 |.l::_,_,.fz (.ns _),_,_,h,_,_=>by simp[get]at h
 |.l::_,_,.fz (.er _),_,_,h,_,_=>by simp[get]at h
 |.l::_,_,.fz .any,_,_,h,_,_=>by simp[get]at h
 |.r::_,_,.sl _,_,_,h,_,_=>by simp[get]at h
 |.r::_,_,.mp _ _,_,_,h,_,_=>by simp[get]at h
 |.r::_,_,.op _,_,_,h,_,_=>by simp[get]at h
 |.r::_,_,.pt _,_,_,h,_,_=>by simp[get]at h
 |.r::_,_,.fz (.int _),_,_,h,_,_=>by simp[get]at h
 |.r::_,_,.fz .bool,_,_,h,_,_=>by simp[get]at h
 |.r::_,_,.fz .str,_,_,h,_,_=>by simp[get]at h
 |.r::_,_,.fz .u,_,_,h,_,_=>by simp[get]at h
 |.r::_,_,.fz (.sl _),_,_,h,_,_=>by simp[get]at h
 |.r::_,_,.fz (.pt _),_,_,h,_,_=>by simp[get]at h
 |.r::_,_,.fz (.fn _ _),_,_,h,_,_=>by simp[get]at h
 |.r::_,_,.fz (.ifc _ _),_,_,h,_,_=>by simp[get]at h
 |.r::_,_,.fz (.mp _ _),_,_,h,_,_=>by simp[get]at h
 |.r::_,_,.fz (.op _),_,_,h,_,_=>by simp[get]at h
 |.r::_,_,.fz (.ns _),_,_,h,_,_=>by simp[get]at h
 |.r::_,_,.fz (.er _),_,_,h,_,_=>by simp[get]at h
 |.r::_,_,.fz .any,_,_,h,_,_=>by simp[get]at h
 |.ix _::_,_,.fz _,_,_,h,_,_=>by simp[get]at h
 |.ix _::_,_,.p _ _,_,_,h,_,_=>by simp[get]at h
 |.ix _::_,_,.pt _,_,_,h,_,_=>by simp[get]at h
 |.ix _::_,_,.mp _ _,_,_,h,_,_=>by simp[get]at h
 |.ix _::_,_,.op _,_,_,h,_,_=>by simp[get]at h
 |.de::_,_,.fz _,_,_,h,_,_=>by simp[get]at h
 |.de::_,_,.p _ _,_,_,h,_,_=>by simp[get]at h
 |.de::_,_,.sl _,_,_,h,_,_=>by simp[get]at h
 |.de::_,_,.mp _ _,_,_,h,_,_=>by simp[get]at h
 |.de::_,_,.op _,_,_,h,_,_=>by simp[get]at h
theorem abj(w:World):(ρ π:bq)->(o:O)->(x:o.strip.den)->(q:Ob)->(vs:List Value)->(ad:Pl)->get ρ o x=some q->res w (ap ρ π) o vs ad=(match res w ρ o vs ad with|some r=>res w π q.o r.1 r.2|none=>none)
 |[],π,o,x,q,vs,ad,h=>by simp only[get,a0d]at h;subst h;simp only[ap,res]
 |.l::ρ,π,.p a b,x,q,vs,ad,h=>by simp only[ap,get,res]at h⊢;exact abj w ρ π a x.1 q _ _ h
 |.r::ρ,π,.p a b,x,q,vs,ad,h=>by simp only[ap,get,res]at h⊢;exact abj w ρ π b x.2 q _ _ h
 |.l::ρ,π,.fz (.p a b),x,q,vs,ad,h=>by simp only[ap,get,res]at h⊢;exact abj w ρ π (.fz a) x.1 q _ _ h
 |.r::ρ,π,.fz (.p a b),x,q,vs,ad,h=>by simp only[ap,get,res]at h⊢;exact abj w ρ π (.fz b) x.2 q _ _ h
 |.ix i::ρ,π,.sl e,x,q,vs,ad,h=>by
  simp only[ap,get,res]at h⊢;split
  ·rename_i a n c;exact abj w ρ π e _ q _ _ h
  ·rfl
 |.de::ρ,π,.pt t,x,q,vs,ad,h=>by
  simp only[ap,get,res]at h⊢;split
  ·rename_i a;exact abj w ρ π t x q _ _ h
  ·rfl
 |.l::_,_,.sl _,_,_,_,_,h=>by simp[get]at h
 |.l::_,_,.mp _ _,_,_,_,_,h=>by simp[get]at h
 |.l::_,_,.op _,_,_,_,_,h=>by simp[get]at h
 |.l::_,_,.pt _,_,_,_,_,h=>by simp[get]at h
 |.l::_,_,.fz (.int _),_,_,_,_,h=>by simp[get]at h
 |.l::_,_,.fz .bool,_,_,_,_,h=>by simp[get]at h
 |.l::_,_,.fz .str,_,_,_,_,h=>by simp[get]at h
 |.l::_,_,.fz .u,_,_,_,_,h=>by simp[get]at h
 |.l::_,_,.fz (.sl _),_,_,_,_,h=>by simp[get]at h
 |.l::_,_,.fz (.pt _),_,_,_,_,h=>by simp[get]at h
 |.l::_,_,.fz (.fn _ _),_,_,_,_,h=>by simp[get]at h
 |.l::_,_,.fz (.ifc _ _),_,_,_,_,h=>by simp[get]at h
 |.l::_,_,.fz (.mp _ _),_,_,_,_,h=>by simp[get]at h
 |.l::_,_,.fz (.op _),_,_,_,_,h=>by simp[get]at h
 |.l::_,_,.fz (.ns _),_,_,_,_,h=>by simp[get]at h
 |.l::_,_,.fz (.er _),_,_,_,_,h=>by simp[get]at h
 |.l::_,_,.fz .any,_,_,_,_,h=>by simp[get]at h
 |.r::_,_,.sl _,_,_,_,_,h=>by simp[get]at h
 |.r::_,_,.mp _ _,_,_,_,_,h=>by simp[get]at h
 |.r::_,_,.op _,_,_,_,_,h=>by simp[get]at h
 |.r::_,_,.pt _,_,_,_,_,h=>by simp[get]at h
 |.r::_,_,.fz (.int _),_,_,_,_,h=>by simp[get]at h
 |.r::_,_,.fz .bool,_,_,_,_,h=>by simp[get]at h
 |.r::_,_,.fz .str,_,_,_,_,h=>by simp[get]at h
 |.r::_,_,.fz .u,_,_,_,_,h=>by simp[get]at h
 |.r::_,_,.fz (.sl _),_,_,_,_,h=>by simp[get]at h
 |.r::_,_,.fz (.pt _),_,_,_,_,h=>by simp[get]at h
 |.r::_,_,.fz (.fn _ _),_,_,_,_,h=>by simp[get]at h
 |.r::_,_,.fz (.ifc _ _),_,_,_,_,h=>by simp[get]at h
 |.r::_,_,.fz (.mp _ _),_,_,_,_,h=>by simp[get]at h
 |.r::_,_,.fz (.op _),_,_,_,_,h=>by simp[get]at h
 |.r::_,_,.fz (.ns _),_,_,_,_,h=>by simp[get]at h
 |.r::_,_,.fz (.er _),_,_,_,_,h=>by simp[get]at h
 |.r::_,_,.fz .any,_,_,_,_,h=>by simp[get]at h
 |.ix _::_,_,.fz _,_,_,_,_,h=>by simp[get]at h
 |.ix _::_,_,.p _ _,_,_,_,_,h=>by simp[get]at h
 |.ix _::_,_,.pt _,_,_,_,_,h=>by simp[get]at h
 |.ix _::_,_,.mp _ _,_,_,_,_,h=>by simp[get]at h
 |.ix _::_,_,.op _,_,_,_,_,h=>by simp[get]at h
 |.de::_,_,.fz _,_,_,_,_,h=>by simp[get]at h
 |.de::_,_,.p _ _,_,_,_,_,h=>by simp[get]at h
 |.de::_,_,.sl _,_,_,_,_,h=>by simp[get]at h
 |.de::_,_,.mp _ _,_,_,_,_,h=>by simp[get]at h
 |.de::_,_,.op _,_,_,_,_,h=>by simp[get]at h
theorem ai8:(ρ π:bq)->(cm ρ||cm π)=true->cm (ap ρ π)=true
 |[],π,h=>by simpa[cm,ap]using h
 |.l::ρ,π,h=>by simp only[ap,cm]at h⊢;exact ai8 ρ π h
 |.r::ρ,π,h=>by simp only[ap,cm]at h⊢;exact ai8 ρ π h
 |.ix _::ρ,π,h=>by simp only[ap,cm]
 |.de::ρ,π,h=>by simp only[ap,cm]
theorem aar:(π:bq)->(o:O)->(n:Nat)->cg π o.strip=some n->gu π o=some n/\cm π=false
 |[],o,n,h=>by simp only[cg]at h;simp only[gu,h,cm,and_self]
 |.l::π,.p a b,n,h=>by simp only[cg]at h;obtain⟨h1,h2⟩:=aar π a n h;exact⟨by simpa only [gu]using h1,by simpa only [cm]using h2⟩
 |.r::π,.p a b,n,h=>by
  simp only[cg]at h;split at h
  ·rename_i m hm;obtain⟨h1,h2⟩:=aar π b m hm;exact⟨by simp only[gu,h1];exact h,by simpa only [cm]using h2⟩
  ·cases h
 |.l::π,.fz (.p a b),n,h=>by simp only[cg]at h;obtain⟨h1,h2⟩:=aar π (.fz a) n h;exact⟨by simpa only [gu]using h1,by simpa only [cm]using h2⟩
 |.r::π,.fz (.p a b),n,h=>by
  simp only[cg]at h;split at h
  ·rename_i m hm;obtain⟨h1,h2⟩:=aar π (.fz b) m hm;exact⟨by simp only[gu,h1];exact h,by simpa only [cm]using h2⟩
  ·cases h
 |.l::_,.sl _,_,h=>by simp[cg]at h
 |.l::_,.mp _ _,_,h=>by simp[cg]at h
 |.l::_,.op _,_,h=>by simp[cg]at h
 |.l::_,.pt _,_,h=>by simp[cg]at h
 |.l::_,.fz (.int _),_,h=>by simp[cg]at h
 |.l::_,.fz .bool,_,h=>by simp[cg]at h
 |.l::_,.fz .str,_,h=>by simp[cg]at h
 |.l::_,.fz .u,_,h=>by simp[cg]at h
 |.l::_,.fz (.sl _),_,h=>by simp[cg]at h
 |.l::_,.fz (.pt _),_,h=>by simp[cg]at h
 |.l::_,.fz (.fn _ _),_,h=>by simp[cg]at h
 |.l::_,.fz (.ifc _ _),_,h=>by simp[cg]at h
 |.l::_,.fz (.mp _ _),_,h=>by simp[cg]at h
 |.l::_,.fz (.op _),_,h=>by simp[cg]at h
 |.l::_,.fz (.ns _),_,h=>by simp[cg]at h
 |.l::_,.fz (.er _),_,h=>by simp[cg]at h
 |.l::_,.fz .any,_,h=>by simp[cg]at h
 |.r::_,.sl _,_,h=>by simp[cg]at h
 |.r::_,.mp _ _,_,h=>by simp[cg]at h
 |.r::_,.op _,_,h=>by simp[cg]at h
 |.r::_,.pt _,_,h=>by simp[cg]at h
 |.r::_,.fz (.int _),_,h=>by simp[cg]at h
 |.r::_,.fz .bool,_,h=>by simp[cg]at h
 |.r::_,.fz .str,_,h=>by simp[cg]at h
 |.r::_,.fz .u,_,h=>by simp[cg]at h
 |.r::_,.fz (.sl _),_,h=>by simp[cg]at h
 |.r::_,.fz (.pt _),_,h=>by simp[cg]at h
 |.r::_,.fz (.fn _ _),_,h=>by simp[cg]at h
 |.r::_,.fz (.ifc _ _),_,h=>by simp[cg]at h
 |.r::_,.fz (.mp _ _),_,h=>by simp[cg]at h
 |.r::_,.fz (.op _),_,h=>by simp[cg]at h
 |.r::_,.fz (.ns _),_,h=>by simp[cg]at h
 |.r::_,.fz (.er _),_,h=>by simp[cg]at h
 |.r::_,.fz .any,_,h=>by simp[cg]at h
 |.ix _::_,_,_,h=>by simp[cg]at h
 |.de::_,_,_,h=>by simp[cg]at h
theorem ayl{Im:Nat->Prop}{w:World}:(π:bq)->(t:T)->(x:t.den)->(n:Nat)->(q:(t:T)×t.den)->(vs:List Value)->cg π t=some n->as7 π t x=some q->ai Im w t x vs->
  ∃va us vb,vs=va++us++vb/\va.length=n/\ai Im w q.1 q.2 us
 |[],t,x,n,q,vs,h,hq,r=>by simp only[cg,a0d]at h;simp only[as7,a0d]at hq;subst h;subst hq;exact⟨[],vs,[],by simp,rfl,r⟩
 |.l::π,.p a b,x,n,q,vs,h,hq,r=>by simp only[cg]at h;simp only[as7]at hq;simp only[ai]at r;obtain⟨va,vb,rfl,ha,hb⟩:=r;obtain⟨v1,us,v2,rfl,k2,k3⟩:=ayl π a x.1 n q va h hq ha;exact⟨v1,us,v2++vb,by simp,k2,k3⟩
 |.r::π,.p a b,x,n,q,vs,h,hq,r=>by
  simp only[cg]at h;simp only[as7]at hq;simp only[ai]at r;obtain⟨va,vb,rfl,ha,hb⟩:=r;split at h
  ·rename_i m hm;simp only[a0d]at h;obtain⟨v1,us,v2,rfl,k2,k3⟩:=ayl π b x.2 m q vb hm hq hb;exact⟨va++v1,us,v2,by simp,by rw[a0q,ai.len a _ _ ha,k2,←h];simp,k3⟩
  ·cases h
 |.l::_,.int _,_,_,_,_,h,_,_=>by simp[cg]at h
 |.l::_,.bool,_,_,_,_,h,_,_=>by simp[cg]at h
 |.l::_,.str,_,_,_,_,h,_,_=>by simp[cg]at h
 |.l::_,.u,_,_,_,_,h,_,_=>by simp[cg]at h
 |.l::_,.sl _,_,_,_,_,h,_,_=>by simp[cg]at h
 |.l::_,.pt _,_,_,_,_,h,_,_=>by simp[cg]at h
 |.l::_,.fn _ _,_,_,_,_,h,_,_=>by simp[cg]at h
 |.l::_,.ifc _ _,_,_,_,_,h,_,_=>by simp[cg]at h
 |.l::_,.mp _ _,_,_,_,_,h,_,_=>by simp[cg]at h
 |.l::_,.op _,_,_,_,_,h,_,_=>by simp[cg]at h
 |.l::_,.any,_,_,_,_,h,_,_=>by simp[cg]at h
 |.r::_,.int _,_,_,_,_,h,_,_=>by simp[cg]at h
 |.r::_,.bool,_,_,_,_,h,_,_=>by simp[cg]at h
 |.r::_,.str,_,_,_,_,h,_,_=>by simp[cg]at h
 |.r::_,.u,_,_,_,_,h,_,_=>by simp[cg]at h
 |.r::_,.sl _,_,_,_,_,h,_,_=>by simp[cg]at h
 |.r::_,.pt _,_,_,_,_,h,_,_=>by simp[cg]at h
 |.r::_,.fn _ _,_,_,_,_,h,_,_=>by simp[cg]at h
 |.r::_,.ifc _ _,_,_,_,_,h,_,_=>by simp[cg]at h
 |.r::_,.mp _ _,_,_,_,_,h,_,_=>by simp[cg]at h
 |.r::_,.op _,_,_,_,_,h,_,_=>by simp[cg]at h
 |.r::_,.any,_,_,_,_,h,_,_=>by simp[cg]at h
 |.ix _::_,_,_,_,_,_,h,_,_=>by simp[cg]at h
 |.de::_,_,_,_,_,_,h,_,_=>by simp[cg]at h
theorem oy.sub{w:World}{b o:Nat}{va us vb:List Value}(h:oy w b o (va++us++vb)):oy w b (o+va.length) us:=fun j u hu=>by
 have:=h (va.length+j) u (by rw[a07,a1x (by omega),a47,a1g (a1k.1 hu).1];exact hu)
 rwa [show o+(va.length+j)=o+va.length+j by omega]at this
theorem az0{v:Value}(h:v.oneCell'=true):v.cells=#[v]:=by cases v <;> simp[Value.oneCell']at h <;> rfl
section
variable {F:Fr} {p p' p'':Ow} {env:Env} {M M' M'':Mem} {a:Act} {w w' w'':World} {P:Program} {B:Tab}
theorem qc{M:Mem}{k:Nat}{π:bq}{q:Ob}(h:my M k π=some q):∃ob,go M k=some ob/\get π ob.o ob.x=some q:=by
 unfold my at h;split at h
 ·rename_i ob hob;exact⟨ob,hob,h⟩
 ·cases h
theorem Ref.look(hp:Hp F p M w){k:Nat}{π:bq}{vs:List Value}{q:Ob}(h:Ref p.β M w k π vs)(hq:my M k π=some q):∃S,Rel (Imm F p M w) w q.o q.x S vs:=by obtain⟨ob,h1,h2⟩:=qc hq;obtain⟨ob',pl,k1,k2,k3,k4⟩:=h;rw[h1]at k1;cases k1;obtain⟨us,pl',S',e1,e2,e3,_⟩:=Bm.look hp h1 k2 h2;rw[e1]at k4;cases k4;exact⟨S',e3⟩
theorem Adr.look(hp:Hp F p M w){k:Nat}{π:bq}{v:Value}{q:Ob}(h:Adr p.β M w k π v)(hq:my M k π=some q) :
  ∃S us b off cur ty',v=.pointer (some ⟨b,off,none⟩)/\Rel (Imm F p M w) w q.o q.x S us/\w.heap[b]? = some (.cells cur ty' (0,0))/\(∀(j:Nat) (u:Value),us[j]? = some u->cur[off+j]? = some u)/\Ref p.β M w k π us:=by
 obtain⟨ob,h1,h2⟩:=qc hq;obtain⟨ob',us0,b0,off0,k1,k2,k3,k4,k5,k6⟩:=h;rw[h1]at k1;cases k1;obtain⟨us,pl',S',e1,e2,e3,e4,_⟩:=Bm.look hp h1 k2 h2;rw[e1]at k5;simp only[a0d,a0j]at k5;obtain⟨rfl,rfl⟩:=k5;obtain⟨b,off,cur,ty',g1,g2,g3,g4,g5⟩:=e4 k4;simp only[a0d,a0j]at g1;obtain⟨rfl,rfl⟩:=g1;exact⟨S',us,b0,off0,cur,ty',k6,e3,g4,g5,ob,_,h1,k2,⟨q,h2⟩,e1⟩
theorem bmk(hp:Hp F p M w){k:Nat}{π:bq}{vs:List Value}{q:Ob}(h:Ref p.β M w k π vs)(hq:my M k π=some q):aa p.β M (Imm F p M w) w (toV k π q.o q.x) vs:=by
 obtain⟨S,hr⟩:=h.look hp hq;obtain⟨o,x⟩:=q
 cases o with
 |fz t=>
  have:toV k π (.fz t) x=kg t x:=by cases π <;> rfl
  simp only[this];simp only[Rel]at hr;exact fw t x vs hr
 |p a b=>
  have:toV k π (.p a b) x=.ref k π:=by cases π <;> rfl
  simp only[this,aa];exact h
 |sl e=>
  have:toV k π (.sl e) x=.ref k π:=by cases π <;> rfl
  simp only[this,aa];exact h
 |mp e e'=>
  have:toV k π (.mp e e') x=.ref k π:=by cases π <;> rfl
  simp only[this,aa];exact h
 |op e=>
  have:toV k π (.op e) x=.ref k π:=by cases π <;> rfl
  simp only[this,aa];exact h
 |pt o=>
  have:toV k π (.pt o) x=.ad k (ap π [.de]):=by cases π <;> rfl
  simp only[this,aa];obtain⟨ob,h1,h2⟩:=qc hq;obtain⟨ob',pl,k1,k2,k3,k4⟩:=h;rw[h1]at k1;cases k1;simp only[Rel]at hr;obtain⟨b,us,ty',S',r1,r2,r3,r4,r5⟩:=hr;refine⟨_,r1,ob,cellsOf w b 0 o.size,b,0,h1,abc π [.de] _ _ _ h2 k2 (by simp only[gok]),⟨⟨o,x⟩,by rw[aab,h2];simp only[get]⟩,ai8 π [.de] (by simp[cm]),?_,rfl⟩;rw[abj w π [.de] ob.o ob.x _ _ _ h2,k4,r1];simp only[res]
theorem Ref.sub(hp:Hp F p M w){k:Nat}{ρ π:bq}{vs:List Value}{q:Ob}{n:Nat}(h:Ref p.β M w k ρ vs)(hq:my M k ρ=some q)(ho:cg π q.o.strip=some n) :
  (∃q',my M k (ap ρ π)=some q')/\∃va us vb,vs=va++us++vb/\va.length=n/\Ref p.β M w k (ap ρ π) us:=by
 obtain⟨ob,h1,h2⟩:=qc hq;obtain⟨ob',pl,k1,k2,k3,k4⟩:=h;rw[h1]at k1;cases k1;obtain⟨us,pl',S',e1,e2,e3,_⟩:=Bm.look hp h1 k2 h2;rw[e1]at k4;cases k4;obtain⟨o1,o2⟩:=aar π q.o n ho;obtain⟨⟨q',g1⟩,g2,us',g3⟩:=qw w π q.o n o1 q.x vs pl;obtain⟨us2,pl2,S2,f1,f2,f3,f4,f5,f6⟩:=aff π q.o q.x S' vs none q' e3 g2 g1 (fun b off e=>by cases e);obtain⟨n',b1,b2,b3,b4,b5⟩:=f5 o2;rw[o1]at b1;cases b1
 have hres:∀ad,res w π q.o vs ad=some (us2,ad.plus n):=fun ad=>by
  obtain⟨_,_,us3,g4⟩:=qw w π q.o n o1 q.x vs ad;obtain⟨us4,pl4,S4,i1,i2,i3,i4,i5,i6⟩:=aff π q.o q.x S' vs none q' e3 g2 g1 (fun b off e=>by cases e)
  have hh:∀(π:bq) (o:O) (vs:List Value) (ad ad':Pl) (u u':List Value) (pl pl':Pl),cm π=false->res w π o vs ad=some (u,pl)->res w π o vs ad'=some (u',pl')->u=u':=by
   intro π
   induction π with
   |nil=>intro o vs ad ad' u u' pl pl' _ r1 r2;simp only[res,a0d,a0j]at r1 r2;rw[←r1.1,←r2.1]
   |cons s π ih=>
    intro o vs ad ad' u u' pl pl' hh r1 r2
    cases s with
    |l=>
     simp only[cm]at hh
     cases o with
     |p a b=>simp only[res]at r1 r2;exact ih _ _ _ _ _ _ _ _ hh r1 r2
     |fz t=>cases t <;> simp only[res]at r1 r2 <;> first|exact ih _ _ _ _ _ _ _ _ hh r1 r2|cases r1
     |sl e=>simp only[res]at r1;cases r1
     |pt e=>simp only[res]at r1;cases r1
     |mp _ _=>simp only[res]at r1;cases r1
     |op _=>simp only[res]at r1;cases r1
    |r=>
     simp only[cm]at hh
     cases o with
     |p a b=>simp only[res]at r1 r2;exact ih _ _ _ _ _ _ _ _ hh r1 r2
     |fz t=>cases t <;> simp only[res]at r1 r2 <;> first|exact ih _ _ _ _ _ _ _ _ hh r1 r2|cases r1
     |sl e=>simp only[res]at r1;cases r1
     |pt e=>simp only[res]at r1;cases r1
     |mp _ _=>simp only[res]at r1;cases r1
     |op _=>simp only[res]at r1;cases r1
    |de=>simp[cm]at hh
    |ix i=>simp[cm]at hh
  rw[g4,hh π q.o vs ad none us3 us2 _ _ o2 g4 f1]
 refine⟨⟨q',?_⟩,vs.take n,us2,vs.drop (n+us2.length),?_,by rw[a1d];omega,ob,pl.plus n,h1,abc ρ π _ _ _ h2 k2 g2,⟨q',by rw[aab,h2];exact g1⟩,?_⟩
 ·unfold my;rw[h1];simp only;rw[aab,h2];exact g1
 ·conv=>lhs;rw[←a10 n vs]
  rw[a07];congr 1
  conv=>lhs;rw[←a10 us2.length (vs.drop n)]
  rw[←b3,a3l]
 ·rw[abj w ρ π ob.o ob.x _ _ _ h2,e1];exact hres pl
theorem Adr.sub(hp:Hp F p M w){k:Nat}{ρ π:bq}{v:Value}{q:Ob}{n:Nat}(h:Adr p.β M w k ρ v)(hq:my M k ρ=some q)(ho:cg π q.o.strip=some n) :
  ∃b off,v=.pointer (some ⟨b,off,none⟩)/\Adr p.β M w k (ap ρ π) (.pointer (some ⟨b,off+n,none⟩)):=by
 obtain⟨ob,h1,h2⟩:=qc hq;obtain⟨ob',us0,b0,off0,k1,k2,k3,k4,k5,k6⟩:=h;rw[h1]at k1;cases k1;obtain⟨o1,o2⟩:=aar π q.o n ho;obtain⟨⟨q',g1⟩,g2,us',g3⟩:=qw w π q.o n o1 q.x us0 (some (b0,off0));refine⟨b0,off0,k6,ob,us',b0,off0+n,h1,abc ρ π _ _ _ h2 k2 g2,⟨q',by rw[aab,h2];exact g1⟩,ai8 ρ π (by rw[k4];rfl),?_,rfl⟩;rw[abj w ρ π ob.o ob.x _ _ _ h2,k5];exact g3
theorem aa.one(hp:Hp F p M w):(v:V)->(vs:List Value)->aa p.β M (Imm F p M w) w v vs->∀u∈vs,u.oneCell'=true
 |.p a b,vs,r=>by
  simp only[aa]at r;obtain⟨va,vb,rfl,ha,hb⟩:=r;intro u hu;rcases a04.1 hu with hu|hu
  ·exact aa.one hp a va ha u hu
  ·exact aa.one hp b vb hb u hu
 |.u,vs,r=>by simp only[aa]at r;subst r;intro u hu;cases hu
 |.ref k π,vs,r=>by simp only[aa]at r;exact r.one hp
 |.ad k π,vs,r=>by simp only[aa]at r;obtain⟨v,rfl,h⟩:=r;intro u hu;rw[a0u.1 hu];exact h.one
 |.d t x,vs,r=>by simp only[aa]at r;exact ai.one t x vs r
 |.nl,vs,r=>by simp only[aa]at r;obtain⟨oa,rfl⟩:=r;intro u hu;rw[a0u.1 hu];rfl
 |.np,vs,r=>by simp only[aa]at r;subst r;intro u hu;rw[a0u.1 hu];rfl
 |.any,vs,r=>by simpa only [aa]using r
 |.fn f v,vs,r=>by simp only[aa]at r;obtain⟨us,rfl,_⟩:=r;intro u hu;rw[a0u.1 hu];rfl
 |.ag _,vs,r=>by simp only[aa]at r
 |.tup _,vs,r=>by simp only[aa]at r
 |.gd _ _ _ _,vs,r=>by simp only[aa]at r
 |.ifc t v,vs,r=>by simp only[aa]at r;obtain⟨u,rfl,_⟩:=r;intro u hu;rw[a0u.1 hu];rfl
 |.bx v,vs,r=>by simp only[aa]at r;obtain⟨b,o,us,rfl,_⟩:=r;intro u hu;rw[a0u.1 hu];rfl
theorem ad5(hp:Hp F p M w){v:V}{u:Value}(h:ah p.β M (Imm F p M w) w v u)(hc:kw v=true):aa p.β M (Imm F p M w) w v.cells u.cells.toList:=by
 have key:aa p.β M (Imm F p M w) w v [u]->v.cells=v->aa p.β M (Imm F p M w) w v.cells u.cells.toList:=fun r e=>by rw[az0 (aa.one hp v _ r u (by simp)),e];exact r
 cases v with
 |any=>cases hc
 |tup _=>cases hc
 |gd _ _ _ _=>cases hc
 |ifc _ _=>exact key (by simpa only [ah]using h) rfl
 |ag y=>simp only[ah]at h;obtain⟨vs,rfl,h⟩:=h;simpa[V.cells,Value.cells]using h
 |p a b=>exact key (by simpa only [ah]using h) rfl
 |u=>exact key (by simpa only [ah]using h) rfl
 |ref k π=>exact key (by simpa only [ah]using h) rfl
 |ad k π=>exact key (by simpa only [ah]using h) rfl
 |d t y=>exact key (by simpa only [ah]using h) rfl
 |nl=>exact key (by simpa only [ah]using h) rfl
 |np=>exact key (by simpa only [ah]using h) rfl
 |fn f y=>exact key (by simpa only [ah]using h) rfl
 |bx y=>exact key (by simpa only [ah]using h) rfl
theorem bln{a b:Option Nat}{n:Nat}(h:bmt a b=some n):∃x y,a=some x/\b=some y/\n=x+y:=by cases a <;> cases b <;> simp[bmt]at h;exact⟨_,_,rfl,rfl,h.symm⟩
theorem u4(hp:Hp F p M w):(v:V)->(vs:List Value)->(n:Nat)->aa p.β M (Imm F p M w) w v vs->v.size M=some n->vs.length=n
 |.p a b,vs,n,r,h=>by simp only[aa]at r;obtain⟨va,vb,rfl,ha,hb⟩:=r;simp only[V.size]at h;obtain⟨x,y,hx,hy,rfl⟩:=bln h;rw[a0q,u4 hp a va x ha hx,u4 hp b vb y hb hy]
 |.u,vs,n,r,h=>by simp only[aa]at r;simp only[V.size,a0d]at h;subst r;subst h;rfl
 |.ref k π,vs,n,r,h=>by
  simp only[aa]at r;simp only[V.size]at h;split at h
  ·rename_i q hq;cases h;obtain⟨S,hr⟩:=r.look hp hq;exact Rel.len _ _ _ _ hr
  ·cases h
 |.ad k π,vs,n,r,h=>by simp only[aa]at r;obtain⟨v,rfl,_⟩:=r;simp only[V.size,a0d]at h;subst h;rfl
 |.d t x,vs,n,r,h=>by simp only[aa]at r;simp only[V.size,a0d]at h;subst h;exact ai.len t x vs r
 |.nl,vs,n,r,h=>by simp only[aa]at r;simp only[V.size,a0d]at h;obtain⟨oa,rfl⟩:=r;subst h;rfl
 |.np,vs,n,r,h=>by simp only[aa]at r;simp only[V.size,a0d]at h;subst r;subst h;rfl
 |.fn f v,vs,n,r,h=>by simp only[aa]at r;obtain⟨us,rfl,_⟩:=r;simp only[V.size,a0d]at h;subst h;rfl
 |.any,vs,n,r,h=>by simp[V.size]at h
 |.ag _,vs,n,r,h=>by simp[V.size]at h
 |.tup _,vs,n,r,h=>by simp[V.size]at h
 |.gd _ _ _ _,vs,n,r,h=>by simp[V.size]at h
 |.ifc t v,vs,n,r,h=>by simp only[aa]at r;obtain⟨u,rfl,_⟩:=r;simp only[V.size,a0d]at h;subst h;rfl
 |.bx v,vs,n,r,h=>by simp only[aa]at r;obtain⟨b,o,us,rfl,_⟩:=r;simp only[V.size,a0d]at h;subst h;rfl
theorem ld{M:Mem}{v:V}{n:Nat}(h:jx M v n=true):v.size M=some n:=by
 unfold jx at h;split at h
 ·rename_i m hm;simp only[fe,a0t]at h;rw[hm,h]
 ·cases h
theorem acl{M:Mem}{v:V}{n:Nat}(h:v.cells.size M=some n):kw v=true:=by cases v <;> first|rfl|simp[V.cells,V.size]at h
theorem aq6(hp:Hp F p M w):(π:bq)->(v:V)->(vs:List Value)->(n:Nat)->(v':V)->aa p.β M (Imm F p M w) w v vs->gv M π v=some (n,v')->
  ∃va us vb,vs=va++us++vb/\va.length=n/\aa p.β M (Imm F p M w) w v' us
 |[],v,vs,n,v',r,h=>by
  have:gv M [] v=some (0,v):=by cases v <;> rfl
  rw[this]at h;cases h;exact⟨[],vs,[],by simp,rfl,r⟩
 |.l::π,.p a b,vs,n,v',r,h=>by simp only[gv]at h;simp only[aa]at r;obtain⟨va,vb,rfl,ha,hb⟩:=r;obtain⟨v1,us,v2,rfl,k2,k3⟩:=aq6 hp π a va n v' ha h;exact⟨v1,us,v2++vb,by simp,k2,k3⟩
 |.r::π,.p a b,vs,n,v',r,h=>by
  simp only[gv]at h;simp only[aa]at r;obtain⟨va,vb,rfl,ha,hb⟩:=r;split at h
  ·rename_i m n' v1 hm hs;cases h;obtain⟨v1,us,v2,rfl,k2,k3⟩:=aq6 hp π b vb n' v' hb hs;exact⟨va++v1,us,v2,by simp,by rw[a0q,u4 hp a va m ha hm,k2];simp,k3⟩
  ·cases h
 |s::π,.ref k ρ,vs,n,v',r,h=>by
  have:gv M (s::π) (.ref k ρ)=(match my M k ρ,my M k (ap ρ (s::π))with
   |some q,some q'=>(match cg (s::π) q.o.strip with|some n=>some (n,toV k (ap ρ (s::π)) q'.o q'.x)|none=>none)
   |_,_=>none):=by cases s <;> rfl
  rw[this]at h;simp only[aa]at r;split at h
  ·rename_i q q' hq hq';split at h
   ·rename_i m hm;cases h;obtain⟨_,va,us,vb,h1,h2,h3⟩:=r.sub hp hq hm;exact⟨va,us,vb,h1,h2,bmk hp h3 hq'⟩
   ·cases h
  ·cases h
 |.ix _::_,.p _ _,_,_,_,_,h=>by simp[gv]at h
 |.de::_,.p _ _,_,_,_,_,h=>by simp[gv]at h
 |s::_,.any,_,_,_,_,h=>by cases s <;> simp[gv]at h
 |s::_,.nl,_,_,_,_,h=>by cases s <;> simp[gv]at h
 |s::_,.np,_,_,_,_,h=>by cases s <;> simp[gv]at h
 |s::_,.u,_,_,_,_,h=>by cases s <;> simp[gv]at h
 |s::_,.d _ _,_,_,_,_,h=>by cases s <;> simp[gv]at h
 |s::_,.ad _ _,_,_,_,_,h=>by cases s <;> simp[gv]at h
 |s::_,.ag _,_,_,_,_,h=>by cases s <;> simp[gv]at h
 |s::_,.tup _,_,_,_,_,h=>by cases s <;> simp[gv]at h
 |s::_,.gd _ _ _ _,_,_,_,_,h=>by cases s <;> simp[gv]at h
 |s::_,.fn _ _,_,_,_,_,h=>by cases s <;> simp[gv]at h
 |s::_,.ifc _ _,_,_,_,_,h=>by cases s <;> simp[gv]at h
 |s::_,.bx _,_,_,_,_,h=>by cases s <;> simp[gv]at h
def val(agg:Bool)(vs:List Value):Value:=bif agg then .agg vs.toArray else vs.headD undef
theorem aq1{β:Nat->Value}{Im:Nat->Prop}{agg:Bool}{v:V}{vs:List Value}(r:aa β M Im w v vs)(h:agg=false->vs.length=1):ah β M Im w (xd agg v) (val agg vs):=by
 cases agg with
 |true=>simp only[xd,val,a0c,ah];exact⟨vs,rfl,r⟩
 |false=>obtain⟨u,rfl⟩:=a4o.1 (h rfl);simp only[xd,val,a0g,a32];exact a7 r
end
end Go.Bm
/- The du machine:operations that only look. -/
namespace Go.Bm
open Go.RowKit
section
variable {F:Fr} {p p' p'':Ow} {env:Env} {M M' M'':Mem} {a:Act} {w w' w'':World} {P:Program} {B:Tab}
variable {β:Nat->Value} {Im:Nat->Prop}
theorem bd{t:T}{x:t.den}{v:Value}:ah β M Im w (.d t x) v<->ai Im w t x [v]:=by simp only[ah,aa]
theorem c9{k:IntKind}{n:Int}{v:Value}:ai Im w (.int k) n [v]<->v=.int k n/\inK k n:=by simp[ai]
theorem ef{b:Bool}{v:Value}:ai Im w .bool b [v]<->v=.bool b:=by simp[ai]
theorem ae0{s:ByteArray}{v:Value}:ai Im w .str s [v]<->v=.string s/\s.size<=nb:=by simp[ai]
theorem aue(k:IntKind)(n:Int)(hv:ab (ar k n).1):ah β M Im w (ar k n).2 (.int k (k.wrap n)):=by
 cases k
 case i64=>simp only[ar,cr,da,a0b]at hv;simp only[ar,bd,c9,be9 hv,a0e];exact hv
 all_goals
  simp only[ar,bd,c9,a0e];exact ar7 _ _
theorem bn9(op:BinOp)(k:IntKind)(a b:Int)(t:TypeId)(x y:Operand)(hv:ab (aat op k a b).1) :
  ∃r,(do eqGuard op t x y (.int k a) (.int k b);binOp op t (.int k a) (.int k b):Sem Value).run P w=.ok r w/\ah β M Im w (aat op k a b).2 r:=by
 cases op
 case add=>exact⟨.int k (k.wrap (a+b)),by simp[eqGuard,binOp,Op.intArith],aue k _ hv⟩
 case sub=>exact⟨.int k (k.wrap (a-b)),by simp[eqGuard,binOp,Op.intArith],aue k _ hv⟩
 case mul=>exact⟨.int k (k.wrap (a*b)),by simp[eqGuard,binOp,Op.intArith],aue k _ hv⟩
 case quo=>simp only[aat,cr]at hv⊢;exact⟨.int k (k.wrap (a.tdiv b)),by simp[eqGuard,binOp,Op.intDiv,hv.1],aue k _ hv.2⟩
 case rem=>simp only[aat,cr]at hv⊢;exact⟨.int k (a.tmod b),by simp[eqGuard,binOp,Op.intDiv,hv.1],by simp only[bd,c9,a0e];exact hv.2.1⟩
 case eql=>exact⟨.bool (a==b),by simp[eqGuard,binOp,Op.intCmp],by simp only[aat,ci,bd,ef]⟩
 case neq=>exact⟨.bool (a != b),by simp[eqGuard,binOp,Op.intCmp],by simp only[aat,ci,bd,ef]⟩
 case lss=>exact⟨.bool (decide (a<b)),by simp[eqGuard,binOp,Op.intCmp],by simp only[aat,ci,bd,ef]⟩
 case leq=>exact⟨.bool (decide (a<=b)),by simp[eqGuard,binOp,Op.intCmp],by simp only[aat,ci,bd,ef]⟩
 case gtr=>exact⟨.bool (decide (b<a)),by simp[eqGuard,binOp,Op.intCmp],by simp only[aat,ci,bd,ef]⟩
 case geq=>exact⟨.bool (decide (b<=a)),by simp[eqGuard,binOp,Op.intCmp],by simp only[aat,ci,bd,ef]⟩
 case and=>exact⟨.int k (bmr k a b),by simp[eqGuard,binOp,Op.intBits,bmr],by simp only[aat,ci,bd,c9,a0e];exact ar7 _ _⟩
 case shr=>
  simp only[aat,cr]at hv⊢;refine⟨.int k (bhd k a b),?_,by simp only[bd,c9,a0e];exact hv.2.1⟩;have h0:¬b<0:=by omega
  simp[eqGuard,binOp,Op.shift,bhd,h0]
 all_goals exact hv.1.elim
theorem bmw(op:BinOp)(a b:ByteArray)(t:TypeId)(x y:Operand)(hv:ab (afa op a b).1) :
  ∃r,(do eqGuard op t x y (.string a) (.string b);binOp op t (.string a) (.string b):Sem Value).run P w=.ok r w/\ah β M Im w (afa op a b).2 r:=by
 cases op
 case add=>
  simp only[afa,cr,da,a0b]at hv⊢;have h1:¬(((a.size+b.size:Nat):Int)>IntKind.i64.max):=by simp only[nb]at hv;simp[IntKind.max,IntKind.signed,IntKind.bits];omega
  refine⟨.string (a++b),?_,?_⟩
  ·have h2:¬(9223372036854775807<(a.size:Int)+b.size):=by simp only[nb]at hv;omega
   simp[eqGuard,binOp,Op.stringOp,IntKind.max,IntKind.signed,IntKind.bits,h2]
  ·simp only[bd,ae0,a0e];rw[ByteArray.size_append];exact hv
 case eql=>exact⟨.bool (a.toList==b.toList),by simp[eqGuard,binOp,Op.stringOp],by simp only[afa,ci,bd,ef]⟩
 case neq=>exact⟨.bool (!(a.toList==b.toList)),by simp[eqGuard,binOp,Op.stringOp],by simp only[afa,ci,bd,ef]⟩
 case lss=>exact⟨.bool (Op.bytesLess a.toList b.toList),by simp[eqGuard,binOp,Op.stringOp],by simp only[afa,ci,bd,ef]⟩
 case leq=>exact⟨.bool (Op.bytesLess a.toList b.toList||a.toList==b.toList),by simp[eqGuard,binOp,Op.stringOp],by simp only[afa,ci,bd,ef]⟩
 case gtr=>exact⟨.bool (!(Op.bytesLess a.toList b.toList||a.toList==b.toList)),by simp[eqGuard,binOp,Op.stringOp],by simp only[afa,ci,bd,ef]⟩
 case geq=>exact⟨.bool (!(Op.bytesLess a.toList b.toList)),by simp[eqGuard,binOp,Op.stringOp],by simp only[afa,ci,bd,ef]⟩
 all_goals exact hv.1.elim
theorem bn5(hB:TabOk P B)(op:BinOp)(t:TypeId)(x y:Operand)(ax ay:V)(u v:Value)(h:ah β M Im w ax u)(h':ah β M Im w ay v)(hv:ab (bah (B.τ t) op ax ay).1) :
  ∃r,(do eqGuard op t x y u v;binOp op t u v:Sem Value).run P w=.ok r w/\ah β M Im w (bah (B.τ t) op ax ay).2 r:=by
 unfold bah at hv⊢;split at hv
 ·rename_i k a k' b;simp only[bd,c9]at h h';obtain⟨rfl,_⟩:=h;obtain⟨rfl,_⟩:=h';have hk:=io hv;simp only[hk,a0c]at hv⊢;obtain rfl:=we hk;exact bn9 op _ _ _ t x y hv
 ·rename_i a b;simp only[bd,ef]at h h';subst h;subst h';have hk:=io hv;simp only[hk,a0c]at hv⊢;simp only[au,bh,a0k,a0a]at hk;rw[←hB.τ t hk.1]at hk;obtain⟨i,d,hi,hd⟩:=dl hk.1;rw[gp hi hd]at hk;have h2:=hk.2;simp only[nw]at h2;cases d <;> simp at h2;cases op
  case eql=>exact⟨.bool (a==b),by simp[eqGuard,run_eql_bool w t a b hd],by simp only[ci,bd,ef]⟩
  case neq=>exact⟨.bool (a != b),by simp[eqGuard,binOp,run_equal_bool w t a b hd];cases a <;> cases b <;> rfl,by simp only[ci,bd,ef]⟩
  all_goals exact hv.1.elim
 ·simp only[bd,ae0]at h h';obtain⟨rfl,_⟩:=h;obtain⟨rfl,_⟩:=h';exact bmw op _ _ t x y hv
 ·exact hv.1.elim
theorem bf5(g:Bool)(ts:Array TypeId)(t:TypeId)(ax ay:V)(u v:Value)(h:ah β M Im w ax u)(h':ah β M Im w ay v)(hv:ab (bbg g ax ay).1) :
  ∃r,(bif g then Builtin.max_ ts t #[u,v]else Builtin.min_ ts t #[u,v]).run P w=.ok r w/\ah β M Im w (bbg g ax ay).2 r:=by
 unfold bbg at hv⊢;split at hv
 ·rename_i k a k' b;simp only[bd,c9]at h h';obtain⟨rfl,ha⟩:=h;obtain⟨rfl,hb⟩:=h';have hk:=io hv;simp only[hk,a0c]at hv⊢;obtain rfl:=we hk
  cases g with
  |true=>refine⟨.int k (mxR a b),?_,by simp only[ci,bd,c9,a0c];refine⟨trivial,?_⟩;unfold mxR;split <;> assumption⟩;simp only[a0c,mxR];exact run_max_int2 _ _ _ _ _ _ _
  |false=>refine⟨.int k (mnR a b),?_,by simp only[ci,bd,c9,a0g];refine⟨trivial,?_⟩;unfold mnR;split <;> assumption⟩;simp only[a0g,mnR];exact run_min_int2 _ _ _ _ _ _ _
 ·exact hv.1.elim
theorem eqF(w:World)(P:Program){β:Nat->Value}{M:Mem}{Im:Nat->Prop}{w0:World}(d:Nat):∀(n:Nat) (a b:V) (vs vs':List Value) (r:Bool) (pre pre':List Value) (fs:List Field),x4 n a b=some r->aa β M Im w0 a vs->aa β M Im w0 b vs'->
  ac8 P fs pre.length=true->fs.length=n->pre'.length=pre.length->(Op.eqFields (d+1) (pre++vs).toArray (pre'++vs').toArray fs).run P w=.ok r w:=by
 have one : ∀ (k k' : IntKind) (x y : Int) (vs vs' pre pre' : List Value) (f : Field), (bif bg [neg (f.name == "_"), Nat.beq f.offset pre.length, afc (P.underlying f.type)] then True else False) -> pre'.length = pre.length ->
   f.name ≠ "_" /\ (part f.type (pre ++ .int k x :: vs).toArray f.offset).run P w = .ok (.int k x) w /\ (part f.type (pre' ++ .int k' y :: vs').toArray f.offset).run P w = .ok (.int k' y) w /\ (Op.equalIn (d + 1) f.type (.int k x) (.int k y)).run P w = .ok (x == y) w := by
  intro k k' x y vs vs' pre pre' f h hl
  cases hb : bg [neg (f.name == "_"), Nat.beq f.offset pre.length, afc (P.underlying f.type)] with
  |false=>rw[hb]at h;exact h.elim
  |true=>
   simp only[au,bh,a0k,a0a,kh,a1i]at hb;obtain⟨h1,h2,h3⟩:=hb;have h2:=a0v h2
   cases hu:P.underlying f.type with
   |none=>rw[hu]at h3;cases h3
   |some u=>
    rw[hu]at h3;cases u <;> simp only[afc,a02]at h3;have hp:P.plainKey f.type=true:=by simp[Program.plainKey,hu]
    exact⟨by simpa using h1,run_part_plain w hp (by rw[h2];simp),run_part_plain w hp (by rw[h2,←hl];simp),run_equalIn_int w d f.type k _ x y hu⟩
 intro n
 induction n with
 |zero=>intro a b vs vs' r pre pre' fs h;cases a <;> cases b <;> simp[x4]at h
 |succ n ih=>
  intro a b vs vs' r pre pre' fs h ha hb hf hl hp;obtain⟨f,fs,rfl⟩:∃f r,fs=f::r:=by cases fs with|nil=>cases hl|cons f r=>exact⟨f,r,rfl⟩
  simp only[ac8]at hf
  have hc : (bif bg [neg (f.name == "_"), Nat.beq f.offset pre.length, afc (P.underlying f.type)] then True else False) /\ ac8 P fs (Nat.succ pre.length) = true := by
   cases hb : bg [neg (f.name == "_"), Nat.beq f.offset pre.length, afc (P.underlying f.type)] with
   |false=>rw[hb]at hf;cases hf
   |true=>rw[hb]at hf;exact⟨trivial,hf⟩
  cases n with
  |zero=>
   unfold x4 at h;split at h
   ·rename_i k x k' y he;simp only[aa,ai]at ha hb;obtain⟨rfl,_⟩:=ha;obtain⟨rfl,_⟩:=hb
    cases hk:aad k k' with
    |false=>rw[hk]at h;cases h
    |true=>
     rw[hk]at h;cases h;have:=we hk;subst this;have hfs:fs=[]:=by cases fs with|nil=>rfl|cons _ _=>simp at hl
     subst hfs;obtain⟨o1,o2,o3,o4⟩:=one k k x y [] [] pre pre' f hc.1 hp;simp only[Op.eqFields,d0 o1,a1j,o2,a1r,o3,o4,ne_eq,not_false_eq_true,a01];cases x==y <;> simp
   ·rename_i n' _ _ _ _ _ _ he;omega
   ·cases h
  |succ n=>
   unfold x4 at h;split at h
   ·rename_i he;omega
   ·rename_i n' k x a' k' y b' he;have:n'=n:=by omega
    subst this
    cases hr:x4 (n'+1) a' b' with
    |none=>rw[hr]at h;cases h
    |some r'=>
     rw[hr]at h
     cases hk:aad k k' with
     |false=>rw[hk]at h;cases h
     |true=>
      rw[hk]at h;cases h;have:=we hk;subst this;simp only[aa,ai]at ha hb;obtain⟨va,va',rfl,⟨rfl,_⟩,ha'⟩:=ha;obtain⟨vb,vb',rfl,⟨rfl,_⟩,hb'⟩:=hb;obtain⟨o1,o2,o3,o4⟩:=one k k x y va' vb' pre pre' f hc.1 hp;have hi:=ih a' b' va' vb' r' (pre++[.int k x]) (pre'++[.int k y]) fs hr ha' hb' (by simpa using hc.2) (by simpa using hl) (by simpa using hp);simp only[a07,List.singleton_append]at hi⊢;simp only[Op.eqFields,d0 o1,a1j,o2,a1r,o3,o4,ne_eq,not_false_eq_true,a01];cases x==y
      ·simp
      ·simp;exact hi
   ·cases h
def amb(e : TypeId)(i : Nat) : Field := { (default : Field) with name := "a", type := e, offset := i }
theorem apa(w:World)(P:Program)(d:Nat)(e:TypeId)(xs ys:Array Value):∀is:List Nat,(Op.eqItems d e 1 xs ys is).run P w=(Op.eqFields d xs ys (is.map (amb e))).run P w
 |[]=>rfl
 |i::is=>by
  have h : (amb e i).name ≠ "_" := by simp [amb]
  simp only[a05,Op.eqItems,Op.eqFields,d0 h,a33];simp only[amb,a1j];congr 1;funext x w1;congr 1;funext y w2;congr 1;funext r w3;cases r
  ·rfl
  ·exact apa w3 P d e xs ys is
theorem bls(hB:TabOk P B)(op:BinOp)(t:TypeId)(x y:Operand)(ax ay:V)(u v:Value)(h:ah β M Im w ax u)(h':ah β M Im w ay v)(hv:ab (av3 B t op ax ay).1) :
  ∃r,(do eqGuard op t x y u v;binOp op t u v:Sem Value).run P w=.ok r w/\ah β M Im w (av3 B t op ax ay).2 r:=by
 unfold av3 at hv⊢;split at hv
 ·rename_i a b;simp only[ah]at h h';obtain⟨vs,rfl,ha⟩:=h;obtain⟨vs',rfl,hb⟩:=h';unfold bp0 at hv⊢
  have key:∀r,x4 (B.q t) a b=some r->(eqGuard op t x y (.agg vs.toArray) (.agg vs'.toArray)).run P w=.ok () w/\(Op.equalIn 10000 t (.agg vs.toArray) (.agg vs'.toArray)).run P w=.ok r w:=by
   intro r hr
   have hz:isZ (B.q t)=false:=by
    cases hq:B.q t with
    |zero=>rw[hq]at hr;cases a <;> cases b <;> simp[x4]at hr
    |succ n=>rfl
   have hq:=hB.q t hz;unfold ax1 at hq;split at hq
   ·rename_i fs hu
    cases hall:bg [neg (P.stoodInHeld t),neg (P.eqGuardType P.depth t),ac8 P (toL fs) 0]with
    |false=>rw[hall]at hq;simp only[a0g]at hq;rw[←hq]at hz;cases hz
    |true=>
     rw[hall]at hq;simp only[a0c]at hq;simp only[au,bh,a0k,a0a,kh,a1i]at hall;obtain⟨h1,h2,h3⟩:=hall;have hfs:P.fieldsOf t=fs:=by simp[Program.fieldsOf,hu]
     refine⟨run_eqGuard_agg w op t x y _ _ h2,?_⟩;rw[run_equalIn_struct w 9999 t _ _ (by rw[hfs];exact hu) h1,hfs];have htl:toL fs=fs.toList:=by cases fs;rfl
     rw[htl]at h3 hq;have:=eqF w P (w0:=w) 9998 (B.q t) a b vs vs' r [] [] fs.toList hr ha hb h3 (by rw[←hq,aol]) rfl;simpa using this
   ·rename_i n e hu
    cases hall:bg [neg (P.eqGuardType P.depth t),afc (P.underlying e),Nat.beq (P.cellsOf e) 1]with
    |false=>rw[hall]at hq;simp only[a0g]at hq;rw[←hq]at hz;cases hz
    |true=>
     rw[hall]at hq;simp only[a0c]at hq;simp only[au,bh,a0k,a0a,kh,a1i]at hall;obtain⟨h1,h2,h3⟩:=hall;have h3:=a0v h3
     have hie:∃i,P.info? e=some i:=by
      unfold Program.cellsOf at h3
      cases h:P.info? e with
      |none=>simp[h]at h3
      |some i=>exact⟨i,rfl⟩
     obtain⟨ie,hie⟩:=hie;refine⟨run_eqGuard_agg w op t x y _ _ h1,?_⟩;rw[run_equalIn_array w 9999 _ _ hu hie,h3,apa]
     have hin:∀(m i:Nat),ac8 P ((List.range' i m).map (amb e)) i=true:=fun m=>by
      induction m with
      |zero=>intro i;rfl
      |succ m ih=>
       intro i;have h4:∀i:Nat,Nat.beq i i=true:=fun i=>Nat.beq_refl i;have h5 : ((("a" : String) == "_") = false) := by decide
       simp only[List.range'_succ,a05,ac8,amb,h4,h2,h5,kh,Bool.not_false,au,bh,a2r,a0k,a0c];exact ih (i+1)
     rw[List.range_eq_range'];have:=eqF w P (w0:=w) 9998 (B.q t) a b vs vs' r [] [] ((List.range' 0 n).map (amb e)) hr ha hb (hin n 0) (by simp[hq]) rfl;simpa using this
   ·rw[←hq]at hz;cases hz
  split at hv
  ·rename_i r hr;obtain⟨k1,k2⟩:=key r hr;exact⟨.bool r,by simp only[a1j,k1,a1r,run_eql_struct,k2],by simp only[ci,bd,ef]⟩
  ·rename_i r hr;obtain⟨k1,k2⟩:=key r hr;exact⟨.bool (!r),by simp only[a1j,k1,a1r,run_neq_struct,k2],by simp only[ci,bd,ef]⟩
  ·exact hv.1.elim
 ·exact bn5 hB op t x y ax ay u v h h' hv
theorem bkm(a:Act):(y:Operand)->bcu y=true->a.eval y=.slice none 0 0
 |.const (.slice none n m),h=>by simp only[bcu,am,a0a]at h;have h1:=a0v h.1;have h2:=a0v h.2;subst h1;subst h2;rfl
theorem bkg(a:Act):(y:Operand)->bj3 y=true->y=.const .nilIface/\a.eval y=.nilIface
 |.const .nilIface,_=>⟨rfl,rfl⟩
theorem bl8{t:TypeId}{x y:Operand}{u:Value}{e:T}{l:Option (List e.den)}{op:BinOp}(hop:op=.eql\/op=.neq)(hok:(ty P t).ok=true)(hel:neg (isN (ty P t).el)=true)(h:ai Im w (.ns (.sl e)) l [u])(hl:am0 l=true) :
  (do eqGuard op t x y u (.slice none 0 0);binOp op t u (.slice none 0 0):Sem Value).run P w=.ok (.bool (bif op==.eql then l.isNone else l.isSome)) w:=by
 obtain⟨inf,c,hi,hc⟩:=dl hok;rw[gp hi hc]at hel;simp only[nw]at hel;cases c <;> simp only[isN,kh,a3o,a02]at hel
 have hu:(l=none/\u=.slice none 0 0)\/∃y b n c,l=some y/\u=.slice (some b) n c:=by
  simp only[ai,a0i,a0b]at h;rcases h with⟨rfl,rfl⟩|⟨y,a,n,c,rfl,rfl,oa,cap,⟨rfl,rfl,rfl⟩,_,hn,_⟩
  ·exact .inl ⟨rfl,rfl⟩
  ·cases a with
   |some b=>exact .inr ⟨y,b,_,_,rfl,rfl⟩
   |none=>
    exfalso;have:=(hn rfl).1
    cases y with
    |nil=>simp[am0]at hl
    |cons _ _=>simp at this
 have key:(Op.equal t u (.slice none 0 0)).run P w=.ok l.isNone w:=by show (Op.equalIn (9999+1) t u (.slice none 0 0)).run P w=.ok l.isNone w;generalize 9999=d;rcases hu with⟨rfl,rfl⟩|⟨y,b,n,c,rfl,rfl⟩ <;> simp[Op.equalIn,a0y hc]
 have hu':∃b n c,u=.slice b n c:=by
  rcases hu with⟨_,rfl⟩|⟨y,b,n,c,_,rfl⟩
  ·exact⟨_,_,_,rfl⟩
  ·exact⟨_,_,_,rfl⟩
 obtain⟨b,n,c,rfl⟩:=hu';generalize hz:l.isNone=z at key;have hz':l.isSome=!z:=by rw[←hz];cases l <;> rfl
 rw[hz'];rcases hop with rfl|rfl
 ·simp[eqGuard,binOp,key]
 ·simp[eqGuard,binOp,key];cases z <;> rfl
theorem bgt{t i:TypeId}{x:Operand}{u:Value}{b:Bool}{op:BinOp}(hop:op=.eql\/op=.neq)(hok:(ty P t).ok=true)(hel:(ty P t).ifc=true)(h:ai Im w (.er i) b [u]) :
  (do eqGuard op t x (.const .nilIface) u .nilIface;binOp op t u .nilIface:Sem Value).run P w=.ok (.bool (bif op==.eql then !b else b)) w:=by
 obtain⟨inf,c,hi,hc⟩:=dl hok;rw[gp hi hc]at hel;simp only[nw]at hel;cases c <;> simp only[a02]at hel;have hu:(b=false/\u=.nilIface)\/∃s,b=true/\u=.iface i (.agg #[.string s]):=by simpa only [ai,a0i,a0b]using h
 have key:(Op.equal t u .nilIface).run P w=.ok (!b) w:=by show (Op.equalIn (9999+1) t u .nilIface).run P w=.ok (!b) w;generalize 9999=d;rcases hu with⟨rfl,rfl⟩|⟨s,rfl,rfl⟩ <;> simp[Op.equalIn,a0y hc]
 have hg:(eqGuard op t x (.const .nilIface) u .nilIface).run P w=.ok () w:=by rcases hu with⟨rfl,rfl⟩|⟨s,rfl,rfl⟩ <;> rcases hop with rfl|rfl <;> simp[eqGuard]
 rcases hop with rfl|rfl
 ·simp only[a1j,hg,a1r];rcases hu with⟨rfl,rfl⟩|⟨s,rfl,rfl⟩ <;> simp[binOp,key] <;> rfl
 ·simp only[a1j,hg,a1r];rcases hu with⟨rfl,rfl⟩|⟨s,rfl,rfl⟩ <;> simp[binOp,key] <;> rfl
theorem bj9(hB:TabOk P B)(op:BinOp)(t:TypeId)(x y:Operand)(z zi:Bool)(ax ay:V)(u v:Value)(hz:z=true->v=.slice none 0 0)(hzi:zi=true->y=.const .nilIface/\v=.nilIface)(h:ah β M Im w ax u)(h':ah β M Im w ay v)(hv:ab (awh B t op z zi ax ay).1) :
  ∃r,(do eqGuard op t x y u v;binOp op t u v:Sem Value).run P w=.ok r w/\ah β M Im w (awh B t op z zi ax ay).2 r:=by
 unfold awh at hv⊢;split at hv
 ·have hk:=io hv;simp only[hk,a0c]at hv⊢;simp only[au,bh,a0k,a0a]at hk;rw[←hB.τ t hk.1]at hk;rw[bd]at h;rw[hz rfl];exact⟨_,bl8 (.inl rfl) hk.1 hk.2 h hv.1,by simp only[bd,ai];rfl⟩
 ·have hk:=io hv;simp only[hk,a0c]at hv⊢;simp only[au,bh,a0k,a0a]at hk;rw[←hB.τ t hk.1]at hk;rw[bd]at h;rw[hz rfl];exact⟨_,bl8 (.inr rfl) hk.1 hk.2 h hv.1,by simp only[bd,ai];rfl⟩
 ·have hk:=io hv;simp only[hk,a0c]at hv⊢;simp only[au,bh,a0k,a0a]at hk;obtain⟨k1,k2,k3⟩:=hk;have e:=hB.τ t k2;rw[←e]at k2 k3;rw[bd]at h;obtain⟨rfl,rfl⟩:=hzi k1;exact⟨_,bgt (.inl rfl) k2 k3 h,by simp only[ci,bd,ai];rfl⟩
 ·have hk:=io hv;simp only[hk,a0c]at hv⊢;simp only[au,bh,a0k,a0a]at hk;obtain⟨k1,k2,k3⟩:=hk;have e:=hB.τ t k2;rw[←e]at k2 k3;rw[bd]at h;obtain⟨rfl,rfl⟩:=hzi k1;exact⟨_,bgt (.inr rfl) k2 k3 h,by simp only[ci,bd,ai];rfl⟩
 ·exact bls hB op t x y ax ay u v h h' hv
theorem bqf(op:UnOp)(x:V)(u:Value)(h:ah β M Im w x u)(hv:ab (bil op x).1):∃r,(Op.unary op u).run P w=.ok r w/\ah β M Im w (bil op x).2 r:=by
 unfold bil at hv⊢;split at hv
 ·simp only[bd,ef]at h;subst h;exact⟨_,by simp[Op.unary];rfl,by simp only[ci,bd,ef]⟩
 ·simp only[bd,c9]at h;obtain⟨rfl,_⟩:=h;exact⟨_,by simp[Op.unary,Op.intArith];rfl,by simpa using aue _ _ hv⟩
 ·exact hv.1.elim
theorem bjr(hB:TabOk P B)(s d:TypeId)(x:V)(u:Value)(h:ah β M Im w x u)(hv:ab (av7 (B.τ s) (B.τ d) x).1):∃r,(convert s d u).run P w=.ok r w/\ah β M Im w (av7 (B.τ s) (B.τ d) x).2 r:=by
 unfold av7 at hv⊢;split at hv
 ·rename_i k n k1 k' h1 h2;have hk:=io hv;simp only[hk,a0c]at hv⊢;simp only[au,bh,a0k,a0a]at hk;obtain⟨o1,o2,o3⟩:=hk;rw[←hB.τ s o1]at h1 o1;rw[←hB.τ d o2]at h2 o2;obtain rfl:=we o3;obtain⟨i,c,hi,hc⟩:=dl o1;obtain⟨i',c',hi',hc'⟩:=dl o2;rw[gp hi hc]at h1;rw[gp hi' hc']at h2;simp only[nw]at h1 h2;cases c <;> simp at h1;cases c' <;> simp at h2;subst h1;subst h2;simp only[bd,c9]at h;obtain⟨rfl,hk⟩:=h;rename_i kd;refine⟨.int kd (kd.wrap n),by simp[convert,a0y hc,a0y hc',Conv.intToInt],?_⟩
  cases hkk:aad _ kd with
  |true=>obtain rfl:=we hkk;simp only[a0c,ci,bd,c9];exact⟨by rw[be9 hk],hk⟩
  |false=>simp only[a0g,ci,bd,c9,a0e];exact ar7 _ _
 ·exact hv.1.elim
theorem bla:(x:V)->(vs:List Value)->(i:Nat)->(y:V)->cf β M Im w x vs->nth x i=some y->∃u,vs[i]? = some u/\ah β M Im w y u
 |.p a b,vs,0,y,r,h=>by simp only[cf]at r;simp only[nth,a0d]at h;subst h;obtain⟨u,us,rfl,h1,_⟩:=r;exact⟨u,rfl,h1⟩
 |.p a b,vs,i+1,y,r,h=>by simp only[cf]at r;simp only[nth]at h;obtain⟨u,us,rfl,_,h2⟩:=r;obtain⟨v,h3,h4⟩:=bla b us i y h2 h;exact⟨v,by simpa using h3,h4⟩
 |.any,_,_,_,_,h=>by simp[nth]at h
 |.nl,_,_,_,_,h=>by simp[nth]at h
 |.np,_,_,_,_,h=>by simp[nth]at h
 |.u,_,_,_,_,h=>by simp[nth]at h
 |.d _ _,_,_,_,_,h=>by simp[nth]at h
 |.ref _ _,_,_,_,_,h=>by simp[nth]at h
 |.ad _ _,_,_,_,_,h=>by simp[nth]at h
 |.ag _,_,_,_,_,h=>by simp[nth]at h
 |.tup _,_,_,_,_,h=>by simp[nth]at h
 |.gd _ _ _ _,_,_,_,_,h=>by simp[nth]at h
 |.fn _ _,_,_,_,_,h=>by simp[nth]at h
 |.ifc _ _,_,_,_,_,h=>by simp[nth]at h
 |.bx _,_,_,_,_,h=>by simp[nth]at h
theorem bmm(x:V)(i:Nat)(u:Value)(h:ah β M Im w x u)(hv:ab (aq0 x i).1):∃r,(Instr.extract u i).run P w=.ok r w/\ah β M Im w (aq0 x i).2 r:=by
 unfold aq0 at hv⊢;split at hv
 ·rename_i v;split at hv
  ·rename_i y hy;simp only[ah]at h;obtain⟨vs,rfl,hl⟩:=h;obtain⟨u,hu1,hu2⟩:=bla v vs i y hl hy;exact⟨u,by simp[Instr.extract,hu1],by simp only[hy,ci];exact hu2⟩
  ·exact hv.1.elim
 ·exact hv.1.elim
theorem boq(x:V)(u:Value)(h:ah p.β M (Imm F p M w) w x u)(hv:ab (baj x).1):(∃a,u=.pointer (some a))/\ah p.β M (Imm F p M w) w (baj x).2 u:=by
 unfold baj at hv⊢;split at hv
 ·refine⟨?_,h⟩;simp only[bd,ai,a0i,a0b]at h;obtain⟨b,o,us,rfl,_⟩:=h;exact⟨_,rfl⟩
 ·refine⟨?_,h⟩;simp only[ah,aa,a0i,a0b,exists_eq_left']at h;obtain⟨_,_,_,_,_,_,_,_,_,rfl⟩:=h;exact⟨_,rfl⟩
 ·refine⟨?_,h⟩;simp only[ah,aa,a0i,a0b]at h;obtain⟨b,o,us,rfl,_⟩:=h;exact⟨_,rfl⟩
 ·exact hv.1.elim
theorem bej{t:TypeId}{i:Nat}{off:Nat}{ft:TypeId}{fsz:Nat}(b o:Nat)(hok:(ty P t).ok=true)(hf:(ty P t).fld[i]? = some (off,ft,fsz))(hz:fsz≠0) :
  (Instr.fieldAt t (.pointer (some ⟨b,o,none⟩)) i).run P w=.ok (.pointer (some ⟨b,o+off,none⟩)) w:=by
 obtain⟨inf,u,hi,hu⟩:=dl hok;rw[gp hi hu]at hf;simp only[nw]at hf;cases u <;> simp at hf
 case struct fs=>
  obtain⟨f,hf,rfl,rfl,rfl⟩:=hf
  have hc:∃inf',P.info? f.type=some inf'/\inf'.size≠0:=by
   unfold Program.cellsOf at hz
   cases h:P.info? f.type with
   |none=>simp[h]at hz
   |some inf'=>exact⟨inf',rfl,by simpa[h]using hz⟩
  obtain⟨inf',h1,h2⟩:=hc;have hadd:(⟨b,o,none⟩:Addr).add f.offset=⟨b,o+f.offset,none⟩:=by unfold Addr.add;split <;> simp_all
  simp[Instr.fieldAt,a0y hu,hf,Instr.sureAddr,fieldPlace,sizeOf,typeInfo,h1,h2,hadd]
theorem bg4(hp:Hp F p M w)(x:V)(π:bq)(off:Nat)(u:Value)(h:ah p.β M (Imm F p M w) w x u)(hv:ab (ams M x π off).1) :
  ∃b o,u=.pointer (some ⟨b,o,none⟩)/\ah p.β M (Imm F p M w) w (ams M x π off).2 (.pointer (some ⟨b,o+off,none⟩)):=by
 unfold ams at hv⊢;split at hv
 ·rename_i t y;split at hv
  ·rename_i n q hn hq;have hk:=io hv;simp only[hk,a0c]at hv⊢;simp only[fe,a0t]at hk;subst hk;simp only[bd,ai,a0i,a0b]at h;obtain⟨b,o,us,rfl,h1,h2,h3⟩:=h;obtain⟨va,us',vb,rfl,k2,k3⟩:=ayl π t y n q us hn hq h3;refine⟨b,o,rfl,?_⟩;simp only[hn,hq,fe,a34,a0c,ci,bd,ai];exact⟨b,o+n,us',rfl,h1,by rw[←k2];exact h2.sub,k3⟩
  ·exact hv.1.elim
 ·rename_i k ρ;split at hv
  ·rename_i q hq;split at hv
   ·rename_i n hn;have hk:=io hv;simp only[hk,a0c]at hv⊢;simp only[fe,a0t]at hk;subst hk;simp only[ah,aa,a0i,a0b,exists_eq_left']at h;obtain⟨b,o,rfl,h1⟩:=h.sub hp hq hn;refine⟨b,o,rfl,?_⟩;simp only[hq,hn,fe,a34,a0c,ci,ah,aa];exact⟨_,rfl,h1⟩
   ·exact hv.1.elim
  ·exact hv.1.elim
 ·rename_i v;split at hv
  ·rename_i q hq;obtain⟨n,v'⟩:=q;have hk:=io hv;simp only[hk,a0c]at hv⊢;simp only[fe,a0t]at hk;subst hk;simp only[ah,aa,a0i,a0b]at h;obtain⟨b,o,us,rfl,h1,h2,h3⟩:=h;obtain⟨va,us',vb,rfl,k2,k3⟩:=aq6 hp π v us n v' h3 hq;refine⟨b,o,rfl,?_⟩;simp only[hq,fe,a34,a0c,ci,ah,aa,a0i,a0b];exact⟨b,o+n,us',rfl,h1,by rw[←k2];exact h2.sub,k3⟩
  ·exact hv.1.elim
 ·exact hv.1.elim
theorem bkx(hB:TabOk P B)(hp:Hp F p M w){t:TypeId}{i:Nat}(x:V)(u:Value)(h:ah p.β M (Imm F p M w) w x u)(hv:ab (aiw (B.τ t) M x i).1) :
  ∃r,(Instr.fieldAt t u i).run P w=.ok r w/\ah p.β M (Imm F p M w) w (aiw (B.τ t) M x i).2 r:=by
 unfold aiw at hv⊢;split at hv
 ·rename_i off ft fsz hf;have hk:=io hv;simp only[hk,a0c]at hv⊢;simp only[au,bh,a0k,a0a]at hk;obtain⟨b,o,rfl,h1⟩:=bg4 hp x _ off u h hv;have e:=hB.τ t hk.1;refine⟨_,bej (t:=t) (i:=i) (off:=off) (ft:=ft) (fsz:=fsz) b o (by rw[e];exact hk.1) (by rw[e,←ab9];exact hf) ?_,?_⟩
  ·rintro rfl;simp at hk
  ·simpa only [hf,au,bh,a0k,hk.1,hk.2,a2r,a0c]using h1
 ·exact hv.1.elim
theorem bnp(hB:TabOk P B)(hp:Hp F p M w){t:TypeId}{i:Nat}(x:V)(u:Value)(h:ah p.β M (Imm F p M w) w x u)(hv:ab (amp B (B.τ t) M x i).1) :
  ∃r,(Instr.field t u i).run P w=.ok r w/\ah p.β M (Imm F p M w) w (amp B (B.τ t) M x i).2 r:=by
 unfold amp at hv⊢;split at hv
 ·rename_i off ft fsz v hf;split at hv
  ·rename_i n y hs;have hk:=io hv;simp only[hk,a0c]at hv⊢;simp only[au,bh,a0k,a0a,mi,fe,a0t,a1f]at hk;obtain⟨o1,o2,rfl,o4,o5⟩:=hk;simp only[ah]at h;obtain⟨vs,rfl,hr⟩:=h;obtain⟨va,us,vb,rfl,k2,k3⟩:=aq6 hp _ v vs n y hr hs;have hlen:=u4 hp y us _ k3 (ld o4);have e:=hB.τ t o1;have e':=hB.τ ft o2;rw[←e,ab9]at hf;rw[←e]at o1;obtain⟨inf,d,hi,hu⟩:=dl o1;rw[gp hi hu]at hf;simp only[nw]at hf;cases d <;> simp at hf
   case struct fs=>
    obtain⟨f,hf,rfl,rfl,rfl⟩:=hf;rw[←e']at o2 o5 hlen⊢;obtain⟨inf',d',hi',hu'⟩:=dl o2;have hx:((va++us++vb).drop f.offset).take us.length=us:=by rw[a07,←k2,List.drop_left,a4k]
    refine⟨val (ty P f.type).agg us,?_,?_⟩
    ·cases ha:(ty P f.type).agg with
     |true=>simp only[val,a0c];rw[gp hi' hu']at ha hlen;simp only[nw]at ha hlen;rw[hlen]at hx;cases d' <;> simp at ha <;> simp[Instr.field,a0y hu,hf,asAgg,part,isAgg,a0y hu',sizeOf,typeInfo,hi',List.extract_eq_take_drop] <;> simpa using hx
     |false=>
      simp only[val,a0g];rw[ha]at o5
      have h1:us.length=1:=by
       rw[hlen];rcases o5 with h|h
       ·cases h
       ·exact h
      obtain⟨u0,rfl⟩:=a4o.1 h1;rw[gp hi' hu']at ha;simp only[nw]at ha;have hget:(va++[u0]++vb)[f.offset]? = some u0:=by rw[a07,←k2,a1x (a0f _)];simp
      have hget':(va++u0::vb)[f.offset]? = some u0:=by simpa using hget
      cases d' <;> simp at ha <;> simp[Instr.field,a0y hu,hf,asAgg,part,isAgg,a0y hu',hget']
    ·exact aq1 k3 (fun ha=>by
      rw[hlen];rcases o5 with h|h
      ·rw[ha]at h;cases h
      ·exact h)
  ·exact hv.1.elim
 ·exact hv.1.elim
theorem ary{t e:TypeId}(k:IntKind)(n:Int)(a:Addr)(len cap:Nat)(hok:(ty P t).ok=true)(he:(ty P t).el=some e)(heok:(ty P e).ok=true)(ha:a.spot=none)(h0:0<=n)(h1:n<len) :
  (Instr.indexAt t (.slice (some a) len cap) (.int k n)).run P w=.ok (.pointer (some ⟨a.block,a.off+n.toNat*(ty P e).size,none⟩)) w:=by
 obtain⟨inf,u,hi,hu⟩:=dl hok;obtain⟨inf',u',hi',hu'⟩:=dl heok;rw[gp hi hu]at he;rw[gp hi' hu'];simp only[nw]at he⊢;cases u <;> simp at he;subst he;have hadd:a.add (n.toNat*inf'.size)=⟨a.block,a.off+n.toNat*inf'.size,none⟩:=by obtain⟨b,o,s⟩:=a;simp only at ha;subst ha;unfold Addr.add;split <;> simp_all
 simp[Instr.indexAt,asIntOf,a0y hu,h0,h1,sizeOf,typeInfo,hi',hadd]
theorem ixb{n:Int}{m:Nat}(h0:0<=n)(h1:n<m):n.toNat<m:=by omega
theorem bkf{t:T}{l:List t.den}{u:Value}{te e:TypeId}(k:IntKind)(n:Int)(h:ai Im w (.sl t) l [u])(h0:0<=n)(h1:n<l.length)(hok:(ty P te).ok=true)(he:(ty P te).el=some e)(heok:(ty P e).ok=true)(hs:t.size=(ty P e).size) :
  ∃r,(Instr.indexAt te u (.int k n)).run P w=.ok r w/\ai Im w (.pt t) (l.getD n.toNat t.dflt) [r]:=by
 simp only[ai,a0i,a0b]at h;obtain⟨oa,cap,rfl,h3,h4,h5⟩:=h
 cases oa with
 |none=>have:=(h4 rfl).1;omega
 |some a=>
  obtain⟨s1,s2,s3⟩:=h5 a rfl (by omega);have hi:n.toNat<l.length:=by omega
  have hx:l[n.toNat]? = some (l.getD n.toNat t.dflt):=by rw[a0n,a0o hi];rfl
  obtain⟨us,u1,u2⟩:=s3 n.toNat _ hx;refine⟨_,ary k n a l.length cap hok he heok s1 h0 h1,?_⟩;simp only[ai];exact⟨_,_,us,rfl,s2,by rw[←hs];exact u1,u2⟩
theorem boz(hB:TabOk P B)(hp:Hp F p M w){t:TypeId}(x i:V)(u v:Value)(h:ah p.β M (Imm F p M w) w x u)(h':ah p.β M (Imm F p M w) w i v)(hv:ab (amr B (B.τ t) M x i).1) :
  ∃r,(Instr.indexAt t u v).run P w=.ok r w/\ah p.β M (Imm F p M w) w (amr B (B.τ t) M x i).2 r:=by
 unfold amr at hv⊢;split at hv
 ·rename_i e ki n he;simp only[bd,c9]at h';obtain⟨rfl,_⟩:=h';split at hv
  ·rename_i te l;have hk:=io hv;simp only[he,hk,a0c,cr,da,a0b]at hv⊢;simp only[au,bh,a0k,a0a,fe,a0t]at hk;rw[←hB.τ t hk.1]at he;obtain⟨r,h1,h2⟩:=bkf (P:=P) (te:=t) ki n (bd.1 h) hv.1 hv.2 (by rw[hB.τ t hk.1];exact hk.1) he (by rw[hB.τ e hk.2.1];exact hk.2.1) (by rw[hB.τ e hk.2.1];exact hk.2.2);exact⟨r,h1,bd.2 h2⟩
  ·rename_i k π;simp only[ah,aa]at h;split at hv
   ·rename_i o l hg;have hk:=io hv;simp only[he,hg,hk,a0c,cr,da,a0b]at hv⊢;simp only[au,bh,a0k,a0a,fe,a0t]at hk;rw[←hB.τ t hk.1]at he;obtain⟨ob,g1,g2⟩:=qc hg;obtain⟨S,hr⟩:=h.look hp hg;obtain⟨ob',pl,k1,k2,k3,k4⟩:=h;rw[g1]at k1;cases k1;simp only[Rel,a0i,a0b]at hr;obtain⟨v',ety,xs,T,rfl,r2,r3,_⟩:=hr;rcases zr r2 with⟨hn,_⟩|⟨g,off0,cap,cur,rfl,_⟩
    ·have:=ixb hv.1 hv.2;omega
    ·refine⟨_,ary ki n ⟨g,off0,none⟩ l.length (cap+1) (by rw[hB.τ t hk.1];exact hk.1) he (by rw[hB.τ e hk.2.1];exact hk.2.1) rfl hv.1 hv.2,?_⟩;have hi:n.toNat<l.length:=ixb hv.1 hv.2;simp only[ah,aa];refine⟨_,rfl,ob,cellsOf w g (off0+n.toNat*o.size) o.size,g,off0+n.toNat*(ty P e).size,g1,abc π [.ix n.toNat] _ _ _ g2 k2 (by simp only[gok,a0b];exact hi),⟨⟨o,l.getD n.toNat o.dflt⟩,by rw[aab,g2];simp only[get]⟩,ai8 _ _ (by simp[cm]),?_,rfl⟩;rw[abj w π [.ix n.toNat] ob.o ob.x _ _ _ g2,k4];simp only[res];rw[show (ty P e).size=o.size by rw[hB.τ e hk.2.1];exact hk.2.2.symm]
   ·rename_i te l hg;have hk:=io hv;simp only[he,hg,hk,a0c,cr,da,a0b]at hv⊢;simp only[au,bh,a0k,a0a,fe,a0t]at hk;rw[←hB.τ t hk.1]at he;obtain⟨S,hr⟩:=h.look hp hg;simp only[Rel]at hr;obtain⟨r,h1,h2⟩:=bkf (P:=P) (te:=t) ki n hr hv.1 hv.2 (by rw[hB.τ t hk.1];exact hk.1) he (by rw[hB.τ e hk.2.1];exact hk.2.1) (by rw[hB.τ e hk.2.1];exact hk.2.2);exact⟨r,h1,bd.2 h2⟩
   ·exact hv.1.elim
  ·exact hv.1.elim
 ·exact hv.1.elim
theorem bca{t e:TypeId}{len:Nat}(k:IntKind)(n:Int)(b o:Nat)(hok:(ty P t).ok=true)(he:(ty P t).arr=some (e,len))(heok:(ty P e).ok=true)(h0:0<=n)(h1:n<len) :
  (Instr.indexAt t (.pointer (some ⟨b,o,none⟩)) (.int k n)).run P w=.ok (.pointer (some ⟨b,o+n.toNat*(ty P e).size,none⟩)) w:=by
 obtain⟨inf,u,hi,hu⟩:=dl hok;obtain⟨inf',u',hi',hu'⟩:=dl heok;rw[gp hi hu]at he;rw[gp hi' hu'];simp only[nw]at he⊢;cases u <;> simp at he;obtain⟨rfl,rfl⟩:=he;have hadd:(⟨b,o,none⟩:Addr).add (n.toNat*inf'.size)=⟨b,o+n.toNat*inf'.size,none⟩:=by unfold Addr.add;split <;> simp_all
 simp[Instr.indexAt,asIntOf,a0y hu,Instr.sureAddr,sizeOf,typeInfo,hi',h0,h1,hadd]
theorem bm5(hB:TabOk P B)(hp:Hp F p M w){t:TypeId}(x i:V)(u v:Value)(h:ah p.β M (Imm F p M w) w x u)(h':ah p.β M (Imm F p M w) w i v)(hv:ab (al8 B (B.τ t) M x i).1) :
  ∃r,(Instr.indexAt t u v).run P w=.ok r w/\ah p.β M (Imm F p M w) w (al8 B (B.τ t) M x i).2 r:=by
 unfold al8 at hv⊢
 cases ha:(B.τ t).arr with
 |none=>simp only[ha]at hv⊢;exact boz hB hp x i u v h h' hv
 |some q=>
  obtain⟨e,n⟩:=q;simp only[ha]at hv⊢;unfold bhk at hv⊢;split at hv
  ·rename_i k m;simp only[bd,c9]at h';obtain⟨rfl,_⟩:=h'
   cases hk:bg [(B.τ t).ok,(B.τ e).ok]with
   |false=>rw[hk]at hv;exact hv.1.elim
   |true=>simp only[hk,a0c]at hv⊢;simp only[au,bh,a0k,a0a]at hk;simp only[cr]at hv;obtain⟨b,o,rfl,hr⟩:=bg4 hp x _ _ u h hv.2.2;have e1:=hB.τ t hk.1;have e2:=hB.τ e hk.2;refine⟨_,bca k m b o (by rw[e1];exact hk.1) (by rw[e1];exact ha) (by rw[e2];exact hk.2) hv.1 hv.2.1,?_⟩;rw[e2];exact hr
  ·exact hv.1.elim
theorem bqe(hB:TabOk P B)(t:TypeId)(x i:V)(u v:Value)(h:ah β M Im w x u)(h':ah β M Im w i v)(hv:ab (bhb (B.τ t) x i).1):∃r,(Instr.index t u v).run P w=.ok r w/\ah β M Im w (bhb (B.τ t) x i).2 r:=by
 unfold bhb at hv⊢;split at hv
 ·rename_i s k n;simp only[bd,ae0]at h;simp only[bd,c9]at h';obtain⟨rfl,_⟩:=h;obtain⟨rfl,_⟩:=h';have hk:=io hv;simp only[hk,a0c,cr,da,a0b]at hv⊢;simp only[au,bh,a0k,a0a]at hk;obtain⟨h3,h4⟩:=hv;rw[←hB.τ t hk.1]at hk;obtain⟨inf,c,hi,hc⟩:=dl hk.1;rw[gp hi hc]at hk;have h2:=hk.2;simp only[nw]at h2;cases c <;> simp at h2;have hlt:n.toNat<s.size:=ixb h3 h4;have hb:(s.data.toList.getD n.toNat 0)=s[n.toNat]:=by rw[a0n,a0o (by simpa using hlt)];rfl
  refine⟨.int .u8 (s[n.toNat]).toNat,?_,?_⟩
  ·simp[Instr.index,asIntOf,a0y hc,h3,hlt,getElem?_pos]
  ·simp only[bd,c9];rw[hb];refine⟨rfl,?_⟩;have:=(s[n.toNat]).toNat_lt;exact (bde (s[n.toNat]).toNat).2 ⟨by omega,by omega⟩
 ·exact hv.1.elim
theorem x5{t ty':TypeId}(a:Option Addr)(n cap:Nat)(h1:(ty P t).ok=true)(h2:(ty P t).el≠none):(Builtin.len_ #[t] ty' #[.slice a n cap]).run P w=.ok (.int .i64 n) w:=by obtain⟨inf,c,hi,hc⟩:=dl h1;rw[gp hi hc]at h2;simp only[nw]at h2;cases c <;> simp at h2;simp[Builtin.len_,a0y hc,goInt]
theorem ap3{α:Type}{o:Option α}(h:neg (isN o)=true):o≠none:=by
 cases o with
 |none=>simp[isN]at h
 |some _=>simp
theorem bsa{o:O}{l:List o.strip.den}{S:Nat->Prop}{vs:List Value}(r:Rel Im w (.sl o) l S vs):∃a cap,vs=[.slice a l.length cap]/\l.length<=nb:=by
 simp only[Rel]at r;obtain⟨v,ety,xs,T,rfl,h1,h2,_⟩:=r;rcases zr h1 with⟨hn,oa,rfl⟩|⟨g,off0,cap,cur,rfl,_⟩
 ·exact⟨oa,0,by rw[hn],h2⟩
 ·exact⟨_,cap+1,rfl,h2⟩
theorem bfz{t ty':TypeId}{r:Nat}{es:Array MapEntry}{n:Nat}(hok:(ty P t).ok=true)(hm:neg (isN (ty P t).mp)=true)(hb:w.heap[r]? = some (.map es n)) :
  (Builtin.len_ #[t] ty' #[.map (some r)]).run P w=.ok (.int .i64 es.size) w:=by
 obtain⟨inf,c,hi,hc⟩:=dl hok;rw[gp hi hc]at hm;simp only[nw]at hm;cases c <;> simp only[isN,kh,a3o,a02]at hm;simp[Builtin.len_,a0y hc,goInt,a35 hb]
theorem bb2{k v:T}{es:Array MapEntry}{l:List (k.den×v.den)}(h:agh k v es l):es.size=l.length:=by have:=congrArg List.length h;simpa using this
theorem blc{M:Mem}{x:V}{l:List Int}(h:ayc M x=some l):∃k π,x=.ref k π/\my M k π=some ⟨.sl (.fz (.int .u8)),l⟩:=by
 unfold ayc at h;split at h
 ·split at h
  ·rename_i hg;cases h;exact⟨_,_,rfl,hg⟩
  ·cases h
 ·cases h
theorem bg9(hB:TabOk P B)(hp:Hp F p M w)(s d:TypeId)(x:V)(u:Value)(h:ah p.β M (Imm F p M w) w x u)(hv:ab (ae5 B s d M x).1):∃r,(convert s d u).run P w=.ok r w/\ah p.β M (Imm F p M w) w (ae5 B s d M x).2 r:=by
 unfold ae5 at hv⊢;split at hv
 ·rename_i e l he hl;have hk:=io hv;simp only[he,hl,hk,a0c]at hv⊢;simp only[au,bh,a0k,a0a]at hk;obtain⟨k1,k2,k3,k4,k5⟩:=hk;have e1:=hB.τ s k1;have e2:=hB.τ d k2;have e3:=hB.τ e k4;rw[←e1]at k1 he;rw[←e2]at k2 k3;rw[←e3]at k4 k5;obtain⟨i1,c1,hi1,hc1⟩:=dl k1;obtain⟨i2,c2,hi2,hc2⟩:=dl k2;obtain⟨i3,c3,hi3,hc3⟩:=dl k4;rw[gp hi1 hc1]at he;rw[gp hi2 hc2]at k3;rw[gp hi3 hc3]at k5;simp only[nw]at he k3 k5;cases c1 <;> simp at he;subst he;cases c2 <;> simp at k3;have hu8:c3=.int .u8:=by cases c3 <;> simp only[bm8,a02]at k5;rename_i kk;cases kk <;> simp only[bm8,a02]at k5;rfl
  subst hu8;obtain⟨k,π,rfl,hg⟩:=blc hl;simp only[ah,aa]at h;obtain⟨S,hr⟩:=h.look hp hg;simp only[Rel]at hr;obtain⟨v,ety,xs,T,hv1,hown,hnb,_,_,_,hel⟩:=hr;simp only[a0i,a0b]at hv1;subst hv1;have hsz:(aii l).size<=nb:=by simp only[aii,ByteArray.size];simpa using hnb
  refine⟨.string (aii l),?_,by simp only[ci,bd,ae0,a0e];exact hsz⟩;obtain⟨hxl,ho⟩:=hown;rcases ho with⟨hn,oa,rfl⟩|⟨g,off,c,cur,rfl,hb,hc1',hc2',hcs,htk⟩
  ·have:l=[]:=a11 hn;subst this
   cases oa with
   |none=>exact run_convert_bytes_nil (P:=P) w s _ hc1 hc3 0 0 d hc2
   |some a=>rw[run_convert_bytes_string w s d _ _ 0 0 hc1 hc3 hc2,run_bytesToString w a 0 0 [] (by simp[loadCells,loadCellsFrom])];rfl
  ·refine run_convert_bytes_arg (P:=P) w s _ hc1 hc3 g off l.length (c+1) l rfl (fun i hi=>?_) d hc2;have h1:=hel i _ (a0o hi);have hs1:(O.fz (.int .u8)).size=1:=rfl;simp only[Rel,ai,hs1,a33]at h1;rw[hs1,a33]at htk;have h2:xs[i]? = some (.int .u8 l[i]):=by have:=congrArg (fun z:List Value=>z[0]?) h1.1;simpa using this
   have h3:cur.toList[off+i]? = some (.int .u8 l[i]):=by rw[←htk,a1e,d0 hi,a1c]at h2;exact h2
   simp only[World.cell?,hb];simp only[a2t]at h3;simp[h3,List.getD,a0o hi]
 ·exact bjr hB s d x u h hv
theorem bn8(hB:TabOk P B){t ty':TypeId}(hp:Hp F p M w)(x:V)(u:Value)(h:ah p.β M (Imm F p M w) w x u)(hv:ab (aml (B.τ t) M x).1) :
  ∃r,(Builtin.len_ #[t] ty' #[u]).run P w=.ok r w/\ah p.β M (Imm F p M w) w (aml (B.τ t) M x).2 r:=by
 unfold aml at hv⊢;split at hv
 ·rename_i s;have hk:=io hv;simp only[hk,a0c]at hv⊢;simp only[au,bh,a0k,a0a]at hk;rw[←hB.τ t hk.1]at hk;obtain⟨inf,c,hi,hc⟩:=dl hk.1;rw[gp hi hc]at hk;have h2:=hk.2;simp only[nw]at h2;cases c <;> simp at h2;simp only[bd,ae0]at h;obtain⟨rfl,hs⟩:=h;exact⟨.int .i64 s.size,by simp[Builtin.len_,a0y hc,goInt],by simp only[ci,bd,c9,a0e];exact af0 hs⟩
 ·rename_i t' l;have hk:=io hv;simp only[hk,a0c]at hv⊢;simp only[au,bh,a0k,a0a]at hk;rw[←hB.τ t hk.1]at hk;simp only[bd,ai,a0i,a0b]at h;obtain⟨oa,cap,rfl,⟨hn,_⟩,_⟩:=h;exact⟨.int .i64 l.length,x5 _ _ _ hk.1 (ap3 hk.2),by simp only[ci,bd,c9,a0e];exact af0 hn⟩
 ·rename_i k' v' l;have hk:=io hv;simp only[hk,a0c]at hv⊢;simp only[au,bh,a0k,a0a]at hk;rw[←hB.τ t hk.1]at hk;simp only[bd,ai,a0i,a0b]at h;obtain⟨oa,es,n,rfl,_,hb,⟨hn,_⟩,he⟩:=h;have:=bfz (ty':=ty') hk.1 hk.2 hb;rw[bb2 he]at this;exact⟨.int .i64 l.length,this,by simp only[ci,bd,c9,a0e];exact af0 hn⟩
 ·rename_i t' l;have hk:=io hv;simp only[hk,a0c]at hv⊢;simp only[au,bh,a0k,a0a]at hk;rw[←hB.τ t hk.1]at hk;simp only[bd]at h
  obtain⟨oa,cap,hu,hn⟩:∃oa cap,u=.slice oa (l.getD []).length cap/\(l.getD []).length<=nb:=by
   simp only[ai]at h;rcases h with⟨rfl,h⟩|⟨y,_,_,_,rfl,h,hr⟩
   ·simp only[a0i,a0b]at h;exact⟨none,0,h,a09 _⟩
   ·simp only[ai,a0i,a0b]at hr;obtain⟨oa,cap,rfl,⟨hn,_⟩,_⟩:=hr;exact⟨oa,cap,rfl,hn⟩
  subst hu;exact⟨.int .i64 (l.getD []).length,x5 _ _ _ hk.1 (ap3 hk.2),by simp only[ci,bd,c9,a0e];exact af0 hn⟩
 ·have hk:=io hv;simp only[hk,a0c]at hv⊢;simp only[au,bh,a0k,a0a]at hk;rw[←hB.τ t hk.1]at hk;simp only[ah,aa,a0i,a0b]at h;obtain⟨oa,rfl⟩:=h;exact⟨.int .i64 0,x5 _ _ _ hk.1 (ap3 hk.2),by simp only[ci,bd,c9,a0e];exact af0 (a09 _)⟩
 ·rename_i k π;simp only[ah,aa]at h;split at hv
  ·rename_i o l hg;have hk:=io hv;simp only[hg,hk,a0c]at hv⊢;simp only[au,bh,a0k,a0a]at hk;rw[←hB.τ t hk.1]at hk;obtain⟨S,hr⟩:=h.look hp hg;obtain⟨a,cap,h1,h2⟩:=bsa hr;simp only[a0i,a0b]at h1;subst h1;exact⟨.int .i64 l.length,x5 _ _ _ hk.1 (ap3 hk.2),by simp only[ci,bd,c9,a0e];exact af0 h2⟩
  ·rename_i o l hg;have hk:=io hv;simp only[hg,hk,a0c]at hv⊢;simp only[au,bh,a0k,a0a]at hk;rw[←hB.τ t hk.1]at hk;obtain⟨S,hr⟩:=h.look hp hg;simp only[Rel,ai,a0i,a0b]at hr;obtain⟨oa,cap,rfl,⟨hn,_⟩,_⟩:=hr;exact⟨.int .i64 l.length,x5 _ _ _ hk.1 (ap3 hk.2),by simp only[ci,bd,c9,a0e];exact af0 hn⟩
  ·rename_i k' v' l hg;have hk:=io hv;simp only[hg,hk,a0c]at hv⊢;simp only[au,bh,a0k,a0a]at hk;rw[←hB.τ t hk.1]at hk;obtain⟨S,hr⟩:=h.look hp hg;simp only[Rel,a0i,a0b]at hr;obtain⟨oa,es,n,rfl,_,hb,⟨hn,_⟩,he⟩:=hr;have:=bfz (ty':=ty') hk.1 hk.2 hb;rw[bb2 he]at this;exact⟨.int .i64 l.length,this,by simp only[ci,bd,c9,a0e];exact af0 hn⟩
  ·exact hv.1.elim
 ·exact hv.1.elim
theorem aku{t:TypeId}{b o:Nat}{vs:List Value}(hok:(ty P t).ok=true)(hs:vs.length=(ty P t).size)(h1:(ty P t).agg=true\/(ty P t).size=1)(hc:oy w b o vs) :
  (loadVar t ⟨b,o,none⟩).run P w=.ok (val (ty P t).agg vs) w:=by
 obtain⟨i,u,hi,hu⟩:=dl hok;rw[gp hi hu]at hs h1⊢;simp only[nw]at hs h1⊢;have hr:(loadCells ⟨b,o,none⟩ vs.length).run P w=.ok vs.toArray w:=run_loadCells_list w ⟨b,o,none⟩ vs (fun j v hj=>by rw[a2u];exact hc j v hj);rw[hs]at hr;have key:vs.length=1->∃v,vs=[v]/\w.cell? ⟨b,o,none⟩=some v:=fun h=>by obtain⟨v,rfl⟩:=a4o.1 h;exact⟨v,rfl,by simpa using hc 0 v rfl⟩
 cases u
 case struct fs=>simp[loadVar,isAgg,a0y hu,sizeOf,typeInfo,hi,hr,val]
 case array n e=>simp[loadVar,isAgg,a0y hu,sizeOf,typeInfo,hi,hr,val]
 all_goals
  simp at h1;obtain⟨v,rfl,hv⟩:=key (by rw[hs,h1]);simp[loadVar,isAgg,a0y hu,hv,val]
theorem ap2(hB:TabOk P B){t:TypeId}(hp:Hp F p M w)(x:V)(u:Value)(h:ah p.β M (Imm F p M w) w x u)(hv:ab (x8 (B.τ t) M x).1) :
  ∃r,(Instr.loadAt t u).run P w=.ok r w/\ah p.β M (Imm F p M w) w (x8 (B.τ t) M x).2 r:=by
 unfold x8 at hv⊢;split at hv
 ·rename_i te y;have hk:=io hv;simp only[hk,a0c]at hv⊢;simp only[au,bh,a0k,a0a,fe,a0t,mi,a1f]at hk;have e:=hB.τ t hk.1;rw[←e]at hk⊢;simp only[bd,ai,a0i,a0b]at h;obtain⟨b,o,us,rfl,h1,h2,h3⟩:=h;have hl:=ai.len te y us h3;refine⟨val (ty P t).agg us,?_,aq1 (fw te y us h3) (fun ha=>?_)⟩
  ·have:=aku (P:=P) hk.1 (by rw[hl,hk.2.1]) (by rw[←hk.2.1];exact hk.2.2) h2;simpa[Instr.loadAt,Instr.sureAddr]using this
  ·rw[hl];rcases hk.2.2 with h|h
   ·rw[ha]at h;cases h
   ·exact h
 ·rename_i k π;split at hv
  ·rename_i q hq;have hk:=io hv;simp only[hq,hk,a0c]at hv⊢;simp only[au,bh,a0k,a0a,fe,a0t,mi,a1f]at hk;have e:=hB.τ t hk.1;rw[←e]at hk⊢;simp only[ah,aa,a0i,a0b,exists_eq_left']at h;obtain⟨S,us,b,off,cur,ty',rfl,h2,h3,h4,h5⟩:=h.look hp hq;have hl:=Rel.len _ _ _ _ h2;refine⟨val (ty P t).agg us,?_,aq1 (bmk hp h5 hq) (fun ha=>?_)⟩
   ·have:=aku (P:=P) (b:=b) (o:=off) hk.1 (by rw[hl];exact hk.2.1) (by rw[←hk.2.1];exact hk.2.2) (fun j u hu=>by rw[a19 w b _ cur ty' (0,0) h3];exact h4 j u hu);simpa[Instr.loadAt,Instr.sureAddr]using this
   ·rw[hl];rcases hk.2.2 with h|h
    ·rw[ha]at h;cases h
    ·exact h
  ·exact hv.1.elim
 ·rename_i v;have hk:=io hv;simp only[hk,a0c]at hv⊢;simp only[au,bh,a0k,a0a,fe,a0t,mi,a1f]at hk;have e:=hB.τ t hk.1;rw[←e]at hk⊢;simp only[ah,aa,a0i,a0b]at h;obtain⟨b,o,us,rfl,h1,h2,h3⟩:=h;have hl:=u4 hp v us _ h3 (ld hk.2.1);refine⟨val (ty P t).agg us,?_,aq1 h3 (fun ha=>?_)⟩
  ·have:=aku (P:=P) hk.1 hl hk.2.2 h2;simpa[Instr.loadAt,Instr.sureAddr]using this
  ·rw[hl];rcases hk.2.2 with h|h
   ·rw[ha]at h;cases h
   ·exact h
 ·exact hv.1.elim
end
end Go.Bm
/- The du machine:operations that make memory. -/
namespace Go.Bm
open Go.RowKit
structure Qt (p:Ow) (M:Mem) (p':Ow) (M':Mem) (w w':World):Prop where
 ext:Ext w w'
 old:∀j ob,go M j=some ob->go M' j=some ob/\p'.β j=p.β j/\p'.σ j=p.σ j
section
variable {F:Fr} {p p' p'':Ow} {env:Env} {M M' M'':Mem} {a:Act} {w w' w'':World} {P:Program} {B:Tab}
def e9(F:Fr)(p:Ow)(M:Mem)(w:World)(qt:Bool)(r:Rs)(v:Value)(w':World):Prop:=∃p',Tr F p M w r.ev p' r.M w'/\(∀b,¬p'.L b)/\ah p'.β r.M (Imm F p' r.M w') w' r.av v/\(fm M r.ev=true->qt=true->Qt p M p' r.M w w')
theorem e9.pure(h:Hp F p M w)(hL:∀b,¬p.L b){q:List Prop×V}{v:Value}(hv:ah p.β M (Imm F p M w) w q.2 v)(qt:Bool):e9 F p M w qt (cq q M) v w:=⟨p,Tr.refl h,hL,hv,fun _ _=>⟨Ext.refl w,fun j ob hj=>⟨hj,rfl,rfl⟩⟩⟩
theorem bov(a b:T):mkP ⟨a.deep,a.deep.dflt⟩ ⟨b.deep,b.deep.dflt⟩=⟨(T.p a b).deep,(T.p a b).deep.dflt⟩:=by simp only[T.deep];generalize a.deep=x;generalize b.deep=y;cases x <;> cases y <;> rfl
theorem bdl(k:IntKind):inK k 0:=by cases k <;> simp[inK,IntKind.min,IntKind.max,IntKind.signed,IntKind.bits]
theorem acb{Im:Nat->Prop}{w:World}:(t:T)->(zs:List Value)->ge t zs=true->Rel Im w t.deep t.deep.dflt (fun _=>False) zs/\∀β M,aa β M Im w (up t) zs
 |.p a b,zs,h=>by
  simp only[ge,am,a0a,anf,asj]at h;obtain⟨a1,a2⟩:=acb (Im:=Im) (w:=w) a _ h.1;obtain⟨b1,b2⟩:=acb (Im:=Im) (w:=w) b _ h.2;refine⟨?_,fun β M=>?_⟩
  ·have:=aq2 (a:=⟨a.deep,a.deep.dflt⟩) (b:=⟨b.deep,b.deep.dflt⟩) (S:=fun _=>False) (fun c hc=>hc) (fun c hc=>hc) (fun c hc=>hc.elim) a1 b1;rw[bov,a10]at this;exact this
  ·simp only[up,aa];exact⟨_,_,(a10 a.size zs).symm,a2 β M,b2 β M⟩
 |.u,zs,h=>by
  cases zs with
  |nil=>exact⟨by simp only[T.deep,Rel,ai],fun β M=>by simp only[up,aa]⟩
  |cons _ _=>simp[ge]at h
 |.int k,zs,h=>by
  have:zs=[.int k 0]:=by
   rcases zs with _|⟨v,_|⟨_,_⟩⟩
   ·simp[ge]at h
   ·cases v <;> try (simp[ge]at h)
    rename_i k' n;rcases n with (_|n)|n
    ·simp only[ge]at h;rw[we h];rfl
    ·exact nomatch (show (false:Bool)=true from h)
    ·exact nomatch (show (false:Bool)=true from h)
   ·simp[ge]at h
  subst this;exact⟨by simp only[T.deep,Rel,ai,O.dflt,T.dflt];exact⟨trivial,bdl _⟩,fun β M=>by simp only[up,aa,ai,T.dflt];exact⟨trivial,bdl _⟩⟩
 |.bool,zs,h=>by
  have:zs=[.bool false]:=by
   rcases zs with _|⟨v,_|⟨_,_⟩⟩
   ·simp[ge]at h
   ·cases v <;> try (simp[ge]at h)
    rw[h]
   ·simp[ge]at h
  subst this;exact⟨by simp only[T.deep,Rel,ai,O.dflt,T.dflt],fun β M=>by simp only[up,aa,ai,T.dflt]⟩
 |.str,zs,h=>by
  have:∃s:ByteArray,zs=[.string s]/\s=ByteArray.empty:=by
   rcases zs with _|⟨v,_|⟨_,_⟩⟩
   ·simp[ge]at h
   ·cases v <;> try (simp[ge]at h)
    exact⟨_,rfl,by simpa using h⟩
   ·simp[ge]at h
  obtain⟨s,rfl,rfl⟩:=this;exact⟨by simp only[T.deep,Rel,ai,O.dflt,T.dflt];exact⟨trivial,a09 _⟩,fun β M=>by simp only[up,aa,ai,T.dflt];exact⟨trivial,a09 _⟩⟩
 |.sl e,zs,h=>by
  have:zs=[.slice none 0 0]:=by
   rcases zs with _|⟨v,_|⟨_,_⟩⟩
   ·simp[ge]at h
   ·cases v <;> try (simp[ge]at h)
    rename_i a n c
    cases a with
    |some _=>simp[ge]at h
    |none=>rcases n with _|n <;> rcases c with _|c <;> first|rfl|(simp[ge]at h)
   ·simp[ge]at h
  subst this;exact⟨by simp only[T.deep,O.dflt];exact ak8 e.deep none,fun β M=>by simp only[up,aa];exact⟨none,rfl⟩⟩
 |.ns e,zs,h=>by
  have:zs=[.slice none 0 0]:=by
   rcases zs with _|⟨v,_|⟨_,_⟩⟩
   ·simp[ge]at h
   ·cases v <;> try (simp[ge]at h)
    rename_i a n c
    cases a with
    |some _=>simp[ge]at h
    |none=>rcases n with _|n <;> rcases c with _|c <;> first|rfl|(simp[ge]at h)
   ·simp[ge]at h
  subst this;exact⟨by simp only[T.deep,Rel,ai];exact .inl ⟨rfl,trivial⟩,fun β M=>by simp only[up,aa,ai];exact .inl ⟨rfl,trivial⟩⟩
 |.er e,zs,h=>by rcases zs with _|⟨v,_|⟨_,_⟩⟩ <;> simp[ge]at h
 |.pt e,zs,h=>by rcases zs with _|⟨v,_|⟨_,_⟩⟩ <;> simp[ge]at h
 |.fn f e,zs,h=>by rcases zs with _|⟨v,_|⟨_,_⟩⟩ <;> simp[ge]at h
 |.any,zs,h=>by
  have:∃v:Value,zs=[v]/\v.oneCell'=true:=by
   rcases zs with _|⟨v,_|⟨_,_⟩⟩
   ·simp[ge]at h
   ·exact⟨v,rfl,by simpa[ge]using h⟩
   ·simp[ge]at h
  obtain⟨v,rfl,hv⟩:=this;exact⟨by simp only[T.deep,Rel,ai];exact⟨v,rfl,hv⟩,fun β M=>by simp only[up,aa,ai];exact⟨v,rfl,hv⟩⟩
theorem aaf(p:Ow)(k:Nat)(v:Value)(r:Nat->Prop):(p.upd k v r).β k=v:=by simp[Ow.upd,Ow.updL]
theorem lk(k:Nat)(ob:Ob)(M:Mem):go ((k,ob)::M) k=some ob:=by rw[c8,d0 rfl]
theorem bbr{k:Nat}{v:Value}{r:Nat->Prop}{ob:Ob}(hf:go M k=none)(he:Ext w w'):Qt p M (p.upd k v r) ((k,ob)::del k M) w w':=
 ⟨he,fun j o hj=>by
  have hne:j≠k:=by rintro rfl;rw[hf]at hj;cases hj
  exact⟨by rw[c8,ds (a0w hne),dm hne,hj],by simp[Ow.upd,Ow.updL,hne],by simp[Ow.upd,Ow.updL,hne]⟩⟩
theorem amh{k:Nat}{e:List Ev}(h:fm M (.kl k::e)=true):go M k=none/\fm M e=true:=by
 simp only[fm,am,a0a]at h;refine⟨?_,h.2⟩
 cases hg:go M k with
 |none=>rfl
 |some _=>rw[hg]at h;simp[isN]at h
theorem aj0{x:Ev}{r:List Ev}(h:fm M [x]=false):fm M (x::r)=false:=by
 cases x with
 |kl j=>simp only[fm,am,a0k]at h⊢;rw[h];rfl
 |mv _ _=>rfl
 |cut _ _ _=>rfl
 |fz _ _=>rfl
 |un _ _=>rfl
 |tk _ _ _=>rfl
theorem azk{k:Nat}{x:Ev}(h:fm (del k M) [x]=false):fm M [x]=false:=by
 cases x with
 |kl j=>
  simp only[fm,am,a0k]at h⊢;by_cases e:j=k
  ·subst e;rw[cy]at h;simp[isN]at h
  ·rw[dm e]at h;exact h
 |mv _ _=>rfl
 |cut _ _ _=>rfl
 |fz _ _=>rfl
 |un _ _=>rfl
 |tk _ _ _=>rfl
theorem bgh(h:Hp F p M w)(hL:∀b,¬p.L b)(k:Nat)(e:TypeId){e0:List Ev}{p1:Ow}{M1:Mem}{S:Nat->Prop}{q:Ob}{vs:List Value}{cs:Array Value}(hcs:cs.toList=vs)(hc:Cv F p (del k M) w k q e0 vs p1 M1 S)(hk1:go M1 k=none)
  (qt:Bool):e9 F p M w qt ⟨[],.ad k [.de],.kl k::e0,(k,⟨.pt q.o,q.x⟩)::M1⟩ (.pointer (some ⟨w.heap.size,0,none⟩)) (w.alloc (.cells cs e)):=by
 have hext:Ext w (w.alloc (.cells cs e)):=Ext.of_grown (a36 w _ none) (a0f _);have hnew:(w.alloc (.cells cs e)).heap[w.heap.size]? = some (.cells cs e (0,0)):=a20 w _;have hcs':cs=vs.toArray:=by rw[←hcs]
 have hSsz:∀b,S b->b<w.heap.size:=fun b hb=>(hc.tr.hp.lim b ((hc.L b).2 (.inr hb))).1
 have ht1:Tr F p1 M1 w [] (p1.upd k (.pointer (some ⟨w.heap.size,0,none⟩)) (fun b=>b=w.heap.size\/S b)) ((k,⟨.pt q.o,q.x⟩)::M1) (w.alloc (.cells cs e)):=by
  refine Tr.new hc.tr.hp k hk1 _ _ _ (hext.toL _) (fun b hb=>?_) (fun hkp=>?_)
  ·rcases hb with rfl|hb
   ·exact .inl ⟨a0f _,(a03.1 hnew).1⟩
   ·exact .inr ((hc.L b).2 (.inr hb))
  ·simp only[Rel];refine⟨w.heap.size,vs,e,S,rfl,.inl rfl,by rw[←hcs'];exact hnew,fun c hcS=>⟨.inr hcS,fun e'=>by have:=hSsz c hcS;omega⟩,?_⟩;exact Rel.keep hkp _ _ _ _ (fun b hb=>hext.old b (hSsz b hb)) hc.rel
 have htr:Tr F p M w (.kl k::e0) (p1.upd k (.pointer (some ⟨w.heap.size,0,none⟩)) (fun b=>b=w.heap.size\/S b)) ((k,⟨.pt q.o,q.x⟩)::M1) (w.alloc (.cells cs e)):=by
  have h1:=(Tr.kl h k).trans (hc.tr.trans ht1);have e1:ap [Ev.kl k] (ap e0 [])=.kl k::e0:=by rw[ic,ic];simp
  rw[e1]at h1;exact h1
 refine⟨_,htr,fun b hb=>hb,?_,fun hf _=>?_⟩
 ·simp only[ah,aa];refine⟨_,rfl,⟨.pt q.o,q.x⟩,cellsOf (w.alloc (.cells cs e)) w.heap.size 0 q.o.size,w.heap.size,0,lk _ _ _,by simp only[gok],⟨⟨q.o,q.x⟩,by simp only[get]⟩,rfl,?_,rfl⟩;rw[aaf];simp only[res]
 ·obtain⟨hf1,hf2⟩:=amh hf;rcases hc.fr with⟨rfl,rfl,rfl⟩|⟨x,r,rfl,hx⟩
  ·exact bbr hf1 hext
  ·rw[aj0 (azk hx)]at hf2;cases hf2
theorem bf8(h:Hp F p M w)(k:Nat){e0:List Ev}{p1:Ow}{M1:Mem}{o:O}{l:List o.strip.den}{v:Value}{xs:List Value}{ety:TypeId}{T:Nat->Nat->Prop}(ht:Tr F p (del k M) w e0 p1 M1 w)(hk1:go M1 k=none)(hg:w.grownBy w' none/\w.drawn<=w'.drawn)
  (hown:w'.ownsRow 0 ety o.size v l.length xs) (hroot:∀b,jz v=some b->w.heap.size<=b/\b<w'.heap.size) (hl:l.length<=nb) (hT:∀i c,T i c->p1.L c) (hTd:∀i j c,i≠j->T i c->¬T j c)
  (hrows:∀(i:Nat) (x:o.strip.den),l[i]? = some x->Rel (Imm F p1 M1 w) w o x (T i) ((xs.drop (i*o.size)).take o.size))
  (hfr:(e0=[]/\M1=del k M/\p1=p)\/∃x r,e0=x::r/\fm (del k M) [x]=false)
  (qt:Bool):e9 F p M w qt ⟨[],.ref k [],.kl k::e0,(k,⟨.sl o,l⟩)::M1⟩ v w':=by
 obtain⟨hg,hgd⟩:=hg;have hext:Ext w w':=Ext.of_grown hg hgd;have hTs:∀i b,T i b->b<w.heap.size:=fun i b hb=>(ht.hp.lim b (hT i b hb)).1
 have ht1:Tr F p1 M1 w [] (p1.upd k v (fun b=>jz v=some b\/∃i,T i b)) ((k,⟨.sl o,l⟩)::M1) w':=by
  refine Tr.new ht.hp k hk1 _ _ _ (hext.toL _) (fun b hb=>?_) (fun hkp=>?_)
  ·rcases hb with hb|⟨i,hb⟩
   ·exact .inl (hroot b hb)
   ·exact .inr (hT i b hb)
  ·simp only[Rel];refine⟨v,ety,xs,T,rfl,awg hown,hl,fun c hc=>.inl hc,fun i c hc=>⟨.inr ⟨i,hc⟩,fun e=>by have:=hTs i c hc;have:=(hroot c e).1;omega⟩,hTd,fun i x hx=>?_⟩;exact Rel.keep hkp _ _ _ _ (fun b hb=>hext.old b (hTs i b hb)) (hrows i x hx)
 have htr:Tr F p M w (.kl k::e0) (p1.upd k v (fun b=>jz v=some b\/∃i,T i b)) ((k,⟨.sl o,l⟩)::M1) w':=by
  have h1:=(Tr.kl h k).trans (ht.trans ht1);have e1:ap [Ev.kl k] (ap e0 [])=.kl k::e0:=by rw[ic,ic];simp
  rw[e1]at h1;exact h1
 refine⟨_,htr,fun b hb=>hb,?_,fun hf _=>?_⟩
 ·simp only[ah,aa];refine⟨⟨.sl o,l⟩,none,lk _ _ _,by simp only[gok],⟨⟨.sl o,l⟩,by simp only[get]⟩,?_⟩;rw[aaf];simp only[res]
 ·obtain⟨hf1,hf2⟩:=amh hf;rcases hfr with⟨rfl,rfl,rfl⟩|⟨x,r,rfl,hx⟩
  ·exact bbr hf1 hext
  ·rw[aj0 (azk hx)]at hf2;cases hf2
theorem aog(h:Hp F p M w)(k:Nat):Hp F p (del k M) w:=(h.del k).1
theorem afu(t:T):t.deep.size=t.size:=by unfold O.size;rw[T.deep_strip]
theorem aek(hB:TabOk P B){t:TypeId}(h:B.z t=true):∃i z,P.info? t=some i/\i.zero=some z/\ge (B.σ t) z.cells.toList=true:=by obtain⟨zs,h1,h2⟩:=hB.z t h;obtain⟨i,z,h3,h4,rfl⟩:=bm0 h1;exact⟨i,z,h3,h4,h2⟩
theorem bqc(hB:TabOk P B)(h:Hp F p M w)(hL:∀b,¬p.L b){t:TypeId}(o:Option Nat)(hv:ab (bce B t o M).vc)(qt:Bool){op:Oper}(hop:op.op=.alloc t) :
  ∃v w',(execOp a.eval op).run P w=.ok (.value v) w'/\e9 F p M w qt (bce B t o M) v w':=by
 unfold bce at hv⊢
 cases o with
 |none=>exact hv.1.elim
 |some k=>
  simp only at hv⊢
  cases hk:bg [(B.τ t).ok,B.z t]with
  |false=>rw[hk]at hv;exact hv.1.elim
  |true=>
   simp only[a0c];simp only[au,bh,a0k,a0a]at hk;obtain⟨i,z,hi,hz,h0⟩:=aek hB hk.2;refine⟨.pointer (some ⟨w.heap.size,0,none⟩),w.alloc (.cells z.cells t),by simp[execOp,hop,Instr.alloc,zeroValue,typeInfo,hi,hz,newVar,newRow],?_⟩
   have:=bgh h hL k t (q:=⟨(B.σ t).deep,(B.σ t).deep.dflt⟩) (cs:=z.cells) rfl
    ⟨rfl,fun b=>(or_false _).symm▸a2l,fun b hb=>hb.elim,Tr.refl (aog h k),(acb (B.σ t) _ h0).1,.inl ⟨rfl,rfl,rfl⟩⟩ (cy k M) qt
   exact this
theorem boi(h:Hp F p M w)(hL:∀b,¬p.L b){t:TypeId}(o:Option Nat)(x:V)(y:Operand)(hx:ah p.β M (Imm F p M w) w x (a.eval y))(hv:ab (bau B t o x M).vc)(qt:Bool){op:Oper}(hop:op.op=.box t y) :
  ∃v w',(execOp a.eval op).run P w=.ok (.value v) w'/\e9 F p M w qt (bau B t o x M) v w':=by
 unfold bau at hv⊢
 cases o with
 |none=>exact hv.1.elim
 |some k=>
  simp only at hv⊢;split at hv
  ·rename_i q e M' hc;refine⟨.pointer (some ⟨w.heap.size,0,none⟩),w.alloc (.cells (a.eval y).cells t),by simp[execOp,hop,Instr.box,newVar,newRow],?_⟩;have hcv:kw x=true:=by cases x <;> first|rfl|(exfalso;revert hc;simp only[V.cells,V.ev];cases B.σ t <;> simp[conv])
   have h1:=(Tr.kl h k).c _ _ (ad5 h hx hcv);obtain⟨g,p',S,cv⟩:=ad4 k (B.σ t) _ (del k M) p _ q e M' (aog h k) h1 hc;exact bgh h hL k t rfl cv (by rw[g];exact cy k M) qt
  ·cases hs:x.cells.size M with
   |none=>rw[hs]at hv;exact hv.1.elim
   |some n=>
   simp only[isN,kh,Bool.not_false,a0c]at hv⊢;have hcv:kw x=true:=acl hs;have hx1:=ad5 h hx hcv;have hext:Ext w (w.alloc (.cells (a.eval y).cells t)):=Ext.of_grown (a36 w _ none) (a0f _);have hnew:(w.alloc (.cells (a.eval y).cells t)).heap[w.heap.size]? = some (.cells (a.eval y).cells t (0,0)):=a20 w _;have ht:=Tr.ext h hext;refine⟨.pointer (some ⟨w.heap.size,0,none⟩),w.alloc (.cells (a.eval y).cells t),by simp[execOp,hop,Instr.box,newVar,newRow],p,ht,hL,?_,fun _ _=>⟨hext,fun j ob hj=>⟨hj,rfl,rfl⟩⟩⟩;simp only[ah,aa,a0i,a0b];refine⟨w.heap.size,0,(a.eval y).cells.toList,rfl,⟨(a03.1 hnew).1,.inr (.inr h.size),hL _,fun j hj hb=>?_⟩,fun j u hu=>?_,?_⟩
   ·have:=(h.own j _ hj hb).1;omega
   ·rw[a19 _ _ _ _ t (0,0) hnew];simpa using hu
   ·have:=ht.c _ _ hx1;simpa only [V.evs]using this
end
end Go.Bm
/- The du machine:literals. -/
namespace Go.Bm
open Go.RowKit
theorem aze(off:Nat):∀(vs:List Value) (k:Nat) (cells:Array Value),off+k+vs.length<=cells.size->
  ((vs.zipIdx k).foldl (fun (cs:Array Value) (x:Value×Nat)=>cs.setIfInBounds (off+x.2) x.1) cells).toList=cells.toList.take (off+k)++vs++cells.toList.drop (off+k+vs.length)
 |[],k,cells,_=>by simp
 |v::r,k,cells,h=>by
  simp only[List.zipIdx_cons,a16];simp only[a0l]at h;rw[aze off r (k+1) (cells.setIfInBounds (off+k) v) (by simp;omega)];simp only[Array.toList_setIfInBounds,a0l]
  have h1:(cells.toList.set (off+k) v).take (off+(k+1))=cells.toList.take (off+k)++[v]:=by
   apply a2a;intro j;simp only[a1e,a3m,List.getElem?_append,a1d,a14];by_cases hj:j<off+k
   ·rw[d0 (by omega),ds (by omega),d0 (by omega),d0 hj]
   ·by_cases hj2:j=off+k
    ·subst hj2;rw[d0 (by omega),d0 rfl,d0 (by omega),ds (by omega),a37 (by omega)];simp
    ·rw[ds (by omega),ds (by omega),a37 (by omega)];simp;omega
  have h2:(cells.toList.set (off+k) v).drop (off+(k+1)+r.length)=cells.toList.drop (off+k+(r.length+1)):=by rw[List.drop_set_of_lt (by omega)];congr 1;omega
  rw[h1,h2];simp
theorem azs{place:Nat->Option (Nat×Nat)}{cells:Array Value}{i:Nat}{v:Value}{vals:List (Nat×Value)}{off n:Nat}(hp:place i=some (off,n))(hn:v.cells.size=n)(hb:off+n<=cells.size) :
  ∃cells':Array Value,cells'.toList=d3 cells.toList off v.cells.toList/\Instr.fill place cells ((i,v)::vals)=Instr.fill place cells' vals:=by
 refine⟨v.cells.zipIdx.foldl (fun cs (c,j)=>cs.setIfInBounds (off+j) c) cells,?_,?_⟩
 ·have hf:=aze off v.cells.toList 0 cells (by simp;omega);rw[←Array.foldl_toList,Array.toList_zipIdx,hf];simp only[d3,a21]
 ·simp only[Instr.fill,hp];rw[ds];simp only[ne_eq,a1f,a06,not_or,Decidable.not_not,Nat.not_lt];omega
section
variable {F:Fr} {p p' p'':Ow} {env:Env} {M M' M'':Mem} {a:Act} {w w' w'':World} {P:Program} {B:Tab}
theorem axh(hp:Hp F p M w):(π:bq)->(v y v':V)->(vs us:List Value)->(n:Nat)->(z:V)->aa p.β M (Imm F p M w) w v vs->gv M π v=some (n,z)->z.size M=some us.length->aa p.β M (Imm F p M w) w y us->jb π v y=some v'->
  aa p.β M (Imm F p M w) w v' (d3 vs n us)/\n+us.length<=vs.length
 |[],v,y,v',vs,us,n,z,r,hs,hz,hy,h=>by
  have:gv M [] v=some (0,v):=by cases v <;> rfl
  rw[this]at hs;cases hs;have:jb [] v y=some y:=by cases v <;> rfl
  rw[this]at h;cases h;have hl:=u4 hp v vs _ r hz;refine⟨?_,by omega⟩;unfold d3;rw[a1w,←hl,List.drop_length];simpa using hy
 |.l::π,.p a b,y,v',vs,us,n,z,r,hs,hz,hy,h=>by
  simp only[gv]at hs;simp only[jb]at h;simp only[aa]at r;obtain⟨va,vb,rfl,ha,hb⟩:=r;split at h
  ·rename_i q hq;cases h;obtain⟨k1,k2⟩:=axh hp π a y q va us n z ha hs hz hy hq;refine⟨?_,by rw[a0q];omega⟩;simp only[aa];exact⟨_,vb,(bbm k2).symm,k1,hb⟩
  ·cases h
 |.r::π,.p a b,y,v',vs,us,n,z,r,hs,hz,hy,h=>by
  simp only[gv]at hs;simp only[jb]at h;simp only[aa]at r;obtain⟨va,vb,rfl,ha,hb⟩:=r;split at hs
  ·rename_i m n' v1 hm hs1;cases hs;split at h
   ·rename_i q hq;cases h;obtain⟨k1,k2⟩:=axh hp π b y q vb us n' z hb hs1 hz hy hq;have hl:=u4 hp a va m ha hm;refine⟨?_,by rw[a0q,aqm];omega⟩;simp only[aa];exact⟨va,_,by rw[bc1,hl,aqm],ha,k1⟩
   ·cases h
  ·cases hs
 |.l::_,.any,_,_,_,_,_,_,_,_,_,_,h=>by simp[jb]at h
 |.l::_,.nl,_,_,_,_,_,_,_,_,_,_,h=>by simp[jb]at h
 |.l::_,.np,_,_,_,_,_,_,_,_,_,_,h=>by simp[jb]at h
 |.l::_,.u,_,_,_,_,_,_,_,_,_,_,h=>by simp[jb]at h
 |.l::_,.d _ _,_,_,_,_,_,_,_,_,_,_,h=>by simp[jb]at h
 |.l::_,.ref _ _,_,_,_,_,_,_,_,_,_,_,h=>by simp[jb]at h
 |.l::_,.ad _ _,_,_,_,_,_,_,_,_,_,_,h=>by simp[jb]at h
 |.l::_,.ag _,_,_,_,_,_,_,_,_,_,_,h=>by simp[jb]at h
 |.l::_,.tup _,_,_,_,_,_,_,_,_,_,_,h=>by simp[jb]at h
 |.l::_,.gd _ _ _ _,_,_,_,_,_,_,_,_,_,_,h=>by simp[jb]at h
 |.l::_,.fn _ _,_,_,_,_,_,_,_,_,_,_,h=>by simp[jb]at h
 |.l::_,.ifc _ _,_,_,_,_,_,_,_,_,_,_,h=>by simp[jb]at h
 |.l::_,.bx _,_,_,_,_,_,_,_,_,_,_,h=>by simp[jb]at h
 |.r::_,.any,_,_,_,_,_,_,_,_,_,_,h=>by simp[jb]at h
 |.r::_,.nl,_,_,_,_,_,_,_,_,_,_,h=>by simp[jb]at h
 |.r::_,.np,_,_,_,_,_,_,_,_,_,_,h=>by simp[jb]at h
 |.r::_,.u,_,_,_,_,_,_,_,_,_,_,h=>by simp[jb]at h
 |.r::_,.d _ _,_,_,_,_,_,_,_,_,_,_,h=>by simp[jb]at h
 |.r::_,.ref _ _,_,_,_,_,_,_,_,_,_,_,h=>by simp[jb]at h
 |.r::_,.ad _ _,_,_,_,_,_,_,_,_,_,_,h=>by simp[jb]at h
 |.r::_,.ag _,_,_,_,_,_,_,_,_,_,_,h=>by simp[jb]at h
 |.r::_,.tup _,_,_,_,_,_,_,_,_,_,_,h=>by simp[jb]at h
 |.r::_,.gd _ _ _ _,_,_,_,_,_,_,_,_,_,_,h=>by simp[jb]at h
 |.r::_,.fn _ _,_,_,_,_,_,_,_,_,_,_,h=>by simp[jb]at h
 |.r::_,.ifc _ _,_,_,_,_,_,_,_,_,_,_,h=>by simp[jb]at h
 |.r::_,.bx _,_,_,_,_,_,_,_,_,_,_,h=>by simp[jb]at h
 |.ix _::_,_,_,_,_,_,_,_,_,_,_,_,h=>by simp[jb]at h
 |.de::_,_,_,_,_,_,_,_,_,_,_,_,h=>by simp[jb]at h
theorem ank(hp:Hp F p M w)(place:Nat->Option (bq×Nat×Nat))(f:Operand->V)(g:Operand->Value):(parts:List (Nat×Operand))->(v v':V)->(cells:Array Value)->(∀q∈parts,ah p.β M (Imm F p M w) w (f q.2) (g q.2))->
  aa p.β M (Imm F p M w) w v cells.toList->t7 M place f parts v=some v'->
  ∃cells',Instr.fill (fun i=>(place i).map fun q=>q.2) cells (parts.map fun q=>(q.1,g q.2))=some cells'/\aa p.β M (Imm F p M w) w v' cells'.toList
 |[],v,v',cells,_,r,h=>by simp only[t7,a0d]at h;subst h;exact⟨cells,rfl,r⟩
 |(i,x)::parts,v,v',cells,hfg,r,h=>by
  simp only[t7]at h;split at h
  ·rename_i π off n hpl;split at h
   ·rename_i m z hs
    cases hk:bg [dz m off,jx M z n,jx M (f x).cells n]with
    |false=>rw[hk]at h;cases h
    |true=>
     rw[hk]at h;simp only[a0c]at h;simp only[au,bh,a0k,a0a,fe,a0t]at hk;obtain⟨rfl,k2,k3⟩:=hk;split at h
     ·rename_i v1 hv1;have hc:=ad5 hp (hfg (i,x) (by simp)) (acl (ld k3));have hn:=u4 hp _ _ _ hc (ld k3);obtain⟨s1,s2⟩:=axh hp π v (f x).cells v1 cells.toList (g x).cells.toList m z r hs (by rw[hn];exact ld k2) hc hv1;simp only[a14]at hn s2;obtain⟨cells1,c1,c2⟩:=azs (place:=fun i=>(place i).map fun q=>q.2) (cells:=cells) (i:=i) (v:=g x) (vals:=parts.map fun q=>(q.1,g q.2)) (off:=m) (n:=n) (by simp[hpl]) hn (by omega);rw[←c1]at s1;obtain⟨cells',e1,e2⟩:=ank hp place f g parts v1 v' cells1 (fun q hq=>hfg q (by simp[hq])) s1 h;exact⟨cells',by rw[a05,c2];exact e1,e2⟩
     ·cases h
   ·cases h
  ·cases h
theorem azx{pl pl':Nat->Option (Nat×Nat)}(h:∀i q,pl i=some q->pl' i=some q):∀(l:List (Nat×Value)) (cells cells':Array Value),Instr.fill pl cells l=some cells'->Instr.fill pl' cells l=some cells'
 |[],cells,cells',hf=>hf
 |(i,v)::l,cells,cells',hf=>by
  unfold Instr.fill at hf⊢
  cases hp:pl i with
  |none=>simp only[hp]at hf;cases hf
  |some q=>
   obtain⟨off,n⟩:=q;simp only[hp]at hf;simp only[h i _ hp];split at hf
   ·cases hf
   ·rename_i hc;rw[ds hc];exact azx h l _ _ hf
theorem dh{α:Type}(x:Array α):toL x=x.toList:=by cases x;rfl
theorem bib(hB:TabOk P B)(hp:Hp F p M w)(hL:∀b,¬p.L b){t:TypeId}{parts:Array (Nat×Operand)}(f:Operand->V)(hf:∀q∈parts.toList,ah p.β M (Imm F p M w) w (f q.2) (a.eval q.2))(hv:ab (yf B t (toL parts) f M).vc)(qt:Bool){op:Oper}(hop:op.op=.build t parts) :
  ∃v w',(execOp a.eval op).run P w=.ok (.value v) w'/\e9 F p M w qt (yf B t (toL parts) f M) v w':=by
 unfold yf at hv⊢
 cases hk:bg [(B.τ t).ok,aq9 B (B.τ t),B.z t]with
 |false=>rw[hk]at hv;exact hv.1.elim
 |true=>
  rw[hk]at hv;simp only[a0c]at hv⊢;simp only[au,bh,a0k,a0a]at hk;split at hv
  ·rename_i v hev;have eτ:=hB.τ t hk.1
   cases harr:(B.τ t).arr with
   |some q=>
    obtain⟨e,n⟩:=q;have hbo:=hk.2.1;simp only[aq9,harr]at hbo;have ee:=hB.τ e hbo;obtain⟨inf,z,hi,hz,h0⟩:=aek hB hk.2.2;obtain⟨ie,ue,hie,hue⟩:=dl (by rw[ee];exact hbo);obtain⟨inf',u,hi',hu⟩:=dl (P:=P) (t:=t) (by rw[eτ];exact hk.1);rw[hi]at hi';cases hi';have hu2:u=.array n e:=by rw[←eτ,gp hi hu]at harr;simp only[nw]at harr;cases u <;> simp at harr;rw[harr.1,harr.2]
    subst hu2;have hsz:(B.τ e).size=ie.size:=by rw[←ee,gp hie hue];rfl
    rw[dh]at hev;obtain⟨cells',h1,h2⟩:=ank hp _ f a.eval parts.toList (up (B.σ t)) v z.cells hf ((acb (B.σ t) _ h0).2 _ _) hev
    have hb:P.built t (parts.toList.map fun q=>(q.1,a.eval q.2))=some cells':=by
     simp only[Program.built,hi,hu,hz,hie];refine azx (fun i q hq=>?_) _ _ _ h1;simp only[bi9,harr]at hq
     cases hl:Nat.ble (Nat.succ i) n with
     |false=>rw[hl]at hq;cases hq
     |true=>rw[hl]at hq;simp only[a0c,a00,a0d]at hq;rw[←hq,hsz];rfl
    refine⟨.agg cells',w,?_,?_⟩
    ·have:=run_build w t ((parts.toList.map fun q=>(q.1,a.eval q.2)).toArray) cells' (by simpa using hb);simp only[execOp,hop,a1j];rw[show (parts.map fun x=>match x with|(i,x)=>(i,a.eval x))=(parts.toList.map fun q=>(q.1,a.eval q.2)).toArray from by apply a2c;simp];rw[this];rfl
    ·refine e9.pure (q:=([],.ag v)) hp hL ?_ qt;simp only[ah];exact⟨cells'.toList,by simp,h2⟩
   |none=>
   have hpl:bi9 B (B.τ t)=fun i=>(match m5 (B.τ t).fld i with|some q=>some (ahb (len (B.τ t).fld) i,q.1,q.2.2)|none=>none):=by funext i;simp only[bi9,harr];cases m5 (B.τ t).fld i <;> rfl
   rw[hpl]at hev;simp only[aq9,harr]at hk;rw[←eτ]at hk hev;obtain⟨inf,z,hi,hz,h0⟩:=aek hB hk.2.2;obtain⟨inf',u,hi',hu⟩:=dl hk.1;rw[hi]at hi';cases hi';rw[gp hi hu]at hk hev;have hsz:=hk.2.1;simp only[nw]at hsz hev;cases u <;> simp at hsz
   case struct fs=>
    simp only at hev;rw[dh]at hev;obtain⟨cells',h1,h2⟩:=ank hp _ f a.eval parts.toList (up (B.σ t)) v z.cells hf ((acb (B.σ t) _ h0).2 _ _) hev
    have hb:P.built t (parts.toList.map fun q=>(q.1,a.eval q.2))=some cells':=by
     have hplaces:fs.toList.mapM (fun f=>(P.info? f.type).map fun i=>(f.offset,i.size))=some (fs.toList.map fun f=>(f.offset,P.cellsOf f.type)):=by
      have v3':∀f∈fs.toList,(P.info? f.type).isSome=true:=fun f hfm=>by obtain⟨i,hi',rfl⟩:=Array.getElem_of_mem (a17.1 hfm);exact hsz i hi'
      generalize fs.toList=l at v3'
      induction l with
      |nil=>rfl
      |cons f l ih=>
       have hf':=v3' f (by simp)
       cases hif:P.info? f.type with
       |none=>rw[hif]at hf';cases hf'
       |some i'=>simp only[List.mapM_cons,a00,a05,ih (fun g hg=>v3' g (by simp[hg])),Program.cellsOf,hif];rfl
     simp only[Program.built,hi,hu,hz,hplaces];rw[←h1];congr 1
     funext i
     simp only[ab9,a1b,List.getElem?_toArray];cases fs.toList[i]? <;> rfl
    refine⟨.agg cells',w,?_,?_⟩
    ·have:=run_build w t ((parts.toList.map fun q=>(q.1,a.eval q.2)).toArray) cells' (by simpa using hb);simp only[execOp,hop,a1j];rw[show (parts.map fun x=>match x with|(i,x)=>(i,a.eval x))=(parts.toList.map fun q=>(q.1,a.eval q.2)).toArray from by apply a2c;simp];rw[this];rfl
    ·refine e9.pure (q:=([],.ag v)) hp hL ?_ qt;simp only[ah];exact⟨cells'.toList,by simp,h2⟩
  ·exact hv.1.elim
theorem bgy{α:Type}(x:α)(n:Nat):ac0 x n=List.replicate n x:=by
 induction n with
 |zero=>rfl
 |succ n ih=>rw[ac0,ih];rfl
theorem bgs{α:Type}(l:List α)(i:Nat)(y:α):aos l i y=l.set i y:=by
 induction l generalizing i with
 |nil=>rfl
 |cons x l ih=>cases i with
  |zero=>rfl
  |succ i=>rw[aos,ih];rfl
theorem bnx{α:Type}(q:α->Bool)(l:List α):bbu q l=true<->∀x∈l,q x=true:=by
 induction l with
 |nil=>simp[bbu]
 |cons x l ih=>simp only[bbu,a0s,forall_eq_or_imp];cases h:q x <;> simp[ih]
def awp(β:Nat->Value)(M:Mem)(Im:Nat->Prop)(w:World)(sz:Nat)(l:List V)(xs:List Value):Prop:=xs.length=l.length*sz/\∀(i:Nat) (v:V),l[i]? = some v->aa β M Im w v ((xs.drop (i*sz)).take sz)
theorem alj(z:Value)(size:Nat)(hzl:z.cells.size=size):∀m,(madeCells z.cells (m*size)).toList=(List.replicate m z.cells.toList).flatten:=by
 intro m;apply a2a;intro j;by_cases hj:j<m*size
 ·have hpos:0<size:=a3p (fun h0=>by rw[h0]at hj;omega);have hmod:=Nat.mod_lt j hpos;have h1:(madeCells z.cells (m*size)).toList[j]? = some (z.cells[j%z.cells.size]!):=by simp[madeCells,hj]
  rw[h1,hzl]
  have key:∀(m j:Nat),j<m*size->((List.replicate m z.cells.toList).flatten)[j]? = some z.cells[j%size]!:=by
   intro m
   induction m with
   |zero=>intro j hj;omega
   |succ m ih=>
    intro j hj;rw[a38,a4p,List.getElem?_append];simp only[a14,hzl];by_cases hjs:j<size
    ·rw[d0 hjs,Nat.mod_eq_of_lt hjs];simp[hzl,hjs,getElem!_pos]
    ·rw[ds hjs,ih (j-size) (by rw[a1q]at hj;omega)];congr 2;rw[←Nat.mod_eq_sub_mod (by omega)]
  rw[key m j hj]
 ·rw[a1p (by simp[madeCells];omega),a1p];simp[hzl];omega
theorem aob{zs:List Value}:∀(n i:Nat),i<n->(((List.replicate n zs).flatten.drop (i*zs.length)).take zs.length)=zs
 |0,i,h=>by omega
 |n+1,0,h=>by simp[a38]
 |n+1,i+1,h=>by rw[a38,a4p,Nat.succ_mul,Nat.add_comm,←a3l,List.drop_left];exact aob n i (by omega)
theorem awp.rep{β:Nat->Value}{Im:Nat->Prop}{v:V}{zs:List Value}(h:aa β M Im w v zs)(n:Nat):awp β M Im w zs.length (ac0 v n) (List.replicate n zs).flatten:=by
 rw[bgy];refine⟨by simp,fun i x hx=>?_⟩;rw[a49]at hx;split at hx
 ·rename_i hi;cases hx;rw[aob n i hi];exact h
 ·cases hx
theorem avh(hp:Hp F p M w){sz:Nat}(f:Operand->V)(g:Operand->Value):(parts:List (Nat×Operand))->(l l':List V)->(cells:Array Value)->(∀q∈parts,ah p.β M (Imm F p M w) w (f q.2) (g q.2))->
  awp p.β M (Imm F p M w) w sz l cells.toList->p8 M sz f parts l=some l'->
  ∃cells',Instr.fill (fun i=>some (i*sz,sz)) cells (parts.map fun q=>(q.1,g q.2))=some cells'/\awp p.β M (Imm F p M w) w sz l' cells'.toList/\l'.length=l.length
 |[],l,l',cells,_,r,h=>by simp only[p8,a0d]at h;subst h;exact⟨cells,rfl,r,rfl⟩
 |(i,x)::parts,l,l',cells,hfg,r,h=>by
  simp only[p8]at h
  cases hb:nob (Nat.ble (Nat.succ i) (len l)) (jx M (f x).cells sz)with
  |false=>rw[hb]at h;cases h
  |true=>
   rw[hb]at h;simp only[a0c]at h;simp only[am,a0a]at hb;have hi:i<l.length:=by have:=a15 hb.1;rw[aol]at this;omega
   have k3:=hb.2;have hc:=ad5 hp (hfg (i,x) (by simp)) (acl (ld k3));have hn:=u4 hp _ _ _ hc (ld k3);obtain⟨r1,r2⟩:=r;have hle:i*sz+sz<=l.length*sz:=by have:=a1z sz (show i+1<=l.length from hi);rw[a1q]at this;omega
   simp only[a14]at hn r1;obtain⟨cells1,c1,c2⟩:=azs (place:=fun i=>some (i*sz,sz)) (cells:=cells) (i:=i) (v:=g x) (vals:=parts.map fun q=>(q.1,g q.2)) (off:=i*sz) (n:=sz) rfl hn (by omega)
   have hr1:awp p.β M (Imm F p M w) w sz (aos l i (f x).cells) cells1.toList:=by
    rw[bgs,c1];refine⟨?_,fun j v hj=>?_⟩
    ·unfold d3;simp[hn];omega
    ·rw[bfl (n:=l.length) (by simpa using r1) hi (by simpa using hn)];rw[a3m]at hj;by_cases e:j=i
     ·subst e;rw[d0 rfl,d0 hi]at hj;cases hj;rw[d0 rfl];exact hc
     ·rw[ds (a0w e)]at hj;rw[ds e];exact r2 j v hj
   obtain⟨cells',e1,e2,e3⟩:=avh hp f g parts _ l' cells1 (fun q hq=>hfg q (by simp[hq])) hr1 h;exact⟨cells',by rw[a05,c2];exact e1,e2,by rw[e3,bgs,a1h]⟩
theorem az8{k:Nat}{o:Option Ob}(h:go M' k=none\/go M' k=o)(ho:o=none):go M' k=none:=by rcases h with h|h <;> rw[h] <;> exact ho
theorem aih{α:Type}(a:List α):ap a []=a:=by rw[ic];simp
theorem au8(k:Nat)(o:O):(l:List V)->(ev:List Ev)->(M:Mem)->(p:Ow)->(rows:List (List Value))->(xs:List o.strip.den)->(e:List Ev)->(M':Mem)->Hp F p M w->go M k=none->
  rows.length=l.length->(∀(i:Nat) (v:V) (vs:List Value),l[i]? = some v->rows[i]? = some vs->aa p.β M (Imm F p M w) w (v.evs ev) vs)->o6 k o ev l M=some (xs,e,M')->
  ∃e1 p',∃T:Nat->Nat->Prop,e=ap ev e1/\Tr F p M w e1 p' M' w/\go M' k=none/\xs.length=l.length/\(∀b,p'.L b<->p.L b\/∃i,T i b)/\(∀i b,T i b->¬p.L b)/\(∀i j b,i≠j->T i b->¬T j b)/\
   (∀(i:Nat) (x:o.strip.den) (vs:List Value),xs[i]? = some x->rows[i]? = some vs->Rel (Imm F p' M' w) w o x (T i) vs)/\((e1=[]/\M'=M/\p'=p)\/∃x r,e1=x::r/\fm M [x]=false)
 |[],ev,M,p,rows,xs,e,M',h,hk,hl,hr,hc=>by simp only[o6,a0d,a0j]at hc;obtain⟨rfl,rfl,rfl⟩:=hc;exact⟨[],p,fun _ _=>False,(aih ev).symm,Tr.refl h,hk,rfl,fun b=>by simp,fun i b hb=>hb.elim,fun i j b _ hb=>hb.elim,fun i x vs hx=>by simp at hx,.inl ⟨rfl,rfl,rfl⟩⟩
 |v::r,ev,M,p,rows,xs,e,M',h,hk,hl,hr,hc=>by
  simp only[o6]at hc;split at hc
  ·rename_i x e0 M1 hc1;split at hc
   ·rename_i l1 e2 M2 hc2;simp only[a0d,a0j]at hc;obtain⟨rfl,rfl,rfl⟩:=hc
    cases rows with
    |nil=>simp at hl
    |cons vs rows=>
     obtain⟨g,p1,S,cv⟩:=bdi h k o (v.evs ev) vs x e0 (hr 0 v vs rfl rfl) hc1;have hk1:go M1 k=none:=az8 g hk;obtain⟨e1,p',T,i1,i2,i3,i4,i5,i6,i7,i8,i9⟩:=au8 k o r (ap ev e0) M1 p1 rows l1 _ _ cv.tr.hp hk1 (by simpa using hl) (fun i v' vs' hv' hvs'=>by rw[zz];exact cv.tr.c _ _ (hr (i+1) v' vs' (by simpa using hv') (by simpa using hvs'))) hc2;refine⟨ap e0 e1,p',fun i=>match i with|0=>S|i+1=>T i,by rw[i1];simp only[ic,a07],cv.tr.trans i2,i3,by simp[i4],fun b=>?_,fun i b hb=>?_,fun i j b hij hb=>?_,fun i x' vs' hx hvs=>?_,?_⟩
     ·rw[i5,cv.L];constructor
      ·rintro ((h1|h1)|⟨i,h1⟩)
       ·exact .inl h1
       ·exact .inr ⟨0,h1⟩
       ·exact .inr ⟨i+1,h1⟩
      ·rintro (h1|⟨i,h1⟩)
       ·exact .inl (.inl h1)
       ·cases i with
        |zero=>exact .inl (.inr h1)
        |succ i=>exact .inr ⟨i,h1⟩
     ·cases i with
      |zero=>exact cv.sp b hb
      |succ i=>exact fun hL=>i6 i b hb ((cv.L b).2 (.inl hL))
     ·cases i with
      |zero=>
       cases j with
       |zero=>exact absurd rfl hij
       |succ j=>exact fun hb'=>i6 j b hb' ((cv.L b).2 (.inr hb))
      |succ i=>
       cases j with
       |zero=>exact fun hb'=>i6 i b hb ((cv.L b).2 (.inr hb'))
       |succ j=>exact i7 i j b (fun e=>hij (by rw[e])) hb
     ·cases i with
      |zero=>simp only[a1s,a0d]at hx hvs;subst hx;subst hvs;exact Rel.keep i2.keep _ _ _ _ (fun _ _=>rfl) cv.rel
      |succ i=>exact i8 i x' vs' (by simpa using hx) (by simpa using hvs)
     ·rcases cv.fr with⟨rfl,rfl,rfl⟩|⟨y,ry,rfl,hy⟩
      ·exact i9
      ·exact .inr ⟨y,ap ry e1,rfl,hy⟩
   ·cases hc
  ·cases hc
theorem aie(e:List Ev):∀(l:List V) (i:Nat),(rn e l)[i]? = (l[i]?).map fun v=>v.evs e
 |[],i=>by simp[rn]
 |v::l,0=>by simp[rn]
 |v::l,i+1=>by simp only[rn,a2h];exact aie e l i
theorem xm(e:List Ev):∀l:List V,(rn e l).length=l.length
 |[]=>rfl
 |v::l=>by simp[rn,xm e l]
def abb(sz n:Nat)(xs:List Value):List (List Value):=(List.range n).map fun i=>(xs.drop (i*sz)).take sz
theorem bh6(sz n:Nat)(xs:List Value):(abb sz n xs).length=n:=by simp[abb]
theorem bjc{sz n i:Nat}{xs vs:List Value}(h:(abb sz n xs)[i]? = some vs):vs=(xs.drop (i*sz)).take sz:=by
 unfold abb at h;rw[a1b]at h;by_cases hi:i<n
 ·rw[a2g hi]at h;simpa using h.symm
 ·rw[a1p (by simpa using hi)]at h;cases h
theorem bdm{n:Nat}(h:n<=nb):n<=maxLen:=by unfold nb at h;unfold maxLen;omega
theorem bni(hB:TabOk P B)(h:Hp F p M w)(hL:∀b,¬p.L b){t:TypeId}{n:Nat}{parts:Array (Nat×Operand)}(f:Operand->V)(hf:∀q∈parts.toList,ah p.β M (Imm F p M w) w (f q.2) (a.eval q.2))(o:Option Nat)(hv:ab (abr B t n (toL parts) f o M).vc)(qt:Bool){op:Oper}(hop:op.op=.buildSlice t n parts) :
  ∃v w',(execOp a.eval op).run P w=.ok (.value v) w'/\e9 F p M w qt (abr B t n (toL parts) f o M) v w':=by
 unfold abr at hv⊢;split at hv
 ·rename_i k e he;split at hv
  ·rename_i l hl
   cases hk:bg [(B.τ t).ok,(B.τ e).ok,B.z e,Nat.ble (Nat.mul n (B.τ e).size) 16777216,Nat.ble n nb,dz (B.σ e).size (B.τ e).size]with
   |false=>rw[hk]at hv;exact hv.1.elim
   |true=>
    simp only[hl,hk,a0c]at hv⊢;simp only[au,bh,a0k,a0a,fe,a0t]at hk;obtain⟨k1,k2,k3,k4,k5,k6⟩:=hk;replace k4:=a15 k4;replace k5:=a15 k5;have eτ:=hB.τ t k1;have eτ':=hB.τ e k2;obtain⟨infe,z,hie,hz,h0⟩:=aek hB k3;rw[←eτ']at k2 k4 k6 hl;rw[←eτ]at k1 he;obtain⟨inf,u,hi,hu⟩:=dl k1;obtain⟨infe',ue,hie',hue⟩:=dl k2;rw[hie]at hie';cases hie';rw[gp hi hu]at he;rw[gp hie hue]at k4 k6 hl;simp only[nw]at he k4 k6 hl;cases u <;> simp at he;obtain rfl:=he.symm;obtain⟨z1,z2⟩:=acb (Im:=Imm F p M w) (w:=w) (B.σ e) _ h0;have hzl:z.cells.size=infe.size:=by have:=Rel.len _ _ _ _ z1;rw[afu,k6]at this;simpa using this
    have hrep:=awp.rep (z2 p.β M) n;rw[←alj z infe.size hzl n,show z.cells.toList.length=infe.size by simpa using hzl]at hrep;rw[dh]at hl;obtain⟨cells',c1,c2,c3⟩:=avh h f a.eval parts.toList _ l (madeCells z.cells (n*infe.size)) hf hrep hl;have hln:l.length=n:=by rw[c3,bgy,a4q]
    have hrun:(execOp a.eval op).run P w=.ok (.value (.slice (some ⟨w.heap.size,0,none⟩) n n)) (w.alloc (.cells cells' e)):=by
     have h1':Instr.fill (fun i=>some (i*infe.size,infe.size)) ((Array.range (n*infe.size)).map fun x=>z.cells[x%z.cells.size]!) (parts.map fun x=>match x with|(i,x)=>(i,a.eval x)).toList=some cells':=by rw[←c1];simp[madeCells]
     have k4':n*infe.size<=16777216:=k4;have hsmall:¬(16777216<n*infe.size):=by omega
     by_cases h0:n*infe.size=0
     ·simp only[execOp,hop,Instr.buildSlice,a0y hu,sizeOf,typeInfo,run_program,hie,a1j,a2m,a1r,Sem.run_ite,h0,a01];rw[h0]at h1';simp only[show (Array.range 0).map (fun x=>(#[]:Array Value)[x%(#[]:Array Value).size]!)=(Array.range 0).map fun x=>z.cells[x%z.cells.size]! from by simp,h1'];simp[newRow]
     ·simp[execOp,hop,Instr.buildSlice,a0y hu,sizeOf,typeInfo,hie,hsmall,h0,zeroValue,hz,newRow];simp at h1';simp[h1']
    have hgrow:w.grownBy (w.alloc (.cells cells' e)) none:=a36 w _ none
    have hown:(w.alloc (.cells cells' e)).ownsRow 0 e infe.size (.slice (some ⟨w.heap.size,0,none⟩) n n) n cells'.toList:=by
     have hsz:cells'.size=n*infe.size:=by have:=c2.1;rw[hln]at this;simpa using this
     exact⟨by simpa using hsz,.inr ⟨w.heap.size,n,cells',rfl,a09 _,a20 w _,a0f _,bdm k5,hsz,a29 (by simp[hsz])⟩⟩
    have hroot:∀b,jz (.slice (some ⟨w.heap.size,0,none⟩) n n)=some b->w.heap.size<=b/\b<(w.alloc (.cells cells' e)).heap.size:=fun b hb=>by have hb:=avc hb;subst hb;exact⟨a0f _,(a03.1 (a20 w _)).1⟩
    have hrel:∀(i:Nat) (v:V) (vs:List Value),(rn [.kl k] l)[i]? = some v->(abb infe.size n cells'.toList)[i]? = some vs->aa p.β (del k M) (Imm F p (del k M) w) w (v.evs []) vs:=fun i v vs hv hvs=>by
     rw[aie]at hv
     cases hli:l[i]? with
     |none=>rw[hli]at hv;cases hv
     |some v0=>rw[hli]at hv;cases hv;rw[bjc hvs];exact (Tr.kl h k).c _ _ (c2.2 i v0 hli)
    have key:∀(oo:O) (x:List oo.strip.den) (ev:List Ev) (M':Mem),o6 k oo [] (rn [.kl k] l) (del k M)=some (x,ev,M')->oo.size=infe.size->
      e9 F p M w qt ⟨[],.ref k [],.kl k::ev,(k,⟨.sl oo,x⟩)::M'⟩ (.slice (some ⟨w.heap.size,0,none⟩) n n) (w.alloc (.cells cells' e)):=fun oo x ev M' hcv hos=>by
     obtain⟨e1,p',T,i1,i2,i3,i4,i5,i6,i7,i8,i9⟩:=au8 k oo _ [] (del k M) p (abb infe.size n cells'.toList) x ev M' (aog h k) (cy k M) (by rw[bh6,xm,hln]) hrel hcv;simp only[ap]at i1;subst i1;have hxl:x.length=n:=by rw[i4,xm,hln]
     refine bf8 h k i2 i3 ⟨hgrow,a0f _⟩ (ety:=e) (xs:=cells'.toList) (T:=T) (by rw[hxl,hos];exact hown) hroot (by rw[hxl];exact k5) (fun i c hc=>(i5 c).2 (.inr ⟨i,hc⟩)) i7 (fun i y hy=>?_) i9 qt;rw[hos];have hi:i<n:=by rw[←hxl];exact (a1k.1 hy).1
     exact i8 i y _ hy (by unfold abb;rw[a1b,a2g hi];rfl)
    refine⟨_,_,hrun,?_⟩;split at hv
    ·rename_i hnil;have hn:n=0:=by have:=congrArg List.length hnil;rw[xm,hln]at this;simpa using this
     subst hn;refine⟨p,Tr.ext h (Ext.of_grown hgrow (a0f _)),hL,?_,fun _ _=>⟨Ext.of_grown hgrow (a0f _),fun j ob hj=>⟨hj,rfl,rfl⟩⟩⟩;unfold bjv;split
     ·rename_i e' _;rw[bd];simp only[ai];refine .inr ⟨[],_,_,_,rfl,rfl,_,0,rfl,⟨a09 _,a0f _⟩,fun _=>⟨rfl,rfl⟩,fun a ha hpos=>absurd hpos (a31 0)⟩
     ·simp only[ah,aa];exact⟨_,rfl⟩
    ·rename_i v r hcons;split at hv
     ·rename_i q e0 M0 hcv0;split at hv
      ·rename_i x ev M' hcv;refine key q.o x ev M' (by rw[hcons];exact hcv) ?_
       have hr0:=hrel 0 v ((abb infe.size n cells'.toList).headD []) (by rw[hcons];rfl) (by
        have hn:0<n:=by have:=congrArg List.length hcons;rw[xm,hln]at this;simp at this;omega
        cases n with
        |zero=>omega
        |succ n=>simp[abb,List.range_succ_eq_map])
       simp only[V.evs]at hr0;obtain⟨g,p',S,cv⟩:=ad4 k (B.σ e) v (del k M) p _ q e0 M0 (aog h k) hr0 hcv0;have h1:=Rel.len _ _ _ _ cv.rel;rw[←h1];have hn:0<n:=by have:=congrArg List.length hcons;rw[xm,hln]at this;simp at this;omega
       have hcl:cells'.toList.length=n*infe.size:=by rw[c2.1,hln]
       have hle:infe.size<=n*infe.size:=Nat.le_mul_of_pos_left _ hn
       cases n with
       |zero=>omega
       |succ n=>simp[abb,List.range_succ_eq_map];rw[a14]at hcl;omega
      ·split at hv
       ·rename_i x ev M' hcv;exact key (.fz (B.σ e)) x ev M' (by rw[hcons];exact hcv) (by simp only[O.size,O.strip];exact k6)
       ·exact hv.1.elim
     ·exact hv.1.elim
  ·exact hv.1.elim
 ·exact hv.1.elim
theorem azt{zs:List Value}:∀(c n:Nat),n<=c->(List.replicate c zs).flatten.take (n*zs.length)=(List.replicate n zs).flatten
 |_,0,_=>by simp
 |0,n+1,h=>by omega
 |c+1,n+1,h=>by rw[a38,a4p,a38,a4p,Nat.succ_mul,Nat.add_comm,List.take_length_add_append,azt c n (by omega)]
theorem bqd{nl nc:Int}{b:Nat}(h:0<=nl/\nl<=nc/\nc<=(nb:Int)/\nc*(b:Int)<=(nb:Int)):∃n c:Nat,nl=n/\nc=c/\n<=c/\c<=nb/\c*b<=nb:=by
 obtain⟨h1,h2,h3,h4⟩:=h;obtain⟨n,rfl⟩:=Int.eq_ofNat_of_zero_le h1;obtain⟨c,rfl⟩:=Int.eq_ofNat_of_zero_le (Int.le_trans h1 h2);refine⟨n,c,rfl,rfl,by omega,by omega,?_⟩;have:((c*b:Nat):Int)<=(nb:Int):=by rw[Int.natCast_mul];exact h4
 omega
theorem bj6(hB:TabOk P B)(h:Hp F p M w)(hL:∀b,¬p.L b){t:TypeId}{l c:Operand}(x y:V)(hx:ah p.β M (Imm F p M w) w x (a.eval l))(hy:ah p.β M (Imm F p M w) w y (a.eval c))(o:Option Nat)(hv:ab (ap0 B t x y o M).vc)(qt:Bool){op:Oper}(hop:op.op=.makeSlice t l c) :
  ∃v w',(execOp a.eval op).run P w=.ok (.value v) w'/\e9 F p M w qt (ap0 B t x y o M) v w':=by
 unfold ap0 at hv⊢;split at hv
 ·rename_i k e kl nl kc nc he
  cases hk:bg [(B.τ t).ok,(B.τ e).ok,B.z e,dz (B.σ e).size (B.τ e).size]with
  |false=>rw[hk]at hv;exact hv.1.elim
  |true=>
   simp only[he,hk,a0c,cr,da,a0b]at hv⊢;simp only[au,bh,a0k,a0a,fe,a0t]at hk;obtain⟨k1,k2,k3,k4⟩:=hk;simp only[bd,c9]at hx hy;have eτ:=hB.τ t k1;have eτ':=hB.τ e k2;obtain⟨infe,z,hie,hz,h0⟩:=aek hB k3;rw[←eτ']at k2 k4;simp only[←eτ']at hv;rw[←eτ]at k1 he;obtain⟨inf,u,hi,hu⟩:=dl k1;obtain⟨infe',ue,hie',hue⟩:=dl k2;rw[hie]at hie';cases hie';rw[gp hi hu]at he;rw[gp hie hue]at k4;simp only[gp hie hue]at hv;simp only[nw]at he hv k4;cases u <;> simp at he;obtain rfl:=he.symm;obtain⟨n,c',rfl,rfl,v2,v3,v4⟩:=bqd hv;obtain⟨z1,z2⟩:=acb (Im:=Imm F p (del k M) w) (w:=w) (B.σ e) _ h0;have hzl:z.cells.toList.length=infe.size:=by have h1:=Rel.len _ _ _ _ z1;rw[afu,k4]at h1;exact h1
   have hbytes:(infe.bytes:Int)*((c':Nat):Int)<=281474976710656:=by
    have:((c'*infe.bytes:Nat):Int)<=281474976710656:=by have:=v4;simp only[nb]at this;omega
    rw[Int.natCast_mul,Int.mul_comm]at this;exact this
   have hr:=run_make (P:=P) w t e infe z hu hie hz kl kc (n:Int) (c':Int) (by omega) (by omega) hbytes (by have:=v3;simp only[nb]at this;omega);simp only[a0m]at hr;have hown:(w.alloc (.cells (madeCells z.cells (c'*infe.size)) e)).ownsRow 0 e infe.size (.slice (some ⟨w.heap.size,0,none⟩) n c') n (List.replicate n z.cells.toList).flatten:=by refine⟨by simp[←hzl],.inr ⟨w.heap.size,c',_,rfl,a09 _,a20 w _,v2,bdm v3,size_madeCells _ _,?_⟩⟩;rw[alj z infe.size (by simpa using hzl),←hzl];exact azt c' n v2
   have hd:=bf8 h k (e0:=[]) (o:=(B.σ e).deep) (l:=List.replicate n (B.σ e).deep.dflt) (T:=fun _ _=>False) (Tr.refl (aog h k)) (cy k M) ⟨a36 w (.cells (madeCells z.cells (c'*infe.size)) e) none,a0f _⟩
    (ety:=e) (v:=.slice (some ⟨w.heap.size,0,none⟩) n c') (xs:=(List.replicate n z.cells.toList).flatten) (by rw[a4q,afu,k4];exact hown)
    (fun b hb=>by have hb:=avc hb;subst hb;exact⟨a0f _,(a03.1 (a20 w _)).1⟩) (by rw[a4q];omega) (fun i c hc=>hc.elim) (fun i j c _ hc=>hc.elim)
    (fun i x hx=>by
     rw[a49]at hx;split at hx
     ·rename_i hi;cases hx;rw[show (B.σ e).deep.size=z.cells.toList.length by rw[afu,k4,hzl],aob n i hi];exact z1
     ·cases hx) (.inl ⟨rfl,rfl,rfl⟩) qt
   refine⟨_,_,?_,hd⟩;simp[execOp,hop,hx.1,hy.1,hr]
 ·exact hv.1.elim
end
end Go.Bm
/- The du machine:stores. -/
namespace Go.Bm
open Go.RowKit
section
variable {F:Fr} {p p' p'':Ow} {env:Env} {M M' M'':Mem} {a:Act} {w w' w'':World} {P:Program} {B:Tab}
theorem bmf{π:bq}{ob ob2:Ob}{c:Prop}(h:biy π ob=some (c,ob2)):∃(p0:bq) (i:Nat) (e:O) (l:List (Option e.strip.den)),ug π=some (p0,i)/\get p0 ob.o ob.x=some ⟨.sl (.op e),l⟩/\c=(bh8 l=true)/\set p0 ob.o ob.x ⟨.sl e,asb e.dflt l⟩=some ob2:=by
 unfold biy at h;split at h
 ·rename_i p0 i hx;split at h
  ·rename_i e l hq;split at h
   ·rename_i o2 hs;simp only[a0d,a0j]at h;obtain⟨rfl,rfl⟩:=h;exact⟨p0,i,e,l,hx,hq,rfl,hs⟩
   ·cases h
  ·cases h
 ·cases h
theorem bhr(hB:TabOk P B)(h:Hp F p M w)(hL:∀b,¬p.L b){t:TypeId}{x0 y0:Operand}(x y:V)(hx:ah p.β M (Imm F p M w) w x (a.eval x0))(hy:ah p.β M (Imm F p M w) w y (a.eval y0))(hv:ab (aee B t x y M).vc){op:Oper}(hop:op.op=.store t x0 y0) :
  ∃w',(execOp a.eval op).run P w=.ok .skip w'/\e9 F p M w false (aee B t x y M) undef w':=by
 unfold aee at hv⊢;split at hv
 ·rename_i k π;split at hv
  ·rename_i ob q hob hq
   cases hk:bg [(B.τ t).ok,jx M y.cells (B.τ t).size,dz q.o.strip.size (B.τ t).size,neg (isZ (B.τ t).size)]with
   |false=>rw[hk]at hv;exact hv.1.elim
   |true=>
    simp only[hk,a0c]at hv⊢;simp only[au,bh,a0k,a0a,fe,a0t]at hk;obtain⟨k1,k2,k3,k4⟩:=hk;split at hv
    ·rename_i z e M' hcv;split at hv
     ·rename_i obx ob' hgx hset
      cases hz:dz z.o.strip.size (B.τ t).size with
      |false=>rw[hz]at hv;exact hv.1.elim
      |true=>
       simp only[hz,a0c]at hv⊢;simp only[fe,a0t]at hz;have hcy:=ad5 h hy (acl (ld k2));have hny:=u4 h _ _ _ hcy (ld k2)
       have hcvo:(go M' k=none\/go M' k=go M k)/\∃p1 S,Cv F p M w k z e (a.eval y0).cells.toList p1 M' S:=by
        cases hix:ahf π with
        |true=>
         rw[hix]at hcv;simp only[a0c]at hcv;split at hcv
         ·rename_i z' e' M1 hcw;cases hcv;exact bdi h k q.o _ _ z' e hcy hcw
         ·cases hcv
        |false=>rw[hix]at hcv;simp only[a0g]at hcv;obtain⟨g,r⟩:=ad4 k (B.σ t) _ M p _ z e M' h hcy hcv;exact⟨.inr g,r⟩
       obtain⟨g,p1,S,cv⟩:=hcvo
       have hgk:go M' k=some ob:=by
        rcases g with g|g
        ·rw[g]at hgx;cases hgx
        ·rw[g,hob]
       have hp1:=cv.tr.hp;simp only[ah,aa,a0i,a0b,exists_eq_left']at hx;have hx1:Adr p1.β M' w k π (a.eval x0):=hx.same h (by rw[hgk,hob]) (by rw[cv.β]) (fun _ _ _=>rfl);obtain⟨ob2,us0,b,off,j1,j2,j3,j4,j5,j6⟩:=hx1;rw[hgk]at j1;cases j1;obtain⟨ob3,q1,q2⟩:=qc hq;rw[hob]at q1;cases q1;obtain⟨us,pl,S',e1,e2,e3,e4,e5,e6⟩:=look hp1 hgk j2 q2;rw[e1]at j5;simp only[a0d,a0j]at j5;obtain⟨rfl,rfl⟩:=j5;obtain⟨b0,off0,cur,ty',c1,c2,c3,c4,c5⟩:=e4 j4;simp only[a0d,a0j]at c1;obtain⟨rfl,rfl⟩:=c1;have hlen:us.length=(a.eval y0).cells.toList.length:=by rw[Rel.len _ _ _ _ e3,hny];exact k3
       have hpos:0<us.length:=by
        rw[hlen,hny]
        cases hs:(B.τ t).size with
        |zero=>rw[hs]at k4;simp[isZ]at k4
        |succ n=>omega
       have hfit:off+us.length<=cur.size:=by have:=c5 (us.length-1) us[us.length-1] (a0o (by omega));have:=(a03.1 this).1;omega
       have hone:=aa.one h _ _ hcy;have hrun:=run_storeCells_at P b off ty' (a.eval y0).cells.toList 0 cur w c4 (by rw[←hlen];omega) hone;simp only[a21]at hrun;generalize hw':w.setRow b (cur.toList.take off++(a.eval y0).cells.toList++cur.toList.drop (off+(a.eval y0).cells.toList.length)).toArray=w' at hrun;have hchg:Chg w w' (fun c=>cm π=true/\∃o,some (b,off)=some (c,o)):=by subst hw';refine⟨rfl,⟨rfl,a0f _⟩,rfl,by simp,fun c hc=>setRow_other w b c _ (fun e=>hc ⟨j4,off,by rw[e]⟩)⟩
       have hblk:w'.heap[b]? = some (.cells (d3 cur.toList off (a.eval y0).cells.toList).toArray ty' (0,0)):=by subst hw';rw[setRow_heap w b cur _ ty' _ c4];simp only[d3]
       have hput:=Tr.put (L':=fun _=>False) (us':=(a.eval y0).cells.toList) (S'':=S) hp1 hgk e2 e4 e6 hset (by simp only[O.size];rw[hz,k3]) (nq _ _ _ _ j4) hchg
        (fun _ b' off' hp cur' ty'' hc'=>by simp only[a0d,a0j]at hp;obtain⟨rfl,rfl⟩:=hp;rw[c4]at hc';cases hc';exact hblk) (fun c hc=>.inl ((cv.L c).2 (.inr hc))) (fun c hc=>hc.elim) (fun hc=>hc.choose_spec.1.elim)
        (fun hkp=>Rel.keep hkp _ _ _ _ (fun c hc=>hchg.old c (fun⟨_,o,e⟩=>by simp only[a0d,a0j]at e;obtain⟨rfl,_⟩:=e;exact (hp1.lim b ((cv.L b).2 (.inr hc))).2.2 k (bo hgk) c2)) cv.rel)
       have hgoal:(execOp a.eval op).run P w=.ok .skip w':=by
        have eτ:=hB.τ t k1;rw[←eτ]at k1 hny;obtain⟨inf,ud,hi,hu⟩:=dl k1;rw[gp hi hu]at hny;simp only[nw]at hny;have hsz:(a.eval y0).cells.size=inf.size:=by simpa using hny
        simp[execOp,hop,Instr.storeAt,Instr.sureAddr,j6,storeVar,sizeOf,typeInfo,hi,hsz,hrun]
       cases hcl:biy π ob' with
       |none=>exact⟨w',hgoal,_,cv.tr.trans hput,fun b hb=>hb,by simp only[ah],fun _ hq=>by cases hq⟩
       |some co=>obtain⟨c,ob2⟩:=co;simp only[hcl,cr,da,a0b]at hv⊢;obtain⟨p5,i5,e5,l5,x1,x2,rfl,x3⟩:=bmf hcl;obtain⟨g1,_,_,_⟩:=ax7 π ob'.o ob'.x p5 i5 _ x1 x2;obtain⟨p6,hL6,hlab⟩:=Tr.relP hput.hp (mq ob' M' (bo hgk)) g1 x2 x3 rfl (fun Im S vs r=>bqq e5.dflt hv r);rw[bf6]at hlab;exact⟨w',hgoal,p6,cv.tr.trans (hput.trans hlab),fun b hb=>(hL6 b).1 hb,by simp only[ah],fun _ hq=>by cases hq⟩
     ·exact hv.1.elim
    ·exact hv.1.elim
  ·exact hv.1.elim
 ·exact hv.1.elim
end
end Go.Bm
/- The du machine:appending. -/
namespace Go.Bm
open Go.RowKit
def Sr(w:World)(sz:Nat)(u:Value)(m:Nat)(news:List Value):Prop:=news.length=m*sz/\((u=.slice none 0 0/\m=0)\/∃a c,u=.slice (some a) m c/\∀(j:Nat) (x:Value),news[j]? = some x->w.cell? (a.add j)=some x)
theorem aty{w:World}{g off n sz:Nat}{cur:Array Value}{ety:TypeId}{xs:List Value}(hg:w.heap[g]? = some (.cells cur ety (0,0)))(ht:(cur.toList.drop off).take (n*sz)=xs) :
  ∀(j:Nat) (u:Value),xs[j]? = some u->w.cell? ((⟨g,off,none⟩:Addr).add j)=some u:=fun j u hu=>by
 rw[a2u,a19 w g _ cur ety (0,0) hg];rw[←ht,a1e]at hu;split at hu
 ·rw[a1c]at hu;simpa using hu
 ·cases hu
theorem aln{P:Program}(w:World)(t ty e ety:TypeId)(i:TypeInfo)(z:Value)(ht:P.underlying t=some (.slice e))(hi:P.info? e=some i)(hz:i.zero=some z)(hzs:z.cells.size=i.size)
  (v u:Value) (n m:Nat) (xs news:List Value) (hown:ve w ety i.size v n xs) (hsr:Sr w i.size u m news) (h1:∀x∈news,x.oneCell'=true) (hb0:i.bytes≠0) (hbytes:(n+m)*i.bytes<=nb) :
  ∃v' w' ety',(Builtin.append_ #[t,t] ty #[v,u]).run P w=.ok v' w'/\ve w' ety' i.size v' (n+m) (xs++news)/\(w.grownBy w' (jz v)/\w.drawn<=w'.drawn)/\
   (∀b,jz v'=some b->(jz v=some b\/w.heap.size<=b)/\b<w'.heap.size):=by
 have h63:n+m<=maxLen:=by refine bdm (a08 ?_ hbytes);exact a4r _ (a3p hb0)
 have hsmall:n+m<=9223372036854775807:=by simp only[maxLen]at h63;omega
 obtain⟨hl,hsr⟩:=hsr;have hlen:(xs++news).length=(n+m)*i.size:=by rw[a0q,hown.1,hl,a1q]
 rcases hsr with⟨rfl,rfl⟩|⟨a,c,rfl,hnews⟩
 ·have hn:news=[]:=a11 (by simpa using hl);subst hn;refine⟨v,w,ety,?_,by simpa using hown,⟨⟨rfl,rfl,rfl,a0f _,fun _ _ _=>rfl⟩,a0f _⟩,fun b hb=>⟨.inl hb,?_⟩⟩
  ·rcases hown.2 with⟨rfl,oa,rfl⟩|⟨g,off,cap,cur,rfl,_,hnc,_⟩
   ·cases oa <;> simp[Builtin.append_,a0y ht,sizeOf,typeInfo,hi,Builtin.lenOf,Builtin.firstCells,storeCells]
   ·simp[Builtin.append_,a0y ht,sizeOf,typeInfo,hi,Builtin.lenOf,Builtin.firstCells,hnc,storeCells]
  ·rcases hown.2 with⟨rfl,oa,rfl⟩|⟨g,off,cap,cur,rfl,hg,_⟩
   ·cases oa <;> cases hb
   ·simp only[jz,a0d]at hb;subst hb;exact (a03.1 hg).1
 have grown:∀(old:Nat) (row:Option Nat),
   (w.drew.alloc (.cells (xs.toArray++news.toArray++Builtin.zeroCells z.cells (grownCap w (n+m) old e-(n+m))) e)).ownsRow 0 e i.size
    (.slice (some ⟨w.heap.size,0,none⟩) (n+m) (grownCap w (n+m) old e)) (n+m) (xs++news)/\
   w.grownBy (w.drew.alloc (.cells (xs.toArray++news.toArray++Builtin.zeroCells z.cells (grownCap w (n+m) old e-(n+m))) e)) row:=by
  intro old row;have hge:=grownCap_ge w (n+m) old e;have hcm:grownCap w (n+m) old e<=maxLen:=grownCap_le_maxLen w (n+m) old e h63;refine⟨⟨hlen,.inr ⟨w.heap.size,_,_,rfl,a09 _,a20 w.drew _,hge,hcm,?_,?_⟩⟩,⟨rfl,rfl,rfl,by simp,fun k hk _=>Below.heap_alloc w.drew _ k hk⟩⟩
  ·simp only[Array.size_append,List.size_toArray,size_zeroCells,hzs,hown.1,hl,←a1q];congr 1;omega
  ·simp only[Array.toList_append,a07];rw[←a07,←hlen];exact a4k
 have rt:∀(N K b:Nat),jz (.slice (some ⟨w.heap.size,0,none⟩) N K)=some b->b=w.heap.size:=fun N K b hb=>by
  cases K with
  |zero=>cases hb
  |succ k=>simp only[jz,a0d]at hb;exact hb.symm
 rcases hown.2 with⟨rfl,oa,rfl⟩|⟨g,off,cap,cur,rfl,hg,hnc,hcm,hcs,htake⟩
 ·have hx:xs=[]:=a11 (by simpa using hown.1);subst hx;by_cases hm:m=0
  ·subst hm;have hn:news=[]:=a11 (by simpa using hl);subst hn;refine⟨.slice oa 0 0,w,ety,?_,hown,⟨⟨rfl,rfl,rfl,a0f _,fun _ _ _=>rfl⟩,a0f _⟩,fun b hb=>by cases oa <;> cases hb⟩;cases oa <;> simp[Builtin.append_,a0y ht,sizeOf,typeInfo,hi,Builtin.lenOf,Builtin.firstCells,loadCells,loadCellsFrom,storeCells]
  ·cases oa with
   |none=>have hr:=run_append_nil (P:=P) w t ty e i z ht hi hz a m c news hl hnews (by omega) (by omega) (by have hb:=hbytes;simp only[a1w,nb]at hb;omega);have hgr:=grown 0 (jz (.slice none 0 0));simp only[a1w,a2s,Array.empty_append]at hgr⊢;exact⟨_,_,e,hr,awg hgr.1,⟨hgr.2,a2v _⟩,fun b hb=>by have:=rt _ _ _ hb;subst this;exact⟨.inr (a0f _),by simp⟩⟩
   |some a0=>have hr:=run_append_grow (P:=P) w t ty e i z ht hi hz a0 0 0 [] (by simp) (fun j u hu=>by simp at hu) a m c news hl hnews (by omega) (by omega) (growslice_fits (by omega) (by simpa only [nb]using hbytes));have hgr:=grown 0 (jz (.slice (some a0) 0 0));exact⟨_,_,e,hr,awg hgr.1,⟨hgr.2,a2v _⟩,fun b hb=>by have:=rt _ _ _ hb;subst this;exact⟨.inr (a0f _),by simp⟩⟩
 ·by_cases hroom:n+m<=cap+1
  ·have hfit:off+n*i.size+news.length<=cur.size:=by rw[hl,hcs,a3k,←a1q];exact Nat.add_le_add_left (a1z _ hroom) _
   have hr:(Builtin.append_ #[t,t] ty #[.slice (some ⟨g,off,none⟩) n (cap+1),.slice (some a) m c]).run P w =
     .ok (.slice (some ⟨g,off,none⟩) (n+m) (cap+1)) (w.setRow g (cur.toList.take (off+n*i.size)++news++cur.toList.drop (off+n*i.size+news.length)).toArray):=by
    have hf:=run_firstCells_some (P:=P) w i.size m a m c news hl hnews;have hst:=run_storeCells_at P g (off+n*i.size) ety news 0 cur w hg (by simpa using hfit) h1;simp only[a21]at hst;simp[Builtin.append_,a0y ht,sizeOf,typeInfo,hi,Builtin.lenOf,hroom,hf,a2u,hst]
   have hgrow:w.grownBy (w.setRow g (cur.toList.take (off+n*i.size)++news++cur.toList.drop (off+n*i.size+news.length)).toArray) (jz (.slice (some ⟨g,off,none⟩) n (cap+1))):=⟨rfl,rfl,rfl,by simp,fun k _ hk=>setRow_other w g k _ (fun e=>hk (by simp[jz,e]))⟩;refine⟨_,_,ety,hr,⟨hlen,.inr ⟨g,off,cap,_,rfl,setRow_heap w g cur _ ety _ hg,hroom,hcm,?_,?_⟩⟩,⟨hgrow,a0f _⟩,fun b hb=>?_⟩
   ·simp only[List.size_toArray,a0q,a1d,a1n,a14];omega
   ·have hd:(cur.toList.take (off+n*i.size)++news++cur.toList.drop (off+n*i.size+news.length)).drop off=xs++news++cur.toList.drop (off+n*i.size+news.length):=by have hcl:cur.toList.length=cur.size:=a14;rw[a07,a30 (by simp;omega),a4m,show off+n*i.size-off=n*i.size by omega,htake,a07]
    show ((cur.toList.take (off+n*i.size)++news++cur.toList.drop (off+n*i.size+news.length)).drop off).take _=_;rw[hd,←hlen];exact a4k
   ·simp only[jz,a0d]at hb;subst hb;exact⟨.inl rfl,by simpa using (a03.1 hg).1⟩
  ·have holds:=aty hg htake;have hr:=run_append_grow (P:=P) w t ty e i z ht hi hz ⟨g,off,none⟩ n (cap+1) xs hown.1 holds a m c news hl hnews (by omega) (by omega) (growslice_fits (by omega) (by simpa only [nb]using hbytes));have hgr:=grown (cap+1) (jz (.slice (some ⟨g,off,none⟩) n (cap+1)));exact⟨_,_,e,hr,awg hgr.1,⟨hgr.2,a2v _⟩,fun b hb=>by have:=rt _ _ _ hb;subst this;exact⟨.inr (a0f _),by simp⟩⟩
theorem apg{P:Program}(w:World)(t ty e:TypeId)(i:TypeInfo)(ht:P.underlying t=some (.slice e))(hi:P.info? e=some i)(ety:TypeId)(v:Value)(n:Nat)(xs:List Value)(hown:ve w ety i.size v n xs)(ob:Option Addr) :
  (Builtin.append_ #[t,t] ty #[v,.slice ob 0 0]).run P w=.ok v w:=by
 rcases hown.2 with⟨rfl,oa,rfl⟩|⟨g,off,cap,cur,rfl,hg,hnc,_⟩
 ·cases oa <;> cases ob <;> simp[Builtin.append_,a0y ht,sizeOf,typeInfo,hi,Builtin.lenOf,Builtin.firstCells,loadCells,loadCellsFrom,storeCells]
 ·cases ob <;> simp[Builtin.append_,a0y ht,sizeOf,typeInfo,hi,Builtin.lenOf,Builtin.firstCells,hnc,loadCells,loadCellsFrom,storeCells]
theorem beh{w:World}{b o n j:Nat}{u:Value}(h:(cellsOf w b o n)[j]? = some u):j<n/\u=(w.cell? ⟨b,o+j,none⟩).getD undef:=by
 unfold cellsOf at h;rw[a1b]at h;by_cases hj:j<n
 ·rw[a2g hj]at h;exact⟨hj,by simpa using h.symm⟩
 ·rw[a1p (by simpa using hj)]at h;cases h
theorem ber(w:World)(b o sz n i:Nat)(hi:i<n):((cellsOf w b o (n*sz)).drop (i*sz)).take sz=cellsOf w b (o+i*sz) sz:=by
 have hle:i*sz+sz<=n*sz:=by have:=a1z sz (show i+1<=n from hi);rw[a1q]at this;omega
 unfold cellsOf;apply a2a;intro j;rw[a1e,a1c,a1b,a1b];by_cases hj:j<sz
 ·rw[d0 hj,a2g (by omega),a2g hj];simp only[a00];congr 4;omega
 ·rw[ds hj,a1p (by simpa using hj)];rfl
section
variable {F:Fr} {p p' p'':Ow} {env:Env} {M M' M'':Mem} {a:Act} {w w' w'':World} {P:Program} {B:Tab}
theorem bp9{Im:Nat->Prop}{t:T}{l:List t.den}{u:Value}(h:ai Im w (.sl t) l [u]):∃news,Sr w t.size u l.length news/\∀(i:Nat) (x:t.den),l[i]? = some x->ai Im w t x ((news.drop (i*t.size)).take t.size):=by
 simp only[ai,a0i,a0b]at h;obtain⟨oa,cap,rfl,h1,h2,h3⟩:=h
 cases oa with
 |none=>obtain⟨h4,rfl⟩:=h2 rfl;exact⟨[],⟨by simp[h4],.inl ⟨by rw[h4],h4⟩⟩,fun i x hx=>by have:=(a1k.1 hx).1;omega⟩
 |some ad=>
  by_cases hz:l.length=0
  ·exact⟨[],⟨by simp[hz],.inr ⟨ad,cap,rfl,fun j x hj=>by simp at hj⟩⟩,fun i x hx=>by have:=(a1k.1 hx).1;omega⟩
  ·obtain⟨k1,k2,k3⟩:=h3 ad rfl (by omega);obtain⟨b,o,s⟩:=ad;simp only at k1 k2 k3;subst k1;have hrow:∀(i:Nat) (x:t.den),l[i]? = some x->∃us,oy w b (o+i*t.size) us/\us.length=t.size/\ai Im w t x us:=fun i x hx=>by obtain⟨us,u1,u2⟩:=k3 i x hx;exact⟨us,u1,ai.len t x us u2,u2⟩
   refine⟨cellsOf w b o (l.length*t.size),⟨by simp[cellsOf],.inr ⟨_,cap,rfl,fun j x hj=>?_⟩⟩,fun i x hx=>?_⟩
   ·obtain⟨hj1,rfl⟩:=beh hj;have hpos:0<t.size:=a3p (fun h0=>by rw[h0]at hj1;omega);have hdiv:j / t.size<l.length:=(a5a hpos).2 hj1;obtain⟨us,u1,u2,u3⟩:=hrow (j / t.size) _ (a0o hdiv);have hmod:=Nat.mod_lt j hpos;have hc:=u1 (j%t.size) us[j%t.size] (a0o (by omega));have e:o+j / t.size*t.size+j%t.size=o+j:=by have:=Nat.div_add_mod' j t.size;omega
    rw[e]at hc;rw[a2u,hc];rfl
   ·have hi:=(a1k.1 hx).1;rw[ber w b o t.size l.length i hi];obtain⟨us,u1,u2,u3⟩:=hrow i x hx;rw[xe u2 u1];exact u3
theorem ak3{Im:Nat->Prop}{o:O}{l:List o.strip.den}{S:Nat->Prop}{u:Value}(h:Rel Im w (.sl o) l S [u]):∃ety xs,∃T:Nat->Nat->Prop,ve w ety o.size u l.length xs/\l.length<=nb/\(∀c,jz u=some c->S c)/\(∀i c,T i c->S c/\jz u≠some c)/\(∀i j c,i≠j->T i c->¬T j c)/\
  (∀(i:Nat) (x:o.strip.den),l[i]? = some x->Rel Im w o x (T i) ((xs.drop (i*o.size)).take o.size))/\Sr w o.size u l.length xs:=by
 simp only[Rel,a0i,a0b]at h;obtain⟨v,ety,xs,T,rfl,h2,h3,h4,h5,h6,h7⟩:=h;refine⟨ety,xs,T,h2,h3,h4,h5,h6,h7,h2.1,?_⟩;rcases h2.2 with⟨hn,oa,rfl⟩|⟨g,off,cap,cur,rfl,hg,_,_,_,r⟩
 ·cases oa with
  |none=>exact .inl ⟨rfl,hn⟩
  |some b=>have hx:xs=[]:=a11 (by rw[h2.1,hn];simp);exact .inr ⟨b,0,by rw[hn],fun j y hy=>by rw[hx]at hy;simp at hy⟩
 ·exact .inr ⟨_,cap+1,rfl,aty hg r⟩
theorem ay9{xs ys:List Value}{n sz i:Nat}(hx:xs.length=n*sz)(hi:i<n):((xs++ys).drop (i*sz)).take sz=(xs.drop (i*sz)).take sz:=by
 have hle:i*sz+sz<=n*sz:=by have:=a1z sz (show i+1<=n from hi);rw[a1q]at this;omega
 rw[a30 (by omega),a44 (by rw[a1n];omega)]
theorem at9{xs ys:List Value}{n sz i:Nat}(hx:xs.length=n*sz)(hi:n<=i):((xs++ys).drop (i*sz)).take sz=(ys.drop ((i-n)*sz)).take sz:=by have hle:n*sz<=i*sz:=a1z sz hi;rw[List.drop_append,a4l (by omega),a2s,hx,Nat.sub_mul]
theorem bbz{Q:List Value->Prop}{sz m:Nat}{news:List Value}(hl:news.length=m*sz)(hr:∀i,i<m->∀u∈(news.drop (i*sz)).take sz,u.oneCell'=true):∀u∈news,u.oneCell'=true:=by intro u hu;obtain⟨j,hj,rfl⟩:=a2f hu;have hpos:0<sz:=a3p (fun h0=>by rw[hl,h0]at hj;omega);have hdiv:j / sz<m:=(a5a hpos).2 (by rw[←hl];exact hj);have hmod:=Nat.mod_lt j hpos;refine hr (j / sz) hdiv _ (a3a (i:=j%sz) ?_);rw[a1e,d0 hmod,a1c,show j / sz*sz+j%sz=j by have:=Nat.div_add_mod' j sz;omega];exact a0o hj
theorem bg7(hp:Hp F p M w)(k:Nat)(hk:go M k=none){t ty e:TypeId}{i:TypeInfo}{z:Value}(ht:P.underlying t=some (.slice e))(hi:P.info? e=some i)(hz:i.zero=some z)(hzs:z.cells.size=i.size)(hb0:i.bytes≠0)
  {o:O} {l m:List o.strip.den} {S1 S2:Nat->Prop} {v u:Value} (ho:o.size=i.size) (h1:Rel (Imm F p M w) w (.sl o) l S1 [v]) (h2:Rel (Imm F p M w) w (.sl o) m S2 [u]) (hS1:∀b,S1 b->p.L b) (hS2:∀b,S2 b->p.L b) (hd:∀b,S1 b->¬S2 b) (hroom:ey l.length m.length i.bytes) :
  ∃v' w' p',(Builtin.append_ #[t,t] ty #[v,u]).run P w=.ok v' w'/\Tr F p M w [] p' ((k,⟨.sl o,l++m⟩)::M) w'/\(∀b,¬p'.L b)/\ah p'.β ((k,⟨.sl o,l++m⟩)::M) (Imm F p' ((k,⟨.sl o,l++m⟩)::M) w') w' (.ref k []) v':=by
 obtain⟨ety,xs,T1,a1,a2,a3,a4,a5,a6,_⟩:=ak3 h1;obtain⟨ety2,ys,T2,b1,b2,b3,b4,b5,b6,b7⟩:=ak3 h2;rw[ho]at a1 b7;unfold ey at hroom;obtain⟨v',w',ety',r1,r2,⟨r3,r3d⟩,r4⟩:=aln (P:=P) w t ty e ety i z ht hi hz hzs v u l.length m.length xs ys a1 b7 (bbz (Q:=fun _=>True) (sz:=o.size) (m:=m.length) b1.1 (fun i hi=>Rel.one _ _ _ _ (b6 i _ (a0o hi)))) hb0 hroom;have hext:ExtL w w' p.L:=⟨r3.os,⟨r3.tape,r3d⟩,r3.output,r3.size,fun b hb hL=>r3.block b hb (fun e=>hL (hS1 b (a3 b e.symm)))⟩;have hnb:l.length+m.length<=nb:=a08 (a4r _ (a3p hb0)) hroom;have hx1:xs.length=l.length*o.size:=by rw[ho];exact a1.1
 refine⟨v',w',_,r1,Tr.new hp k hk v' (fun b=>jz v'=some b\/(∃i,T1 i b)\/∃i,T2 i b) ⟨.sl o,l++m⟩ hext (fun b hb=>?_) (fun hkp=>?_),fun b hb=>hb,?_⟩
 ·rcases hb with hb|⟨i,hb⟩|⟨i,hb⟩
  ·rcases (r4 b hb).1 with h|h
   ·exact .inr (hS1 b (a3 b h))
   ·exact .inl ⟨h,(r4 b hb).2⟩
  ·exact .inr (hS1 b (a4 i b hb).1)
  ·exact .inr (hS2 b (b4 i b hb).1)
 ·have hne1:∀i b,T1 i b->jz v≠some b:=fun i b hb=>(a4 i b hb).2;have hne2:∀i b,T2 i b->jz v≠some b:=fun i b hb e=>hd b (a3 b e) (b4 i b hb).1;have hlt:∀b,p.L b->b<w.heap.size:=fun b hb=>(hp.lim b hb).1
  have hnr:∀b,p.L b->jz v≠some b->jz v'≠some b:=fun b hb hne e=>by
   rcases (r4 b e).1 with h|h
   ·exact hne h
   ·have:=hlt b hb;omega
  simp only[Rel];refine⟨v',ety',xs++ys,fun i c=>(i<l.length/\T1 i c)\/(l.length<=i/\T2 (i-l.length) c),rfl,by rw[a0q,ho];exact r2,by rw[a0q];exact hnb,fun c hc=>.inl hc,fun i c hc=>?_,fun i j c hij hc=>?_,fun i x hx=>?_⟩
  ·rcases hc with⟨_,hc⟩|⟨_,hc⟩
   ·exact⟨.inr (.inl ⟨i,hc⟩),hnr c (hS1 c (a4 i c hc).1) (hne1 i c hc)⟩
   ·exact⟨.inr (.inr ⟨_,hc⟩),hnr c (hS2 c (b4 _ c hc).1) (hne2 _ c hc)⟩
  ·rcases hc with⟨g1,hc⟩|⟨g1,hc⟩
   ·rintro (⟨g2,hc'⟩|⟨g2,hc'⟩)
    ·exact a5 i j c hij hc hc'
    ·exact hd c (a4 i c hc).1 (b4 _ c hc').1
   ·rintro (⟨g2,hc'⟩|⟨g2,hc'⟩)
    ·exact hd c (a4 j c hc').1 (b4 _ c hc).1
    ·exact b5 _ _ c (by omega) hc hc'
  ·by_cases hil:i<l.length
   ·rw[a1g hil]at hx;rw[ay9 hx1 hil];refine Rel.wide _ _ (T1 i) _ _ (fun b hb=>.inl ⟨hil,hb⟩) (Rel.keep hkp _ _ _ _ (fun b hb=>r3.block b (hlt b (hS1 b (a4 i b hb).1)) (fun e=>hne1 i b hb e.symm)) (a6 i x hx))
   ·rw[a1x (by omega)]at hx;rw[at9 hx1 (by omega)];refine Rel.wide _ _ (T2 (i-l.length)) _ _ (fun b hb=>.inr ⟨by omega,hb⟩) (Rel.keep hkp _ _ _ _ (fun b hb=>r3.block b (hlt b (hS2 b (b4 _ b hb).1)) (fun e=>hne2 _ b hb e.symm)) (b6 _ x hx))
 ·simp only[ah,aa];refine⟨⟨.sl o,l++m⟩,none,lk _ _ _,by simp only[gok],⟨⟨.sl o,l++m⟩,by simp only[get]⟩,?_⟩;rw[aaf];simp only[res]
theorem awr(hp:Hp F p M w)(k:Nat)(hk:go M k=none){t ty e:TypeId}{i:TypeInfo}{z:Value}(ht:P.underlying t=some (.slice e))(hi:P.info? e=some i)(hz:i.zero=some z)(hzs:z.cells.size=i.size)(hb0:i.bytes≠0)
  {o:O} {l m:List o.strip.den} {S1:Nat->Prop} {v u:Value} (ho:o.size=i.size) (h1:Rel (Imm F p M w) w (.sl o) l S1 [v]) (h2:ai (Imm F p M w) w (.sl o.strip) m [u]) (hS1:∀b,S1 b->p.L b) (hroom:ey l.length m.length i.bytes) :
  ∃v' w' p',(Builtin.append_ #[t,t] ty #[v,u]).run P w=.ok v' w'/\Tr F p M w [] p' ((k,⟨.sl (.fz o.strip),l++m⟩)::M) w'/\(∀b,¬p'.L b)/\ah p'.β ((k,⟨.sl (.fz o.strip),l++m⟩)::M) (Imm F p' ((k,⟨.sl (.fz o.strip),l++m⟩)::M) w') w' (.ref k []) v':=by
 obtain⟨ety,xs,T1,a1,a2,a3,a4,a5,a6,_⟩:=ak3 h1;obtain⟨ys,b7,b6⟩:=bp9 h2;have ho':o.strip.size=i.size:=ho;rw[ho]at a1;rw[ho']at b7;unfold ey at hroom;obtain⟨v',w',ety',r1,r2,⟨r3,r3d⟩,r4⟩:=aln (P:=P) w t ty e ety i z ht hi hz hzs v u l.length m.length xs ys a1 b7 (bbz (Q:=fun _=>True) (sz:=o.strip.size) (m:=m.length) (by rw[ho'];exact b7.1) (fun i hi=>ai.one _ _ _ (b6 i _ (a0o hi)))) hb0 hroom;have hext:ExtL w w' p.L:=⟨r3.os,⟨r3.tape,r3d⟩,r3.output,r3.size,fun b hb hL=>r3.block b hb (fun e=>hL (hS1 b (a3 b e.symm)))⟩;have hnb:l.length+m.length<=nb:=a08 (a4r _ (a3p hb0)) hroom;have hx1:xs.length=l.length*o.size:=by rw[ho];exact a1.1
 refine⟨v',w',_,r1,Tr.new hp k hk v' (fun b=>jz v'=some b) ⟨.sl (.fz o.strip),l++m⟩ hext (fun b hb=>?_) (fun hkp=>?_),fun b hb=>hb,?_⟩
 ·rcases (r4 b hb).1 with h|h
  ·exact .inr (hS1 b (a3 b h))
  ·exact .inl ⟨h,(r4 b hb).2⟩
 ·have hlt:∀b,p.L b->b<w.heap.size:=fun b hb=>(hp.lim b hb).1
  have hnr:∀b,p.L b->jz v≠some b->jz v'≠some b:=fun b hb hne e=>by
   rcases (r4 b e).1 with h|h
   ·exact hne h
   ·have:=hlt b hb;omega
  have hT:∀i b,T1 i b->Imm F (p.upd k v' fun b=>jz v'=some b) ((k,⟨.sl (.fz o.strip),l++m⟩)::M) w' b:=fun i b hb=>by
   have hLb:=hS1 b (a4 i b hb).1;refine⟨by have:=hlt b hLb;have:=r3.size;omega,.inr (.inr (hp.lim b hLb).2.1),fun h=>h,fun j hj=>?_⟩;by_cases e:j=k
   ·subst e;rw[show (p.upd j v' fun b=>jz v'=some b).σ j=fun b=>jz v'=some b by simp[Ow.upd,Ow.updL]];exact hnr b hLb (a4 i b hb).2
   ·rw[show (p.upd k v' fun b=>jz v'=some b).σ j=p.σ j by simp[Ow.upd,Ow.updL,e]];refine (hp.lim b hLb).2.2 j ?_;unfold bt at hj⊢
    rwa [c8,ds (a0w e)]at hj
  simp only[Rel];have hsz:(O.fz o.strip).size=o.size:=rfl;refine⟨v',ety',xs++ys,fun _ _=>False,rfl,by rw[a0q,hsz,ho];exact r2,by rw[a0q];exact hnb,fun c hc=>hc,fun i c hc=>hc.elim,fun i j c _ hc=>hc.elim,fun i x hx=>?_⟩;rw[hsz];by_cases hil:i<l.length
  ·rw[a1g hil]at hx;rw[ay9 hx1 hil];have h3:=Rel.keep hkp _ _ _ _ (fun b hb=>r3.block b (hlt b (hS1 b (a4 i b hb).1)) (fun e=>(a4 i b hb).2 e.symm)) (a6 i x hx);exact Rel.frz (fun _ h=>h) _ _ _ _ (hT i) h3
  ·rw[a1x (by omega)]at hx;rw[at9 hx1 (by omega)];exact ai.keep hkp _ _ _ (b6 _ x hx)
 ·simp only[ah,aa];refine⟨⟨.sl (.fz o.strip),l++m⟩,none,lk _ _ _,by simp only[gok],⟨⟨.sl (.fz o.strip),l++m⟩,by simp only[get]⟩,?_⟩;rw[aaf];simp only[res]
end
end Go.Bm
/- The du machine:appending,every case. -/
namespace Go.Bm
open Go.RowKit
section
variable {F:Fr} {p p' p'':Ow} {env:Env} {M M' M'':Mem} {a:Act} {w w' w'':World} {P:Program} {B:Tab}
def bar(F:Fr)(p:Ow)(M:Mem)(w:World)(u:Value):Src->Prop
 |.nil=>∃oa,u=.slice oa 0 0
 |.own j e l=>go M j=some ⟨.sl e,l⟩/\u=p.β j
 |.dat ev M1 t l=>Tr F p M w ev p M1 w/\ai (Imm F p M1 w) w (.sl t) l [u]/\zg M M1
theorem bsm(h:Hp F p M w)(x:V)(u:Value)(hx:ah p.β M (Imm F p M w) w x u)(s:Src)(hs:ahe M x=some s):bar F p M w u s:=by
 unfold ahe at hs;split at hs
 ·cases hs;simp only[ah,aa,a0i,a0b]at hx;exact hx
 ·cases hs;exact⟨Tr.refl h,bd.1 hx,zg.refl M⟩
 ·rename_i j π;simp only[ah,aa]at hx;split at hs
  ·rename_i e l hj;cases hs;obtain⟨ob,pl,k1,k2,k3,k4⟩:=hx;simp only[res,a0d,a0j,a0i,a0b]at k4;exact⟨hj,k4.1.symm⟩
  ·rename_i ob hj _;split at hs
   ·rename_i e l hq;cases hs;exact⟨Tr.frz h j ob hj,as5 h hj hq hx,anh j M⟩
   ·rename_i t l hq;cases hs;exact⟨Tr.frz h j ob hj,as5 h hj hq hx,anh j M⟩
   ·cases hs
  ·cases hs
 ·cases hs
structure ApT (P:Program) (t e:TypeId) (i:TypeInfo) (z:Value):Prop where
 ht:P.underlying t=some (.slice e)
 hi:P.info? e=some i
 hz:i.zero=some z
 hzs:z.cells.size=i.size
 hb:i.bytes≠0
theorem e9.app{r:Rs}{v:Value}{w':World}{p':Ow}(ht:Tr F p M w r.ev p' r.M w')(hL:∀b,¬p'.L b)(hv:ah p'.β r.M (Imm F p' r.M w') w' r.av v):e9 F p M w false r v w':=⟨p',ht,hL,hv,fun _ h=>by cases h⟩
theorem e9.appQ{r:Rs}{v:Value}{w':World}{p':Ow}{qt:Bool}(ht:Tr F p M w r.ev p' r.M w')(hL:∀b,¬p'.L b)(hv:ah p'.β r.M (Imm F p' r.M w') w' r.av v)(hf:fm M r.ev=false):e9 F p M w qt r v w':=⟨p',ht,hL,hv,fun h=>by rw[hf]at h;cases h⟩
variable {t e ty':TypeId} {i:TypeInfo} {z:Value}
structure Tk (F:Fr) (p:Ow) (M:Mem) (w:World) (q:Ob) (e:List Ev) (vs:List Value) (p':Ow) (M':Mem) (S:Nat->Prop):Prop where
 L:∀b,S b->p'.L b
 tr:Tr F p M w e p' M' w
 rel:Rel (Imm F p' M' w) w q.o q.x S vs
theorem Cv.tk{k:Nat}{q:Ob}{e:List Ev}{vs:List Value}{S:Nat->Prop}(h:Cv F p M w k q e vs p' M' S):Tk F p M w q e vs p' M' S:=⟨fun b hb=>(h.L b).2 (.inr hb),h.tr,h.rel⟩
theorem apq(A:ApT P t e i z){p1:Ow}{M1 M0:Mem}{o:O}{l:List o.strip.den}{S1:Nat->Prop}{v u:Value}{ev:List Ev}(ho:o.size=i.size)(cv:Tk F p M w ⟨.sl o,l⟩ ev [v] p1 M1 S1)(hL:∀b,¬p.L b)
  (d j:Nat) {e':O} {m:List e'.strip.den} (hj:go M1 j=some ⟨.sl e',m⟩) (hu:u=p1.β j) (hjg:j<gid) (hv:ab (afm i.bytes d o l j e' m ev M1 M0).vc) :
  ∃v' w',(Builtin.append_ #[t,t] ty' #[v,u]).run P w=.ok v' w'/\e9 F p M w false (afm i.bytes d o l j e' m ev M1 M0) v' w':=by
 have hp1:=cv.tr.hp;unfold afm at hv⊢;split at hv
 ·rename_i m' he hm;simp only[cr,da,a0b]at hv;have:=O.beq_eq he;subst this;have hq:=vf hm;simp only[Ob.mk.injEq,heq_eq_eq,a0e]at hq;subst hq;have c2:=Cv.whole hp1 j hj hjg;have c2r:=c2.rel;have hL2:∀b,S1 b->(⟨p1.β,p1.σ,fun b=>p1.L b\/p1.σ j b⟩:Ow).L b:=fun b hb=>.inl (cv.L b hb);have hlim:=hp1.lim;have r1:=Rel.keep c2.tr.keep _ _ _ _ (fun _ _=>rfl) cv.rel;obtain⟨hk1,hk2⟩:=Hp.del c2.tr.hp d;have r1':=Rel.keep hk2 _ _ _ _ (fun _ _=>rfl) r1;have c2r':=Rel.keep hk2 _ _ _ _ (fun _ _=>rfl) c2r;rw[←hu]at c2r';obtain⟨v',w',p',g1,g2,g3,g4⟩:=bg7 (P:=P) (ty:=ty') hk1 d (cy d _) A.ht A.hi A.hz A.hzs A.hb ho r1' c2r' hL2 (fun b hb=>.inr hb) (fun b hb hb'=>(hlim b (cv.L b hb)).2.2 j (bo hj) hb') hv;refine⟨v',w',g1,e9.app (r:=⟨_,.ref d [],ap ev [.kl j,.kl d],_⟩) ?_ g3 g4⟩;have:=cv.tr.trans (c2.tr.trans ((Tr.kl c2.tr.hp d).trans g2));simpa only [ap]using this
 ·split at hv
  ·rename_i m1 hm1;simp only[cr,da,a0b]at hv;have hf:=Tr.frz hp1 j _ hj;have hrj:=hp1.objs j _ hj;have hrf:ai (Imm F p1 (del j M1) w) w (.sl e'.strip) m [u]:=by rw[hu];have:=Rel.frz (fun b hb=>((hp1.del j).2 b hb).1) _ _ (p1.σ j) _ (fun b hb=>aer hp1 (bo hj) hb) hrj;simpa only [O.strip]using this
   have hrf2:ai (Imm F p1 (del j M1) w) w (.sl o.strip) m1 [u]:=tv hm1 hrf;have r1:=Rel.keep hf.keep _ _ _ _ (fun _ _=>rfl) cv.rel;obtain⟨hk1,hk2⟩:=Hp.del hf.hp d;obtain⟨v',w',p',g1,g2,g3,g4⟩:=awr (P:=P) (ty:=ty') hk1 d (cy d _) A.ht A.hi A.hz A.hzs A.hb ho (Rel.keep hk2 _ _ _ _ (fun _ _=>rfl) r1) (ai.keep hk2 _ _ _ hrf2) cv.L hv;refine⟨v',w',g1,e9.app (r:=⟨_,.ref d [],ap ev [.fz j ⟨.sl e',m⟩,.kl d],_⟩) ?_ g3 g4⟩;have:=cv.tr.trans (hf.trans ((Tr.kl hf.hp d).trans g2));simpa only [ap]using this
  ·exact hv.1.elim
theorem aot(A:ApT P t e i z){p1:Ow}{M1 M0:Mem}{o:O}{l:List o.strip.den}{S1:Nat->Prop}{v u:Value}{ev:List Ev}(ho:o.size=i.size)(cv:Tk F p M w ⟨.sl o,l⟩ ev [v] p1 M1 S1)(hL:∀b,¬p.L b)
  (d:Nat) {t':T} {m:List t'.den} (hm:ai (Imm F p1 M1 w) w (.sl t') m [u]) (hv:ab (af4 i.bytes d o l t' m ev M1 M0).vc) :
  ∃v' w',(Builtin.append_ #[t,t] ty' #[v,u]).run P w=.ok v' w'/\e9 F p M w false (af4 i.bytes d o l t' m ev M1 M0) v' w':=by
 have hp1:=cv.tr.hp;unfold af4 at hv⊢;split at hv
 ·rename_i m1 hm1;simp only[cr,da,a0b]at hv;have hrf2:ai (Imm F p1 M1 w) w (.sl o.strip) m1 [u]:=tv hm1 hm;obtain⟨hk1,hk2⟩:=Hp.del hp1 d;obtain⟨v',w',p',g1,g2,g3,g4⟩:=awr (P:=P) (ty:=ty') hk1 d (cy d _) A.ht A.hi A.hz A.hzs A.hb ho (Rel.keep hk2 _ _ _ _ (fun _ _=>rfl) cv.rel) (ai.keep hk2 _ _ _ hrf2) cv.L hv;refine⟨v',w',g1,e9.app (r:=⟨_,.ref d [],ap ev [.kl d],_⟩) ?_ g3 g4⟩;have:=cv.tr.trans ((Tr.kl hp1 d).trans g2);simpa only [ap]using this
 ·exact hv.1.elim
theorem bkh{π:bq}{ob ob':Ob}(h:bnn π ob=some ob'):∃(p0:bq) (i:Nat) (e:O) (l:List e.strip.den),ug π=some (p0,i)/\get p0 ob.o ob.x=some ⟨.sl e,l⟩/\set p0 ob.o ob.x ⟨.sl (.op e),bi6 l i⟩=some ob':=by
 unfold bnn at h;split at h
 ·rename_i p0 i hx;split at h
  ·rename_i e l hq;exact⟨p0,i,e,l,hx,hq,h⟩
  ·cases h
 ·cases h
theorem bn2(hB:TabOk P B)(h:Hp F p M w)(hL:∀b,¬p.L b){t:TypeId}(dst:Option Nat)(s x:V)(v u:Value)(hs:ah p.β M (Imm F p M w) w s v)(hx:ah p.β M (Imm F p M w) w x u)(hv:ab (ae7 B dst t s x M).vc) :
  ∃v' w',(Builtin.append_ #[t,t] ty' #[v,u]).run P w=.ok v' w'/\e9 F p M w false (ae7 B dst t s x M) v' w':=by
 unfold ae7 at hv⊢;split at hv
 ·rename_i e d src he hsrc;have hso:=bsm h x u hx src hsrc
  cases hk:bg [(B.τ t).ok,(B.τ e).ok,neg (Nat.beq (B.τ e).bytes 0),B.z e,dz (B.σ e).size (B.τ e).size]with
  |false=>rw[hk]at hv;exact hv.1.elim
  |true=>
   simp only[hk,a0c]at hv⊢;simp only[au,bh,a0k,a0a,fe,a0t]at hk;obtain⟨k1,k2,k3,k4,k5⟩:=hk;have eτ:=hB.τ t k1;have eτ':=hB.τ e k2;obtain⟨infe,z,hie,hz,h0⟩:=aek hB k4;rw[←eτ']at k2 k3 k5;simp only[←eτ']at hv⊢;rw[←eτ]at k1 he;obtain⟨inf,ud,hi,hu⟩:=dl k1;obtain⟨infe',ue,hie',hue⟩:=dl k2;rw[hie]at hie';cases hie';rw[gp hi hu]at he;rw[gp hie hue]at k3 k5;simp only[gp hie hue]at hv⊢;simp only[nw]at he k3 k5 hv⊢;cases ud <;> simp at he;obtain rfl:=he.symm;have hzs:z.cells.size=infe.size:=by have h1:=Rel.len _ _ _ _ (acb (Im:=Imm F p M w) (w:=w) (B.σ e) _ h0).1;rw[afu,k5]at h1;simpa using h1
   have A:ApT P t e infe z:=⟨hu,hie,hz,hzs,by rintro h;rw[h]at k3;simp at k3⟩;split at hv
   ·simp only[ah,aa,a0i,a0b]at hs;obtain⟨oa,rfl⟩:=hs;split at hv
    ·simp only[bar]at hso;obtain⟨ob,rfl⟩:=hso;exact⟨.slice oa 0 0,w,by cases oa <;> cases ob <;> simp[Builtin.append_,a0y hu,sizeOf,typeInfo,hie,Builtin.lenOf,Builtin.firstCells,loadCells,loadCellsFrom,storeCells],e9.app (r:=⟨[],.nl,[],M⟩) (Tr.refl h) hL (by simp only[ah,aa];exact⟨oa,rfl⟩)⟩
    ·rename_i j e' m;obtain⟨hj,rfl⟩:=hso
     cases hkk:bg [og j d,dz e'.strip.size infe.size]with
     |false=>rw[hkk]at hv;exact hv.1.elim
     |true=>simp only[hkk,a0c,cr,da,a0b]at hv⊢;simp only[au,bh,a0k,a0a,fe,a0t]at hkk;obtain⟨hne,hg⟩:=zx (r:=j) (k:=d) (by rw[hkk.1];rfl);have c2:=Cv.whole h d hj hg;obtain⟨hk1,hk2⟩:=Hp.del c2.tr.hp d;obtain⟨v',w',p',g1,g2,g3,g4⟩:=bg7 (P:=P) (ty:=ty') hk1 d (cy d _) A.ht A.hi A.hz A.hzs A.hb (l:=([]:List e'.strip.den)) hkk.2 (ak8 e' oa) (Rel.keep hk2 _ _ _ _ (fun _ _=>rfl) c2.rel) (fun b hb=>hb.elim) (fun b hb=>.inr hb) (fun b hb=>hb.elim) hv;refine⟨v',w',g1,e9.app (r:=⟨_,.ref d [],[.kl j,.kl d],_⟩) ?_ g3 g4⟩;exact c2.tr.trans ((Tr.kl c2.tr.hp d).trans g2)
    ·rename_i ev M1 t' m;obtain⟨h1,h2,h3⟩:=hso
     cases hkk:dz t'.size infe.size with
     |false=>rw[hkk]at hv;exact hv.1.elim
     |true=>simp only[hkk,a0c,cr,da,a0b]at hv⊢;simp only[fe,a0t]at hkk;obtain⟨hk1,hk2⟩:=Hp.del h1.hp d;obtain⟨v',w',p',g1,g2,g3,g4⟩:=awr (P:=P) (ty:=ty') hk1 d (cy d _) A.ht A.hi A.hz A.hzs A.hb (o:=.fz t') (l:=([]:List t'.den)) hkk (ak8 (.fz t') oa) (ai.keep hk2 _ _ _ h2) (fun b hb=>hb.elim) hv;refine⟨v',w',g1,e9.app (r:=⟨_,.ref d [],ap ev [.kl d],_⟩) ?_ g3 g4⟩;exact h1.trans ((Tr.kl h1.hp d).trans g2)
   ·rename_i k π;simp only[ah,aa]at hs;split at hv
    ·rename_i o l hob;have hvβ:v=p.β k:=by obtain⟨ob,pl,q1,q2,q3,q4⟩:=hs;simp only[res,a0d,a0j,a0i,a0b]at q4;exact q4.1.symm
     cases hkk:bg [dz o.strip.size infe.size,Nat.ble (Nat.succ k) gid]with
     |false=>rw[hkk]at hv;exact hv.1.elim
     |true=>
      simp only[hkk,a0c]at hv⊢;simp only[au,bh,a0k,a0a,fe,a0t]at hkk;have hkg:k<gid:=a15 hkk.2;split at hv
      ·simp only[bar]at hso;obtain⟨ob2,rfl⟩:=hso;obtain⟨ety,xs,T1,a1,_⟩:=ak3 (h.objs k _ hob);rw[show o.size=infe.size from hkk.1,←hvβ]at a1;refine⟨_,_,?_,e9.app (r:=⟨[],.ref k [],[],M⟩) (Tr.refl h) hL (by simp only[ah,aa];exact hs)⟩;exact apg w t ty' e infe hu hie _ _ _ _ a1 ob2
      ·rename_i j e' m;obtain⟨hj,rfl⟩:=hso
       cases hok:neg (og j k)with
       |true=>rw[hok]at hv;exact hv.1.elim
       |false=>simp only[hok,a0g]at hv⊢;obtain⟨hne,hg⟩:=zx hok;have c1:=Cv.whole h k hob hkg;rw[←hvβ]at c1;exact apq A hkk.1 c1.tk hL k j (by rw[dm hne];exact hj) rfl hg hv
      ·rename_i ev M1 t' m;obtain⟨h1,h2,h3⟩:=hso;split at hv
       ·rename_i obx hgx
        have hgk:go M1 k=some ⟨.sl o,l⟩:=by
         rcases h3 k with g|g
         ·rw[g]at hgx;cases hgx
         ·rw[g,hob]
        have c1:=Cv.whole h1.hp k hgk hkg;rw[←hvβ]at c1;have c0:Tk F p M w ⟨.sl o,l⟩ (ap ev [.kl k]) [v] _ (del k M1) _:=⟨c1.tk.L,h1.trans c1.tr,c1.rel⟩;exact aot A hkk.1 c0 hL k (ai.keep c1.tr.keep _ _ _ h2) hv
       ·exact hv.1.elim
    ·rename_i ob hob _;split at hv
     ·rename_i o l ob' hq hset
      cases hkk:bg [dz o.strip.size infe.size,neg (Nat.beq d k),Nat.ble (Nat.succ k) gid]with
      |false=>rw[hkk]at hv;exact hv.1.elim
      |true=>
       simp only[hkk,a0c]at hv⊢;simp only[au,bh,a0k,a0a,fe,a0t]at hkk;have hkg:k<gid:=a15 hkk.2.2;have hs0:=hs;obtain⟨ob1,pl,q1,q2,q3,q4⟩:=hs;rw[hob]at q1;cases q1;split at hv
       ·simp only[bar]at hso;obtain⟨ob2,rfl⟩:=hso;obtain⟨us,pl',S',e1,e2,e3,_⟩:=look h hob q2 hq;rw[e1]at q4;simp only[a0d,a0j]at q4;obtain⟨rfl,rfl⟩:=q4;obtain⟨ety,xs,T1,a1,_⟩:=ak3 e3;refine⟨_,_,?_,e9.app (r:=⟨[],.ref k _,[],M⟩) (Tr.refl h) hL (by simp only[ah,aa];exact hs0)⟩;exact apg w t ty' e infe hu hie _ _ _ _ (by rw[show o.size=infe.size from hkk.1]at a1;exact a1) ob2
       ·rename_i j e' m;obtain⟨hj,rfl⟩:=hso
        cases hok:bg [og j k,og j d]with
        |false=>rw[hok]at hv;exact hv.1.elim
        |true=>simp only[hok,a0c]at hv⊢;simp only[au,bh,a0k,a0a]at hok;obtain⟨hne,hg⟩:=zx (r:=j) (k:=k) (by rw[hok.1];rfl);obtain⟨p1,S,k1,k2,k3,k4,k5⟩:=Tr.cut h hob hkg q2 hq q4 hset;have hc:Tk F p M w ⟨.sl o,l⟩ [.cut k ob.o ob'.o] [v] p1 (put k ob' M) S:=⟨fun b hb=>(k2 b).2 (.inr hb),k4,k5⟩;exact apq A hkk.1 hc hL d j (by rw[ng ob' hne];exact hj) (by rw[k1]) hg hv
       ·rename_i ev M1 t' m;obtain⟨h1,h2,h3⟩:=hso;split at hv
        ·rename_i obx hgx
         have hgk:go M1 k=some ob:=by
          rcases h3 k with g|g
          ·rw[g]at hgx;cases hgx
          ·rw[g,hob]
         obtain⟨p1,S,k1,k2,k3,k4,k5⟩:=Tr.cut h1.hp hgk hkg q2 hq q4 hset;have hc:Tk F p M w ⟨.sl o,l⟩ (ap ev [.cut k ob.o ob'.o]) [v] p1 (put k ob' M1) S:=⟨fun b hb=>(k2 b).2 (.inr hb),h1.trans k4,k5⟩;exact aot A hkk.1 hc hL d (ai.keep k4.keep _ _ _ h2) hv
        ·exact hv.1.elim
     ·rename_i o l hq hset;split at hv
      ·rename_i ob' htk;obtain⟨p5,i0,e0,l0,x1,x2,x3⟩:=bkh htk;have hq5:=(ax7 _ ob.o ob.x p5 i0 _ x1 x2).2.2.1 e0 l0 rfl;rw[hq]at hq5;simp only[a0d,Ob.mk.injEq]at hq5;obtain⟨rfl,hq5⟩:=hq5;cases hq5
       cases hkk:bg [dz o.strip.size infe.size,neg (Nat.beq d k),Nat.ble (Nat.succ k) gid]with
       |false=>rw[hkk]at hv;exact hv.1.elim
       |true=>
        simp only[hkk,a0c]at hv⊢;simp only[au,bh,a0k,a0a,fe,a0t]at hkk;have hkg:k<gid:=a15 hkk.2.2;obtain⟨ob1,pl,q1,q2,q3,q4⟩:=hs;rw[hob]at q1;cases q1;split at hv
        ·exact hv.1.elim
        ·rename_i j e' m;obtain⟨hj,rfl⟩:=hso
         cases hok:bg [og j k,og j d]with
         |false=>rw[hok]at hv;exact hv.1.elim
         |true=>simp only[hok,a0c]at hv⊢;simp only[au,bh,a0k,a0a]at hok;obtain⟨hne,hg⟩:=zx (r:=j) (k:=k) (by rw[hok.1];rfl);obtain⟨p1,S,k1,k2,k3,k4,k5⟩:=Tr.take h hob hkg x1 x2 q2 q4 x3;have hc:Tk F p M w ⟨.sl o,l0.getD i0 (O.sl o).dflt⟩ _ [v] p1 (put k ob' M) S:=⟨fun b hb=>(k2 b).2 (.inr hb),k4,k5⟩;exact apq A hkk.1 hc hL d j (by rw[ng _ hne];exact hj) (by rw[k1]) hg hv
        ·rename_i ev M1 t' m;obtain⟨h1,h2,h3⟩:=hso;split at hv
         ·rename_i obx hgx
          have hgk:go M1 k=some ob:=by
           rcases h3 k with g|g
           ·rw[g]at hgx;cases hgx
           ·rw[g,hob]
          obtain⟨p1,S,k1,k2,k3,k4,k5⟩:=Tr.take h1.hp hgk hkg x1 x2 q2 q4 x3;have hc:Tk F p M w ⟨.sl o,l0.getD i0 (O.sl o).dflt⟩ _ [v] p1 (put k ob' M1) S:=⟨fun b hb=>(k2 b).2 (.inr hb),h1.trans k4,k5⟩;exact aot A hkk.1 hc hL d (ai.keep k4.keep _ _ _ h2) hv
         ·exact hv.1.elim
      ·exact hv.1.elim
     ·exact hv.1.elim
    ·exact hv.1.elim
   ·exact hv.1.elim
 ·exact hv.1.elim
end
end Go.Bm
