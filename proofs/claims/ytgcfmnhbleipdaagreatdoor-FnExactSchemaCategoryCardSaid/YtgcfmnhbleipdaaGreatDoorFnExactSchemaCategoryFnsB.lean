/- What the functions that FnExactSchemaCategory reaches give: for each its contract, what it asks, and the proof. No condition. -/
import Derived.Test.YtgcfmnhbleipdaaGreatDoorFnExactSchemaCategoryFnsA
set_option linter.unusedVariables false
set_option linter.unusedSimpArgs false
namespace Go.Bm
open Go.Proofs
set_option maxRecDepth 100000
set_option maxHeartbeats 1000000
abbrev a40:=@Array.size_push
def ky:Ct:=⟨[(.pt SchemaT),(.pt nq)],[false,false],fun x=>[x.2.1.2.2.length<=1000000,OrdP x.2.1 x.1 (fx x.2.1.2.2.length)],[(false,(.sl (.fz (.int .i64))))],fun x=>(o8 x.2.1 x.1 (fx x.2.1.2.2.length),()),false,none⟩
def alg:FuncId->Option Ct:=lkp [(119,mn),(120,se),(121,ez)]
def xf(s:ac)(k:al)(K:(List Int)×Unit->Prop):Prop:=((0<=(k.2.2.length:Int))/\(((k.2.2.length:Int)<=1099511627776)/\((OrdP k s (fx (k.2.2.length:Int)))/\(K ((o8 k s (fx (k.2.2.length:Int))),())))))
theorem amg(s:ac)(k:al)(hok:ae (okL ky.args (s,k,())))(hpre:ae (ky.pre (s,k,()))):xf s k (fun r=>r=ky.res (s,k,())):=by
 simp only[ky,okL,T.oks,T.ok,ap,ae,a0e,a0c,a0h]at hok hpre
 try dsimp only[T.den]at hok hpre
 unfold xf;obtain⟨h1,h2⟩:=hpre;refine⟨by omega,by omega,h2,rfl⟩
theorem abm:b8 Tryz.prog 93 ky:=cg (Φ:=alg) (ai aig (ai zq (ai aag aq))) bi (by kernel_rfl) (fn:=Tryz.f93) (c:=bf Tryz.f93) (by kernel_rfl) (by kernel_rfl) (by kernel_rfl) ky rfl .n (cp []) (by kernel_rfl) (by kernel_rfl) (by kernel_rfl) (by decide) (fun x K=>xf x.1 x.2.1 K) (fun _ _=>by kernel_rfl) (fun x h1 h2=>amg x.1 x.2.1 h1 h2)
def ofR(k:al)(x:Int)(es:List Int):Int:=k.2.1.getD (dh k x es).toNat 0
def asz(k:al)(p:ab)(e:Int):ab:=k.2.2.getD (ofR k p.1 (p.2++[e])).toNat (0,[])
def vz(k:al)(l:List ab)(f:Int)(es:List Int):ab:=es.foldl (asz k) (l.getD f.toNat (0,[]))
def u6(k:al)(number:List Int)(l:List ab)(f g:Int):Int:=number.getD (ofR k (vz k l f (l.getD g.toNat (0,[])).2).1 (vz k l f (l.getD g.toNat (0,[])).2).2).toNat 0
structure OfP (k:al) (x:Int) (es:List Int) (n:Int):Prop where
 le:es.length<=1000000
 a0:0<=dh k x es
 a1:dh k x es<k.2.1.length
 o0:0<=ofR k x es
 o1:ofR k x es<n
structure PrvP (k:al) (number:List Int) (l:List ab) (f g:Int):Prop where
 f0:0<=f
 f1:f<l.length
 g0:0<=g
 g1:g<l.length
 lg:(l.getD g.toNat (0,[])).2.length<=1000000
 st:∀i:Int,0<=i->i<(l.getD g.toNat (0,[])).2.length->OfP k (vz k l f ((l.getD g.toNat (0,[])).2.take i.toNat)).1 ((vz k l f ((l.getD g.toNat (0,[])).2.take i.toNat)).2++[(l.getD g.toNat (0,[])).2.getD i.toNat 0]) k.2.2.length
 en:OfP k (vz k l f (l.getD g.toNat (0,[])).2).1 (vz k l f (l.getD g.toNat (0,[])).2).2 number.length
def fd:Ct:=⟨[(.int .i64),(.int .i64),(.pt (.pt k8)),(.pt (.pt nq)),(.pt (.sl (.int .i64)))],[false,false,false,false,false],fun x=>[PrvP x.2.2.2.1 x.2.2.2.2.1 x.2.2.1.2.2.2 x.1 x.2.1],[(false,(.fz (.int .i64)))],fun x=>(u6 x.2.2.2.1 x.2.2.2.2.1 x.2.2.1.2.2.2 x.1 x.2.1,()),false,none⟩
def agq:Ann:=(.s .n (.s .n (.s (.s .n (.l [(8,(.ad 8 [.de])),(27,(.d (.int .i64)))] [(8,(.pt (.fz (.p (.int .i64) (.sl (.int .i64))))))] [3,4,25,26] .n)) .n)))
def ag0:FuncId->Option Ct:=lkp [(95,im),(77,mb)]
def ti(f:Int)(g:Int)(out:T.den k8)(k:al)(number:List Int)(K:Int×Unit->Prop):Prop:=((0<=f)/\((f<(out.2.2.2.length:Int))/\((0<=g)/\((g<(out.2.2.2.length:Int))/\(bj (S:=(bsa×(br9×Unit))) (fun s=>(fun next=>((inK .i64 s.1.2.1)->((inK .i64 s.2.1.1)->((T.ok (.sl (.int .i64)) s.2.1.2)->(cnd (decide (s.1.2.1<(((List.length (out.2.2.2.getD g.toNat (0,[])).2):Nat):Int))) ((0<=s.1.2.1)/\((s.1.2.1<(((List.length (out.2.2.2.getD g.toNat (0,[])).2):Nat):Int))/\((s.2.1.2.length<=1099511627776)/\((eg s.2.1.2.length (List.length ((List.getD (out.2.2.2.getD g.toNat (0,[])).2 s.1.2.1.toNat 0)::[])) 8)/\(((List.length (s.2.1.2++((List.getD (out.2.2.2.getD g.toNat (0,[])).2 s.1.2.1.toNat 0)::[])))<=1000000)/\((0<=(dh k s.2.1.1 (s.2.1.2++((List.getD (out.2.2.2.getD g.toNat (0,[])).2 s.1.2.1.toNat 0)::[]))))/\(((dh k s.2.1.1 (s.2.1.2++((List.getD (out.2.2.2.getD g.toNat (0,[])).2 s.1.2.1.toNat 0)::[])))<(k.2.1.length:Int))/\((0<=(k.2.1.getD (Int.toNat (dh k s.2.1.1 (s.2.1.2++((List.getD (out.2.2.2.getD g.toNat (0,[])).2 s.1.2.1.toNat 0)::[])))) 0))/\(((k.2.1.getD (Int.toNat (dh k s.2.1.1 (s.2.1.2++((List.getD (out.2.2.2.getD g.toNat (0,[])).2 s.1.2.1.toNat 0)::[])))) 0)<(k.2.2.length:Int))/\((inK .i64 (s.1.2.1+1))/\(next (((),((s.1.2.1+1),())),((k.2.2.getD (Int.toNat (k.2.1.getD (Int.toNat (dh k s.2.1.1 (s.2.1.2++((List.getD (out.2.2.2.getD g.toNat (0,[])).2 s.1.2.1.toNat 0)::[])))) 0)) (0,[])),()))))))))))))) ((s.2.1.2.length<=1000000)/\((0<=(dh k s.2.1.1 s.2.1.2))/\(((dh k s.2.1.1 s.2.1.2)<(k.2.1.length:Int))/\((0<=(k.2.1.getD (Int.toNat (dh k s.2.1.1 s.2.1.2)) 0))/\(((k.2.1.getD (Int.toNat (dh k s.2.1.1 s.2.1.2)) 0)<(number.length:Int))/\(K ((number.getD (Int.toNat (k.2.1.getD (Int.toNat (dh k s.2.1.1 s.2.1.2)) 0)) 0),()))))))))))))) (((),(0,())),((out.2.2.2.getD f.toNat (0,[])),())))))))
theorem ah4(f:Int)(g:Int)(out:T.den k8)(k:al)(number:List Int)(hok:ae (okL fd.args (f,g,out,k,number,())))(hpre:ae (fd.pre (f,g,out,k,number,()))):ti f g out k number (fun r=>r=fd.res (f,g,out,k,number,())):=by
 simp only[fd,okL,T.oks,T.ok,ap,ae,a0e,a0c,a0h]at hok hpre
 try dsimp only[T.den]at hok hpre
 unfold ti;have P:=hpre;clear hpre hok;refine⟨P.f0,P.f1,P.g0,P.g1,?_⟩;generalize hes:(out.2.2.2.getD g.toNat (0,[])).2=es;have st:=P.st;have lg:=P.lg;have en:=P.en;rw[hes]at st en lg;refine bw (fun (q:(bsa×(br9×Unit)))=>0<=q.1.2.1/\q.1.2.1<=es.length/\q.2.1=vz k out.2.2.2 f (es.take q.1.2.1.toNat)) (fun (q:(bsa×(br9×Unit)))=>(es.length-q.1.2.1).toNat) ?_ ⟨a0r _,by dsimp only;omega,rfl⟩;rintro⟨⟨_,i,_⟩,p,_⟩ next ⟨i0,i1,q⟩ hnx
 intros
 try dsimp only at i0 i1 q hnx⊢
 subst q;refine au (fun hi=>?_) (fun hi=>?_)
 ·have O:=st i i0 hi;have le:=O.le;rw[a0q]at le;simp only[a0l,a0p]at le;refine⟨i0,hi,by omega,da (by simp only[a0l,a0p];omega),O.le,O.a0,O.a1,O.o0,O.o1,by rw[ao];(try dsimp only);omega,hnx _ ⟨by dsimp only;omega,by dsimp only;omega,?_⟩ (by dsimp only;omega)⟩
  try dsimp only
  unfold vz;rw[jz es 0 i0 hi,a3g];rfl
 ·have e:i=es.length:=by omega
  subst e;rw[ng _ (a0r _)];refine⟨en.le,en.a0,en.a1,en.o0,en.o1,?_⟩;simp only[fd,u6];rw[hes];rfl
theorem sx:b8 Tryz.prog 97 fd:=cg (Φ:=ag0) (ai uq (ai ri aq)) bi (by kernel_rfl) (fn:=Tryz.f97) (c:=bf Tryz.f97) (by kernel_rfl) (by kernel_rfl) (by kernel_rfl) fd rfl agq (cp [(5,95012),(7,7)]) (by kernel_rfl) (by kernel_rfl) (by kernel_rfl) (by decide) (fun x K=>ti x.1 x.2.1 x.2.2.1 x.2.2.2.1 x.2.2.2.2.1 K) (fun _ _=>by kernel_rfl) (fun x h1 h2=>ah4 x.1 x.2.1 x.2.2.1 x.2.2.2.1 x.2.2.2.2.1 h1 h2)
def fy:Ct:=⟨[(.pt aj)],[false],fun x=>[],[(false,(.fz (.int .i64)))],fun x=>((x.1.2.1.length:Int),()),false,none⟩
def uv(c:be)(K:Int×Unit->Prop):Prop:=(K ((c.2.1.length:Int),()))
theorem ai8(c:be)(hok:ae (okL fy.args (c,())))(hpre:ae (fy.pre (c,()))):uv c (fun r=>r=fy.res (c,())):=by
 simp only[fy,okL,T.oks,T.ok,ap,ae,a0e,a0c,a0h]at hok hpre
 try dsimp only[T.den]at hok hpre
 unfold uv;rfl
theorem tx:b8 Tryz.prog 104 fy:=cg (Φ:=lkp []) aq bi (by kernel_rfl) (fn:=Tryz.f104) (c:=bf Tryz.f104) (by kernel_rfl) (by kernel_rfl) (by kernel_rfl) fy rfl .n (cp []) (by kernel_rfl) (by kernel_rfl) (by kernel_rfl) (by decide) (fun x K=>uv x.1 K) (fun _ _=>by kernel_rfl) (fun x h1 h2=>ai8 x.1 h1 h2)
def gn(c:be)(f g:Int):Int:=(c.2.2.2.2.getD f.toNat []).getD g.toNat 0
def je:Ct:=⟨[(.pt aj),(.int .i64),(.int .i64)],[false,false,false],fun x=>[0<=x.2.1,x.2.1<x.1.2.2.2.2.length,0<=x.2.2.1,x.2.2.1<(x.1.2.2.2.2.getD x.2.1.toNat []).length],[(false,(.fz (.int .i64)))],fun x=>(gn x.1 x.2.1 x.2.2.1,()),false,none⟩
def wv(c:be)(f:Int)(g:Int)(K:Int×Unit->Prop):Prop:=((0<=f)/\((f<(c.2.2.2.2.length:Int))/\((0<=g)/\((g<(List.length (c.2.2.2.2.getD f.toNat []):Int))/\(K ((List.getD (c.2.2.2.2.getD f.toNat []) g.toNat 0),()))))))
theorem alu(c:be)(f:Int)(g:Int)(hok:ae (okL je.args (c,f,g,())))(hpre:ae (je.pre (c,f,g,()))):wv c f g (fun r=>r=je.res (c,f,g,())):=by
 simp only[je,okL,T.oks,T.ok,ap,ae,a0e,a0c,a0h]at hok hpre
 try dsimp only[T.den]at hok hpre
 unfold wv;exact⟨hpre.1,hpre.2.1,hpre.2.2.1,hpre.2.2.2,rfl⟩
theorem aa2:b8 Tryz.prog 79 je:=cg (Φ:=lkp []) aq bi (by kernel_rfl) (fn:=Tryz.f79) (c:=bf Tryz.f79) (by kernel_rfl) (by kernel_rfl) (by kernel_rfl) je rfl .n (cp []) (by kernel_rfl) (by kernel_rfl) (by kernel_rfl) (by decide) (fun x K=>wv x.1 x.2.1 x.2.2.1 K) (fun _ _=>by kernel_rfl) (fun x h1 h2=>alu x.1 x.2.1 x.2.2.1 h1 h2)
def ke:Ct:=⟨[(.pt aj),(.int .i64)],[false,false],fun x=>[0<=x.2.1,x.2.1<x.1.2.1.length,x.2.1<x.1.2.2.1.length],[(true,(.fz brk))],fun x=>(((x.1.2.1.getD x.2.1.toNat 0,x.1.2.2.1.getD x.2.1.toNat 0):Int×Int),()),false,none⟩
def v8(c:be)(f:Int)(K:bq0×Unit->Prop):Prop:=((0<=f)/\((f<(c.2.1.length:Int))/\((0<=f)/\((f<(c.2.2.1.length:Int))/\(K (((c.2.1.getD f.toNat 0),(c.2.2.1.getD f.toNat 0)),()))))))
theorem aly(c:be)(f:Int)(hok:ae (okL ke.args (c,f,())))(hpre:ae (ke.pre (c,f,()))):v8 c f (fun r=>r=ke.res (c,f,())):=by
 simp only[ke,okL,T.oks,T.ok,ap,ae,a0e,a0c,a0h]at hok hpre
 try dsimp only[T.den]at hok hpre
 unfold v8;exact⟨hpre.1,hpre.2.1,hpre.1,hpre.2.2,rfl⟩
theorem aj2:b8 Tryz.prog 53 ke:=cg (Φ:=lkp []) aq bi (by kernel_rfl) (fn:=Tryz.f53) (c:=bf Tryz.f53) (by kernel_rfl) (by kernel_rfl) (by kernel_rfl) ke rfl .n (cp [(1,15)]) (by kernel_rfl) (by kernel_rfl) (by kernel_rfl) (by decide) (fun x K=>v8 x.1 x.2.1 K) (fun _ _=>by kernel_rfl) (fun x h1 h2=>aly x.1 x.2.1 h1 h2)
def zc(c:be)(f g v:Int):Bool:=
 if c.2.2.1.getD f.toNat 0=c.2.1.getD g.toNat 0 then decide (0<=v/\v<c.2.1.length/\c.2.1.getD v.toNat 0=c.2.1.getD f.toNat 0/\c.2.2.1.getD v.toNat 0=c.2.2.1.getD g.toNat 0)
 else decide (v=-1)
def uz(c:be)(f g:Int):Bool:=zc c f g (gn c f g)
structure ShapeP (c:be):Prop where
 ob:0<=c.1/\c.1<=8
 m:c.2.1.length<=40
 lt:c.2.2.1.length=c.2.1.length
 fr:bz c.2.1 c.1=true
 to:bz c.2.2.1 c.1=true
 li:(c.2.2.2.1.length:Int)=c.1
 ids:bz c.2.2.2.1 c.2.1.length=true
 lc:c.2.2.2.2.length=c.2.1.length
 idt:∀x:Int,0<=x->x<c.1->c.2.1.getD (c.2.2.2.1.getD x.toNat 0).toNat 0=x/\c.2.2.1.getD (c.2.2.2.1.getD x.toNat 0).toNat 0=x
 row:∀f:Int,0<=f->f<c.2.1.length->(c.2.2.2.2.getD f.toNat []).length=c.2.1.length
 cell:∀f g:Int,0<=f->f<c.2.1.length->0<=g->g<c.2.1.length->uz c f g=true
def aab(c:be):Bool:=inR c.1 0 8&&decide (c.2.1.length<=40)&&decide (c.2.2.1.length=c.2.1.length)&&bz c.2.1 c.1&&bz c.2.2.1 c.1&&decide ((c.2.2.2.1.length:Int)=c.1)&&bz c.2.2.2.1 c.2.1.length &&
 decide (c.2.2.2.2.length=c.2.1.length)&&sm c.1.toNat (fun x=>decide (c.2.1.getD (c.2.2.2.1.getD x.toNat 0).toNat 0=x/\c.2.2.1.getD (c.2.2.2.1.getD x.toNat 0).toNat 0=x)) &&
 sm c.2.1.length (fun f=>decide ((c.2.2.2.2.getD f.toNat []).length=c.2.1.length))&&sm c.2.1.length (fun f=>sm c.2.1.length fun g=>uz c f g)
theorem aet{c:be}:aab c=true<->ShapeP c:=by
 simp only[aab,a0a,a06,inR,ahi];constructor
 ·rintro⟨⟨⟨⟨⟨⟨⟨⟨⟨⟨h0,h1⟩,h2⟩,h3⟩,h4⟩,h5⟩,h6⟩,h7⟩,h8⟩,h9⟩,h10⟩;exact⟨h0,h1,h2,h3,h4,h5,h6,h7,fun x a b=>h8 x a (by omega),h9,fun f g a b d e=>h10 f a b g d e⟩
 ·intro h;exact⟨⟨⟨⟨⟨⟨⟨⟨⟨⟨h.ob,h.m⟩,h.lt⟩,h.fr⟩,h.to⟩,h.li⟩,h.ids⟩,h.lc⟩,fun x a b=>h.idt x a (by have:=h.ob;omega)⟩,h.row⟩,fun f a b g d e=>h.cell f g a b d e⟩
theorem aoq{c:be}(h:¬ShapeP c):aab c=false:=by
 cases hs:aab c with
 |false=>rfl
 |true=>exact absurd (aet.1 hs) h
theorem bex{c:be}(h:ShapeP c):aab c=true:=aet.2 h
def dg:Ct:=⟨[(.pt aj)],[false],fun x=>[],[(false,(.fz .bool))],fun x=>(aab x.1,()),false,none⟩
def ag3:Ann:=(.s .n (.s .n (.s .n (.s .n (.s (.s .n (.l [(88,(.d (.int .i64)))] [] [0,3,86,87] .n)) (.s (.s .n (.l [(106,(.d (.int .i64)))] [] [0,3,104,105] (.s .n (.s .n (.s (.s .n (.s .n (.s .n (.l [(117,(.d (.int .i64)))] [] [0,3,6,104,105,106,115,116] (.s .n (.s .n (.s (.j [] [] [0,3,6,104,105,106,115,116,117] .n) .n))))))) .n))))) .n))))))
def ahu:FuncId->Option Ct:=lkp [(104,fy),(53,ke),(72,ja),(73,me)]
def tj(c:be)(K:Bool×Unit->Prop):Prop:=((((((!(inR c.1 0 8))||(decide (40<(c.2.1.length:Int))))||((c.2.2.1.length:Int) != (c.2.1.length:Int)))=false)->(inK .i64 (c.1-1)))/\(((((((!(inR c.1 0 8))||(decide (40<(c.2.1.length:Int))))||((c.2.2.1.length:Int) != (c.2.1.length:Int)))||(!(bz c.2.1 c.1)))=false)->(inK .i64 (c.1-1)))/\(cnd (((((!(inR c.1 0 8))||(decide (40<(c.2.1.length:Int))))||((c.2.2.1.length:Int) != (c.2.1.length:Int)))||(!(bz c.2.1 c.1)))||(!(bz c.2.2.1 c.1))) (K (false,())) (((((c.2.2.2.1.length:Int) != c.1)=false)->(inK .i64 ((c.2.1.length:Int)-1)))/\(cnd ((((c.2.2.2.1.length:Int) != c.1)||(!(bz c.2.2.2.1 (c.2.1.length:Int))))||((c.2.2.2.2.length:Int) != (c.2.1.length:Int))) (K (false,())) (bj (S:=bsd) (fun s=>(fun next=>((inK .i64 s.1.1)->(cnd (decide (s.1.1<(c.2.2.2.1.length:Int))) ((0<=s.1.1)/\((s.1.1<(c.2.2.2.1.length:Int))/\((0<=(c.2.2.2.1.getD s.1.1.toNat 0))/\(((c.2.2.2.1.getD s.1.1.toNat 0)<(c.2.1.length:Int))/\(((c.2.2.2.1.getD s.1.1.toNat 0)<(c.2.2.1.length:Int))/\(cnd (!(((c.2.1.getD (Int.toNat (c.2.2.2.1.getD s.1.1.toNat 0)) 0)==s.1.1)&&((c.2.2.1.getD (Int.toNat (c.2.2.2.1.getD s.1.1.toNat 0)) 0)==s.1.1))) (K (false,())) ((inK .i64 (s.1.1+1))/\(next (((s.1.1+1),()),()))))))))) (bj (S:=bsd) (fun s1=>(fun next1=>((inK .i64 s1.1.1)->(cnd (decide (s1.1.1<(c.2.2.2.2.length:Int))) ((0<=s1.1.1)/\((s1.1.1<(c.2.2.2.2.length:Int))/\(cnd ((List.length (c.2.2.2.2.getD s1.1.1.toNat []):Int) != (c.2.1.length:Int)) (K (false,())) (bj (S:=bsd) (fun s2=>(fun next2=>((inK .i64 s2.1.1)->(cnd (decide (s2.1.1<(List.length (c.2.2.2.2.getD s1.1.1.toNat []):Int))) (ji (S:=(Unit×Unit)) (fun s3=>((inK .i64 (s2.1.1+1))/\(next2 (((s2.1.1+1),()),())))) (fun k=>((0<=s2.1.1)/\((s2.1.1<(List.length (c.2.2.2.2.getD s1.1.1.toNat []):Int))/\((0<=s1.1.1)/\((s1.1.1<(c.2.2.1.length:Int))/\((0<=s2.1.1)/\((s2.1.1<(c.2.1.length:Int))/\(cnd ((c.2.2.1.getD s1.1.1.toNat 0) != (c.2.1.getD s2.1.1.toNat 0)) (cnd ((List.getD (c.2.2.2.2.getD s1.1.1.toNat []) s2.1.1.toNat 0) != (-1)) (K (false,())) (k ((),()))) ((inK .i64 ((c.2.1.length:Int)-1))/\((((!(inR (List.getD (c.2.2.2.2.getD s1.1.1.toNat []) s2.1.1.toNat 0) 0 ((c.2.1.length:Int)-1)))=false)->(((List.getD (c.2.2.2.2.getD s1.1.1.toNat []) s2.1.1.toNat 0)<(c.2.1.length:Int))/\(((List.getD (c.2.2.2.2.getD s1.1.1.toNat []) s2.1.1.toNat 0)<(c.2.2.1.length:Int))/\(0<=(List.getD (c.2.2.2.2.getD s1.1.1.toNat []) s2.1.1.toNat 0)))))/\((((!(inR (List.getD (c.2.2.2.2.getD s1.1.1.toNat []) s2.1.1.toNat 0) 0 ((c.2.1.length:Int)-1)))=false)->((s1.1.1<(c.2.1.length:Int))/\(0<=s1.1.1)))/\((((!(inR (List.getD (c.2.2.2.2.getD s1.1.1.toNat []) s2.1.1.toNat 0) 0 ((c.2.1.length:Int)-1)))=false)->((s2.1.1<(c.2.2.1.length:Int))/\(0<=s2.1.1)))/\(cnd ((!(inR (List.getD (c.2.2.2.2.getD s1.1.1.toNat []) s2.1.1.toNat 0) 0 ((c.2.1.length:Int)-1)))||(!(((c.2.1.getD (Int.toNat (List.getD (c.2.2.2.2.getD s1.1.1.toNat []) s2.1.1.toNat 0)) 0)==(c.2.1.getD s1.1.1.toNat 0))&&((c.2.2.1.getD (Int.toNat (List.getD (c.2.2.2.2.getD s1.1.1.toNat []) s2.1.1.toNat 0)) 0)==(c.2.2.1.getD s2.1.1.toNat 0))))) (K (false,())) (k ((),())))))))))))))))) ((inK .i64 (s1.1.1+1))/\(next1 (((s1.1.1+1),()),()))))))) ((0,()),()))))) (K (true,())))))) ((0,()),())))))) ((0,()),())))))))
theorem ah6(c:be)(hok:ae (okL dg.args (c,())))(hpre:ae (dg.pre (c,()))):tj c (fun r=>r=dg.res (c,())):=by
 simp only[dg,okL,T.oks,T.ok,ap,ae,a0e,a0c,a0h]at hok hpre
 try dsimp only[T.den]at hok hpre
 unfold tj;refine⟨by grind[cnd,ck,ao,inR],by grind[cnd,ck,ao,inR],bd (fun hc=>?_) (fun hc=>⟨by rw[ao];have:=hok.2.1.1;grind[cnd,ck,ao],bd (fun hd=>?_) (fun hd=>?_)⟩)⟩
 ·simp only[dg];rw[aoq];intro h;have h1:=h.ob;have h2:=h.m;have h3:=h.lt;have h4:=h.fr;have h5:=h.to;simp only[inR]at hc;grind[cnd,ck,ao]
 ·simp only[dg];rw[aoq];intro h;have h1:=h.li;have h2:=h.ids;have h3:=h.lc;grind[cnd,ck,ao]
 simp only[inR,a2a,a2b,a0a,a06,a2n,a1f]at hc hd;obtain⟨⟨⟨⟨hob,hm⟩,hlt⟩,hfr⟩,hto⟩:=hc;obtain⟨⟨hli,hids⟩,hlc⟩:=hd;have bad:¬ShapeP c->(false,())=dg.res (c,()):=fun h=>by simp only[dg];rw[aoq h]
 refine m8 (n:=c.2.2.2.1.length) (fun x=>∀y:Int,0<=y->y<x->c.2.1.getD (c.2.2.2.1.getD y.toNat 0).toNat 0=y/\c.2.2.1.getD (c.2.2.2.1.getD y.toNat 0).toNat 0=y) (by omega) (by intro y h0 h1;omega) ?_ ?_
 ·intro x next h0 h1 hP hn hin
  have hb:=lj.1 hids x h0 h1
  try dsimp only
  refine au (fun _=>⟨h0,h1,hb.1,hb.2,by omega,bd (fun hx=>bad fun h=>?_) (fun hx=>?_)⟩) (fun h=>absurd h1 h)
  ·have:=h.idt x h0 (by omega);rw[this.1,this.2]at hx;simp at hx
  ·simp only[a2b,a0a,a0t]at hx;refine⟨by rw[ao];(try dsimp only);omega,hn fun y y0 y1=>?_⟩;by_cases e:y=x
   ·rw[e];exact hx
   ·exact hP y y0 (by omega)
 intro next hidt hin
 refine au (fun h=>absurd h (by dsimp only;omega)) (fun _=>?_);refine m8 (n:=c.2.2.2.2.length) (fun f=>∀f':Int,0<=f'->f'<f->(c.2.2.2.2.getD f'.toNat []).length=c.2.1.length/\∀g:Int,0<=g->g<c.2.1.length->uz c f' g=true) (by omega) (by intro y h0 h1;omega) ?_ ?_
 ·intro f next h0 h1 hP hn hin
  try dsimp only
  refine au (fun _=>⟨h0,h1,bd (fun hx=>bad fun h=>?_) (fun hx=>?_)⟩) (fun h=>absurd h1 h)
  ·have:=h.row f h0 (by omega);rw[this]at hx;simp at hx
  simp only[a1f]at hx;refine m8 (n:=(c.2.2.2.2.getD f.toNat []).length) (fun g=>∀g':Int,0<=g'->g'<g->uz c f g'=true) (by omega) (by intro y h0 h1;omega) ?_ ?_
  ·intro g next3 g0 g1 hP3 hn3 hin3
   try dsimp only
   refine au (fun _=>?_) (fun h=>absurd g1 h);refine il (fun _=>uz c f g=true) (fun _ hcell=>⟨by rw[ao];(try dsimp only);omega,hn3 fun g' y0 y1=>?_⟩) (fun k hk=>?_)
   ·by_cases e:g'=g
    ·rw[e];exact hcell
    ·exact hP3 g' y0 (by omega)
   have hcell:∀b,uz c f g=b->b=false->¬ShapeP c:=fun b h1 h2 h=>by have:=h.cell f g h0 (by omega) g0 (by omega);rw[h1,h2]at this;cases this
   have hk':=hk ((),());obtain⟨v,hv⟩:∃v,(c.2.2.2.2.getD f.toNat []).getD g.toNat 0=v:=⟨_,rfl⟩;have hR:uz c f g=zc c f g v:=by unfold uz gn;rw[hv]
   rw[hR]at hk';rw[hR]at hcell;rw[hv];clear hP3 hn3 hP hn hk hR hv hidt hok;refine⟨g0,g1,h0,by omega,g0,by omega,bd (fun ha=>bd (fun hb=>bad ?_) (fun hb=>hk' ?_)) (fun ha=>⟨by rw[ao];(try dsimp only);omega,fun hv=>?_,fun _=>⟨by omega,h0⟩,fun _=>⟨by omega,g0⟩,bd (fun hb=>bad ?_) (fun hb=>hk' ?_)⟩)⟩
   ·exact hcell _ rfl (by grind[cnd,ck,ao,zc])
   ·grind[cnd,ck,ao,zc]
   ·simp only[inR,a2b,a0a,a06]at hv;omega
   ·exact hcell _ rfl (by simp only[inR]at hb;grind[cnd,ck,ao,zc])
   ·simp only[inR]at hb;grind[cnd,ck,ao,zc]
  ·intro next3 hP3 hin3;refine au (fun h=>absurd h (by dsimp only;omega)) (fun _=>⟨by rw[ao];(try dsimp only);omega,hn fun f' y0 y1=>?_⟩);by_cases e:f'=f
   ·rw[e];exact⟨by omega,fun g g0 g1=>hP3 g g0 (by omega)⟩
   ·exact hP f' y0 (by omega)
 ·intro next2 hP2 hin2;refine au (fun h=>absurd h (by dsimp only;omega)) (fun _=>?_);simp only[dg];rw[bex ⟨hob,by omega,by omega,hfr,hto,by omega,hids,by omega,fun x a b=>hidt x a (by omega),fun f a b=>(hP2 f a (by omega)).1,fun f g a b d e=>(hP2 f a (by omega)).2 g d e⟩]
theorem ahc:b8 Tryz.prog 125 dg:=cg (Φ:=ahu) (ai tx (ai aj2 (ai uh (ai ajt aq)))) bi (by kernel_rfl) (fn:=Tryz.f125) (c:=bf Tryz.f125) (by kernel_rfl) (by kernel_rfl) (by kernel_rfl) dg rfl ag3 (cp [(2,43),(20,15),(4,28),(23,26)]) (by kernel_rfl) (by kernel_rfl) (by kernel_rfl) (by decide) (fun x K=>tj x.1 K) (fun _ _=>by kernel_rfl) (fun x h1 h2=>ah6 x.1 h1 h2)
theorem ShapeP.frm{c:be}(h:ShapeP c){f:Int}(h0:0<=f)(h1:f<c.2.1.length):0<=c.2.1.getD f.toNat 0/\c.2.1.getD f.toNat 0<c.1/\0<=c.2.2.1.getD f.toNat 0/\c.2.2.1.getD f.toNat 0<c.1:=by have a:=lj.1 h.fr f h0 h1;have b:=lj.1 h.to f h0 (by have:=h.lt;omega);exact⟨a.1,a.2,b.1,b.2⟩
theorem ShapeP.idn{c:be}(h:ShapeP c){x:Int}(h0:0<=x)(h1:x<c.1):0<=c.2.2.2.1.getD x.toNat 0/\c.2.2.2.1.getD x.toNat 0<c.2.1.length/\c.2.1.getD (c.2.2.2.1.getD x.toNat 0).toNat 0=x/\c.2.2.1.getD (c.2.2.2.1.getD x.toNat 0).toNat 0=x:=by have a:=lj.1 h.ids x h0 (by have:=h.li;omega);have b:=h.idt x h0 h1;exact⟨a.1,a.2,b.1,b.2⟩
theorem ShapeP.yes{c:be}(h:ShapeP c){f g:Int}(h0:0<=f)(h1:f<c.2.1.length)(g0:0<=g)(g1:g<c.2.1.length)(e:c.2.2.1.getD f.toNat 0=c.2.1.getD g.toNat 0) :
  0<=gn c f g/\gn c f g<c.2.1.length/\c.2.1.getD (gn c f g).toNat 0=c.2.1.getD f.toNat 0/\c.2.2.1.getD (gn c f g).toNat 0=c.2.2.1.getD g.toNat 0:=by
 have:=h.cell f g h0 h1 g0 g1;unfold uz zc at this;rw[d0 e]at this;simpa using this
theorem ShapeP.no{c:be}(h:ShapeP c){f g:Int}(h0:0<=f)(h1:f<c.2.1.length)(g0:0<=g)(g1:g<c.2.1.length)(e:c.2.2.1.getD f.toNat 0≠c.2.1.getD g.toNat 0):gn c f g=-1:=by have:=h.cell f g h0 h1 g0 g1;unfold uz zc at this;rw[ds e]at this;simpa using this
theorem ShapeP.comp{c:be}(h:ShapeP c){f g:Int}(h0:0<=f)(h1:f<c.2.1.length)(g0:0<=g)(g1:g<c.2.1.length):0<=gn c f g<->c.2.2.1.getD f.toNat 0=c.2.1.getD g.toNat 0:=by
 constructor
 ·intro h2;by_cases e:c.2.2.1.getD f.toNat 0=c.2.1.getD g.toNat 0
  ·exact e
  ·have:=h.no h0 h1 g0 g1 e;omega
 ·intro e;exact (h.yes h0 h1 g0 g1 e).1
def u5(c:be)(f:Int):Option (Int×Int×Int×Int):=if gn c (c.2.2.2.1.getD (c.2.1.getD f.toNat 0).toNat 0) f≠f\/gn c f (c.2.2.2.1.getD (c.2.2.1.getD f.toNat 0).toNat 0)≠f then some (1,f,0,0)else none
def x9(c:be)(f g h:Int):Option (Int×Int×Int×Int):=if c.2.2.1.getD g.toNat 0=c.2.1.getD h.toNat 0/\gn c (gn c f g) h≠gn c f (gn c g h)then some (2,f,g,h)else none
def vl(c:be)(f g:Int):Option (Int×Int×Int×Int):=if c.2.2.1.getD f.toNat 0=c.2.1.getD g.toNat 0 then l7 (x9 c f g) c.2.1.length 0 else none
def y4(c:be)(f:Int):Option (Int×Int×Int×Int):=l7 (vl c f) c.2.1.length 0
def ou(c:be):Int×Int×Int×Int:=orR (l7 (u5 c) c.2.1.length 0) (orR (l7 (y4 c) c.2.1.length 0) (0,0,0,0))
def gm:Ct:=⟨[(.pt aj)],[false],fun x=>[ShapeP x.1],[(false,(.fz (.int .i64))),(false,(.fz (.int .i64))),(false,(.fz (.int .i64))),(false,(.fz (.int .i64)))],fun x=>((ou x.1).1,(ou x.1).2.1,(ou x.1).2.2.1,(ou x.1).2.2.2,()),false,none⟩
def ai9:Ann:=(.s .n (.s .n (.s (.s .n (.l [(7,(.d (.int .i64)))] [] [0,6] .n)) (.s (.s .n (.l [(8,(.d (.int .i64)))] [] [0,6] (.s .n (.s (.s .n (.l [(9,(.d (.int .i64)))] [] [0,6,8] (.s .n (.s (.j [] [] [0,6,8,9] (.s .n (.s .n (.l [(10,(.d (.int .i64)))] [] [0,6,8,9] .n)))) .n)))) .n)))) .n))))
def aja:FuncId->Option Ct:=lkp [(104,fy),(79,je)]
def vn(c:be)(K:Int×Int×Int×Int×Unit->Prop):Prop:=(bj (S:=bsd) (fun s=>(fun next=>((inK .i64 s.1.1)->(cnd (decide (s.1.1<(c.2.1.length:Int))) ((0<=s.1.1)/\((s.1.1<(c.2.1.length:Int))/\((0<=(c.2.1.getD s.1.1.toNat 0))/\(((c.2.1.getD s.1.1.toNat 0)<(c.2.2.2.1.length:Int))/\((0<=(c.2.2.2.1.getD (Int.toNat (c.2.1.getD s.1.1.toNat 0)) 0))/\(((c.2.2.2.1.getD (Int.toNat (c.2.1.getD s.1.1.toNat 0)) 0)<(c.2.2.2.2.length:Int))/\((0<=s.1.1)/\((s.1.1<(((List.length (c.2.2.2.2.getD (Int.toNat (c.2.2.2.1.getD (Int.toNat (c.2.1.getD s.1.1.toNat 0)) 0)) [])):Nat):Int))/\(((((gn c (c.2.2.2.1.getD (Int.toNat (c.2.1.getD s.1.1.toNat 0)) 0) s.1.1) != s.1.1)=false)->((s.1.1<(c.2.2.1.length:Int))/\(0<=s.1.1)))/\(((((gn c (c.2.2.2.1.getD (Int.toNat (c.2.1.getD s.1.1.toNat 0)) 0) s.1.1) != s.1.1)=false)->(((c.2.2.1.getD s.1.1.toNat 0)<(c.2.2.2.1.length:Int))/\(0<=(c.2.2.1.getD s.1.1.toNat 0))))/\(((((gn c (c.2.2.2.1.getD (Int.toNat (c.2.1.getD s.1.1.toNat 0)) 0) s.1.1) != s.1.1)=false)->((s.1.1<(c.2.2.2.2.length:Int))/\((0<=(c.2.2.2.1.getD (Int.toNat (c.2.2.1.getD s.1.1.toNat 0)) 0))/\(((c.2.2.2.1.getD (Int.toNat (c.2.2.1.getD s.1.1.toNat 0)) 0)<(List.length (c.2.2.2.2.getD s.1.1.toNat []):Int))/\(0<=s.1.1)))))/\(cnd (((gn c (c.2.2.2.1.getD (Int.toNat (c.2.1.getD s.1.1.toNat 0)) 0) s.1.1) != s.1.1)||((gn c s.1.1 (c.2.2.2.1.getD (Int.toNat (c.2.2.1.getD s.1.1.toNat 0)) 0)) != s.1.1)) (K (1,(s.1.1,(0,(0,()))))) ((inK .i64 (s.1.1+1))/\(next (((s.1.1+1),()),()))))))))))))))) (bj (S:=bsd) (fun s1=>(fun next1=>((inK .i64 s1.1.1)->(cnd (decide (s1.1.1<(c.2.1.length:Int))) (bj (S:=bsd) (fun s2=>(fun next2=>((inK .i64 s2.1.1)->(cnd (decide (s2.1.1<(c.2.1.length:Int))) (ji (S:=(Unit×Unit)) (fun s3=>((inK .i64 (s2.1.1+1))/\(next2 (((s2.1.1+1),()),())))) (fun k=>((0<=s1.1.1)/\((s1.1.1<(c.2.2.2.2.length:Int))/\((0<=s2.1.1)/\((s2.1.1<(List.length (c.2.2.2.2.getD s1.1.1.toNat []):Int))/\(cnd (decide ((gn c s1.1.1 s2.1.1)<0)) (k ((),())) (bj (S:=bsd) (fun s3=>(fun next3=>((inK .i64 s3.1.1)->(cnd (decide (s3.1.1<(c.2.1.length:Int))) ((0<=s2.1.1)/\((s2.1.1<(c.2.2.2.2.length:Int))/\((0<=s3.1.1)/\((s3.1.1<(List.length (c.2.2.2.2.getD s2.1.1.toNat []):Int))/\((((decide (0<=(gn c s2.1.1 s3.1.1)))=true)->((s1.1.1<(c.2.2.2.2.length:Int))/\((0<=s2.1.1)/\((s2.1.1<(List.length (c.2.2.2.2.getD s1.1.1.toNat []):Int))/\(0<=s1.1.1)))))/\((((decide (0<=(gn c s2.1.1 s3.1.1)))=true)->(((gn c s1.1.1 s2.1.1)<(c.2.2.2.2.length:Int))/\((0<=s3.1.1)/\((s3.1.1<(((List.length (c.2.2.2.2.getD (Int.toNat (gn c s1.1.1 s2.1.1)) [])):Nat):Int))/\(0<=(gn c s1.1.1 s2.1.1))))))/\((((decide (0<=(gn c s2.1.1 s3.1.1)))=true)->((s2.1.1<(c.2.2.2.2.length:Int))/\((0<=s3.1.1)/\((s3.1.1<(List.length (c.2.2.2.2.getD s2.1.1.toNat []):Int))/\(0<=s2.1.1)))))/\((((decide (0<=(gn c s2.1.1 s3.1.1)))=true)->((s1.1.1<(c.2.2.2.2.length:Int))/\((0<=(gn c s2.1.1 s3.1.1))/\(((gn c s2.1.1 s3.1.1)<(List.length (c.2.2.2.2.getD s1.1.1.toNat []):Int))/\(0<=s1.1.1)))))/\(cnd ((decide (0<=(gn c s2.1.1 s3.1.1)))&&((gn c (gn c s1.1.1 s2.1.1) s3.1.1) != (gn c s1.1.1 (gn c s2.1.1 s3.1.1)))) (K (2,(s1.1.1,(s2.1.1,(s3.1.1,()))))) ((inK .i64 (s3.1.1+1))/\(next3 (((s3.1.1+1),()),())))))))))))) (k ((),())))))) ((0,()),()))))))))) ((inK .i64 (s1.1.1+1))/\(next1 (((s1.1.1+1),()),()))))))) ((0,()),())) (K (0,(0,(0,(0,()))))))))) ((0,()),())))))) ((0,()),()))
theorem ajr(c:be)(hok:ae (okL gm.args (c,())))(hpre:ae (gm.pre (c,()))):vn c (fun r=>r=gm.res (c,())):=by
 simp only[gm,okL,T.oks,T.ok,ap,ae,a0e,a0c,a0h]at hok hpre
 try dsimp only[T.den]at hok hpre
 unfold vn;have S:ShapeP c:=hpre;have hlt:=S.lt;have hli:=S.li;have hlc:=S.lc;have hmm:=S.m;have resq:∀a b d e,ou c=(a,b,d,e)->(a,b,d,e,())=gm.res (c,()):=fun a b d e h=>by simp only[gm,h]
 refine m8 (n:=c.2.1.length) (fun f=>l7 (u5 c) c.2.1.length 0=l7 (u5 c) ((c.2.1.length:Int)-f).toNat f) (by omega) aeq ?_ ?_
 ·intro f next h0 h1 hP hn hin
  try dsimp only
  obtain⟨a1,a2,a3,a4⟩:=S.frm h0 h1;obtain⟨b1,b2,_,_⟩:=S.idn a1 a2;obtain⟨d1,d2,_,_⟩:=S.idn a3 a4;have r1:=S.row _ b1 b2;have r2:=S.row f h0 h1;refine au (fun _=>⟨h0,h1,by omega,by omega,by omega,by omega,h0,by omega,fun _=>by omega,fun _=>by omega,fun _=>by omega,bd (fun hx=>resq _ _ _ _ ?_) (fun hx=>⟨by rw[ao];(try dsimp only);omega,hn ?_⟩)⟩) (fun h=>absurd h1 h)
  ·have:u5 c f=some (1,f,0,0):=by unfold u5;rw[d0];simpa using hx
   unfold ou;rw[hP,aer h1 this];rfl
  ·have:u5 c f=none:=by unfold u5;rw[ds];simpa using hx
   rw[hP,ael h1 this]
 intro next hI hin
 rw[aed]at hI;refine au (fun h=>absurd h (by dsimp only;omega)) (fun _=>?_);have hF:ou c=orR (l7 (y4 c) c.2.1.length 0) (0,0,0,0):=by unfold ou;rw[hI];rfl
 refine m8 (n:=c.2.1.length) (fun f=>l7 (y4 c) c.2.1.length 0=l7 (y4 c) ((c.2.1.length:Int)-f).toNat f) (by omega) aeq ?_ ?_
 ·intro f next h0 h1 hP hn hin
  try dsimp only
  refine au (fun _=>?_) (fun h=>absurd h1 h);have r1:=S.row f h0 h1;refine m8 (n:=c.2.1.length) (fun g=>y4 c f=l7 (vl c f) ((c.2.1.length:Int)-g).toNat g) (by omega) aeq ?_ ?_
  ·intro g next3 g0 g1 hP3 hn3 hin3
   try dsimp only
   refine au (fun _=>?_) (fun h=>absurd g1 h);have r2:=S.row g g0 g1;refine il (fun _=>vl c f g=none) (fun _ hG=>⟨by rw[ao];(try dsimp only);omega,hn3 (by rw[hP3,ael g1 hG])⟩) (fun k hk=>?_);have hk':=hk ((),());refine⟨by omega,by omega,by omega,by omega,au (fun hx=>hk' ?_) (fun hx=>?_)⟩
   ·unfold vl;rw[ds];intro e;have:=(S.comp h0 h1 g0 g1).2 e;omega
   have hfg:=(S.comp h0 h1 g0 g1).1 (by omega);obtain⟨y1,y2,_,_⟩:=S.yes h0 h1 g0 g1 hfg;refine m8 (n:=c.2.1.length) (fun h=>vl c f g=l7 (x9 c f g) ((c.2.1.length:Int)-h).toNat h) (by omega) (by unfold vl;rw[d0 hfg];exact aeq) ?_ ?_
   ·intro h next4 i0 i1 hP4 hn4 hin4
    try dsimp only
    refine au (fun _=>?_) (fun h=>absurd i1 h);have r3:=S.row _ y1 y2;have cgh:=S.comp g0 g1 i0 i1;have ygh:=@ShapeP.yes c S g h g0 g1 i0 i1;refine⟨by omega,by omega,by omega,by omega,fun _=>by omega,fun _=>by omega,fun _=>by omega,fun he=>?_,bd (fun hx=>resq _ _ _ _ ?_) (fun hx=>⟨by rw[ao];(try dsimp only);omega,hn4 ?_⟩)⟩
    ·have:=ygh (cgh.1 (by simpa using he));omega
    ·have:x9 c f g h=some (2,f,g,h):=by unfold x9;rw[d0];rw[←cgh];simpa using hx
     have e1:vl c f g=some (2,f,g,h):=by rw[hP4,aer i1 this]
     have e2:y4 c f=some (2,f,g,h):=by rw[hP3,aer g1 e1]
     rw[hF,hP,aer h1 e2];rfl
    ·have:x9 c f g h=none:=by unfold x9;rw[ds];rw[←cgh];simpa using hx
     rw[hP4,ael i1 this]
   ·intro next4 hP4 hin4;rw[aed]at hP4;exact au (fun h=>absurd h (by dsimp only;omega)) (fun _=>hk' hP4)
  ·intro next3 hP3 hin3;rw[aed]at hP3;exact au (fun h=>absurd h (by dsimp only;omega)) (fun _=>⟨by rw[ao];(try dsimp only);omega,hn (by rw[hP,ael h1 hP3])⟩)
 ·intro next2 hP2 hin2;rw[aed]at hP2;refine au (fun h=>absurd h (by dsimp only;omega)) (fun _=>resq _ _ _ _ ?_);rw[hF,hP2];rfl
theorem ajc:b8 Tryz.prog 126 gm:=cg (Φ:=aja) (ai tx (ai aa2 aq)) bi (by kernel_rfl) (fn:=Tryz.f126) (c:=bf Tryz.f126) (by kernel_rfl) (by kernel_rfl) (by kernel_rfl) gm rfl ai9 (cp [(5,38)]) (by kernel_rfl) (by kernel_rfl) (by kernel_rfl) (by decide) (fun x K=>vn x.1 K) (fun _ _=>by kernel_rfl) (fun x h1 h2=>ajr x.1 h1 h2)
structure TabRP (o:be) (a:List Int) (c:be) (b:List Int):Prop where
 sh:ShapeP c
 lb:b.length=c.2.1.length
 wb:bz b c.2.1.length=true
 la:a.length=c.2.1.length
 lo:o.2.1.length=c.2.1.length
 lt:o.2.2.1.length=c.2.1.length
 co:∀f g:Int,0<=f->f<c.2.1.length->0<=g->g<c.2.1.length->o.2.2.1.getD f.toNat 0=o.2.1.getD g.toNat 0->c.2.2.1.getD (b.getD f.toNat 0).toNat 0=c.2.1.getD (b.getD g.toNat 0).toNat 0
def ala(o:be)(F:Int->Int->Int)(f g:Int):Int:=if o.2.2.1.getD f.toNat 0=o.2.1.getD g.toNat 0 then F f g else -1
def sr(o:be)(F:Int->Int->Int):List (List Int):=dx o.2.1.length fun f=>dx o.2.1.length fun g=>ala o F f g
def tbT(F:Int->Int->Int)(n:Nat)(i j:Int):List (List Int):=dx n fun e=>if e=i then (dx n fun g=>if g<j then F i g else 0)else if e<i then dx n (F e)else []
theorem avu{F:Int->Int->Int}{n:Nat}{i j:Int}:(tbT F n i j).length=n:=bp _
theorem avn{F:Int->Int->Int}{n:Nat}{i j:Int}(i0:0<=i)(i1:i<n):(tbT F n i j).getD i.toNat []=dx n fun g=>if g<j then F i g else 0:=by unfold tbT;rw[pc i0 i1,d0 rfl]
theorem bq4{F:Int->Int->Int}{n:Nat}{i j:Int}(i0:0<=i)(i1:i<n)(j0:0<=j)(j1:j<n):(tbT F n i j).set i.toNat (((tbT F n i j).getD i.toNat []).set j.toNat (F i j))=tbT F n i (j+1):=by
 rw[avn i0 i1,y7 j0 j1];unfold tbT;rw[y7 i0 i1];refine di fun e _ _=>?_;by_cases h:e=i
 ·rw[d0 h,d0 h];refine di fun g _ _=>?_;by_cases hg:g=j
  ·rw[d0 hg,d0 (by omega),hg]
  ·rw[ds hg];by_cases h2:g<j
   ·rw[d0 h2,d0 (by omega)]
   ·rw[ds h2,ds (by omega)]
 ·rw[ds h,ds h,ds h]
theorem biy{A:List (List Int)}{i j:Nat}{w v:Int}(h:i<A.length):(A.set i ((A.getD i []).set j w)).set i (((A.set i ((A.getD i []).set j w)).getD i []).set j v)=A.set i ((A.getD i []).set j v):=by rw[aax _ _ _ _ _ h,d0 rfl,List.set_set,List.set_set]
theorem brr{F:Int->Int->Int}{n:Nat}{i:Int}(i0:0<=i)(i1:i<n):(dx n fun e=>if e<i then dx n (F e)else []).set i.toNat (dx n fun _=>0)=tbT F n i 0:=by
 rw[y7 i0 i1];unfold tbT;refine di fun e _ _=>?_;by_cases h:e=i
 ·rw[d0 h,d0 h];exact di fun g g0 _=>by rw[ds (by omega)]
 ·rw[ds h,ds h]
theorem bq6{F:Int->Int->Int}{n:Nat}{i:Int}:tbT F n i n=dx n fun e=>if e<i+1 then dx n (F e)else []:=by
 unfold tbT;refine di fun e _ _=>?_;by_cases h:e=i
 ·rw[d0 h,d0 (by omega),h];exact di fun g _ g1=>by rw[d0 g1]
 ·rw[ds h];by_cases h2:e<i
  ·rw[d0 h2,d0 (by omega)]
  ·rw[ds h2,ds (by omega)]
abbrev bms:Type:=ac×(be×((List Int)×(List ab)))
structure PrtP (o:bms) (k:al) (number:List Int):Prop where
 lf:o.2.1.2.1.length=o.2.2.2.length
 lt:o.2.1.2.2.1.length=o.2.2.2.length
 le:o.2.2.2.length<=40
 pv:∀f g:Int,0<=f->f<o.2.2.2.length->0<=g->g<o.2.2.2.length->o.2.1.2.2.1.getD f.toNat 0=o.2.1.2.1.getD g.toNat 0->PrvP k number o.2.2.2 f g
theorem axe{Z Z2 Y:Type}{n:Int}(z:Z)(z2:Z2)(y:Int->Y){y0:Y}{body:(Unit×((Unit×(Z×(Z2×Unit)))×(Int×Unit)))×(Y×Unit)->((Unit×((Unit×(Z×(Z2×Unit)))×(Int×Unit)))×(Y×Unit)->Prop)->Prop}(hn0:0<=n)(h0:y0=y 0)
  (hs:∀i next,0<=i->i<n->next (((),(((),(z,(z2,()))),(i+1,()))),(y (i+1),()))->body (((),(((),(z,(z2,()))),(i,()))),(y i,())) next)
  (he:∀next,body (((),(((),(z,(z2,()))),(n,()))),(y n,())) next):bj body (((),(((),(z,(z2,()))),(0,()))),(y0,())):=by
 refine bw (fun s=>s.1.2.1.2.1=z/\s.1.2.1.2.2.1=z2/\s.2.1=y s.1.2.2.1/\0<=s.1.2.2.1/\s.1.2.2.1<=n) (fun s=>(n-s.1.2.2.1).toNat) ?_ ⟨rfl,rfl,h0,a0r _,hn0⟩;rintro⟨⟨_,⟨_,q,q2,_⟩,i,_⟩,t,_⟩ next ⟨hz,hz2,hy,h1,h2⟩ hnx
 dsimp only at hz hz2 hy h1 h2 hnx;subst hz;subst hz2;subst hy;by_cases e:i=n
 ·subst e;exact he next
 ·exact hs i next h1 (by omega) (hnx _ ⟨rfl,rfl,rfl,by dsimp only;omega,by dsimp only;omega⟩ (by dsimp only;omega))
def gh:Wa:=⟨(.pt (.p (.fz (.pt SchemaT)) (.p (.p (.fz (.int .i64)) (.p (.sl (.fz (.int .i64))) (.p (.sl (.fz (.int .i64))) (.p (.sl (.fz (.int .i64))) (.sl (.sl (.fz (.int .i64)))))))) (.p (.sl (.fz (.int .i64))) (.sl (.fz ak)))))),[.de,.r,.l],[(.fn 97 (.p (.pt .any) (.p (.pt (.pt nq)) (.p (.pt (.sl (.int .i64))) .u))))],fun x y=>[PrtP x y.1.2.1 y.1.2.2.1],fun x y=>(x.1,((x.2.1.1,x.2.1.2.1,x.2.1.2.2.1,x.2.1.2.2.2.1,sr x.2.1 (u6 y.1.2.1 y.1.2.2.1 x.2.2.2)),x.2.2))⟩
def ww:Ct:=waCt gh
def aej:Ann:=(.s .n (.s .n (.s .n (.l [(0,(.ad 1000000 [.de,.r,.l])),(1,(.fc 97 (.pr (.bx (.ad 1000000 [.de])) (.pr (.d (.pt (.pt (.p (.mp .str (.int .i64)) (.p (.sl (.int .i64)) (.sl (.p (.int .i64) (.sl (.int .i64))))))))) (.pr (.d (.pt (.sl (.int .i64)))) .u))))),(19,(.d (.int .i64)))] [(1000000,(.pt (.p (.fz (.pt (.p (.int .i64) (.p (.sl (.int .i64)) (.p (.sl (.int .i64)) (.p (.sl (.p (.int .i64) (.sl (.int .i64)))) (.sl (.p (.int .i64) (.sl (.int .i64)))))))))) (.p (.p (.fz (.int .i64)) (.p (.sl (.fz (.int .i64))) (.p (.sl (.fz (.int .i64))) (.p (.sl (.fz (.int .i64))) (.sl (.sl (.fz (.int .i64)))))))) (.p (.sl (.fz (.int .i64))) (.sl (.fz (.p (.int .i64) (.sl (.int .i64))))))))))] [4,18] (.s .n (.s .n (.s (.s .n (.s .n (.s .n (.l [(0,(.ad 1000000 [.de,.r,.l])),(1,(.fc 97 (.pr (.bx (.ad 1000000 [.de])) (.pr (.d (.pt (.pt (.p (.mp .str (.int .i64)) (.p (.sl (.int .i64)) (.sl (.p (.int .i64) (.sl (.int .i64))))))))) (.pr (.d (.pt (.sl (.int .i64)))) .u))))),(38,(.d (.int .i64)))] [(1000000,(.pt (.p (.fz (.pt (.p (.int .i64) (.p (.sl (.int .i64)) (.p (.sl (.int .i64)) (.p (.sl (.p (.int .i64) (.sl (.int .i64)))) (.sl (.p (.int .i64) (.sl (.int .i64)))))))))) (.p (.p (.fz (.int .i64)) (.p (.sl (.fz (.int .i64))) (.p (.sl (.fz (.int .i64))) (.p (.sl (.fz (.int .i64))) (.sl (.sl (.fz (.int .i64)))))))) (.p (.sl (.fz (.int .i64))) (.sl (.fz (.p (.int .i64) (.sl (.int .i64))))))))))] [4,5,18,19,37] (.s .n (.s .n (.s (.s .n (.s .n (.s .n (.j [(0,(.ad 1000000 [.de,.r,.l])),(1,(.fc 97 (.pr (.bx (.ad 1000000 [.de])) (.pr (.d (.pt (.pt (.p (.mp .str (.int .i64)) (.p (.sl (.int .i64)) (.sl (.p (.int .i64) (.sl (.int .i64))))))))) (.pr (.d (.pt (.sl (.int .i64)))) .u)))))] [(1000000,(.pt (.p (.fz (.pt (.p (.int .i64) (.p (.sl (.int .i64)) (.p (.sl (.int .i64)) (.p (.sl (.p (.int .i64) (.sl (.int .i64)))) (.sl (.p (.int .i64) (.sl (.int .i64)))))))))) (.p (.p (.fz (.int .i64)) (.p (.sl (.fz (.int .i64))) (.p (.sl (.fz (.int .i64))) (.p (.sl (.fz (.int .i64))) (.sl (.sl (.fz (.int .i64)))))))) (.p (.sl (.fz (.int .i64))) (.sl (.fz (.p (.int .i64) (.sl (.int .i64))))))))))] [4,5,18,19,37,38] .n)))) .n))))))) .n)))))))
def aew:FuncId->Option Ct:=lkp [(97,fd),(104,fy)]
def w5(c:T.den k8)(composite:Unit×(al×bsc))(K:(T.den k8)->Prop):Prop:=((0<=(c.2.1.2.1.length:Int))/\(((c.2.1.2.1.length:Int)<=(c.2.1.2.1.length:Int))/\(((c.2.1.2.1.length:Int)<=((140737488355328:Nat):Int))/\((((c.2.1.2.1.length:Int)*((24:Nat):Int))<=((140737488355328:Nat):Int))/\(bj (S:=((Unit×((Unit×(((List (ByteArray×Int))×bse)×bsc))×(Int×Unit)))×br8)) (fun s=>(fun next=>((T.ok (T.mp T.str (.int .i64)) s.1.2.1.2.1.1)->((T.ok (.sl (.int .i64)) s.1.2.1.2.1.2.1)->((T.ok (.sl ak) s.1.2.1.2.1.2.2)->((T.ok (.sl (.int .i64)) s.1.2.1.2.2.1)->((inK .i64 s.1.2.2.1)->((inK .i64 s.2.1.1.1)->((T.ok (.sl (.int .i64)) s.2.1.1.2.1)->((T.ok (.sl (.int .i64)) s.2.1.1.2.2.1)->((T.ok (.sl ak) s.2.1.1.2.2.2.1)->((T.ok (.sl ak) s.2.1.1.2.2.2.2)->((inK .i64 s.2.1.2.1.1)->((T.ok (.sl (.int .i64)) s.2.1.2.1.2.1)->((T.ok (.sl (.int .i64)) s.2.1.2.1.2.2.1)->((T.ok (.sl (.int .i64)) s.2.1.2.1.2.2.2.1)->((T.ok (.sl (.sl (.int .i64))) s.2.1.2.1.2.2.2.2)->((T.ok (.sl (.int .i64)) s.2.1.2.2.1)->((T.ok (.sl ak) s.2.1.2.2.2)->(cnd (decide (s.1.2.2.1<(((List.length (List.replicate (Int.toNat (c.2.1.2.1.length:Int)) ([]:List Int))):Nat):Int))) ((0<=(c.2.1.2.1.length:Int))/\(((c.2.1.2.1.length:Int)<=(c.2.1.2.1.length:Int))/\(((c.2.1.2.1.length:Int)<=((140737488355328:Nat):Int))/\((((c.2.1.2.1.length:Int)*((8:Nat):Int))<=((140737488355328:Nat):Int))/\((0<=s.1.2.2.1)/\((s.1.2.2.1<(s.2.1.2.1.2.2.2.2.length:Int))/\((0<=s.1.2.2.1)/\((s.1.2.2.1<(((List.length (List.set s.2.1.2.1.2.2.2.2 s.1.2.2.1.toNat (List.replicate (Int.toNat (c.2.1.2.1.length:Int)) (0:Int)))):Nat):Int))/\(bj (S:=((Unit×((Unit×(((List (ByteArray×Int))×bse)×bsc))×(Int×Unit)))×br8)) (fun s1=>(fun next1=>((T.ok (T.mp T.str (.int .i64)) s1.1.2.1.2.1.1)->((T.ok (.sl (.int .i64)) s1.1.2.1.2.1.2.1)->((T.ok (.sl ak) s1.1.2.1.2.1.2.2)->((T.ok (.sl (.int .i64)) s1.1.2.1.2.2.1)->((inK .i64 s1.1.2.2.1)->((inK .i64 s1.2.1.1.1)->((T.ok (.sl (.int .i64)) s1.2.1.1.2.1)->((T.ok (.sl (.int .i64)) s1.2.1.1.2.2.1)->((T.ok (.sl ak) s1.2.1.1.2.2.2.1)->((T.ok (.sl ak) s1.2.1.1.2.2.2.2)->((inK .i64 s1.2.1.2.1.1)->((T.ok (.sl (.int .i64)) s1.2.1.2.1.2.1)->((T.ok (.sl (.int .i64)) s1.2.1.2.1.2.2.1)->((T.ok (.sl (.int .i64)) s1.2.1.2.1.2.2.2.1)->((T.ok (.sl (.sl (.int .i64))) s1.2.1.2.1.2.2.2.2)->((T.ok (.sl (.int .i64)) s1.2.1.2.2.1)->((T.ok (.sl ak) s1.2.1.2.2.2)->(cnd (decide (s1.1.2.2.1<(((List.length (List.getD (List.set s.2.1.2.1.2.2.2.2 s.1.2.2.1.toNat (List.replicate (Int.toNat (c.2.1.2.1.length:Int)) (0:Int))) s.1.2.2.1.toNat [])):Nat):Int))) ((0<=s.1.2.2.1)/\((s.1.2.2.1<(s1.2.1.2.1.2.2.2.2.length:Int))/\((0<=s1.1.2.2.1)/\((s1.1.2.2.1<(List.length (s1.2.1.2.1.2.2.2.2.getD s.1.2.2.1.toNat []):Int))/\((0<=s.1.2.2.1)/\((s.1.2.2.1<(s1.2.1.2.1.2.2.1.length:Int))/\((0<=s1.1.2.2.1)/\((s1.1.2.2.1<(s1.2.1.2.1.2.1.length:Int))/\(ji (S:=((Unit×((Unit×(((List (ByteArray×Int))×bse)×bsc))×Unit))×br8)) (fun s2=>((T.ok (T.mp T.str (.int .i64)) s2.1.2.1.2.1.1)->((T.ok (.sl (.int .i64)) s2.1.2.1.2.1.2.1)->((T.ok (.sl ak) s2.1.2.1.2.1.2.2)->((T.ok (.sl (.int .i64)) s2.1.2.1.2.2.1)->((inK .i64 s2.2.1.1.1)->((T.ok (.sl (.int .i64)) s2.2.1.1.2.1)->((T.ok (.sl (.int .i64)) s2.2.1.1.2.2.1)->((T.ok (.sl ak) s2.2.1.1.2.2.2.1)->((T.ok (.sl ak) s2.2.1.1.2.2.2.2)->((inK .i64 s2.2.1.2.1.1)->((T.ok (.sl (.int .i64)) s2.2.1.2.1.2.1)->((T.ok (.sl (.int .i64)) s2.2.1.2.1.2.2.1)->((T.ok (.sl (.int .i64)) s2.2.1.2.1.2.2.2.1)->((T.ok (.sl (.sl (.int .i64))) s2.2.1.2.1.2.2.2.2)->((T.ok (.sl (.int .i64)) s2.2.1.2.2.1)->((T.ok (.sl ak) s2.2.1.2.2.2)->((inK .i64 (s1.1.2.2.1+1))/\(next1 (((),(((),(s2.1.2.1.2.1,(s2.1.2.1.2.2.1,()))),((s1.1.2.2.1+1),()))),(s2.2.1,()))))))))))))))))))))) (fun k=>(cnd ((s1.2.1.2.1.2.2.1.getD s.1.2.2.1.toNat 0)==(s1.2.1.2.1.2.1.getD s1.1.2.2.1.toNat 0)) ((0<=s.1.2.2.1)/\((s.1.2.2.1<(((List.length (List.set s1.2.1.2.1.2.2.2.2 s.1.2.2.1.toNat (List.set (s1.2.1.2.1.2.2.2.2.getD s.1.2.2.1.toNat []) s1.1.2.2.1.toNat (-1)))):Nat):Int))/\((PrvP s1.1.2.1.2.1 s1.1.2.1.2.2.1 s1.2.1.2.2.2 s.1.2.2.1 s1.1.2.2.1)/\((0<=s1.1.2.2.1)/\((s1.1.2.2.1<(((List.length (List.getD (List.set s1.2.1.2.1.2.2.2.2 s.1.2.2.1.toNat (List.set (s1.2.1.2.1.2.2.2.2.getD s.1.2.2.1.toNat []) s1.1.2.2.1.toNat (-1))) s.1.2.2.1.toNat [])):Nat):Int))/\(k (((),(((),(s1.1.2.1.2.1,(s1.1.2.1.2.2.1,()))),())),((s1.2.1.1,((s1.2.1.2.1.1,(s1.2.1.2.1.2.1,(s1.2.1.2.1.2.2.1,(s1.2.1.2.1.2.2.2.1,(List.set (List.set s1.2.1.2.1.2.2.2.2 s.1.2.2.1.toNat (List.set (s1.2.1.2.1.2.2.2.2.getD s.1.2.2.1.toNat []) s1.1.2.2.1.toNat (-1))) s.1.2.2.1.toNat (List.set (List.getD (List.set s1.2.1.2.1.2.2.2.2 s.1.2.2.1.toNat (List.set (s1.2.1.2.1.2.2.2.2.getD s.1.2.2.1.toNat []) s1.1.2.2.1.toNat (-1))) s.1.2.2.1.toNat []) s1.1.2.2.1.toNat (u6 s1.1.2.1.2.1 s1.1.2.1.2.2.1 s1.2.1.2.2.2 s.1.2.2.1 s1.1.2.2.1))))))),s1.2.1.2.2)),())))))))) (k (((),(((),(s1.1.2.1.2.1,(s1.1.2.1.2.2.1,()))),())),((s1.2.1.1,((s1.2.1.2.1.1,(s1.2.1.2.1.2.1,(s1.2.1.2.1.2.2.1,(s1.2.1.2.1.2.2.2.1,(List.set s1.2.1.2.1.2.2.2.2 s.1.2.2.1.toNat (List.set (s1.2.1.2.1.2.2.2.2.getD s.1.2.2.1.toNat []) s1.1.2.2.1.toNat (-1))))))),s1.2.1.2.2)),())))))))))))))) ((inK .i64 (s.1.2.2.1+1))/\(next (((),(((),(s1.1.2.1.2.1,(s1.1.2.1.2.2.1,()))),((s.1.2.2.1+1),()))),(s1.2.1,())))))))))))))))))))))))) (((),(((),(s.1.2.1.2.1,(s.1.2.1.2.2.1,()))),(0,()))),((s.2.1.1,((s.2.1.2.1.1,(s.2.1.2.1.2.1,(s.2.1.2.1.2.2.1,(s.2.1.2.1.2.2.2.1,(List.set s.2.1.2.1.2.2.2.2 s.1.2.2.1.toNat (List.replicate (Int.toNat (c.2.1.2.1.length:Int)) (0:Int))))))),s.2.1.2.2)),()))))))))))) (K s.2.1))))))))))))))))))))) (((),(((),(composite.2.1,(composite.2.2.1,()))),(0,()))),((c.1,((c.2.1.1,(c.2.1.2.1,(c.2.1.2.2.1,(c.2.1.2.2.2.1,(List.replicate (Int.toNat (c.2.1.2.1.length:Int)) ([]:List Int)))))),c.2.2)),())))))))
theorem afi(c:T.den k8)(composite:Unit×(al×bsc))(hok:ae (gh.o.strip.oks c))(hok2:ae (okL gh.as (composite,())))(hpre:ae (gh.pre c (composite,()))):w5 c composite (fun z=>z=gh.new c (composite,())):=by
 simp only[gh,O.strip,okL,T.oks,T.ok,ap,ae,a0e,a0c,a0h]at hok hok2 hpre
 try dsimp only[T.den]at hok
 try dsimp only[T.den]at hok2
 try dsimp only[T.den]at hpre
 unfold w5;obtain⟨_,z,u,_⟩:=composite;have P:PrtP c z u:=hpre;have hlf:=P.lf;have hlt:=P.lt;have hle:=P.le;have pv:=P.pv;have hnew:∀q,q=sr c.2.1 (u6 z u c.2.2.2)->(c.1,((c.2.1.1,(c.2.1.2.1,(c.2.1.2.2.1,(c.2.1.2.2.2.1,q)))),c.2.2))=(c.1,((c.2.1.1,(c.2.1.2.1,(c.2.1.2.2.1,(c.2.1.2.2.2.1,sr c.2.1 (u6 z u c.2.2.2))))),c.2.2)):=fun q h=>by rw[h]
 clear hok hok2 hpre P
 try dsimp only
 have hR:sr c.2.1 (u6 z u c.2.2.2)=dx c.2.1.2.1.length fun e=>dx c.2.1.2.1.length (ala c.2.1 (u6 z u c.2.2.2) e):=rfl;refine⟨by omega,by omega,by omega,by omega,?_⟩;simp only[a0m,age,bp];rw[←hlf]at hle pv hlt;generalize hn:c.2.1.2.1.length=n at *;generalize hF:ala c.2.1 (u6 z u c.2.2.2)=F at *;refine axe (n:=n) z u (fun i=>(c.1,((c.2.1.1,(c.2.1.2.1,(c.2.1.2.2.1,(c.2.1.2.2.2.1,dx n fun e=>if e<i then dx n (F e)else [])))),c.2.2))) (by omega) (congrArg (fun q=>(c.1,((c.2.1.1,(c.2.1.2.1,(c.2.1.2.2.1,(c.2.1.2.2.2.1,q)))),c.2.2))) (di fun e h0 _=>by rw[ds (by omega)])) ?_ ?_
 ·intro i next i0 i1 hnx
  intros
  try dsimp only
  refine au (fun _=>⟨by omega,by omega,by omega,by omega,i0,by rw[bp];exact i1,i0,by rw[a1h,bp];exact i1,?_⟩) (fun h=>absurd i1 h);rw[brr i0 i1,avn i0 i1,bp];refine axe (n:=n) z u (fun j=>(c.1,((c.2.1.1,(c.2.1.2.1,(c.2.1.2.2.1,(c.2.1.2.2.2.1,tbT F n i j)))),c.2.2))) (by omega) rfl ?_ ?_
  ·intro j next2 j0 j1 hn2;intros
   try dsimp only
   have hr:((tbT F n i j).getD i.toNat []).length=n:=by rw[avn i0 i1,bp]
   have hA:i.toNat<(tbT F n i j).length:=by rw[avu];omega
   have hs2:=@biy (tbT F n i j) i.toNat j.toNat (-1) (F i j) hA;have hs1:=@bq4 F n i j i0 i1 j0 j1;have hrow:(((tbT F n i j).set i.toNat (((tbT F n i j).getD i.toNat []).set j.toNat (-1))).getD i.toNat []).length=n:=by rw[aax _ _ _ _ _ hA,d0 rfl,a1h,hr]
   refine au (fun _=>⟨i0,by rw[avu];exact i1,j0,by rw[hr];exact j1,i0,by omega,j0,by omega,?_⟩) (fun h=>absurd j1 h);refine il (fun s2=>s2.1.2.1.2.1=z/\s2.1.2.1.2.2.1=u/\s2.2.1=(c.1,((c.2.1.1,(c.2.1.2.1,(c.2.1.2.2.1,(c.2.1.2.2.2.1,tbT F n i (j+1))))),c.2.2))) (fun s2 hs=>by intros;exact⟨by rw[ao];(try dsimp only);omega,by rw[hs.1,hs.2.1,hs.2.2];exact hn2⟩) (fun k hk=>bd (fun he=>?_) (fun he=>hk _ ⟨rfl,rfl,?_⟩))
   ·rw[a0t]at he;have hv:u6 z u c.2.2.2 i j=F i j:=by rw[←hF];unfold ala;rw[d0 he]
    refine⟨i0,by rw[a1h,avu];exact i1,pv i j i0 i1 j0 j1 he,j0,by rw[hrow];exact j1,hk _ ⟨rfl,rfl,?_⟩⟩
    try dsimp only
    rw[hv,hs2,hs1]
   ·have hv:F i j=-1:=by rw[←hF];unfold ala;rw[ds (by intro h;rw[h]at he;simp at he)]
    try dsimp only
    rw[←hv,hs1]
  ·intro next2;intros
   try dsimp only
   refine au (fun h=>absurd h (a26 _)) (fun _=>⟨by rw[ao];(try dsimp only);omega,?_⟩);rw[bq6];exact hnx
 ·intro next
  intros
  try dsimp only
  refine au (fun h=>absurd h (a26 _)) (fun _=>hnew _ ?_);rw[hR];exact di fun e _ e1=>by rw[d0 e1]
theorem vw:b8 Tryz.prog 96 ww:=brp (Φ:=aew) (ai sx (ai tx aq)) bi (by kernel_rfl) (fn:=Tryz.f96) (c:=bf Tryz.f96) (by kernel_rfl) (by kernel_rfl) (by kernel_rfl) gh aej (cp [(5,507),(10,14),(11,512)]) (by kernel_rfl) (by kernel_rfl) (by decide) (by kernel_rfl) (fun x y h1 h2 h3=>Eq.mp (by kernel_rfl) (afi x y.1 h1 h2 h3))
def ya(c:be):Bool:=aab c&&(ou c).1==0
def ey:Ct:=⟨[(.pt aj)],[false],fun x=>[],[(false,(.fz .bool))],fun x=>(ya x.1,()),false,none⟩
def aeb:FuncId->Option Ct:=lkp [(126,gm),(125,dg)]
def rk(c:be)(K:Bool×Unit->Prop):Prop:=(cnd (!(aab c)) (K (false,())) ((ShapeP c)/\(K (((ou c).1==0),()))))
theorem ae5(c:be)(hok:ae (okL ey.args (c,())))(hpre:ae (ey.pre (c,()))):rk c (fun r=>r=ey.res (c,())):=by
 simp only[ey,okL,T.oks,T.ok,ap,ae,a0e,a0c,a0h]at hok hpre
 try dsimp only[T.den]at hok hpre
 unfold rk;simp only[ey,ya];have:=@aet c
 grind[cnd,ck,ao]
theorem aei:b8 Tryz.prog 103 ey:=cg (Φ:=aeb) (ai ajc (ai ahc aq)) bi (by kernel_rfl) (fn:=Tryz.f103) (c:=bf Tryz.f103) (by kernel_rfl) (by kernel_rfl) (by kernel_rfl) ey rfl .n (cp []) (by kernel_rfl) (by kernel_rfl) (by kernel_rfl) (by decide) (fun x K=>rk x.1 K) (fun _ _=>by kernel_rfl) (fun x h1 h2=>ae5 x.1 h1 h2)
def ao1(c:be)(ed:List Int):Int->List Int->Int
 |h,[]=>h
 |h,e::r=>ao1 c ed (gn c h (ed.getD e.toNat 0)) r
def nv(c:be)(ed:List Int)(p:ab):Int:=ao1 c ed (c.2.2.2.1.getD p.1.toNat 0) p.2
def azz(c:be)(ed:List Int):Int->List Int->Prop
 |h,[]=>True
 |h,e::r=>(0<=e/\e<ed.length)/\(0<=ed.getD e.toNat 0/\ed.getD e.toNat 0<c.2.1.length)/\c.2.2.1.getD h.toNat 0=c.2.1.getD (ed.getD e.toNat 0).toNat 0/\azz c ed (gn c h (ed.getD e.toNat 0)) r
structure AroP (t:sj) (p:ab):Prop where
 s:ShapeP t.1
 p0:0<=p.1
 p1:p.1<t.1.1
 c:azz t.1 t.2.2 (t.1.2.2.2.1.getD p.1.toNat 0) p.2
def my:Ct:=⟨[ajq,ak],[true,true],fun x=>[AroP x.1 x.2.1],[(false,(.fz (.int .i64)))],fun x=>(nv x.1.1 x.1.2.2 x.2.1,()),false,none⟩
def ar1:Ann:=(.s .n (.s .n (.s (.s .n (.l [(5,(.d (.int .i64))),(6,(.d (.int .i64)))] [] [2,3] .n)) .n)))
def abj(t:sj)(p:ab)(K:Int×Unit->Prop):Prop:=((0<=p.1)/\((p.1<(t.1.2.2.2.1.length:Int))/\(bj (S:=bsh) (fun s=>(fun next=>((inK .i64 s.1.1)->((inK .i64 s.1.2.1)->(cnd (decide (s.1.2.1<(p.2.length:Int))) ((0<=s.1.1)/\((s.1.1<(t.1.2.2.2.2.length:Int))/\((0<=s.1.2.1)/\((s.1.2.1<(p.2.length:Int))/\((0<=(p.2.getD s.1.2.1.toNat 0))/\(((p.2.getD s.1.2.1.toNat 0)<(t.2.2.length:Int))/\((0<=(t.2.2.getD (Int.toNat (p.2.getD s.1.2.1.toNat 0)) 0))/\(((t.2.2.getD (Int.toNat (p.2.getD s.1.2.1.toNat 0)) 0)<(List.length (t.1.2.2.2.2.getD s.1.1.toNat []):Int))/\((inK .i64 (s.1.2.1+1))/\(next (((List.getD (t.1.2.2.2.2.getD s.1.1.toNat []) (Int.toNat (t.2.2.getD (Int.toNat (p.2.getD s.1.2.1.toNat 0)) 0)) 0),((s.1.2.1+1),())),()))))))))))) (K (s.1.1,()))))))) (((t.1.2.2.2.1.getD p.1.toNat 0),(0,())),()))))
theorem atb(t:sj)(p:ab)(hok:ae (okL my.args (t,p,())))(hpre:ae (my.pre (t,p,()))):abj t p (fun r=>r=my.res (t,p,())):=by
 simp only[my,okL,T.oks,T.ok,ap,ae,a0e,a0c,a0h]at hok hpre
 try dsimp only[T.den]at hok hpre
 unfold abj;obtain⟨S,p0,p1,hc⟩:=hpre;have hid:=S.idn p0 p1;have hlc:=S.lc;have hli:=S.li;have hpl:p.2.length<=140737488355328:=by have:=hok.2.2.2.2.2.2.2.2.1;rw[ck]at this;exact this
 simp only[my,nv];refine⟨p0,by omega,?_⟩;generalize t.1.2.2.2.1.getD p.1.toNat 0=h0 at *;refine bw (fun (q:bsh)=>0<=q.1.2.1/\q.1.2.1<=p.2.length/\0<=q.1.1/\q.1.1<t.1.2.1.length/\azz t.1 t.2.2 q.1.1 (p.2.drop q.1.2.1.toNat)/\ao1 t.1 t.2.2 h0 p.2=ao1 t.1 t.2.2 q.1.1 (p.2.drop q.1.2.1.toNat)) (fun (q:bsh)=>(p.2.length-q.1.2.1).toNat) ?_ ⟨by simp,by simp,hid.1,hid.2.1,hc,rfl⟩;rintro⟨⟨h,i,_⟩,_⟩ next ⟨i0,i1,a0,a1,a2,a3⟩ hnx
 intros
 try dsimp only at i0 i1 a0 a1 a2 a3 hnx⊢
 refine au (fun hi=>?_) (fun hi=>?_)
 ·rw[mq p.2 0 i0 hi]at a2 a3;obtain⟨b1,b2,b3,b4⟩:=a2;have hr:=S.row h a0 a1;have y:=S.yes a0 a1 b2.1 b2.2 b3;refine⟨a0,by omega,i0,hi,b1.1,b1.2,b2.1,by rw[hr];exact b2.2,by rw[ao];(try dsimp only);omega,hnx _ ⟨by dsimp only;omega,by dsimp only;omega,y.1,y.2.1,b4,?_⟩ (by dsimp only;omega)⟩;rw[a3];rfl
 ·rw[a3,pp p.2 (by omega)];rfl
theorem asj:b8 Tryz.prog 49 my:=cg (Φ:=lkp []) aq bi (by kernel_rfl) (fn:=Tryz.f49) (c:=bf Tryz.f49) (by kernel_rfl) (by kernel_rfl) (by kernel_rfl) my rfl ar1 (cp [(5,15)]) (by kernel_rfl) (by kernel_rfl) (by kernel_rfl) (by decide) (fun x K=>abj x.1 x.2.1 K) (fun _ _=>by kernel_rfl) (fun x h1 h2=>atb x.1 x.2.1 h1 h2)
def g9:Ct:=⟨[(.pt k8),ak],[false,true],fun x=>[AroP (x.1.2.1,(x.1.2.2.2,x.1.2.2.1)) x.2.1],[(false,(.fz (.int .i64)))],fun x=>(nv x.1.2.1 x.1.2.2.1 x.2.1,()),false,none⟩
def ah5:Ann:=(.s .n (.s .n (.s (.s .n (.l [(5,(.d (.int .i64))),(20,(.d (.int .i64)))] [] [0,18,19] .n)) .n)))
def ut(k:T.den k8)(p:ab)(K:Int×Unit->Prop):Prop:=((0<=p.1)/\((p.1<(k.2.1.2.2.2.1.length:Int))/\(bj (S:=bsh) (fun s=>(fun next=>((inK .i64 s.1.1)->((inK .i64 s.1.2.1)->(cnd (decide (s.1.2.1<(p.2.length:Int))) ((0<=s.1.2.1)/\((s.1.2.1<(p.2.length:Int))/\((0<=(p.2.getD s.1.2.1.toNat 0))/\(((p.2.getD s.1.2.1.toNat 0)<(k.2.2.1.length:Int))/\((0<=s.1.1)/\((s.1.1<(k.2.1.2.2.2.2.length:Int))/\((0<=(k.2.2.1.getD (Int.toNat (p.2.getD s.1.2.1.toNat 0)) 0))/\(((k.2.2.1.getD (Int.toNat (p.2.getD s.1.2.1.toNat 0)) 0)<(List.length (k.2.1.2.2.2.2.getD s.1.1.toNat []):Int))/\((inK .i64 (s.1.2.1+1))/\(next (((gn k.2.1 s.1.1 (k.2.2.1.getD (Int.toNat (p.2.getD s.1.2.1.toNat 0)) 0)),((s.1.2.1+1),())),()))))))))))) (K (s.1.1,()))))))) (((k.2.1.2.2.2.1.getD p.1.toNat 0),(0,())),()))))
theorem aiv(k:T.den k8)(p:ab)(hok:ae (okL g9.args (k,p,())))(hpre:ae (g9.pre (k,p,()))):ut k p (fun r=>r=g9.res (k,p,())):=by
 simp only[g9,okL,T.oks,T.ok,ap,ae,a0e,a0c,a0h]at hok hpre
 try dsimp only[T.den]at hok hpre
 unfold ut;obtain⟨S,p0,p1,hc⟩:=hpre
 try dsimp only at S p0 p1 hc
 have hid:=S.idn p0 p1;have hlc:=S.lc;have hli:=S.li;have hpl:p.2.length<=140737488355328:=by have:=hok.2.2.2.2.2.2.2.2.2.2.2.2.2.1;rw[ck]at this;exact this
 clear hok;simp only[g9,nv];refine⟨p0,by omega,?_⟩;generalize k.2.1.2.2.2.1.getD p.1.toNat 0=h0 at *;refine bw (fun (q:bsh)=>0<=q.1.2.1/\q.1.2.1<=p.2.length/\0<=q.1.1/\q.1.1<k.2.1.2.1.length/\azz k.2.1 k.2.2.1 q.1.1 (p.2.drop q.1.2.1.toNat)/\ao1 k.2.1 k.2.2.1 h0 p.2=ao1 k.2.1 k.2.2.1 q.1.1 (p.2.drop q.1.2.1.toNat)) (fun (q:bsh)=>(p.2.length-q.1.2.1).toNat) ?_ ⟨by simp,by simp,hid.1,hid.2.1,hc,rfl⟩;rintro⟨⟨h,i,_⟩,_⟩ next ⟨i0,i1,a0,a1,a2,a3⟩ hnx
 intros
 try dsimp only at i0 i1 a0 a1 a2 a3 hnx⊢
 refine au (fun hi=>?_) (fun hi=>?_)
 ·rw[mq p.2 0 i0 hi]at a2 a3;obtain⟨b1,b2,b3,b4⟩:=a2;have hr:=S.row h a0 a1;have y:=S.yes a0 a1 b2.1 b2.2 b3;refine⟨i0,hi,b1.1,b1.2,a0,by omega,b2.1,by rw[hr];exact b2.2,by rw[ao];(try dsimp only);omega,hnx _ ⟨by dsimp only;omega,by dsimp only;omega,y.1,y.2.1,b4,?_⟩ (by dsimp only;omega)⟩;rw[a3];rfl
 ·rw[a3,pp p.2 (by omega)];rfl
theorem ah2:b8 Tryz.prog 51 g9:=cg (Φ:=lkp [(79,je)]) (ai aa2 aq) bi (by kernel_rfl) (fn:=Tryz.f51) (c:=bf Tryz.f51) (by kernel_rfl) (by kernel_rfl) (by kernel_rfl) g9 rfl ah5 (cp [(1,7),(5,511)]) (by kernel_rfl) (by kernel_rfl) (by kernel_rfl) (by decide) (fun x K=>ut x.1 x.2.1 K) (fun _ _=>by kernel_rfl) (fun x h1 h2=>aiv x.1 x.2.1 h1 h2)
structure ClsP (k:T.den k8):Prop where
 l:ya k.2.1=true->∀p∈k.2.2.2,AroP (k.2.1,(k.2.2.2,k.2.2.1)) p
 a:ya k.2.1=true->∀p∈k.1.2.2.2.1,AroP (k.2.1,(k.2.2.2,k.2.2.1)) p
 b:ya k.2.1=true->∀p∈k.1.2.2.2.2,AroP (k.2.1,(k.2.2.2,k.2.2.1)) p
 e:k.1.2.2.2.2.length=k.1.2.2.2.1.length
def aan(k:T.den k8):Bool:=ya k.2.1&&(sm k.2.2.2.length fun f=>nv k.2.1 k.2.2.1 (k.2.2.2.getD f.toNat (0,[]))==f)&&sm k.1.2.2.2.1.length fun i=>nv k.2.1 k.2.2.1 (k.1.2.2.2.1.getD i.toNat (0,[]))==nv k.2.1 k.2.2.1 (k.1.2.2.2.2.getD i.toNat (0,[]))
def gv:Ct:=⟨[(.pt k8)],[false],fun x=>[ClsP x.1],[(false,(.fz .bool))],fun x=>(aan x.1,()),false,none⟩
def agp:Ann:=(.s .n (.s .n (.s (.s .n (.l [(16,(.d (.int .i64)))] [] [0,14,15] .n)) (.s (.s .n (.l [(35,(.d (.int .i64)))] [] [0,34] .n)) .n))))
def ahv:FuncId->Option Ct:=lkp [(103,ey),(51,g9)]
def tu(k:T.den k8)(K:Bool×Unit->Prop):Prop:=(cnd (!(ya k.2.1)) (K (false,())) (bj (S:=bsd) (fun s=>(fun next=>((inK .i64 s.1.1)->(cnd (decide (s.1.1<(k.2.2.2.length:Int))) ((0<=s.1.1)/\((s.1.1<(k.2.2.2.length:Int))/\((AroP (k.2.1,(k.2.2.2,k.2.2.1)) (k.2.2.2.getD s.1.1.toNat (0,[])))/\(cnd ((nv k.2.1 k.2.2.1 (k.2.2.2.getD s.1.1.toNat (0,[]))) != s.1.1) (K (false,())) ((inK .i64 (s.1.1+1))/\(next (((s.1.1+1),()),()))))))) (bj (S:=bsd) (fun s1=>(fun next1=>((inK .i64 s1.1.1)->(cnd (decide (s1.1.1<(k.1.2.2.2.1.length:Int))) ((0<=s1.1.1)/\((s1.1.1<(k.1.2.2.2.1.length:Int))/\((AroP (k.2.1,(k.2.2.2,k.2.2.1)) (k.1.2.2.2.1.getD s1.1.1.toNat (0,[])))/\((0<=s1.1.1)/\((s1.1.1<(k.1.2.2.2.2.length:Int))/\((AroP (k.2.1,(k.2.2.2,k.2.2.1)) (k.1.2.2.2.2.getD s1.1.1.toNat (0,[])))/\(cnd ((nv k.2.1 k.2.2.1 (k.1.2.2.2.1.getD s1.1.1.toNat (0,[]))) != (nv k.2.1 k.2.2.1 (k.1.2.2.2.2.getD s1.1.1.toNat (0,[])))) (K (false,())) ((inK .i64 (s1.1.1+1))/\(next1 (((s1.1.1+1),()),())))))))))) (K (true,())))))) ((0,()),())))))) ((0,()),())))
theorem ah8(k:T.den k8)(hok:ae (okL gv.args (k,())))(hpre:ae (gv.pre (k,()))):tu k (fun r=>r=gv.res (k,())):=by
 simp only[gv,okL,T.oks,T.ok,ap,ae,a0e,a0c,a0h]at hok hpre
 try dsimp only[T.den]at hok hpre
 unfold tu;have hP:ClsP k:=hpre;have l1:=hok.2.2.2.2.2.2.2.2.2.2.2.1;have l2:=hok.2.2.2.1.1;rw[ck]at l1 l2;clear hok;simp only[gv];refine bd (fun h=>?_) (fun h=>?_)
 ·have h:ya k.2.1=false:=by simpa using h
  unfold aan;rw[h];rfl
 have h:ya k.2.1=true:=by simpa using h
 have he:=hP.e;have hcl:aan k=((sm k.2.2.2.length fun f=>nv k.2.1 k.2.2.1 (k.2.2.2.getD f.toNat (0,[]))==f)&&sm k.1.2.2.2.1.length fun i=>nv k.2.1 k.2.2.1 (k.1.2.2.2.1.getD i.toNat (0,[]))==nv k.2.1 k.2.2.1 (k.1.2.2.2.2.getD i.toNat (0,[]))):=by unfold aan;rw[h];rfl
 rw[hcl];refine aw3 k.2.2.2.length (fun f=>nv k.2.1 k.2.2.1 (k.2.2.2.getD f.toNat (0,[]))==f) ?_ ?_
 ·intro i next i0 i1 hf hn
  intros
  try dsimp only at hf hn⊢
  refine au (fun _=>⟨i0,i1,hP.l h _ (ii _ _ i0 i1),bd (fun hx=>?_) (fun hx=>⟨by rw[ao];(try dsimp only);omega,hn ?_⟩)⟩) (fun hx=>absurd i1 hx)
  ·rw[hf (by rw[a18];exact a3f.1 hx)];rfl
  ·rw[a0t];exact a1f.1 hx
 intro next ha
 intros
 try dsimp only
 refine au (fun hx=>absurd hx (by omega)) (fun _=>?_);rw[ha];refine aw3 k.1.2.2.2.1.length (fun i=>nv k.2.1 k.2.2.1 (k.1.2.2.2.1.getD i.toNat (0,[]))==nv k.2.1 k.2.2.1 (k.1.2.2.2.2.getD i.toNat (0,[]))) ?_ ?_
 ·intro i next i0 i1 hf hn
  intros
  try dsimp only at hf hn⊢
  refine au (fun _=>⟨i0,i1,hP.a h _ (ii _ _ i0 i1),i0,by omega,hP.b h _ (ii _ _ i0 (by omega)),bd (fun hx=>?_) (fun hx=>⟨by rw[ao];(try dsimp only);omega,hn ?_⟩)⟩) (fun hx=>absurd i1 hx)
  ·rw[hf (by rw[a18];exact a3f.1 hx)];rfl
  ·rw[a0t];exact a1f.1 hx
 intro next hb
 intros
 try dsimp only
 refine au (fun hx=>absurd hx (by omega)) (fun _=>?_);rw[hb];rfl
theorem yc:b8 Tryz.prog 98 gv:=cg (Φ:=ahv) (ai aei (ai ah2 aq)) bi (by kernel_rfl) (fn:=Tryz.f98) (c:=bf Tryz.f98) (by kernel_rfl) (by kernel_rfl) (by kernel_rfl) gv rfl agp (cp [(12,523)]) (by kernel_rfl) (by kernel_rfl) (by kernel_rfl) (by decide) (fun x K=>tu x.1 K) (fun _ _=>by kernel_rfl) (fun x h1 h2=>ah8 x.1 h1 h2)
def ajg(l:List Int)(y:Int):Nat->Int
 |0=>0
 |n+1=>if l.getD n 0=y then n else ajg l y n
def jv(l:List Int):List Int:=dx l.length fun y=>ajg l y l.length
theorem bpa{l:List Int}{y i:Int}(h0:0<=i):ajg l y (i+1).toNat=if l.getD i.toNat 0=y then i else ajg l y i.toNat:=by
 rw[show (i+1).toNat=i.toNat+1 from by omega,ajg];split
 ·omega
 ·rfl
def l9:Ct:=⟨[(.sl (.int .i64))],[false],fun x=>[x.1.length<=40,bz x.1 x.1.length=true],[(false,(.sl (.fz (.int .i64))))],fun x=>(jv x.1,()),false,none⟩
def ap0:Ann:=(.s .n (.s .n (.s (.s .n (.l [(3,(.ref 8 [])),(11,(.d (.int .i64)))] [(8,(.sl (.fz (.int .i64))))] [9,10] .n)) .n)))
def aat(list:List Int)(K:(List Int)×Unit->Prop):Prop:=((0<=(list.length:Int))/\(((list.length:Int)<=(list.length:Int))/\(((list.length:Int)<=((140737488355328:Nat):Int))/\((((list.length:Int)*((8:Nat):Int))<=((140737488355328:Nat):Int))/\(bj (S:=(bsa×bsc)) (fun s=>(fun next=>((inK .i64 s.1.2.1)->((T.ok (.sl (.int .i64)) s.2.1)->(cnd (decide (s.1.2.1<(list.length:Int))) ((0<=s.1.2.1)/\((s.1.2.1<(list.length:Int))/\((0<=(list.getD s.1.2.1.toNat 0))/\(((list.getD s.1.2.1.toNat 0)<(s.2.1.length:Int))/\((inK .i64 (s.1.2.1+1))/\(next (((),((s.1.2.1+1),())),((List.set s.2.1 (Int.toNat (list.getD s.1.2.1.toNat 0)) s.1.2.1),())))))))) (K (s.2.1,()))))))) (((),(0,())),((List.replicate (Int.toNat (list.length:Int)) (0:Int)),())))))))
theorem arp(list:List Int)(hok:ae (okL l9.args (list,())))(hpre:ae (l9.pre (list,()))):aat list (fun r=>r=l9.res (list,())):=by
 simp only[l9,okL,T.oks,T.ok,ap,ae,a0e,a0c,a0h]at hok hpre
 try dsimp only[T.den]at hok hpre
 unfold aat;obtain⟨hl,hw⟩:=hpre;have hw:=lj.1 hw;clear hok;generalize hn:list.length=n at *;refine⟨by omega,by omega,by omega,by omega,?_⟩;simp only[a0m,age];refine ac6 (fun i=>dx n fun y=>ajg list y i.toNat) (n:=n) (by omega) rfl ?_ ?_
 ·intro i next i0 i1 hnx _ _
  try dsimp only
  have hy:=hw i i0 i1;simp only[bpa i0]at hnx;refine au (fun _=>⟨i0,by omega,hy.1,by rw[bp];exact hy.2,by rw[ao];(try dsimp only);omega,?_⟩) (fun h=>absurd i1 h);rw[y7 hy.1 hy.2];refine (congrArg (fun z=>next (((),(i+1,())),(z,()))) (di fun y _ _=>?_)).mp hnx
  try dsimp only
  by_cases e:list.getD i.toNat 0=y
  ·rw[d0 e,d0 e.symm]
  ·rw[ds e,ds fun h=>e h.symm]
 ·intro next _ _
  refine au (fun h=>absurd h (by dsimp only;omega)) (fun _=>?_);simp only[l9,jv,hn];rw[a0m]
theorem afr:b8 Tryz.prog 94 l9:=cg (Φ:=lkp []) aq bi (by kernel_rfl) (fn:=Tryz.f94) (c:=bf Tryz.f94) (by kernel_rfl) (by kernel_rfl) (by kernel_rfl) l9 rfl ap0 (cp []) (by kernel_rfl) (by kernel_rfl) (by kernel_rfl) (by decide) (fun x K=>aat x.1 K) (fun _ _=>by kernel_rfl) (fun x h1 h2=>arp x.1 h1 h2)
theorem bdq{y:Int}:∀{l s:List Int},y∈l.foldl lx s->y∈s\/y∈l
 |[],s,h=>.inl h
 |k::l,s,h=>by
  rw[a12]at h;rcases bdq h with h|h
  ·unfold lx at h;split at h
   ·rcases a05.1 h with h|h
    ·exact .inl h
    ·rw[a0u]at h;exact .inr (by simp[h])
   ·exact .inl h
  ·exact .inr (by simp[h])
theorem axl:∀{l s:List Int},s.Nodup->(l.foldl lx s).Nodup
 |[],s,h=>h
 |k::l,s,h=>by
  rw[a12];refine axl ?_;unfold lx;split
  ·rename_i hk;unfold List.Nodup;rw[a5c];refine⟨h,a5d _ _,fun a ha b hb e=>?_⟩;rw[a0u]at hb;subst hb;subst e;have:=((q6 (0:Int)).1 ha).1;omega
  ·exact h
theorem bkc{l:List Int}(h:l.Nodup){i j:Nat}(hi:i<l.length)(hj:j<l.length)(e:l.getD i 0=l.getD j 0):i=j:=by simp only[a0n,a0o hi,a0o hj,a01]at e;exact (List.getElem_inj h).1 e
theorem ale{l:List Int}{i:Nat}(h:i<l.length):l.getD i 0∈l:=by simp only[a0n,a0o h,a01];exact a3a h
theorem asg{l:List Int}{y:Int}(h:y∈l):∃i,i<l.length/\l.getD i 0=y:=by obtain⟨i,hi,e⟩:=a2p h;exact⟨i,hi,by simp only[a0n,a0o hi,a01];exact e⟩
theorem azc{l:List Int}{k:Int}(h0:0<=k)(h1:k<jf (cr l)):∃i,i<l.length/\(cr l).getD i 0=k:=by
 have hle:jf (cr l)<=(ia l).length:=(bjs (by omega) fun x hx=>by unfold cr at hx;obtain⟨y,hy,rfl⟩:=a2f.1 hx;exact ((q6 (0:Int)).1 (ako (l:=l) (s:=[]) (.inr hy))).2.1).2;have hy:=ale (l:=ia l) (i:=k.toNat) (by omega);rcases bdq hy with h|h
 ·cases h
 ·obtain⟨i,hi,e⟩:=asg h;refine⟨i,hi,?_⟩;rw[ani hi,e];obtain⟨a0,a1,a2,_⟩:=(q6 (0:Int)).1 hy;have hnd:(ia l).Nodup:=axl (l:=l) (s:=[]) List.nodup_nil;have:=bkc hnd (i:=(g6 (ia l) ((ia l).getD k.toNat 0)).toNat) (j:=k.toNat) (by omega) (by omega) a2;omega
theorem al8{c:List Int}{L:List ab}{s:ac}(C:ClaP s L c):∀m:Nat,m<=L.length->∀a:Nat,L.length-m<=a->a<L.length->((lsD c L m).getD (c.getD a 0).toNat (0,none)).2.isSome=true
 |0,_,a,h1,h2=>by omega
 |m+1,hm,a,h1,h2=>by
  have ih:=al8 C m (by omega);have hln:=(ak6 C m (by omega)).n;simp only[lsD];generalize hi:L.length-1-m=i;have hci:=C.r (i:Int) (by omega) (by omega);rw[a0m]at hci;unfold lsS;split
  ·rename_i hb;rw[aax _ _ _ _ _ (by rw[hln];omega)];split
   ·rfl
   ·rename_i hne;have:a≠i:=fun e=>hne (by rw[e]);exact ih a (by omega) h2
  ·rename_i hb;by_cases e:a=i
   ·subst e;rw[Bool.not_eq_true,a2a]at hb;have:=hb.1;rw[Option.isNone_eq_false_iff]at this;exact this
   ·exact ih a (by omega) h2
theorem aon{l:List (Int×Option (List Int))}{k:Nat}:(oq l).getD k (0,[])=((l.getD k (0,none)).1,(l.getD k (0,none)).2.getD []):=by unfold oq;simp only[a0n,a1a];cases l[k]? <;> rfl
structure KlsP (s:ac) (L:List ab) (K:al):Prop where
 S:bo s=true
 H:ShrtP s L
 k:K.1=fw L L.length
 C:ClaP s L K.2.1
 n:(K.2.2.length:Int)=jf K.2.1
 mem:∀k:Int,0<=k->k<K.2.2.length->∃a:Int,0<=a/\a<L.length/\K.2.1.getD a.toNat 0=k/\K.2.2.getD k.toNat (0,[])=L.getD a.toNat (0,[])
 six:∀k:Int,0<=k->k<K.2.2.length->(K.2.2.getD k.toNat (0,[])).2.length≠6
theorem abx{s:ac}(hS:bo s=true)(h:qd s=true):KlsP s (cu s).1 (pcR s):=by
 obtain⟨s0,s8,_⟩:=mo hS;unfold qd at h;rw[a0a]at h;obtain⟨hg,hs⟩:=h;have H:=ac3 s0 (by omega) hg;unfold pcR;generalize (cu s).1=L at *;have P:SetP s L (fw L L.length,([],[])):=⟨hS,H,rfl⟩;have Q:=atg P L.length (a0f _);have C:ClaP s L (kg s L):=atp Q;have D:=ak6 C L.length (a0f _);have hln:(lsA s L).length=(jf (kg s L)).toNat:=D.n;have htl:(oq (lsA s L)).length=(lsA s L).length:=by unfold oq;rw[a0y]
 refine⟨hS,H,rfl,C,?_,fun k k0 k1=>?_,fun k k0 k1=>?_⟩
 ·dsimp only;have:=C.le;omega
 ·dsimp only at k1⊢;have hr:(ew (jW s (fw L L.length,([],[])) L L.length)).length=L.length:=by unfold ew;rw[bp,Q.n]
  obtain⟨i,i1,hi⟩:=azc (l:=ew (jW s (fw L L.length,([],[])) L L.length)) k0 (by have:jf (kg s L)=jf (cr (ew (jW s (fw L L.length,([],[])) L L.length))):=rfl;omega);have hsm:=al8 C L.length (a0f _) i (by omega) (by omega);have hi':(kg s L).getD i 0=k:=hi;rw[hi']at hsm;rw[aon];have hv:=D.v k.toNat;have hD:lsA s L=lsD (kg s L) L L.length:=rfl;rw[hD];generalize (lsD (kg s L) L L.length).getD k.toNat (0,none)=q at hsm hv⊢;obtain⟨x,o⟩:=q
  cases o with
  |none=>cases hsm
  |some es=>obtain⟨a,_,a0,a1,a2,a3⟩:=hv x es rfl;exact⟨a,a0,a1,by omega,a3.symm⟩
 ·dsimp only at k1⊢;rw[aon];exact bcd.1 hs k k0 (by omega)
theorem KlsP.set{s:ac}{L:List ab}{K:al}(P:KlsP s L K):SetP s L K:=⟨P.S,P.H,P.k⟩
theorem afv{s:ac}{L:List ab}{K:al}(P:KlsP s L K){p:ab}(hp:(bg s p).2=true):OfP K p.1 p.2 K.2.2.length/\ae9 s (K.2.2.getD (ofR K p.1 p.2).toNat (0,[])) p/\(bg s (K.2.2.getD (ofR K p.1 p.2).toNat (0,[]))).2=true:=by
 obtain⟨a0,a1,a2⟩:=P.set.at hp;have hr:=P.C.r _ a0 a1;have hn:=P.n;have o0:0<=ofR K p.1 p.2:=hr.1;have o1:ofR K p.1 p.2<K.2.2.length:=by have:=hr.2;unfold ofR;omega
 obtain⟨b,b0,b1,b2,b3⟩:=P.mem _ o0 o1;have hs:=P.C.st b _ b0 b1 a0 a1 b2;rw[a2]at hs;rw[b3];exact⟨⟨by have:=za hp;omega,a0,by rw[P.C.n];exact a1,o0,o1⟩,hs,P.H.ok _ (jj (by omega))⟩
theorem alv{s:ac}{L:List ab}{K:al}(P:KlsP s L K){k:Int}(k0:0<=k)(k1:k<K.2.2.length):(bg s (K.2.2.getD k.toNat (0,[]))).2=true/\(K.2.2.getD k.toNat (0,[])).2.length<6:=by obtain⟨a,a0,a1,_,a3⟩:=P.mem k k0 k1;have h6:=P.six k k0 k1;have hv:=P.H.ok _ (jj (l:=L) (i:=a.toNat) (by omega));have:=za hv;rw[a3]at h6⊢;exact⟨hv,by omega⟩
def gq(s:ac)(K:al):List Int:=o8 K s (fx K.2.2.length)
structure OrdF (K:al) (O:List Int):Prop where
 n:O.length=K.2.2.length
 r:∀i:Int,0<=i->i<O.length->0<=O.getD i.toNat 0/\O.getD i.toNat 0<K.2.2.length
 nd:O.Nodup
 su:∀c:Int,0<=c->c<K.2.2.length->c∈O
theorem apd{n:Nat}{c:Int}:c∈fx (n:Int)<->0<=c/\c<n:=by
 unfold fx;rw[pb];constructor
 ·rintro⟨i,i0,i1,rfl⟩;omega
 ·rintro⟨h0,h1⟩;exact⟨c,h0,by omega,rfl⟩
theorem aoz(s:ac)(K:al):OrdF K (gq s K):=by
 have hp:=bfb K s (fx K.2.2.length);have hl:(fx (K.2.2.length:Int)).length=K.2.2.length:=by unfold fx;rw[bp];omega
 have hn:(gq s K).length=K.2.2.length:=hp.length_eq.trans hl;refine⟨hn,fun i i0 i1=>?_,?_,fun c c0 c1=>hp.mem_iff.2 (apd.2 ⟨c0,c1⟩)⟩
 ·have:=hp.mem_iff.1 (ale (l:=gq s K) (i:=i.toNat) (by omega));exact apd.1 this
 ·refine hp.nodup_iff.2 ?_;unfold fx List.Nodup;exact auu fun i j _ h _=>by omega
theorem beo{l:List Int}{y:Int}:∀{m:Nat},(∃i,i<m/\l.getD i 0=y)->0<=ajg l y m/\ajg l y m<m/\l.getD (ajg l y m).toNat 0=y
 |0,⟨i,h,_⟩=>by omega
 |m+1,⟨i,h,e⟩=>by
  unfold ajg;split
  ·rename_i hm;exact⟨by omega,by omega,by rw[a0m];exact hm⟩
  ·rename_i hm
   have hi:i<m:=by
    rcases a1m i m with h'|h'
    ·exact h'
    ·exact absurd (by rw[show m=i from by omega];exact e) hm
   obtain⟨a,b,c⟩:=beo ⟨i,hi,e⟩;exact⟨a,by omega,c⟩
theorem bnv{K:al}{O:List Int}(F:OrdF K O){c:Int}(c0:0<=c)(c1:c<K.2.2.length):0<=(jv O).getD c.toNat 0/\(jv O).getD c.toNat 0<O.length/\O.getD ((jv O).getD c.toNat 0).toNat 0=c:=by have hn:=F.n;unfold jv;rw[pc c0 (by omega)];obtain⟨i,hi,e⟩:=asg (F.su c c0 c1);exact beo ⟨i,hi,e⟩
def bh(s:ac)(K:al):List ab:=(gq s K).map fun c=>K.2.2.getD c.toNat (0,[])
theorem ao2{s:ac}{K:al}{i:Nat}(h:i<(gq s K).length):(bh s K).getD i (0,[])=K.2.2.getD ((gq s K).getD i 0).toNat (0,[]):=by unfold bh;simp only[a0n,a1a,a0o h,a0z,a01]
theorem aa6{s:ac}{K:al}:(bh s K).length=(gq s K).length:=by unfold bh;rw[a0y]
def acf(s:ac)(K:al)(x:Int)(es:List Int):Int:=(jv (gq s K)).getD (ofR K x es).toNat 0
theorem aaf{s:ac}{L:List ab}{K:al}(P:KlsP s L K){i:Int}(i0:0<=i)(i1:i<(bh s K).length):(bg s ((bh s K).getD i.toNat (0,[]))).2=true/\((bh s K).getD i.toNat (0,[])).2.length<6:=by rw[aa6]at i1;have F:=aoz s K;have:=F.r i i0 i1;rw[ao2 (by omega)];exact alv P this.1 this.2
theorem bar{s:ac}{L:List ab}{K:al}(P:KlsP s L K){p:ab}(hp:(bg s p).2=true):0<=acf s K p.1 p.2/\acf s K p.1 p.2<(bh s K).length/\(bh s K).getD (acf s K p.1 p.2).toNat (0,[])=K.2.2.getD (ofR K p.1 p.2).toNat (0,[])/\ae9 s ((bh s K).getD (acf s K p.1 p.2).toNat (0,[])) p:=by
 obtain⟨O,hs,_⟩:=afv P hp;have F:=aoz s K;obtain⟨a0,a1,a2⟩:=bnv F O.o0 O.o1;have e:(bh s K).getD (acf s K p.1 p.2).toNat (0,[])=K.2.2.getD (ofR K p.1 p.2).toNat (0,[]):=by rw[ao2 (by unfold acf;omega)];unfold acf;rw[a2]
 exact⟨a0,by rw[aa6];exact a1,e,by rw[e];exact hs⟩
theorem bqm{s:ac}{L:List ab}{K:al}(P:KlsP s L K){f g:Int}(f0:0<=f)(f1:f<(bh s K).length)(g0:0<=g)(g1:g<(bh s K).length)(hfg:(bg s ((bh s K).getD f.toNat (0,[]))).1=((bh s K).getD g.toNat (0,[])).1):PrvP K (jv (gq s K)) (bh s K) f g:=by
 obtain⟨p1,p2⟩:=aaf P f0 f1;obtain⟨q1,q2⟩:=aaf P g0 g1;have F:=aoz s K
 have run:∀i:Nat,i<=((bh s K).getD g.toNat (0,[])).2.length->(bg s (vz K (bh s K) f (((bh s K).getD g.toNat (0,[])).2.take i))).2=true/\(vz K (bh s K) f (((bh s K).getD g.toNat (0,[])).2.take i)).2.length<6/\
   (bg s (vz K (bh s K) f (((bh s K).getD g.toNat (0,[])).2.take i))).1=(bq s ((bh s K).getD g.toNat (0,[])).1 (((bh s K).getD g.toNat (0,[])).2.take i)).1/\
   ∀h:i<((bh s K).getD g.toNat (0,[])).2.length,(bg s ((vz K (bh s K) f (((bh s K).getD g.toNat (0,[])).2.take i)).1,(vz K (bh s K) f (((bh s K).getD g.toNat (0,[])).2.take i)).2++[((bh s K).getD g.toNat (0,[])).2.getD i 0])).2=true:=by
  obtain⟨g1',g2',g3'⟩:=jd q1;rw[g3']at q1;generalize (bh s K).getD g.toNat (0,[])=G at *
  have nxt:∀(i:Nat) (p:ab),i<G.2.length->(bg s p).2=true->p.2.length<6->(bg s p).1=(bq s G.1 (G.2.take i)).1->(bg s (p.1,p.2++[G.2.getD i 0])).2=true/\(bg s (p.1,p.2++[G.2.getD i 0])).1=(bq s G.1 (G.2.take (i+1))).1:=fun i p hi h1 h2 h3=>by
   have ht:G.2.take (i+1)=G.2.take i++[G.2.getD i 0]:=by have:=jz G.2 0 (i:=(i:Int)) (by omega) (by omega);rw[show ((i:Int)+1).toNat=i+1 from by omega,a0m]at this;exact this
   have hf:=q1;rw[←a1x (i+1) G.2,qc]at hf;by_cases hh:(bq s G.1 (G.2.take (i+1))).2=true
   ·have hh':=hh;rw[ht,qc]at hh⊢;by_cases h4:(bq s G.1 (G.2.take i)).2=true
    ·rw[d0 h4]at hh⊢;obtain⟨b1,b2,b3⟩:=jd h1;rw[akh (p:=(p.1,p.2++[G.2.getD i 0])) b1 (by rw[a0q];simp only[a0l,a0p];omega)];dsimp only;rw[b3]at h1 h3;rw[qc,d0 h1,h3];exact⟨hh,rfl⟩
    ·rw[ds h4]at hh;cases hh
   ·rw[ds hh]at hf;cases hf
  intro i
  induction i with
  |zero=>intro _;have hr0:vz K (bh s K) f (G.2.take 0)=(bh s K).getD f.toNat (0,[]):=rfl;rw[hr0];exact⟨p1,p2,hfg,fun h=>(nxt 0 _ h p1 p2 hfg).1⟩
  |succ i ih=>
   intro hi;obtain⟨r1,r2,r3,r4⟩:=ih (by omega);have ht:G.2.take (i+1)=G.2.take i++[G.2.getD i 0]:=by have:=jz G.2 0 (i:=(i:Int)) (by omega) (by omega);rw[show ((i:Int)+1).toNat=i+1 from by omega,a0m]at this;exact this
   have hr:vz K (bh s K) f (G.2.take (i+1))=asz K (vz K (bh s K) f (G.2.take i)) (G.2.getD i 0):=by rw[ht];unfold vz;rw[a3g];rfl
   have n1:=nxt i _ (by omega) r1 r2 r3;generalize vz K (bh s K) f (G.2.take i)=p at *;obtain⟨O,hs,hv⟩:=afv P n1.1;have hl:=alv P O.o0 O.o1;have e1:(bg s (asz K p (G.2.getD i 0))).1=(bq s G.1 (G.2.take (i+1))).1:=hs.2.trans n1.2;rw[hr];exact⟨hv,hl.2,e1,fun h=>(nxt (i+1) _ h hv hl.2 e1).1⟩
 refine⟨f0,f1,g0,g1,by omega,fun i i0 i1=>?_,?_⟩
 ·obtain⟨_,_,_,r4⟩:=run i.toNat (by omega);exact (afv P (r4 (by omega))).1
 ·obtain⟨r1,_,_,_⟩:=run ((bh s K).getD g.toNat (0,[])).2.length (a0f _);rw[List.take_length]at r1;have O:=(afv P r1).1;have hb:(jv (gq s K)).length=K.2.2.length:=by unfold jv;rw[bp,F.n]
  exact⟨O.le,O.a0,O.a1,O.o0,by rw[hb];exact O.o1⟩
theorem ahj{s:ac}(hS:bo s=true){e:Int}(e0:0<=e)(e1:e<s.2.1.length):(bg s (s.2.1.getD e.toNat 0,[e])).2=true/\(bg s (s.2.1.getD e.toNat 0,[e])).1=s.2.2.1.getD e.toNat 0:=by obtain⟨_,_,_,_,hw,_⟩:=mo hS;obtain⟨w0,w1⟩:=lj.1 hw e e0 e1;rw[akh (p:=(s.2.1.getD e.toNat 0,[e])) (pd.2 ⟨w0,by dsimp only;omega⟩) (by simp)];dsimp only;rw[bq,d0 ⟨pd.2 ⟨e0,by omega⟩,rfl⟩];exact⟨rfl,rfl⟩
def y5(s:ac)(K:al)(n:Nat):List Int:=dx n fun x=>acf s K x []
def mt(s:ac)(K:al)(n:Nat):List Int:=dx n fun e=>acf s K (s.2.1.getD e.toNat 0) [e]
def lu(l:List ab):List Int:=l.map (·.1)
def toA(s:ac)(l:List ab):List Int:=l.map fun p=>(bg s p).1
def ads(s:ac)(K:al):be:=(s.1,(lu (bh s K),(toA s (bh s K),(y5 s K s.1.toNat,[]))))
def rl(s:ac)(K:al):be:=(s.1,(lu (bh s K),(toA s (bh s K),(y5 s K s.1.toNat,sr (ads s K) (u6 K (jv (gq s K)) (bh s K))))))
theorem awv{l:List ab}{i:Nat}(h:i<l.length):(lu l).getD i 0=(l.getD i (0,[])).1:=by unfold lu;simp only[a0n,a1a,a0o h,a0z,a01]
theorem azp{s:ac}{l:List ab}{i:Nat}(h:i<l.length):(toA s l).getD i 0=(bg s (l.getD i (0,[]))).1:=by unfold toA;simp only[a0n,a1a,a0o h,a0z,a01]
theorem bqb{s:ac}{L:List ab}{K:al}(P:KlsP s L K){e:Int}(e0:0<=e)(e1:e<s.2.1.length):0<=(mt s K s.2.1.length).getD e.toNat 0/\(mt s K s.2.1.length).getD e.toNat 0<(bh s K).length/\
  (lu (bh s K)).getD ((mt s K s.2.1.length).getD e.toNat 0).toNat 0=s.2.1.getD e.toNat 0/\(toA s (bh s K)).getD ((mt s K s.2.1.length).getD e.toNat 0).toNat 0=s.2.2.1.getD e.toNat 0:=by
 unfold mt;rw[pc e0 (by omega)];obtain⟨h1,h2⟩:=ahj P.S e0 e1;obtain⟨a0,a1,_,hs⟩:=bar P h1;dsimp only at a0 a1 hs;rw[awv (by omega),azp (by omega)];exact⟨a0,a1,hs.1,hs.2.trans h2⟩
theorem bih{s:ac}{L:List ab}{K:al}(P:KlsP s L K)(S:ShapeP (rl s K)):∀(es:List Int) (h n:Int),0<=h->h<(bh s K).length->(toA s (bh s K)).getD h.toNat 0=n->(bq s n es).2=true->azz (rl s K) (mt s K s.2.1.length) h es
 |[],_,_,_,_,_,_=>trivial
 |e::r,h,n,h0,h1,ht,hf=>by
  simp only[bq]at hf;split at hf
  ·rename_i hc;obtain⟨e0,e1⟩:=pd.1 hc.1;obtain⟨a0,a1,a2,a3⟩:=bqb P e0 (by omega);have hl:(mt s K s.2.1.length).length=s.2.1.length:=by unfold mt;rw[bp]
   have hfl:(rl s K).2.1.length=(bh s K).length:=by unfold rl lu;rw[a0y]
   have hcomp:(rl s K).2.2.1.getD h.toNat 0=(rl s K).2.1.getD ((mt s K s.2.1.length).getD e.toNat 0).toNat 0:=by show (toA s (bh s K)).getD h.toNat 0=(lu (bh s K)).getD _ 0;rw[ht,a2,hc.2]
   have y:=S.yes h0 (by rw[hfl];exact h1) a0 (by rw[hfl];exact a1) hcomp;refine⟨⟨e0,by rw[hl];omega⟩,⟨a0,by rw[hfl];exact a1⟩,hcomp,bih P S r _ (s.2.2.1.getD e.toNat 0) y.1 (by rw[←hfl];exact y.2.1) ?_ hf⟩;have:(rl s K).2.2.1.getD (gn (rl s K) h ((mt s K s.2.1.length).getD e.toNat 0)).toNat 0=(rl s K).2.2.1.getD ((mt s K s.2.1.length).getD e.toNat 0).toNat 0:=y.2.2.2;exact this.trans a3
  ·cases hf
theorem at2{s:ac}{L:List ab}{K:al}(P:KlsP s L K)(hc:ya (rl s K)=true){l:List ab}{p:ab}(hp:(bg s p).2=true):AroP (rl s K,(l,mt s K s.2.1.length)) p:=by
 have S:ShapeP (rl s K):=by unfold ya at hc;rw[a0a]at hc;exact aet.1 hc.1
 obtain⟨a1,a2,a3⟩:=jd hp;obtain⟨b0,b1⟩:=pd.1 a1;have hx:p.1<(rl s K).1:=by show p.1<s.1;omega
 have hid:=S.idn b0 hx;have hi2:=S.idt p.1 b0 hx;have hfl:(rl s K).2.1.length=(bh s K).length:=by unfold rl lu;rw[a0y]
 rw[a3]at hp;exact⟨S,b0,hx,bih P S p.2 _ p.1 hid.1 (by rw[←hfl];exact hid.2.1) hi2.2 hp⟩
theorem bdj{s:ac}(hS:bo s=true):(∀p∈s.2.2.2.1,(bg s p).2=true)/\∀p∈s.2.2.2.2,(bg s p).2=true:=by
 obtain⟨_,_,_,_,_,_,_,h8,h9⟩:=mo hS;constructor
 ·intro p hp;obtain⟨i,i1,e⟩:=pe hp;have:=(ur h9 (i:=(i:Int)) (by omega) (by omega) (by omega)).l2;rw[a0m,e]at this;exact this
 ·intro p hp;obtain⟨i,i1,e⟩:=pe hp;have:=(ur h9 (i:=(i:Int)) (by omega) (by omega) (by omega)).r2;rw[a0m,e]at this;exact this
theorem bnc{s:ac}{L:List ab}{K:al}(P:KlsP s L K):ClsP (s,(rl s K,(mt s K s.2.1.length,bh s K))):=by obtain⟨_,_,_,_,_,_,_,h8,_⟩:=mo P.S;obtain⟨hl,hr⟩:=bdj P.S;refine⟨fun h p hp=>?_,fun h p hp=>at2 P h (hl p hp),fun h p hp=>at2 P h (hr p hp),h8⟩;obtain⟨i,i1,rfl⟩:=pe hp;have:=(aaf P (i:=(i:Int)) (by omega) (by exact Int.ofNat_lt.2 i1)).1;rw[a0m]at this;exact at2 P h this
theorem bm9{s:ac}{L:List ab}{K:al}(P:KlsP s L K)(h40:(gq s K).length<=40):PrtP (s,(ads s K,(mt s K s.2.1.length,bh s K))) K (jv (gq s K)):=by refine⟨by show (lu _).length=_;unfold lu;rw[a0y],by show (toA s _).length=_;unfold toA;rw[a0y],by show (bh s K).length<=40;rw[aa6];exact h40,fun f g f0 f1 g0 g1 h=>?_⟩;have h:(toA s (bh s K)).getD f.toNat 0=(lu (bh s K)).getD g.toNat 0:=h;dsimp only at f1 g1;rw[azp (by omega),awv (by omega)]at h;exact bqm P f0 f1 g0 g1 h
def xl(s:ac):bms:=(s,(rl s (pcR s),(mt s (pcR s) s.2.1.length,bh s (pcR s))))
def tc(s:ac):Bool:=qd s&&decide ((gq s (pcR s)).length<=40)&&aan (xl s)
def lw:Sp:=⟨[(.pt SchemaT)],[false],true,fun x=>tc x.1,fun x=>[bo x.1=true],[(false,(.pt (.p (.fz (.pt SchemaT)) (.p (.p (.fz (.int .i64)) (.p (.sl (.fz (.int .i64))) (.p (.sl (.fz (.int .i64))) (.p (.sl (.fz (.int .i64))) (.sl (.sl (.fz (.int .i64)))))))) (.p (.sl (.fz (.int .i64))) (.sl (.fz ak))))))),(false,(.fz (.er 119)))],fun x=>(xl x.1,false,()),[(false,(.fz .any)),(false,(.fz (.er 119)))],fun x=>((),true,())⟩
def fe:Ct:=rz lw true
def gu:Ct:=rz lw false
def aj5:Ct:=spC lw
def x4:Ann:=(.s .n (.s .n (.s .n (.s .n (.s .n (.s .n (.s .n (.s (.s .n (.l [(4,(.ad 4 [.de])),(7,(.ad 7 [.de])),(8,(.bx (.ad 42 [.de]))),(45,(.d (.int .i64)))] [(4,(.pt (.fz (.pt (.p (.mp .str (.int .i64)) (.p (.sl (.int .i64)) (.sl (.p (.int .i64) (.sl (.int .i64)))))))))),(7,(.pt (.sl (.fz (.int .i64))))),(42,(.pt (.p (.fz (.pt (.p (.int .i64) (.p (.sl (.int .i64)) (.p (.sl (.int .i64)) (.p (.sl (.p (.int .i64) (.sl (.int .i64)))) (.sl (.p (.int .i64) (.sl (.int .i64)))))))))) (.p (.p (.fz (.int .i64)) (.p (.sl (.fz (.int .i64))) (.p (.sl (.fz (.int .i64))) (.p (.sl (.fz (.int .i64))) (.sl (.sl (.fz (.int .i64)))))))) (.p (.sl (.fz (.int .i64))) (.sl (.fz (.p (.int .i64) (.sl (.int .i64))))))))))] [0,43,44] .n)) (.s (.s .n (.l [(4,(.ad 4 [.de])),(7,(.ad 7 [.de])),(8,(.bx (.ad 42 [.de]))),(102,(.d (.int .i64)))] [(4,(.pt (.fz (.pt (.p (.mp .str (.int .i64)) (.p (.sl (.int .i64)) (.sl (.p (.int .i64) (.sl (.int .i64)))))))))),(7,(.pt (.sl (.fz (.int .i64))))),(42,(.pt (.p (.fz (.pt (.p (.int .i64) (.p (.sl (.int .i64)) (.p (.sl (.int .i64)) (.p (.sl (.p (.int .i64) (.sl (.int .i64)))) (.sl (.p (.int .i64) (.sl (.int .i64)))))))))) (.p (.p (.fz (.int .i64)) (.p (.sl (.fz (.int .i64))) (.p (.sl (.fz (.int .i64))) (.p (.sl (.fz (.int .i64))) (.sl (.sl (.fz (.int .i64)))))))) (.p (.sl (.fz (.int .i64))) (.sl (.fz (.p (.int .i64) (.sl (.int .i64))))))))))] [0,101] .n)) (.s (.s .n (.l [(4,(.ad 4 [.de])),(7,(.ad 7 [.de])),(8,(.bx (.ad 42 [.de]))),(128,(.d (.int .i64)))] [(4,(.pt (.fz (.pt (.p (.mp .str (.int .i64)) (.p (.sl (.int .i64)) (.sl (.p (.int .i64) (.sl (.int .i64)))))))))),(7,(.pt (.sl (.fz (.int .i64))))),(42,(.pt (.p (.fz (.pt (.p (.int .i64) (.p (.sl (.int .i64)) (.p (.sl (.int .i64)) (.p (.sl (.p (.int .i64) (.sl (.int .i64)))) (.sl (.p (.int .i64) (.sl (.int .i64)))))))))) (.p (.p (.fz (.int .i64)) (.p (.sl (.fz (.int .i64))) (.p (.sl (.fz (.int .i64))) (.p (.sl (.fz (.int .i64))) (.sl (.sl (.fz (.int .i64)))))))) (.p (.sl (.fz (.int .i64))) (.sl (.fz (.p (.int .i64) (.sl (.int .i64))))))))))] [126,127] .n)) .n))))))))))
def aai:FuncId->Option Ct:=lkp [(92,xn),(93,ky),(96,ww),(98,gv),(94,l9),(74,gx),(95,im),(97,fd)]
def qy(s:ac)(A:jc fe.rt->Prop)(B:jc gu.rt->Prop):Prop:=(cnd (qd s) (((qd s)=true)/\(((bo s)=true)/\(cnd false (B ((),(false,()))) (((List.length (pcR s).2.2)<=1000000)/\((OrdP (pcR s) s (fx (List.length (pcR s).2.2:Int)))/\(cnd (decide (40<(((List.length (o8 (pcR s) s (fx (List.length (pcR s).2.2:Int)))):Nat):Int))) (B ((),(true,()))) (((List.length (o8 (pcR s) s (fx (List.length (pcR s).2.2:Int))))<=40)/\(((bz (o8 (pcR s) s (fx (List.length (pcR s).2.2:Int))) (((List.length (o8 (pcR s) s (fx (List.length (pcR s).2.2:Int)))):Nat):Int))=true)/\(bj (S:=(bsf×(((List (ByteArray×Int))×bse)×bsl))) (fun s1=>(fun next=>((inK .i64 s1.1.2.2.2.1)->((T.ok (T.mp T.str (.int .i64)) s1.2.1.1)->((T.ok (.sl (.int .i64)) s1.2.1.2.1)->((T.ok (.sl ak) s1.2.1.2.2)->((T.ok (.sl (.int .i64)) s1.2.2.1)->((inK .i64 s1.2.2.2.1.1.1)->((T.ok (.sl (.int .i64)) s1.2.2.2.1.1.2.1)->((T.ok (.sl (.int .i64)) s1.2.2.2.1.1.2.2.1)->((T.ok (.sl ak) s1.2.2.2.1.1.2.2.2.1)->((T.ok (.sl ak) s1.2.2.2.1.1.2.2.2.2)->((inK .i64 s1.2.2.2.1.2.1.1)->((T.ok (.sl (.int .i64)) s1.2.2.2.1.2.1.2.1)->((T.ok (.sl (.int .i64)) s1.2.2.2.1.2.1.2.2.1)->((T.ok (.sl (.int .i64)) s1.2.2.2.1.2.1.2.2.2.1)->((T.ok (.sl (.sl (.int .i64))) s1.2.2.2.1.2.1.2.2.2.2)->((T.ok (.sl (.int .i64)) s1.2.2.2.1.2.2.1)->((T.ok (.sl ak) s1.2.2.2.1.2.2.2)->(cnd (decide (s1.1.2.2.2.1<(((List.length (o8 (pcR s) s (fx (List.length (pcR s).2.2:Int)))):Nat):Int))) ((0<=s1.1.2.2.2.1)/\((s1.1.2.2.2.1<(((List.length (o8 (pcR s) s (fx (List.length (pcR s).2.2:Int)))):Nat):Int))/\((0<=(List.getD (o8 (pcR s) s (fx (List.length (pcR s).2.2:Int))) s1.1.2.2.2.1.toNat 0))/\(((List.getD (o8 (pcR s) s (fx (List.length (pcR s).2.2:Int))) s1.1.2.2.2.1.toNat 0)<(s1.2.1.2.2.length:Int))/\((s.2.1.length<=s.2.2.1.length)/\((inK .i64 (s.1-1))/\((eg s1.2.2.2.1.2.2.2.length (List.length ((List.getD s1.2.1.2.2 (Int.toNat (List.getD (o8 (pcR s) s (fx (List.length (pcR s).2.2:Int))) s1.1.2.2.2.1.toNat 0)) (0,[]))::([]:List br9))) 32)/\((eg s1.2.2.2.1.2.1.2.1.length (List.length ((List.getD s1.2.1.2.2 (Int.toNat (List.getD (o8 (pcR s) s (fx (List.length (pcR s).2.2:Int))) s1.1.2.2.2.1.toNat 0)) (0,[])).1::[])) 8)/\((eg s1.2.2.2.1.2.1.2.2.1.length (List.length ((bg s (List.getD s1.2.1.2.2 (Int.toNat (List.getD (o8 (pcR s) s (fx (List.length (pcR s).2.2:Int))) s1.1.2.2.2.1.toNat 0)) (0,[]))).1::[])) 8)/\((inK .i64 (s1.1.2.2.2.1+1))/\(next (((),((),((),((s1.1.2.2.2.1+1),())))),(s1.2.1,(s1.2.2.1,((s1.2.2.2.1.1,((s1.2.2.2.1.2.1.1,((s1.2.2.2.1.2.1.2.1++((List.getD s1.2.1.2.2 (Int.toNat (List.getD (o8 (pcR s) s (fx (List.length (pcR s).2.2:Int))) s1.1.2.2.2.1.toNat 0)) (0,[])).1::[])),((s1.2.2.2.1.2.1.2.2.1++((bg s (List.getD s1.2.1.2.2 (Int.toNat (List.getD (o8 (pcR s) s (fx (List.length (pcR s).2.2:Int))) s1.1.2.2.2.1.toNat 0)) (0,[]))).1::[])),s1.2.2.2.1.2.1.2.2.2))),(s1.2.2.2.1.2.2.1,(s1.2.2.2.1.2.2.2++((List.getD s1.2.1.2.2 (Int.toNat (List.getD (o8 (pcR s) s (fx (List.length (pcR s).2.2:Int))) s1.1.2.2.2.1.toNat 0)) (0,[]))::([]:List br9)))))),()))))))))))))))) (bj (S:=(bsf×(((List (ByteArray×Int))×bse)×bsl))) (fun s2=>(fun next1=>((inK .i64 s2.1.2.2.2.1)->((T.ok (T.mp T.str (.int .i64)) s2.2.1.1)->((T.ok (.sl (.int .i64)) s2.2.1.2.1)->((T.ok (.sl ak) s2.2.1.2.2)->((T.ok (.sl (.int .i64)) s2.2.2.1)->((inK .i64 s2.2.2.2.1.1.1)->((T.ok (.sl (.int .i64)) s2.2.2.2.1.1.2.1)->((T.ok (.sl (.int .i64)) s2.2.2.2.1.1.2.2.1)->((T.ok (.sl ak) s2.2.2.2.1.1.2.2.2.1)->((T.ok (.sl ak) s2.2.2.2.1.1.2.2.2.2)->((inK .i64 s2.2.2.2.1.2.1.1)->((T.ok (.sl (.int .i64)) s2.2.2.2.1.2.1.2.1)->((T.ok (.sl (.int .i64)) s2.2.2.2.1.2.1.2.2.1)->((T.ok (.sl (.int .i64)) s2.2.2.2.1.2.1.2.2.2.1)->((T.ok (.sl (.sl (.int .i64))) s2.2.2.2.1.2.1.2.2.2.2)->((T.ok (.sl (.int .i64)) s2.2.2.2.1.2.2.1)->((T.ok (.sl ak) s2.2.2.2.1.2.2.2)->(cnd (decide (s2.1.2.2.2.1<s.1)) (((List.length ([]:List Int))<=1000000)/\((0<=(dh s2.2.1 s2.1.2.2.2.1 []))/\(((dh s2.2.1 s2.1.2.2.2.1 [])<(s2.2.1.2.1.length:Int))/\((0<=(List.getD s2.2.1.2.1 (Int.toNat (dh s2.2.1 s2.1.2.2.2.1 [])) 0))/\(((List.getD s2.2.1.2.1 (Int.toNat (dh s2.2.1 s2.1.2.2.2.1 [])) 0)<(s2.2.2.1.length:Int))/\((eg s2.2.2.2.1.2.1.2.2.2.1.length (List.length ((List.getD s2.2.2.1 (Int.toNat (List.getD s2.2.1.2.1 (Int.toNat (dh s2.2.1 s2.1.2.2.2.1 [])) 0)) 0)::[])) 8)/\((inK .i64 (s2.1.2.2.2.1+1))/\(next1 (((),((),((),((s2.1.2.2.2.1+1),())))),(s2.2.1,(s2.2.2.1,((s2.2.2.2.1.1,((s2.2.2.2.1.2.1.1,(s2.2.2.2.1.2.1.2.1,(s2.2.2.2.1.2.1.2.2.1,((s2.2.2.2.1.2.1.2.2.2.1++((List.getD s2.2.2.1 (Int.toNat (List.getD s2.2.1.2.1 (Int.toNat (dh s2.2.1 s2.1.2.2.2.1 [])) 0)) 0)::[])),s2.2.2.2.1.2.1.2.2.2.2)))),s2.2.2.2.1.2.2)),())))))))))))) (bj (S:=(bsf×(((List (ByteArray×Int))×bse)×bsl))) (fun s3=>(fun next2=>((inK .i64 s3.1.2.2.2.1)->((T.ok (T.mp T.str (.int .i64)) s3.2.1.1)->((T.ok (.sl (.int .i64)) s3.2.1.2.1)->((T.ok (.sl ak) s3.2.1.2.2)->((T.ok (.sl (.int .i64)) s3.2.2.1)->((inK .i64 s3.2.2.2.1.1.1)->((T.ok (.sl (.int .i64)) s3.2.2.2.1.1.2.1)->((T.ok (.sl (.int .i64)) s3.2.2.2.1.1.2.2.1)->((T.ok (.sl ak) s3.2.2.2.1.1.2.2.2.1)->((T.ok (.sl ak) s3.2.2.2.1.1.2.2.2.2)->((inK .i64 s3.2.2.2.1.2.1.1)->((T.ok (.sl (.int .i64)) s3.2.2.2.1.2.1.2.1)->((T.ok (.sl (.int .i64)) s3.2.2.2.1.2.1.2.2.1)->((T.ok (.sl (.int .i64)) s3.2.2.2.1.2.1.2.2.2.1)->((T.ok (.sl (.sl (.int .i64))) s3.2.2.2.1.2.1.2.2.2.2)->((T.ok (.sl (.int .i64)) s3.2.2.2.1.2.2.1)->((T.ok (.sl ak) s3.2.2.2.1.2.2.2)->(cnd (decide (s3.1.2.2.2.1<(s.2.1.length:Int))) ((0<=s3.1.2.2.2.1)/\((s3.1.2.2.2.1<(s.2.1.length:Int))/\(((List.length (s3.1.2.2.2.1::[]))<=1000000)/\((0<=(dh s3.2.1 (List.getD s.2.1 s3.1.2.2.2.1.toNat 0) (s3.1.2.2.2.1::[])))/\(((dh s3.2.1 (List.getD s.2.1 s3.1.2.2.2.1.toNat 0) (s3.1.2.2.2.1::[]))<(s3.2.1.2.1.length:Int))/\((0<=(List.getD s3.2.1.2.1 (Int.toNat (dh s3.2.1 (List.getD s.2.1 s3.1.2.2.2.1.toNat 0) (s3.1.2.2.2.1::[]))) 0))/\(((List.getD s3.2.1.2.1 (Int.toNat (dh s3.2.1 (List.getD s.2.1 s3.1.2.2.2.1.toNat 0) (s3.1.2.2.2.1::[]))) 0)<(s3.2.2.1.length:Int))/\((eg s3.2.2.2.1.2.2.1.length (List.length ((List.getD s3.2.2.1 (Int.toNat (List.getD s3.2.1.2.1 (Int.toNat (dh s3.2.1 (List.getD s.2.1 s3.1.2.2.2.1.toNat 0) (s3.1.2.2.2.1::[]))) 0)) 0)::[])) 8)/\((inK .i64 (s3.1.2.2.2.1+1))/\(next2 (((),((),((),((s3.1.2.2.2.1+1),())))),(s3.2.1,(s3.2.2.1,((s3.2.2.2.1.1,(s3.2.2.2.1.2.1,((s3.2.2.2.1.2.2.1++((List.getD s3.2.2.1 (Int.toNat (List.getD s3.2.1.2.1 (Int.toNat (dh s3.2.1 (List.getD s.2.1 s3.1.2.2.2.1.toNat 0) (s3.1.2.2.2.1::[]))) 0)) 0)::[])),s3.2.2.2.1.2.2.2))),())))))))))))))) ((PrtP s3.2.2.2.1 s3.2.1 s3.2.2.1)/\((ClsP (s3.2.2.2.1.1,((s3.2.2.2.1.2.1.1,(s3.2.2.2.1.2.1.2.1,(s3.2.2.2.1.2.1.2.2.1,(s3.2.2.2.1.2.1.2.2.2.1,(sr s3.2.2.2.1.2.1 (u6 s3.2.1 s3.2.2.1 s3.2.2.2.1.2.2.2)))))),s3.2.2.2.1.2.2)))/\(cnd (!(aan (s3.2.2.2.1.1,((s3.2.2.2.1.2.1.1,(s3.2.2.2.1.2.1.2.1,(s3.2.2.2.1.2.1.2.2.1,(s3.2.2.2.1.2.1.2.2.2.1,(sr s3.2.2.2.1.2.1 (u6 s3.2.1 s3.2.2.1 s3.2.2.2.1.2.2.2)))))),s3.2.2.2.1.2.2)))) (B ((),(true,()))) (A ((s3.2.2.2.1.1,((s3.2.2.2.1.2.1.1,(s3.2.2.2.1.2.1.2.1,(s3.2.2.2.1.2.1.2.2.1,(s3.2.2.2.1.2.1.2.2.2.1,(sr s3.2.2.2.1.2.1 (u6 s3.2.1 s3.2.2.1 s3.2.2.2.1.2.2.2)))))),s3.2.2.2.1.2.2)),(false,())))))))))))))))))))))))))) (((),((),((),(0,())))),(s2.2.1,(s2.2.2.1,(s2.2.2.2.1,()))))))))))))))))))))))))) (((),((),((),(0,())))),(s1.2.1,(s1.2.2.1,(s1.2.2.2.1,()))))))))))))))))))))))))) (((),((),((),(0,())))),((pcR s),((jv (o8 (pcR s) s (fx (List.length (pcR s).2.2:Int)))),((s,((s.1,([],([],([],[])))),([],([]:List br9)))),()))))))))))))) (((qd s)=false)/\(((bo s)=true)/\(cnd true (B ((),(true,()))) (False/\(False/\(False/\False)))))))
def tv(s:ac)(K:jc fe.rt->Prop):Prop:=qy s K (fun _=>False)
theorem aia(s:ac)(hok:ae (okL fe.args (s,())))(hpre:ae (fe.pre (s,()))):tv s (fun r=>r=fe.res (s,())):=by
 simp only[fe,rz,lw,okL,T.oks,T.ok,ap,ae,a0e,a0c,a0h]at hok hpre
 try dsimp only[T.den]at hok hpre
 unfold tv qy;obtain⟨hs,hS⟩:=hpre;clear hok;obtain⟨s0,s8,f8,tf,_,_,e8,re,_⟩:=mo hS;unfold tc at hs;rw[a0a,a0a,a06]at hs;obtain⟨⟨hp,h4⟩,hcl⟩:=hs;unfold xl at hcl;simp only[fe,rz,lw,xl];refine bd (fun _=>⟨hp,hS,bd (fun h=>by cases h) (fun _=>?_)⟩) (fun h=>by rw[hp]at h;cases h);have P:=abx hS hp;have F:=aoz s (pcR s);have hO:o8 (pcR s) s (fx ((pcR s).2.2.length:Int))=gq s (pcR s):=rfl;rw[hO];clear hO;generalize pcR s=K at *;have hC:=P.C.le;have hn:=P.n;have hH:=P.H.le;have hFn:=F.n;have hbl:(jv (gq s K)).length=K.2.2.length:=by unfold jv;rw[bp,hFn]
 have hal:(bh s K).length=(gq s K).length:=aa6;refine⟨by omega,⟨by omega,by rw[ao];(try dsimp only);omega,⟨by omega,fun p hp=>by obtain⟨i,i1,rfl⟩:=pe hp;have:=(alv P (k:=(i:Int)) (by omega) (by omega)).2;rw[a0m]at this;omega⟩,fun a ha=>apd.1 ha⟩,au (fun h=>?_) (fun h=>?_)⟩
 ·omega
 have h40:(gq s K).length<=40:=by omega
 refine⟨h40,lj.2 fun i i0 i1=>by have:=F.r i i0 i1;omega,?_⟩;refine bw (fun (q:(bsf×(((List (ByteArray×Int))×bse)×bsl)))=>0<=q.1.2.2.2.1/\q.1.2.2.2.1<=(gq s K).length/\q.2.1=K/\q.2.2.1=jv (gq s K)/\q.2.2.2.1=(s,((s.1,(lu ((bh s K).take q.1.2.2.2.1.toNat),(toA s ((bh s K).take q.1.2.2.2.1.toNat),([],[])))),([],(bh s K).take q.1.2.2.2.1.toNat)))) (fun (q:(bsf×(((List (ByteArray×Int))×bse)×bsl)))=>((gq s K).length-q.1.2.2.2.1).toNat) ?_ ⟨a0r _,by dsimp only;omega,rfl,rfl,rfl⟩;rintro⟨⟨_,_,_,i,_⟩,k',b',o',_⟩ next ⟨i0,i1,q1,q2,q3⟩ hnx
 intros
 try dsimp only at i0 i1 q1 q2 q3 hnx⊢
 subst q1;subst q2;subst q3
 try dsimp only
 refine au (fun hi=>?_) (fun hi=>?_)
 ·have hr:=F.r i i0 hi;have ht:(bh s k').take (i+1).toNat=(bh s k').take i.toNat++[k'.2.2.getD ((gq s k').getD i.toNat 0).toNat (0,[])]:=by rw[jz (bh s k') (0,[]) i0 (by omega),ao2 (by omega)]
  have htl:((bh s k').take i.toNat).length<=40:=by rw[a1c];omega
  refine⟨i0,hi,hr.1,hr.2,by omega,by rw[ao];(try dsimp only);omega,da (by simp only[a0l,a0p];omega),da (by unfold lu;rw[a0y];simp only[a0l,a0p];omega),da (by unfold toA;rw[a0y];simp only[a0l,a0p];omega),by rw[ao];(try dsimp only);omega,hnx _ ⟨by dsimp only;omega,by dsimp only;omega,rfl,rfl,?_⟩ (by dsimp only;omega)⟩
  try dsimp only
  rw[ht];simp only[lu,toA,a2y,a07,a2l]
 clear hnx;have e:i=(gq s k').length:=by omega
 subst e;rw[a0m,a27 (by omega)];refine bw (fun (q:(bsf×(((List (ByteArray×Int))×bse)×bsl)))=>0<=q.1.2.2.2.1/\q.1.2.2.2.1<=s.1/\q.2.1=k'/\q.2.2.1=jv (gq s k')/\q.2.2.2.1=(s,((s.1,(lu (bh s k'),(toA s (bh s k'),(y5 s k' q.1.2.2.2.1.toNat,[])))),([],bh s k')))) (fun (q:(bsf×(((List (ByteArray×Int))×bse)×bsl)))=>(s.1-q.1.2.2.2.1).toNat) ?_ ⟨a0r _,by dsimp only;omega,rfl,rfl,rfl⟩;rintro⟨⟨_,_,_,x,_⟩,k2,b',o',_⟩ next ⟨x0,x1,q1,q2,q3⟩ hnx
 intros
 try dsimp only at x0 x1 q1 q2 q3 hnx⊢
 subst q1;subst q2;subst q3
 try dsimp only
 refine au (fun hx=>?_) (fun hx=>?_)
 ·have O:=(afv P (aep x0 hx)).1;refine⟨by simp,O.a0,O.a1,O.o0,by rw[hbl];exact O.o1,da (by unfold y5;rw[bp];simp only[a0l,a0p];omega),by rw[ao];(try dsimp only);omega,hnx _ ⟨by dsimp only;omega,by dsimp only;omega,rfl,rfl,?_⟩ (by dsimp only;omega)⟩
  try dsimp only
  have:y5 s k2 (x+1).toNat=y5 s k2 x.toNat++[(jv (gq s k2)).getD (k2.2.1.getD (dh k2 x []).toNat 0).toNat 0]:=by unfold y5;rw[vr x0];rfl
  rw[this]
 clear hnx;have e:x=s.1:=by omega
 subst e;refine bw (fun (q:(bsf×(((List (ByteArray×Int))×bse)×bsl)))=>0<=q.1.2.2.2.1/\q.1.2.2.2.1<=s.2.1.length/\q.2.1=k2/\q.2.2.1=jv (gq s k2)/\q.2.2.2.1=(s,(ads s k2,(mt s k2 q.1.2.2.2.1.toNat,bh s k2)))) (fun (q:(bsf×(((List (ByteArray×Int))×bse)×bsl)))=>(s.2.1.length-q.1.2.2.2.1).toNat) ?_ ⟨a0r _,by dsimp only;omega,rfl,rfl,rfl⟩;rintro⟨⟨_,_,_,x,_⟩,k3,b',o',_⟩ next ⟨x0,x1,q1,q2,q3⟩ hnx
 intros
 try dsimp only at x0 x1 q1 q2 q3 hnx⊢
 subst q1;subst q2;subst q3
 try dsimp only
 refine au (fun hx=>?_) (fun hx=>?_)
 ·have O:=(afv P (ahj hS x0 hx).1).1;refine⟨x0,hx,by simp,O.a0,O.a1,O.o0,by rw[hbl];exact O.o1,da (by unfold mt;rw[bp];simp only[a0l,a0p];omega),by rw[ao];(try dsimp only);omega,hnx _ ⟨by dsimp only;omega,by dsimp only;omega,rfl,rfl,?_⟩ (by dsimp only;omega)⟩
  try dsimp only
  have:mt s k3 (x+1).toNat=mt s k3 x.toNat++[(jv (gq s k3)).getD (k3.2.1.getD (dh k3 (s.2.1.getD x.toNat 0) [x]).toNat 0).toNat 0]:=by unfold mt;rw[vr x0];rfl
  rw[this]
 clear hnx;have e:x=s.2.1.length:=by omega
 subst e;rw[a0m];refine⟨bm9 P h40,bnc P,bd (fun h=>?_) (fun h=>?_)⟩
 ·exact absurd hcl (by rw[Bool.not_eq_true,←a1i];exact h)
 ·rfl
theorem ago:b8 Tryz.prog 75 fe:=cg (Φ:=aai) (ai wy (ai abm (ai vw (ai yc (ai afr (ai og (ai uq (ai sx aq)))))))) bi (by kernel_rfl) (fn:=Tryz.f75) (c:=bf Tryz.f75) (by kernel_rfl) (by kernel_rfl) (by kernel_rfl) fe rfl x4 (cp [(16,5008),(1,1500),(21,5013),(26,5014),(14,5007),(15,5009)]) (by kernel_rfl) (by kernel_rfl) (by kernel_rfl) (by decide) (fun x K=>tv x.1 K) (fun _ _=>by kernel_rfl) (fun x h1 h2=>aia x.1 h1 h2)
def tq(s:ac)(K:jc gu.rt->Prop):Prop:=qy s (fun _=>False) K
theorem ahz(s:ac)(hok:ae (okL gu.args (s,())))(hpre:ae (gu.pre (s,()))):tq s (fun r=>r=gu.res (s,())):=by
 simp only[gu,rz,lw,okL,T.oks,T.ok,ap,ae,a0e,a0c,a0h]at hok hpre
 try dsimp only[T.den]at hok hpre
 unfold tq qy;obtain⟨hs,hS⟩:=hpre;clear hok;obtain⟨s0,s8,f8,tf,_,_,e8,re,_⟩:=mo hS;unfold tc xl at hs;refine bd (fun hp=>⟨hp,hS,bd (fun h=>by cases h) (fun _=>?_)⟩) (fun hp=>⟨hp,hS,bd (fun _=>rfl) (fun h=>by cases h)⟩);rw[hp,a17]at hs;have P:=abx hS hp;have F:=aoz s (pcR s);have hO:o8 (pcR s) s (fx ((pcR s).2.2.length:Int))=gq s (pcR s):=rfl;rw[hO];clear hO;generalize pcR s=K at *;have hC:=P.C.le;have hn:=P.n;have hH:=P.H.le;have hFn:=F.n;have hbl:(jv (gq s K)).length=K.2.2.length:=by unfold jv;rw[bp,hFn]
 have hal:(bh s K).length=(gq s K).length:=aa6;refine⟨by omega,⟨by omega,by rw[ao];(try dsimp only);omega,⟨by omega,fun p hp=>by obtain⟨i,i1,rfl⟩:=pe hp;have:=(alv P (k:=(i:Int)) (by omega) (by omega)).2;rw[a0m]at this;omega⟩,fun a ha=>apd.1 ha⟩,au (fun h=>?_) (fun h=>?_)⟩
 ·rfl
 have h40:(gq s K).length<=40:=by omega
 refine⟨h40,lj.2 fun i i0 i1=>by have:=F.r i i0 i1;omega,?_⟩;refine bw (fun (q:(bsf×(((List (ByteArray×Int))×bse)×bsl)))=>0<=q.1.2.2.2.1/\q.1.2.2.2.1<=(gq s K).length/\q.2.1=K/\q.2.2.1=jv (gq s K)/\q.2.2.2.1=(s,((s.1,(lu ((bh s K).take q.1.2.2.2.1.toNat),(toA s ((bh s K).take q.1.2.2.2.1.toNat),([],[])))),([],(bh s K).take q.1.2.2.2.1.toNat)))) (fun (q:(bsf×(((List (ByteArray×Int))×bse)×bsl)))=>((gq s K).length-q.1.2.2.2.1).toNat) ?_ ⟨a0r _,by dsimp only;omega,rfl,rfl,rfl⟩;rintro⟨⟨_,_,_,i,_⟩,k',b',o',_⟩ next ⟨i0,i1,q1,q2,q3⟩ hnx
 intros
 try dsimp only at i0 i1 q1 q2 q3 hnx⊢
 subst q1;subst q2;subst q3
 try dsimp only
 refine au (fun hi=>?_) (fun hi=>?_)
 ·have hr:=F.r i i0 hi;have ht:(bh s k').take (i+1).toNat=(bh s k').take i.toNat++[k'.2.2.getD ((gq s k').getD i.toNat 0).toNat (0,[])]:=by rw[jz (bh s k') (0,[]) i0 (by omega),ao2 (by omega)]
  have htl:((bh s k').take i.toNat).length<=40:=by rw[a1c];omega
  refine⟨i0,hi,hr.1,hr.2,by omega,by rw[ao];(try dsimp only);omega,da (by simp only[a0l,a0p];omega),da (by unfold lu;rw[a0y];simp only[a0l,a0p];omega),da (by unfold toA;rw[a0y];simp only[a0l,a0p];omega),by rw[ao];(try dsimp only);omega,hnx _ ⟨by dsimp only;omega,by dsimp only;omega,rfl,rfl,?_⟩ (by dsimp only;omega)⟩
  try dsimp only
  rw[ht];simp only[lu,toA,a2y,a07,a2l]
 clear hnx;have e:i=(gq s k').length:=by omega
 subst e;rw[a0m,a27 (by omega)];refine bw (fun (q:(bsf×(((List (ByteArray×Int))×bse)×bsl)))=>0<=q.1.2.2.2.1/\q.1.2.2.2.1<=s.1/\q.2.1=k'/\q.2.2.1=jv (gq s k')/\q.2.2.2.1=(s,((s.1,(lu (bh s k'),(toA s (bh s k'),(y5 s k' q.1.2.2.2.1.toNat,[])))),([],bh s k')))) (fun (q:(bsf×(((List (ByteArray×Int))×bse)×bsl)))=>(s.1-q.1.2.2.2.1).toNat) ?_ ⟨a0r _,by dsimp only;omega,rfl,rfl,rfl⟩;rintro⟨⟨_,_,_,x,_⟩,k2,b',o',_⟩ next ⟨x0,x1,q1,q2,q3⟩ hnx
 intros
 try dsimp only at x0 x1 q1 q2 q3 hnx⊢
 subst q1;subst q2;subst q3
 try dsimp only
 refine au (fun hx=>?_) (fun hx=>?_)
 ·have O:=(afv P (aep x0 hx)).1;refine⟨by simp,O.a0,O.a1,O.o0,by rw[hbl];exact O.o1,da (by unfold y5;rw[bp];simp only[a0l,a0p];omega),by rw[ao];(try dsimp only);omega,hnx _ ⟨by dsimp only;omega,by dsimp only;omega,rfl,rfl,?_⟩ (by dsimp only;omega)⟩
  try dsimp only
  have:y5 s k2 (x+1).toNat=y5 s k2 x.toNat++[(jv (gq s k2)).getD (k2.2.1.getD (dh k2 x []).toNat 0).toNat 0]:=by unfold y5;rw[vr x0];rfl
  rw[this]
 clear hnx;have e:x=s.1:=by omega
 subst e;refine bw (fun (q:(bsf×(((List (ByteArray×Int))×bse)×bsl)))=>0<=q.1.2.2.2.1/\q.1.2.2.2.1<=s.2.1.length/\q.2.1=k2/\q.2.2.1=jv (gq s k2)/\q.2.2.2.1=(s,(ads s k2,(mt s k2 q.1.2.2.2.1.toNat,bh s k2)))) (fun (q:(bsf×(((List (ByteArray×Int))×bse)×bsl)))=>(s.2.1.length-q.1.2.2.2.1).toNat) ?_ ⟨a0r _,by dsimp only;omega,rfl,rfl,rfl⟩;rintro⟨⟨_,_,_,x,_⟩,k3,b',o',_⟩ next ⟨x0,x1,q1,q2,q3⟩ hnx
 intros
 try dsimp only at x0 x1 q1 q2 q3 hnx⊢
 subst q1;subst q2;subst q3
 try dsimp only
 refine au (fun hx=>?_) (fun hx=>?_)
 ·have O:=(afv P (ahj hS x0 hx).1).1;refine⟨x0,hx,by simp,O.a0,O.a1,O.o0,by rw[hbl];exact O.o1,da (by unfold mt;rw[bp];simp only[a0l,a0p];omega),by rw[ao];(try dsimp only);omega,hnx _ ⟨by dsimp only;omega,by dsimp only;omega,rfl,rfl,?_⟩ (by dsimp only;omega)⟩
  try dsimp only
  have:mt s k3 (x+1).toNat=mt s k3 x.toNat++[(jv (gq s k3)).getD (k3.2.1.getD (dh k3 (s.2.1.getD x.toNat 0) [x]).toNat 0).toNat 0]:=by unfold mt;rw[vr x0];rfl
  rw[this]
 clear hnx;have e:x=s.2.1.length:=by omega
 subst e;rw[a0m];refine⟨bm9 P h40,bnc P,bd (fun h=>?_) (fun h=>?_)⟩
 ·rfl
 ·have h2:aan (s,(rl s k3,(mt s k3 s.2.1.length,bh s k3)))=true:=by rw[Bool.not_eq_eq_eq_not,Bool.not_false]at h;exact h
  have hs2:(decide ((gq s k3).length<=40)&&aan (s,(rl s k3,(mt s k3 s.2.1.length,bh s k3))))=true:=by rw[a0a,a06];exact⟨h40,h2⟩
  rw[hs2]at hs;cases hs
theorem ahd:b8 Tryz.prog 75 gu:=cg (Φ:=aai) (ai wy (ai abm (ai vw (ai yc (ai afr (ai og (ai uq (ai sx aq)))))))) bi (by kernel_rfl) (fn:=Tryz.f75) (c:=bf Tryz.f75) (by kernel_rfl) (by kernel_rfl) (by kernel_rfl) gu rfl x4 (cp [(16,5008),(1,1500),(21,5013),(26,5014),(14,5007),(15,5009)]) (by kernel_rfl) (by kernel_rfl) (by kernel_rfl) (by decide) (fun x K=>tq x.1 K) (fun _ _=>by kernel_rfl) (fun x h1 h2=>ahz x.1 h1 h2)
theorem aah:b8 Tryz.prog 75 aj5:=aza ago ahd
def ye:Sp:=⟨[(.pt SchemaT)],[false],true,fun x=>tc x.1,fun x=>[bo x.1=true],[(false,(.pt (.p (.fz (.pt SchemaT)) (.p (.p (.fz (.int .i64)) (.p (.sl (.fz (.int .i64))) (.p (.sl (.fz (.int .i64))) (.p (.sl (.fz (.int .i64))) (.sl (.sl (.fz (.int .i64)))))))) (.p (.sl (.fz (.int .i64))) (.sl (.fz ak))))))),(false,(.fz (.int .i64)))],fun x=>(xl x.1,0,()),[(false,(.fz .any)),(false,(.fz (.int .i64)))],fun x=>((),3,())⟩
def ak7:Ct:=rz ye true
def alz:Ct:=rz ye false
def aex:Ct:=spC ye
end Go.Bm
namespace Go.Proofs.NaAs
open Go.Proofs Go.RowKit Go.Extern.Stop Go.Stop Go.Extern
set_option maxRecDepth 100000
theorem as_nil(t:Value)(w:World) :
  Calls Tryz.prog 76 #[.nilIface,t] w fun e w'=>e=.returned (.bool false)/\w'=w:=by
 go_enter Tryz.func76,Tryz.ntmps76
 go_wp2
 go_ret
 exact⟨rfl,rfl⟩
theorem Tryz.valueOf27(t:Addr)(w:World):(ReflectliteValue.unpack (.iface 121 (.pointer (some t)))).run Tryz.prog w
  = .ok (.agg #[.pointer (some ⟨1,121,none⟩),.pointer (some ⟨w.heap.size,0,none⟩),.int .u64 150]) (w.alloc (.cells #[.pointer (some t)] 121)):=by kernel_rfl
theorem Tryz.type27(a : Addr)(w : World) : (ReflectliteValue.methodAny (ReflectliteValue.valueError "reflectlite.Value.Type" 0) (fun t _ _ _ => ReflectliteType.toType t) #[.agg #[.pointer (some ⟨1, 121, none⟩), .pointer (some a), .int .u64 150]]).run Tryz.prog w
  = .ok (.iface 170 (.agg #[.pointer (some ⟨1,121,none⟩)])) w:=by kernel_rfl
theorem Tryz.methodKind(h : Value)(w : World) : (Go.method 342 170 (.agg #[h]) "Kind").run Tryz.prog w = .ok (163, h) w := by kernel_rfl
theorem Tryz.kind27(w:World):((ReflectliteType.abiMethod fun t=>(fun a:Nat=>Value.int IntKind.u8 (a:Int)) <$> Rtype.kind t) #[.pointer (some ⟨1,121,none⟩)]).run Tryz.prog w=.ok (.int .u8 22) w:=by kernel_rfl
theorem Tryz.kind25(w:World):((ReflectliteType.abiMethod fun t=>(fun a:Nat=>Value.int IntKind.u8 (a:Int)) <$> Rtype.kind t) #[.pointer (some ⟨1,119,none⟩)]).run Tryz.prog w=.ok (.int .u8 25) w:=by kernel_rfl
theorem rlm(z:Sem Value)(f:TypeId->Addr->Nat->Nat->Sem Value)(v:Value) :
  ReflectliteValue.method z f #[v]=(do match ←ReflectliteValue.parts v with|none=>z|some (t,a,fl)=>f t a fl (fl%32)):=rfl
theorem Tryz.parts27(a:Addr)(w:World):(ReflectliteValue.parts (.agg #[.pointer (some ⟨1,121,none⟩),.pointer (some a),.int .u64 150])).run Tryz.prog w=.ok (some (121,a,150)) w:=by kernel_rfl
theorem Tryz.isNil27(a p:Addr)(W:World)(ha:W.cell? a=some (.pointer (some p))) :
  (ReflectliteValue.method (ReflectliteValue.valueError "reflectlite.Value.IsNil" 0) ReflectliteValue.isNil #[.agg #[.pointer (some ⟨1, 121, none⟩), .pointer (some a), .int .u64 150]]).run Tryz.prog W = .ok (.bool false) W := by
 rw[rlm];simp only[Sem.run_bind,Tryz.parts27,Result.andThen];simp[ReflectliteValue.isNil,loadVar,isAgg,underlying,Tryz.underlying121,ha,Result.andThen]
theorem Tryz.methodElem(h : Value)(w : World) : (Go.method 342 170 (.agg #[h]) "Elem").run Tryz.prog w = .ok (175, .agg #[h]) w := by kernel_rfl
theorem Tryz.methodImplements(h : Value)(w : World) : (Go.method 342 170 (.agg #[h]) "Implements").run Tryz.prog w = .ok (176, .agg #[h]) w := by kernel_rfl
theorem Tryz.methodAssignableTo(h : Value)(w : World) : (Go.method 342 170 (.agg #[h]) "AssignableTo").run Tryz.prog w = .ok (173, .agg #[h]) w := by kernel_rfl
theorem Tryz.elem27(w:World):(ReflectliteType.method ReflectliteType.elem #[.agg #[.pointer (some ⟨1,121,none⟩)]]).run Tryz.prog w=.ok (.iface 170 (.agg #[.pointer (some ⟨1,119,none⟩)])) w:=by kernel_rfl
theorem Tryz.implements25(w : World) : (ReflectliteType.relation "Implements" ReflectliteType.implements_ #[.agg #[.pointer (some ⟨1, 119, none⟩)], .iface 170 (.agg #[.pointer (some ⟨1, 115, none⟩)])]).run Tryz.prog w = .ok (.bool true) w := by kernel_rfl
theorem Tryz.typeOf25(v:Value)(w:World):(ReflectliteType.typeOf #[.iface 119 v]).run Tryz.prog w=.ok (.iface 170 (.agg #[.pointer (some ⟨1,119,none⟩)])) w:=by kernel_rfl
theorem Tryz.assignable25(w : World) : (ReflectliteType.relation "AssignableTo" ReflectliteType.assignableTo #[.agg #[.pointer (some ⟨1, 119, none⟩)], .iface 170 (.agg #[.pointer (some ⟨1, 119, none⟩)])]).run Tryz.prog w = .ok (.bool true) w := by kernel_rfl
theorem Tryz.valueOf25(e:ByteArray)(w:World):(ReflectliteValue.unpack (.iface 119 (.agg #[.string e]))).run Tryz.prog w
  = .ok (.agg #[.pointer (some ⟨1,119,none⟩),.pointer (some ⟨w.heap.size,0,none⟩),.int .u64 153]) (w.alloc (.cells #[.string e] 119)):=by kernel_rfl
theorem Tryz.elemOf27(w:World):(Rtype.elem? 121).run Tryz.prog w=.ok (some 119) w:=by kernel_rfl
theorem Tryz.mk25(p:Addr)(w:World):(ReflectliteValue.mk 119 p ReflectliteValue.flagAddr).run Tryz.prog w=.ok (.agg #[.pointer (some ⟨1,119,none⟩),.pointer (some p),.int .u64 409]) w:=by kernel_rfl
theorem Tryz.elemV27(a p:Addr)(W:World)(ha:W.cell? a=some (.pointer (some p))) :
  (ReflectliteValue.method (ReflectliteValue.valueError "reflectlite.Value.Elem" 0) ReflectliteValue.elem #[.agg #[.pointer (some ⟨1, 121, none⟩), .pointer (some a), .int .u64 150]]).run Tryz.prog W
   = .ok (.agg #[.pointer (some ⟨1,119,none⟩),.pointer (some p),.int .u64 409]) W:=by
 rw[rlm];simp only[Sem.run_bind,Tryz.parts27,Result.andThen];simp[ReflectliteValue.elem,loadVar,isAgg,underlying,Tryz.underlying121,ha,Result.andThen,Tryz.elemOf27,Tryz.mk25]
theorem rls(v x:Value):ReflectliteValue.set #[v,x]=(do
  let (some (dst,a,fl),some (src,b,_)):=(←ReflectliteValue.parts v,←ReflectliteValue.parts x)
   | unsupported (.noEntry "extern/(internal/reflectlite.Value).Set.zeroValue")
  if fl / ReflectliteValue.flagAddr % 2 == 0 then unsupported (.noEntry "extern/(internal/reflectlite.Value).Set.unaddressable")
  let val ←loadVar src b
  if ←Rtype.directlyAssignable dst src then storeVar dst a val
  else if ←Rtype.implements dst src then
   if (←Rtype.kind src)==20 then
    match val with
    | .nilIface => unsupported (.noEntry "extern/reflectlite: a nil value of one interface type handed on as a value of another")
    |_=>storeVar dst a val
   else storeVar dst a (.iface src val)
  else panicString ("reflectlite.Set: value of type " ++ (← Rtype.spelt src) ++ " is not assignable to type " ++ (← Rtype.spelt dst))
  pure (.tuple #[])):=rfl
theorem Tryz.parts25a(a:Addr)(w:World):(ReflectliteValue.parts (.agg #[.pointer (some ⟨1,119,none⟩),.pointer (some a),.int .u64 409])).run Tryz.prog w=.ok (some (119,a,409)) w:=by kernel_rfl
theorem Tryz.parts25(a:Addr)(w:World):(ReflectliteValue.parts (.agg #[.pointer (some ⟨1,119,none⟩),.pointer (some a),.int .u64 153])).run Tryz.prog w=.ok (some (119,a,153)) w:=by kernel_rfl
theorem Tryz.direct25(w:World):(Rtype.directlyAssignable 119 119).run Tryz.prog w=.ok true w:=by kernel_rfl
theorem Tryz.size25(w:World):(sizeOf 119).run Tryz.prog w=.ok 1 w:=by kernel_rfl
theorem Tryz.loadVar119{b:Addr}{e:ByteArray}{W:World}(hb:W.cell? b=some (.string e)):(loadVar 119 b).run Tryz.prog W=.ok (.agg #[.string e]) W:=by have hb':W.cell? { b with off:=b.off+0 }=some (.string e):=hb;simp[loadVar,isAgg,underlying,Tryz.underlying119,Tryz.size25,loadCells,loadCellsFrom,Addr.add,hb]
theorem Tryz.storeVar119{ta:Addr}{e:ByteArray}{old:Value}{W:World}(ht:W.cell? ta=some old)(hf:W.frozen? ta=false):(storeVar 119 ta (.agg #[.string e])).run Tryz.prog W=.ok () (W.setCell ta (.string e)):=by simp[storeVar,Tryz.size25,Value.cells,storeCells,Addr.add];rw[run_store Tryz.prog W ta _ _ (by rfl)];simp[ht,hf]
theorem Tryz.set25(ta b:Addr)(e:ByteArray)(old:Value)(W:World)(hb:W.cell? b=some (.string e))(ht:W.cell? ta=some old)(hf:W.frozen? ta=false) :
  (ReflectliteValue.set #[.agg #[.pointer (some ⟨1,119,none⟩),.pointer (some ta),.int .u64 409],.agg #[.pointer (some ⟨1,119,none⟩),.pointer (some b),.int .u64 153]]).run Tryz.prog W
   = .ok (.tuple #[]) (W.setCell ta (.string e)):=by
 rw[rls];simp only[Sem.run_bind,Tryz.parts25a,Tryz.parts25,Result.andThen];simp[ReflectliteValue.flagAddr,Tryz.loadVar119 hb,Result.andThen,Tryz.direct25,Tryz.storeVar119 ht hf]
set_option maxHeartbeats 4000000 in
theorem as_hit(e:ByteArray)(t:Addr)(old:Value)(w:World)(hg:w.cell? ⟨0,0,none⟩=some (.iface 170 (.agg #[.pointer (some ⟨1,115,none⟩)])))(ht0:w.cell? t=some old)(hf0:w.frozen? t=false) :
  Calls Tryz.prog 76 #[.iface 119 (.agg #[.string e]),.iface 121 (.pointer (some t))] w fun ev w'=>ev=.returned (.bool true)/\w'=((((w.alloc (.cells #[.pointer (some t)] 121)).alloc (.cells #[.pointer (some ⟨1,121,none⟩),.pointer (some ⟨w.heap.size,0,none⟩),.int .u64 150] 143)).alloc (.cells #[.pointer (some ⟨1,121,none⟩),.pointer (some ⟨w.heap.size,0,none⟩),.int .u64 150] 143)).alloc (.cells #[.string e] 119)).setCell t (.string e):=by
 have h6:=@run_callFunc_extern Tryz.prog 99 _ (fun args=>ReflectliteValue.unpack (args.getD 0 (.tuple #[]))) Tryz.func99 (by kernel_rfl) (by kernel_rfl) (by kernel_rfl) (by kernel_rfl);have h7 := @run_callFunc_extern Tryz.prog 100 _ (ReflectliteValue.methodAny (ReflectliteValue.valueError "reflectlite.Value.Type" 0) (fun t _ _ _ => ReflectliteType.toType t)) Tryz.func100 (by kernel_rfl) (by kernel_rfl) (by kernel_rfl) (by kernel_rfl);have h8 := @run_callFunc_extern Tryz.prog 101 _ (ReflectliteValue.method (ReflectliteValue.valueError "reflectlite.Value.IsNil" 0) ReflectliteValue.isNil) Tryz.func101 (by kernel_rfl) (by kernel_rfl) (by kernel_rfl) (by kernel_rfl);have h27:=@run_callFunc_extern Tryz.prog 163 _ (ReflectliteType.abiMethod fun t=>do pure (.int .u8 (←Rtype.kind t))) Tryz.func163 (by kernel_rfl) (by kernel_rfl) (by kernel_rfl) (by kernel_rfl);have h37:=@run_callFunc_extern Tryz.prog 175 _ (ReflectliteType.method ReflectliteType.elem) Tryz.func175 (by kernel_rfl) (by kernel_rfl) (by kernel_rfl) (by kernel_rfl);have h38 := @run_callFunc_extern Tryz.prog 176 _ (ReflectliteType.relation "Implements" ReflectliteType.implements_) Tryz.func176 (by kernel_rfl) (by kernel_rfl) (by kernel_rfl) (by kernel_rfl);have h10:=@run_callFunc_extern Tryz.prog 122 _ ReflectliteType.typeOf Tryz.func122 (by kernel_rfl) (by kernel_rfl) (by kernel_rfl) (by kernel_rfl);have h35 := @run_callFunc_extern Tryz.prog 173 _ (ReflectliteType.relation "AssignableTo" ReflectliteType.assignableTo) Tryz.func173 (by kernel_rfl) (by kernel_rfl) (by kernel_rfl) (by kernel_rfl);have h11 := @run_callFunc_extern Tryz.prog 123 _ (ReflectliteValue.method (ReflectliteValue.valueError "reflectlite.Value.Elem" 0) ReflectliteValue.elem) Tryz.func123 (by kernel_rfl) (by kernel_rfl) (by kernel_rfl) (by kernel_rfl);have h12:=@run_callFunc_extern Tryz.prog 124 _ ReflectliteValue.set Tryz.func124 (by kernel_rfl) (by kernel_rfl) (by kernel_rfl) (by kernel_rfl);have tO:=Tryz.typeOf25;have mA:=Tryz.methodAssignableTo;have a25:=Tryz.assignable25;have v25:=Tryz.valueOf25;have f6:=Tryz.valueOf27;have f7:=Tryz.type27;have mK:=Tryz.methodKind;have mE:=Tryz.methodElem;have mI:=Tryz.methodImplements;have k27:=Tryz.kind27;have k25:=Tryz.kind25;have e27:=Tryz.elem27;have i25:=Tryz.implements25;have n8:=Tryz.isNil27 ⟨w.heap.size,0,none⟩ t ((w.alloc (.cells #[.pointer (some t)] 121)).alloc (.cells #[.pointer (some ⟨1,121,none⟩),.pointer (some ⟨w.heap.size,0,none⟩),.int .u64 150] 143)) (by simp)
 have hlt:0<w.heap.size:=by
  rcases Nat.eq_zero_or_pos w.heap.size with h0|h
  ·simp[World.cell?,h0]at hg
  ·exact h
 have hg2:((w.alloc (.cells #[.pointer (some t)] 121)).alloc (.cells #[.pointer (some ⟨1,121,none⟩),.pointer (some ⟨w.heap.size,0,none⟩),.int .u64 150] 143)).cell? ⟨0,0,none⟩=some (.iface 170 (.agg #[.pointer (some ⟨1,115,none⟩)])):=by rw[World.cell?_alloc_lt _ _ ⟨0,0,none⟩ (by simp),World.cell?_alloc_lt _ _ ⟨0,0,none⟩ hlt];exact hg
 have htl:t.block<w.heap.size:=by
  rcases Nat.lt_or_ge t.block w.heap.size with h|h
  ·exact h
  ·simp[World.cell?,Array.getElem?_eq_none h]at ht0
 have el:=Tryz.elemV27 ⟨w.heap.size,0,none⟩ t (((w.alloc (.cells #[.pointer (some t)] 121)).alloc (.cells #[.pointer (some ⟨1,121,none⟩),.pointer (some ⟨w.heap.size,0,none⟩),.int .u64 150] 143)).alloc (.cells #[.pointer (some ⟨1,121,none⟩),.pointer (some ⟨w.heap.size,0,none⟩),.int .u64 150] 143)) (by rw[World.cell?_alloc_lt _ _ ⟨w.heap.size,0,none⟩ (by simp;omega)];simp)
 have st:=Tryz.set25 t ⟨w.heap.size+1+1+1,0,none⟩ e old ((((w.alloc (.cells #[.pointer (some t)] 121)).alloc (.cells #[.pointer (some ⟨1,121,none⟩),.pointer (some ⟨w.heap.size,0,none⟩),.int .u64 150] 143)).alloc (.cells #[.pointer (some ⟨1,121,none⟩),.pointer (some ⟨w.heap.size,0,none⟩),.int .u64 150] 143)).alloc (.cells #[.string e] 119))
  (by rw[World.cell?_alloc_at _ _ _ _ (by simp)];rfl)
  (by rw[World.cell?_alloc_lt _ _ t (by simp;omega),World.cell?_alloc_lt _ _ t (by simp;omega),World.cell?_alloc_lt _ _ t (by simp;omega),World.cell?_alloc_lt _ _ t htl];exact ht0)
  (by rw[World.frozen?_alloc_old _ _ t (by simp;omega),World.frozen?_alloc_old _ _ t (by simp;omega),World.frozen?_alloc_old _ _ t (by simp;omega),World.frozen?_alloc_old _ _ t (Nat.ne_of_lt htl)];exact hf0)
 go_enter Tryz.func76,Tryz.ntmps76
 go_wp2
 refine wp_loop_rounds 1 ?_;rw[rounds_succ]
 go_wp2
 go_ret
 exact⟨rfl,rfl⟩
end Go.Proofs.NaAs
namespace Go.Bm
open Go.Proofs Go.RowKit
theorem boq : Tryz.prog.globalNamed "errors.errorType" = some 0 := by kernel_rfl
theorem bog : (Tryz.prog.cutTypes.find? (·.1 == "internal/reflectlite.rtype")).map (·.2) = some 170 := by kernel_rfl
theorem bkr:((List.range 242).filter fun t=>Tryz.prog.rowNamed t [101,114,114,111,114])=[115]:=by kernel_rfl
theorem bj9:Tryz.prog.types.size=242:=by kernel_rfl
theorem bli{A:Nat->Prop}{w:World}(h:ErrG Tryz.prog A w):w.cell? ⟨0,0,none⟩=some (.iface 170 (.agg #[.pointer (some ⟨1,115,none⟩)])):=by
 obtain⟨h1,rt,et,e2,e3,e4,e5⟩:=h 0 boq;obtain rfl:=a23 (bog.symm.trans e2);have hm:et∈(List.range 242).filter fun t=>Tryz.prog.rowNamed t [101,114,114,111,114]:=a4e.2 ⟨List.mem_range.2 (by rw[←bj9];exact e3),e4⟩;rw[bkr]at hm;obtain rfl:=a0u.1 hm;have hh:typeHandle Tryz.prog 115=.pointer (some ⟨1,115,none⟩):=by kernel_rfl
 rw[hh]at e5;exact e5
def prO:O:=(.pt (.p (.fz (.pt SchemaT)) (.p (.p (.fz (.int .i64)) (.p (.sl (.fz (.int .i64))) (.p (.sl (.fz (.int .i64))) (.p (.sl (.fz (.int .i64))) (.sl (.sl (.fz (.int .i64)))))))) (.p (.sl (.fz (.int .i64))) (.sl (.fz ak))))))
theorem bde{A:Nat->Prop}{w:World}{t:T}{us:List Value}{x:d3 [t]}(hr:nz A w [false] [t] x us):∃u,us=[u]:=by obtain⟨u,us',vs,rfl,_,_,_,h⟩:=hr;have h:us'=[]:=h;subst h;exact⟨u,rfl⟩
theorem bp5{A:Nat->Prop}{w:World}{u:Value}{x:d3 [T.pt SchemaT]}(hE:ErrG Tryz.prog A w)(hA:∀b,A b->b<w.heap.size)(hr:nz A w [false] [.pt SchemaT] x [u])(h1:tc x.1=true)(h2:bo x.1=true) :
  Calls Tryz.prog 75 #[u] w fun e w'=>∃v1 S,e=.returned (.tuple #[v1,.nilIface])/\Ext w w'/\(∀b,S b->w.heap.size<=b/\b<w'.heap.size)/\
   Rel (fun b=>b<w'.heap.size/\(true=true/\A b\/w.heap.size<=b)/\¬S b) w' prO (xl x.1) S [v1]:=by
 refine (aah.2.1 A w [u] x hE hA hr ⟨h1,h2,trivial⟩).mono ?_;rintro e w' ⟨rs,S,rfl,hext,hS,hres⟩;obtain⟨u1,us1,vs1,S1,S2,rfl,_,g2,s1,_,_,r1,r2⟩:=hres;obtain⟨u2,us2,vs2,S3,S4,rfl,_,g2',_,_,_,q1,q2⟩:=r2;have q2:us2=[]:=q2;subst q2;have g2:=g2 rfl;have g2':=g2' rfl;subst g2;subst g2';simp only[Rel,ah]at q1;have q1:(false=false/\[u2]=[Value.nilIface])\/∃s,false=true/\[u2]=[Value.iface 119 (.agg #[.string s])]:=q1
 have e2:u2=.nilIface:=by
  rcases q1 with⟨_,h⟩|⟨s,h,_⟩
  ·simpa using h
  ·cases h
 subst e2;exact⟨u1,S1,rfl,hext,fun b hb=>hS b (s1 b hb),Rel.keep (fun b hb=>⟨⟨hb.1,hb.2.1,fun h=>hb.2.2 (s1 b h)⟩,rfl⟩) _ _ _ _ (fun _ _=>rfl) r1⟩
theorem bpd{A:Nat->Prop}{w:World}{u:Value}{x:d3 [T.pt SchemaT]}(hE:ErrG Tryz.prog A w)(hA:∀b,A b->b<w.heap.size)(hr:nz A w [false] [.pt SchemaT] x [u])(h1:tc x.1=false)(h2:bo x.1=true) :
  Calls Tryz.prog 75 #[u] w fun e w'=>∃v1 s,e=.returned (.tuple #[v1,.iface 119 (.agg #[.string s])])/\Ext w w':=by
 refine (aah.2.2 A w [u] x hE hA hr ⟨h1,h2,trivial⟩).mono ?_;rintro e w' ⟨rs,S,rfl,hext,hS,hres⟩;obtain⟨u1,us1,vs1,S1,S2,rfl,_,g2,s1,_,_,r1,r2⟩:=hres;obtain⟨u2,us2,vs2,S3,S4,rfl,_,g2',_,_,_,q1,q2⟩:=r2;have q2:us2=[]:=q2;subst q2;have g2':=g2' rfl;subst g2';simp only[Rel,ah]at q1;have q1:(true=false/\[u2]=[Value.nilIface])\/∃s,true=true/\[u2]=[Value.iface 119 (.agg #[.string s])]:=q1;rcases q1 with⟨h,_⟩|⟨s,_,h⟩
 ·cases h
 ·have e2:u2=.iface 119 (.agg #[.string s]):=by simpa using h
  subst e2;exact⟨u1,s,rfl,hext⟩
theorem aa4{w w':World}{o:Obj}(h:Ext w w'):Ext w (w'.alloc o):=by
 have hs:(w'.alloc o).heap=w'.heap.push o:=rfl;refine⟨h.os,⟨h.tape.1,h.tape.2⟩,h.output,?_,fun b hb=>?_⟩
 ·rw[hs,a40];have:=h.size;omega
 ·rw[hs,Array.getElem?_push,ds (by have:=h.size;omega)];exact h.old b hb
theorem ax0{w:World}{o:Obj}{b:Nat}(hb:b<w.heap.size):(w.alloc o).heap[b]? = w.heap[b]?:=by have hs:(w.alloc o).heap=w.heap.push o:=rfl;rw[hs,Array.getElem?_push,ds (by omega)]
theorem bph:b8 Tryz.prog 46 ak7:=by
 refine⟨sd (fn:=Tryz.f46) (c:=bf Tryz.f46) (by kernel_rfl) (by kernel_rfl) (by kernel_rfl),fun A w us x hE hA hr hp=>?_⟩;obtain⟨h1,h2,_⟩:=hp;obtain⟨u,rfl⟩:=bde hr;have hpres:=bp5 hE hA hr h1 h2;show Calls Tryz.prog 46 #[u] w _
 go_enter Tryz.func46,Tryz.ntmps46
 go_wp2_with (first|(go_at_call 75;refine hpres.mono ?_;rintro e w' ⟨v1,S,rfl,hext,hS,hrel⟩)|(go_at_call 76;refine (NaAs.as_nil _ _).mono ?_;rintro e w' ⟨rfl,rfl⟩))
 go_ret2
 refine⟨[v1,.int .i64 0],S,rfl,aa4 hext,fun b hb=>?_,?_⟩
 ·have:=hS b hb;have hs:(w'.alloc (.cells #[.string ByteArray.empty] 119)).heap.size=w'.heap.size+1:=by show (w'.heap.push _).size=_;rw[a40]
  exact⟨this.1,by have:=this.2;exact a1p this (by show _<=(w'.heap.push _).size;rw[a40];omega)⟩
 ·refine⟨v1,[.int .i64 0],[v1],S,fun _=>False,rfl,(fun h=>by cases h),fun _=>rfl,fun b hb=>hb,(fun b hb=>hb.elim),(fun b _ h=>h.elim),?_,.int .i64 0,[],[.int .i64 0],fun _=>False,fun _=>False,rfl,(fun h=>by cases h),fun _=>rfl,fun b hb=>hb,fun b hb=>hb,(fun b hb=>hb.elim),?_,rfl⟩
  ·refine Rel.keep (fun b hb=>⟨⟨?_,hb.2.1.elim (fun h=>.inl ⟨rfl,h.2⟩) .inr,hb.2.2⟩,ax0 hb.1⟩) _ _ _ _ (fun b hb=>ax0 (hS b hb).2) hrel;show _<(w'.heap.push _).size;rw[a40];have:=hb.1;omega
  ·simp only[Rel,dc];have h:inK .i64 (0:Int):=by unfold inK;decide
   exact⟨rfl,h⟩
theorem bp6:b8 Tryz.prog 46 alz:=by
 refine⟨sd (fn:=Tryz.f46) (c:=bf Tryz.f46) (by kernel_rfl) (by kernel_rfl) (by kernel_rfl),fun A w us x hE hA hr hp=>?_⟩;obtain⟨h1,h2,_⟩:=hp;obtain⟨u,rfl⟩:=bde hr;have hpres:=bpd hE hA hr h1 h2;have hg:=bli hE;have h0:0<w.heap.size:=cell_lt hg;show Calls Tryz.prog 46 #[u] w _
 go_enter Tryz.func46,Tryz.ntmps46
 go_wp2_with (first|(go_at_call 75;refine hpres.mono ?_;rintro e w' ⟨v1,s,rfl,hext⟩)|(go_at_call 76;refine (NaAs.as_hit s _ (.string ⟨#[]⟩) _ ?_ ?_ ?_).mono ?_;rotate_left 3;rintro e w' ⟨rfl,rfl⟩))
 ·go_ret2
  refine⟨[.pointer none,.int .i64 3],fun _=>False,rfl,aa4 (aa4 (aa4 (aa4 (aa4 hext)))),(fun b hb=>hb.elim),?_⟩;refine⟨.pointer none,[.int .i64 3],[.pointer none],fun _=>False,fun _=>False,rfl,(fun h=>by cases h),fun _=>rfl,fun b hb=>hb,fun b hb=>hb,(fun b hb=>hb.elim),?_,.int .i64 3,[],[.int .i64 3],fun _=>False,fun _=>False,rfl,(fun h=>by cases h),fun _=>rfl,fun b hb=>hb,fun b hb=>hb,(fun b hb=>hb.elim),?_,rfl⟩
  ·simp only[Rel,ah];exact⟨_,rfl,rfl⟩
  ·simp only[Rel,dc];have h:inK .i64 (3:Int):=by unfold inK;decide
   exact⟨rfl,h⟩
 ·have hs:=hext.size;rw[World.cell?_alloc_lt _ _ ⟨0,0,none⟩ (by show 0<w'.heap.size;omega),axj (hext.old 0 h0)];exact hg
 ·simp
 ·simp
theorem amp:b8 Tryz.prog 46 aex:=aza bph bp6
def bn(s:ac):be×(List Int×(List ab×(Int×Unit))):=if bo s=true then (if tc s=true then ((xl s).2.1,(xl s).2.2.1,(xl s).2.2.2,0,())else (T.dflt aj,[],[],3,()))else (T.dflt aj,[],[],1,())
theorem azy{s:ac}(hS:bo s=true)(h:tc s=true):PthsR (xl s).2.2.2:=by unfold tc at h;rw[a0a,a0a,a06]at h;have P:=abx hS h.1.1;have hal:(bh s (pcR s)).length=(gq s (pcR s)).length:=aa6;refine⟨by show (bh s (pcR s)).length<=1000000;omega,fun p hp=>?_⟩;obtain⟨i,i1,rfl⟩:=pe (l:=bh s (pcR s)) hp;have:=(aaf P (i:=(i:Int)) (by omega) (by omega)).2;rw[a0m]at this;omega
def ip:Ct:=⟨[SchemaT],[true],fun x=>[],[(true,ax1),(false,(.sl (.fz (.int .i64)))),(false,(.sl aie)),(false,(.fz (.int .i64)))],fun x=>((bn x.1).1,(bn x.1).2.1,(bn x.1).2.2.1,(bn x.1).2.2.2.1,()),false,none⟩
def ai1:FuncId->Option Ct:=lkp [(45,d9),(47,ma),(46,aex)]
def u9(s:ac)(K:be×(List Int)×(List ab)×Int×Unit->Prop):Prop:=(cnd (!(bo s)) (K ((0,([],([],([],[])))),([],(([]:List br9),(1,()))))) (cnd (tc s) (((tc s)=true)/\(((bo s)=true)/\(cnd ((0:Int) != 0) (K ((0,([],([],([],[])))),([],(([]:List br9),(0,()))))) ((PthsR (xl s).2.2.2)/\(K ((xl s).2.1,((xl s).2.2.1,((xl s).2.2.2,(0,()))))))))) (((tc s)=false)/\(((bo s)=true)/\(cnd ((3:Int) != 0) (K ((0,([],([],([],[])))),([],(([]:List br9),(3,()))))) False)))))
theorem ajv(s:ac)(hok:ae (okL ip.args (s,())))(hpre:ae (ip.pre (s,()))):u9 s (fun r=>r=ip.res (s,())):=by
 simp only[ip,okL,T.oks,T.ok,ap,ae,a0e,a0c,a0h]at hok hpre
 try dsimp only[T.den]at hok hpre
 unfold u9;clear hok hpre;simp only[ip,bn];refine bd (fun h=>?_) (fun h=>?_)
 ·rw[ds (by intro h2;rw[h2]at h;cases h)];rfl
 ·have hS:bo s=true:=by simpa using h
  rw[d0 hS];refine bd (fun hp=>⟨hp,hS,bd (fun h=>by cases h) (fun _=>⟨azy hS hp,?_⟩)⟩) (fun hp=>⟨hp,hS,bd (fun _=>?_) (fun h=>by cases h)⟩)
  ·rw[d0 hp]
  ·rw[ds (by rw[hp];decide)];rfl
theorem ai0:b8 Tryz.prog 10 ip:=cg (Φ:=ai1) (ai ah3 (ai apy (ai amp aq))) bi (by kernel_rfl) (fn:=Tryz.f10) (c:=bf Tryz.f10) (by kernel_rfl) (by kernel_rfl) (by kernel_rfl) ip rfl .n (cp [(3,1500),(6,1012015012)]) (by kernel_rfl) (by kernel_rfl) (by kernel_rfl) (by decide) (fun x K=>u9 x.1 K) (fun _ _=>by kernel_rfl) (fun x h1 h2=>ajv x.1 h1 h2)
def fk:Ct:=⟨[(.sl (.int .i64)),(.sl (.int .i64))],[false,false],fun x=>[],[(false,(.fz .bool))],fun x=>(eqR (.sl (.int .i64)) x.1 x.2.1,()),false,none⟩
def ar4:Ann:=(.s .n (.s .n (.s (.s .n (.l [(5,(.d (.int .i64)))] [] [0,1] .n)) .n)))
def abo(a:List Int)(b:List Int)(K:Bool×Unit->Prop):Prop:=(cnd ((a.length:Int) != (b.length:Int)) (K (false,())) (bj (S:=bsd) (fun s=>(fun next=>((inK .i64 s.1.1)->(cnd (decide (s.1.1<(a.length:Int))) ((0<=s.1.1)/\((s.1.1<(a.length:Int))/\((0<=s.1.1)/\((s.1.1<(b.length:Int))/\(cnd ((a.getD s.1.1.toNat 0) != (b.getD s.1.1.toNat 0)) (K (false,())) ((inK .i64 (s.1.1+1))/\(next (((s.1.1+1),()),())))))))) (K (true,())))))) ((0,()),())))
theorem as3(a:List Int)(b:List Int)(hok:ae (okL fk.args (a,b,())))(hpre:ae (fk.pre (a,b,()))):abo a b (fun r=>r=fk.res (a,b,())):=by
 simp only[fk,okL,T.oks,T.ok,ap,ae,a0e,a0c,a0h]at hok hpre
 try dsimp only[T.den]at hok hpre
 unfold abo;refine bd (fun hc=>?_) (fun hc=>?_)
 ·simp only[fk,a0j,a0c];rw[aaj];rintro rfl;simp at hc
 have hl:a.length=b.length:=by simp at hc;omega
 refine bw (fun (s:bsd)=>0<=s.1.1/\s.1.1<=a.length/\a.take s.1.1.toNat=b.take s.1.1.toNat) (fun (s:bsd)=>(a.length-s.1.1).toNat) ?_ (by simp);rintro⟨⟨i,_⟩,_⟩ next ⟨h0,h1,h2⟩ hn hin
 simp only at h0 h1 h2 hn⊢;refine au (fun hc=>?_) (fun hc=>?_)
 ·have ha:=jz a (0:Int) h0 hc;have hb:=jz b (0:Int) h0 (by omega);refine⟨by omega,by omega,by omega,by omega,bd (fun hd=>?_) (fun hd=>?_)⟩
  ·simp only[fk,a0j,a0c];rw[aaj];rintro rfl;simp at hd
  ·refine⟨by grind[cnd,ck,ao],hn _ ⟨(by first|omega|(dsimp only;omega)),(by first|omega|(dsimp only;omega)),?_⟩ (by first|omega|(dsimp only;omega))⟩;simp only[a2b,e9,a1f]at hd;simp only[ha,hb,h2,hd]
 ·rw[ng a (by omega),ng b (by omega)]at h2;simp[h2,fk]
theorem s9:b8 Tryz.prog 12 fk:=cg (Φ:=lkp []) aq bi (by kernel_rfl) (fn:=Tryz.f12) (c:=bf Tryz.f12) (by kernel_rfl) (by kernel_rfl) (by kernel_rfl) fk rfl ar4 (cp [(6,9)]) (by kernel_rfl) (by kernel_rfl) (by kernel_rfl) (by decide) (fun x K=>abo x.1 x.2.1 K) (fun _ _=>by kernel_rfl) (fun x h1 h2=>as3 x.1 x.2.1 h1 h2)
def jh:Ct:=⟨[(.sl (.sl (.int .i64))),(.sl (.sl (.int .i64)))],[false,false],fun x=>[],[(false,(.fz .bool))],fun x=>(eqR (.sl (.sl (.int .i64))) x.1 x.2.1,()),false,none⟩
def ap8:Ann:=(.s .n (.s .n (.s (.s .n (.l [(5,(.d (.int .i64)))] [] [0,1] .n)) .n)))
def aaz(a:List (List Int))(b:List (List Int))(K:Bool×Unit->Prop):Prop:=(cnd ((a.length:Int) != (b.length:Int)) (K (false,())) (bj (S:=bsd) (fun s=>(fun next=>((inK .i64 s.1.1)->(cnd (decide (s.1.1<(a.length:Int))) ((0<=s.1.1)/\((s.1.1<(a.length:Int))/\((0<=s.1.1)/\((s.1.1<(b.length:Int))/\(cnd (!(eqR (.sl (.int .i64)) (a.getD s.1.1.toNat []) (b.getD s.1.1.toNat []))) (K (false,())) ((inK .i64 (s.1.1+1))/\(next (((s.1.1+1),()),())))))))) (K (true,())))))) ((0,()),())))
theorem aqt(a:List (List Int))(b:List (List Int))(hok:ae (okL jh.args (a,b,())))(hpre:ae (jh.pre (a,b,()))):aaz a b (fun r=>r=jh.res (a,b,())):=by
 simp only[jh,okL,T.oks,T.ok,ap,ae,a0e,a0c,a0h]at hok hpre
 try dsimp only[T.den]at hok hpre
 unfold aaz;refine bd (fun hc=>?_) (fun hc=>?_)
 ·simp only[jh,a0j,a0c];rw[aaj];rintro rfl;simp at hc
 have hl:a.length=b.length:=by simp at hc;omega
 refine bw (fun (s:bsd)=>0<=s.1.1/\s.1.1<=a.length/\a.take s.1.1.toNat=b.take s.1.1.toNat) (fun (s:bsd)=>(a.length-s.1.1).toNat) ?_ (by simp);rintro⟨⟨i,_⟩,_⟩ next ⟨h0,h1,h2⟩ hn hin
 simp only at h0 h1 h2 hn⊢;refine au (fun hc=>?_) (fun hc=>?_)
 ·have ha:=jz a ([]:List Int) h0 hc;have hb:=jz b ([]:List Int) h0 (by omega);refine⟨by omega,by omega,by omega,by omega,bd (fun hd=>?_) (fun hd=>?_)⟩
  ·simp only[jh,a0j,a0c];rw[aaj];rintro rfl;simp at hd
  ·refine⟨by grind[cnd,ck,ao],hn _ ⟨(by first|omega|(dsimp only;omega)),(by first|omega|(dsimp only;omega)),?_⟩ (by first|omega|(dsimp only;omega))⟩;simp only[a2b,e9,a1f]at hd;simp only[ha,hb,h2,hd]
 ·rw[ng a (by omega),ng b (by omega)]at h2;simp[h2,jh]
theorem ap7:b8 Tryz.prog 33 jh:=cg (Φ:=lkp [(12,fk)]) (ai s9 aq) bi (by kernel_rfl) (fn:=Tryz.f33) (c:=bf Tryz.f33) (by kernel_rfl) (by kernel_rfl) (by kernel_rfl) jh rfl ap8 (cp [(6,10)]) (by kernel_rfl) (by kernel_rfl) (by kernel_rfl) (by decide) (fun x K=>aaz x.1 x.2.1 K) (fun _ _=>by kernel_rfl) (fun x h1 h2=>aqt x.1 x.2.1 h1 h2)
def kr:Ct:=⟨[aj,aj],[true,true],fun x=>[],[(false,(.fz .bool))],fun x=>(eqR aj x.1 x.2.1,()),false,none⟩
def ane:FuncId->Option Ct:=lkp [(12,fk),(33,jh)]
def zp(a:be)(b:be)(K:Bool×Unit->Prop):Prop:=(cnd (a.1 != b.1) (K (false,())) (cnd (!(eqR (.sl (.int .i64)) a.2.1 b.2.1)) (K (false,())) (cnd (!(eqR (.sl (.int .i64)) a.2.2.1 b.2.2.1)) (K (false,())) (cnd (!(eqR (.sl (.int .i64)) a.2.2.2.1 b.2.2.2.1)) (K (false,())) (cnd (!(eqR (.sl (.sl (.int .i64))) a.2.2.2.2 b.2.2.2.2)) (K (false,())) (K (true,())))))))
theorem apw(a:be)(b:be)(hok:ae (okL kr.args (a,b,())))(hpre:ae (kr.pre (a,b,()))):zp a b (fun r=>r=kr.res (a,b,())):=by
 simp only[kr,okL,T.oks,T.ok,ap,ae,a0e,a0c,a0h]at hok hpre
 try dsimp only[T.den]at hok hpre
 unfold zp;simp only[kr,bhb,au6,arx]
 grind[cnd,ck,ao]
theorem anf:b8 Tryz.prog 11 kr:=cg (Φ:=ane) (ai s9 (ai ap7 aq)) bi (by kernel_rfl) (fn:=Tryz.f11) (c:=bf Tryz.f11) (by kernel_rfl) (by kernel_rfl) (by kernel_rfl) kr rfl .n (cp []) (by kernel_rfl) (by kernel_rfl) (by kernel_rfl) (by decide) (fun x K=>zp x.1 x.2.1 K) (fun _ _=>by kernel_rfl) (fun x h1 h2=>apw x.1 x.2.1 h1 h2)
def pi:Ct:=⟨[ak,ak],[true,true],fun x=>[],[(false,(.fz .bool))],fun x=>(eqR ak x.1 x.2.1,()),false,none⟩
def afh(a:ab)(b:ab)(K:Bool×Unit->Prop):Prop:=(cnd (a.1 != b.1) (K (false,())) (cnd (!(eqR (.sl (.int .i64)) a.2 b.2)) (K (false,())) (K (true,()))))
theorem ayf(a:ab)(b:ab)(hok:ae (okL pi.args (a,b,())))(hpre:ae (pi.pre (a,b,()))):afh a b (fun r=>r=pi.res (a,b,())):=by
 simp only[pi,okL,T.oks,T.ok,ap,ae,a0e,a0c,a0h]at hok hpre
 try dsimp only[T.den]at hok hpre
 unfold afh;simp only[pi,bhb,au6,arx]
 grind[cnd,ck,ao]
theorem av2:b8 Tryz.prog 26 pi:=cg (Φ:=lkp [(12,fk)]) (ai s9 aq) bi (by kernel_rfl) (fn:=Tryz.f26) (c:=bf Tryz.f26) (by kernel_rfl) (by kernel_rfl) (by kernel_rfl) pi rfl .n (cp []) (by kernel_rfl) (by kernel_rfl) (by kernel_rfl) (by decide) (fun x K=>afh x.1 x.2.1 K) (fun _ _=>by kernel_rfl) (fun x h1 h2=>ayf x.1 x.2.1 h1 h2)
def jr:Ct:=⟨[(.sl ak),(.sl ak)],[false,false],fun x=>[],[(false,(.fz .bool))],fun x=>(eqR (.sl ak) x.1 x.2.1,()),false,none⟩
def as9:Ann:=(.s .n (.s .n (.s (.s .n (.l [(5,(.d (.int .i64)))] [] [0,1] .n)) .n)))
def ac8(a:List ab)(b:List ab)(K:Bool×Unit->Prop):Prop:=(cnd ((a.length:Int) != (b.length:Int)) (K (false,())) (bj (S:=bsd) (fun s=>(fun next=>((inK .i64 s.1.1)->(cnd (decide (s.1.1<(a.length:Int))) ((0<=s.1.1)/\((s.1.1<(a.length:Int))/\((0<=s.1.1)/\((s.1.1<(b.length:Int))/\(cnd (!(eqR ak (a.getD s.1.1.toNat (0,[])) (b.getD s.1.1.toNat (0,[])))) (K (false,())) ((inK .i64 (s.1.1+1))/\(next (((s.1.1+1),()),())))))))) (K (true,())))))) ((0,()),())))
theorem ave(a:List ab)(b:List ab)(hok:ae (okL jr.args (a,b,())))(hpre:ae (jr.pre (a,b,()))):ac8 a b (fun r=>r=jr.res (a,b,())):=by
 simp only[jr,okL,T.oks,T.ok,ap,ae,a0e,a0c,a0h]at hok hpre
 try dsimp only[T.den]at hok hpre
 unfold ac8;refine bd (fun hc=>?_) (fun hc=>?_)
 ·simp only[jr,a0j,a0c];rw[aaj];rintro rfl;simp at hc
 have hl:a.length=b.length:=by simp at hc;omega
 refine bw (fun (s:bsd)=>0<=s.1.1/\s.1.1<=a.length/\a.take s.1.1.toNat=b.take s.1.1.toNat) (fun (s:bsd)=>(a.length-s.1.1).toNat) ?_ (by simp);rintro⟨⟨i,_⟩,_⟩ next ⟨h0,h1,h2⟩ hn hin
 simp only at h0 h1 h2 hn⊢;refine au (fun hc=>?_) (fun hc=>?_)
 ·have ha:=jz a ((0:Int),([]:List Int)) h0 hc;have hb:=jz b ((0:Int),([]:List Int)) h0 (by omega);refine⟨by omega,by omega,by omega,by omega,bd (fun hd=>?_) (fun hd=>?_)⟩
  ·simp only[jr,a0j,a0c];rw[aaj];rintro rfl;simp at hd
  ·refine⟨by grind[cnd,ck,ao],hn _ ⟨(by first|omega|(dsimp only;omega)),(by first|omega|(dsimp only;omega)),?_⟩ (by first|omega|(dsimp only;omega))⟩;simp only[a2b,e9,a1f]at hd;simp only[ha,hb,h2,hd]
 ·rw[ng a (by omega),ng b (by omega)]at h2;simp[h2,jr]
theorem ain:b8 Tryz.prog 13 jr:=cg (Φ:=lkp [(26,pi)]) (ai av2 aq) bi (by kernel_rfl) (fn:=Tryz.f13) (c:=bf Tryz.f13) (by kernel_rfl) (by kernel_rfl) (by kernel_rfl) jr rfl as9 (cp [(6,10)]) (by kernel_rfl) (by kernel_rfl) (by kernel_rfl) (by decide) (fun x K=>ac8 x.1 x.2.1 K) (fun _ _=>by kernel_rfl) (fun x h1 h2=>ave x.1 x.2.1 h1 h2)
def m5:Ct:=⟨[SchemaT,SchemaT],[true,true],fun x=>[],[(false,(.fz .bool))],fun x=>(eqR SchemaT x.1 x.2.1,()),false,none⟩
def aqm:FuncId->Option Ct:=lkp [(12,fk),(13,jr)]
def ace(a:ac)(b:ac)(K:Bool×Unit->Prop):Prop:=(cnd (a.1 != b.1) (K (false,())) (cnd (!(eqR (.sl (.int .i64)) a.2.1 b.2.1)) (K (false,())) (cnd (!(eqR (.sl (.int .i64)) a.2.2.1 b.2.2.1)) (K (false,())) (cnd (!(eqR (.sl ak) a.2.2.2.1 b.2.2.2.1)) (K (false,())) (cnd (!(eqR (.sl ak) a.2.2.2.2 b.2.2.2.2)) (K (false,())) (K (true,())))))))
theorem as7(a:ac)(b:ac)(hok:ae (okL m5.args (a,b,())))(hpre:ae (m5.pre (a,b,()))):ace a b (fun r=>r=m5.res (a,b,())):=by
 simp only[m5,okL,T.oks,T.ok,ap,ae,a0e,a0c,a0h]at hok hpre
 try dsimp only[T.den]at hok hpre
 unfold ace;simp only[m5,bhb,au6,arx]
 grind[cnd,ck,ao]
theorem aq1:b8 Tryz.prog 14 m5:=cg (Φ:=aqm) (ai s9 (ai ain aq)) bi (by kernel_rfl) (fn:=Tryz.f14) (c:=bf Tryz.f14) (by kernel_rfl) (by kernel_rfl) (by kernel_rfl) m5 rfl .n (cp []) (by kernel_rfl) (by kernel_rfl) (by kernel_rfl) (by decide) (fun x K=>ace x.1 x.2.1 K) (fun _ _=>by kernel_rfl) (fun x h1 h2=>as7 x.1 x.2.1 h1 h2)
def gy:Ct:=⟨[(.sl (.int .i64)),(.int .i64)],[false,false],fun x=>[0<=x.2.1,x.2.1+ckR (.sl (.int .i64)) x.1<=4611686018427387904],[(false,(.fz (.int .i64)))],fun x=>(hdR (.sl (.int .i64)) x.1 x.2.1,()),false,none⟩
def aoc:Ann:=(.s .n (.s (.s .n (.l [(1,(.d (.int .i64))),(5,(.d (.int .i64)))] [] [0] .n)) .n))
def zv(a:List Int)(k:Int)(K:Int×Unit->Prop):Prop:=(bj (S:=bsh) (fun s=>(fun next=>((inK .i64 s.1.1)->((inK .i64 s.1.2.1)->(cnd (decide (s.1.2.1<(a.length:Int))) ((0<=s.1.2.1)/\((s.1.2.1<(a.length:Int))/\(cnd ((a.getD s.1.2.1.toNat 0) != s.1.1) (K ((-1),())) ((inK .i64 (s.1.1+1))/\((inK .i64 (s.1.2.1+1))/\(next (((s.1.1+1),((s.1.2.1+1),())),()))))))) (K (s.1.1,()))))))) ((k,(0,())),()))
theorem apx(a:List Int)(k:Int)(hok:ae (okL gy.args (a,k,())))(hpre:ae (gy.pre (a,k,()))):zv a k (fun r=>r=gy.res (a,k,())):=by
 simp only[gy,okL,T.oks,T.ok,ap,ae,a0e,a0c,a0h]at hok hpre
 try dsimp only[T.den]at hok hpre
 unfold zv;obtain⟨h0,hb⟩:=hpre;have hll:a.length<=140737488355328:=by simp only[ck]at hok;omega
 refine amx (e:=.int .i64) (0:Int) a k h0 hb (fun k i next i0 i1 k0 kb hbad hn h1 h2=>?_) (fun i next hi h1 h2=>?_)
 ·try dsimp only
  simp only[ckR]at kb;simp only[bii]at hbad hn;refine au (fun _=>⟨i0,i1,bd (fun hx=>?_) (fun hx=>⟨by rw[ao];(try dsimp only);omega,by rw[ao];(try dsimp only);omega,?_⟩)⟩) (fun h=>absurd i1 h)
  ·rw[a3f]at hx;rw[ds hx]at hbad;simp only[gy];rw[hbad (by omega)]
  ·rw[a1f]at hx;rw[d0 hx]at hn;exact hn (by omega)
 ·exact au (fun h=>absurd h (by dsimp only;omega)) (fun _=>rfl)
theorem uc:b8 Tryz.prog 20 gy:=cg (Φ:=lkp []) aq bi (by kernel_rfl) (fn:=Tryz.f20) (c:=bf Tryz.f20) (by kernel_rfl) (by kernel_rfl) (by kernel_rfl) gy rfl aoc (cp []) (by kernel_rfl) (by kernel_rfl) (by kernel_rfl) (by decide) (fun x K=>zv x.1 x.2.1 K) (fun _ _=>by kernel_rfl) (fun x h1 h2=>apx x.1 x.2.1 h1 h2)
def j7:Ct:=⟨[(.sl (.sl (.int .i64))),(.int .i64)],[false,false],fun x=>[0<=x.2.1,x.2.1+ckR (.sl (.sl (.int .i64))) x.1<=4611686018427387904],[(false,(.fz (.int .i64)))],fun x=>(hdR (.sl (.sl (.int .i64))) x.1 x.2.1,()),false,none⟩
def aml:Ann:=(.s .n (.s (.s .n (.l [(1,(.d (.int .i64))),(5,(.d (.int .i64)))] [] [0] .n)) .n))
def yf(a:List (List Int))(k:Int)(K:Int×Unit->Prop):Prop:=(bj (S:=bsh) (fun s=>(fun next=>((inK .i64 s.1.1)->((inK .i64 s.1.2.1)->(cnd (decide (s.1.2.1<(a.length:Int))) ((0<=s.1.2.1)/\((s.1.2.1<(a.length:Int))/\((0<=s.1.1)/\(((s.1.1+(((ckR (.sl (.int .i64)) (a.getD s.1.2.1.toNat [])):Nat):Int))<=4611686018427387904)/\(cnd (decide ((hdR (.sl (.int .i64)) (a.getD s.1.2.1.toNat []) s.1.1)<0)) (K ((-1),())) ((inK .i64 (s.1.2.1+1))/\(next (((hdR (.sl (.int .i64)) (a.getD s.1.2.1.toNat []) s.1.1),((s.1.2.1+1),())),())))))))) (K (s.1.1,()))))))) ((k,(0,())),()))
theorem ano(a:List (List Int))(k:Int)(hok:ae (okL j7.args (a,k,())))(hpre:ae (j7.pre (a,k,()))):yf a k (fun r=>r=j7.res (a,k,())):=by
 simp only[j7,okL,T.oks,T.ok,ap,ae,a0e,a0c,a0h]at hok hpre
 try dsimp only[T.den]at hok hpre
 unfold yf;obtain⟨h0,hb⟩:=hpre;have hll:a.length<=140737488355328:=by simp only[ck]at hok;omega
 refine amx (e:=(.sl (.int .i64))) ([]:List Int) a k h0 hb (fun k i next i0 i1 k0 kb hbad hn h1 h2=>?_) (fun i next hi h1 h2=>?_)
 ·try dsimp only
  refine au (fun _=>⟨i0,i1,k0,kb,au (fun hx=>?_) (fun hx=>⟨by rw[ao];(try dsimp only);omega,hn hx⟩)⟩) (fun h=>absurd i1 h);simp only[j7];rw[hbad hx]
 ·exact au (fun h=>absurd h (by dsimp only;omega)) (fun _=>rfl)
theorem amn:b8 Tryz.prog 37 j7:=cg (Φ:=lkp [(20,gy)]) (ai uc aq) bi (by kernel_rfl) (fn:=Tryz.f37) (c:=bf Tryz.f37) (by kernel_rfl) (by kernel_rfl) (by kernel_rfl) j7 rfl aml (cp []) (by kernel_rfl) (by kernel_rfl) (by kernel_rfl) (by decide) (fun x K=>yf x.1 x.2.1 K) (fun _ _=>by kernel_rfl) (fun x h1 h2=>ano x.1 x.2.1 h1 h2)
def jn:Ct:=⟨[aj,(.int .i64)],[true,false],fun x=>[0<=x.2.1,x.2.1+ctR aj x.1<=4611686018427387904],[(false,(.fz (.int .i64)))],fun x=>(htR aj x.1 x.2.1,()),false,none⟩
def alp:FuncId->Option Ct:=lkp [(20,gy),(37,j7)]
def xi(a:be)(k:Int)(K:Int×Unit->Prop):Prop:=((0<=k)/\(((k+(((ckR (.sl (.int .i64)) a.2.1):Nat):Int))<=4611686018427387904)/\(cnd (decide ((hdR (.sl (.int .i64)) a.2.1 k)<0)) (K ((-1),())) ((0<=(hdR (.sl (.int .i64)) a.2.1 k))/\((((hdR (.sl (.int .i64)) a.2.1 k)+(((ckR (.sl (.int .i64)) a.2.2.1):Nat):Int))<=4611686018427387904)/\(cnd (decide ((hdR (.sl (.int .i64)) a.2.2.1 (hdR (.sl (.int .i64)) a.2.1 k))<0)) (K ((-1),())) ((0<=(hdR (.sl (.int .i64)) a.2.2.1 (hdR (.sl (.int .i64)) a.2.1 k)))/\((((hdR (.sl (.int .i64)) a.2.2.1 (hdR (.sl (.int .i64)) a.2.1 k))+(((ckR (.sl (.int .i64)) a.2.2.2.1):Nat):Int))<=4611686018427387904)/\(cnd (decide ((hdR (.sl (.int .i64)) a.2.2.2.1 (hdR (.sl (.int .i64)) a.2.2.1 (hdR (.sl (.int .i64)) a.2.1 k)))<0)) (K ((-1),())) ((0<=(hdR (.sl (.int .i64)) a.2.2.2.1 (hdR (.sl (.int .i64)) a.2.2.1 (hdR (.sl (.int .i64)) a.2.1 k))))/\((((hdR (.sl (.int .i64)) a.2.2.2.1 (hdR (.sl (.int .i64)) a.2.2.1 (hdR (.sl (.int .i64)) a.2.1 k)))+(((ckR (.sl (.sl (.int .i64))) a.2.2.2.2):Nat):Int))<=4611686018427387904)/\(cnd (decide ((hdR (.sl (.sl (.int .i64))) a.2.2.2.2 (hdR (.sl (.int .i64)) a.2.2.2.1 (hdR (.sl (.int .i64)) a.2.2.1 (hdR (.sl (.int .i64)) a.2.1 k))))<0)) (K ((-1),())) (K ((hdR (.sl (.sl (.int .i64))) a.2.2.2.2 (hdR (.sl (.int .i64)) a.2.2.2.1 (hdR (.sl (.int .i64)) a.2.2.1 (hdR (.sl (.int .i64)) a.2.1 k)))),()))))))))))))))
theorem amo(a:be)(k:Int)(hok:ae (okL jn.args (a,k,())))(hpre:ae (jn.pre (a,k,()))):xi a k (fun r=>r=jn.res (a,k,())):=by
 simp only[jn,okL,T.oks,T.ok,ap,ae,a0e,a0c,a0h]at hok hpre
 try dsimp only[T.den]at hok hpre
 unfold xi;obtain⟨h0,hb⟩:=hpre;simp only[ctR]at hb;simp only[jn,htR]
 grind[cnd,aki,azf,ctR]
theorem aky:b8 Tryz.prog 19 jn:=cg (Φ:=alp) (ai uc (ai amn aq)) bi (by kernel_rfl) (fn:=Tryz.f19) (c:=bf Tryz.f19) (by kernel_rfl) (by kernel_rfl) (by kernel_rfl) jn rfl .n (cp []) (by kernel_rfl) (by kernel_rfl) (by kernel_rfl) (by decide) (fun x K=>xi x.1 x.2.1 K) (fun _ _=>by kernel_rfl) (fun x h1 h2=>amo x.1 x.2.1 h1 h2)
def kf:Ct:=⟨[(.sl ak),(.int .i64)],[false,false],fun x=>[0<=x.2.1,x.2.1+ckR (.sl ak) x.1<=4611686018427387904],[(false,(.fz (.int .i64)))],fun x=>(hdR (.sl ak) x.1 x.2.1,()),false,none⟩
def apz:Ann:=(.s .n (.s (.s .n (.l [(1,(.d (.int .i64))),(5,(.d (.int .i64)))] [] [0] .n)) .n))
def aaq(a:List ab)(k:Int)(K:Int×Unit->Prop):Prop:=(bj (S:=bsh) (fun s=>(fun next=>((inK .i64 s.1.1)->((inK .i64 s.1.2.1)->(cnd (decide (s.1.2.1<(a.length:Int))) ((0<=s.1.2.1)/\((s.1.2.1<(a.length:Int))/\(cnd ((a.getD s.1.2.1.toNat (0,[])).1 != s.1.1) (K ((-1),())) ((inK .i64 (s.1.1+1))/\((0<=s.1.2.1)/\((s.1.2.1<(a.length:Int))/\((0<=(s.1.1+1))/\((((s.1.1+1)+(((ckR (.sl (.int .i64)) (a.getD s.1.2.1.toNat (0,[])).2):Nat):Int))<=4611686018427387904)/\(cnd (decide ((hdR (.sl (.int .i64)) (a.getD s.1.2.1.toNat (0,[])).2 (s.1.1+1))<0)) (K ((-1),())) ((inK .i64 (s.1.2.1+1))/\(next (((hdR (.sl (.int .i64)) (a.getD s.1.2.1.toNat (0,[])).2 (s.1.1+1)),((s.1.2.1+1),())),())))))))))))) (K (s.1.1,()))))))) ((k,(0,())),()))
theorem ar6(a:List ab)(k:Int)(hok:ae (okL kf.args (a,k,())))(hpre:ae (kf.pre (a,k,()))):aaq a k (fun r=>r=kf.res (a,k,())):=by
 simp only[kf,okL,T.oks,T.ok,ap,ae,a0e,a0c,a0h]at hok hpre
 try dsimp only[T.den]at hok hpre
 unfold aaq;obtain⟨h0,hb⟩:=hpre;have hll:a.length<=140737488355328:=by simp only[ck]at hok;omega
 refine amx (e:=ak) ((0,[]):Int×List Int) a k h0 hb (fun k i next i0 i1 k0 kb hbad hn h1 h2=>?_) (fun i next hi h1 h2=>?_)
 ·try dsimp only
  have e1:∀x:ab,hdR ak x k=if hdR (.int .i64) x.1 k<0 then -1 else hdR (.sl (.int .i64)) x.2 (hdR (.int .i64) x.1 k):=fun _=>rfl
  have e2:∀x:ab,ckR ak x=1+ckR (.sl (.int .i64)) x.2:=fun _=>rfl;rw[e2]at kb;rw[e1,bii]at hbad hn;refine au (fun _=>⟨i0,i1,bd (fun hx=>?_) (fun hx=>?_)⟩) (fun h=>absurd i1 h)
  ·rw[a3f]at hx;rw[ds hx,d0 (by omega)]at hbad;simp only[kf];rw[hbad (by omega)]
  ·rw[a1f]at hx;rw[d0 hx,ds (by omega)]at hbad hn;refine⟨by rw[ao];(try dsimp only);omega,i0,i1,by omega,by omega,au (fun hy=>?_) (fun hy=>⟨by rw[ao];(try dsimp only);omega,hn hy⟩)⟩;simp only[kf];rw[hbad hy]
 ·exact au (fun h=>absurd h (by dsimp only;omega)) (fun _=>rfl)
theorem apv:b8 Tryz.prog 21 kf:=cg (Φ:=lkp [(20,gy)]) (ai uc aq) bi (by kernel_rfl) (fn:=Tryz.f21) (c:=bf Tryz.f21) (by kernel_rfl) (by kernel_rfl) (by kernel_rfl) kf rfl apz (cp []) (by kernel_rfl) (by kernel_rfl) (by kernel_rfl) (by decide) (fun x K=>aaq x.1 x.2.1 K) (fun _ _=>by kernel_rfl) (fun x h1 h2=>ar6 x.1 x.2.1 h1 h2)
def aef:Mt:=⟨(.sl (.fz (.int .i64))),false,fun x k=>[0<=k,k+ckR (.sl (.int .i64)) x<=4611686018427387904],fun x k=>mkR (.sl (.int .i64)) x k⟩
def ph:Ct:=au8 aef
def an5:Ann:=(.s .n (.s (.s .n (.l [(0,(.ref 1000000 [])),(1,(.d (.int .i64))),(5,(.d (.int .i64)))] [(1000000,(.sl (.fz (.int .i64))))] [] .n)) .n))
def afo(a:List Int)(k:Int)(K:(List Int)->Int->Prop):Prop:=(bj (S:=((Unit×(Int×(Int×Unit)))×bsc)) (fun s=>(fun next=>((inK .i64 s.1.2.1)->((inK .i64 s.1.2.2.1)->((T.ok (.sl (.int .i64)) s.2.1)->(cnd (decide (s.1.2.2.1<(s.2.1.length:Int))) ((0<=s.1.2.2.1)/\((s.1.2.2.1<(s.2.1.length:Int))/\((inK .i64 (s.1.2.1+1))/\((inK .i64 (s.1.2.2.1+1))/\(next (((),((s.1.2.1+1),((s.1.2.2.1+1),()))),((List.set s.2.1 s.1.2.2.1.toNat s.1.2.1),()))))))) (K s.2.1 s.1.2.1))))))) (((),(k,(0,()))),(a,())))
theorem ap2(a:List Int)(k:Int)(hok:ae (T.oks (.sl (.int .i64)) a))(h0:0<=k)(hpre:k+ckR (.sl (.int .i64)) a<=4611686018427387904):afo a k (fun y n=>y=(mkR (.sl (.int .i64)) a k).1/\n=(mkR (.sl (.int .i64)) a k).2):=by
 simp only[T.oks,T.ok,ap,ae,a0e,a0c,a0h]at hok
 try dsimp only[T.den]at hok
 unfold afo;refine am1 (e:=.int .i64) (0:Int) a k h0 hpre (fun k i l next i0 i1 hl hg k0 kb hn h1 h2 h3=>?_) (fun i l next hi hl h1 h2 h3=>?_)
 ·try dsimp only
  simp only[ckR]at kb;have hll:=h3.1;simp only[ck]at hll;exact au (fun _=>⟨i0,i1,by rw[ao];(try dsimp only);omega,by rw[ao];(try dsimp only);omega,hn⟩) (fun h=>absurd i1 h)
 ·exact au (fun h=>absurd h (by dsimp only;omega)) (fun _=>⟨hl,rfl⟩)
theorem qv:b8 Tryz.prog 17 ph:=aut (Φ:=lkp []) aq bi (by kernel_rfl) (fn:=Tryz.f17) (c:=bf Tryz.f17) (by kernel_rfl) (by kernel_rfl) (by kernel_rfl) aef an5 (cp []) (by kernel_rfl) (by kernel_rfl) (by kernel_rfl) (by decide) (by kernel_rfl) (fun x k hk hok hp=>Eq.mp (by kernel_rfl) (ap2 x k hok hp.1 hp.2.1))
def ack:Mt:=⟨(.sl (.sl (.fz (.int .i64)))),false,fun x k=>[0<=k,k+ckR (.sl (.sl (.int .i64))) x<=4611686018427387904],fun x k=>mkR (.sl (.sl (.int .i64))) x k⟩
def aeu:Ct:=au8 ack
def amf:Ann:=(.s .n (.s (.s .n (.l [(0,(.ref 1000000 [])),(1,(.d (.int .i64))),(5,(.d (.int .i64)))] [(1000000,(.sl (.sl (.fz (.int .i64)))))] [] .n)) .n))
def aee(a:List (List Int))(k:Int)(K:(List (List Int))->Int->Prop):Prop:=(bj (S:=((Unit×(Int×(Int×Unit)))×((List (List Int))×Unit))) (fun s=>(fun next=>((inK .i64 s.1.2.1)->((inK .i64 s.1.2.2.1)->((T.ok (.sl (.sl (.int .i64))) s.2.1)->(cnd (decide (s.1.2.2.1<(s.2.1.length:Int))) ((0<=s.1.2.2.1)/\((s.1.2.2.1<(s.2.1.length:Int))/\((0<=s.1.2.1)/\(((s.1.2.1+(((ckR (.sl (.int .i64)) (s.2.1.getD s.1.2.2.1.toNat [])):Nat):Int))<=4611686018427387904)/\((inK .i64 (s.1.2.2.1+1))/\(next (((),((mkR (.sl (.int .i64)) (s.2.1.getD s.1.2.2.1.toNat []) s.1.2.1).2,((s.1.2.2.1+1),()))),((List.set s.2.1 s.1.2.2.1.toNat (mkR (.sl (.int .i64)) (s.2.1.getD s.1.2.2.1.toNat []) s.1.2.1).1),())))))))) (K s.2.1 s.1.2.1))))))) (((),(k,(0,()))),(a,())))
theorem amw(a:List (List Int))(k:Int)(hok:ae (T.oks (.sl (.sl (.int .i64))) a))(h0:0<=k)(hpre:k+ckR (.sl (.sl (.int .i64))) a<=4611686018427387904):aee a k (fun y n=>y=(mkR (.sl (.sl (.int .i64))) a k).1/\n=(mkR (.sl (.sl (.int .i64))) a k).2):=by
 simp only[T.oks,T.ok,ap,ae,a0e,a0c,a0h]at hok
 try dsimp only[T.den]at hok
 unfold aee;refine am1 (e:=(.sl (.int .i64))) ([]:List Int) a k h0 hpre (fun k i l next i0 i1 hl hg k0 kb hn h1 h2 h3=>?_) (fun i l next hi hl h1 h2 h3=>?_)
 ·try dsimp only
  have hll:=h3.1;simp only[ck]at hll;rw[hg];exact au (fun _=>⟨i0,i1,k0,kb,by rw[ao];(try dsimp only);omega,hn⟩) (fun h=>absurd i1 h)
 ·exact au (fun h=>absurd h (by dsimp only;omega)) (fun _=>⟨hl,rfl⟩)
theorem amj:b8 Tryz.prog 36 aeu:=aut (Φ:=lkp [(17,ph)]) (ai qv aq) bi (by kernel_rfl) (fn:=Tryz.f36) (c:=bf Tryz.f36) (by kernel_rfl) (by kernel_rfl) (by kernel_rfl) ack amf (cp []) (by kernel_rfl) (by kernel_rfl) (by kernel_rfl) (by decide) (by kernel_rfl) (fun x k hk hok hp=>Eq.mp (by kernel_rfl) (amw x k hok hp.1 hp.2.1))
def abl:Mt:=⟨ax1,true,fun x k=>[0<=k,k+ctR aj x<=4611686018427387904],fun x k=>mtR aj x k⟩
def acj:Ct:=au8 abl
def alx:FuncId->Option Ct:=lkp [(17,ph),(36,aeu)]
def acl(a:be)(k:Int)(K:be->Int->Prop):Prop:=((0<=k)/\(((k+(((ckR (.sl (.int .i64)) a.2.1):Nat):Int))<=4611686018427387904)/\((0<=(mkR (.sl (.int .i64)) a.2.1 k).2)/\((((mkR (.sl (.int .i64)) a.2.1 k).2+(((ckR (.sl (.int .i64)) a.2.2.1):Nat):Int))<=4611686018427387904)/\((0<=(mkR (.sl (.int .i64)) a.2.2.1 (mkR (.sl (.int .i64)) a.2.1 k).2).2)/\((((mkR (.sl (.int .i64)) a.2.2.1 (mkR (.sl (.int .i64)) a.2.1 k).2).2+(((ckR (.sl (.int .i64)) a.2.2.2.1):Nat):Int))<=4611686018427387904)/\((0<=(mkR (.sl (.int .i64)) a.2.2.2.1 (mkR (.sl (.int .i64)) a.2.2.1 (mkR (.sl (.int .i64)) a.2.1 k).2).2).2)/\((((mkR (.sl (.int .i64)) a.2.2.2.1 (mkR (.sl (.int .i64)) a.2.2.1 (mkR (.sl (.int .i64)) a.2.1 k).2).2).2+(((ckR (.sl (.sl (.int .i64))) a.2.2.2.2):Nat):Int))<=4611686018427387904)/\(K (a.1,((mkR (.sl (.int .i64)) a.2.1 k).1,((mkR (.sl (.int .i64)) a.2.2.1 (mkR (.sl (.int .i64)) a.2.1 k).2).1,((mkR (.sl (.int .i64)) a.2.2.2.1 (mkR (.sl (.int .i64)) a.2.2.1 (mkR (.sl (.int .i64)) a.2.1 k).2).2).1,(mkR (.sl (.sl (.int .i64))) a.2.2.2.2 (mkR (.sl (.int .i64)) a.2.2.2.1 (mkR (.sl (.int .i64)) a.2.2.1 (mkR (.sl (.int .i64)) a.2.1 k).2).2).2).1)))) (mkR (.sl (.sl (.int .i64))) a.2.2.2.2 (mkR (.sl (.int .i64)) a.2.2.2.1 (mkR (.sl (.int .i64)) a.2.2.1 (mkR (.sl (.int .i64)) a.2.1 k).2).2).2).2)))))))))
theorem ami(a:be)(k:Int)(hok:ae (T.oks aj a))(h0:0<=k)(hpre:k+ctR aj a<=4611686018427387904):acl a k (fun y n=>y=(mtR aj a k).1/\n=(mtR aj a k).2):=by
 simp only[T.oks,T.ok,ap,ae,a0e,a0c,a0h]at hok
 try dsimp only[T.den]at hok
 unfold acl;simp only[ctR]at hpre
 repeat' apply And.intro
 all_goals first|rfl|((try simp only[abs,akf,ctR]);omega)
theorem akt:b8 Tryz.prog 16 acj:=aut (Φ:=alx) (ai qv (ai amj aq)) bi (by kernel_rfl) (fn:=Tryz.f16) (c:=bf Tryz.f16) (by kernel_rfl) (by kernel_rfl) (by kernel_rfl) abl .n (cp []) (by kernel_rfl) (by kernel_rfl) (by kernel_rfl) (by decide) (by kernel_rfl) (fun x k hk hok hp=>Eq.mp (by kernel_rfl) (ami x k hok hp.1 hp.2.1))
def afp:Mt:=⟨(.sl aie),false,fun x k=>[0<=k,k+ckR (.sl ak) x<=4611686018427387904],fun x k=>mkR (.sl ak) x k⟩
def aav:Ct:=au8 afp
def apu:Ann:=(.s .n (.s (.s .n (.l [(0,(.ref 1000000 [])),(1,(.d (.int .i64))),(5,(.d (.int .i64)))] [(1000000,(.sl (.p (.fz (.int .i64)) (.sl (.fz (.int .i64))))))] [] .n)) .n))
def ag6(a:List ab)(k:Int)(K:(List ab)->Int->Prop):Prop:=(bj (S:=((Unit×(Int×(Int×Unit)))×((List br9)×Unit))) (fun s=>(fun next=>((inK .i64 s.1.2.1)->((inK .i64 s.1.2.2.1)->((T.ok (.sl ak) s.2.1)->(cnd (decide (s.1.2.2.1<(s.2.1.length:Int))) ((0<=s.1.2.2.1)/\((s.1.2.2.1<(s.2.1.length:Int))/\((inK .i64 (s.1.2.1+1))/\((0<=s.1.2.2.1)/\((s.1.2.2.1<(((List.length (List.set s.2.1 s.1.2.2.1.toNat (s.1.2.1,(s.2.1.getD s.1.2.2.1.toNat (0,[])).2))):Nat):Int))/\((0<=(s.1.2.1+1))/\((((s.1.2.1+1)+(((ckR (.sl (.int .i64)) (List.getD (List.set s.2.1 s.1.2.2.1.toNat (s.1.2.1,(s.2.1.getD s.1.2.2.1.toNat (0,[])).2)) s.1.2.2.1.toNat (0,[])).2):Nat):Int))<=4611686018427387904)/\((inK .i64 (s.1.2.2.1+1))/\(next (((),((mkR (.sl (.int .i64)) (List.getD (List.set s.2.1 s.1.2.2.1.toNat (s.1.2.1,(s.2.1.getD s.1.2.2.1.toNat (0,[])).2)) s.1.2.2.1.toNat (0,[])).2 (s.1.2.1+1)).2,((s.1.2.2.1+1),()))),((List.set (List.set s.2.1 s.1.2.2.1.toNat (s.1.2.1,(s.2.1.getD s.1.2.2.1.toNat (0,[])).2)) s.1.2.2.1.toNat ((List.getD (List.set s.2.1 s.1.2.2.1.toNat (s.1.2.1,(s.2.1.getD s.1.2.2.1.toNat (0,[])).2)) s.1.2.2.1.toNat (0,[])).1,(mkR (.sl (.int .i64)) (List.getD (List.set s.2.1 s.1.2.2.1.toNat (s.1.2.1,(s.2.1.getD s.1.2.2.1.toNat (0,[])).2)) s.1.2.2.1.toNat (0,[])).2 (s.1.2.1+1)).1)),()))))))))))) (K s.2.1 s.1.2.1))))))) (((),(k,(0,()))),(a,())))
theorem ar3(a:List ab)(k:Int)(hok:ae (T.oks (.sl ak) a))(h0:0<=k)(hpre:k+ckR (.sl ak) a<=4611686018427387904):ag6 a k (fun y n=>y=(mkR (.sl ak) a k).1/\n=(mkR (.sl ak) a k).2):=by
 simp only[T.oks,T.ok,ap,ae,a0e,a0c,a0h]at hok
 try dsimp only[T.den]at hok
 unfold ag6;refine am1 (e:=ak) ((0,[]):Int×List Int) a k h0 hpre (fun k i l next i0 i1 hl hg k0 kb hn h1 h2 h3=>?_) (fun i l next hi hl h1 h2 h3=>?_)
 ·try dsimp only
  have hll:=h3.1;simp only[ck]at hll;have e1:∀x:ab,mkR ak x k=((k,(mkR (.sl (.int .i64)) x.2 (k+1)).1),(mkR (.sl (.int .i64)) x.2 (k+1)).2):=fun _=>rfl;have e2:∀x:ab,ckR ak x=1+ckR (.sl (.int .i64)) x.2:=fun _=>rfl;rw[e1]at hn;rw[e2]at kb;have hs:(l.set i.toNat (k,(l.getD i.toNat (0,[])).2)).getD i.toNat (0,[])=(k,(a.getD i.toNat (0,[])).2):=by rw[aax _ _ _ _ _ (by omega),d0 rfl,hg]
  simp only[hs,List.set_set,a1h];exact au (fun _=>⟨i0,i1,by rw[ao];(try dsimp only);omega,i0,i1,by omega,by omega,by rw[ao];(try dsimp only);omega,hn⟩) (fun h=>absurd i1 h)
 ·exact au (fun h=>absurd h (by dsimp only;omega)) (fun _=>⟨hl,rfl⟩)
theorem afs:b8 Tryz.prog 18 aav:=aut (Φ:=lkp [(17,ph)]) (ai qv aq) bi (by kernel_rfl) (fn:=Tryz.f18) (c:=bf Tryz.f18) (by kernel_rfl) (by kernel_rfl) (by kernel_rfl) afp apu (cp []) (by kernel_rfl) (by kernel_rfl) (by kernel_rfl) (by decide) (by kernel_rfl) (fun x k hk hok hp=>Eq.mp (by kernel_rfl) (ar3 x k hok hp.1 hp.2.1))
def ae1:Mt:=⟨bei,true,fun x k=>[0<=k,k+ctR SchemaT x<=4611686018427387904],fun x k=>mtR SchemaT x k⟩
def afn:Ct:=au8 ae1
def am5:FuncId->Option Ct:=lkp [(17,ph),(18,aav)]
def afq(a:ac)(k:Int)(K:ac->Int->Prop):Prop:=((0<=k)/\(((k+(((ckR (.sl (.int .i64)) a.2.1):Nat):Int))<=4611686018427387904)/\((0<=(mkR (.sl (.int .i64)) a.2.1 k).2)/\((((mkR (.sl (.int .i64)) a.2.1 k).2+(((ckR (.sl (.int .i64)) a.2.2.1):Nat):Int))<=4611686018427387904)/\((0<=(mkR (.sl (.int .i64)) a.2.2.1 (mkR (.sl (.int .i64)) a.2.1 k).2).2)/\((((mkR (.sl (.int .i64)) a.2.2.1 (mkR (.sl (.int .i64)) a.2.1 k).2).2+(((ckR (.sl ak) a.2.2.2.1):Nat):Int))<=4611686018427387904)/\((0<=(mkR (.sl ak) a.2.2.2.1 (mkR (.sl (.int .i64)) a.2.2.1 (mkR (.sl (.int .i64)) a.2.1 k).2).2).2)/\((((mkR (.sl ak) a.2.2.2.1 (mkR (.sl (.int .i64)) a.2.2.1 (mkR (.sl (.int .i64)) a.2.1 k).2).2).2+(((ckR (.sl ak) a.2.2.2.2):Nat):Int))<=4611686018427387904)/\(K (a.1,((mkR (.sl (.int .i64)) a.2.1 k).1,((mkR (.sl (.int .i64)) a.2.2.1 (mkR (.sl (.int .i64)) a.2.1 k).2).1,((mkR (.sl ak) a.2.2.2.1 (mkR (.sl (.int .i64)) a.2.2.1 (mkR (.sl (.int .i64)) a.2.1 k).2).2).1,(mkR (.sl ak) a.2.2.2.2 (mkR (.sl ak) a.2.2.2.1 (mkR (.sl (.int .i64)) a.2.2.1 (mkR (.sl (.int .i64)) a.2.1 k).2).2).2).1)))) (mkR (.sl ak) a.2.2.2.2 (mkR (.sl ak) a.2.2.2.1 (mkR (.sl (.int .i64)) a.2.2.1 (mkR (.sl (.int .i64)) a.2.1 k).2).2).2).2)))))))))
theorem ap3(a:ac)(k:Int)(hok:ae (T.oks SchemaT a))(h0:0<=k)(hpre:k+ctR SchemaT a<=4611686018427387904):afq a k (fun y n=>y=(mtR SchemaT a k).1/\n=(mtR SchemaT a k).2):=by
 simp only[T.oks,T.ok,ap,ae,a0e,a0c,a0h]at hok
 try dsimp only[T.den]at hok
 unfold afq;simp only[ctR]at hpre
 repeat' apply And.intro
 all_goals first|rfl|((try simp only[abs,akf,ctR]);omega)
theorem anl:b8 Tryz.prog 15 afn:=aut (Φ:=am5) (ai qv (ai afs aq)) bi (by kernel_rfl) (fn:=Tryz.f15) (c:=bf Tryz.f15) (by kernel_rfl) (by kernel_rfl) (by kernel_rfl) ae1 .n (cp []) (by kernel_rfl) (by kernel_rfl) (by kernel_rfl) (by decide) (by kernel_rfl) (fun x k hk hok hp=>Eq.mp (by kernel_rfl) (ap3 x k hok hp.1 hp.2.1))
def k9:Ct:=⟨[(.sl (.int .i64)),(.int .i64)],[false,false],fun x=>[-4611545280939032576<=x.2.1],[(false,(.fz (.int .i64)))],fun x=>(szR (wR (.sl (.int .i64)) x.1) x.2.1,()),false,none⟩
def abq(a:List Int)(left:Int)(K:Int×Unit->Prop):Prop:=((inK .i64 (left-(a.length:Int)))/\(cnd (decide ((left-(a.length:Int))<0)) (K ((-1),())) (K ((left-(a.length:Int)),()))))
theorem atx(a:List Int)(left:Int)(hok:ae (okL k9.args (a,left,())))(hpre:ae (k9.pre (a,left,()))):abq a left (fun r=>r=k9.res (a,left,())):=by
 simp only[k9,okL,T.oks,T.ok,ap,ae,a0e,a0c,a0h]at hok hpre
 try dsimp only[T.den]at hok hpre
 unfold abq;simp only[k9,boc]
 grind[cnd,ck,ao,szR]
theorem ags:b8 Tryz.prog 38 k9:=cg (Φ:=lkp []) aq bi (by kernel_rfl) (fn:=Tryz.f38) (c:=bf Tryz.f38) (by kernel_rfl) (by kernel_rfl) (by kernel_rfl) k9 rfl .n (cp []) (by kernel_rfl) (by kernel_rfl) (by kernel_rfl) (by decide) (fun x K=>abq x.1 x.2.1 K) (fun _ _=>by kernel_rfl) (fun x h1 h2=>atx x.1 x.2.1 h1 h2)
def pk:Ct:=⟨[ak,(.int .i64)],[true,false],fun x=>[-4611545280939032576<=x.2.1],[(false,(.fz (.int .i64)))],fun x=>(szR (wR ak x.1) x.2.1,()),false,none⟩
def ae7(a:ab)(left:Int)(K:Int×Unit->Prop):Prop:=(((-4611545280939032576)<=left)/\(cnd (decide ((szR (wR (.sl (.int .i64)) a.2) left)<0)) (K ((-1),())) (K ((szR (wR (.sl (.int .i64)) a.2) left),()))))
theorem ax9(a:ab)(left:Int)(hok:ae (okL pk.args (a,left,())))(hpre:ae (pk.pre (a,left,()))):ae7 a left (fun r=>r=pk.res (a,left,())):=by
 simp only[pk,okL,T.oks,T.ok,ap,ae,a0e,a0c,a0h]at hok hpre
 try dsimp only[T.den]at hok hpre
 unfold ae7;simp only[pk,awa,ajy,agn,a10,a3m]
 grind[cnd,ck,ao,szR]
theorem av0:b8 Tryz.prog 22 pk:=cg (Φ:=lkp [(38,k9)]) (ai ags aq) bi (by kernel_rfl) (fn:=Tryz.f22) (c:=bf Tryz.f22) (by kernel_rfl) (by kernel_rfl) (by kernel_rfl) pk rfl .n (cp []) (by kernel_rfl) (by kernel_rfl) (by kernel_rfl) (by decide) (fun x K=>ae7 x.1 x.2.1 K) (fun _ _=>by kernel_rfl) (fun x h1 h2=>ax9 x.1 x.2.1 h1 h2)
def kp:Ct:=⟨[(.sl ak),(.int .i64)],[false,false],fun x=>[-4611404543450677248<=x.2.1],[(false,(.fz (.int .i64)))],fun x=>(szR (wR (.sl ak) x.1) x.2.1,()),false,none⟩
def ask:Ann:=(.s .n (.s .n (.s .n (.s (.s .n (.l [(1,(.d (.int .i64))),(5,(.d (.int .i64)))] [] [0] .n)) .n))))
def acs(a:List ab)(left:Int)(K:Int×Unit->Prop):Prop:=((inK .i64 (left-(a.length:Int)))/\(cnd (decide ((left-(a.length:Int))<0)) (K ((-1),())) (bj (S:=bsh) (fun s=>(fun next=>((inK .i64 s.1.1)->((inK .i64 s.1.2.1)->(cnd (decide (s.1.2.1<(a.length:Int))) ((0<=s.1.2.1)/\((s.1.2.1<(a.length:Int))/\(((-4611545280939032576)<=s.1.1)/\(cnd (decide ((szR (wR ak (a.getD s.1.2.1.toNat (0,[]))) s.1.1)<0)) (K ((-1),())) ((inK .i64 (s.1.2.1+1))/\(next (((szR (wR ak (a.getD s.1.2.1.toNat (0,[]))) s.1.1),((s.1.2.1+1),())),()))))))) (K (s.1.1,()))))))) (((left-(a.length:Int)),(0,())),()))))
theorem awl(a:List ab)(left:Int)(hok:ae (okL kp.args (a,left,())))(hpre:ae (kp.pre (a,left,()))):acs a left (fun r=>r=kp.res (a,left,())):=by
 simp only[kp,okL,T.oks,T.ok,ap,ae,a0e,a0c,a0h]at hok hpre
 try dsimp only[T.den]at hok hpre
 unfold acs;have hr:=bja (x:=a.length) (r:=(a.map (wR ak)).sum) (l:=left);refine⟨by grind[cnd,ck,ao],au (fun hc=>?_) (fun hc=>?_)⟩
 ·simp only[kp];rw[ay2,bi8 (x:=a.length) (by omega)]
 replace hr:=hr (by omega);rw[bcv (x:=a.length) (by omega)]at hr;refine bw (fun (s:bsh)=>0<=s.1.1/\0<=s.1.2.1/\s.1.2.1<=a.length/\szR (wR (.sl ak) a) left=szR ((a.drop s.1.2.1.toNat).map (wR ak)).sum s.1.1) (fun (s:bsh)=>(a.length-s.1.2.1).toNat) ?_ ⟨(by first|omega|(dsimp only;omega)),by simp,by simp,by rw[ay2];simpa using hr⟩;rintro⟨⟨l,i,_⟩,_⟩ next ⟨h0,h1,h2,h3⟩ hn hin hl
 simp only at h0 h1 h2 h3 hn⊢;refine au (fun hc=>?_) (fun hc=>?_)
 ·rw[mq a ((0:Int),([]:List Int)) h1 hc,a07,a2g]at h3;refine⟨by omega,by omega,by omega,au (fun hd=>?_) (fun hd=>?_)⟩
  ·rw[auy]at hd;rw[bi8 hd]at h3;simp only[kp];rw[h3]
  ·rw[auy]at hd;rw[bja hd]at h3;exact⟨by grind[cnd,ck,ao],hn _ ⟨by simp only;rw[bcv hd];omega,(by first|omega|(dsimp only;omega)),(by first|omega|(dsimp only;omega)),h3⟩ (by first|omega|(dsimp only;omega))⟩
 ·rw[pp a (by omega)]at h3;simp only[a2l,List.sum_nil]at h3;rw[bmd h0]at h3;simp only[kp];rw[h3]
theorem atl:b8 Tryz.prog 39 kp:=cg (Φ:=lkp [(22,pk)]) (ai av0 aq) bi (by kernel_rfl) (fn:=Tryz.f39) (c:=bf Tryz.f39) (by kernel_rfl) (by kernel_rfl) (by kernel_rfl) kp rfl ask (cp []) (by kernel_rfl) (by kernel_rfl) (by kernel_rfl) (by decide) (fun x K=>acs x.1 x.2.1 K) (fun _ _=>by kernel_rfl) (fun x h1 h2=>awl x.1 x.2.1 h1 h2)
def m7:Ct:=⟨[SchemaT,(.int .i64)],[true,false],fun x=>[-4611404543450677248<=x.2.1],[(false,(.fz (.int .i64)))],fun x=>(szR (wR SchemaT x.1) x.2.1,()),false,none⟩
def ash:FuncId->Option Ct:=lkp [(38,k9),(39,kp)]
def abg(a:ac)(left:Int)(K:Int×Unit->Prop):Prop:=(((-4611545280939032576)<=left)/\(cnd (decide ((szR (wR (.sl (.int .i64)) a.2.1) left)<0)) (K ((-1),())) (((-4611545280939032576)<=(szR (wR (.sl (.int .i64)) a.2.1) left))/\(cnd (decide ((szR (wR (.sl (.int .i64)) a.2.2.1) (szR (wR (.sl (.int .i64)) a.2.1) left))<0)) (K ((-1),())) (((-4611404543450677248)<=(szR (wR (.sl (.int .i64)) a.2.2.1) (szR (wR (.sl (.int .i64)) a.2.1) left)))/\(cnd (decide ((szR (wR (.sl ak) a.2.2.2.1) (szR (wR (.sl (.int .i64)) a.2.2.1) (szR (wR (.sl (.int .i64)) a.2.1) left)))<0)) (K ((-1),())) (((-4611404543450677248)<=(szR (wR (.sl ak) a.2.2.2.1) (szR (wR (.sl (.int .i64)) a.2.2.1) (szR (wR (.sl (.int .i64)) a.2.1) left))))/\(cnd (decide ((szR (wR (.sl ak) a.2.2.2.2) (szR (wR (.sl ak) a.2.2.2.1) (szR (wR (.sl (.int .i64)) a.2.2.1) (szR (wR (.sl (.int .i64)) a.2.1) left))))<0)) (K ((-1),())) (K ((szR (wR (.sl ak) a.2.2.2.2) (szR (wR (.sl ak) a.2.2.2.1) (szR (wR (.sl (.int .i64)) a.2.2.1) (szR (wR (.sl (.int .i64)) a.2.1) left)))),()))))))))))
theorem asu(a:ac)(left:Int)(hok:ae (okL m7.args (a,left,())))(hpre:ae (m7.pre (a,left,()))):abg a left (fun r=>r=m7.res (a,left,())):=by
 simp only[m7,okL,T.oks,T.ok,ap,ae,a0e,a0c,a0h]at hok hpre
 try dsimp only[T.den]at hok hpre
 unfold abg;simp only[m7,awa,ajy,agn,a10,a3m]
 grind[cnd,ck,ao,szR]
theorem art:b8 Tryz.prog 7 m7:=cg (Φ:=ash) (ai ags (ai atl aq)) bi (by kernel_rfl) (fn:=Tryz.f7) (c:=bf Tryz.f7) (by kernel_rfl) (by kernel_rfl) (by kernel_rfl) m7 rfl .n (cp []) (by kernel_rfl) (by kernel_rfl) (by kernel_rfl) (by decide) (fun x K=>abg x.1 x.2.1 K) (fun _ _=>by kernel_rfl) (fun x h1 h2=>asu x.1 x.2.1 h1 h2)
def kz:Ct:=⟨[(.sl (.int .i64))],[false],fun x=>[wR (.sl (.int .i64)) x.1<=1099511627776],[(false,(.sl (.fz (.int .i64))))],fun x=>(x.1,()),false,none⟩
def aqs:Ann:=(.s .n (.s .n (.s (.s .n (.l [(3,(.ref 7 [])),(4,(.d (.int .i64)))] [(7,(.sl (.fz (.int .i64))))] [0] .n)) .n)))
def aca(a:List Int)(K:(List Int)×Unit->Prop):Prop:=((0<=(a.length:Int))/\(((a.length:Int)<=(a.length:Int))/\(((a.length:Int)<=((140737488355328:Nat):Int))/\((((a.length:Int)*((8:Nat):Int))<=((140737488355328:Nat):Int))/\(bj (S:=(bsa×bsc)) (fun s=>(fun next=>((inK .i64 s.1.2.1)->((T.ok (.sl (.int .i64)) s.2.1)->(cnd (decide (s.1.2.1<(a.length:Int))) ((0<=s.1.2.1)/\((s.1.2.1<(a.length:Int))/\((0<=s.1.2.1)/\((s.1.2.1<(s.2.1.length:Int))/\((inK .i64 (s.1.2.1+1))/\(next (((),((s.1.2.1+1),())),((List.set s.2.1 s.1.2.1.toNat (a.getD s.1.2.1.toNat 0)),())))))))) (K (s.2.1,()))))))) (((),(0,())),((List.replicate (Int.toNat (a.length:Int)) (0:Int)),())))))))
theorem asx(a:List Int)(hok:ae (okL kz.args (a,())))(hpre:ae (kz.pre (a,()))):aca a (fun r=>r=kz.res (a,())):=by
 simp only[kz,okL,T.oks,T.ok,ap,ae,a0e,a0c,a0h]at hok hpre
 try dsimp only[T.den]at hok hpre
 unfold aca;rw[ay2]at hpre;refine⟨by omega,by omega,by first|omega|(rw[ck];omega),by first|omega|(rw[ck];omega),?_⟩;refine bw (fun (s:(bsa×bsc))=>0<=s.1.2.1/\s.1.2.1<=a.length/\s.2.1.length=a.length/\s.2.1.take s.1.2.1.toNat=a.take s.1.2.1.toNat) (fun (s:(bsa×bsc))=>(a.length-s.1.2.1).toNat) ?_ (by simp);rintro⟨⟨_,i,_⟩,l,_⟩ next ⟨h0,h1,h2,h3⟩ hn hin hl
 simp only at h0 h1 h2 h3 hn⊢;refine au (fun hc=>?_) (fun hc=>?_)
 ·refine⟨by omega,by omega,by omega,by omega,by grind[cnd,ck,ao],hn _ ⟨(by first|omega|(dsimp only;omega)),(by first|omega|(dsimp only;omega)),by simp[h2],?_⟩ (by first|omega|(dsimp only;omega))⟩;simp only;rw[jz a (0:Int) h0 hc,←h3];exact bch l h0 (by omega) _
 ·rw[ng a (by omega),ng l (by omega)]at h3;simp[h3,kz]
theorem ahp:b8 Tryz.prog 43 kz:=cg (Φ:=lkp []) aq bi (by kernel_rfl) (fn:=Tryz.f43) (c:=bf Tryz.f43) (by kernel_rfl) (by kernel_rfl) (by kernel_rfl) kz rfl aqs (cp []) (by kernel_rfl) (by kernel_rfl) (by kernel_rfl) (by decide) (fun x K=>aca x.1 K) (fun _ _=>by kernel_rfl) (fun x h1 h2=>asx x.1 h1 h2)
def rh:Ct:=⟨[ak],[true],fun x=>[wR ak x.1<=1099511627776],[(true,aie)],fun x=>(x.1,()),false,none⟩
def afm(a:ab)(K:ab×Unit->Prop):Prop:=(((wR (.sl (.int .i64)) a.2)<=1099511627776)/\(K (a,())))
theorem aya(a:ab)(hok:ae (okL rh.args (a,())))(hpre:ae (rh.pre (a,()))):afm a (fun r=>r=rh.res (a,())):=by
 simp only[rh,okL,T.oks,T.ok,ap,ae,a0e,a0c,a0h]at hok hpre
 try dsimp only[T.den]at hok hpre
 unfold afm;simp only[awa,ajy,agn]at hpre
 repeat' apply And.intro
 all_goals first|rfl|((try simp only[awa,ajy,agn]);omega)
theorem avi:b8 Tryz.prog 24 rh:=cg (Φ:=lkp [(43,kz)]) (ai ahp aq) bi (by kernel_rfl) (fn:=Tryz.f24) (c:=bf Tryz.f24) (by kernel_rfl) (by kernel_rfl) (by kernel_rfl) rh rfl .n (cp []) (by kernel_rfl) (by kernel_rfl) (by kernel_rfl) (by decide) (fun x K=>afm x.1 K) (fun _ _=>by kernel_rfl) (fun x h1 h2=>aya x.1 h1 h2)
def n7:Ct:=⟨[(.sl ak)],[false],fun x=>[wR (.sl ak) x.1<=1099511627776],[(false,(.sl aie))],fun x=>(x.1,()),false,none⟩
def at9:Ann:=(.s .n (.s .n (.s (.s .n (.l [(3,(.ref 7 [])),(4,(.d (.int .i64)))] [(7,(.sl (.p (.fz (.int .i64)) (.sl (.fz (.int .i64))))))] [0] .n)) .n)))
def acm(a:List ab)(K:(List ab)×Unit->Prop):Prop:=((0<=(a.length:Int))/\(((a.length:Int)<=(a.length:Int))/\(((a.length:Int)<=((nb:Nat):Int))/\((((a.length:Int)*((32:Nat):Int))<=((nb:Nat):Int))/\(bj (S:=bsb) (fun s=>(fun next=>((inK .i64 s.1.2.1)->((T.ok (.sl ak) s.2.1)->(cnd (decide (s.1.2.1<(a.length:Int))) ((0<=s.1.2.1)/\((s.1.2.1<(a.length:Int))/\(((wR ak (a.getD s.1.2.1.toNat (0,[])))<=1099511627776)/\((0<=s.1.2.1)/\((s.1.2.1<(s.2.1.length:Int))/\((inK .i64 (s.1.2.1+1))/\(next (((),((s.1.2.1+1),())),((List.set s.2.1 s.1.2.1.toNat (a.getD s.1.2.1.toNat (0,[]))),()))))))))) (K (s.2.1,()))))))) (((),(0,())),((List.replicate (Int.toNat (a.length:Int)) (0,[])),())))))))
theorem aws(a:List ab)(hok:ae (okL n7.args (a,())))(hpre:ae (n7.pre (a,()))):acm a (fun r=>r=n7.res (a,())):=by
 simp only[n7,okL,T.oks,T.ok,ap,ae,a0e,a0c,a0h]at hok hpre
 try dsimp only[T.den]at hok hpre
 unfold acm;rw[ay2]at hpre;refine⟨by omega,by omega,by first|omega|(rw[ck];omega),by first|omega|(rw[ck];omega),?_⟩;refine bw (fun (s:bsb)=>0<=s.1.2.1/\s.1.2.1<=a.length/\s.2.1.length=a.length/\s.2.1.take s.1.2.1.toNat=a.take s.1.2.1.toNat) (fun (s:bsb)=>(a.length-s.1.2.1).toNat) ?_ (by simp);rintro⟨⟨_,i,_⟩,l,_⟩ next ⟨h0,h1,h2,h3⟩ hn hin hl
 simp only at h0 h1 h2 h3 hn⊢;refine au (fun hc=>?_) (fun hc=>?_)
 ·have hm:=bqi (e:=ak) (ii a ((0:Int),([]:List Int)) h0 hc);refine⟨by omega,by omega,by omega,by omega,by omega,by grind[cnd,ck,ao],hn _ ⟨(by first|omega|(dsimp only;omega)),(by first|omega|(dsimp only;omega)),by simp[h2],?_⟩ (by first|omega|(dsimp only;omega))⟩;simp only;rw[jz a ((0:Int),([]:List Int)) h0 hc,←h3];exact bch l h0 (by omega) _
 ·rw[ng a (by omega),ng l (by omega)]at h3;simp[h3,n7]
theorem as2:b8 Tryz.prog 44 n7:=cg (Φ:=lkp [(24,rh)]) (ai avi aq) bi (by kernel_rfl) (fn:=Tryz.f44) (c:=bf Tryz.f44) (by kernel_rfl) (by kernel_rfl) (by kernel_rfl) n7 rfl at9 (cp []) (by kernel_rfl) (by kernel_rfl) (by kernel_rfl) (by decide) (fun x K=>acm x.1 K) (fun _ _=>by kernel_rfl) (fun x h1 h2=>aws x.1 h1 h2)
def oz:Ct:=⟨[SchemaT],[true],fun x=>[wR SchemaT x.1<=1099511627776],[(true,bei)],fun x=>(x.1,()),false,none⟩
def aq7:FuncId->Option Ct:=lkp [(43,kz),(44,n7)]
def abd(a:ac)(K:ac×Unit->Prop):Prop:=(((wR (.sl (.int .i64)) a.2.1)<=1099511627776)/\(((wR (.sl (.int .i64)) a.2.2.1)<=1099511627776)/\(((wR (.sl ak) a.2.2.2.1)<=1099511627776)/\(((wR (.sl ak) a.2.2.2.2)<=1099511627776)/\(K (a,()))))))
theorem at0(a:ac)(hok:ae (okL oz.args (a,())))(hpre:ae (oz.pre (a,()))):abd a (fun r=>r=oz.res (a,())):=by
 simp only[oz,okL,T.oks,T.ok,ap,ae,a0e,a0c,a0h]at hok hpre
 try dsimp only[T.den]at hok hpre
 unfold abd;simp only[awa,ajy,agn]at hpre
 repeat' apply And.intro
 all_goals first|rfl|((try simp only[awa,ajy,agn]);omega)
theorem aql:b8 Tryz.prog 9 oz:=cg (Φ:=aq7) (ai ahp (ai as2 aq)) bi (by kernel_rfl) (fn:=Tryz.f9) (c:=bf Tryz.f9) (by kernel_rfl) (by kernel_rfl) (by kernel_rfl) oz rfl .n (cp []) (by kernel_rfl) (by kernel_rfl) (by kernel_rfl) (by decide) (fun x K=>abd x.1 K) (fun _ _=>by kernel_rfl) (fun x h1 h2=>at0 x.1 h1 h2)
def od:Ct:=⟨[(.sl (.int .i64)),(.int .i64),(.int .i64)],[false,false,false],fun x=>[],[(false,(.fz .bool))],fun x=>((decide ((x.1.length:Int)=x.2.1)&&bz x.1 x.2.2.1),()),false,none⟩
def ac2(list:List Int)(length:Int)(objects:Int)(K:Bool×Unit->Prop):Prop:=(K ((((list.length:Int)==length)&&(bz list objects)),()))
theorem awq(list:List Int)(length:Int)(objects:Int)(hok:ae (okL od.args (list,length,objects,())))(hpre:ae (od.pre (list,length,objects,()))):ac2 list length objects (fun r=>r=od.res (list,length,objects,())):=by
 simp only[od,okL,T.oks,T.ok,ap,ae,a0e,a0c,a0h]at hok hpre
 try dsimp only[T.den]at hok hpre
 unfold ac2;have:((list.length:Int)==length)=decide ((list.length:Int)=length):=rfl;simp only[od,this]
theorem ata:b8 Tryz.prog 109 od:=cg (Φ:=lkp [(65,jp)]) (ai zf aq) bi (by kernel_rfl) (fn:=Tryz.f109) (c:=bf Tryz.f109) (by kernel_rfl) (by kernel_rfl) (by kernel_rfl) od rfl .n (cp []) (by kernel_rfl) (by kernel_rfl) (by kernel_rfl) (by decide) (fun x K=>ac2 x.1 x.2.1 x.2.2.1 K) (fun _ _=>by kernel_rfl) (fun x h1 h2=>awq x.1 x.2.1 x.2.2.1 h1 h2)
def km:Ct:=⟨[aj],[true],fun x=>[],[(false,(.fz .bool))],fun x=>(aab x.1,()),false,none⟩
def at1:Ann:=(.s .n (.s .n (.s .n (.s .n (.s (.s .n (.l [(4,(.d (.int .i64)))] [] [1,3] .n)) (.s (.s .n (.l [(5,(.d (.int .i64)))] [] [1,3] (.s .n (.s (.s .n (.s .n (.l [(6,(.d (.int .i64)))] [] [1,3,5] (.s .n (.s (.j [] [] [1,3,5,6] .n) .n))))) .n)))) .n))))))
def as4:FuncId->Option Ct:=lkp [(64,nk),(65,jp),(109,od)]
def adp(c:be)(K:Bool×Unit->Prop):Prop:=(cnd (((((!(inR c.1 0 8))||(decide (40<(c.2.1.length:Int))))||(!((decide ((c.2.1.length:Int)=(c.2.1.length:Int)))&&(bz c.2.1 c.1))))||(!((decide ((c.2.2.1.length:Int)=(c.2.1.length:Int)))&&(bz c.2.2.1 c.1))))||((c.2.2.2.2.length:Int) != (c.2.1.length:Int))) (K (false,())) (cnd (((c.2.2.2.1.length:Int) != c.1)||(!(bz c.2.2.2.1 (c.2.1.length:Int)))) (K (false,())) (bj (S:=bsd) (fun s=>(fun next=>((inK .i64 s.1.1)->(cnd (decide (s.1.1<c.1)) ((0<=s.1.1)/\((s.1.1<(c.2.2.2.1.length:Int))/\((0<=(c.2.2.2.1.getD s.1.1.toNat 0))/\(((c.2.2.2.1.getD s.1.1.toNat 0)<(c.2.1.length:Int))/\(((((c.2.1.getD (Int.toNat (c.2.2.2.1.getD s.1.1.toNat 0)) 0) != s.1.1)=false)->((s.1.1<(c.2.2.2.1.length:Int))/\(0<=s.1.1)))/\(((((c.2.1.getD (Int.toNat (c.2.2.2.1.getD s.1.1.toNat 0)) 0) != s.1.1)=false)->(((c.2.2.2.1.getD s.1.1.toNat 0)<(c.2.2.1.length:Int))/\(0<=(c.2.2.2.1.getD s.1.1.toNat 0))))/\(cnd (((c.2.1.getD (Int.toNat (c.2.2.2.1.getD s.1.1.toNat 0)) 0) != s.1.1)||((c.2.2.1.getD (Int.toNat (c.2.2.2.1.getD s.1.1.toNat 0)) 0) != s.1.1)) (K (false,())) ((inK .i64 (s.1.1+1))/\(next (((s.1.1+1),()),())))))))))) (bj (S:=bsd) (fun s1=>(fun next1=>((inK .i64 s1.1.1)->(cnd (decide (s1.1.1<(c.2.1.length:Int))) ((0<=s1.1.1)/\((s1.1.1<(c.2.2.2.2.length:Int))/\(cnd ((List.length (c.2.2.2.2.getD s1.1.1.toNat []):Int) != (c.2.1.length:Int)) (K (false,())) (bj (S:=bsd) (fun s2=>(fun next2=>((inK .i64 s2.1.1)->(cnd (decide (s2.1.1<(c.2.1.length:Int))) (ji (S:=(Unit×Unit)) (fun s3=>((inK .i64 (s2.1.1+1))/\(next2 (((s2.1.1+1),()),())))) (fun k=>((0<=s1.1.1)/\((s1.1.1<(c.2.2.2.2.length:Int))/\((0<=s2.1.1)/\((s2.1.1<(List.length (c.2.2.2.2.getD s1.1.1.toNat []):Int))/\((0<=s1.1.1)/\((s1.1.1<(c.2.2.1.length:Int))/\((0<=s2.1.1)/\((s2.1.1<(c.2.1.length:Int))/\(cnd ((c.2.2.1.getD s1.1.1.toNat 0) != (c.2.1.getD s2.1.1.toNat 0)) (cnd ((List.getD (c.2.2.2.2.getD s1.1.1.toNat []) s2.1.1.toNat 0) != (-1)) (K (false,())) (k ((),()))) (((((decide ((List.getD (c.2.2.2.2.getD s1.1.1.toNat []) s2.1.1.toNat 0)<0))||(decide ((c.2.1.length:Int)<=(List.getD (c.2.2.2.2.getD s1.1.1.toNat []) s2.1.1.toNat 0))))=false)->(((List.getD (c.2.2.2.2.getD s1.1.1.toNat []) s2.1.1.toNat 0)<(c.2.1.length:Int))/\(0<=(List.getD (c.2.2.2.2.getD s1.1.1.toNat []) s2.1.1.toNat 0))))/\(((((decide ((List.getD (c.2.2.2.2.getD s1.1.1.toNat []) s2.1.1.toNat 0)<0))||(decide ((c.2.1.length:Int)<=(List.getD (c.2.2.2.2.getD s1.1.1.toNat []) s2.1.1.toNat 0))))=false)->((s1.1.1<(c.2.1.length:Int))/\(0<=s1.1.1)))/\((((((decide ((List.getD (c.2.2.2.2.getD s1.1.1.toNat []) s2.1.1.toNat 0)<0))||(decide ((c.2.1.length:Int)<=(List.getD (c.2.2.2.2.getD s1.1.1.toNat []) s2.1.1.toNat 0))))||((c.2.1.getD (Int.toNat (List.getD (c.2.2.2.2.getD s1.1.1.toNat []) s2.1.1.toNat 0)) 0) != (c.2.1.getD s1.1.1.toNat 0)))=false)->(((List.getD (c.2.2.2.2.getD s1.1.1.toNat []) s2.1.1.toNat 0)<(c.2.2.1.length:Int))/\(0<=(List.getD (c.2.2.2.2.getD s1.1.1.toNat []) s2.1.1.toNat 0))))/\((((((decide ((List.getD (c.2.2.2.2.getD s1.1.1.toNat []) s2.1.1.toNat 0)<0))||(decide ((c.2.1.length:Int)<=(List.getD (c.2.2.2.2.getD s1.1.1.toNat []) s2.1.1.toNat 0))))||((c.2.1.getD (Int.toNat (List.getD (c.2.2.2.2.getD s1.1.1.toNat []) s2.1.1.toNat 0)) 0) != (c.2.1.getD s1.1.1.toNat 0)))=false)->((s2.1.1<(c.2.2.1.length:Int))/\(0<=s2.1.1)))/\(cnd ((((decide ((List.getD (c.2.2.2.2.getD s1.1.1.toNat []) s2.1.1.toNat 0)<0))||(decide ((c.2.1.length:Int)<=(List.getD (c.2.2.2.2.getD s1.1.1.toNat []) s2.1.1.toNat 0))))||((c.2.1.getD (Int.toNat (List.getD (c.2.2.2.2.getD s1.1.1.toNat []) s2.1.1.toNat 0)) 0) != (c.2.1.getD s1.1.1.toNat 0)))||((c.2.2.1.getD (Int.toNat (List.getD (c.2.2.2.2.getD s1.1.1.toNat []) s2.1.1.toNat 0)) 0) != (c.2.2.1.getD s2.1.1.toNat 0))) (K (false,())) (k ((),())))))))))))))))))) ((inK .i64 (s1.1.1+1))/\(next1 (((s1.1.1+1),()),()))))))) ((0,()),()))))) (K (true,())))))) ((0,()),())))))) ((0,()),()))))
theorem avj(c:be)(hok:ae (okL km.args (c,())))(hpre:ae (km.pre (c,()))):adp c (fun r=>r=km.res (c,())):=by
 simp only[km,okL,T.oks,T.ok,ap,ae,a0e,a0c,a0h]at hok hpre
 try dsimp only[T.den]at hok hpre
 unfold adp;have bad:¬ShapeP c->(false,())=km.res (c,()):=fun h=>by simp only[km];rw[aoq h]
 refine bd (fun hc=>bad fun h=>?_) (fun hc=>bd (fun hd=>bad fun h=>?_) (fun hd=>?_))
 ·have h1:=h.ob;have h2:=h.m;have h3:=h.lt;have h4:=h.fr;have h5:=h.to;have h6:=h.lc;simp only[inR]at hc;grind[cnd,ck,ao]
 ·have h1:=h.li;have h2:=h.ids;grind[cnd,ck,ao]
 simp only[inR,a2a,a2b,a0a,a06,a2n,a1f]at hc hd;obtain⟨⟨⟨⟨hob,hm⟩,_,hfr⟩,hlt,hto⟩,hlc⟩:=hc;obtain⟨hli,hids⟩:=hd;refine m8 (n:=c.1) (fun x=>∀y:Int,0<=y->y<x->c.2.1.getD (c.2.2.2.1.getD y.toNat 0).toNat 0=y/\c.2.2.1.getD (c.2.2.2.1.getD y.toNat 0).toNat 0=y) (by omega) (by intro y h0 h1;omega) ?_ ?_
 ·intro x next h0 h1 hP hn hin
  have hb:=lj.1 hids x h0 (by omega)
  try dsimp only
  refine au (fun _=>⟨h0,by omega,hb.1,hb.2,fun _=>by omega,fun _=>by omega,bd (fun hx=>bad fun h=>?_) (fun hx=>?_)⟩) (fun h=>absurd h1 h)
  ·have:=h.idt x h0 (by omega);rw[this.1,this.2]at hx;simp at hx
  ·simp only[a2a,a1f]at hx;refine⟨by rw[ao];(try dsimp only);omega,hn fun y y0 y1=>?_⟩;by_cases e:y=x
   ·rw[e];exact hx
   ·exact hP y y0 (by omega)
 intro next hidt hin
 refine au (fun h=>absurd h (by dsimp only;omega)) (fun _=>?_);refine m8 (n:=c.2.1.length) (fun f=>∀f':Int,0<=f'->f'<f->(c.2.2.2.2.getD f'.toNat []).length=c.2.1.length/\∀g:Int,0<=g->g<c.2.1.length->uz c f' g=true) (by omega) (by intro y h0 h1;omega) ?_ ?_
 ·intro f next h0 h1 hP hn hin
  try dsimp only
  refine au (fun _=>⟨h0,by omega,bd (fun hx=>bad fun h=>?_) (fun hx=>?_)⟩) (fun h=>absurd h1 h)
  ·have:=h.row f h0 (by omega);rw[this]at hx;simp at hx
  simp only[a1f]at hx;refine m8 (n:=c.2.1.length) (fun g=>∀g':Int,0<=g'->g'<g->uz c f g'=true) (by omega) (by intro y h0 h1;omega) ?_ ?_
  ·intro g next3 g0 g1 hP3 hn3 hin3
   try dsimp only
   refine au (fun _=>?_) (fun h=>absurd g1 h);refine il (fun _=>uz c f g=true) (fun _ hcell=>⟨by rw[ao];(try dsimp only);omega,hn3 fun g' y0 y1=>?_⟩) (fun k hk=>?_)
   ·by_cases e:g'=g
    ·rw[e];exact hcell
    ·exact hP3 g' y0 (by omega)
   have hcell:∀b,uz c f g=b->b=false->¬ShapeP c:=fun b h1 h2 h=>by have:=h.cell f g h0 (by omega) g0 (by omega);rw[h1,h2]at this;cases this
   have hk':=hk ((),());obtain⟨v,hv⟩:∃v,(c.2.2.2.2.getD f.toNat []).getD g.toNat 0=v:=⟨_,rfl⟩;have hR:uz c f g=zc c f g v:=by unfold uz gn;rw[hv]
   rw[hR]at hk';rw[hR]at hcell;rw[hv];clear hP3 hn3 hP hn hk hR hv hidt hok;refine⟨h0,by omega,g0,by omega,h0,by omega,g0,by omega,bd (fun ha=>bd (fun hb=>bad ?_) (fun hb=>hk' ?_)) (fun ha=>⟨fun hv=>?_,fun _=>⟨by omega,h0⟩,fun hv=>?_,fun _=>⟨by omega,g0⟩,bd (fun hb=>bad ?_) (fun hb=>hk' ?_)⟩)⟩
   ·exact hcell _ rfl (by grind[cnd,ck,ao,zc])
   ·grind[cnd,ck,ao,zc]
   ·simp only[a2a,a2n]at hv;omega
   ·simp only[a2a,a2n]at hv;omega
   ·exact hcell _ rfl (by grind[cnd,ck,ao,zc])
   ·grind[cnd,ck,ao,zc]
  ·intro next3 hP3 hin3;refine au (fun h=>absurd h (by dsimp only;omega)) (fun _=>⟨by rw[ao];(try dsimp only);omega,hn fun f' y0 y1=>?_⟩);by_cases e:f'=f
   ·rw[e];exact⟨by omega,fun g g0 g1=>hP3 g g0 (by omega)⟩
   ·exact hP f' y0 (by omega)
 ·intro next2 hP2 hin2;refine au (fun h=>absurd h (by dsimp only;omega)) (fun _=>?_);simp only[km];rw[bex ⟨hob,by omega,by omega,hfr,hto,by omega,hids,by omega,fun x a b=>hidt x a (by omega),fun f a b=>(hP2 f a (by omega)).1,fun f g a b d e=>(hP2 f a (by omega)).2 g d e⟩]
theorem aur:b8 Tryz.prog 89 km:=cg (Φ:=as4) (ai ae8 (ai zf (ai ata aq))) bi (by kernel_rfl) (fn:=Tryz.f89) (c:=bf Tryz.f89) (by kernel_rfl) (by kernel_rfl) (by kernel_rfl) km rfl at1 (cp [(20,11),(23,33),(9,24)]) (by kernel_rfl) (by kernel_rfl) (by kernel_rfl) (by decide) (fun x K=>adp x.1 K) (fun _ _=>by kernel_rfl) (fun x h1 h2=>avj x.1 h1 h2)
def ld:Ct:=⟨[aj],[true],fun x=>[ShapeP x.1],[(false,(.fz (.int .i64))),(false,(.fz (.int .i64))),(false,(.fz (.int .i64))),(false,(.fz (.int .i64)))],fun x=>((ou x.1).1,(ou x.1).2.1,(ou x.1).2.2.1,(ou x.1).2.2.2,()),false,none⟩
def aqz:Ann:=(.s .n (.s .n (.s (.s .n (.l [(7,(.d (.int .i64)))] [] [1,6] .n)) (.s (.s .n (.l [(8,(.d (.int .i64)))] [] [1,6] (.s .n (.s (.s .n (.l [(9,(.d (.int .i64)))] [] [1,6,8] (.s .n (.s (.j [] [] [1,6,8,9] (.s .n (.s .n (.l [(10,(.d (.int .i64)))] [] [1,6,8,9] .n)))) .n)))) .n)))) .n))))
def ab6(c:be)(K:Int×Int×Int×Int×Unit->Prop):Prop:=(bj (S:=bsd) (fun s=>(fun next=>((inK .i64 s.1.1)->(cnd (decide (s.1.1<(c.2.1.length:Int))) ((0<=s.1.1)/\((s.1.1<(c.2.1.length:Int))/\((0<=(c.2.1.getD s.1.1.toNat 0))/\(((c.2.1.getD s.1.1.toNat 0)<(c.2.2.2.1.length:Int))/\((0<=(c.2.2.2.1.getD (Int.toNat (c.2.1.getD s.1.1.toNat 0)) 0))/\(((c.2.2.2.1.getD (Int.toNat (c.2.1.getD s.1.1.toNat 0)) 0)<(c.2.2.2.2.length:Int))/\((0<=s.1.1)/\((s.1.1<(((List.length (c.2.2.2.2.getD (Int.toNat (c.2.2.2.1.getD (Int.toNat (c.2.1.getD s.1.1.toNat 0)) 0)) [])):Nat):Int))/\(((((List.getD (c.2.2.2.2.getD (Int.toNat (c.2.2.2.1.getD (Int.toNat (c.2.1.getD s.1.1.toNat 0)) 0)) []) s.1.1.toNat 0) != s.1.1)=false)->((s.1.1<(c.2.2.2.2.length:Int))/\(0<=s.1.1)))/\(((((List.getD (c.2.2.2.2.getD (Int.toNat (c.2.2.2.1.getD (Int.toNat (c.2.1.getD s.1.1.toNat 0)) 0)) []) s.1.1.toNat 0) != s.1.1)=false)->((s.1.1<(c.2.2.1.length:Int))/\(0<=s.1.1)))/\(((((List.getD (c.2.2.2.2.getD (Int.toNat (c.2.2.2.1.getD (Int.toNat (c.2.1.getD s.1.1.toNat 0)) 0)) []) s.1.1.toNat 0) != s.1.1)=false)->(((c.2.2.1.getD s.1.1.toNat 0)<(c.2.2.2.1.length:Int))/\(0<=(c.2.2.1.getD s.1.1.toNat 0))))/\(((((List.getD (c.2.2.2.2.getD (Int.toNat (c.2.2.2.1.getD (Int.toNat (c.2.1.getD s.1.1.toNat 0)) 0)) []) s.1.1.toNat 0) != s.1.1)=false)->(((c.2.2.2.1.getD (Int.toNat (c.2.2.1.getD s.1.1.toNat 0)) 0)<(List.length (c.2.2.2.2.getD s.1.1.toNat []):Int))/\(0<=(c.2.2.2.1.getD (Int.toNat (c.2.2.1.getD s.1.1.toNat 0)) 0))))/\(cnd (((List.getD (c.2.2.2.2.getD (Int.toNat (c.2.2.2.1.getD (Int.toNat (c.2.1.getD s.1.1.toNat 0)) 0)) []) s.1.1.toNat 0) != s.1.1)||((List.getD (c.2.2.2.2.getD s.1.1.toNat []) (Int.toNat (c.2.2.2.1.getD (Int.toNat (c.2.2.1.getD s.1.1.toNat 0)) 0)) 0) != s.1.1)) (K (1,(s.1.1,(0,(0,()))))) ((inK .i64 (s.1.1+1))/\(next (((s.1.1+1),()),())))))))))))))))) (bj (S:=bsd) (fun s1=>(fun next1=>((inK .i64 s1.1.1)->(cnd (decide (s1.1.1<(c.2.1.length:Int))) (bj (S:=bsd) (fun s2=>(fun next2=>((inK .i64 s2.1.1)->(cnd (decide (s2.1.1<(c.2.1.length:Int))) (ji (S:=(Unit×Unit)) (fun s3=>((inK .i64 (s2.1.1+1))/\(next2 (((s2.1.1+1),()),())))) (fun k=>((0<=s1.1.1)/\((s1.1.1<(c.2.2.1.length:Int))/\((0<=s2.1.1)/\((s2.1.1<(c.2.1.length:Int))/\(cnd ((c.2.2.1.getD s1.1.1.toNat 0) != (c.2.1.getD s2.1.1.toNat 0)) (k ((),())) (bj (S:=bsd) (fun s3=>(fun next3=>((inK .i64 s3.1.1)->(cnd (decide (s3.1.1<(c.2.1.length:Int))) ((0<=s2.1.1)/\((s2.1.1<(c.2.2.1.length:Int))/\((0<=s3.1.1)/\((s3.1.1<(c.2.1.length:Int))/\(((((c.2.2.1.getD s2.1.1.toNat 0)==(c.2.1.getD s3.1.1.toNat 0))=true)->((s1.1.1<(c.2.2.2.2.length:Int))/\(0<=s1.1.1)))/\(((((c.2.2.1.getD s2.1.1.toNat 0)==(c.2.1.getD s3.1.1.toNat 0))=true)->((s2.1.1<(List.length (c.2.2.2.2.getD s1.1.1.toNat []):Int))/\(0<=s2.1.1)))/\(((((c.2.2.1.getD s2.1.1.toNat 0)==(c.2.1.getD s3.1.1.toNat 0))=true)->(((List.getD (c.2.2.2.2.getD s1.1.1.toNat []) s2.1.1.toNat 0)<(c.2.2.2.2.length:Int))/\(0<=(List.getD (c.2.2.2.2.getD s1.1.1.toNat []) s2.1.1.toNat 0))))/\(((((c.2.2.1.getD s2.1.1.toNat 0)==(c.2.1.getD s3.1.1.toNat 0))=true)->((s3.1.1<(((List.length (c.2.2.2.2.getD (Int.toNat (List.getD (c.2.2.2.2.getD s1.1.1.toNat []) s2.1.1.toNat 0)) [])):Nat):Int))/\(0<=s3.1.1)))/\(((((c.2.2.1.getD s2.1.1.toNat 0)==(c.2.1.getD s3.1.1.toNat 0))=true)->((s1.1.1<(c.2.2.2.2.length:Int))/\(0<=s1.1.1)))/\(((((c.2.2.1.getD s2.1.1.toNat 0)==(c.2.1.getD s3.1.1.toNat 0))=true)->((s2.1.1<(c.2.2.2.2.length:Int))/\(0<=s2.1.1)))/\(((((c.2.2.1.getD s2.1.1.toNat 0)==(c.2.1.getD s3.1.1.toNat 0))=true)->((s3.1.1<(List.length (c.2.2.2.2.getD s2.1.1.toNat []):Int))/\(0<=s3.1.1)))/\(((((c.2.2.1.getD s2.1.1.toNat 0)==(c.2.1.getD s3.1.1.toNat 0))=true)->(((List.getD (c.2.2.2.2.getD s2.1.1.toNat []) s3.1.1.toNat 0)<(List.length (c.2.2.2.2.getD s1.1.1.toNat []):Int))/\(0<=(List.getD (c.2.2.2.2.getD s2.1.1.toNat []) s3.1.1.toNat 0))))/\(cnd (((c.2.2.1.getD s2.1.1.toNat 0)==(c.2.1.getD s3.1.1.toNat 0))&&((List.getD (c.2.2.2.2.getD (Int.toNat (List.getD (c.2.2.2.2.getD s1.1.1.toNat []) s2.1.1.toNat 0)) []) s3.1.1.toNat 0) != (List.getD (c.2.2.2.2.getD s1.1.1.toNat []) (Int.toNat (List.getD (c.2.2.2.2.getD s2.1.1.toNat []) s3.1.1.toNat 0)) 0))) (K (2,(s1.1.1,(s2.1.1,(s3.1.1,()))))) ((inK .i64 (s3.1.1+1))/\(next3 (((s3.1.1+1),()),())))))))))))))))) (k ((),())))))) ((0,()),()))))))))) ((inK .i64 (s1.1.1+1))/\(next1 (((s1.1.1+1),()),()))))))) ((0,()),())) (K (0,(0,(0,(0,()))))))))) ((0,()),())))))) ((0,()),()))
theorem at6(c:be)(hok:ae (okL ld.args (c,())))(hpre:ae (ld.pre (c,()))):ab6 c (fun r=>r=ld.res (c,())):=by
 simp only[ld,okL,T.oks,T.ok,ap,ae,a0e,a0c,a0h]at hok hpre
 try dsimp only[T.den]at hok hpre
 unfold ab6;have S:ShapeP c:=hpre;have hlt:=S.lt;have hli:=S.li;have hlc:=S.lc;have hmm:=S.m;have resq:∀a b d e,ou c=(a,b,d,e)->(a,b,d,e,())=ld.res (c,()):=fun a b d e h=>by simp only[ld,h]
 have hcr:∀f g:Int,(c.2.2.2.2.getD f.toNat []).getD g.toNat 0=gn c f g:=fun _ _=>rfl;simp only[hcr];refine m8 (n:=c.2.1.length) (fun f=>l7 (u5 c) c.2.1.length 0=l7 (u5 c) ((c.2.1.length:Int)-f).toNat f) (by omega) aeq ?_ ?_
 ·intro f next h0 h1 hP hn hin
  try dsimp only
  obtain⟨a1,a2,a3,a4⟩:=S.frm h0 h1;obtain⟨b1,b2,_,_⟩:=S.idn a1 a2;obtain⟨d1,d2,_,_⟩:=S.idn a3 a4;have r1:=S.row _ b1 b2;have r2:=S.row f h0 h1;refine au (fun _=>⟨h0,h1,by omega,by omega,by omega,by omega,h0,by omega,fun _=>by omega,fun _=>by omega,fun _=>by omega,fun _=>by omega,bd (fun hx=>resq _ _ _ _ ?_) (fun hx=>⟨by rw[ao];(try dsimp only);omega,hn ?_⟩)⟩) (fun h=>absurd h1 h)
  ·have:u5 c f=some (1,f,0,0):=by unfold u5;rw[d0];simpa using hx
   unfold ou;rw[hP,aer h1 this];rfl
  ·have:u5 c f=none:=by unfold u5;rw[ds];simpa using hx
   rw[hP,ael h1 this]
 intro next hI hin
 rw[aed]at hI;refine au (fun h=>absurd h (by dsimp only;omega)) (fun _=>?_);have hF:ou c=orR (l7 (y4 c) c.2.1.length 0) (0,0,0,0):=by unfold ou;rw[hI];rfl
 refine m8 (n:=c.2.1.length) (fun f=>l7 (y4 c) c.2.1.length 0=l7 (y4 c) ((c.2.1.length:Int)-f).toNat f) (by omega) aeq ?_ ?_
 ·intro f next h0 h1 hP hn hin
  try dsimp only
  refine au (fun _=>?_) (fun h=>absurd h1 h);have r1:=S.row f h0 h1;refine m8 (n:=c.2.1.length) (fun g=>y4 c f=l7 (vl c f) ((c.2.1.length:Int)-g).toNat g) (by omega) aeq ?_ ?_
  ·intro g next3 g0 g1 hP3 hn3 hin3
   try dsimp only
   refine au (fun _=>?_) (fun h=>absurd g1 h);have r2:=S.row g g0 g1;refine il (fun _=>vl c f g=none) (fun _ hG=>⟨by rw[ao];(try dsimp only);omega,hn3 (by rw[hP3,ael g1 hG])⟩) (fun k hk=>?_);have hk':=hk ((),());refine⟨by omega,by omega,by omega,by omega,bd (fun hx=>hk' ?_) (fun hx=>?_)⟩
   ·unfold vl;rw[ds];simpa using hx
   have hfg:c.2.2.1.getD f.toNat 0=c.2.1.getD g.toNat 0:=by rw[a1f]at hx;exact hx
   obtain⟨y1,y2,_,_⟩:=S.yes h0 h1 g0 g1 hfg;refine m8 (n:=c.2.1.length) (fun h=>vl c f g=l7 (x9 c f g) ((c.2.1.length:Int)-h).toNat h) (by omega) (by unfold vl;rw[d0 hfg];exact aeq) ?_ ?_
   ·intro h next4 i0 i1 hP4 hn4 hin4
    try dsimp only
    refine au (fun _=>?_) (fun h=>absurd i1 h);have r3:=S.row _ y1 y2;have cgh:=S.comp g0 g1 i0 i1;have ygh:=@ShapeP.yes c S g h g0 g1 i0 i1;refine⟨by omega,by omega,by omega,by omega,fun _=>by omega,fun _=>by omega,fun _=>by omega,fun _=>by omega,fun _=>by omega,fun _=>by omega,fun _=>by omega,fun he=>?_,bd (fun hx=>resq _ _ _ _ ?_) (fun hx=>⟨by rw[ao];(try dsimp only);omega,hn4 ?_⟩)⟩
    ·have:=ygh (by simpa only [a0t]using he);omega
    ·have:x9 c f g h=some (2,f,g,h):=by unfold x9;rw[d0];simpa using hx
     have e1:vl c f g=some (2,f,g,h):=by rw[hP4,aer i1 this]
     have e2:y4 c f=some (2,f,g,h):=by rw[hP3,aer g1 e1]
     rw[hF,hP,aer h1 e2];rfl
    ·have:x9 c f g h=none:=by unfold x9;rw[ds];simpa using hx
     rw[hP4,ael i1 this]
   ·intro next4 hP4 hin4;rw[aed]at hP4;exact au (fun h=>absurd h (by dsimp only;omega)) (fun _=>hk' hP4)
  ·intro next3 hP3 hin3;rw[aed]at hP3;exact au (fun h=>absurd h (by dsimp only;omega)) (fun _=>⟨by rw[ao];(try dsimp only);omega,hn (by rw[hP,ael h1 hP3])⟩)
 ·intro next2 hP2 hin2;rw[aed]at hP2;refine au (fun h=>absurd h (by dsimp only;omega)) (fun _=>resq _ _ _ _ ?_);rw[hF,hP2];rfl
theorem aq4:b8 Tryz.prog 90 ld:=cg (Φ:=lkp []) aq bi (by kernel_rfl) (fn:=Tryz.f90) (c:=bf Tryz.f90) (by kernel_rfl) (by kernel_rfl) (by kernel_rfl) ld rfl aqz (cp [(17,44),(5,38),(13,11)]) (by kernel_rfl) (by kernel_rfl) (by kernel_rfl) (by decide) (fun x K=>ab6 x.1 K) (fun _ _=>by kernel_rfl) (fun x h1 h2=>at6 x.1 h1 h2)
def qm:Ct:=⟨[aj],[true],fun x=>[],[(false,(.fz .bool))],fun x=>(ya x.1,()),false,none⟩
def ayh:FuncId->Option Ct:=lkp [(89,km),(90,ld)]
def aho(c:be)(K:Bool×Unit->Prop):Prop:=(cnd (!(aab c)) (K (false,())) ((ShapeP c)/\(K (((ou c).1==0),()))))
theorem bbj(c:be)(hok:ae (okL qm.args (c,())))(hpre:ae (qm.pre (c,()))):aho c (fun r=>r=qm.res (c,())):=by
 simp only[qm,okL,T.oks,T.ok,ap,ae,a0e,a0c,a0h]at hok hpre
 try dsimp only[T.den]at hok hpre
 unfold aho;simp only[qm,ya];have:=@aet c
 grind[cnd,ck,ao]
theorem ayl:b8 Tryz.prog 71 qm:=cg (Φ:=ayh) (ai aur (ai aq4 aq)) bi (by kernel_rfl) (fn:=Tryz.f71) (c:=bf Tryz.f71) (by kernel_rfl) (by kernel_rfl) (by kernel_rfl) qm rfl .n (cp []) (by kernel_rfl) (by kernel_rfl) (by kernel_rfl) (by decide) (fun x K=>aho x.1 K) (fun _ _=>by kernel_rfl) (fun x h1 h2=>bbj x.1 h1 h2)
def lm:Ct:=⟨[(.sl (.int .i64)),(.int .i64)],[false,false],fun x=>[],[(false,(.fz (.int .i64)))],fun x=>(g6 x.1 x.2.1,()),false,none⟩
def arh:Ann:=(.s .n (.s (.s .n (.l [(5,(.d (.int .i64)))] [] [0,1] .n)) .n))
def ab0(list:List Int)(n:Int)(K:Int×Unit->Prop):Prop:=(bj (S:=bsd) (fun s=>(fun next=>((inK .i64 s.1.1)->(cnd (decide (s.1.1<(list.length:Int))) ((0<=s.1.1)/\((s.1.1<(list.length:Int))/\(cnd ((list.getD s.1.1.toNat 0)==n) (K (s.1.1,())) ((inK .i64 (s.1.1+1))/\(next (((s.1.1+1),()),())))))) (K ((-1),())))))) ((0,()),()))
theorem asm(list:List Int)(n:Int)(hok:ae (okL lm.args (list,n,())))(hpre:ae (lm.pre (list,n,()))):ab0 list n (fun r=>r=lm.res (list,n,())):=by
 simp only[lm,okL,T.oks,T.ok,ap,ae,a0e,a0c,a0h]at hok hpre
 try dsimp only[T.den]at hok hpre
 unfold ab0;have hl:list.length<=140737488355328:=by simp only[ck]at hok;omega
 clear hok;refine m8 (n:=list.length) (fun i=>∀k:Int,0<=k->k<i->list.getD k.toNat 0≠n) (by omega) (by intro k h0 h1;omega) ?_ ?_
 ·intro i next i0 i1 hP hn _
  try dsimp only
  refine au (fun _=>⟨i0,i1,bd (fun hx=>?_) (fun hx=>⟨by rw[ao];(try dsimp only);omega,hn fun k k0 k1=>?_⟩)⟩) (fun h=>absurd i1 h)
  ·have:g6 list n=i:=ato (z:=(0:Int)) i0 i1 (by simpa using hx) hP;simp only[lm,this]
  ·by_cases hk:k=i
   ·subst hk;simpa using hx
   ·exact hP k k0 (by omega)
 ·intro next hP _
  refine au (fun h=>absurd h (a26 _)) (fun _=>?_);have:g6 list n=-1:=bo5 (z:=(0:Int)) hP;simp only[lm,this]
theorem asf:b8 Tryz.prog 127 lm:=cg (Φ:=lkp []) aq bi (by kernel_rfl) (fn:=Tryz.f127) (c:=bf Tryz.f127) (by kernel_rfl) (by kernel_rfl) (by kernel_rfl) lm rfl arh (cp []) (by kernel_rfl) (by kernel_rfl) (by kernel_rfl) (by decide) (fun x K=>ab0 x.1 x.2.1 K) (fun _ _=>by kernel_rfl) (fun x h1 h2=>asm x.1 x.2.1 h1 h2)
def kt:Ct:=⟨[(.sl (.int .i64))],[false],fun x=>[x.1.length<=1099511627776],[(false,(.sl (.fz (.int .i64))))],fun x=>(cr x.1,()),false,none⟩
def am8:Ann:=(.s .n (.s .n (.s (.s .n (.l [(3,(.ref 800003 [])),(4,(.ref 800004 [])),(5,(.d (.int .i64)))] [(800003,(.sl (.fz (.int .i64)))),(800004,(.sl (.fz (.int .i64))))] [0] (.s .n (.s (.s .n (.s (.s .n (.j [(3,(.ref 800003 [])),(4,(.ref 800004 [])),(6,(.d (.int .i64)))] [(800003,(.sl (.fz (.int .i64)))),(800004,(.sl (.fz (.int .i64))))] [0,5] .n)) .n)) .n)))) .n)))
def zw(labels:List Int)(K:(List Int)×Unit->Prop):Prop:=(bj (S:=bsk) (fun s=>(fun next=>((inK .i64 s.1.2.2.1)->((T.ok (.sl (.int .i64)) s.2.1)->((T.ok (.sl (.int .i64)) s.2.2.1)->(cnd (decide (s.1.2.2.1<(labels.length:Int))) ((0<=s.1.2.2.1)/\((s.1.2.2.1<(labels.length:Int))/\(ji (S:=bsk) (fun s1=>((inK .i64 s1.1.2.2.1)->((T.ok (.sl (.int .i64)) s1.2.1)->((T.ok (.sl (.int .i64)) s1.2.2.1)->((eg s1.2.1.length (List.length (s1.1.2.2.1::[])) 8)/\((inK .i64 (s.1.2.2.1+1))/\(next (((),((),((s.1.2.2.1+1),()))),((s1.2.1++(s1.1.2.2.1::[])),(s1.2.2.1,())))))))))) (fun k=>(cnd (decide ((g6 s.2.2.1 (labels.getD s.1.2.2.1.toNat 0))<0)) ((0<=s.1.2.2.1)/\((s.1.2.2.1<(labels.length:Int))/\((eg s.2.2.1.length (List.length ((labels.getD s.1.2.2.1.toNat 0)::[])) 8)/\(k (((),((),((s.2.2.1.length:Int),()))),(s.2.1,((s.2.2.1++((labels.getD s.1.2.2.1.toNat 0)::[])),()))))))) (k (((),((),((g6 s.2.2.1 (labels.getD s.1.2.2.1.toNat 0)),()))),(s.2.1,(s.2.2.1,()))))))))) (K (s.2.1,())))))))) (((),((),(0,()))),([],([],()))))
theorem ap4(labels:List Int)(hok:ae (okL kt.args (labels,())))(hpre:ae (kt.pre (labels,()))):zw labels (fun r=>r=kt.res (labels,())):=by
 simp only[kt,okL,T.oks,T.ok,ap,ae,a0e,a0c,a0h]at hok hpre
 try dsimp only[T.den]at hok hpre
 unfold zw;have hl:labels.length<=1099511627776:=hpre;clear hok;refine bw (fun (s:bsk)=>0<=s.1.2.2.1/\s.1.2.2.1<=labels.length/\s.2.2.1=ia (labels.take s.1.2.2.1.toNat)/\s.2.1=(labels.take s.1.2.2.1.toNat).map (g6 (ia labels))) (fun (s:bsk)=>(labels.length-s.1.2.2.1).toNat) ?_ ⟨by simp,by simp,rfl,rfl⟩;rintro⟨⟨_,_,i,_⟩,out,seen,_⟩ next ⟨i0,i1,hM,ho⟩ hn _ _ _
 try dsimp only at i0 i1 hM ho hn⊢
 refine au (fun hc=>?_) (fun hc=>?_)
 ·have hs:=@ayu labels i i0 hc;have hex:=@aj8 labels (i+1).toNat (labels.getD i.toNat 0);have hml:seen.length<=labels.length:=by rw[hM];have:=apt (labels.take i.toNat) [];rw[a1c]at this;simp only[a0p]at this;unfold ia;omega
  have hol:out.length<=labels.length:=by rw[ho,a0y,a1c];omega
  have hout:(labels.take (i+1).toNat).map (g6 (ia labels))=out++[g6 (ia labels) (labels.getD i.toNat 0)]:=by rw[jz labels 0 i0 hc,a2y,←ho];rfl
  rw[hs,←hM]at hex;rw[←hM]at hs;generalize labels.getD i.toNat 0=k at *;refine⟨i0,hc,?_⟩;refine il (fun (s:bsk)=>s.2.2.1=lx seen k/\s.1.2.2.1=g6 (ia labels) k/\s.2.1=out) (fun s ⟨s1,s2,s3⟩ _ _ _=>?_) (fun kk hk=>?_)
  ·rw[s3,s2];refine⟨da (by simp only[a0l,a0p];omega),by rw[ao];(try dsimp only);omega,hn _ ⟨by dsimp only;omega,by dsimp only;omega,by dsimp only;rw[hs];exact s1,by dsimp only;rw[hout]⟩ (by dsimp only;omega)⟩
  refine au (fun hx=>?_) (fun hx=>?_)
  ·have hd:lx seen k=seen++[k]:=by unfold lx;rw[d0 hx]
   have hi:=awx hx;rw[hd]at hex hk;rw[hi]at hex;exact⟨i0,hc,da (by simp only[a0l,a0p];omega),hk _ ⟨rfl,(hex (by omega)).symm,rfl⟩⟩
  ·have hd:lx seen k=seen:=by unfold lx;rw[ds hx]
   rw[hd]at hex hk;exact hk _ ⟨rfl,(hex (by omega)).symm,rfl⟩
 ·have e:i=labels.length:=by omega
  subst e;simp only[kt,cr];rw[ho,ng _ (a0r _)]
theorem anw:b8 Tryz.prog 108 kt:=cg (Φ:=lkp [(127,lm)]) (ai asf aq) bi (by kernel_rfl) (fn:=Tryz.f108) (c:=bf Tryz.f108) (by kernel_rfl) (by kernel_rfl) (by kernel_rfl) kt rfl am8 (cp []) (by kernel_rfl) (by kernel_rfl) (by kernel_rfl) (by decide) (fun x K=>zw x.1 K) (fun _ _=>by kernel_rfl) (fun x h1 h2=>ap4 x.1 h1 h2)
structure PrsP (n:Int) (l:List (List Int)):Prop where
 len:l.length<=1099511627776
 e:∀k:Int,0<=k->k<l.length->2<=(l.getD k.toNat []).length/\(0<=(l.getD k.toNat []).getD 0 0/\(l.getD k.toNat []).getD 0 0<n)/\(0<=(l.getD k.toNat []).getD 1 0/\(l.getD k.toNat []).getD 1 0<n)
def am7(l:List Int)(a b:Int):List Int:=dx l.length fun z=>if l.getD z.toNat 0=b then a else l.getD z.toNat 0
def af3(l:List Int)(p:List Int):List Int:=am7 l (l.getD (p.getD 0 0).toNat 0) (l.getD (p.getD 1 0).toNat 0)
def ly(n:Int)(pairs:List (List Int)):List Int:=pairs.foldl af3 (fx n)
theorem bhs{l:List Int}:(dx l.length fun z=>l.getD z.toNat 0)=l:=by
 apply a15;intro k;by_cases hk:k<l.length
 ·have h1:=@pc Int (fun z=>l.getD z.toNat 0) 0 k l.length (by omega) (by omega);rw[a0m,a0n,a0o (by rw[bp];exact hk)]at h1;rw[a0o (by rw[bp];exact hk),a0o hk];simp only[a01]at h1;rw[h1,a0n,a0o hk];rfl
 ·rw[a1q (by rw[bp];omega),a1q (by omega)]
theorem bqh{l:List Int}{a:Int}:am7 l a a=l:=by
 unfold am7
 conv=>rhs;rw[←@bhs l]
 refine di fun z _ _=>?_;split
 ·rename_i h;exact h.symm
 ·rfl
theorem bdl{l:List Int}{a b:Int}:(am7 l a b).length=l.length:=by unfold am7;rw[bp]
theorem aox{n:Int}:∀(p:List (List Int)) (l:List Int),l.length=n.toNat->(p.foldl af3 l).length=n.toNat
 |[],l,h=>h
 |e::r,l,h=>by rw[a12];exact aox r _ (by unfold af3;rw[bdl];exact h)
theorem brb{n:Int}{p:List (List Int)}{i:Int}(i0:0<=i)(i1:i<p.length):ly n (p.take (i+1).toNat)=af3 (ly n (p.take i.toNat)) (p.getD i.toNat []):=by unfold ly;rw[jz p [] i0 i1,a3g];rfl
def n9:Ct:=⟨[(.int .i64),(.sl (.sl (.int .i64)))],[false,false],fun x=>[0<=x.1,x.1<=1099511627776,PrsP x.1 x.2.1],[(false,(.sl (.fz (.int .i64))))],fun x=>(cr (ly x.1 x.2.1),()),false,none⟩
def at5:Ann:=(.s .n (.s .n (.s (.s .n (.l [(5,(.ref 800005 [])),(6,(.d (.int .i64)))] [(800005,(.sl (.fz (.int .i64))))] [0,1] .n)) (.s (.s .n (.l [(5,(.ref 800005 [])),(7,(.d (.int .i64)))] [(800005,(.sl (.fz (.int .i64))))] [1] (.s .n (.s (.s .n (.s .n (.l [(5,(.ref 800005 [])),(10,(.d (.int .i64)))] [(800005,(.sl (.fz (.int .i64))))] [1,7,8,9] (.s .n (.s (.s .n (.j [(5,(.ref 800005 []))] [(800005,(.sl (.fz (.int .i64))))] [1,7,8,9,10] .n)) .n))))) .n)))) .n))))
def adm(n:Int)(pairs:List (List Int))(K:(List Int)×Unit->Prop):Prop:=(bj (S:=(bsa×bsc)) (fun s=>(fun next=>((inK .i64 s.1.2.1)->((T.ok (.sl (.int .i64)) s.2.1)->(cnd (decide (s.1.2.1<n)) ((eg s.2.1.length (List.length (s.1.2.1::[])) 8)/\((inK .i64 (s.1.2.1+1))/\(next (((),((s.1.2.1+1),())),((s.2.1++(s.1.2.1::[])),()))))) (bj (S:=(bsa×bsc)) (fun s1=>(fun next1=>((inK .i64 s1.1.2.1)->((T.ok (.sl (.int .i64)) s1.2.1)->(cnd (decide (s1.1.2.1<(pairs.length:Int))) ((0<=s1.1.2.1)/\((s1.1.2.1<(pairs.length:Int))/\(((0:Int)<=0)/\((0<(List.length (pairs.getD s1.1.2.1.toNat []):Int))/\((0<=(List.getD (pairs.getD s1.1.2.1.toNat []) (Int.toNat 0) 0))/\(((List.getD (pairs.getD s1.1.2.1.toNat []) (Int.toNat 0) 0)<(s1.2.1.length:Int))/\((0<=s1.1.2.1)/\((s1.1.2.1<(pairs.length:Int))/\(((0:Int)<=1)/\((1<(List.length (pairs.getD s1.1.2.1.toNat []):Int))/\((0<=(List.getD (pairs.getD s1.1.2.1.toNat []) (Int.toNat 1) 0))/\(((List.getD (pairs.getD s1.1.2.1.toNat []) (Int.toNat 1) 0)<(s1.2.1.length:Int))/\(bj (S:=(bsa×bsc)) (fun s2=>(fun next2=>((inK .i64 s2.1.2.1)->((T.ok (.sl (.int .i64)) s2.2.1)->(cnd ((decide (s2.1.2.1<(s2.2.1.length:Int)))&&((s1.2.1.getD (Int.toNat (List.getD (pairs.getD s1.1.2.1.toNat []) (Int.toNat 0) 0)) 0) != (s1.2.1.getD (Int.toNat (List.getD (pairs.getD s1.1.2.1.toNat []) (Int.toNat 1) 0)) 0))) ((0<=s2.1.2.1)/\((s2.1.2.1<(s2.2.1.length:Int))/\(ji (S:=((Unit×Unit)×bsc)) (fun s3=>((T.ok (.sl (.int .i64)) s3.2.1)->((inK .i64 (s2.1.2.1+1))/\(next2 (((),((s2.1.2.1+1),())),(s3.2.1,())))))) (fun k=>(cnd ((s2.2.1.getD s2.1.2.1.toNat 0)==(s1.2.1.getD (Int.toNat (List.getD (pairs.getD s1.1.2.1.toNat []) (Int.toNat 1) 0)) 0)) ((0<=s2.1.2.1)/\((s2.1.2.1<(s2.2.1.length:Int))/\(k (((),()),((List.set s2.2.1 s2.1.2.1.toNat (s1.2.1.getD (Int.toNat (List.getD (pairs.getD s1.1.2.1.toNat []) (Int.toNat 0) 0)) 0)),()))))) (k (((),()),(s2.2.1,())))))))) ((inK .i64 (s1.1.2.1+1))/\(next1 (((),((s1.1.2.1+1),())),(s2.2.1,()))))))))) (((),(0,())),(s1.2.1,()))))))))))))))) ((s1.2.1.length<=1099511627776)/\(K ((cr s1.2.1),())))))))) (((),(0,())),(s.2.1,())))))))) (((),(0,())),([],())))
theorem av1(n:Int)(pairs:List (List Int))(hok:ae (okL n9.args (n,pairs,())))(hpre:ae (n9.pre (n,pairs,()))):adm n pairs (fun r=>r=n9.res (n,pairs,())):=by
 simp only[n9,okL,T.oks,T.ok,ap,ae,a0e,a0c,a0h]at hok hpre
 try dsimp only[T.den]at hok hpre
 unfold adm;obtain⟨n0,n1,hp⟩:=hpre;have hpn:=hp.len;have hpe:=hp.e;clear hok;refine ac6 (fun i=>dx i.toNat fun k=>k) (n:=n) n0 rfl ?_ ?_
 ·intro i next i0 i1 hn _ _
  try dsimp only at hn⊢
  rw[vr i0]at hn;exact au (fun _=>⟨da (by rw[bp];simp only[a0l,a0p];omega),by rw[ao];(try dsimp only);omega,hn⟩) (fun h=>absurd i1 h)
 ·intro next _ _
  refine au (fun h=>absurd h (a26 _)) (fun _=>?_);refine ac6 (fun i=>ly n (pairs.take i.toNat)) (n:=pairs.length) (by omega) rfl ?_ ?_
  ·intro i next i0 i1 hn _ _
   try dsimp only at hn⊢
   obtain⟨e0,⟨e1,e2⟩,e3,e4⟩:=hpe i i0 i1;have hl:(ly n (pairs.take i.toNat)).length=n.toNat:=aox _ _ (by unfold fx;rw[bp]);rw[brb i0 i1]at hn;unfold af3 at hn;generalize ly n (pairs.take i.toNat)=l at *;have hz:(0:Int).toNat=0:=rfl;have hz1:(1:Int).toNat=1:=rfl;simp only[hz,hz1];refine au (fun _=>⟨i0,i1,by decide,by omega,e1,by omega,i0,i1,by decide,by omega,e3,by omega,?_⟩) (fun h=>absurd i1 h);generalize l.getD ((pairs.getD i.toNat []).getD 0 0).toNat 0=a at *;generalize l.getD ((pairs.getD i.toNat []).getD 1 0).toNat 0=b at *;by_cases hab:a=b
   ·subst hab;rw[bqh]at hn;refine bw (fun (s:(bsa×bsc))=>s.2.1=l) (fun _=>0) ?_ rfl;rintro⟨⟨_,j,_⟩,l2,_⟩ next2 hl2 _ _ _
    try dsimp only at hl2⊢
    subst hl2;refine bd (fun h=>?_) (fun _=>⟨by rw[ao];(try dsimp only);omega,hn⟩);simp at h
   ·refine ac6 (fun j=>dx l.length fun z=>if z<j then (if l.getD z.toNat 0=b then a else l.getD z.toNat 0)else l.getD z.toNat 0) (n:=l.length) (by omega) ?_ ?_ ?_
    ·conv=>lhs;rw[←@bhs l]
     exact di fun z z0 _=>(ds (by omega)).symm
    ·intro j next2 j0 j1 hn2 _ _
     try dsimp only at hn2⊢
     have hg:(dx l.length fun z=>if z<j then (if l.getD z.toNat 0=b then a else l.getD z.toNat 0)else l.getD z.toNat 0).getD j.toNat 0=l.getD j.toNat 0:=by rw[pc j0 j1,ds (by omega)]
     refine bd (fun _=>⟨j0,by rw[bp];exact j1,?_⟩) (fun h=>?_)
     ·refine blx (dx l.length fun z=>if z<j+1 then (if l.getD z.toNat 0=b then a else l.getD z.toNat 0)else l.getD z.toNat 0) (fun s hs _=>⟨by rw[ao];(try dsimp only);omega,by rw[hs];exact hn2⟩) (fun k hk=>?_);rw[hg];refine bd (fun hx=>⟨j0,by rw[bp];exact j1,hk _ ?_⟩) (fun hx=>hk _ ?_)
      ·rw[y7 j0 j1];refine di fun z z0 z1=>?_;by_cases h:z=j
       ·subst h;rw[d0 rfl,d0 (show z<z+1 by omega),d0 (by simpa using hx)]
       ·rw[ds h];by_cases h2:z<j
        ·rw[d0 h2,d0 (show z<j+1 by omega)]
        ·rw[ds h2,ds (show ¬z<j+1 by omega)]
      ·refine di fun z z0 z1=>?_;by_cases h:z=j
       ·subst h;rw[ds (show ¬z<z by omega),d0 (show z<z+1 by omega),ds (by simpa using hx)]
       ·by_cases h2:z<j
        ·rw[d0 h2,d0 (show z<j+1 by omega)]
        ·rw[ds h2,ds (show ¬z<j+1 by omega)]
     ·rw[bp]at h;simp[hab,j1]at h
    ·intro next2 _ _
     try dsimp only
     refine bd (fun h=>?_) (fun _=>⟨by rw[ao];(try dsimp only);omega,?_⟩)
     ·rw[bp]at h;simp at h
     ·have:am7 l a b=dx l.length fun z=>if z<(l.length:Int)then (if l.getD z.toNat 0=b then a else l.getD z.toNat 0)else l.getD z.toNat 0:=di fun z _ z1=>by rw[d0 z1]
      rw[this]at hn;exact hn
  ·intro next _ _
   refine au (fun h=>absurd h (a26 _)) (fun _=>?_);rw[ng _ (a0r _)];have hl:(ly n pairs).length=n.toNat:=aox _ _ (by unfold fx;rw[bp]);refine⟨by rw[hl];omega,?_⟩;simp only[n9]
theorem auv:b8 Tryz.prog 88 n9:=cg (Φ:=lkp [(108,kt)]) (ai anw aq) bi (by kernel_rfl) (fn:=Tryz.f88) (c:=bf Tryz.f88) (by kernel_rfl) (by kernel_rfl) (by kernel_rfl) n9 rfl at5 (cp [(9,19)]) (by kernel_rfl) (by kernel_rfl) (by kernel_rfl) (by decide) (fun x K=>adm x.1 x.2.1 K) (fun _ _=>by kernel_rfl) (fun x h1 h2=>av1 x.1 x.2.1 h1 h2)
end Go.Bm
