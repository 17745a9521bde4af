/- What the functions that FnLimitsTerminal reaches give: for each its contract, what it asks, and the proof. No condition. -/
import Derived.Test.YtimfdllgcnabjaaGreatFnLimitsTerminalFnsC
set_option linter.unusedVariables false
set_option linter.unusedSimpArgs false
namespace Go.Bm
open Go.Proofs
set_option maxRecDepth 100000
set_option maxHeartbeats 1000000
noncomputable section
theorem avo{l e:List Int}{n:Nat}{p i:Int}(h0:0<=i)(h:i<l.length):(qg l e n p).getD i.toNat 0=l.getD i.toNat 0:=wq h0 h
theorem at3{l e:List Int}{n:Nat}{p i:Int}(h:(l.length:Int)<=i)(h1:i<l.length+n):(qg l e n p).getD i.toNat 0=e.getD (i-l.length).toNat 0+p:=by unfold qg;rw[aby h,d6 (by omega) (by omega)]
theorem bt4{c d:aa}(C:TyP c)(D:TyP d):TyP (p9 c d):=by
 have hob:=C.ob;have dob:=D.ob;have hlt:=C.lt;have dlt:=D.lt;have hli:=C.li;have dli:=D.li;have hlc:=C.lc;have hm:(p9 c d).2.1.length=c.2.1.length+d.2.1.length:=rz;have frl:∀f:Int,0<=f->f<c.2.1.length->(p9 c d).2.1.getD f.toNat 0=c.2.1.getD f.toNat 0:=fun f h0 h1=>avo h0 h1;have tol:∀f:Int,0<=f->f<c.2.1.length->(p9 c d).2.2.1.getD f.toNat 0=c.2.2.1.getD f.toNat 0:=fun f h0 h1=>avo h0 (by omega);have frr:∀f:Int,(c.2.1.length:Int)<=f->f<c.2.1.length+d.2.1.length->(p9 c d).2.1.getD f.toNat 0=d.2.1.getD (f-c.2.1.length).toNat 0+c.1:=fun f h0 h1=>at3 h0 h1;have tor:∀f:Int,(c.2.1.length:Int)<=f->f<c.2.1.length+d.2.1.length->(p9 c d).2.2.1.getD f.toNat 0=d.2.2.1.getD (f-c.2.1.length).toNat 0+c.1:=fun f h0 h1=>by have:=at3 (l:=c.2.2.1) (e:=d.2.2.1) (n:=d.2.1.length) (p:=c.1) (i:=f) (by omega) (by omega);rw[hlt]at this;exact this
 have rwl:∀f:Int,0<=f->f<c.2.1.length->(p9 c d).2.2.2.2.getD f.toNat []=c.2.2.2.2.getD f.toNat []++List.replicate d.2.1.length (-1):=fun f h0 h1=>by show (abk c d.2.1.length c.2.1.length 0++bh d.2.1.length (apd c d)).getD f.toNat []=_;rw[wq h0 (by rw[ya];exact h1),ayo h0 h1,a0a h1,a0y]
 have rwr:∀f:Int,(c.2.1.length:Int)<=f->f<c.2.1.length+d.2.1.length->(p9 c d).2.2.2.2.getD f.toNat []=apd c d (f-c.2.1.length):=fun f h0 h1=>by show (abk c d.2.1.length c.2.1.length 0++bh d.2.1.length (apd c d)).getD f.toNat []=_;rw[aby (by rw[ya];exact h0),ya,d6 (by omega) (by omega)]
 have cll:∀f g:Int,0<=f->f<c.2.1.length->0<=g->g<c.2.1.length->bi (p9 c d) f g=bi c f g:=fun f g f0 f1 g0 g1=>by unfold bi;rw[rwl f f0 f1,wq g0 (by rw[C.row f f0 f1];exact g1)]
 have clr:∀f g:Int,0<=f->f<c.2.1.length->(c.2.1.length:Int)<=g->g<c.2.1.length+d.2.1.length->bi (p9 c d) f g=-1:=fun f g f0 f1 g0 g1=>by unfold bi;rw[rwl f f0 f1,aby (by rw[C.row f f0 f1];exact g0),C.row f f0 f1,al1 (by omega) (by omega)]
 have crl:∀f g:Int,(c.2.1.length:Int)<=f->f<c.2.1.length+d.2.1.length->0<=g->g<c.2.1.length->bi (p9 c d) f g=-1:=fun f g f0 f1 g0 g1=>by unfold bi;rw[rwr f f0 f1];unfold apd;rw[wq g0 (by rw[a05];exact g1),al1 g0 g1]
 have crr:∀f g:Int,(c.2.1.length:Int)<=f->f<c.2.1.length+d.2.1.length->(c.2.1.length:Int)<=g->g<c.2.1.length+d.2.1.length->bi (p9 c d) f g=asy c.2.1.length (bi d (f-c.2.1.length) (g-c.2.1.length)):=fun f g f0 f1 g0 g1=>by show ((p9 c d).2.2.2.2.getD f.toNat []).getD g.toNat 0=_;rw[rwr f f0 f1];unfold apd;rw[aby (by rw[a05];exact g0),a05,d6 (by omega) (by omega)];rfl
 refine⟨?_,?_,?_,?_,fun f f0 f1=>?_,fun f f0 f1=>?_,fun f f0 f1=>?_,fun x x0 x1=>?_,fun f g f0 f1 g0 g1 e=>?_,fun f g f0 f1 g0 g1 e=>?_⟩
 ·show 0<=c.1+d.1;omega
 ·show (qg _ _ _ _).length=(qg _ _ _ _).length;rw[rz,rz];omega
 ·show ((qg _ _ _ _).length:Int)=c.1+d.1;rw[rz];omega
 ·rw[hm];show (_++_:List (List Int)).length=_;rw[a0m,ya,bj]
 ·rw[hm]at f1⊢;by_cases h:f<c.2.1.length
  ·rw[rwl f f0 h,a0m,a05,C.row f f0 h]
  ·rw[rwr f (by omega) (by omega)];unfold apd;rw[a0m,a05,bj]
 ·rw[hm]at f1;show _/\_<c.1+d.1;by_cases h:f<c.2.1.length
  ·rw[frl f f0 h];have:=C.fr f f0 h;omega
  ·rw[frr f (by omega) (by omega)];have:=D.fr (f-c.2.1.length) (by omega) (by omega);omega
 ·rw[hm]at f1;show _/\_<c.1+d.1;by_cases h:f<c.2.1.length
  ·rw[tol f f0 h];have:=C.to f f0 h;omega
  ·rw[tor f (by omega) (by omega)];have:=D.to (f-c.2.1.length) (by omega) (by omega);omega
 ·have x1:x<c.1+d.1:=x1;rw[hm];by_cases h:x<c.1
  ·have e:(p9 c d).2.2.2.1.getD x.toNat 0=c.2.2.2.1.getD x.toNat 0:=avo x0 (by omega);have:=C.idn x x0 h;rw[e,frl _ this.1 this.2.1,tol _ this.1 this.2.1];exact⟨this.1,by omega,this.2.2⟩
  ·have e:(p9 c d).2.2.2.1.getD x.toNat 0=d.2.2.2.1.getD (x-c.1).toNat 0+c.2.1.length:=by have:=at3 (l:=c.2.2.2.1) (e:=d.2.2.2.1) (n:=d.1.toNat) (p:=c.2.1.length) (i:=x) (by omega) (by omega);rw[hli]at this;exact this
   have:=D.idn (x-c.1) (by omega) (by omega);rw[e,frr _ (by omega) (by omega),tor _ (by omega) (by omega),Int.add_sub_cancel];exact⟨by omega,by omega,by omega,by omega⟩
 ·rw[hm]at f1 g1⊢;by_cases h:f<c.2.1.length
  ·by_cases k:g<c.2.1.length
   ·rw[tol f f0 h,frl g g0 k]at e;have:=C.yes f g f0 h g0 k e;rw[cll f g f0 h g0 k,frl _ this.1 this.2.1,tol _ this.1 this.2.1,frl f f0 h,tol g g0 k];exact⟨this.1,by omega,this.2.2⟩
   ·rw[tol f f0 h,frr g (by omega) (by omega)]at e;have h1:=C.to f f0 h;have h2:=D.fr (g-c.2.1.length) (by omega) (by omega);omega
  ·by_cases k:g<c.2.1.length
   ·rw[tor f (by omega) (by omega),frl g g0 k]at e;have h1:=D.to (f-c.2.1.length) (by omega) (by omega);have h2:=C.fr g g0 k;omega
   ·rw[tor f (by omega) (by omega),frr g (by omega) (by omega)]at e;have:=D.yes (f-c.2.1.length) (g-c.2.1.length) (by omega) (by omega) (by omega) (by omega) (by omega);rw[crr f g (by omega) (by omega) (by omega) (by omega)];unfold asy;rw[a0a this.1,frr _ (by omega) (by omega),tor _ (by omega) (by omega),Int.add_sub_cancel,frr f (by omega) (by omega),tor g (by omega) (by omega)];exact⟨by omega,by omega,by omega,by omega⟩
 ·rw[hm]at f1 g1;by_cases h:f<c.2.1.length
  ·by_cases k:g<c.2.1.length
   ·rw[tol f f0 h,frl g g0 k]at e;rw[cll f g f0 h g0 k];exact C.no f g f0 h g0 k e
   ·exact clr f g f0 h (by omega) (by omega)
  ·by_cases k:g<c.2.1.length
   ·exact crl f g (by omega) (by omega) g0 k
   ·rw[tor f (by omega) (by omega),frr g (by omega) (by omega)]at e;rw[crr f g (by omega) (by omega) (by omega) (by omega),D.no _ _ (by omega) (by omega) (by omega) (by omega) (fun h=>e (by omega))];rfl
structure LiB (G:Int->Int) (k:Int) (w:List Int):Prop where
 l:(w.length:Int)=k
 e:∀x∈w,0<=x/\x<=1000000000
 g:w=bh k.toNat G
theorem LiB.push{G:Int->Int}{k x:Int}{w:List Int}(h:LiB G k w)(h0:0<=x)(h1:x<=1000000000)(hx:x=G k):LiB G (k+1) (w++[x]):=⟨by rw[a0m];have:=h.l;simp only[a0h,a0i];omega,bdd h.e ⟨h0,h1⟩,by rw[kq (by have:=h.l;omega),←h.g,hx]⟩
theorem LiB.to{G:Int->Int}{k k':Int}{w:List Int}(h:LiB G k w)(e:k=k'):LiB G k' w:=e▸h
def prI(c d:aa)(k:Int):Int:=c.2.2.2.1.getD (k / d.1).toNat 0*d.2.1.length+d.2.2.2.1.getD (k%d.1).toNat 0
def prF(c d:aa)(k:Int):Int:=c.2.1.getD (k / d.2.1.length).toNat 0*d.1+d.2.1.getD (k%d.2.1.length).toNat 0
def prT(c d:aa)(k:Int):Int:=c.2.2.1.getD (k / d.2.1.length).toNat 0*d.1+d.2.2.1.getD (k%d.2.1.length).toNat 0
def prC(m u v:Int):Int:=if 0<=u/\0<=v then u*m+v else -1
def prH(c d:aa)(a b k:Int):Int:=prC d.2.1.length ((c.2.2.2.2.getD a.toNat []).getD (k / d.2.1.length).toNat 0) ((d.2.2.2.2.getD b.toNat []).getD (k%d.2.1.length).toNat 0)
def prW(c d:aa)(k:Int):List Int:=bh (c.2.1.length*d.2.1.length) (prH c d (k / d.2.1.length) (k%d.2.1.length))
def aep(c d:aa):aa:=(c.1*d.1,(bh (c.2.1.length*d.2.1.length) (prF c d),(bh (c.2.1.length*d.2.1.length) (prT c d),(bh (c.1*d.1).toNat (prI c d),bh (c.2.1.length*d.2.1.length) (prW c d)))))
def iv:Ct:=⟨[bp,bp],[true,true],fun x=>[CgR 20000 x.1,CgR 10000 x.2.1],[(true,iw)],fun _=>dfR _,false,none⟩
def vh(c d r0:aa):Prop:=CgR 1000000000 r0/\r0=aep c d
def ajs:Ann:=(.s .n (.s .n (.s .n (.s (.s .n (.l byp aon [2,3,5,6] (.s .n (.s (.s .n (.l byl aon [2,3,5,6,8] .n)) .n)))) (.s (.s .n (.l bxv aon [2,3,5,6] (.s .n (.s (.s .n (.l bxe aon [2,3,5,6,10] (.s .n (.s (.s .n (.s .n (.s .n (.s (.s .n (.l byc avw [2,3,5,6,10,11] (.s .n (.s (.s .n (.l bx7 avw [2,3,5,6,10,11,13] (.s .n (.s (.s .n (.s (.s .n (.j bxi avw [2,3,5,6,10,11,13,14] .n)) .n)) .n)))) .n)))) .n)))) .n)))) .n)))) .n)))))
def vf(c d:aa)(K:aa×Unit->Prop):Prop:=let b6:=c.2.1.length;let x:=d.2.1.length;Ik (c.1*d.1)<|bn (S:=(cex×ce1)) (fun a b=>let a8:=a.1.2.2.1;let w:=c.2.2.2.1.getD a8.toNat 0;Iq a8<|Oc a.2.1<|Oc a.2.2.1<|cnd (decide (a8<c.1)) (bn (S:=(cex×ce1)) (fun e f=>let b0:=e.2.2.1;let a9:=e.1.2.2.1;let y:=d.2.2.2.1.getD a9.toNat 0;Iq a9<|Oc e.2.1<|Oc b0<|cnd (decide (a9<d.1)) (Ix a8 c.2.2.2.1.length<|Ik (w*(x:Int))<|Ix a9 d.2.2.2.1.length<|Ik (w*(x:Int)+y)<|c9 b0.2.2.2.1.length [w*(x:Int)+y].length 8/\(Ik (a9+1)<|f (((),(),a9+1,()),e.2.1,(b0.1,b0.2.1,b0.2.2.1,b0.2.2.2.1++[w*(x:Int)+y],b0.2.2.2.2),()))) (Ik (a8+1)<|b (((),(),a8+1,()),e.2.1,b0,()))) (((),(),0,()),a.2.1,a.2.2.1,())) (bn (S:=(cex×ce1)) (fun g h=>let a0:=g.1.2.2.1;let u:=a0.toNat;let a7:=c.2.2.2.2.getD u [];let a5:=c.2.1.getD u 0;let a3:=c.2.2.1.getD u 0;Iq a0<|Oc g.2.1<|Oc g.2.2.1<|cnd (decide (a0<(b6:Int))) (bn (S:=(cex×ce1)) (fun i j=>let b1:=i.2.2.1;let t:=i.1.2.2.1;let a6:=d.2.1.getD t.toNat 0;let a4:=d.2.2.1.getD t.toNat 0;let a2:=d.2.2.2.2.getD t.toNat [];Iq t<|Oc i.2.1<|Oc b1<|cnd (decide (t<(x:Int))) (Ix a0 b6<|Ik (a5*d.1)<|Ix t x<|Ik (a5*d.1+a6)<|c9 b1.2.1.length [a5*d.1+a6].length 8/\(Ix a0 c.2.2.1.length<|Ik (a3*d.1)<|Ix t d.2.2.1.length<|Ik (a3*d.1+a4)<|c9 b1.2.2.1.length [a3*d.1+a4].length 8/\bn (S:=ce3) (fun l m=>let b4:=l.2.2.2.1;let b2:=l.2.2.1;let a1:=l.1.2.2.2.1;let r:=a7.getD a1.toNat 0;let b3:=decide (0<=r);Iq a1<|Oc l.2.1<|Oc b2<|Ol b4<|cnd (decide (a1<(b6:Int))) (bn (S:=ce3) (fun n o=>let b5:=n.2.2;let z:=n.1.2.2.2.1;let v:=a2.getD z.toNat 0;Iq z<|Oc n.2.1<|Oc b5.1<|Ol b5.2.1<|cnd (decide (z<(x:Int))) (Ix a0 c.2.2.2.2.length<|Ix a1 a7.length<|(b3=true->t<(d.2.2.2.2.length:Int)/\0<=t)/\(b3=true->z<(a2.length:Int)/\0<=z)/\dk (S:=ce3) (fun p=>Iq p.1.2.2.2.1<|Oc p.2.1<|Oc p.2.2.1<|Ol p.2.2.2.1<|c9 p.2.2.2.1.length [p.1.2.2.2.1].length 8/\(Ik (z+1)<|o (((),(),(),z+1,()),p.2.1,p.2.2.1,p.2.2.2.1++[p.1.2.2.2.1],()))) (fun q=>cnd (b3&&decide (0<=v)) (Ix a0 c.2.2.2.2.length<|Ix a1 a7.length<|Ik (r*(x:Int))<|Ix t d.2.2.2.2.length<|Ix z a2.length<|Ik (r*(x:Int)+v)<|q (((),(),(),r*(x:Int)+v,()),n.2.1,b5.1,b5.2.1,())) (q (((),(),(),-1,()),n.2.1,b5.1,b5.2.1,())))) (Ik (a1+1)<|m (((),(),(),a1+1,()),n.2.1,b5.1,b5.2.1,()))) (((),(),(),0,()),l.2.1,b2,b4,())) (c9 b2.2.2.2.2.length [b4].length 24/\(Ik (t+1)<|j (((),(),t+1,()),l.2.1,(b2.1,b2.2.1,b2.2.2.1,b2.2.2.2.1,b2.2.2.2.2++[b4]),())))) (((),(),(),0,()),i.2.1,(b1.1,b1.2.1++[a5*d.1+a6],b1.2.2.1++[a3*d.1+a4],b1.2.2.2),[],()))) (Ik (a0+1)<|h (((),(),a0+1,()),i.2.1,b1,()))) (((),(),0,()),g.2.1,g.2.2.1,())) (K (g.2.2.1,()))) (((),(),0,()),a.2.1,a.2.2.1,()))) (((),(),0,()),(0,[],[],[],[]),(c.1*d.1,[],[],[],[]),())
theorem awz(c d:aa)(hok:ab (okL iv.args (c,d,())))(hpre:ab (iv.pre (c,d,()))):vf c d (fun r=>vh c d r.1):=by
 simp only[iv,okL,T.oks,T.ok,ap,ab,a0f,a0c,a0g]at hok hpre
 try dsimp only[T.den]at hok hpre
 delta vf vh Ik Iq Ix Oc Ol Om
 dsimp -proj -eta only;obtain⟨Hc,Hd⟩:=hpre;clear hok;have c0:=Hc.ob0;have c1:=Hc.ob;have d0:=Hd.ob0;have d1:=Hd.ob;have cm:=Hc.m;have cl:=Hc.lt;have cc:=Hc.lc;have ci:=Hc.li;have dm:=Hd.m;have dl:=Hd.lt;have dc:=Hd.lc;have di:=Hd.li;have hob:=abb c0 c1 d0 d1;have hmk:=abb (x:=c.2.1.length) (y:=d.2.1.length) (by omega) cm (by omega) dm;refine⟨by rw[au];(try dsimp only);omega,?_⟩;refine bq (fun (s:(cex×ce1))=>0<=s.1.2.2.1/\s.1.2.2.1<=c.1/\s.2.2.1.1=c.1*d.1/\s.2.2.1.2.1=[]/\s.2.2.1.2.2.1=[]/\s.2.2.1.2.2.2.2=[]/\LiB (prI c d) (s.1.2.2.1*d.1) s.2.2.1.2.2.2.1) (fun (s:(cex×ce1))=>(c.1-s.1.2.2.1).toNat) ?_ ⟨by simp,c0,rfl,rfl,rfl,rfl,⟨by simp,by simp,by simp[bh]⟩⟩;rintro⟨⟨_,_,x,_⟩,o1,⟨u1,u2,u3,u4,u5⟩,_⟩ next ⟨x0,x1,q1,q2,q3,q5,hL⟩ hnx
 intros
 try dsimp only at x0 x1 q1 q2 q3 q5 hL hnx⊢
 subst q1;subst q2;subst q3;subst q5;refine bd (fun hx=>?_) (fun hx=>?_)
 ·refine bq (fun (s:(cex×ce1))=>0<=s.1.2.2.1/\s.1.2.2.1<=d.1/\s.2.2.1.1=c.1*d.1/\s.2.2.1.2.1=[]/\s.2.2.1.2.2.1=[]/\s.2.2.1.2.2.2.2=[]/\LiB (prI c d) (x*d.1+s.1.2.2.1) s.2.2.1.2.2.2.1) (fun (s:(cex×ce1))=>(d.1-s.1.2.2.1).toNat) ?_ ⟨by simp,d0,rfl,rfl,rfl,rfl,hL.to (by dsimp only;omega)⟩;rintro⟨⟨_,_,y,_⟩,o2,⟨v1,v2,v3,v4,v5⟩,_⟩ next1 ⟨y0,y1,q1,q2,q3,q5,hL2⟩ hn1;intros
  try dsimp only at y0 y1 q1 q2 q3 q5 hL2 hn1⊢
  have hxb:=abb x0 (b:=10000) (a:=20000) (by omega) d0 d1;have ll:=hL2.l;refine bd (fun hy=>?_) (fun hy=>?_)
  ·have ic:=Hc.idG x0 hx;have id:=Hd.idG y0 hy;have hp:=abb ic.1 ic.2 (y:=d.2.1.length) (by omega) dm;exact⟨x0,by omega,by rw[au];(try dsimp only);omega,y0,by omega,by rw[au];(try dsimp only);omega,ck (by simp only[a0h,a0i];omega),by rw[au];(try dsimp only);omega,hn1 _ ⟨by dsimp only;omega,by dsimp only;omega,q1,q2,q3,q5,(hL2.push (by omega) (by omega) (by unfold prI;rw[(ph y0 hy).1,(ph y0 hy).2])).to (by dsimp only;omega)⟩ (by first|omega|(dsimp only;omega))⟩
  ·have e:y=d.1:=by omega
   rw[e]at hL2;exact⟨by rw[au];(try dsimp only);omega,hnx _ ⟨by dsimp only;omega,by dsimp only;omega,q1,q2,q3,q5,hL2.to (by dsimp only;rw[av4])⟩ (by first|omega|(dsimp only;omega))⟩
 have ex:x=c.1:=by omega
 rw[ex]at hL;clear hnx;refine bq (fun (s:(cex×ce1))=>0<=s.1.2.2.1/\s.1.2.2.1<=c.2.1.length/\s.2.2.1.1=c.1*d.1/\LiB (prF c d) (s.1.2.2.1*d.2.1.length) s.2.2.1.2.1/\LiB (prT c d) (s.1.2.2.1*d.2.1.length) s.2.2.1.2.2.1/\s.2.2.1.2.2.2.1=u4/\TbG (prW c d) (s.1.2.2.1*d.2.1.length) (c.2.1.length*d.2.1.length) 1000000000 s.2.2.1.2.2.2.2) (fun (s:(cex×ce1))=>(c.2.1.length-s.1.2.2.1).toNat) ?_ ⟨by simp,by simp,rfl,⟨by simp,by simp,by simp[bh]⟩,⟨by simp,by simp,by simp[bh]⟩,rfl,⟨⟨by simp,by simp⟩,by simp[bh]⟩⟩;rintro⟨⟨_,_,a,_⟩,o2,⟨v1,v2,v3,v4,v5⟩,_⟩ next1 ⟨a0,a1,q1,hF,hT,q4,hR⟩ hn1;intros
 try dsimp only at a0 a1 q1 hF hT q4 hR hn1⊢
 refine bd (fun ha=>?_) (fun ha=>?_)
 ·have hab:=abb a0 (a:=20000) (y:=d.2.1.length) (by omega) (by omega) dm;have fc:=Hc.frG a0 ha;have tc:=Hc.toG a0 ha;have rc:=Hc.rowG a0 ha;have hp1:=abb fc.1 fc.2 d0 d1;have hp2:=abb tc.1 tc.2 d0 d1;refine bq (fun (s:(cex×ce1))=>0<=s.1.2.2.1/\s.1.2.2.1<=d.2.1.length/\s.2.2.1.1=c.1*d.1/\LiB (prF c d) (a*d.2.1.length+s.1.2.2.1) s.2.2.1.2.1/\LiB (prT c d) (a*d.2.1.length+s.1.2.2.1) s.2.2.1.2.2.1/\s.2.2.1.2.2.2.1=u4/\TbG (prW c d) (a*d.2.1.length+s.1.2.2.1) (c.2.1.length*d.2.1.length) 1000000000 s.2.2.1.2.2.2.2) (fun (s:(cex×ce1))=>(d.2.1.length-s.1.2.2.1).toNat) ?_ ⟨by simp,by simp,q1,hF.to (by dsimp only;omega),hT.to (by dsimp only;omega),q4,hR.to (by dsimp only;omega)⟩;rintro⟨⟨_,_,b,_⟩,o3,⟨w1,w2,w3,w4,w5⟩,_⟩ next2 ⟨b0,b1,p1,hF2,hT2,p4,hR2⟩ hn2;intros
  try dsimp only at b0 b1 p1 hF2 hT2 p4 hR2 hn2⊢
  have fl:=hF2.l;have tl:=hT2.l;have rl:=hR2.r.l;refine bd (fun hb=>?_) (fun hb=>?_)
  ·have fd:=Hd.frG b0 hb;have td:=Hd.toG b0 hb;have rd:=Hd.rowG b0 hb;refine⟨a0,ha,by rw[au];(try dsimp only);omega,b0,hb,by rw[au];(try dsimp only);omega,ck (by simp only[a0h,a0i];omega),a0,by omega,by rw[au];(try dsimp only);omega,b0,by omega,by rw[au];(try dsimp only);omega,ck (by simp only[a0h,a0i];omega),?_⟩;have hF3:=(hF2.push (x:=c.2.1.getD a.toNat 0*d.1+d.2.1.getD b.toNat 0) (by omega) (by omega) (by unfold prF;rw[(ph b0 hb).1,(ph b0 hb).2])).to (k':=a*d.2.1.length+(b+1)) (by omega);have hT3:=(hT2.push (x:=c.2.2.1.getD a.toNat 0*d.1+d.2.2.1.getD b.toNat 0) (by omega) (by omega) (by unfold prT;rw[(ph b0 hb).1,(ph b0 hb).2])).to (k':=a*d.2.1.length+(b+1)) (by omega);generalize w2++[c.2.1.getD a.toNat 0*d.1+d.2.1.getD b.toNat 0]=w2' at *;generalize w3++[c.2.2.1.getD a.toNat 0*d.1+d.2.2.1.getD b.toNat 0]=w3' at *;refine bq (fun (s:ce3)=>0<=s.1.2.2.2.1/\s.1.2.2.2.1<=c.2.1.length/\s.2.2.1=(w1,w2',w3',w4,w5)/\RwG (prH c d a b) (s.1.2.2.2.1*d.2.1.length) 1000000000 s.2.2.2.1) (fun (s:ce3)=>(c.2.1.length-s.1.2.2.2.1).toNat) ?_ ⟨by simp,by simp,rfl,⟨⟨by simp,by simp⟩,by simp[bh]⟩⟩;rintro⟨⟨_,_,_,f,_⟩,o4,out4,row,_⟩ next3 ⟨f0,f1,p5,hW⟩ hn3;intros
   try dsimp only at f0 f1 p5 hW hn3⊢
   subst p5;refine bd (fun hf=>?_) (fun hf=>?_)
   ·have hfb:=abb f0 (a:=20000) (y:=d.2.1.length) (by omega) (by omega) dm;refine bq (fun (s:ce3)=>0<=s.1.2.2.2.1/\s.1.2.2.2.1<=d.2.1.length/\s.2.2.1=(w1,w2',w3',w4,w5)/\RwG (prH c d a b) (f*d.2.1.length+s.1.2.2.2.1) 1000000000 s.2.2.2.1) (fun (s:ce3)=>(d.2.1.length-s.1.2.2.2.1).toNat) ?_ ⟨by simp,by simp,rfl,hW.to (by dsimp only;omega)⟩;rintro⟨⟨_,_,_,g,_⟩,o5,out5,row5,_⟩ next4 ⟨g0,g1,p6,hW2⟩ hn4;intros
    try dsimp only at g0 g1 p6 hW2 hn4⊢
    subst p6;have wl:=hW2.r.l;refine bd (fun hg=>?_) (fun hg=>?_)
    ·have vc:=Hc.cel a0 ha f0 hf;have vd:=Hd.cel b0 hb g0 hg;refine⟨a0,by omega,f0,by omega,fun _=>⟨by omega,b0⟩,fun _=>⟨by omega,g0⟩,cz (fun (q:ce3)=>(-1000000000<=q.1.2.2.2.1/\q.1.2.2.2.1<=1000000000/\q.1.2.2.2.1=prC d.2.1.length ((c.2.2.2.2.getD a.toNat []).getD f.toNat 0) ((d.2.2.2.2.getD b.toNat []).getD g.toNat 0))/\q.2.2.1=(w1,w2',w3',w4,w5)/\q.2.2.2.1=row5) ?_ (fun k hk=>ba (fun hz=>?_) (fun hz=>hk _ ⟨⟨by dsimp only;omega,by dsimp only;omega,by dsimp only;unfold prC;rw[ds (fun hh=>by rw[a1p hh.1,a1p hh.2]at hz;cases hz)]⟩,rfl,rfl⟩))⟩
     ·rintro⟨⟨_,_,_,h,_⟩,o6,out6,row6,_⟩ ⟨⟨q1,q2,q5⟩,q3,q4⟩;intros
      try dsimp only at q1 q2 q3 q4 q5⊢
      subst q3;subst q4;exact⟨ck (by simp only[a0h,a0i];omega),by rw[au];(try dsimp only);omega,hn4 _ ⟨by dsimp only;omega,by dsimp only;omega,rfl,(hW2.push q1 q2 (by rw[q5];unfold prH;rw[(ph g0 hg).1,(ph g0 hg).2])).to (by dsimp only;omega)⟩ (by first|omega|(dsimp only;omega))⟩
     ·simp only[a0b,a0w]at hz;have hp:=abb hz.1 vc.2 (y:=d.2.1.length) (by omega) dm;exact⟨a0,by omega,f0,by omega,by rw[au];(try dsimp only);omega,b0,by omega,g0,by omega,by rw[au];(try dsimp only);omega,hk _ ⟨⟨by dsimp only;omega,by dsimp only;omega,by dsimp only;unfold prC;rw[a0a hz]⟩,rfl,rfl⟩⟩
    ·have e:g=d.2.1.length:=by omega
     rw[e]at hW2;exact⟨by rw[au];(try dsimp only);omega,hn3 _ ⟨by dsimp only;omega,by dsimp only;omega,rfl,hW2.to (by dsimp only;rw[av4])⟩ (by first|omega|(dsimp only;omega))⟩
   ·have e:f=c.2.1.length:=by omega
    rw[e]at hW;exact⟨ck (by simp only[a0h,a0i];omega),by rw[au];(try dsimp only);omega,hn2 _ ⟨by dsimp only;omega,by dsimp only;omega,p1,hF3,hT3,p4,(hR2.push hW.r (by rw[hW.g];unfold prW;rw[(ph b0 hb).1,(ph b0 hb).2];congr 1)).to (by dsimp only;omega)⟩ (by first|omega|(dsimp only;omega))⟩
  ·have e:b=d.2.1.length:=by omega
   rw[e]at hF2 hT2 hR2;exact⟨by rw[au];(try dsimp only);omega,hn1 _ ⟨by dsimp only;omega,by dsimp only;omega,p1,hF2.to (by dsimp only;rw[av4]),hT2.to (by dsimp only;rw[av4]),p4,hR2.to (by dsimp only;rw[av4])⟩ (by first|omega|(dsimp only;omega))⟩
 have ea:a=c.2.1.length:=by omega
 rw[ea]at hF hT hR;have fl:=hF.l;have tl:=hT.l;have rl:=hR.r.l;have ll:=hL.l;subst q4;refine⟨⟨by omega,by dsimp only;omega,by dsimp only;omega,by dsimp only;omega,by dsimp only;omega,by dsimp only;omega,by dsimp only;omega,hF.e,hT.e,hL.e,fun w hw=>?_⟩,?_⟩
 ·have h:=hR.r.e w hw;exact⟨by have:=h.l;dsimp only;omega,h.e⟩
 ·have e1:=hF.g;have e2:=hT.g;have e3:=hL.g;have e4:=hR.g;have em:((c.2.1.length:Int)*d.2.1.length).toNat=c.2.1.length*d.2.1.length:=by rw[←a4w,a0y]
  rw[em]at e1 e2 e4
  try dsimp only at q1⊢
  rw[q1,e1,e2,e3,e4];rfl
theorem ad5(c d:aa):∃q:aa×Unit,ab (okL iv.args (c,d,()))->ab (iv.pre (c,d,()))->vf c d (fun r=>r=q)/\ab (okR iv.rt q)/\vh c d q.1:=pkb az bg 122 Tryz.f122 iv ajs [(16,516),(17,516),(1,6),(9,516),(27,18)] (fun x K=>vf x.1 x.2.1 K) (fun x r=>vh x.1 x.2.1 r.1) (fun x h1 h2=>awz x.1 x.2.1 h1 h2) (c,d,())
def p7(c d:aa):aa:=(ad5 c d).choose.1
theorem aky(c d:aa)(hok:ab (okL iv.args (c,d,())))(hpre:ab (iv.pre (c,d,()))):ab (okR iv.rt (p7 c d,()))/\vh c d (p7 c d):=((ad5 c d).choose_spec hok hpre).2
def aee:Ct:=⟨[bp,bp],[true,true],fun x=>[CgR 20000 x.1,CgR 10000 x.2.1],[(true,iw)],fun x=>((p7 x.1 x.2.1),()),false,none⟩
theorem ajw:bw Tryz.prog 122 aee:=ctb az bg 122 Tryz.f122 aee ajs [(16,516),(17,516),(1,6),(9,516),(27,18)] (fun x K=>vf x.1 x.2.1 K) (fun x h1 h2=>((ad5 x.1 x.2.1).choose_spec h1 h2).1)
theorem atx{u v A n:Int}(u0:0<=u)(u1:u<A)(v0:0<=v)(v1:v<n):0<=u*n+v/\u*n+v<A*n:=by have h1:=a5b u0 (show 0<=n by omega);have h2:=Int.mul_le_mul_of_nonneg_right (show u<=A-1 by omega) (show 0<=n by omega);rw[Int.sub_mul,Int.one_mul]at h2;omega
theorem ajj{k A m:Int}(k0:0<=k)(A0:0<=A)(m0:0<=m)(k1:k<A*m):0<=k / m/\k / m<A/\0<=k%m/\k%m<m/\k / m*m+k%m=k:=by
 have hm:0<m:=by
  rcases Int.lt_or_eq_of_le m0 with h|h
  ·exact h
  ·rw[←h,Int.mul_zero]at k1;omega
 exact⟨Int.ediv_nonneg k0 m0,Int.ediv_lt_of_lt_mul hm k1,Int.emod_nonneg _ (by omega),Int.emod_lt_of_pos _ hm,by rw[Int.mul_comm];exact Int.mul_ediv_add_emod k m⟩
theorem cdu{u v u' v' n:Int}(v0:0<=v)(v1:v<n)(w0:0<=v')(w1:v'<n)(h:u*n+v=u'*n+v'):u=u'/\v=v':=by have a:=@ph u v n v0 v1;have b:=@ph u' v' n w0 w1;rw[h]at a;exact⟨a.1.symm.trans b.1,a.2.symm.trans b.2⟩
theorem ca7{c d:aa}(C:TyP c)(D:TyP d):TyP (aep c d):=by
 have hob:=C.ob;have dob:=D.ob;have hM:((c.2.1.length*d.2.1.length:Nat):Int)=(c.2.1.length:Int)*d.2.1.length:=a4w _ _;have hlF:(aep c d).2.1.length=c.2.1.length*d.2.1.length:=bj _;have hlT:(aep c d).2.2.1.length=c.2.1.length*d.2.1.length:=bj _;have hlW:(aep c d).2.2.2.2.length=c.2.1.length*d.2.1.length:=bj _;have hmul:=a5b hob dob;have hlI:(aep c d).2.2.2.1.length=(c.1*d.1).toNat:=bj _;have gF:∀k:Int,0<=k->k<(c.2.1.length:Int)*d.2.1.length->(aep c d).2.1.getD k.toNat 0=prF c d k:=fun k k0 k1=>d6 k0 (by rw[hM];exact k1);have gT:∀k:Int,0<=k->k<(c.2.1.length:Int)*d.2.1.length->(aep c d).2.2.1.getD k.toNat 0=prT c d k:=fun k k0 k1=>d6 k0 (by rw[hM];exact k1);have gI:∀x:Int,0<=x->x<c.1*d.1->(aep c d).2.2.2.1.getD x.toNat 0=prI c d x:=fun k k0 k1=>d6 k0 (by omega);have gW:∀k:Int,0<=k->k<(c.2.1.length:Int)*d.2.1.length->(aep c d).2.2.2.2.getD k.toNat []=prW c d k:=fun k k0 k1=>d6 k0 (by rw[hM];exact k1);have gC:∀k l:Int,0<=k->k<(c.2.1.length:Int)*d.2.1.length->0<=l->l<(c.2.1.length:Int)*d.2.1.length->bi (aep c d) k l=prC d.2.1.length (bi c (k / d.2.1.length) (l / d.2.1.length)) (bi d (k%d.2.1.length) (l%d.2.1.length)):=fun k l k0 k1 l0 l1=>by show ((aep c d).2.2.2.2.getD k.toNat []).getD l.toNat 0=_;rw[gW k k0 k1];unfold prW;rw[d6 l0 (by rw[hM];exact l1)];rfl
 have hF:∀a b:Int,0<=a->a<c.2.1.length->0<=b->b<d.2.1.length->prF c d (a*d.2.1.length+b)=c.2.1.getD a.toNat 0*d.1+d.2.1.getD b.toNat 0:=fun a b a0 a1 b0 b1=>by unfold prF;rw[(ph b0 b1).1,(ph b0 b1).2]
 have hT:∀a b:Int,0<=a->a<c.2.1.length->0<=b->b<d.2.1.length->prT c d (a*d.2.1.length+b)=c.2.2.1.getD a.toNat 0*d.1+d.2.2.1.getD b.toNat 0:=fun a b a0 a1 b0 b1=>by unfold prT;rw[(ph b0 b1).1,(ph b0 b1).2]
 refine⟨hmul,by rw[hlF,hlT],by rw[hlI];show _=c.1*d.1;omega,by rw[hlF,hlW],fun f f0 f1=>?_,fun f f0 f1=>?_,fun f f0 f1=>?_,fun x x0 x1=>?_,fun f g f0 f1 g0 g1 e=>?_,fun f g f0 f1 g0 g1 e=>?_⟩
 ·rw[hlF,hM]at f1;rw[gW f f0 f1,hlF];unfold prW;rw[bj]
 ·rw[hlF,hM]at f1;obtain⟨a0,a1,b0,b1,_⟩:=ajj f0 (by omega) (by omega) f1;rw[gF f f0 f1];have h1:=C.fr _ a0 a1;have h2:=D.fr _ b0 b1;exact atx h1.1 h1.2 h2.1 h2.2
 ·rw[hlF,hM]at f1;obtain⟨a0,a1,b0,b1,_⟩:=ajj f0 (by omega) (by omega) f1;rw[gT f f0 f1];have h1:=C.to _ a0 a1;have h2:=D.to _ b0 b1;exact atx h1.1 h1.2 h2.1 h2.2
 ·have x1:x<c.1*d.1:=x1;obtain⟨a0,a1,b0,b1,hx⟩:=ajj x0 hob dob x1;have h1:=C.idn _ a0 a1;have h2:=D.idn _ b0 b1;have hr:=atx h1.1 h1.2.1 h2.1 h2.2.1;rw[gI x x0 x1,hlF,hM];unfold prI;rw[gF _ hr.1 hr.2,gT _ hr.1 hr.2,hF _ _ h1.1 h1.2.1 h2.1 h2.2.1,hT _ _ h1.1 h1.2.1 h2.1 h2.2.1,h1.2.2.1,h1.2.2.2,h2.2.2.1,h2.2.2.2];exact⟨hr.1,hr.2,hx,hx⟩
 ·rw[hlF,hM]at f1 g1;obtain⟨a0,a1,b0,b1,_⟩:=ajj f0 (by omega) (by omega) f1;obtain⟨a0',a1',b0',b1',_⟩:=ajj g0 (by omega) (by omega) g1;rw[gT f f0 f1,gF g g0 g1]at e;have t2:=D.to _ b0 b1;have r2:=D.fr _ b0' b1';obtain⟨e1,e2⟩:=cdu t2.1 t2.2 r2.1 r2.2 e;have y1:=C.yes _ _ a0 a1 a0' a1' e1;have y2:=D.yes _ _ b0 b1 b0' b1' e2;have hr:=atx y1.1 y1.2.1 y2.1 y2.2.1;rw[gC f g f0 f1 g0 g1,hlF,hM,gF f f0 f1,gT g g0 g1];unfold prC;rw[a0a ⟨y1.1,y2.1⟩,gF _ hr.1 hr.2,gT _ hr.1 hr.2,hF _ _ y1.1 y1.2.1 y2.1 y2.2.1,hT _ _ y1.1 y1.2.1 y2.1 y2.2.1,y1.2.2.1,y1.2.2.2,y2.2.2.1,y2.2.2.2];exact⟨hr.1,hr.2,rfl,rfl⟩
 ·rw[hlF,hM]at f1 g1;obtain⟨a0,a1,b0,b1,_⟩:=ajj f0 (by omega) (by omega) f1;obtain⟨a0',a1',b0',b1',_⟩:=ajj g0 (by omega) (by omega) g1;rw[gT f f0 f1,gF g g0 g1]at e;rw[gC f g f0 f1 g0 g1];unfold prC;rw[ds];rintro⟨h1,h2⟩;apply e;have e1:c.2.2.1.getD (f / d.2.1.length).toNat 0=c.2.1.getD (g / d.2.1.length).toNat 0:=a29 fun hn=>by rw[C.no _ _ a0 a1 a0' a1' hn]at h1;omega
  have e2:d.2.2.1.getD (f%d.2.1.length).toNat 0=d.2.1.getD (g%d.2.1.length).toNat 0:=a29 fun hn=>by rw[D.no _ _ b0 b1 b0' b1' hn]at h2;omega
  unfold prT prF;rw[e1,e2]
theorem bu9{c d:aa}(C:TyP c)(D:TyP d){f:Int}(f0:0<=f)(f1:f<(p9 c d).2.1.length) :
  ((p9 c d).2.1.getD f.toNat 0<c.1/\(p9 c d).2.2.1.getD f.toNat 0<c.1)\/(c.1<=(p9 c d).2.1.getD f.toNat 0/\c.1<=(p9 c d).2.2.1.getD f.toNat 0):=by
 have hm:(p9 c d).2.1.length=c.2.1.length+d.2.1.length:=rz;have hlt:=C.lt;rw[hm]at f1;by_cases h:f<c.2.1.length
 ·have e1:(p9 c d).2.1.getD f.toNat 0=c.2.1.getD f.toNat 0:=avo f0 h;have e2:(p9 c d).2.2.1.getD f.toNat 0=c.2.2.1.getD f.toNat 0:=avo f0 (by omega);rw[e1,e2];exact .inl ⟨(C.fr f f0 h).2,(C.to f f0 h).2⟩
 ·have e1:(p9 c d).2.1.getD f.toNat 0=d.2.1.getD (f-c.2.1.length).toNat 0+c.1:=at3 (by omega) (by omega);have e2:(p9 c d).2.2.1.getD f.toNat 0=d.2.2.1.getD (f-c.2.1.length).toNat 0+c.1:=by have:=at3 (l:=c.2.2.1) (e:=d.2.2.1) (n:=d.2.1.length) (p:=c.1) (i:=f) (by omega) (by omega);rw[hlt]at this;exact this
  rw[e1,e2];have h1:=D.fr (f-c.2.1.length) (by omega) (by omega);have h2:=D.to (f-c.2.1.length) (by omega) (by omega);exact .inr ⟨by omega,by omega⟩
theorem bzo{c d:aa}(C:TyP c)(D:TyP d):TyP (bh1 c d):=by
 have R:=bt4 C D;have side:=fun f=>@bu9 c d C D f;have hr1:(p9 c d).1=c.1+d.1:=rfl;have hob:=C.ob;have dob:=D.ob;unfold bh1;generalize p9 c d=r at *;have hmul:=a5b hob dob;have rlt:=R.lt;have rli:=R.li;have hF:(ak3 r c d).2.1=joF r (c.1*d.1).toNat d.1:=rfl;have hT:(ak3 r c d).2.2.1=joT r (c.1*d.1).toNat d.1 c.1:=rfl;generalize hFF:joF r (c.1*d.1).toNat d.1=F at *;generalize hTT:joT r (c.1*d.1).toNat d.1 c.1=T at *;have lF:F.length=r.2.1.length+(c.1*d.1).toNat:=by rw[←hFF];unfold joF;rw[a0m,bj]
 have lT:T.length=r.2.1.length+(c.1*d.1).toNat:=by rw[←hTT];unfold joT;rw[a0m,bj,rlt]
 have Fl:∀f:Int,0<=f->f<r.2.1.length->F.getD f.toNat 0=r.2.1.getD f.toNat 0:=fun f f0 f1=>by rw[←hFF];exact wq f0 f1
 have Tl:∀f:Int,0<=f->f<r.2.1.length->T.getD f.toNat 0=r.2.2.1.getD f.toNat 0:=fun f f0 f1=>by rw[←hTT];exact wq f0 (by omega)
 have Fr:∀f:Int,(r.2.1.length:Int)<=f->f<r.2.1.length+c.1*d.1->F.getD f.toNat 0=(f-r.2.1.length) / d.1:=fun f f0 f1=>by rw[←hFF];unfold joF;rw[aby f0,d6 (by omega) (by omega)]
 have Tr:∀f:Int,(r.2.1.length:Int)<=f->f<r.2.1.length+c.1*d.1->T.getD f.toNat 0=c.1+(f-r.2.1.length)%d.1:=fun f f0 f1=>by rw[←hTT];unfold joT;rw[aby (by omega),rlt,d6 (by omega) (by omega)]
 have ext:∀f:Int,(r.2.1.length:Int)<=f->f<r.2.1.length+c.1*d.1->0<=F.getD f.toNat 0/\F.getD f.toNat 0<c.1/\c.1<=T.getD f.toNat 0/\T.getD f.toNat 0<c.1+d.1:=fun f f0 f1=>by obtain⟨a0,a1,b0,b1,_⟩:=ajj (k:=f-r.2.1.length) (by omega) hob dob (by omega);rw[Fr f f0 f1,Tr f f0 f1];exact⟨a0,a1,by omega,by omega⟩
 have gW:∀f:Int,0<=f->f<F.length->(ak3 r c d).2.2.2.2.getD f.toNat []=joW r d.1 c.1 F T f:=fun f f0 f1=>by show (bh (joF r (c.1*d.1).toNat d.1).length (joW r d.1 c.1 (joF r (c.1*d.1).toNat d.1) (joT r (c.1*d.1).toNat d.1 c.1))).getD f.toNat []=_;rw[hFF,hTT,d6 f0 f1]
 have gC:∀f g:Int,0<=f->f<F.length->0<=g->g<F.length->bi (ak3 r c d) f g=joH r d.1 c.1 F T f g:=fun f g f0 f1 g0 g1=>by unfold bi;rw[gW f f0 f1];unfold joW;rw[d6 g0 g1]
 have ob1:(ak3 r c d).1=c.1+d.1:=hr1;have id1:(ak3 r c d).2.2.2.1=r.2.2.2.1:=rfl;have lW:(ak3 r c d).2.2.2.2.length=F.length:=by show (bh (joF r (c.1*d.1).toNat d.1).length _).length=_;rw[bj,hFF]
 refine⟨by rw[ob1];omega,by rw[hF,hT];omega,by rw[id1,ob1];omega,by rw[lW,hF],fun f f0 f1=>?_,fun f f0 f1=>?_,fun f f0 f1=>?_,fun x x0 x1=>?_,fun f g f0 f1 g0 g1 e=>?_,fun f g f0 f1 g0 g1 e=>?_⟩
 ·rw[hF]at f1⊢;rw[gW f f0 f1];unfold joW;rw[bj]
 ·rw[hF]at f1⊢;rw[ob1];by_cases h:f<r.2.1.length
  ·rw[Fl f f0 h,←hr1];exact R.fr f f0 h
  ·have:=ext f (by omega) (by omega);omega
 ·rw[hF]at f1;rw[hT,ob1];by_cases h:f<r.2.1.length
  ·rw[Tl f f0 h,←hr1];exact R.to f f0 h
  ·have:=ext f (by omega) (by omega);omega
 ·rw[ob1]at x1;have:=R.idn x x0 (by omega);rw[hF,hT,id1,Fl _ this.1 this.2.1,Tl _ this.1 this.2.1];exact⟨this.1,by omega,this.2.2⟩
 ·rw[hF]at f1 g1;rw[hT,hF]at e;rw[hF,hT,gC f g f0 f1 g0 g1];unfold joH;rw[ds (fun hn=>hn e)];by_cases hb:f<r.2.1.length/\g<r.2.1.length
  ·rw[a0a hb];rw[Tl f f0 hb.1,Fl g g0 hb.2]at e;have y:=R.yes f g f0 hb.1 g0 hb.2 e;have y':0<=(r.2.2.2.2.getD f.toNat []).getD g.toNat 0/\(r.2.2.2.2.getD f.toNat []).getD g.toNat 0<r.2.1.length/\r.2.1.getD ((r.2.2.2.2.getD f.toNat []).getD g.toNat 0).toNat 0=r.2.1.getD f.toNat 0/\r.2.2.1.getD ((r.2.2.2.2.getD f.toNat []).getD g.toNat 0).toNat 0=r.2.2.1.getD g.toNat 0:=y;rw[Fl _ y'.1 y'.2.1,Tl _ y'.1 y'.2.1,Fl f f0 hb.1,Tl g g0 hb.2];exact⟨y'.1,by omega,y'.2.2⟩
  ·rw[ds hb]
   have key:0<=F.getD f.toNat 0/\F.getD f.toNat 0<c.1/\c.1<=T.getD g.toNat 0/\T.getD g.toNat 0<c.1+d.1:=by
    by_cases h:f<r.2.1.length
    ·have hg:¬g<r.2.1.length:=fun hg=>hb ⟨h,hg⟩;have eg:=ext g (by omega) (by omega);have s:=side f f0 h;have rf:=R.fr f f0 h;rw[Tl f f0 h]at e;rw[Fl f f0 h];omega
    ·have ef:=ext f (by omega) (by omega);by_cases k:g<r.2.1.length
     ·have s:=side g g0 k;have rt:=R.to g g0 k;rw[Fl g g0 k]at e;rw[Tl g g0 k];omega
     ·have eg:=ext g (by omega) (by omega);omega
   have hr:=atx key.1 key.2.1 (v:=T.getD g.toNat 0-c.1) (n:=d.1) (by omega) (by omega);have hd:=@ph (F.getD f.toNat 0) (T.getD g.toNat 0-c.1) d.1 (by omega) (by omega);rw[show (r.2.1.length:Int)+F.getD f.toNat 0*d.1+T.getD g.toNat 0-c.1=r.2.1.length+(F.getD f.toNat 0*d.1+(T.getD g.toNat 0-c.1)) by omega];have hX:(r.2.1.length:Int)+(F.getD f.toNat 0*d.1+(T.getD g.toNat 0-c.1))-r.2.1.length=F.getD f.toNat 0*d.1+(T.getD g.toNat 0-c.1):=by omega
   have eF:=Fr (r.2.1.length+(F.getD f.toNat 0*d.1+(T.getD g.toNat 0-c.1))) (by omega) (by omega);have eT:=Tr (r.2.1.length+(F.getD f.toNat 0*d.1+(T.getD g.toNat 0-c.1))) (by omega) (by omega);rw[hX,hd.1]at eF;rw[hX,hd.2]at eT;rw[eF,eT];exact⟨by omega,by omega,rfl,by omega⟩
 ·rw[hF]at f1 g1;rw[hT,hF]at e;rw[gC f g f0 f1 g0 g1];unfold joH;rw[a0a e]
theorem ab6{b:Int}{c:aa}(h:CgR b c)(hb:b<=1000000000000):ab (T.oks bp c):=by
 have h1:=h.m;have h2:=h.lt;have h3:=h.li;have h4:=h.ob;have h5:=h.ob0;have h6:=h.lc;refine cdf (by rw[au];omega) ⟨by rw[eh];omega,fun x hx=>?_⟩ ⟨by rw[eh];omega,fun x hx=>?_⟩ ⟨by rw[eh];omega,fun x hx=>?_⟩ ⟨by rw[eh];omega,fun r hr=>⟨by have:=(h.row r hr).1;rw[eh];omega,fun x hx=>?_⟩⟩
 ·have:=h.fr x hx;show inK .i64 x;rw[au];omega
 ·have:=h.to x hx;show inK .i64 x;rw[au];omega
 ·have:=h.id x hx;show inK .i64 x;rw[au];omega
 ·have:=(h.row r hr).2 x hx;show inK .i64 x;rw[au];omega
theorem bed{rel:List (List Int)}(hok:(T.sl ed).ok rel)(h:RowP rel.length rel)(h8:rel.length<=8):CgR 64 (cw rel)/\(cw rel).1=(rel.length:Int)/\((cw rel).2.1.length:Int)<=8*rel.length:=(anz rel (by simp only[jr,okL,kv,ab,a0c];exact me _ _ hok) ⟨h,h8,trivial⟩).2 |> fun q=>⟨q.1,q.2.1,q.2.2.1⟩
theorem bzq{rel:List (List Int)}(hok:(T.sl ed).ok rel)(h:RowP rel.length rel)(h8:rel.length<=8):CgR 64 (cw rel):=(bed hok h h8).1
structure CgT (b:Int) (c:aa):Prop where
 cg:CgR b c
 ty:TyP c
theorem CgT.le{a b:Int}{c:aa}(h:CgT a c)(hab:a<=b):CgT b c:=⟨h.cg.le hab,h.ty⟩
theorem ac2{rel:List (List Int)}(hok:(T.sl ed).ok rel)(h:RowP rel.length rel)(h8:rel.length<=8)(hp:PreP rel):CgT 64 (cw rel):=⟨bzq hok h h8,(anz rel (by simp only[jr,okL,kv,ab,a0c];exact me _ _ hok) ⟨h,h8,trivial⟩).2.2.2.2 hp⟩
def bj9(t:List (List Int)):Bool:=decide (t.length<=8)&&t.all fun r=>decide (r.length<=8)&&r.all fun x=>decide (0<=x/\x<=8)
theorem ajk{t:List (List Int)}(h:bj9 t=true):(T.sl ed).ok t:=by simp only[bj9,a0b,a0w,a1y]at h;exact⟨by rw[eh];omega,fun r hr=>⟨by have:=(h.2 r hr).1;rw[eh];omega,fun x hx=>by have:=(h.2 r hr).2 x hx;show inK .i64 x;rw[au];omega⟩⟩
theorem cci{c d:aa}(h:CgR 64 c)(g:CgR 64 d):CgR 10000 (tm c d):=(aqb c d (by simp only[j9,okL,kv,ab,a0c];exact⟨ab6 h (by omega),ab6 g (by omega)⟩) ⟨h,g,trivial⟩).2.1
theorem btk{c d:aa}(h:CgT 64 c)(g:CgT 64 d):CgT 10000 (tm c d):=⟨cci h.cg g.cg,by rw[(aqb c d (by simp only[j9,okL,kv,ab,a0c];exact⟨ab6 h.cg (by omega),ab6 g.cg (by omega)⟩) ⟨h.cg,g.cg,trivial⟩).2.2];exact bzo h.ty g.ty⟩
theorem op_t{b:Int}{c:aa}(h:CgT b c):CgT b (opR c):=⟨cdj h.cg,cdt h.ty⟩
theorem bjy{t:List (List Int)}(h:TblR t):CgR 8 (adn t):=ca4 h.lo h.hi h.rw_ h.en
def cgB(b:Int)(c:aa):Bool:=
 decide (1<=b)&&decide (0<=c.1)&&decide (c.1<=b)&&decide ((c.2.1.length:Int)<=b)&&decide (c.2.2.1.length=c.2.1.length)&&decide ((c.2.2.2.1.length:Int)=c.1)&&decide (c.2.2.2.2.length=c.2.1.length)
  && c.2.1.all (fun x=>decide (0<=x/\x<=b))&&c.2.2.1.all (fun x=>decide (0<=x/\x<=b))&&c.2.2.2.1.all (fun x=>decide (0<=x/\x<=b))&&c.2.2.2.2.all (fun r=>decide (r.length=c.2.1.length)&&r.all (fun x=>decide (-b<=x/\x<=b)))
theorem brz{b:Int}{c:aa}(h:cgB b c=true):CgR b c:=by simp only[cgB,a0b,a0w,a1y]at h;obtain⟨⟨⟨⟨⟨⟨⟨⟨⟨⟨h1,h2⟩,h3⟩,h4⟩,h5⟩,h6⟩,h7⟩,h8⟩,h9⟩,h10⟩,h11⟩:=h;exact⟨h1,h2,h3,h4,h5,h6,h7,h8,h9,h10,h11⟩
def aqp(n:Nat):Nat->List (List Int×List Int)
 |0=>[([],[])]
 |k+1=>([],[])::((aqp n k).flatMap fun q=>(List.range n).flatMap fun (y:Nat)=>(List.range y).map fun (x:Nat)=>(Int.ofNat x::q.1,Int.ofNat y::q.2))
theorem car:((aqp 2 3).all fun q=>cgB 10000 (y7 2 q.1 q.2)&&yy (y7 2 q.1 q.2))=true:=by decide+kernel
theorem bze:((aqp 3 3).all fun q=>cgB 10000 (y7 3 q.1 q.2)&&yy (y7 3 q.1 q.2))=true:=by decide+kernel
theorem axp{n:Nat}:∀(k:Nat)(fr to:List Int),fr.length<=k->to.length=fr.length->(∀i:Nat,i<fr.length->0<=fr.getD i 0/\fr.getD i 0<to.getD i 0/\to.getD i 0<n)->(fr,to)∈aqp n k
 |0,fr,to,h,hl,_=>by have h1:fr=[]:=a18 (by omega);have h2:to=[]:=a18 (by omega);subst h1;subst h2;exact a0s.2 rfl
 |k+1,[],to,_,hl,_=>by have h2:to=[]:=a18 hl;subst h2;exact a0t.2 (.inl rfl)
 |k+1,x::fr,[],_,hl,_=>by cases hl
 |k+1,x::fr,y::to,h,hl,he=>by
  have h0:=he 0 (by simp);simp only[a31]at h0;have hi:=axp k fr to (by simpa using h) (by simpa using hl) (fun i hi=>by have:=he (i+1) (by simpa using hi);simpa using this);refine a0t.2 (.inr (a5a.2 ⟨_,hi,a5a.2 ⟨y.toNat,a42.2 (by omega),a2c.2 ⟨x.toNat,a42.2 (by omega),?_⟩⟩⟩));have hx:Int.ofNat x.toNat=x:=by rw[Int.ofNat_eq_natCast];omega
  have hy:Int.ofNat y.toNat=y:=by rw[Int.ofNat_eq_natCast];omega
  dsimp only;rw[hx,hy]
theorem bcu{n:Int}{fr to:List Int}(h2:2<=n)(h3:n<=3)(hk:fr.length<=3)(hl:to.length=fr.length)(he:∀i:Nat,i<fr.length->0<=fr.getD i 0/\fr.getD i 0<to.getD i 0/\to.getD i 0<n):CgT 10000 (y7 n fr to):=by
 rcases (show n=2\/n=3 by omega)with e|e
 ·have hm:(fr,to)∈aqp 2 3:=axp (n:=2) 3 fr to hk hl (fun i hi=>by have:=he i hi;omega);have h:=a1y.1 car (fr,to) hm;rw[e];dsimp only at h;rw[a0b]at h;exact⟨brz h.1,auw h.2⟩
 ·have hm:(fr,to)∈aqp 3 3:=axp (n:=3) 3 fr to hk hl (fun i hi=>by have:=he i hi;omega);have h:=a1y.1 bze (fr,to) hm;rw[e];dsimp only at h;rw[a0b]at h;exact⟨brz h.1,auw h.2⟩
structure EdP (n:Int) (fr to:List Int):Prop where
 l:to.length=fr.length
 e:∀i:Nat,i<fr.length->0<=fr.getD i 0/\fr.getD i 0<to.getD i 0/\to.getD i 0<n
theorem EdP.push{n x y:Int}{fr to:List Int}(h:EdP n fr to)(h0:0<=x)(h1:x<y)(h2:y<n):EdP n (fr++[x]) (to++[y]):=
 ⟨by rw[a0m,a0m,h.l];rfl,fun i hi=>by
  have hl:=h.l;rw[a0m]at hi;simp only[a0h,a0i]at hi;by_cases hc:i<fr.length
  ·rw[beg hc,beg (by omega)];exact h.e i hc
  ·have e1:i=fr.length:=by omega
   have e2:(to++[y]).getD fr.length 0=y:=by rw[←hl];exact bex to
   rw[e1,e2,bex fr];exact⟨h0,h1,h2⟩⟩
structure OnP (n k:Int) (t:List (List Int)):Prop where
 l:(t.length:Int)=k
 e:∀r∈t,r=List.replicate n.toNat 1
theorem OnP.push{n k:Int}{t:List (List Int)}{r:List Int}(h:OnP n k t)(hr:r=List.replicate n.toNat 1):OnP n (k+1) (t++[r]):=
 ⟨by rw[a0m];have:=h.l;simp only[a0h,a0i];omega,fun y hy=>by
  rcases a07.1 hy with hy|hy
  ·exact h.e y hy
  ·rw[a0s.1 hy];exact hr⟩
def fp:Wt:=⟨oc,[],[],fun x y=>[cn x],fun x _=>x,[(true,iw)],fun _ _=>dfR _,0⟩
def we(s z:ac)(r0:aa):Prop:=cn z/\CgT 10000 r0
def akz:Ann:=(.s .n (.s (.s .n (.s .n (.s .n (.s .n (.s .n (.s .n (.s .n (.s .n (.s .n (.s .n (.s .n (.s .n (.s (.s .n (.s .n (.s (.s .n (.l [(0,(.ad 1000000 [.de])),(2,(.ad 2 [.de])),(4,(.ref 800004 [])),(5,(.d bc))] [(1000000,yj),(2,gh),(800004,vp)] [3] (.s .n (.s (.s .n (.s (.s .n (.l [(0,(.ad 1000000 [.de])),(2,(.ad 2 [.de])),(4,(.ref 800004 [])),(6,(.ref 800006 [])),(7,(.d bc))] [(1000000,yj),(2,gh),(800004,vp),(800006,dq)] [3,5] .n)) .n)) .n)))) .n))) .n))))))))))))) (.s .n (.s .n (.s (.s .n (.l [(0,(.ad 1000000 [.de])),(2,(.ad 2 [.de])),(9,(.ref 800009 [])),(10,(.ref 800010 [])),(11,(.d bc))] [(1000000,yj),(2,gh),(800009,dq),(800010,dq)] [8] .n)) .n)))))
def bul:FuncId->Option Ct:=lkp [(65,mt),(129,afi),(141,aj0),(130,abu),(142,ahl),(128,mh),(127,rx),(126,nw),(123,uo)]
def aac(s:ac)(K:ac->(aa×Unit)->Prop):Prop:=let a2:=RowP ([[1]].length:Int) [[1]];let u:=cw [[1]];let j:=bf s 12;let g:=bm s 12;let y:=sd g;let x:=bm g 5;let w:=bf g 3;let q:=bf g 5;let m:=bm g 2;let l:=oh g;let o:=tm (adn l) u;let k:=gf x q;let h:=bf g 2;let p:=gf m (2+h);0<=s.2.1/\cnd (j==0) (0<=g.2.1/\cn x/\0<=q/\q<=8/\RowP (k.length:Int) k/\k.length<=8/\K (pz x q) (cw k,())) (cnd (j==1) (RowP ([[1,1],[0,1]].length:Int) [[1,1],[0,1]]/\[[1,1],[0,1]].length<=8/\K g (cw [[1,1],[0,1]],())) (cnd (j==2) (RowP ([[1,1,1],[0,1,0],[0,0,1]].length:Int) [[1,1,1],[0,1,0],[0,0,1]]/\[[1,1,1],[0,1,0],[0,0,1]].length<=8/\K g (cw [[1,1,1],[0,1,0],[0,0,1]],())) (cnd (j==3) ((0:Int)<=2/\(2:Int)<=8/\[1,1].length=[0,0].length/\[0,0].length<=1000000000/\K g (y7 2 [0,0] [1,1],())) (cnd (j==4) (cn g/\OwnP l/\K y (adn l,())) (cnd (j==5) (0<=g.2.1/\(Ik (1+w)<|bn (S:=cga) (fun a b=>let a3:=a.1.2.2.2.1;let z:=a.2.2.2.1;Iq a3<|Oa iq a.2.1.1<|Iq a.2.1.2.1<|inK .u64 a.2.1.2.2->(Oc a.2.2.1<|Om z<|cnd (decide (a3<1+w)) (bn (S:=cf0) (fun c d=>let a0:=c.1.2.2.2.2.1;let v:=c.2.2.2;Iq a0<|Oa iq c.2.1.1<|Iq c.2.1.2.1<|inK .u64 c.2.1.2.2->(Oc c.2.2.1<|Om v.1<|Ol v.2.1<|cnd (decide (a0<1+w)) (c9 v.2.1.length [1].length 8/\(Ik (a0+1)<|d (((),(),(),(),a0+1,()),c.2.1,c.2.2.1,v.1,v.2.1++[1],()))) (c9 v.1.length [v.2.1].length 24/\(Ik (a3+1)<|b (((),(),(),a3+1,()),c.2.1,c.2.2.1,v.1++[v.2.1],()))))) (((),(),(),(),0,()),a.2.1,a.2.2.1,z,[],())) (RowP (z.length:Int) z/\z.length<=8/\K a.2.1 (cw z,())))) (((),(),(),0,()),bm g 3,(0,[],[],[],[]),[],()))) (cnd (j==6) ((0:Int)<=3/\(3:Int)<=8/\[1,2,2].length=[0,1,0].length/\[0,1,0].length<=1000000000/\K g (y7 3 [0,1,0] [1,2,2],())) (cnd (j==7) (K g (sg,())) (cnd (j==8) (cn g/\OwnP l/\a2/\[[1]].length<=8/\CgR 64 (adn l)/\CgR 64 u/\SqR o/\K y (opR o,())) (cnd (j==9) (cn g/\OwnP l/\a2/\[[1]].length<=8/\CgR 64 (adn l)/\CgR 64 u/\K y (o,())) (cnd (j==10) (0<=g.2.1/\(Ik (2+h)<|cn m/\0<=2+h/\2+h<=8/\RowP (p.length:Int) p/\p.length<=8/\K (pz m (2+h)) (cw p,()))) (0<=g.2.1/\(Ik (2+h)<|0<=m.2.1/\bn (S:=cf7) (fun e f=>let a1:=e.1.2.2.2.2.1;let t:=e.2.2.2;let r:=bm e.2.1 (2+h-1);let i:=bf e.2.1 (2+h-1);let n:=bf r (2+h-1-i);Iq a1<|Oa iq e.2.1.1<|Iq e.2.1.2.1<|inK .u64 e.2.1.2.2->(Oc e.2.2.1<|Ol t.1<|Ol t.2.1<|cnd (decide (0<a1)) (Ik (2+h-1)<|0<=e.2.1.2.1/\c9 t.1.length [i].length 8/\(Ik (i+1)<|Ik (2+h-1)<|Ik (2+h-1-i)<|0<=r.2.1/\(Ik (i+1+n)<|c9 t.2.1.length [i+1+n].length 8/\(Ik (a1-1)<|f (((),(),(),(),a1-1,()),bm r (2+h-1-i),e.2.2.1,t.1++[i],t.2.1++[i+1+n],()))))) (0<=2+h/\2+h<=8/\t.2.1.length=t.1.length/\t.1.length<=1000000000/\K e.2.1 (y7 (2+h) t.1 t.2.1,())))) (((),(),(),(),bf m 4,()),bm m 4,(0,[],[],[],[]),[],[],())))))))))))))
theorem aye(s:ac)(hok:ab (fp.o.strip.oks s))(hok2:ab (okL fp.as (())))(hpre:ab (fp.pre s (()))):aac s (fun z r=>we s z r.1):=by
 simp only[fp,O.strip,okL,T.oks,T.ok,ap,ab,a0f,a0c,a0g]at hok hok2 hpre
 try dsimp only[T.den]at hok
 try dsimp only[T.den]at hok2
 try dsimp only[T.den]at hpre
 delta aac we Ik Iq Oa Oc Ol Om
 dsimp -proj -eta only;have h1:=ko (n:=12) hpre (by rw[au];(try dsimp only);omega);refine⟨hpre.2,?_⟩;clear hok hok2 hpre;generalize bf s 12=w at *;generalize bm s 12=z at *;have hZ:=h1.1;clear h1;refine ba (fun _=>?_) (fun _=>ba (fun _=>?_) (fun _=>ba (fun _=>?_) (fun _=>ba (fun _=>?_) (fun _=>ba (fun _=>?_) (fun _=>ba (fun _=>?_) (fun _=>ba (fun _=>?_) (fun _=>ba (fun _=>?_) (fun _=>ba (fun _=>?_) (fun _=>ba (fun _=>?_) (fun _=>ba (fun _=>?_) (fun _=>?_)))))))))))
 ·have h2:=ko (n:=5) hZ (by rw[au];(try dsimp only);omega);have h5:=h2.2.2.1 (by omega);have h3:=bbk (s:=bm z 5) (n:=bf z 5) h2.1 h2.2.1 (by omega);have hl:=h3.2.1.l;have hR:RowP ((gf (bm z 5) (bf z 5)).length:Int) (gf (bm z 5) (bf z 5)):=by rw[hl];exact h3.2.1
  exact⟨hZ.2,h2.1,h2.2.1,by omega,hR,by omega,h3.1,(ac2 h3.2.2 hR (by omega) (auu h2.1 h2.2.1 (by omega))).le (by omega)⟩
 ·have hR:RowP (([[1,1],[0,1]]:List (List Int)).length:Int) [[1,1],[0,1]]:=⟨rfl,by decide⟩;exact⟨hR,by decide,hZ,(ac2 (ajk (by decide)) hR (by decide) (alu (by decide))).le (by omega)⟩
 ·have hR:RowP (([[1,1,1],[0,1,0],[0,0,1]]:List (List Int)).length:Int) [[1,1,1],[0,1,0],[0,0,1]]:=⟨rfl,by decide⟩;exact⟨hR,by decide,hZ,(ac2 (ajk (by decide)) hR (by decide) (alu (by decide))).le (by omega)⟩
 ·exact⟨by decide,by decide,rfl,by decide,hZ,bcu (by decide) (by decide) (by decide) rfl (by decide)⟩
 ·have h2:=ase hZ;exact⟨hZ,h2.2.1.own,h2.1,CgT.le ⟨bjy h2.2.1,av7 h2.2.1⟩ (by omega)⟩
 ·have h2:=ko (n:=3) hZ (by rw[au];(try dsimp only);omega);have h3:=h2.2.2.1 (by omega);have h4:=h2.2.1;refine⟨hZ.2,by rw[au];(try dsimp only);omega,?_⟩;have hn:1<=1+bf z 3/\1+bf z 3<=3:=by omega
  generalize 1+bf z 3=n at *;refine bq (fun (s:cga)=>0<=s.1.2.2.2.1/\s.1.2.2.2.1<=n/\cn s.2.1/\OnP n s.1.2.2.2.1 s.2.2.2.1) (fun (s:cga)=>(n-s.1.2.2.2.1).toNat) ?_ ⟨by simp,by dsimp only;omega,h2.1,rfl,by simp⟩;rintro⟨⟨_,_,_,i,_⟩,s1,o1,rel,_⟩ next ⟨i0,i1,hS,hR⟩ hnx
  intros
  try dsimp only at *
  refine bd (fun hi=>?_) (fun hi=>?_)
  ·refine bq (fun (s:cf0)=>0<=s.1.2.2.2.2.1/\s.1.2.2.2.2.1<=n/\cn s.2.1/\s.2.2.2.1=rel/\((s.2.2.2.2.1.length:Int)=s.1.2.2.2.2.1/\s.2.2.2.2.1=List.replicate s.1.2.2.2.2.1.toNat 1)) (fun (s:cf0)=>(n-s.1.2.2.2.2.1).toNat) ?_ ⟨by simp,by dsimp only;omega,hS,rfl,rfl,rfl⟩;rintro⟨⟨_,_,_,_,j,_⟩,s2,o2,rel2,row,_⟩ next1 ⟨j0,j1,hS2,q,hj,hj2⟩ hn1;intros
   try dsimp only at j0 j1 hS2 q hj hj2 hn1⊢
   subst q;have hl:=hR.l;refine bd (fun hc=>?_) (fun hc=>?_)
   ·exact⟨ck (by simp only[a0h,a0i];omega),by rw[au];(try dsimp only);omega,hn1 _ ⟨by dsimp only;omega,by dsimp only;omega,hS2,rfl,by dsimp only;rw[a0m];simp only[a0h,a0i];omega,by dsimp only;rw[hj2,show (j+1).toNat=j.toNat+1 by omega,a32]⟩ (by dsimp only;omega)⟩
   ·exact⟨ck (by simp only[a0h,a0i];omega),by rw[au];(try dsimp only);omega,hnx _ ⟨by dsimp only;omega,by dsimp only;omega,hS2,hR.push (by rw[hj2,show j=n by omega])⟩ (by dsimp only;omega)⟩
  ·have ei:i=n:=by omega
   subst ei;have hl:=hR.l;have hP:RowP (rel.length:Int) rel:=⟨rfl,fun r hr=>by rw[hl,hR.e r hr,a05];omega⟩;have h1:∀a b:Int,0<=a->a<rel.length->0<=b->b<rel.length->ja rel a b=1:=fun a b a0 a1 b0 b1=>by unfold ja;rw[hR.e _ (cp rel [] a0 a1)];exact al1 b0 (by omega)
   exact⟨hP,by omega,hS,(ac2 (by assumption) hP (by omega) ⟨fun i i0 i1=>h1 i i i0 i1 i0 i1,fun i j k i0 i1 j0 j1 k0 k1 _ _=>h1 i k i0 i1 k0 k1⟩).le (by omega)⟩
 ·exact⟨by decide,by decide,rfl,by decide,hZ,bcu (by decide) (by decide) (by decide) rfl (by decide)⟩
 ·have hs:=(an9 trivial trivial).2;exact⟨hZ,CgT.le ⟨hs.1,hs.2⟩ (by omega)⟩
 ·have h2:=ase hZ;have hR:RowP (([[1]]:List (List Int)).length:Int) [[1]]:=⟨rfl,by decide⟩;have hp:=ac2 (ajk (by decide)) hR (by decide) (alu (by decide));have hm:=CgT.le (b:=64) ⟨bjy h2.2.1,av7 h2.2.1⟩ (by omega);have hj:=btk hm hp;exact⟨hZ,h2.2.1.own,hR,by decide,hm.cg,hp.cg,cd2 hj.cg (by omega),h2.1,op_t hj⟩
 ·have h2:=ase hZ;have hR:RowP (([[1]]:List (List Int)).length:Int) [[1]]:=⟨rfl,by decide⟩;have hp:=ac2 (ajk (by decide)) hR (by decide) (alu (by decide));have hm:=CgT.le (b:=64) ⟨bjy h2.2.1,av7 h2.2.1⟩ (by omega);have hj:=btk hm hp;exact⟨hZ,h2.2.1.own,hR,by decide,hm.cg,hp.cg,h2.1,hj⟩
 ·have h2:=ko (n:=2) hZ (by rw[au];(try dsimp only);omega);have h5:=h2.2.2.1 (by omega);have h6:=h2.2.1;have h3:=bbk (s:=bm z 2) (n:=2+bf z 2) h2.1 (by omega) (by omega);have hl:=h3.2.1.l;have hR:RowP ((gf (bm z 2) (2+bf z 2)).length:Int) (gf (bm z 2) (2+bf z 2)):=by rw[hl];exact h3.2.1
  exact⟨hZ.2,by rw[au];(try dsimp only);omega,h2.1,by omega,by omega,hR,by omega,h3.1,(ac2 h3.2.2 hR (by omega) (auu h2.1 (by omega) (by omega))).le (by omega)⟩
 ·have h2:=ko (n:=2) hZ (by rw[au];(try dsimp only);omega);have h5:=h2.2.2.1 (by omega);have h6:=h2.2.1;have h3:=ko (n:=4) h2.1 (by rw[au];(try dsimp only);omega);have h7:=h3.2.2.1 (by omega);refine⟨hZ.2,by rw[au];(try dsimp only);omega,h2.1.2,?_⟩;have hn:2<=2+bf z 2/\2+bf z 2<=3:=by omega
  generalize 2+bf z 2=n at *;refine bq (fun (s:cf7)=>0<=s.1.2.2.2.2.1/\(s.2.2.2.1.length:Int)+s.1.2.2.2.2.1<=3/\cn s.2.1/\EdP n s.2.2.2.1 s.2.2.2.2.1) (fun (s:cf7)=>s.1.2.2.2.2.1.toNat) ?_ ⟨h3.2.1,by dsimp only;simp only[a0i];omega,h3.1,rfl,by simp⟩;rintro⟨⟨_,_,_,_,k,_⟩,s1,o1,fr,to,_⟩ next ⟨k0,k1,hS,hE⟩ hnx
  intros
  try dsimp only at k0 k1 hS hE hnx⊢
  have hl:=hE.l;refine bd (fun hc=>?_) (fun hc=>?_)
  ·have g1:=ko (n:=n-1) hS (by rw[au];(try dsimp only);omega);have g2:=g1.2.2.1 (by omega);have g3:=g1.2.1;generalize bf s1 (n-1)=x at *;generalize bm s1 (n-1)=s2 at *;have g4:=ko (n:=n-1-x) g1.1 (by rw[au];(try dsimp only);omega);have g5:=g4.2.2.1 (by omega);have g6:=g4.2.1;exact⟨by rw[au];(try dsimp only);omega,hS.2,ck (by simp only[a0h,a0i];omega),by rw[au];(try dsimp only);omega,by rw[au];(try dsimp only);omega,by rw[au];(try dsimp only);omega,g1.1.2,by rw[au];(try dsimp only);omega,ck (by simp only[a0h,a0i];omega),by rw[au];(try dsimp only);omega,hnx _ ⟨by dsimp only;omega,by dsimp only;rw[a0m];simp only[a0h,a0i];omega,g4.1,hE.push g3 (by omega) (by omega)⟩ (by dsimp only;omega)⟩
  ·exact⟨by omega,by omega,hl,by omega,hS,bcu hn.1 hn.2 (by omega) hl hE.e⟩
theorem aaz(s:ac):∃q:ac×(aa×Unit),ab (fp.o.strip.oks s)->ab (okL fp.as (()))->ab (fp.pre s (()))->aac s (fun z r=>z=q.1/\r=q.2)/\ab (fp.o.strip.oks q.1)/\ab (okR fp.rt q.2)/\we s q.1 q.2.1:=pkw (ae df (ae yk (ae ahd (ae aaf (ae ao0 (ae yr (ae aex (ae zy (ae lh az))))))))) bg 120 Tryz.f120 fp akz [] gz (fun x y K=>aac x K) (fun x y z r=>we x z r.1) (fun x y h1 h2 h3=>aye x h1 h2 h3) s (())
def pp(s:ac):ac:=(aaz s).choose.1
def ou(s:ac):aa:=(aaz s).choose.2.1
theorem ayn(s:ac)(hok:ab (fp.o.strip.oks s))(hok2:ab (okL fp.as (())))(hpre:ab (fp.pre s (()))):ab (fp.o.strip.oks (pp s))/\ab (okR fp.rt (ou s,()))/\we s (pp s) (ou s):=((aaz s).choose_spec hok hok2 hpre).2
def akw:Wt:=⟨oc,[],[],fun x y=>[cn x],fun x y=>(pp x),[(true,iw)],fun x y=>((ou x),()),0⟩
def am1:Ct:=vr akw
theorem akr:bw Tryz.prog 120 am1:=wtb (ae df (ae yk (ae ahd (ae aaf (ae ao0 (ae yr (ae aex (ae zy (ae lh az))))))))) bg 120 Tryz.f120 akw akz [] (fun x y h1 h2 h3=>Eq.mp (by kernel_rfl) ((aaz x).choose_spec h1 h2 h3).1)
theorem axq{s:ac}(h:cn s):cn (pp s)/\CgT 10000 (ou s):=(ayn s h.1 trivial ⟨h,trivial⟩).2.2
theorem ccj{a b:Int}{c d:aa}(h:CgR a c)(g:CgR b d)(ha:a<=1000000000000)(hb:b<=1000000000000):CgR (a+b) (k8 c d):=bw7 (by simp only[il,okL,kv,ab,a0c];exact⟨ab6 h ha,ab6 g hb⟩) h g ha hb
theorem bti{c d:aa}(h:CgR 20000 c)(g:CgR 10000 d):CgR 1000000000 (p7 c d):=(aky c d (by simp only[iv,okL,kv,ab,a0c];exact⟨ab6 h (by omega),ab6 g (by omega)⟩) ⟨h,g,trivial⟩).2.1
theorem ccm{a b:Int}{c d:aa}(h:CgT a c)(g:CgT b d)(ha:a<=1000000000000)(hb:b<=1000000000000):CgT (a+b) (k8 c d):=⟨ccj h.cg g.cg ha hb,by rw[bui (by simp only[il,okL,kv,ab,a0c];exact⟨ab6 h.cg ha,ab6 g.cg hb⟩) h.cg g.cg ha hb];exact bt4 h.ty g.ty⟩
theorem btl{c d:aa}(h:CgT 20000 c)(g:CgT 10000 d):CgT 1000000000 (p7 c d):=⟨bti h.cg g.cg,by rw[(aky c d (by simp only[iv,okL,kv,ab,a0c];exact⟨ab6 h.cg (by omega),ab6 g.cg (by omega)⟩) ⟨h.cg,g.cg,trivial⟩).2.2];exact ca7 h.ty g.ty⟩
def gj:Wt:=⟨oc,[bc,bc],[false,false],fun x y=>[cn x,1<=y.1,y.1<=8,1<=y.2.1,y.2.1<=40],fun x _=>x,[(true,iw)],fun _ _=>dfR _,0⟩
def yv(s:ac)(objects arrows:Int)(z:ac)(r0:aa):Prop:=cn z/\CgT 1000000000 r0/\r0.1<=objects/\(r0.2.1.length:Int)<=40/\(8<=arrows->(r0.2.1.length:Int)<=arrows)
def anu:Ann:=(.s .n (.s (.s .n (.l [(0,(.ad 1000000 [.de])),(6,(.ad 6 [.de])),(7,(.d bc))] [(1000000,yj),(6,gh)] [1,2] (.s .n (.s (.s .n (.s (.s .n (.j byt [(1000000,yj),(6,gh),(8,gh)] [1,2,7] .n)) (.s (.s .n (.j byt [(1000000,yj),(6,gh),(8,gh)] [1,2,7] .n)) .n))) .n)))) .n))
def byf:FuncId->Option Ct:=lkp [(65,mt),(120,am1),(50,tj),(123,uo),(122,aee),(121,aj6)]
def adb(s:ac)(objects arrows:Int)(K:ac->(aa×Unit)->Prop):Prop:=bn (S:=cgf) (fun a b=>let m:=a.1.2.2.1;let j:=pp a.2.1;let i:=ou a.2.1;let g:=bm j 5;let p:=ou g;Iq m<|Oa iq a.2.1.1<|Iq a.2.1.2.1<|inK .u64 a.2.1.2.2->(Oc a.2.2.1<|cnd (decide (m<12)) (cn a.2.1/\0<=j.2.1/\dk (S:=ce8) (fun c=>let n:=c.2.2.2.1;let h:=bm c.2.1 8;let o:=ou h;Oa iq c.2.1.1<|Iq c.2.1.2.1<|inK .u64 c.2.1.2.2->(Oc c.2.2.1<|Oc n<|0<=c.2.1.2.1/\dk (S:=ce8) (fun d=>let l:=d.2.2.2.1;Oa iq d.2.1.1<|Iq d.2.1.2.1<|inK .u64 d.2.1.2.2->(Oc d.2.2.1<|Oc l<|cnd (decide (l.1<=objects)&&decide ((l.2.1.length:Int)<=arrows)&&(decide (l.1<=8)&&decide ((l.2.1.length:Int)<=40))) (K d.2.1 (l,())) (Ik (m+1)<|b (((),(),m+1,()),d.2.1,d.2.2.1,())))) (fun e=>cnd (bf c.2.1 8==0) (cn h/\CgR 20000 n/\CgR 10000 o/\e (((),(),(),()),pp h,c.2.2.1,p7 n o,())) (e (((),(),(),()),h,c.2.2.1,n,()))))) (fun f=>cnd (bf j 5==0) (cn g/\CgR 1000000000000 i/\CgR 1000000000000 p/\f (((),(),(),()),pp g,a.2.2.1,k8 i p,())) (f (((),(),(),()),g,a.2.2.1,i,())))) (RowP ([[1]].length:Int) [[1]]/\[[1]].length<=8/\K a.2.1 (cw [[1]],())))) (((),(),0,()),s,(0,[],[],[],[]),())
theorem bd3(s:ac)(objects arrows:Int)(hok:ab (gj.o.strip.oks s))(hok2:ab (okL gj.as (objects,arrows,())))(hpre:ab (gj.pre s (objects,arrows,()))):adb s objects arrows (fun z r=>yv s objects arrows z r.1):=by
 simp only[gj,O.strip,okL,T.oks,T.ok,ap,ab,a0f,a0c,a0g]at hok hok2 hpre
 try dsimp only[T.den]at hok
 try dsimp only[T.den]at hok2
 try dsimp only[T.den]at hpre
 delta adb yv Ik Iq Oa Oc Ol Om
 dsimp -proj -eta only;obtain⟨hS,o1,o8,a1,a40⟩:=hpre;refine bq (fun (s:cgf)=>0<=s.1.2.2.1/\s.1.2.2.1<=12/\cn s.2.1) (fun (s:cgf)=>(12-s.1.2.2.1).toNat) ?_ ⟨by simp,by simp,hS⟩;rintro⟨⟨_,_,t,_⟩,s1,o1',_⟩ next ⟨t0,t1,h1⟩ hnx
 intros
 try dsimp only at t0 t1 h1 hnx⊢
 refine bd (fun hc=>?_) (fun hc=>?_)
 ·have f1:=axq h1;have g1:=ko (n:=5) f1.1 (by rw[au];(try dsimp only);omega);refine⟨h1,f1.1.2,cz (fun (q:ce8)=>cn q.2.1/\CgT 20000 q.2.2.2.1) ?_ ?_⟩
  ·rintro⟨_,s2,o2,c2,_⟩ ⟨p1,p2⟩;intros
   try dsimp only at p1 p2⊢
   have g2:=ko (n:=8) p1 (by rw[au];(try dsimp only);omega);refine⟨p1.2,cz (fun (q:ce8)=>cn q.2.1/\CgT 1000000000 q.2.2.2.1) ?_ ?_⟩
   ·rintro⟨_,s3,o3,c3,_⟩ ⟨r1,r2⟩;intros
    try dsimp only at r1 r2⊢
    refine ba (fun h=>?_) (fun _=>?_)
    ·simp only[a0b,a0w]at h;exact⟨r1,r2,h.1.1,h.2.2,fun _=>h.1.2⟩
    ·exact⟨by rw[au];(try dsimp only);omega,hnx _ ⟨by dsimp only;omega,by dsimp only;omega,r1⟩ (by dsimp only;omega)⟩
   ·intro k hk;have f2:=axq g2.1;exact ba (fun _=>⟨g2.1,p2.cg,f2.2.cg,hk _ ⟨f2.1,btl p2 f2.2⟩⟩) (fun _=>hk _ ⟨g2.1,p2.le (by omega)⟩)
  ·intro k hk;have f2:=axq g1.1;exact ba (fun _=>⟨g1.1,f1.2.cg.le (by omega),f2.2.cg.le (by omega),hk _ ⟨f2.1,(ccm f1.2 f2.2 (by omega) (by omega)).le (by omega)⟩⟩) (fun _=>hk _ ⟨g1.1,f1.2.le (by omega)⟩)
 ·have hR:RowP (([[1]]:List (List Int)).length:Int) [[1]]:=⟨rfl,by decide⟩;have hp:=bed (ajk (by decide)) hR (by decide);have h3:((cw [[1]]).2.1.length:Int)<=8:=hp.2.2;have h4:(cw [[1]]).1=1:=hp.2.1;exact⟨hR,by decide,h1,(ac2 (ajk (by decide)) hR (by decide) (alu (by decide))).le (by omega),by (try dsimp only);omega,by (try dsimp only);omega,fun _=>by (try dsimp only);omega⟩
theorem acz(s:ac)(objects arrows:Int):∃q:ac×(aa×Unit),ab (gj.o.strip.oks s)->ab (okL gj.as (objects,arrows,()))->ab (gj.pre s (objects,arrows,()))->adb s objects arrows (fun z r=>z=q.1/\r=q.2)/\ab (gj.o.strip.oks q.1)/\ab (okR gj.rt q.2)/\yv s objects arrows q.1 q.2.1:=pkw (ae df (ae akr (ae abz (ae lh (ae ajw (ae acu az)))))) bg 98 Tryz.f98 gj anu [(6,90002),(8,90002)] gz (fun x y K=>adb x y.1 y.2.1 K) (fun x y z r=>yv x y.1 y.2.1 z r.1) (fun x y h1 h2 h3=>bd3 x y.1 y.2.1 h1 h2 h3) s (objects,arrows,())
def ma(s:ac)(objects arrows:Int):ac:=(acz s objects arrows).choose.1
def g7(s:ac)(objects arrows:Int):aa:=(acz s objects arrows).choose.2.1
theorem bey(s:ac)(objects arrows:Int)(hok:ab (gj.o.strip.oks s))(hok2:ab (okL gj.as (objects,arrows,())))(hpre:ab (gj.pre s (objects,arrows,()))):ab (gj.o.strip.oks (ma s objects arrows))/\ab (okR gj.rt (g7 s objects arrows,()))/\yv s objects arrows (ma s objects arrows) (g7 s objects arrows):=((acz s objects arrows).choose_spec hok hok2 hpre).2
def aoc:Wt:=⟨oc,[bc,bc],[false,false],fun x y=>[cn x,1<=y.1,y.1<=8,1<=y.2.1,y.2.1<=40],fun x y=>(ma x y.1 y.2.1),[(true,iw)],fun x y=>((g7 x y.1 y.2.1),()),0⟩
def zr:Ct:=vr aoc
theorem pv:bw Tryz.prog 98 zr:=wtb (ae df (ae akr (ae abz (ae lh (ae ajw (ae acu az)))))) bg 98 Tryz.f98 aoc anu [(6,90002),(8,90002)] (fun x y h1 h2 h3=>Eq.mp (by kernel_rfl) ((acz x y.1 y.2.1).choose_spec h1 h2 h3).1)
theorem aut{s:ac}{a b:Int}(h:cn s)(a1:1<=a)(a8:a<=8)(b1:1<=b)(b40:b<=40):cn (ma s a b)/\CgT 1000000000 (g7 s a b)/\(g7 s a b).1<=a/\((g7 s a b).2.1.length:Int)<=40/\(8<=b->((g7 s a b).2.1.length:Int)<=b):=(bey s a b h.1 (by simp only[gj,okL,T.oks,ap,ab,a0c,au];omega) ⟨h,a1,a8,b1,b40,trivial⟩).2.2
def qj:Ct:=⟨[bp,bp,ed],[true,true,false],fun x=>[ShapeP x.1,ShapeP x.2.1],[(false,kf)],fun _=>dfR _,false,none⟩
def ab2(c d:aa)(objects:List Int)(r0:Bool):Prop:=(r0=r0)
def amx:Ann:=(.s .n (.s (.s .n (.l arw [] [2,3,4] .n)) .n))
def w8(c d:aa)(objects:List Int)(K:Bool×Unit->Prop):Prop:=let i:=objects.length;bn (S:=ce7) (fun a b=>let j:=a.1.1;let h:=c.2.1.getD j.toNat 0;let g:=c.2.2.1.getD j.toNat 0;let f:=decide (h<(i:Int));let e:=decide (g<(i:Int));Iq j<|cnd (decide (j<(c.2.1.length:Int))) (Ix j c.2.1.length<|Ix j c.2.2.1.length<|((f&&e)=true->h<(i:Int)/\0<=h)/\((f&&e)=true->g<(i:Int)/\0<=g)/\((f&&e)=true->d.2.2.1.length=d.2.1.length/\d.2.1.length<=40)/\cnd (f&&e&&((ip d (objects.getD h.toNat 0) (objects.getD g.toNat 0)).length:Int)==0) (K (false,())) (Ik (j+1)<|b ((j+1,()),()))) (K (true,()))) ((0,()),())
theorem bby(c d:aa)(objects:List Int)(hok:ab (okL qj.args (c,d,objects,())))(hpre:ab (qj.pre (c,d,objects,()))):w8 c d objects (fun r=>ab2 c d objects r.1):=by
 simp only[qj,okL,T.oks,T.ok,ap,ab,a0f,a0c,a0g]at hok hpre
 try dsimp only[T.den]at hok hpre
 delta w8 ab2 Ik Iq Ix
 dsimp -proj -eta only;obtain⟨C,D⟩:=hpre;have clt:=C.lt;have cm:=C.m;clear hok;refine jc (n:=c.2.1.length) (fun _=>True) (by omega) trivial ?_ ?_
 ·intro i next i0 i1 _ hn _
  try dsimp only
  have fr:=C.frm i0 i1;refine bd (fun _=>⟨i0,i1,i0,by omega,fun h=>?_,fun h=>?_,fun _=>⟨D.lt,D.m⟩,ba (fun _=>rfl) (fun _=>⟨by rw[au];(try dsimp only);omega,hn trivial⟩)⟩) (fun h=>absurd i1 h)
  ·simp only[a0b,a0w]at h;exact⟨h.1,fr.1⟩
  ·simp only[a0b,a0w]at h;exact⟨h.2,fr.2.2.1⟩
 ·intro next _ _
  try dsimp only
  exact bd (fun h=>absurd h (a1b _)) (fun _=>rfl)
theorem aow(c d:aa)(objects:List Int):∃q:Bool×Unit,ab (okL qj.args (c,d,objects,()))->ab (qj.pre (c,d,objects,()))->w8 c d objects (fun r=>r=q)/\ab (okR qj.rt q)/\ab2 c d objects q.1:=pkb (ae y5 az) bg 147 Tryz.f147 qj amx [(4,11),(5,20)] (fun x K=>w8 x.1 x.2.1 x.2.2.1 K) (fun x r=>ab2 x.1 x.2.1 x.2.2.1 r.1) (fun x h1 h2=>bby x.1 x.2.1 x.2.2.1 h1 h2) (c,d,objects,())
def yf(c d:aa)(objects:List Int):Bool:=(aow c d objects).choose.1
def ab4:Ct:=⟨[bp,bp,ed],[true,true,false],fun x=>[ShapeP x.1,ShapeP x.2.1],[(false,kf)],fun x=>((yf x.1 x.2.1 x.2.2.1),()),false,none⟩
theorem ay5:bw Tryz.prog 147 ab4:=ctb (ae y5 az) bg 147 Tryz.f147 ab4 amx [(4,11),(5,20)] (fun x K=>w8 x.1 x.2.1 x.2.2.1 K) (fun x h1 h2=>((aow x.1 x.2.1 x.2.2.1).choose_spec h1 h2).1)
def stR(c d:aa)(ob:List Int):Nat->List Int
 |0=>List.replicate c.2.1.length (-1)
 |n+1=>(stR c d ob n).set (c.2.2.2.1.getD n 0).toNat (d.2.2.2.1.getD (ob.getD n 0).toNat 0)
def aj7(c d:aa)(ob:List Int)(fd:List am)(l:List Int):List am:=if (fd.length:Int)<=200 then fd++[(c,d,ob,l)]else fd
def acd(c d:aa):Nat->List Int->List am->List am
 |0,_,found=>found
 |n+1,ob,found=>
  if yf c d ob=false then found else
  if (ob.length:Int)=c.1 then (acs c d ob ((((stR c d ob ob.length).length:Int)-0).toNat+1) (stR c d ob ob.length) 0 []).foldl (aj7 c d ob) found else
  (bh d.1.toNat fun y=>y).foldl (fun fd y=>if (fd.length:Int)<=200 then acd c d n (ob++[y]) fd else fd) found
def amq(c d:aa)(n:Nat)(ob:List Int)(fd:List am)(y:Int):List am:=if (fd.length:Int)<=200 then acd c d n (ob++[y]) fd else fd
theorem bpy{c d:aa}{n:Nat}{ob:List Int}{found:List am}:acd c d (n+1) ob found=if yf c d ob=false then found else if (ob.length:Int)=c.1 then (acs c d ob ((((stR c d ob ob.length).length:Int)-0).toNat+1) (stR c d ob ob.length) 0 []).foldl (aj7 c d ob) found else (bh d.1.toNat fun y=>y).foldl (amq c d n ob) found:=rfl
theorem bgt{c d:aa}{ob:List Int}{fd:List am}(h:¬(fd.length:Int)<=200):∀l:List (List Int),l.foldl (aj7 c d ob) fd=fd
 |[]=>rfl
 |x::r=>by
  rw[a10];have:aj7 c d ob fd x=fd:=by unfold aj7;rw[ds h]
  rw[this];exact bgt h r
theorem bgl{c d:aa}{n:Nat}{ob:List Int}{fd:List am}(h:¬(fd.length:Int)<=200):∀l:List Int,l.foldl (amq c d n ob) fd=fd
 |[]=>rfl
 |x::r=>by
  rw[a10];have:amq c d n ob fd x=fd:=by unfold amq;rw[ds h]
  rw[this];exact bgl h r
theorem awq{c d:aa}:∀(n:Nat)(ob:List Int)(found:List am),found.length<=200->(acd c d n ob found).length<=201
 |0,ob,found,h=>a0z h (by omega)
 |n+1,ob,found,h=>by
  rw[bpy];split
  ·omega
  split
  ·refine aay (P:=fun l:List am=>l.length<=201) (fun s x hs=>?_) _ _ (by omega);unfold aj7;split
   ·rw[a0m];simp only[a0h,a0i];omega
   ·exact hs
  ·refine aay (P:=fun l:List am=>l.length<=201) (fun s x hs=>?_) _ _ (by omega);unfold amq;split
   ·exact awq n _ _ (by omega)
   ·exact hs
theorem bwa{c d:aa}{a b:Int}{s:aef}:(ahz c d a b s).1.length=s.1.length:=by
 unfold ahz;split
 ·rfl
 split
 ·rfl
 split
 ·rfl
 ·exact a1m
theorem bag{c d:aa}{a:Int}{s:aef}:∀n:Nat,(s8 c d a n s).1.length=s.1.length
 |0=>rfl
 |n+1=>bwa.trans (bag n)
theorem bau{c d:aa}{m:Nat}{s:aef}:∀n:Nat,(ug c d m n s).1.length=s.1.length
 |0=>rfl
 |n+1=>(bag m).trans (bau n)
theorem bjc{c d:aa}:∀(n:Nat)(arr:List Int),(aug c d n arr).1.length=arr.length
 |0,arr=>rfl
 |n+1,arr=>by
  have h:(ug c d arr.length arr.length (arr,false,true)).1.length=arr.length:=bau _;rw[aug];split
  ·exact h
  ·split
   ·rw[bjc n];exact h
   ·exact h
theorem bea{c d:aa}{ob:List Int}{M:Nat}:∀(n:Nat)(arr:List Int)(f:Int)(found:List (List Int)),arr.length=M->(∀r∈found,r.length=M)->∀r∈acs c d ob n arr f found,r.length=M
 |0,arr,f,found,_,h=>h
 |n+1,arr,f,found,ha,h=>by
  rw[bpx];split
  ·intro r hr;rcases a07.1 hr with hr|hr
   ·exact h r hr
   ·rw[a0s.1 hr];exact ha
  ·refine aay (P:=fun l:List (List Int)=>∀r∈l,r.length=M) (fun s x hs=>?_) _ _ h;unfold aih;split
   ·split
    ·exact bea n _ _ _ ((bjc _ _).trans (List.length_set.trans ha)) hs
    ·exact hs
   ·exact hs
theorem baf{c d:aa}{ob:List Int}:∀n:Nat,(stR c d ob n).length=c.2.1.length
 |0=>a05
 |n+1=>List.length_set.trans (baf n)
theorem st_o{c d:aa}{ob:List Int}(C:TyP c)(D:TyP d)(hm:c.2.1.length<=1000000)(hl:(ob.length:Int)<=c.1)(hr:∀x∈ob,0<=x/\x<d.1):∀n:Nat,n<=ob.length->FrcO c d (fun x=>ob.getD x.toNat 0) (stR c d ob n)
 |0,_=>⟨C,D,a05,hm,fun a a0 a1 ha=>by have:(List.replicate c.2.1.length (-1:Int)).getD a.toNat 0=-1:=al1 a0 a1;have e:(stR c d ob 0).getD a.toNat 0=-1:=this;rw[e]at ha;omega⟩
 |n+1,h=>by
  have ih:=st_o C D hm hl hr n (by omega);have hx:=hr _ (cp ob 0 (i:=(n:Int)) (by omega) (by omega));rw[a0y]at hx;have ic:=C.idn (n:Int) (by omega) (by omega);rw[a0y]at ic;have id:=D.idn _ hx.1 hx.2;refine ih.set ic.1 ic.2.1 id.2.1 ?_ ?_
  ·rw[id.2.2.1,ic.2.2.1,a0y]
  ·rw[id.2.2.2,ic.2.2.2,a0y]
structure SrhP (c d:aa) (ob:List Int) (found:List am):Prop where
 C:ShapeP c
 D:ShapeP d
 l:(ob.length:Int)<=c.1
 r:∀x∈ob,0<=x/\x<d.1
 fd:found.length<=200
def se:Wu:=⟨av5,[bp,bp,ed],[true,true,false],fun x y=>[SrhP y.1 y.2.1 y.2.2.1 x],[(false,av5)],fun x y=>(acd y.1 y.2.1 ((y.1.1-y.2.2.1.length).toNat+1) y.2.2.1 x,()),3⟩
def azf:Ct:=asg se
def aea(x:(av5:O).strip.den)(y:db [bp,bp,ed]):Nat:=(y.1.1-y.2.2.1.length).toNat
def nh(n:Nat):Wu:=⟨av5,[bp,bp,ed],[true,true,false],fun x y=>[aea x y<n,SrhP y.1 y.2.1 y.2.2.1 x],[(false,av5)],fun x y=>(acd y.1 y.2.1 n y.2.2.1 x,()),3⟩
def amk(n:Nat):Ct:=asg (nh n)
def ak2:Ann:=(.s .n (.s .n (.s (.s .n (.s (.s .n (.s (.s .n (.l [(3,(.ref 999900 [])),(4,(.ad 4 [.de])),(5,(.ad 5 [.de])),(9,(.ref 800009 [])),(10,(.d bc))] bx1 [2] .n)) (.s (.s .n (.l [(3,(.ref 999900 [])),(4,(.ad 4 [.de])),(5,(.ad 5 [.de])),(9,(.ref 800009 [])),(11,(.d bc))] bx1 [2] .n)) (.s .n (.s (.s .n (.l [(3,(.ref 999900 [])),(4,(.ad 4 [.de])),(5,(.ad 5 [.de])),(13,(.d bc))] [(999900,bw5),(4,ac8),(5,ac8)] [2,12] .n)) .n))))) .n)) (.s (.s .n (.l [(3,(.ref 999900 [])),(4,(.ad 4 [.de])),(5,(.ad 5 [.de])),(14,(.d bc))] [(999900,bw5),(4,ac8),(5,ac8)] [2] .n)) .n))))
def afj(n:Nat)(found:List am)(c d:aa)(objects:List Int)(K:(List am)×Unit->Prop):Prop:=let p:=objects.length;ShapeP c/\ShapeP d/\cnd (!yf c d objects) (K (found,())) (cnd ((p:Int)==c.1) (bn (S:=cfl) (fun a b=>let u:=a.2.2;let r:=a.1.2.2.2.2.1;Iq r<|T.ok (.sl jq) a.2.1->(Oc u.1<|Oc u.2.1<|Ol u.2.2.1<|cnd (decide (r<(u.1.2.1.length:Int))) (c9 u.2.2.1.length [-1].length 8/\(Ik (r+1)<|b (((),(),(),(),r+1,()),a.2.1,u.1,u.2.1,u.2.2.1++[-1],()))) (bn (S:=cfl) (fun e f=>let y:=e.2.2.1;let q:=e.2.2.2;let l:=e.1.2.2.2.2.1;let z:=objects.getD l.toNat 0;let v:=y.2.2.2.1.getD l.toNat 0;let k:=acs y q.1 objects (Int.toNat ((q.2.1.length:Int)-0)+1) q.2.1 0 [];Iq l<|T.ok (.sl jq) e.2.1->(Oc y<|Oc q.1<|Ol q.2.1<|cnd (decide (l<(p:Int))) (Ix l y.2.2.2.1.length<|Ix l p<|Ix z q.1.2.2.2.1.length<|Ix v q.2.1.length<|Ik (l+1)<|f (((),(),(),(),l+1,()),e.2.1,y,q.1,List.set q.2.1 v.toNat (q.1.2.2.2.1.getD z.toNat 0),())) (ArwP y q.1 objects q.2.1 0 []/\bn (S:=cfr) (fun g h=>let a0:=g.2.2.1;let w:=g.2.2.2.1;let m:=g.1.2.2.2.1;let t:=k.getD m.toNat [];Iq m<|T.ok (.sl jq) g.2.1->(Oc a0<|Oc w<|cnd (decide (m<(k.length:Int))&&decide ((g.2.1.length:Int)<=200)) (Ix m k.length<|ShapeP a0/\ShapeP w/\p<=1099511627776/\t.length<=1099511627776/\c9 g.2.1.length ((a0,w,objects,t)::([]:List cey)).length 256/\(Ik (m+1)<|h (((),(),(),m+1,()),g.2.1++(a0,w,objects,t)::([]:List cey),a0,w,()))) (K (g.2.1,())))) (((),(),(),0,()),e.2.1,y,q.1,())))) (((),(),(),(),0,()),a.2.1,u.1,u.2.1,u.2.2.1,())))) (((),(),(),(),0,()),found,c,d,[],())) (bn (S:=cfr) (fun i j=>let a1:=i.2.2.1;let x:=i.2.2.2.1;let o:=i.1.2.2.2.1;Iq o<|T.ok (.sl jq) i.2.1->(Oc a1<|Oc x<|cnd (decide (o<x.1)&&decide ((i.2.1.length:Int)<=200)) (p<=1099511627776/\c9 p [o].length 8/\Int.toNat (a1.1-((objects++[o]).length:Int))<n/\SrhP a1 x (objects++[o]) i.2.1/\(Ik (o+1)<|j (((),(),(),o+1,()),acd a1 x n (objects++[o]) i.2.1,a1,x,()))) (K (i.2.1,())))) (((),(),(),0,()),found,c,d,())))
theorem azq(n:Nat)(x:se.o.strip.den)(y:db se.as)(K:(List am)×Unit->Prop):bly tab (lkp [(132,amk n),(143,jt),(148,afg),(133,vw),(147,ab4)]) (tq [(17,508),(22,500000065007),(12,514)]) Tryz.f132 (kh Tryz.f132) ak2 (nh (n+1)) x y K=afj n x y.1 y.2.1 y.2.2.1 K:=by kernel_rfl
theorem ax6(n:Nat)(found:List am)(c d:aa)(objects:List Int)(hok:ab (se.o.strip.oks found))(hok2:ab (okL se.as (c,d,objects,())))(hpre:ab ((nh (n+1)).pre found (c,d,objects,()))):afj n found c d objects (fun r=>r=(nh (n+1)).res found (c,d,objects,())):=by
 simp only[se,nh,O.strip,okL,T.oks,T.ok,ap,ab,a0f,a0c,a0g]at hok hok2 hpre
 try dsimp only[T.den]at hok
 try dsimp only[T.den]at hok2
 try dsimp only[T.den]at hpre
 delta afj Ik Iq Ix Oc Ol Om
 dsimp -proj -eta only;obtain⟨hmu,hP⟩:=hpre;have C:=hP.C;have D:=hP.D;have hol:=hP.l;have hr:=hP.r;have hfd:=hP.fd;have cm:=C.m;have co:=C.ob;have cli:=C.li;have dli:=D.li;have do_:=D.ob;clear hok hok2;refine⟨C,D,?_⟩;have hres:(nh (n+1)).res found (c,d,objects,())=(acd c d (n+1) objects found,()):=rfl;rw[hres,bpy];refine ba (fun h=>?_) (fun h=>?_)
 ·rw[a0a (by simpa using h)]
 rw[ds (by simpa using h)];refine ba (fun he=>?_) (fun he=>?_)
 ·have he:(objects.length:Int)=c.1:=by simpa using he
  rw[a0a he];have hST:=fun k hk=>st_o (ayi C) (ayi D) (by omega) hol hr k hk;refine bq (fun (s:cfl)=>0<=s.1.2.2.2.2.1/\s.1.2.2.2.2.1<=c.2.1.length/\s.2.1=found/\s.2.2.1=c/\s.2.2.2.1=d/\s.2.2.2.2.1=List.replicate s.1.2.2.2.2.1.toNat (-1)) (fun (s:cfl)=>(c.2.1.length-s.1.2.2.2.2.1).toNat) ?_ ⟨by simp,by simp,rfl,rfl,rfl,rfl⟩;rintro⟨⟨_,_,_,_,f,_⟩,fd1,c1,d1,st,_⟩ next ⟨f0,f1,q1,q2,q3,q4⟩ hnx
  intros
  try dsimp only at f0 f1 q1 q2 q3 q4 hnx⊢
  subst q1;subst q2;subst q3;subst q4;refine bd (fun hf=>⟨ck (by rw[a05];simp only[a0h,a0i];omega),by rw[au];(try dsimp only);omega,hnx _ ⟨by dsimp only;omega,by dsimp only;omega,rfl,rfl,rfl,by dsimp only;rw[show (f+1).toNat=f.toNat+1 by omega,a32]⟩ (by dsimp only;omega)⟩) (fun hf=>?_);have ef:f=c1.2.1.length:=by omega
  subst ef;refine bq (fun (s:cfl)=>0<=s.1.2.2.2.2.1/\s.1.2.2.2.2.1<=objects.length/\s.2.1=fd1/\s.2.2.1=c1/\s.2.2.2.1=d1/\s.2.2.2.2.1=stR c1 d1 objects s.1.2.2.2.2.1.toNat) (fun (s:cfl)=>(objects.length-s.1.2.2.2.2.1).toNat) ?_ ⟨by simp,by simp,rfl,rfl,rfl,rfl⟩;rintro⟨⟨_,_,_,_,x,_⟩,fd2,c2,d2,st,_⟩ next1 ⟨x0,x1,q1,q2,q3,q4⟩ hn1;intros
  try dsimp only at x0 x1 q1 q2 q3 q4 hn1⊢
  subst q1;subst q2;subst q3;subst q4;refine bd (fun hx=>?_) (fun hx=>?_)
  ·have ho:=hr _ (cp objects 0 x0 hx);have ic:=C.idn x0 (by omega);refine⟨x0,by omega,x0,hx,ho.1,by omega,ic.1,by rw[baf];exact ic.2.1,by rw[au];(try dsimp only);omega,hn1 _ ⟨by dsimp only;omega,by dsimp only;omega,rfl,rfl,rfl,?_⟩ (by dsimp only;omega)⟩
   try dsimp only
   rw[show (x+1).toNat=x.toNat+1 by omega];rfl
  have ex:x=objects.length:=by omega
  subst ex;rw[a0y];refine⟨⟨hST _ (a0k _),cm,D.m,he,a02 _,by omega,by simp⟩,?_⟩;have hrow:=fun r (hr2:r∈acs c2 d2 objects ((((stR c2 d2 objects objects.length).length:Int)-0).toNat+1) (stR c2 d2 objects objects.length) 0 [])=>bea (M:=c2.2.1.length) _ _ _ _ (baf _) (fun r hr=>by cases hr) r hr2;have hLl:=@bcs c2 d2 objects ((((stR c2 d2 objects objects.length).length:Int)-0).toNat+1) (stR c2 d2 objects objects.length) 0 [] (by simp);generalize acs c2 d2 objects ((((stR c2 d2 objects objects.length).length:Int)-0).toNat+1) (stR c2 d2 objects objects.length) 0 []=L at *;refine bq (fun (s:cfr)=>0<=s.1.2.2.2.1/\s.1.2.2.2.1<=L.length/\s.2.1=(L.take s.1.2.2.2.1.toNat).foldl (aj7 c2 d2 objects) fd2/\s.2.1.length<=201/\s.2.2.1=c2/\s.2.2.2.1=d2) (fun (s:cfr)=>(L.length-s.1.2.2.2.1).toNat) ?_ ⟨by simp,by simp,rfl,by dsimp only;omega,rfl,rfl⟩;rintro⟨⟨_,_,_,i,_⟩,fd3,c3,d3,_⟩ next2 ⟨i0,i1,q1,hfl,q2,q3⟩ hn2;intros
  try dsimp only at i0 i1 q1 hfl q2 q3 hn2⊢
  subst q2;subst q3;refine ba (fun hx=>?_) (fun hx=>?_)
  ·simp only[a0b,a0w]at hx;have ht:=mm L [] i0 hx.1;have hw:=hrow _ (cp L [] i0 hx.1);refine⟨i0,hx.1,C,D,by omega,by omega,ck (by simp only[a0h,a0i];omega),by rw[au];(try dsimp only);omega,hn2 _ ⟨by dsimp only;omega,by dsimp only;omega,?_,?_,rfl,rfl⟩ (by dsimp only;omega)⟩
   ·try dsimp only
    rw[ht,a11,←q1];show _=aj7 _ _ _ fd3 _;unfold aj7;rw[a0a hx.2]
   ·try dsimp only
    rw[a0m];simp only[a0h,a0i];omega
  ·have hfin:L.foldl (aj7 c3 d3 objects) fd2=fd3:=by
    by_cases e:i<L.length
    ·rw[a1p e,a1v,a1o]at hx
     conv=>lhs;rw[←a1x i.toNat L]
     rw[a11,←q1];exact bgt hx _
    ·rw[q1,a1c (by omega)]
   rw[hfin]
 ·have he:¬(objects.length:Int)=c.1:=by simpa using he
  rw[ds he];generalize hL:(bh d.1.toNat fun y=>y)=L;have hLl:L.length=d.1.toNat:=by rw[←hL];exact bj _
  have hLg:∀y:Int,0<=y->y<d.1->L.getD y.toNat 0=y:=fun y y0 y1=>by rw[←hL];exact d6 y0 (by omega)
  refine bq (fun (s:cfr)=>0<=s.1.2.2.2.1/\s.1.2.2.2.1<=d.1/\s.2.1=(L.take s.1.2.2.2.1.toNat).foldl (amq c d n objects) found/\s.2.1.length<=201/\s.2.2.1=c/\s.2.2.2.1=d) (fun (s:cfr)=>(d.1-s.1.2.2.2.1).toNat) ?_ ⟨by simp,do_.1,rfl,by dsimp only;omega,rfl,rfl⟩;rintro⟨⟨_,_,_,y,_⟩,fd3,c3,d3,_⟩ next2 ⟨y0,y1,q1,hfl,q2,q3⟩ hn2;intros
  try dsimp only at y0 y1 q1 hfl q2 q3 hn2⊢
  subst q2;subst q3;refine ba (fun hx=>?_) (fun hx=>?_)
  ·simp only[a0b,a0w]at hx;have ht:=mm L 0 y0 (by omega);rw[hLg y y0 hx.1]at ht;refine⟨by omega,ck (by simp only[a0h,a0i];omega),?_,⟨C,D,?_,?_,by omega⟩,by rw[au];(try dsimp only);omega,hn2 _ ⟨by dsimp only;omega,by dsimp only;omega,?_,awq n _ _ (by omega),rfl,rfl⟩ (by dsimp only;omega)⟩
   ·simp only[aea]at hmu;rw[a0m];simp only[a0h,a0i];omega
   ·rw[a0m];simp only[a0h,a0i];omega
   ·intro z hz;rcases a07.1 hz with hz|hz
    ·exact hr z hz
    ·rw[a0s.1 hz];exact⟨y0,hx.1⟩
   ·try dsimp only
    rw[ht,a11,←q1];show _=amq _ _ _ _ fd3 _;unfold amq;rw[a0a hx.2]
  ·have hfin:L.foldl (amq c3 d3 n objects) found=fd3:=by
    by_cases e:y<d3.1
    ·rw[a1p e,a1v,a1o]at hx
     conv=>lhs;rw[←a1x y.toNat L]
     rw[a11,←q1];exact bgl hx _
    ·rw[q1,a1c (by omega)]
   rw[hfin]
theorem axa:bw Tryz.prog 132 azf:=bsr aea (g:=fun n=>(nh n).res) (t6 (fn:=Tryz.f132) (c:=kh Tryz.f132) (by kernel_rfl) (by kernel_rfl) (by kernel_rfl)) (fun x y=>rfl) (fun n ih=>bxf (Φ:=lkp [(132,amk n),(143,jt),(148,afg),(133,vw),(147,ab4)]) (ae ih (ae mz (ae axc (ae agf (ae ay5 az))))) bg (by kernel_rfl) (fn:=Tryz.f132) (c:=kh Tryz.f132) (by kernel_rfl) (by kernel_rfl) (by kernel_rfl) (nh (n+1)) ak2 (tq [(17,508),(22,500000065007),(12,514)]) (by kernel_rfl) (a08 rfl) (by kernel_rfl) (by kernel_rfl) (a08 rfl) (fun x y h1 h2 h3=>(azq n x y _).mpr (ax6 n x y.1 y.2.1 y.2.2.1 h1 h2 h3)))
def w6:Ct:=⟨[bp,bp],[true,true],fun x=>[ShapeP x.1,ShapeP x.2.1],[(false,av5)],fun x=>(acd x.1 x.2.1 (x.1.1.toNat+1) [] [],()),true,none⟩
def akg(c d:aa)(K:(List am)×Unit->Prop):Prop:=SrhP c d [] ([]:List cey)/\K (acd c d (Int.toNat (c.1-(([]:List Int).length:Int))+1) [] ([]:List cey),())
theorem bg7(c d:aa)(hok:ab (okL w6.args (c,d,())))(hpre:ab (w6.pre (c,d,()))):akg c d (fun r=>r=w6.res (c,d,())):=by
 simp only[w6,okL,T.oks,T.ok,ap,ab,a0f,a0c,a0g]at hok hpre
 try dsimp only[T.den]at hok hpre
 unfold akg;obtain⟨C,D⟩:=hpre;refine⟨⟨C,D,by have:=C.ob;simp only[a0i];omega,fun x hx=>(a3x hx).elim,a1j _⟩,?_⟩;show (acd c d ((c.1-((0:Nat):Int)).toNat+1) [] [],())=(acd c d (c.1.toNat+1) [] [],());rw[show (c.1-((0:Nat):Int)).toNat=c.1.toNat by omega]
theorem ade:bw Tryz.prog 103 w6:=ctb (ae axa az) bg 103 Tryz.f103 w6 .n [] (fun x K=>akg x.1 x.2.1 K) (fun x h1 h2=>bg7 x.1 x.2.1 h1 h2)
def bdo(c:aa):am:=(c,(c,(bh c.1.toNat fun x=>x,bh c.2.1.length fun a=>a)))
def o9:Ct:=⟨[bp],[true],fun x=>[ShapeP x.1],[(true,av3)],fun x=>(bdo x.1,()),true,none⟩
def bbo:Ann:=(.s .n (.s .n (.s (.s .n (.l [(2,(.ad 2 [.de])),(3,(.ref 800003 [])),(5,(.d bc))] [(2,au6),(800003,dq)] [1,4] .n)) (.s (.s .n (.l [(2,(.ad 2 [.de])),(4,(.ref 800004 [])),(6,(.d bc))] [(2,au6),(800004,dq)] [1,3] .n)) .n))))
def ahv(c:aa)(K:am×Unit->Prop):Prop:=bn (S:=cfp) (fun a b=>let h:=a.2.2.1;let f:=a.1.2.2.1;Iq f<|Of a.2.1<|Ol h<|cnd (decide (f<c.1)) (c9 h.length [f].length 8/\(Ik (f+1)<|b (((),(),f+1,()),a.2.1,h++[f],()))) (bn (S:=cfp) (fun d e=>let i:=d.2.2.1;let g:=d.1.2.2.1;Iq g<|Of d.2.1<|Ol i<|cnd (decide (g<(c.2.1.length:Int))) (c9 i.length [g].length 8/\(Ik (g+1)<|e (((),(),g+1,()),d.2.1,i++[g],()))) (ShapeP c/\ShapeP c/\h.length<=1099511627776/\i.length<=1099511627776/\K ((c,c,h,i),()))) (((),(),0,()),a.2.1,[],()))) (((),(),0,()),((0,[],[],[],[]),(0,[],[],[],[]),[],[]),[],())
theorem be0(c:aa)(hok:ab (okL o9.args (c,())))(hpre:ab (o9.pre (c,()))):ahv c (fun r=>r=o9.res (c,())):=by
 simp only[o9,okL,T.oks,T.ok,ap,ab,a0f,a0c,a0g]at hok hpre
 try dsimp only[T.den]at hok hpre
 delta ahv Ik Iq Oc Of Ol Om
 dsimp -proj -eta only;have C:ShapeP c:=hpre;have cm:=C.m;have co:=C.ob;clear hok hpre;refine bq (fun (s:cfp)=>0<=s.1.2.2.1/\s.1.2.2.1<=c.1/\s.2.2.1=bh s.1.2.2.1.toNat fun x=>x) (fun (s:cfp)=>(c.1-s.1.2.2.1).toNat) ?_ ⟨by simp,co.1,rfl⟩;rintro⟨⟨_,_,x,_⟩,o1,l,_⟩ next ⟨x0,x1,hl⟩ hnx
 intros
 try dsimp only at x0 x1 hl hnx⊢
 subst hl;refine bd (fun hx=>⟨ck (by rw[bj];simp only[a0h,a0i];omega),by rw[au];(try dsimp only);omega,hnx _ ⟨by dsimp only;omega,by dsimp only;omega,by dsimp only;rw[kq x0]⟩ (by dsimp only;omega)⟩) (fun hx=>?_);have ex:x=c.1:=by omega
 subst ex;refine bq (fun (s:cfp)=>0<=s.1.2.2.1/\s.1.2.2.1<=c.2.1.length/\s.2.2.1=bh s.1.2.2.1.toNat fun x=>x) (fun (s:cfp)=>(c.2.1.length-s.1.2.2.1).toNat) ?_ ⟨by simp,by simp,rfl⟩;rintro⟨⟨_,_,a,_⟩,o2,l2,_⟩ next1 ⟨a0,a1,hl2⟩ hn1;intros
 try dsimp only at a0 a1 hl2 hn1⊢
 subst hl2;refine bd (fun ha=>⟨ck (by rw[bj];simp only[a0h,a0i];omega),by rw[au];(try dsimp only);omega,hn1 _ ⟨by dsimp only;omega,by dsimp only;omega,by dsimp only;rw[kq a0]⟩ (by dsimp only;omega)⟩) (fun ha=>?_);have ea:a=c.2.1.length:=by omega
 subst ea;refine⟨C,C,by rw[bj];omega,by rw[bj];omega,?_⟩;simp only[o9,bdo];rw[a0y]
theorem ab1:bw Tryz.prog 104 o9:=ctb (ae agf az) bg 104 Tryz.f104 o9 bbo [] (fun x K=>ahv x.1 K) (fun x h1 h2=>be0 x.1 h1 h2)
def ac9:Ct:=⟨[bp,bc],[true,false],fun x=>[ShapeP x.1,0<=x.2.1,x.2.1<x.1.2.1.length],[(false,kf)],fun x=>(idR x.1 x.2.1,()),false,none⟩
def aie(c:aa)(f:Int)(K:Bool×Unit->Prop):Prop:=let a:=c.2.1.getD f.toNat 0;Ix f c.2.1.length<|Ix a c.2.2.2.1.length<|K (c.2.2.2.1.getD a.toNat 0==f,())
theorem bdx(c:aa)(f:Int)(hok:ab (okL ac9.args (c,f,())))(hpre:ab (ac9.pre (c,f,()))):aie c f (fun r=>r=ac9.res (c,f,())):=by
 simp only[ac9,okL,T.oks,T.ok,ap,ab,a0f,a0c,a0g]at hok hpre
 try dsimp only[T.den]at hok hpre
 delta aie Ix
 dsimp -proj -eta only;have S:ShapeP c:=hpre.1;have a:=S.frm hpre.2.1 hpre.2.2;have:=S.li;exact⟨hpre.2.1,hpre.2.2,a.1,by omega,rfl⟩
theorem aov:bw Tryz.prog 146 ac9:=ctb az bg 146 Tryz.f146 ac9 .n [(1,12)] (fun x K=>aie x.1 x.2.1 K) (fun x h1 h2=>bdx x.1 x.2.1 h1 h2)
def po:Ct:=⟨[bp],[true],fun x=>[ShapeP x.1],[(false,dq)],fun _=>dfR _,false,none⟩
def aah(c:aa)(r0:List Int):Prop:=r0.length<=c.2.1.length
def ak1:Ann:=(.s .n (.s .n (.s (.s .n (.l bhk baw [1] (.s .n (.s (.s .n (.j [(3,(.ref 800003 []))] baw [1,4] .n)) .n)))) .n)))
def wa(c:aa)(K:(List Int)×Unit->Prop):Prop:=bn (S:=(ce4×cez)) (fun a b=>let f:=a.1.2.1;Iq f<|Ol a.2.1<|cnd (decide (f<(c.2.1.length:Int))) (ShapeP c/\(Ix f c.2.1.length<|dk (S:=cfo) (fun d=>Ol d.2.1<|Ik (f+1)<|b (((),f+1,()),d.2.1,())) (fun e=>cnd (!idR c f) (c9 a.2.1.length [f].length 8/\e (((),()),a.2.1++[f],())) (e (((),()),a.2.1,()))))) (K (a.2.1,()))) (((),0,()),[],())
theorem ax0(c:aa)(hok:ab (okL po.args (c,())))(hpre:ab (po.pre (c,()))):wa c (fun r=>aah c r.1):=by
 simp only[po,okL,T.oks,T.ok,ap,ab,a0f,a0c,a0g]at hok hpre
 try dsimp only[T.den]at hok hpre
 delta wa aah Ik Iq Ix Ol
 dsimp -proj -eta only;have C:ShapeP c:=hpre;have cm:=C.m;clear hok hpre;refine bq (fun (s:(ce4×cez))=>0<=s.1.2.1/\s.1.2.1<=c.2.1.length/\(s.2.1.length:Int)<=s.1.2.1) (fun (s:(ce4×cez))=>(c.2.1.length-s.1.2.1).toNat) ?_ ⟨by simp,by simp,by simp⟩;rintro⟨⟨_,f,_⟩,l,_⟩ next ⟨f0,f1,hl⟩ hnx _ _
 try dsimp only at f0 f1 hl hnx⊢
 refine bd (fun hf=>⟨C,f0,hf,cz (fun (q:cfo)=>(q.2.1.length:Int)<=f+1) ?_ (fun k hk=>ba (fun _=>⟨ck (by simp only[a0h,a0i];omega),hk _ ?_⟩) (fun _=>hk _ (by dsimp only;omega)))⟩) (fun hf=>by omega)
 ·rintro⟨_,l2,_⟩ h2 _
  try dsimp only at h2⊢
  exact⟨by rw[au];(try dsimp only);omega,hnx _ ⟨by dsimp only;omega,by dsimp only;omega,h2⟩ (by dsimp only;omega)⟩
 ·try dsimp only
  rw[a0m];simp only[a0h,a0i];omega
theorem amv(c:aa):∃q:(List Int)×Unit,ab (okL po.args (c,()))->ab (po.pre (c,()))->wa c (fun r=>r=q)/\ab (okR po.rt q)/\aah c q.1:=pkb (ae aov az) bg 131 Tryz.f131 po ak1 [] (fun x K=>wa x.1 K) (fun x r=>aah x.1 r.1) (fun x h1 h2=>ax0 x.1 h1 h2) (c,())
def ajc(c:aa):List Int:=(amv c).choose.1
def ama:Ct:=⟨[bp],[true],fun x=>[ShapeP x.1],[(false,dq)],fun x=>((ajc x.1),()),false,none⟩
theorem akt:bw Tryz.prog 131 ama:=ctb (ae aov az) bg 131 Tryz.f131 ama ak1 [] (fun x K=>wa x.1 K) (fun x h1 h2=>((amv x.1).choose_spec h1 h2).1)
def qe:Ct:=⟨[bp,bp],[true,true],fun x=>[ShapeP x.1],[(false,kf)],fun _=>dfR _,false,none⟩
def abt(c d:aa)(r0:Bool):Prop:=(r0=r0)
def xz(c d:aa)(K:Bool×Unit->Prop):Prop:=ShapeP c/\K (decide (((ajc c).length:Int)<=8)&&decide ((d.2.1.length:Int)<=16),())
theorem baa(c d:aa)(hok:ab (okL qe.args (c,d,())))(hpre:ab (qe.pre (c,d,()))):xz c d (fun r=>abt c d r.1):=by
 simp only[qe,okL,T.oks,T.ok,ap,ab,a0f,a0c,a0g]at hok hpre
 try dsimp only[T.den]at hok hpre
 unfold xz abt;exact⟨hpre,rfl⟩
theorem an2(c d:aa):∃q:Bool×Unit,ab (okL qe.args (c,d,()))->ab (qe.pre (c,d,()))->xz c d (fun r=>r=q)/\ab (okR qe.rt q)/\abt c d q.1:=pkb (ae akt az) bg 102 Tryz.f102 qe .n [] (fun x K=>xz x.1 x.2.1 K) (fun x r=>abt x.1 x.2.1 r.1) (fun x h1 h2=>baa x.1 x.2.1 h1 h2) (c,d,())
def adz(c d:aa):Bool:=(an2 c d).choose.1
def ab7:Ct:=⟨[bp,bp],[true,true],fun x=>[ShapeP x.1],[(false,kf)],fun x=>((adz x.1 x.2.1),()),false,none⟩
theorem zw:bw Tryz.prog 102 ab7:=ctb (ae akt az) bg 102 Tryz.f102 ab7 .n [] (fun x K=>xz x.1 x.2.1 K) (fun x h1 h2=>((an2 x.1 x.2.1).choose_spec h1 h2).1)
theorem ar8{c:aa}(C:TyP c)(h8:c.1<=8)(h40:c.2.1.length<=40):ShapeP c:=by
 have hlt:=C.lt;have hli:=C.li;have hob:=C.ob;refine⟨⟨C.ob,h8⟩,h40,C.lt,?_,?_,C.li,?_,C.lc,fun x x0 x1=>(C.idn x x0 x1).2.2,C.row,fun f g f0 f1 g0 g1=>?_⟩
 ·exact ep.2 fun i i0 i1=>C.fr i i0 i1
 ·exact ep.2 fun i i0 i1=>C.to i i0 (by omega)
 ·exact ep.2 fun i i0 i1=>⟨(C.idn i i0 (by omega)).1,(C.idn i i0 (by omega)).2.1⟩
 ·unfold vu yi;split
  ·rename_i h;have:=C.yes f g f0 f1 g0 g1 h;rw[a0w];exact this
  ·rename_i h;rw[a0w];exact C.no f g f0 f1 g0 g1 h
theorem bak{s:ac}{a b:Int}(h:cn s)(a1:1<=a)(a8:a<=8)(b1:1<=b)(b40:b<=40):ShapeP (g7 s a b):=by have g:=aut h a1 a8 b1 b40;exact ar8 g.2.1.ty (by have:=g.2.2.1;omega) (by have:=g.2.2.2.1;omega)
theorem ads{rel:List (List Int)}(hb:bj9 rel=true)(hR:RowP rel.length rel)(h5:rel.length<=5)(hp:bv7 rel=true):ShapeP (cw rel):=by have h:=bed (ajk hb) hR (by omega);exact ar8 (ac2 (ajk hb) hR (by omega) (alu hp)).ty (by have:=h.2.1;omega) (by have:=h.2.2;omega)
def m8:Ct:=⟨[],[],fun x=>[],[(true,iw)],fun _=>dfR _,false,none⟩
def abd(r0:aa):Prop:=ShapeP r0
def aa3(K:aa×Unit->Prop):Prop:=RowP ([[1]].length:Int) [[1]]/\[[1]].length<=8/\K (cw [[1]],())
theorem bhf(hok:ab (okL m8.args (())))(hpre:ab (m8.pre (()))):aa3 (fun r=>abd r.1):=by
 simp only[m8,okL,T.oks,T.ok,ap,ab,a0f,a0c,a0g]at hok hpre
 try dsimp only[T.den]at hok hpre
 unfold aa3 abd;exact⟨⟨rfl,by decide⟩,by decide,ads (by decide) ⟨rfl,by decide⟩ (by decide) (by decide)⟩
theorem akb:∃q:aa×Unit,ab (okL m8.args (()))->ab (m8.pre (()))->aa3 (fun r=>r=q)/\ab (okR m8.rt q)/\abd q.1:=pkb (ae lh az) bg 105 Tryz.f105 m8 .n [] (fun x K=>aa3 K) (fun x r=>abd r.1) (fun x h1 h2=>bhf h1 h2) (())
def sb:aa:=(akb).choose.1
theorem bg8(hok:ab (okL m8.args (())))(hpre:ab (m8.pre (()))):ab (okR m8.rt (sb,()))/\abd (sb):=((akb).choose_spec hok hpre).2
def aey:Ct:=⟨[],[],fun x=>[],[(true,iw)],fun x=>((sb),()),false,none⟩
theorem adg:bw Tryz.prog 105 aey:=ctb (ae lh az) bg 105 Tryz.f105 aey .n [] (fun x K=>aa3 K) (fun x h1 h2=>((akb).choose_spec h1 h2).1)
theorem byq:ShapeP sb:=(bg8 trivial trivial).2
structure FsmP (c:aa) (f:am):Prop where
 s:f.1=c
 t:f.2.1.2.1.length<=40
 o:f.2.2.1.length<=8
 a:f.2.2.2.length<=40
theorem boj{c d:aa}(h8:c.1<=8)(ha:c.2.1.length<=40)(hd:d.2.1.length<=40):∀(n:Nat)(ob:List Int)(found:List am),(ob.length:Int)<=c.1->(∀f∈found,FsmP c f)->∀f∈acd c d n ob found,FsmP c f
 |0,ob,found,_,h=>h
 |n+1,ob,found,ho,h=>by
  rw[bpy];split
  ·exact h
  split
  ·have hrow:=fun r (hr2:r∈acs c d ob ((((stR c d ob ob.length).length:Int)-0).toNat+1) (stR c d ob ob.length) 0 [])=>bea (M:=c.2.1.length) _ _ _ _ (baf _) (fun r hr=>by cases hr) r hr2;generalize acs c d ob ((((stR c d ob ob.length).length:Int)-0).toNat+1) (stR c d ob ob.length) 0 []=L at *
   have key:∀(L:List (List Int)) (fd:List am),(∀r∈L,r.length=c.2.1.length)->(∀f∈fd,FsmP c f)->∀f∈L.foldl (aj7 c d ob) fd,FsmP c f:=by
    intro L
    induction L with
    |nil=>intro fd _ h;exact h
    |cons x r ih=>
     intro fd hr h;rw[a10];refine ih _ (fun y hy=>hr y (a1k _ hy)) (fun f hf=>?_);unfold aj7 at hf;split at hf
     ·rcases a07.1 hf with hf|hf
      ·exact h f hf
      ·rw[a0s.1 hf];exact⟨rfl,hd,by dsimp only;omega,by dsimp only;rw[hr x (a1t ..)];exact ha⟩
     ·exact h f hf
   exact key L found hrow h
  ·rename_i hne
   have key:∀(L:List Int)(fd:List am),(∀f∈fd,FsmP c f)->∀f∈L.foldl (amq c d n ob) fd,FsmP c f:=by
    intro L
    induction L with
    |nil=>intro fd h;exact h
    |cons y r ih=>
     intro fd h;rw[a10];refine ih _ (fun f hf=>?_);unfold amq at hf;split at hf
     ·exact boj h8 ha hd n _ _ (by rw[a0m];simp only[a0h,a0i];omega) h f hf
     ·exact h f hf
   exact key _ found h
def gn:Wt:=⟨oc,[bp,bc,bc],[true,false,false],fun x y=>[cn x,ShapeP y.1,1<=y.2.1,y.2.1<=8,8<=y.2.2.1,y.2.2.1<=40],fun x _=>x,[(true,av3)],fun _ _=>dfR _,0⟩
def yw(s:ac)(c:aa)(objects arrows:Int)(z:ac)(r0:am):Prop:=cn z/\FsmP c r0
def aoy:Ann:=(.s .n (.s .n (.s (.s .n (.j [(0,(.ad 1000000 [.de])),(5,(.ad 5 [.de])),(8,(.ad 8 [.de])),(9,(.d bya))] [(1000000,yj),(5,ac8),(8,au6)] [9] .n)) .n)))
def byd:FuncId->Option Ct:=lkp [(65,mt),(98,zr),(103,w6),(115,lf),(104,o9),(102,ab7)]
def adw(s:ac)(c:aa)(objects arrows:Int)(K:ac->(am×Unit)->Prop):Prop:=let g:=g7 s objects arrows;let e:=ma s objects arrows;let d:=acd c g (c.1.toNat+1) [] ([]:List cey);let m:=bf e (d.length:Int);cn s/\1<=objects/\objects<=8/\1<=arrows/\arrows<=40/\ShapeP c/\dk (S:=cf3) (fun a=>let n:=a.2.1;let l:=a.2.2.1;let p:=ShapeP l;let h:=bm n 2;let f:=a.1.2.2.2.1;let o:=decide (0<f.1);let j:=bf h f.1;let i:=bf n f.1;Oc f<|Oa iq n.1<|Iq n.2.1<|inK .u64 n.2.2->(Oc l<|Of a.2.2.2.1<|ifP (o=true) (0<=n.2.1/\cnd (o&&bf n 2==0) (0<=h.2.1/\p/\ShapeP f/\0<=j/\j<f.1/\K (bm h f.1) (fm l f j,())) (p/\K h (bdo l,()))) (cnd (o&&(0:Int)==0) (0<=n.2.1/\p/\ShapeP f/\0<=i/\i<f.1/\K (bm n f.1) (fm l f i,())) (p/\K n (bdo l,()))))) (fun b=>cnd (adz c g) (ShapeP c/\ShapeP g/\cnd (decide (0<(d.length:Int))) (0<=e.2.1/\(Ix m d.length<|K (bm e (d.length:Int)) (d.getD m.toNat ((0,[],[],[],[]),(0,[],[],[],[]),[],[]),()))) (b (((),(),(),g,()),e,c,((0,[],[],[],[]),(0,[],[],[],[]),[],[]),()))) (b (((),(),(),g,()),e,c,((0,[],[],[],[]),(0,[],[],[],[]),[],[]),())))
theorem bfd(s:ac)(c:aa)(objects arrows:Int)(hok:ab (gn.o.strip.oks s))(hok2:ab (okL gn.as (c,objects,arrows,())))(hpre:ab (gn.pre s (c,objects,arrows,()))):adw s c objects arrows (fun z r=>yw s c objects arrows z r.1):=by
 simp only[gn,O.strip,okL,T.oks,T.ok,ap,ab,a0f,a0c,a0g]at hok hok2 hpre
 try dsimp only[T.den]at hok
 try dsimp only[T.den]at hok2
 try dsimp only[T.den]at hpre
 delta adw yw Iq Ix Oa Oc Of Ol Om
 dsimp -proj -eta only;obtain⟨hS,C,o1,o8,a1,a40⟩:=hpre;have g:=aut (a:=objects) (b:=arrows) hS o1 o8 (by omega) a40;have D:=bak hS o1 o8 (by omega) a40;generalize g7 s objects arrows=d at *;generalize ma s objects arrows=z at *;have cm:=C.m;have co:=C.ob;refine⟨hS,o1,o8,by omega,a40,C,cz (fun (q:cf3)=>cn q.2.1/\q.2.2.1=c/\ShapeP q.1.2.2.2.1) ?_ ?_⟩
 ·rintro⟨⟨_,_,_,d1,_⟩,s1,c1,f1,_⟩ ⟨p1,p2,p3⟩;intros
  try dsimp only at p1 p2 p3⊢
  subst p2;have n1:=ko (n:=2) p1 (by rw[au];(try dsimp only);omega);have dob:=p3.ob;have dm:=p3.m;have n3:=ko (n:=d1.1) n1.1 (by rw[au];(try dsimp only);omega);have fc:∀y,FsmP c1 (fm c1 d1 y):=fun y=>⟨rfl,dm,by show (bh _ _).length<=8;rw[bj];omega,by show (bh _ _).length<=40;rw[bj];omega⟩;have fs:FsmP c1 (bdo c1):=⟨rfl,cm,by show (bh _ _).length<=8;rw[bj];omega,by show (bh _ _).length<=40;rw[bj];omega⟩;refine⟨fun hd=>⟨p1.2,ba (fun h=>?_) (fun _=>⟨C,n1.1,fs⟩)⟩,fun hd=>?_⟩
  ·have hd:0<d1.1:=by simpa using hd
   exact⟨n1.1.2,C,p3,n3.2.1,n3.2.2.1 (by omega),n3.1,fc _⟩
  ·refine ba (fun h=>?_) (fun _=>⟨C,p1,fs⟩);exfalso;apply hd;simpa using h
 ·intro k hk;refine ba (fun _=>⟨C,D,bd (fun hl=>?_) (fun _=>hk _ ⟨g.1,rfl,D⟩)⟩) (fun _=>hk _ ⟨g.1,rfl,D⟩);have hb:=awq (c:=c) (d:=d) (c.1.toNat+1) [] [] (a1j _);have hm:=boj co.2 cm D.m (c.1.toNat+1) [] [] co.1 (fun f hf=>(a3x hf).elim);generalize acd c d (c.1.toNat+1) [] []=L at *;have n1:=ko (n:=(L.length:Int)) g.1 (by rw[au];(try dsimp only);omega);have n2:=n1.2.2.1 (by omega);exact⟨g.1.2,n1.2.1,n2,n1.1,hm _ (cp L _ n1.2.1 n2)⟩
theorem adm(s:ac)(c:aa)(objects arrows:Int):∃q:ac×(am×Unit),ab (gn.o.strip.oks s)->ab (okL gn.as (c,objects,arrows,()))->ab (gn.pre s (c,objects,arrows,()))->adw s c objects arrows (fun z r=>z=q.1/\r=q.2)/\ab (gn.o.strip.oks q.1)/\ab (okR gn.rt q.2)/\yw s c objects arrows q.1 q.2.1:=pkw (ae df (ae pv (ae ade (ae abr (ae ab1 (ae zw az)))))) bg.take 97 Tryz.f97 gn aoy [(6,1600),(7,60005)] gz (fun x y K=>adw x y.1 y.2.1 y.2.2.1 K) (fun x y z r=>yw x y.1 y.2.1 y.2.2.1 z r.1) (fun x y h1 h2 h3=>bfd x y.1 y.2.1 y.2.2.1 h1 h2 h3) s (c,objects,arrows,())
def ut(s:ac)(c:aa)(objects arrows:Int):ac:=(adm s c objects arrows).choose.1
def tu(s:ac)(c:aa)(objects arrows:Int):am:=(adm s c objects arrows).choose.2.1
theorem bcn(s:ac)(c:aa)(objects arrows:Int)(hok:ab (gn.o.strip.oks s))(hok2:ab (okL gn.as (c,objects,arrows,())))(hpre:ab (gn.pre s (c,objects,arrows,()))):ab (gn.o.strip.oks (ut s c objects arrows))/\ab (okR gn.rt (tu s c objects arrows,()))/\yw s c objects arrows (ut s c objects arrows) (tu s c objects arrows):=((adm s c objects arrows).choose_spec hok hok2 hpre).2
def ao2:Wt:=⟨oc,[bp,bc,bc],[true,false,false],fun x y=>[cn x,ShapeP y.1,1<=y.2.1,y.2.1<=8,8<=y.2.2.1,y.2.2.1<=40],fun x y=>(ut x y.1 y.2.1 y.2.2.1),[(true,av3)],fun x y=>((tu x y.1 y.2.1 y.2.2.1),()),0⟩
def aqf:Ct:=vr ao2
theorem ans:bw Tryz.prog 97 aqf:=wtb (ae df (ae pv (ae ade (ae abr (ae ab1 (ae zw az)))))) bg.take 97 Tryz.f97 ao2 aoy [(6,1600),(7,60005)] (fun x y h1 h2 h3=>Eq.mp (by kernel_rfl) ((adm x y.1 y.2.1 y.2.2.1).choose_spec h1 h2 h3).1)
theorem ca1{s:ac}{c:aa}{a b:Int}(h:cn s)(ho:ab (T.oks bp c))(C:ShapeP c)(a1:1<=a)(a8:a<=8)(b8:8<=b)(b40:b<=40):cn (ut s c a b)/\FsmP c (tu s c a b):=(bcn s c a b h.1 (by simp only[gn,okL,kv,ab,a0c];exact⟨ho,by simp only[T.oks,ab,a0c,au];omega,by simp only[T.oks,ab,a0c,au];omega⟩) ⟨h,C,a1,a8,b8,b40,trivial⟩).2.2
def ig:Wt:=⟨oc,[],[],fun x y=>[cn x],fun x _=>x,[(true,ai1)],fun _ _=>dfR _,0⟩
def y6(s z:ac)(r0:am):Prop:=cn z/\(r0=r0)
def ao3:Ann:=(.s .n (.s .n (.s .n (.s (.s .n (.s .n (.j bh9 bhi [] (.s .n (.s .n (.j bh9 bhi [] (.s (.s .n (.j bh9 bhi [] .n)) (.s .n (.j bh9 bhi [] .n))))))))) .n))))
def bx9:FuncId->Option Ct:=lkp [(65,mt),(99,aqz),(98,zr),(97,aqf)]
def adp(s:ac)(K:ac->(am×Unit)->Prop):Prop:=let o:=ma s 4 10;let n:=g7 s 4 10;let j:=ut o n 4 12;let p:=bf j 30;let l:=bm j 30;let i:=tu o n 4 12;let q:=bf l (i.2.2.2.length:Int);let m:=bm l (i.2.2.2.length:Int);cn s/\(1:Int)<=4/\(4:Int)<=8/\(1:Int)<=10/\(10:Int)<=40/\cn o/\ShapeP n/\(1:Int)<=4/\(4:Int)<=8/\(8:Int)<=12/\(12:Int)<=40/\0<=j.2.1/\dk (S:=cff) (fun a=>Oa iq a.2.1.1<|Iq a.2.1.2.1<|inK .u64 a.2.1.2.2->(Of a.2.2.1<|Of a.2.2.2.1<|K a.2.1 (a.2.2.2.1,()))) (fun b=>cnd (p==0) (cn l/\CgR 1000000000 i.1/\b (((),(),(),()),xr l i.1,((0,[],[],[],[]),(0,[],[],[],[]),[],[]),(wc l i.1,i.2),())) (dk (S:=cff) (fun c=>Oa iq c.2.1.1<|Iq c.2.1.2.1<|inK .u64 c.2.1.2.2->(Of c.2.2.1<|Of c.2.2.2.1<|b (((),(),(),()),c.2.1,c.2.2.1,c.2.2.2.1,()))) (fun d=>cnd (p==1) (dk (S:=cff) (fun e=>Oa iq e.2.1.1<|Iq e.2.1.2.1<|inK .u64 e.2.1.2.2->(Of e.2.2.1<|Of e.2.2.2.1<|d (((),(),(),()),e.2.1,e.2.2.1,e.2.2.2.1,()))) (fun f=>cnd (decide (0<(i.2.2.2.length:Int))) (Ik ((i.2.1.2.1.length:Int)+1)<|0<=l.2.1/\0<=m.2.1/\(Ix q i.2.2.2.length<|f (((),(),(),()),bm m ((i.2.1.2.1.length:Int)+1),((0,[],[],[],[]),(0,[],[],[],[]),[],[]),(i.1,i.2.1,i.2.2.1,List.set i.2.2.2 q.toNat (bf m ((i.2.1.2.1.length:Int)+1))),()))) (f (((),(),(),()),l,((0,[],[],[],[]),(0,[],[],[],[]),[],[]),i,())))) (dk (S:=cff) (fun g=>Oa iq g.2.1.1<|Iq g.2.1.2.1<|inK .u64 g.2.1.2.2->(Of g.2.2.1<|Of g.2.2.2.1<|d (((),(),(),()),g.2.1,g.2.2.1,g.2.2.2.1,()))) (fun h=>cnd (p==2) (c9 i.2.2.1.length [0].length 8/\h (((),(),(),()),l,((0,[],[],[],[]),(0,[],[],[],[]),[],[]),(i.1,i.2.1,i.2.2.1++[0],i.2.2.2),())) (h (((),(),(),()),l,((0,[],[],[],[]),(0,[],[],[],[]),[],[]),i,())))))))
theorem beb(s:ac)(hok:ab (ig.o.strip.oks s))(hok2:ab (okL ig.as (())))(hpre:ab (ig.pre s (()))):adp s (fun z r=>y6 s z r.1):=by
 simp only[ig,O.strip,okL,T.oks,T.ok,ap,ab,a0f,a0c,a0g]at hok hok2 hpre
 try dsimp only[T.den]at hok
 try dsimp only[T.den]at hok2
 try dsimp only[T.den]at hpre
 delta adp y6 Ik Iq Ix Oa Oc Of Ol Om
 dsimp -proj -eta only;have hS:cn s:=hpre;have g:=aut (a:=4) (b:=10) hS (by decide) (by decide) (by decide) (by decide);have C:=bak (a:=4) (b:=10) hS (by decide) (by decide) (by decide) (by decide);generalize g7 s 4 10=c at *;generalize ma s 4 10=z at *;have f:=ca1 (a:=4) (b:=12) g.1 (ab6 g.2.1.cg (by omega)) C (by decide) (by decide) (by decide) (by decide);generalize tu z c 4 12=q at *;generalize ut z c 4 12=y at *;have hy:=f.1;have F:=f.2;have fo:=F.o;have fa:=F.a;have ft:=F.t;have h0:=ko (n:=30) hy (by rw[au];(try dsimp only);omega);refine⟨hS,by decide,by decide,by decide,by decide,g.1,C,by decide,by decide,by decide,by decide,hy.2,?_⟩;have hz:=h0.1;generalize bm y 30=x at *;have b:=cc3 (c:=q.1) hz (by rw[F.s];exact ab6 g.2.1.cg (by omega)) (by rw[F.s];exact g.2.1.cg);refine cz (fun (t:cff)=>cn t.2.1) (fun t ht=>by intros;exact⟨ht,rfl⟩) (fun k hk=>ba (fun _=>⟨hz,by rw[F.s];exact g.2.1.cg,hk _ b.1⟩) (fun _=>?_));refine cz (fun (t:cff)=>cn t.2.1) (fun t ht=>by intros;exact hk _ ht) (fun k1 hk1=>ba (fun _=>?_) (fun _=>?_))
 ·refine cz (fun (t:cff)=>cn t.2.1) (fun t ht=>by intros;exact hk1 _ ht) (fun k2 hk2=>bd (fun hm=>?_) (fun _=>hk2 _ hz));have n1:=ko (n:=(q.2.2.2.length:Int)) hz (by rw[au];(try dsimp only);omega);have n2:=ko (n:=(q.2.1.2.1.length:Int)+1) n1.1 (by rw[au];(try dsimp only);omega);exact⟨by rw[au];(try dsimp only);omega,hz.2,n1.1.2,n1.2.1,n1.2.2.1 (by omega),hk2 _ n2.1⟩
 ·refine cz (fun (t:cff)=>cn t.2.1) (fun t ht=>by intros;exact hk1 _ ht) (fun k2 hk2=>ba (fun _=>⟨ck (by simp only[a0h,a0i];omega),hk2 _ hz⟩) (fun _=>hk2 _ hz))
theorem ado(s:ac):∃q:ac×(am×Unit),ab (ig.o.strip.oks s)->ab (okL ig.as (()))->ab (ig.pre s (()))->adp s (fun z r=>z=q.1/\r=q.2)/\ab (ig.o.strip.oks q.1)/\ab (okR ig.rt q.2)/\y6 s q.1 q.2.1:=pkw (ae df (ae an6 (ae pv (ae ans az)))) bg 66 Tryz.f66 ig ao3 [(8,40010)] gz (fun x y K=>adp x K) (fun x y z r=>y6 x z r.1) (fun x y h1 h2 h3=>beb x h1 h2 h3) s (())
def xp(s:ac):ac:=(ado s).choose.1
def aap(s:ac):am:=(ado s).choose.2.1
theorem bc8(s:ac)(hok:ab (ig.o.strip.oks s))(hok2:ab (okL ig.as (())))(hpre:ab (ig.pre s (()))):ab (ig.o.strip.oks (xp s))/\ab (okR ig.rt (aap s,()))/\y6 s (xp s) (aap s):=((ado s).choose_spec hok hok2 hpre).2
def aod:Wt:=⟨oc,[],[],fun x y=>[cn x],fun x y=>(xp x),[(true,ai1)],fun x y=>((aap x),()),0⟩
def ap9:Ct:=vr aod
theorem aox:bw Tryz.prog 66 ap9:=wtb (ae df (ae an6 (ae pv (ae ans az)))) bg 66 Tryz.f66 aod ao3 [(8,40010)] (fun x y h1 h2 h3=>Eq.mp (by kernel_rfl) ((ado x).choose_spec h1 h2 h3).1)
theorem caz{s:ac}(h:cn s):cn (xp s):=(bc8 s h.1 trivial ⟨h,trivial⟩).2.2.1
def gi:Wt:=⟨oc,[],[],fun x y=>[cn x],fun x _=>x,[(true,iw)],fun _ _=>dfR _,0⟩
def xf(s z:ac)(r0:aa):Prop:=cn z/\ShapeP r0
def bws:FuncId->Option Ct:=lkp [(65,mt),(129,afi),(98,zr),(128,mh),(127,rx),(126,nw),(123,uo),(105,aey)]
def ab3(s:ac)(K:ac->(aa×Unit)->Prop):Prop:=let d:=RowP ([[1,1,1],[0,1,0],[0,0,1]].length:Int) [[1,1,1],[0,1,0],[0,0,1]];let c:=cw [[1,1,1],[0,1,0],[0,0,1]];let b:=bf s 9;let a:=bm s 9;let e:=oh a;0<=s.2.1/\cnd (b==0) (RowP (([]:List (List Int)).length:Int) []/\([]:List (List Int)).length<=8/\K a (cw [],())) (cnd (b==1) (K a (sb,())) (cnd (b==2) (RowP ([[1,0],[0,1]].length:Int) [[1,0],[0,1]]/\[[1,0],[0,1]].length<=8/\K a (cw [[1,0],[0,1]],())) (cnd (b==3) ((0:Int)<=2/\(2:Int)<=8/\[1,1].length=[0,0].length/\[0,0].length<=1000000000/\K a (y7 2 [0,0] [1,1],())) (cnd (b==4) (d/\[[1,1,1],[0,1,0],[0,0,1]].length<=8/\SqR c/\K a (opR c,())) (cnd (b==5) (d/\[[1,1,1],[0,1,0],[0,0,1]].length<=8/\K a (c,())) (cnd (b==6) (cn a/\OwnP e/\K (sd a) (adn e,())) (cnd (b==7) (RowP ([[1,1],[0,1]].length:Int) [[1,1],[0,1]]/\[[1,1],[0,1]].length<=8/\K a (cw [[1,1],[0,1]],())) (cn a/\(1:Int)<=3/\(3:Int)<=8/\(1:Int)<=5/\(5:Int)<=40/\K (ma a 3 5) (g7 a 3 5,())))))))))
theorem ba1(s:ac)(hok:ab (gi.o.strip.oks s))(hok2:ab (okL gi.as (())))(hpre:ab (gi.pre s (()))):ab3 s (fun z r=>xf s z r.1):=by
 simp only[gi,O.strip,okL,T.oks,T.ok,ap,ab,a0f,a0c,a0g]at hok hok2 hpre
 try dsimp only[T.den]at hok
 try dsimp only[T.den]at hok2
 try dsimp only[T.den]at hpre
 delta ab3 xf
 dsimp -proj -eta only;have h:=ko (n:=9) hpre (by rw[au];(try dsimp only);omega);have hz:=h.1;refine⟨hpre.2,?_⟩;generalize bm s 9=z at *;generalize bf s 9=r at *;refine ba (fun _=>⟨⟨rfl,by decide⟩,by decide,hz,ads (by decide) ⟨rfl,by decide⟩ (by decide) (by decide)⟩) (fun _=>?_);refine ba (fun _=>⟨hz,byq⟩) (fun _=>?_);refine ba (fun _=>⟨⟨rfl,by decide⟩,by decide,hz,ads (by decide) ⟨rfl,by decide⟩ (by decide) (by decide)⟩) (fun _=>?_);refine ba (fun _=>⟨by decide,by decide,by decide,by decide,hz,acn.1 (by decide+kernel)⟩) (fun _=>?_);refine ba (fun _=>⟨⟨rfl,by decide⟩,by decide,bv4 (ads (by decide) ⟨rfl,by decide⟩ (by decide) (by decide)),hz,bvs (ads (by decide) ⟨rfl,by decide⟩ (by decide) (by decide))⟩) (fun _=>?_);refine ba (fun _=>⟨⟨rfl,by decide⟩,by decide,hz,ads (by decide) ⟨rfl,by decide⟩ (by decide) (by decide)⟩) (fun _=>?_);refine ba (fun _=>?_) (fun _=>?_)
 ·have m:=ase hz;refine⟨hz,m.2.1.own,m.1,ar8 (av7 m.2.1) (by show (1:Int)<=8;decide) ?_⟩;show (List.replicate _ _).length<=40;rw[a05];have:=m.2.1.hi;omega
 refine ba (fun _=>⟨⟨rfl,by decide⟩,by decide,hz,ads (by decide) ⟨rfl,by decide⟩ (by decide) (by decide)⟩) (fun _=>?_);have g:=aut (a:=3) (b:=5) hz (by decide) (by decide) (by decide) (by decide);exact⟨hz,by decide,by decide,by decide,by decide,g.1,bak hz (by decide) (by decide) (by decide) (by decide)⟩
theorem ab5(s:ac):∃q:ac×(aa×Unit),ab (gi.o.strip.oks s)->ab (okL gi.as (()))->ab (gi.pre s (()))->ab3 s (fun z r=>z=q.1/\r=q.2)/\ab (gi.o.strip.oks q.1)/\ab (okR gi.rt q.2)/\xf s q.1 q.2.1:=pkw (ae df (ae yk (ae pv (ae yr (ae aex (ae zy (ae lh (ae adg az)))))))) bg 100 Tryz.f100 gi .n [] gz (fun x y K=>ab3 x K) (fun x y z r=>xf x z r.1) (fun x y h1 h2 h3=>ba1 x h1 h2 h3) s (())
def tz(s:ac):ac:=(ab5 s).choose.1
def sf(s:ac):aa:=(ab5 s).choose.2.1
theorem bba(s:ac)(hok:ab (gi.o.strip.oks s))(hok2:ab (okL gi.as (())))(hpre:ab (gi.pre s (()))):ab (gi.o.strip.oks (tz s))/\ab (okR gi.rt (sf s,()))/\xf s (tz s) (sf s):=((ab5 s).choose_spec hok hok2 hpre).2
def amc:Wt:=⟨oc,[],[],fun x y=>[cn x],fun x y=>(tz x),[(true,iw)],fun x y=>((sf x),()),0⟩
def aoh:Ct:=vr amc
theorem amh:bw Tryz.prog 100 aoh:=wtb (ae df (ae yk (ae pv (ae yr (ae aex (ae zy (ae lh (ae adg az)))))))) bg 100 Tryz.f100 amc .n [] (fun x y h1 h2 h3=>Eq.mp (by kernel_rfl) ((ab5 x).choose_spec h1 h2 h3).1)
theorem ca9{s:ac}(h:cn s):cn (tz s)/\ShapeP (sf s):=(bba s h.1 trivial ⟨h,trivial⟩).2.2
theorem by1:ShapeP sg:=by have h:=(an9 trivial trivial).2;exact ar8 h.2 (by have:=h.1.ob;omega) (by have:=h.1.m;omega)
def fu:Wt:=⟨oc,[],[],fun x y=>[cn x],fun x _=>x,[(true,iw)],fun _ _=>dfR _,0⟩
def wh(s z:ac)(r0:aa):Prop:=cn z/\ShapeP r0
def buk:FuncId->Option Ct:=lkp [(65,mt),(98,zr),(130,abu),(123,uo)]
def aax(s:ac)(K:ac->(aa×Unit)->Prop):Prop:=let b:=bf s 6;let a:=bm s 6;0<=s.2.1/\cnd (b==0) (RowP ([[1,1,1,1],[0,1,0,1],[0,0,1,1],[0,0,0,1]].length:Int) [[1,1,1,1],[0,1,0,1],[0,0,1,1],[0,0,0,1]]/\[[1,1,1,1],[0,1,0,1],[0,0,1,1],[0,0,0,1]].length<=8/\K a (cw [[1,1,1,1],[0,1,0,1],[0,0,1,1],[0,0,0,1]],())) (cnd (b==1) (RowP ([[1,1,1],[0,1,1],[0,0,1]].length:Int) [[1,1,1],[0,1,1],[0,0,1]]/\[[1,1,1],[0,1,1],[0,0,1]].length<=8/\K a (cw [[1,1,1],[0,1,1],[0,0,1]],())) (cnd (b==2) (K a (sg,())) (cn a/\(1:Int)<=4/\(4:Int)<=8/\(1:Int)<=12/\(12:Int)<=40/\K (ma a 4 12) (g7 a 4 12,()))))
theorem ayc(s:ac)(hok:ab (fu.o.strip.oks s))(hok2:ab (okL fu.as (())))(hpre:ab (fu.pre s (()))):aax s (fun z r=>wh s z r.1):=by
 simp only[fu,O.strip,okL,T.oks,T.ok,ap,ab,a0f,a0c,a0g]at hok hok2 hpre
 try dsimp only[T.den]at hok
 try dsimp only[T.den]at hok2
 try dsimp only[T.den]at hpre
 delta aax wh
 dsimp -proj -eta only;have h:=ko (n:=6) hpre (by rw[au];(try dsimp only);omega);have hz:=h.1;refine⟨hpre.2,?_⟩;generalize bm s 6=z at *;generalize bf s 6=r at *;refine ba (fun _=>⟨⟨rfl,by decide⟩,by decide,hz,ads (by decide) ⟨rfl,by decide⟩ (by decide) (by decide)⟩) (fun _=>?_);refine ba (fun _=>⟨⟨rfl,by decide⟩,by decide,hz,ads (by decide) ⟨rfl,by decide⟩ (by decide) (by decide)⟩) (fun _=>?_);refine ba (fun _=>⟨hz,by1⟩) (fun _=>?_);have g:=aut (a:=4) (b:=12) hz (by decide) (by decide) (by decide) (by decide);exact⟨hz,by decide,by decide,by decide,by decide,g.1,bak hz (by decide) (by decide) (by decide) (by decide)⟩
theorem aa2(s:ac):∃q:ac×(aa×Unit),ab (fu.o.strip.oks s)->ab (okL fu.as (()))->ab (fu.pre s (()))->aax s (fun z r=>z=q.1/\r=q.2)/\ab (fu.o.strip.oks q.1)/\ab (okR fu.rt q.2)/\wh s q.1 q.2.1:=pkw (ae df (ae pv (ae aaf (ae lh az)))) bg 101 Tryz.f101 fu .n [] gz (fun x y K=>aax x K) (fun x y z r=>wh x z r.1) (fun x y h1 h2 h3=>ayc x h1 h2 h3) s (())
def sk(s:ac):ac:=(aa2 s).choose.1
def rh(s:ac):aa:=(aa2 s).choose.2.1
theorem ay1(s:ac)(hok:ab (fu.o.strip.oks s))(hok2:ab (okL fu.as (())))(hpre:ab (fu.pre s (()))):ab (fu.o.strip.oks (sk s))/\ab (okR fu.rt (rh s,()))/\wh s (sk s) (rh s):=((aa2 s).choose_spec hok hok2 hpre).2
def akx:Wt:=⟨oc,[],[],fun x y=>[cn x],fun x y=>(sk x),[(true,iw)],fun x y=>((rh x),()),0⟩
def ami:Ct:=vr akx
theorem ak0:bw Tryz.prog 101 ami:=wtb (ae df (ae pv (ae aaf (ae lh az)))) bg 101 Tryz.f101 akx .n [] (fun x y h1 h2 h3=>Eq.mp (by kernel_rfl) ((aa2 x).choose_spec h1 h2 h3).1)
theorem bw4{s:ac}(h:cn s):cn (sk s)/\ShapeP (rh s):=(ay1 s h.1 trivial ⟨h,trivial⟩).2.2
def ez:Wt:=⟨oc,[],[],fun x y=>[cn x],fun x _=>x,[(true,ai1)],fun _ _=>dfR _,0⟩
def vi(s z:ac)(r0:am):Prop:=cn z/\(r0=r0)
def ajq:Ann:=(.s .n (.s (.s .n (.l [(0,(.ad 1000000 [.de])),(2,(.ad 2 [.de])),(3,(.d bc))] [(1000000,yj),(2,au6)] [] (.s .n (.s (.s .n (.s .n (.j [(0,(.ad 1000000 [.de])),(2,(.ad 2 [.de]))] [(1000000,yj),(2,au6)] [3] .n))) .n)))) .n))
def bse:FuncId->Option Ct:=lkp [(65,mt),(103,w6),(104,o9),(102,ab7),(105,aey),(100,aoh),(101,ami)]
def yn(s:ac)(K:ac->(am×Unit)->Prop):Prop:=bn (S:=(cex×cf4)) (fun a b=>let l:=a.1.2.2.1;let h:=tz a.2.1;let i:=rh h;let g:=sf a.2.1;let f:=sk h;let e:=acd g i (Int.toNat g.1+1) [] ([]:List cey);let j:=bf f (e.length:Int);Iq l<|Oa iq a.2.1.1<|Iq a.2.1.2.1<|inK .u64 a.2.1.2.2->(Of a.2.2.1<|cnd (decide (l<8)) (cn a.2.1/\cn h/\ShapeP g/\dk (S:=(ce6×cf4)) (fun c=>Oa iq c.2.1.1<|Iq c.2.1.2.1<|inK .u64 c.2.1.2.2->(Of c.2.2.1<|Ik (l+1)<|b (((),(),l+1,()),c.2.1,c.2.2.1,()))) (fun d=>cnd (adz g i) (ShapeP g/\ShapeP i/\cnd (decide (0<(e.length:Int))) (0<=f.2.1/\(Ix j e.length<|K (bm f (e.length:Int)) (e.getD j.toNat ((0,[],[],[],[]),(0,[],[],[],[]),[],[]),()))) (d (((),(),()),f,a.2.2.1,()))) (d (((),(),()),f,a.2.2.1,())))) (ShapeP sb/\K a.2.1 (bdo sb,())))) (((),(),0,()),s,((0,[],[],[],[]),(0,[],[],[],[]),[],[]),())
theorem aw7(s:ac)(hok:ab (ez.o.strip.oks s))(hok2:ab (okL ez.as (())))(hpre:ab (ez.pre s (()))):yn s (fun z r=>vi s z r.1):=by
 simp only[ez,O.strip,okL,T.oks,T.ok,ap,ab,a0f,a0c,a0g]at hok hok2 hpre
 try dsimp only[T.den]at hok
 try dsimp only[T.den]at hok2
 try dsimp only[T.den]at hpre
 delta yn vi Ik Iq Ix Oa Oc Of Ol Om
 dsimp -proj -eta only;have hS:cn s:=hpre;refine bq (fun (t:(cex×cf4))=>0<=t.1.2.2.1/\t.1.2.2.1<=8/\cn t.2.1) (fun (t:(cex×cf4))=>(8-t.1.2.2.1).toNat) ?_ ⟨by simp,by simp,hS⟩;rintro⟨⟨_,_,n,_⟩,s1,f1,_⟩ next ⟨n0,n1,h1⟩ hnx
 intros
 try dsimp only at n0 n1 h1 hnx⊢
 refine bd (fun hn=>?_) (fun _=>⟨byq,h1,rfl⟩);have a:=ca9 h1;generalize sf s1=c at *;generalize tz s1=y at *;have b:=bw4 a.1;generalize rh y=d at *;generalize sk y=z at *;refine⟨h1,a.1,a.2,cz (fun (q:(ce6×cf4))=>cn q.2.1) ?_ ?_⟩
 ·rintro⟨_,s2,f2,_⟩ p1;intros
  try dsimp only at p1⊢
  exact⟨by rw[au];(try dsimp only);omega,hnx _ ⟨by dsimp only;omega,by dsimp only;omega,p1⟩ (by dsimp only;omega)⟩
 ·intro k hk;refine ba (fun _=>⟨a.2,b.2,bd (fun hl=>?_) (fun _=>hk _ b.1)⟩) (fun _=>hk _ b.1);have hb:=awq (c:=c) (d:=d) (c.1.toNat+1) [] [] (a1j _);generalize acd c d (c.1.toNat+1) [] []=L at *;have n1:=ko (n:=(L.length:Int)) b.1 (by rw[au];(try dsimp only);omega);exact⟨b.1.2,n1.2.1,n1.2.2.1 (by omega),n1.1,rfl⟩
theorem yq(s:ac):∃q:ac×(am×Unit),ab (ez.o.strip.oks s)->ab (okL ez.as (()))->ab (ez.pre s (()))->yn s (fun z r=>z=q.1/\r=q.2)/\ab (ez.o.strip.oks q.1)/\ab (okR ez.rt q.2)/\vi s q.1 q.2.1:=pkw (ae df (ae ade (ae ab1 (ae zw (ae adg (ae amh (ae ak0 az))))))) bg 67 Tryz.f67 ez ajq [] gz (fun x y K=>yn x K) (fun x y z r=>vi x z r.1) (fun x y h1 h2 h3=>aw7 x h1 h2 h3) s (())
def ua(s:ac):ac:=(yq s).choose.1
def wo(s:ac):am:=(yq s).choose.2.1
theorem aw0(s:ac)(hok:ab (ez.o.strip.oks s))(hok2:ab (okL ez.as (())))(hpre:ab (ez.pre s (()))):ab (ez.o.strip.oks (ua s))/\ab (okR ez.rt (wo s,()))/\vi s (ua s) (wo s):=((yq s).choose_spec hok hok2 hpre).2
def ai7:Wt:=⟨oc,[],[],fun x y=>[cn x],fun x y=>(ua x),[(true,ai1)],fun x y=>((wo x),()),0⟩
def aku:Ct:=vr ai7
theorem ajy:bw Tryz.prog 67 aku:=wtb (ae df (ae ade (ae ab1 (ae zw (ae adg (ae amh (ae ak0 az))))))) bg 67 Tryz.f67 ai7 ajq [] (fun x y h1 h2 h3=>Eq.mp (by kernel_rfl) ((yq x).choose_spec h1 h2 h3).1)
theorem cdz{s:ac}(h:cn s):cn (ua s):=(aw0 s h.1 trivial ⟨h,trivial⟩).2.2.1
def l8:Wt:=⟨oc,[],[],fun x y=>[cn x],fun x _=>x,[(true,ai1)],fun _ _=>dfR _,0⟩
def adl(s z:ac)(r0:am):Prop:=cn z/\(r0=r0)
def bxy:FuncId->Option Ct:=lkp [(65,mt),(66,ap9),(67,aku)]
def acv(s:ac)(K:ac->(am×Unit)->Prop):Prop:=let a:=bm s 16;0<=s.2.1/\cnd (bf s 16==0) (cn a/\K (xp a) (aap a,())) (cn a/\K (ua a) (wo a,()))
theorem bda(s:ac)(hok:ab (l8.o.strip.oks s))(hok2:ab (okL l8.as (())))(hpre:ab (l8.pre s (()))):acv s (fun z r=>adl s z r.1):=by
 simp only[l8,O.strip,okL,T.oks,T.ok,ap,ab,a0f,a0c,a0g]at hok hok2 hpre
 try dsimp only[T.den]at hok
 try dsimp only[T.den]at hok2
 try dsimp only[T.den]at hpre
 delta acv adl
 dsimp -proj -eta only;have h:=ko (n:=16) hpre (by rw[au];(try dsimp only);omega);exact⟨hpre.2,ba (fun _=>⟨h.1,caz h.1,rfl⟩) (fun _=>⟨h.1,cdz h.1,rfl⟩)⟩
theorem ah6(s:ac):∃q:ac×(am×Unit),ab (l8.o.strip.oks s)->ab (okL l8.as (()))->ab (l8.pre s (()))->acv s (fun z r=>z=q.1/\r=q.2)/\ab (l8.o.strip.oks q.1)/\ab (okR l8.rt q.2)/\adl s q.1 q.2.1:=pkw (ae df (ae aox (ae ajy az))) bg 31 Tryz.f31 l8 .n [] gz (fun x y K=>acv x K) (fun x y z r=>adl x z r.1) (fun x y h1 h2 h3=>bda x h1 h2 h3) s (())
def bbm(s:ac):ac:=(ah6 s).choose.1
def al7(s:ac):am:=(ah6 s).choose.2.1
def an4:Wt:=⟨oc,[],[],fun x y=>[cn x],fun x y=>(bbm x),[(true,ai1)],fun x y=>((al7 x),()),0⟩
def apx:Ct:=vr an4
theorem an5:bw Tryz.prog 31 apx:=wtb (ae df (ae aox (ae ajy az))) bg 31 Tryz.f31 an4 .n [] (fun x y h1 h2 h3=>Eq.mp (by kernel_rfl) ((ah6 x).choose_spec h1 h2 h3).1)
def kp:Ct:=⟨[iq],[false],fun x=>[],[(true,ai1)],fun _=>dfR _,true,none⟩
def sx(code:List Int)(r0:am):Prop:=(r0=r0)
def bkt:FuncId->Option Ct:=lkp [(32,aip),(31,apx)]
def pm(code:List Int)(K:am×Unit->Prop):Prop:=let a:=wi code;cn a/\K (al7 a,())
theorem ano(code:List Int)(hok:ab (okL kp.args (code,())))(hpre:ab (kp.pre (code,()))):pm code (fun r=>sx code r.1):=by
 simp only[kp,okL,T.oks,T.ok,ap,ab,a0f,a0c,a0g]at hok hpre
 try dsimp only[T.den]at hok hpre
 delta pm sx
 dsimp -proj -eta only;have hF:=ccq (code:=code) (by simpa only [T.oks,T.ok,ap,ab,a0f,a0c,a0g]using hok);exact⟨hF,rfl⟩
theorem ady(code:List Int):∃q:am×Unit,ab (okL kp.args (code,()))->ab (kp.pre (code,()))->pm code (fun r=>r=q)/\ab (okR kp.rt q)/\sx code q.1:=pkb (ae aob (ae an5 az)) bg 13 Tryz.f13 kp .n [] (fun x K=>pm x.1 K) (fun x r=>sx x.1 r.1) (fun x h1 h2=>ano x.1 h1 h2) (code,())
def vn(code:List Int):am:=(ady code).choose.1
def wt:Ct:=⟨[iq],[false],fun x=>[],[(true,ai1)],fun x=>((vn x.1),()),true,none⟩
theorem ana:bw Tryz.prog 13 wt:=ctb (ae aob (ae an5 az)) bg 13 Tryz.f13 wt .n [] (fun x K=>pm x.1 K) (fun x h1 h2=>((ady x.1).choose_spec h1 h2).1)
def kr:Ct:=⟨[jq,adh,yg],[true,false,true],fun x=>[UniP x.1 x.2.1 x.2.2.1],[(false,kf)],fun x=>(t5 x.1 x.2.1 x.2.2.1,()),false,none⟩
def ary:Ann:=(.s .n (.s (.s .n (.l arw [] [1,3,5] .n)) .n))
def abp(d:am)(list:List bo)(p:bo)(K:Bool×Unit->Prop):Prop:=bn (S:=ce7) (fun a b=>let c:=list.getD a.1.1.toNat (0,[]);Iq a.1.1<|cnd (decide (a.1.1<(list.length:Int))) (Ix a.1.1 list.length<|CmpP d c p/\cnd (((kt d c p).length:Int) != 1) (K (false,())) (Ik (a.1.1+1)<|b ((a.1.1+1,()),()))) (K (true,()))) ((0,()),())
theorem as9(d:am)(list:List bo)(p:bo)(hok:ab (okL kr.args (d,list,p,())))(hpre:ab (kr.pre (d,list,p,()))):abp d list p (fun r=>r=kr.res (d,list,p,())):=by
 simp only[kr,okL,T.oks,T.ok,ap,ab,a0f,a0c,a0g]at hok hpre
 try dsimp only[T.den]at hok hpre
 delta abp Ik Iq Ix
 dsimp -proj -eta only;obtain⟨hn,ha⟩:=hpre;have hval:t5 d list p=list.all fun q=>(kt d q p).length==1:=rfl;have res:∀b,t5 d list p=b->(b,())=kr.res (d,list,p,()):=fun b h=>by simp only[kr,h]
 refine bki list ((0:Int),([]:List Int)) (fun q=>(kt d q p).length==1) ?_ ?_
 ·intro i next h0 h1 hno hn1 hin
  try dsimp only
  refine bd (fun _=>⟨h0,h1,ha _ (cp list _ h0 h1),ba (fun hx=>res _ (hno ?_)) (fun hx=>⟨by rw[au];(try dsimp only);omega,hn1 ?_⟩)⟩) (fun h=>absurd h1 h)
  ·rw[a35];intro e;rw[e]at hx;exact absurd hx (by decide)
  ·rw[a0r];have h:(((kt d (list.getD i.toNat ((0:Int),([]:List Int))) p).length:Nat):Int)=1:=by simpa using hx
   omega
 ·intro next h hin
  refine bd (fun h=>absurd h (a1b _)) (fun _=>res _ h)
theorem arc:bw Tryz.prog 72 kr:=ctb (ae an7 az) bg 72 Tryz.f72 kr ary [(4,506)] (fun x K=>abp x.1 x.2.1 x.2.2.1 K) (fun x h1 h2=>as9 x.1 x.2.1 x.2.2.1 h1 h2)
def ag0(d:am)(L:List bo)(i:Int):Option bo:=if t5 d L (L.getD i.toNat (0,[]))=true then some (L.getD i.toNat (0,[]))else none
def amw(d:am):bo×Int:=if (kj d).length>400 then ((0,[]),3)else
 match gp (ag0 d (kj d)) (kj d).length 0 with
 |some p=>(p,0)
 |none=>((0,[]),4)
def uv:Ct:=⟨[jq],[true],fun x=>[d5 x.1=true],[(true,awu),(false,kg)],fun x=>((amw x.1).1,(amw x.1).2,()),true,none⟩
def azl:Ann:=(.s .n (.s .n (.s .n (.s (.s .n (.l [(2,(.ad 2 [.de])),(6,(.d bc))] [(2,(.pt byw))] [1,4] .n)) .n))))
def bvc:FuncId->Option Ct:=lkp [(47,l6),(72,kr)]
def af5(d:am)(K:bo×Int×Unit->Prop):Prop:=let f:=ad4 d;d5 d=true/\cnd (ae8 d != 0) (K ((0,[]),ae8 d,())) (bn (S:=(ce4×(ce5×Unit))) (fun a b=>let e:=a.1.2.1;let c:=f.getD e.toNat (0,[]);Iq e<|Iq a.2.1.1<|Ol a.2.1.2<|cnd (decide (e<(f.length:Int))) (Ix e f.length<|UniP d f c/\cnd (t5 d f c) (Ix e f.length<|K (c,0,())) (Ik (e+1)<|b (((),e+1,()),a.2.1,()))) (K ((0,[]),4,()))) (((),0,()),(0,[]),()))
theorem bat(d:am)(hok:ab (okL uv.args (d,())))(hpre:ab (uv.pre (d,()))):af5 d (fun r=>r=uv.res (d,())):=by
 simp only[uv,okL,T.oks,T.ok,ap,ab,a0f,a0c,a0g]at hok hpre
 try dsimp only[T.den]at hok hpre
 delta af5 Ik Iq Ix Ol
 dsimp -proj -eta only;have hf:d5 d=true:=hpre;have hl:(kj d).length<=401:=aqx;have hres:(uv).res (d,())=((amw d).1,(amw d).2,()):=rfl;refine⟨hf,?_⟩;rw[hres];by_cases hb:(kj d).length>400
 ·refine ba (fun _=>?_) (fun h=>?_)
  ·simp only[amw,ae8,a0a hb]
  ·exfalso;unfold ae8 at h;rw[a0a hb]at h;exact absurd h (by decide)
 refine ba (fun h=>?_) (fun _=>?_)
 ·exfalso;unfold ae8 at h;rw[ds hb]at h;exact absurd h (by decide)
 have hls:ad4 d=kj d:=by unfold ad4;rw[ds hb]
 have hu:=fun p (hp:p∈kj d)=>bzw hf (azr hf hp);rw[hls]at hu⊢
 have hlim:amw d=match gp (ag0 d (kj d)) (kj d).length 0 with
  |some p=>(p,0)
  |none=>((0,[]),4):=by unfold amw;rw[ds hb]
 generalize kj d=L at *;refine bq (fun (s:(ce4×(ce5×Unit)))=>0<=s.1.2.1/\s.1.2.1<=L.length/\gp (ag0 d L) L.length 0=gp (ag0 d L) (L.length-s.1.2.1.toNat) s.1.2.1) (fun (s:(ce4×(ce5×Unit)))=>(L.length-s.1.2.1).toNat) ?_ ⟨by simp,by simp,rfl⟩;rintro⟨⟨_,i,_⟩,p0,_⟩ next ⟨i0,i1,hs⟩ hnx
 intros
 try dsimp only at i0 i1 hs hnx⊢
 refine bd (fun hi=>?_) (fun hi=>?_)
 ·have hp:=cp L (0,[]) i0 hi;rw[show L.length-i.toNat=(L.length-(i+1).toNat)+1 by omega]at hs;refine⟨i0,hi,hu _ hp,ba (fun h=>⟨i0,hi,?_⟩) (fun h=>⟨by rw[au];(try dsimp only);omega,hnx _ ⟨by dsimp only;omega,by dsimp only;omega,?_⟩ (by dsimp only;omega)⟩)⟩
  ·have hq:ag0 d L i=some (L.getD i.toNat (0,[])):=by unfold ag0;rw[a0a h]
   rw[hlim,hs,gp,hq]
  ·have hq:ag0 d L i=none:=by unfold ag0;rw[ds (by rw[h];decide)]
   try dsimp only
   rw[hs,gp,hq]
 ·have:L.length-i.toNat=0:=by omega
  rw[hlim,hs,this];rfl
theorem ayu:bw Tryz.prog 36 uv:=ctb (ae ag2 (ae arc az)) bg 36 Tryz.f36 uv azl [(7,506)] (fun x K=>af5 x.1 K) (fun x h1 h2=>bat x.1 h1 h2)
def aeb(d:am):bo×Int:=if d5 d=true then amw d else ((0,[]),1)
def pc:Ct:=⟨[jq],[true],fun x=>[],[(true,awu),(false,kg)],fun x=>((aeb x.1).1,(aeb x.1).2,()),true,none⟩
def byg:FuncId->Option Ct:=lkp [(35,kz),(36,uv)]
def aho(d:am)(K:bo×Int×Unit->Prop):Prop:=cnd (!d5 d) (K ((0,[]),1,())) (d5 d=true/\K ((amw d).1,(amw d).2,()))
theorem bde(d:am)(hok:ab (okL pc.args (d,())))(hpre:ab (pc.pre (d,()))):aho d (fun r=>r=pc.res (d,())):=by
 simp only[pc,okL,T.oks,T.ok,ap,ab,a0f,a0c,a0g]at hok hpre
 try dsimp only[T.den]at hok hpre
 unfold aho;refine ba (fun hx=>?_) (fun hx=>?_)
 ·have h:¬d5 d=true:=by simpa using hx
  simp only[pc,aeb,ds h]
 ·have h:d5 d=true:=by simpa using hx
  refine⟨h,?_⟩;simp only[pc,aeb,a0a h]
theorem bbu:bw Tryz.prog 9 pc:=ctb (ae aj9 (ae ayu az)) bg 9 Tryz.f9 pc .n [] (fun x K=>aho x.1 K) (fun x h1 h2=>bde x.1 h1 h2)
end
end Go.Bm
