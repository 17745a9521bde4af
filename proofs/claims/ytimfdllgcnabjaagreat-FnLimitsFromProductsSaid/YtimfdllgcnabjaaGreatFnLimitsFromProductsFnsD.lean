/- What the functions that FnLimitsFromProducts reaches give: for each its contract, what it asks, and the proof. No condition. -/
import Derived.Test.YtimfdllgcnabjaaGreatFnLimitsFromProductsFnsC
set_option linter.unusedVariables false
set_option linter.unusedSimpArgs false
namespace Go.Bm
open Go.Proofs
set_option maxRecDepth 100000
set_option maxHeartbeats 1000000
noncomputable section
abbrev mn:Type:=List aV
variable {A a b f k n u v x:Int}{G:ml}{c d:ah}{found:mn}{fr ob r w:aA}{rel t:bW}{s:aU}
structure LiB (G:ml) (k:Int) (w:aA):Prop where
 l:(w.length:Int)=k
 e:∀x∈w,0<=x/\x<=1000000000
 g:w=aG k.toNat G
theorem LiB.push(h:LiB G k w)(h0:0<=x)(h1:x<=1000000000)(hx:x=G k):LiB G (k+1) (w++[x]):=⟨by rw[bn];have:=h.l;simp only[aX,bh];omega,Kc h.e ⟨h0,h1⟩,by rw[eY (by have:=h.l;omega),←h.g,hx]⟩
theorem LiB.to{k':Int}(h:LiB G k w)(e:k=k'):LiB G k' w:=e▸h
def prI(c d:ah)(k:Int):Int:=c.2.2.2.1.getD (k / d.1).toNat 0*d.2.1.length+d.2.2.2.1.getD (k%d.1).toNat 0
def prF(c d:ah)(k:Int):Int:=c.2.1.getD (k / d.2.1.length).toNat 0*d.1+d.2.1.getD (k%d.2.1.length).toNat 0
def prT(c d:ah)(k:Int):Int:=c.2.2.1.getD (k / d.2.1.length).toNat 0*d.1+d.2.2.1.getD (k%d.2.1.length).toNat 0
def prC(m u v:Int):Int:=if 0<=u/\0<=v then u*m+v else -1
def prH(c d:ah)(a b k:Int):Int:=prC d.2.1.length ((c.2.2.2.2.getD a.toNat []).getD (k / d.2.1.length).toNat 0) ((d.2.2.2.2.getD b.toNat []).getD (k%d.2.1.length).toNat 0)
def prW(c d:ah)(k:Int):List Int:=aG (c.2.1.length*d.2.1.length) (prH c d (k / d.2.1.length) (k%d.2.1.length))
def mV(c d:ah):ah:=(c.1*d.1,(aG (c.2.1.length*d.2.1.length) (prF c d),(aG (c.2.1.length*d.2.1.length) (prT c d),(aG (c.1*d.1).toNat (prI c d),aG (c.2.1.length*d.2.1.length) (prW c d)))))
def m9:Ct:=⟨[bO,bO],[true,true],λx=>[CgR 20000 x.1,CgR 10000 x.2.1],[(true,fM)],λ_=>dfR _,false,none⟩
def z8(c d r0:ah):Prop:=CgR 1000000000 r0/\r0=mV c d
def Mx:Ann:=(.s .n (.s .n (.s .n (.s (.s .n (.l Ud t7 [2,3,5,6] (.s .n (.s (.s .n (.l Tz t7 [2,3,5,6,8] .n)) .n)))) (.s (.s .n (.l TU t7 [2,3,5,6] (.s .n (.s (.s .n (.l T8 t7 [2,3,5,6,10] (.s .n (.s (.s .n (.s .n (.s .n (.s (.s .n (.l Ul yg [2,3,5,6,10,11] (.s .n (.s (.s .n (.l Tx yg [2,3,5,6,10,11,13] (.s .n (.s (.s .n (.s (.s .n (.j TF yg [2,3,5,6,10,11,13,14] .n)) .n)) .n)))) .n)))) .n)))) .n)))) .n)))) .n)))))
def z7(c d:ah)(K:ny):Prop:=let b6:=c.2.1.length;let x:=d.2.1.length;Ik (c.1*d.1)<|aK (S:=(dD×gh)) (λa b=>let a8:=a.1.2.2.1;let w:=c.2.2.2.1.getD a8.toNat 0;Iq a8<|Oc a.2.1<|Oc a.2.2.1<|cnd (decide (a8<c.1)) (aK (S:=(dD×gh)) (λe f=>let b0:=e.2.2.1;let a9:=e.1.2.2.1;let y:=d.2.2.2.1.getD a9.toNat 0;Iq a9<|Oc e.2.1<|Oc b0<|cnd (decide (a9<d.1)) (Ix a8 c.2.2.2.1.length<|Ik (w*(x:Int))<|Ix a9 d.2.2.2.1.length<|Ik (w*(x:Int)+y)<|bg b0.2.2.2.1.length [w*(x:Int)+y].length 8/\(Ik (a9+1)<|f (((),(),a9+1,()),e.2.1,(b0.1,b0.2.1,b0.2.2.1,b0.2.2.2.1++[w*(x:Int)+y],b0.2.2.2.2),()))) (Ik (a8+1)<|b (((),(),a8+1,()),e.2.1,b0,()))) (((),(),0,()),a.2.1,a.2.2.1,())) (aK (S:=(dD×gh)) (λg h=>let a0:=g.1.2.2.1;let u:=a0.toNat;let a7:=c.2.2.2.2.getD u [];let a5:=c.2.1.getD u 0;let a3:=c.2.2.1.getD u 0;Iq a0<|Oc g.2.1<|Oc g.2.2.1<|cnd (decide (a0<(b6:Int))) (aK (S:=(dD×gh)) (λi j=>let b1:=i.2.2.1;let t:=i.1.2.2.1;let a6:=d.2.1.getD t.toNat 0;let a4:=d.2.2.1.getD t.toNat 0;let a2:=d.2.2.2.2.getD t.toNat [];Iq t<|Oc i.2.1<|Oc b1<|cnd (decide (t<(x:Int))) (Ix a0 b6<|Ik (a5*d.1)<|Ix t x<|Ik (a5*d.1+a6)<|bg b1.2.1.length [a5*d.1+a6].length 8/\(Ix a0 c.2.2.1.length<|Ik (a3*d.1)<|Ix t d.2.2.1.length<|Ik (a3*d.1+a4)<|bg b1.2.2.1.length [a3*d.1+a4].length 8/\aK (S:=eG) (λl m=>let b4:=l.2.2.2.1;let b2:=l.2.2.1;let a1:=l.1.2.2.2.1;let r:=a7.getD a1.toNat 0;let b3:=decide (0<=r);Iq a1<|Oc l.2.1<|Oc b2<|Ol b4<|cnd (decide (a1<(b6:Int))) (aK (S:=eG) (λn o=>let b5:=n.2.2;let z:=n.1.2.2.2.1;let v:=a2.getD z.toNat 0;Iq z<|Oc n.2.1<|Oc b5.1<|Ol b5.2.1<|cnd (decide (z<(x:Int))) (Ix a0 c.2.2.2.2.length<|Ix a1 a7.length<|(b3=true->t<(d.2.2.2.2.length:Int)/\0<=t)/\(b3=true->z<(a2.length:Int)/\0<=z)/\bK (S:=eG) (λp=>Iq p.1.2.2.2.1<|Oc p.2.1<|Oc p.2.2.1<|Ol p.2.2.2.1<|bg p.2.2.2.1.length [p.1.2.2.2.1].length 8/\(Ik (z+1)<|o (((),(),(),z+1,()),p.2.1,p.2.2.1,p.2.2.2.1++[p.1.2.2.2.1],()))) (λq=>cnd (b3&&decide (0<=v)) (Ix a0 c.2.2.2.2.length<|Ix a1 a7.length<|Ik (r*(x:Int))<|Ix t d.2.2.2.2.length<|Ix z a2.length<|Ik (r*(x:Int)+v)<|q (((),(),(),r*(x:Int)+v,()),n.2.1,b5.1,b5.2.1,())) (q (((),(),(),-1,()),n.2.1,b5.1,b5.2.1,())))) (Ik (a1+1)<|m (((),(),(),a1+1,()),n.2.1,b5.1,b5.2.1,()))) (((),(),(),0,()),l.2.1,b2,b4,())) (bg b2.2.2.2.2.length [b4].length 24/\(Ik (t+1)<|j (((),(),t+1,()),l.2.1,(b2.1,b2.2.1,b2.2.2.1,b2.2.2.2.1,b2.2.2.2.2++[b4]),())))) (((),(),(),0,()),i.2.1,(b1.1,b1.2.1++[a5*d.1+a6],b1.2.2.1++[a3*d.1+a4],b1.2.2.2),[],()))) (Ik (a0+1)<|h (((),(),a0+1,()),i.2.1,b1,()))) (((),(),0,()),g.2.1,g.2.2.1,())) (K (g.2.2.1,()))) (((),(),0,()),a.2.1,a.2.2.1,()))) (((),(),0,()),(0,[],[],[],[]),(c.1*d.1,[],[],[],[]),())
theorem Wv(c d:ah)(hok:ab (okL m9.args (c,d,())))(hpre:ab (m9.pre (c,d,()))):z7 c d (λr=>z8 c d r.1):=by
 simp only[m9,okL,T.oks,T.ok,ap,ab,aL,az,aW]at hok hpre
 try dsimp only[T.den]at hok hpre
 delta z7 z8 Ik Iq Ix Oc Ol Om
 dsimp -proj -eta only;obtain⟨Hc,Hd⟩:=hpre;clear hok;have c0:=Hc.ob0;have c1:=Hc.ob;have d0:=Hd.ob0;have d1:=Hd.ob;have cm:=Hc.m;have cl:=Hc.lt;have cc:=Hc.lc;have ci:=Hc.li;have dm:=Hd.m;have dl:=Hd.lt;have dc:=Hd.lc;have di:=Hd.li;have hob:=mN c0 c1 d0 d1;have hmk:=mN (x:=c.2.1.length) (y:=d.2.1.length) aa cm aa dm;refine⟨aB,?_⟩;refine bt (λ(s:eH)=>0<=s.1.2.2.1/\s.1.2.2.1<=c.1/\s.2.2.1.1=c.1*d.1/\s.2.2.1.2.1=[]/\s.2.2.1.2.2.1=[]/\s.2.2.1.2.2.2.2=[]/\LiB (prI c d) (s.1.2.2.1*d.1) s.2.2.1.2.2.2.1) (λ(s:eH)=>(c.1-s.1.2.2.1).toNat) ?_ ⟨ak,c0,rfl,rfl,rfl,rfl,⟨ak,ak,by simp[aG]⟩⟩;rintro⟨⟨_,_,x,_⟩,o1,⟨u1,u2,u3,u4,u5⟩,_⟩ next ⟨x0,x1,q1,q2,q3,q5,hL⟩ hnx
 intros
 try dsimp only at x0 x1 q1 q2 q3 q5 hL hnx⊢
 subst q1;subst q2;subst q3;subst q5;refine aE (λhx=>?_) (λhx=>?_)
 ·refine bt (λ(s:eH)=>0<=s.1.2.2.1/\s.1.2.2.1<=d.1/\s.2.2.1.1=c.1*d.1/\s.2.2.1.2.1=[]/\s.2.2.1.2.2.1=[]/\s.2.2.1.2.2.2.2=[]/\LiB (prI c d) (x*d.1+s.1.2.2.1) s.2.2.1.2.2.2.1) (λ(s:eH)=>(d.1-s.1.2.2.1).toNat) ?_ ⟨ak,d0,rfl,rfl,rfl,rfl,hL.to an⟩;rintro⟨⟨_,_,y,_⟩,o2,⟨v1,v2,v3,v4,v5⟩,_⟩ next1 ⟨y0,y1,q1,q2,q3,q5,hL2⟩ hn1;intros
  try dsimp only at y0 y1 q1 q2 q3 q5 hL2 hn1⊢
  have hxb:=mN x0 (b:=10000) (a:=20000) aa d0 d1;have ll:=hL2.l;refine aE (λhy=>?_) (λhy=>?_)
  ·have ic:=Hc.idG x0 hx;have id:=Hd.idG y0 hy;have hp:=mN ic.1 ic.2 (y:=d.2.1.length) aa dm;exact⟨x0,aa,aB,y0,aa,aB,bQ (by simp only[aX,bh];omega),aB,hn1 _ ⟨an,an,q1,q2,q3,q5,(hL2.push aa aa (by unfold prI;rw[(iD y0 hy).1,(iD y0 hy).2])).to an⟩ cw⟩
  ·have e:y=d.1:=aa
   rw[e]at hL2;exact⟨aB,hnx _ ⟨an,an,q1,q2,q3,q5,hL2.to (by dsimp only;rw[yk])⟩ cw⟩
 have ex:x=c.1:=aa
 rw[ex]at hL;clear hnx;refine bt (λ(s:eH)=>0<=s.1.2.2.1/\s.1.2.2.1<=c.2.1.length/\s.2.2.1.1=c.1*d.1/\LiB (prF c d) (s.1.2.2.1*d.2.1.length) s.2.2.1.2.1/\LiB (prT c d) (s.1.2.2.1*d.2.1.length) s.2.2.1.2.2.1/\s.2.2.1.2.2.2.1=u4/\TbG (prW c d) (s.1.2.2.1*d.2.1.length) (c.2.1.length*d.2.1.length) 1000000000 s.2.2.1.2.2.2.2) (λ(s:eH)=>(c.2.1.length-s.1.2.2.1).toNat) ?_ ⟨ak,ak,rfl,⟨ak,ak,by simp[aG]⟩,⟨ak,ak,by simp[aG]⟩,rfl,⟨⟨ak,ak⟩,by simp[aG]⟩⟩;rintro⟨⟨_,_,a,_⟩,o2,⟨v1,v2,v3,v4,v5⟩,_⟩ next1 ⟨a0,a1,q1,hF,hT,q4,hR⟩ hn1;intros
 try dsimp only at a0 a1 q1 hF hT q4 hR hn1⊢
 refine aE (λha=>?_) (λha=>?_)
 ·have hab:=mN a0 (a:=20000) (y:=d.2.1.length) aa aa dm;have fc:=Hc.frG a0 ha;have tc:=Hc.toG a0 ha;have rc:=Hc.rowG a0 ha;have hp1:=mN fc.1 fc.2 d0 d1;have hp2:=mN tc.1 tc.2 d0 d1;refine bt (λ(s:eH)=>0<=s.1.2.2.1/\s.1.2.2.1<=d.2.1.length/\s.2.2.1.1=c.1*d.1/\LiB (prF c d) (a*d.2.1.length+s.1.2.2.1) s.2.2.1.2.1/\LiB (prT c d) (a*d.2.1.length+s.1.2.2.1) s.2.2.1.2.2.1/\s.2.2.1.2.2.2.1=u4/\TbG (prW c d) (a*d.2.1.length+s.1.2.2.1) (c.2.1.length*d.2.1.length) 1000000000 s.2.2.1.2.2.2.2) (λ(s:eH)=>(d.2.1.length-s.1.2.2.1).toNat) ?_ ⟨ak,ak,q1,hF.to an,hT.to an,q4,hR.to an⟩;rintro⟨⟨_,_,b,_⟩,o3,⟨w1,w2,w3,w4,w5⟩,_⟩ next2 ⟨b0,b1,p1,hF2,hT2,p4,hR2⟩ hn2;intros
  try dsimp only at b0 b1 p1 hF2 hT2 p4 hR2 hn2⊢
  have fl:=hF2.l;have tl:=hT2.l;have rl:=hR2.r.l;refine aE (λhb=>?_) (λhb=>?_)
  ·have fd:=Hd.frG b0 hb;have td:=Hd.toG b0 hb;have rd:=Hd.rowG b0 hb;refine⟨a0,ha,aB,b0,hb,aB,bQ (by simp only[aX,bh];omega),a0,aa,aB,b0,aa,aB,bQ (by simp only[aX,bh];omega),?_⟩;have hF3:=(hF2.push (x:=c.2.1.getD a.toNat 0*d.1+d.2.1.getD b.toNat 0) aa aa (by unfold prF;rw[(iD b0 hb).1,(iD b0 hb).2])).to (k':=a*d.2.1.length+(b+1)) aa;have hT3:=(hT2.push (x:=c.2.2.1.getD a.toNat 0*d.1+d.2.2.1.getD b.toNat 0) aa aa (by unfold prT;rw[(iD b0 hb).1,(iD b0 hb).2])).to (k':=a*d.2.1.length+(b+1)) aa;generalize w2++[c.2.1.getD a.toNat 0*d.1+d.2.1.getD b.toNat 0]=w2' at *;generalize w3++[c.2.2.1.getD a.toNat 0*d.1+d.2.2.1.getD b.toNat 0]=w3' at *;refine bt (λ(s:eG)=>0<=s.1.2.2.2.1/\s.1.2.2.2.1<=c.2.1.length/\s.2.2.1=(w1,w2',w3',w4,w5)/\RwG (prH c d a b) (s.1.2.2.2.1*d.2.1.length) 1000000000 s.2.2.2.1) (λ(s:eG)=>(c.2.1.length-s.1.2.2.2.1).toNat) ?_ ⟨ak,ak,rfl,⟨⟨ak,ak⟩,by simp[aG]⟩⟩;rintro⟨⟨_,_,_,f,_⟩,o4,out4,row,_⟩ next3 ⟨f0,f1,p5,hW⟩ hn3;intros
   try dsimp only at f0 f1 p5 hW hn3⊢
   subst p5;refine aE (λhf=>?_) (λhf=>?_)
   ·have hfb:=mN f0 (a:=20000) (y:=d.2.1.length) aa aa dm;refine bt (λ(s:eG)=>0<=s.1.2.2.2.1/\s.1.2.2.2.1<=d.2.1.length/\s.2.2.1=(w1,w2',w3',w4,w5)/\RwG (prH c d a b) (f*d.2.1.length+s.1.2.2.2.1) 1000000000 s.2.2.2.1) (λ(s:eG)=>(d.2.1.length-s.1.2.2.2.1).toNat) ?_ ⟨ak,ak,rfl,hW.to an⟩;rintro⟨⟨_,_,_,g,_⟩,o5,out5,row5,_⟩ next4 ⟨g0,g1,p6,hW2⟩ hn4;intros
    try dsimp only at g0 g1 p6 hW2 hn4⊢
    subst p6;have wl:=hW2.r.l;refine aE (λhg=>?_) (λhg=>?_)
    ·have vc:=Hc.cel a0 ha f0 hf;have vd:=Hd.cel b0 hb g0 hg;refine⟨a0,aa,f0,aa,λ_=>⟨aa,b0⟩,λ_=>⟨aa,g0⟩,bZ (λ(q:eG)=>(-1000000000<=q.1.2.2.2.1/\q.1.2.2.2.1<=1000000000/\q.1.2.2.2.1=prC d.2.1.length ((c.2.2.2.2.getD a.toNat []).getD f.toNat 0) ((d.2.2.2.2.getD b.toNat []).getD g.toNat 0))/\q.2.2.1=(w1,w2',w3',w4,w5)/\q.2.2.2.1=row5) ?_ (λk hk=>aJ (λhz=>?_) (λhz=>hk _ ⟨⟨an,an,by dsimp only;unfold prC;rw[aj (λhh=>by rw[iP hh.1,iP hh.2]at hz;cases hz)]⟩,rfl,rfl⟩))⟩
     ·rintro⟨⟨_,_,_,h,_⟩,o6,out6,row6,_⟩ ⟨⟨q1,q2,q5⟩,q3,q4⟩;intros
      try dsimp only at q1 q2 q3 q4 q5⊢
      subst q3;subst q4;exact⟨bQ (by simp only[aX,bh];omega),aB,hn4 _ ⟨an,an,rfl,(hW2.push q1 q2 (by rw[q5];unfold prH;rw[(iD g0 hg).1,(iD g0 hg).2])).to an⟩ cw⟩
     ·simp only[ao,db]at hz;have hp:=mN hz.1 vc.2 (y:=d.2.1.length) aa dm;exact⟨a0,aa,f0,aa,aB,b0,aa,g0,aa,aB,hk _ ⟨⟨an,an,by dsimp only;unfold prC;rw[am hz]⟩,rfl,rfl⟩⟩
    ·have e:g=d.2.1.length:=aa
     rw[e]at hW2;exact⟨aB,hn3 _ ⟨an,an,rfl,hW2.to (by dsimp only;rw[yk])⟩ cw⟩
   ·have e:f=c.2.1.length:=aa
    rw[e]at hW;exact⟨bQ (by simp only[aX,bh];omega),aB,hn2 _ ⟨an,an,p1,hF3,hT3,p4,(hR2.push hW.r (by rw[hW.g];unfold prW;rw[(iD b0 hb).1,(iD b0 hb).2];congr 1)).to an⟩ cw⟩
  ·have e:b=d.2.1.length:=aa
   rw[e]at hF2 hT2 hR2;exact⟨aB,hn1 _ ⟨an,an,p1,hF2.to (by dsimp only;rw[yk]),hT2.to (by dsimp only;rw[yk]),p4,hR2.to (by dsimp only;rw[yk])⟩ cw⟩
 have ea:a=c.2.1.length:=aa
 rw[ea]at hF hT hR;have fl:=hF.l;have tl:=hT.l;have rl:=hR.r.l;have ll:=hL.l;subst q4;refine⟨⟨aa,an,an,an,an,an,an,hF.e,hT.e,hL.e,λw hw=>?_⟩,?_⟩
 ·have h:=hR.r.e w hw;exact⟨by have:=h.l;dsimp only;omega,h.e⟩
 ·have e1:=hF.g;have e2:=hT.g;have e3:=hL.g;have e4:=hR.g;have em:((c.2.1.length:Int)*d.2.1.length).toNat=c.2.1.length*d.2.1.length:=by rw[←C1,cQ]
  rw[em]at e1 e2 e4
  try dsimp only at q1⊢
  rw[q1,e1,e2,e3,e4];rfl
theorem Hy(c d:ah):∃q:ah×Unit,ab (okL m9.args (c,d,()))->ab (m9.pre (c,d,()))->z7 c d (λr=>r=q)/\ab (okR m9.rt q)/\z8 c d q.1:=pkb aR aS 122 Tryz.f122 m9 Mx [(16,516),(17,516),(1,6),(9,516),(27,18)] (λx K=>z7 x.1 x.2.1 K) (λx r=>z8 x.1 x.2.1 r.1) (λx h1 h2=>Wv x.1 x.2.1 h1 h2) (c,d,())
def wC(c d:ah):ah:=(Hy c d).choose.1
theorem ME(c d:ah)(hok:ab (okL m9.args (c,d,())))(hpre:ab (m9.pre (c,d,()))):ab (okR m9.rt (wC c d,()))/\z8 c d (wC c d):=((Hy c d).choose_spec hok hpre).2
def H4:Ct:=⟨[bO,bO],[true,true],λx=>[CgR 20000 x.1,CgR 10000 x.2.1],[(true,fM)],λx=>((wC x.1 x.2.1),()),false,none⟩
theorem M4:aN Tryz.prog 122 H4:=ctb aR aS 122 Tryz.f122 H4 Mx [(16,516),(17,516),(1,6),(9,516),(27,18)] (λx K=>z7 x.1 x.2.1 K) (λx h1 h2=>((Hy x.1 x.2.1).choose_spec h1 h2).1)
theorem Bf(u0:0<=u)(u1:u<A)(v0:0<=v)(v1:v<n):0<=u*n+v/\u*n+v<A*n:=by have h1:=CF u0 (show 0<=n by omega);have h2:=Int.mul_le_mul_of_nonneg_right (show u<=A-1 by omega) (show 0<=n by omega);rw[Int.sub_mul,Int.one_mul]at h2;omega
theorem t5{m:Int}(k0:0<=k)(A0:0<=A)(m0:0<=m)(k1:k<A*m):0<=k / m/\k / m<A/\0<=k%m/\k%m<m/\k / m*m+k%m=k:=by
 have hm:0<m:=by
  rcases Int.lt_or_eq_of_le m0 with h|h
  ·exact h
  ·rw[←h,Int.mul_zero]at k1;omega
 exact⟨Int.ediv_nonneg k0 m0,Int.ediv_lt_of_lt_mul hm k1,Int.emod_nonneg _ aa,Int.emod_lt_of_pos _ hm,by rw[Int.mul_comm];exact Int.mul_ediv_add_emod k m⟩
theorem ae5{u' v':Int}(v0:0<=v)(v1:v<n)(w0:0<=v')(w1:v'<n)(h:u*n+v=u'*n+v'):u=u'/\v=v':=by have a:=@iD u v n v0 v1;have b:=@iD u' v' n w0 w1;rw[h]at a;exact⟨a.1.symm.trans b.1,a.2.symm.trans b.2⟩
theorem ac4(C:TyP c)(D:TyP d):TyP (mV c d):=by
 have hob:=C.ob;have dob:=D.ob;have hM:((c.2.1.length*d.2.1.length:Nat):Int)=(c.2.1.length:Int)*d.2.1.length:=C1 _ _;have hlF:(mV c d).2.1.length=c.2.1.length*d.2.1.length:=bA _;have hlT:(mV c d).2.2.1.length=c.2.1.length*d.2.1.length:=bA _;have hlW:(mV c d).2.2.2.2.length=c.2.1.length*d.2.1.length:=bA _;have hmul:=CF hob dob;have hlI:(mV c d).2.2.2.1.length=(c.1*d.1).toNat:=bA _;have gF:∀k:Int,0<=k->k<(c.2.1.length:Int)*d.2.1.length->(mV c d).2.1.getD k.toNat 0=prF c d k:=λk k0 k1=>dN k0 (by rw[hM];exact k1);have gT:∀k:Int,0<=k->k<(c.2.1.length:Int)*d.2.1.length->(mV c d).2.2.1.getD k.toNat 0=prT c d k:=λk k0 k1=>dN k0 (by rw[hM];exact k1);have gI:∀x:Int,0<=x->x<c.1*d.1->(mV c d).2.2.2.1.getD x.toNat 0=prI c d x:=λk k0 k1=>dN k0 aa;have gW:∀k:Int,0<=k->k<(c.2.1.length:Int)*d.2.1.length->(mV c d).2.2.2.2.getD k.toNat []=prW c d k:=λk k0 k1=>dN k0 (by rw[hM];exact k1);have gC:∀k l:Int,0<=k->k<(c.2.1.length:Int)*d.2.1.length->0<=l->l<(c.2.1.length:Int)*d.2.1.length->aq (mV c d) k l=prC d.2.1.length (aq c (k / d.2.1.length) (l / d.2.1.length)) (aq d (k%d.2.1.length) (l%d.2.1.length)):=λk l k0 k1 l0 l1=>by show ((mV c d).2.2.2.2.getD k.toNat []).getD l.toNat 0=_;rw[gW k k0 k1];unfold prW;rw[dN l0 (by rw[hM];exact l1)];rfl
 have hF:∀a b:Int,0<=a->a<c.2.1.length->0<=b->b<d.2.1.length->prF c d (a*d.2.1.length+b)=c.2.1.getD a.toNat 0*d.1+d.2.1.getD b.toNat 0:=λa b a0 a1 b0 b1=>by unfold prF;rw[(iD b0 b1).1,(iD b0 b1).2]
 have hT:∀a b:Int,0<=a->a<c.2.1.length->0<=b->b<d.2.1.length->prT c d (a*d.2.1.length+b)=c.2.2.1.getD a.toNat 0*d.1+d.2.2.1.getD b.toNat 0:=λa b a0 a1 b0 b1=>by unfold prT;rw[(iD b0 b1).1,(iD b0 b1).2]
 refine⟨hmul,by rw[hlF,hlT],by rw[hlI];show _=c.1*d.1;omega,by rw[hlF,hlW],λf f0 f1=>?_,λf f0 f1=>?_,λf f0 f1=>?_,λx x0 x1=>?_,λf g f0 f1 g0 g1 e=>?_,λf g f0 f1 g0 g1 e=>?_⟩
 ·rw[hlF,hM]at f1;rw[gW f f0 f1,hlF];unfold prW;rw[bA]
 ·rw[hlF,hM]at f1;obtain⟨a0,a1,b0,b1,_⟩:=t5 f0 aa aa f1;rw[gF f f0 f1];have h1:=C.fr _ a0 a1;have h2:=D.fr _ b0 b1;exact Bf h1.1 h1.2 h2.1 h2.2
 ·rw[hlF,hM]at f1;obtain⟨a0,a1,b0,b1,_⟩:=t5 f0 aa aa f1;rw[gT f f0 f1];have h1:=C.to _ a0 a1;have h2:=D.to _ b0 b1;exact Bf h1.1 h1.2 h2.1 h2.2
 ·have x1:x<c.1*d.1:=x1;obtain⟨a0,a1,b0,b1,hx⟩:=t5 x0 hob dob x1;have h1:=C.idn _ a0 a1;have h2:=D.idn _ b0 b1;have hr:=Bf h1.1 h1.2.1 h2.1 h2.2.1;rw[gI x x0 x1,hlF,hM];unfold prI;rw[gF _ hr.1 hr.2,gT _ hr.1 hr.2,hF _ _ h1.1 h1.2.1 h2.1 h2.2.1,hT _ _ h1.1 h1.2.1 h2.1 h2.2.1,h1.2.2.1,h1.2.2.2,h2.2.2.1,h2.2.2.2];exact⟨hr.1,hr.2,hx,hx⟩
 ·rw[hlF,hM]at f1 g1;obtain⟨a0,a1,b0,b1,_⟩:=t5 f0 aa aa f1;obtain⟨a0',a1',b0',b1',_⟩:=t5 g0 aa aa g1;rw[gT f f0 f1,gF g g0 g1]at e;have t2:=D.to _ b0 b1;have r2:=D.fr _ b0' b1';obtain⟨e1,e2⟩:=ae5 t2.1 t2.2 r2.1 r2.2 e;have y1:=C.yes _ _ a0 a1 a0' a1' e1;have y2:=D.yes _ _ b0 b1 b0' b1' e2;have hr:=Bf y1.1 y1.2.1 y2.1 y2.2.1;rw[gC f g f0 f1 g0 g1,hlF,hM,gF f f0 f1,gT g g0 g1];unfold prC;rw[am ⟨y1.1,y2.1⟩,gF _ hr.1 hr.2,gT _ hr.1 hr.2,hF _ _ y1.1 y1.2.1 y2.1 y2.2.1,hT _ _ y1.1 y1.2.1 y2.1 y2.2.1,y1.2.2.1,y1.2.2.2,y2.2.2.1,y2.2.2.2];exact⟨hr.1,hr.2,rfl,rfl⟩
 ·rw[hlF,hM]at f1 g1;obtain⟨a0,a1,b0,b1,_⟩:=t5 f0 aa aa f1;obtain⟨a0',a1',b0',b1',_⟩:=t5 g0 aa aa g1;rw[gT f f0 f1,gF g g0 g1]at e;rw[gC f g f0 f1 g0 g1];unfold prC;rw[aj];rintro⟨h1,h2⟩;apply e;have e1:c.2.2.1.getD (f / d.2.1.length).toNat 0=c.2.1.getD (g / d.2.1.length).toNat 0:=sf λhn=>by rw[C.no _ _ a0 a1 a0' a1' hn]at h1;omega
  have e2:d.2.2.1.getD (f%d.2.1.length).toNat 0=d.2.1.getD (g%d.2.1.length).toNat 0:=sf λhn=>by rw[D.no _ _ b0 b1 b0' b1' hn]at h2;omega
  unfold prT prF;rw[e1,e2]
theorem S_{c d:ah}(C:TyP c)(D:TyP d){f:Int}(f0:0<=f)(f1:f<(eq c d).2.1.length) :
  ((eq c d).2.1.getD f.toNat 0<c.1/\(eq c d).2.2.1.getD f.toNat 0<c.1)\/(c.1<=(eq c d).2.1.getD f.toNat 0/\c.1<=(eq c d).2.2.1.getD f.toNat 0):=by
 have hm:(eq c d).2.1.length=c.2.1.length+d.2.1.length:=kP;have hlt:=C.lt;rw[hm]at f1;by_cases h:f<c.2.1.length
 ·have e1:(eq c d).2.1.getD f.toNat 0=c.2.1.getD f.toNat 0:=Bx f0 h;have e2:(eq c d).2.2.1.getD f.toNat 0=c.2.2.1.getD f.toNat 0:=Bx f0 aa;rw[e1,e2];exact .inl ⟨(C.fr f f0 h).2,(C.to f f0 h).2⟩
 ·have e1:(eq c d).2.1.getD f.toNat 0=d.2.1.getD (f-c.2.1.length).toNat 0+c.1:=Bi aa aa;have e2:(eq c d).2.2.1.getD f.toNat 0=d.2.2.1.getD (f-c.2.1.length).toNat 0+c.1:=by have:=Bi (l:=c.2.2.1) (e:=d.2.2.1) (n:=d.2.1.length) (p:=c.1) (i:=f) aa aa;rw[hlt]at this;exact this
  rw[e1,e2];have h1:=D.fr (f-c.2.1.length) aa aa;have h2:=D.to (f-c.2.1.length) aa aa;exact .inr ⟨aa,aa⟩
theorem abu(C:TyP c)(D:TyP d):TyP (F9 c d):=by
 have R:=ST C D;have side:=λf=>@S_ c d C D f;have hr1:(eq c d).1=c.1+d.1:=rfl;have hob:=C.ob;have dob:=D.ob;unfold F9;generalize eq c d=r at *;have hmul:=CF hob dob;have rlt:=R.lt;have rli:=R.li;have hF:(rk r c d).2.1=joF r (c.1*d.1).toNat d.1:=rfl;have hT:(rk r c d).2.2.1=joT r (c.1*d.1).toNat d.1 c.1:=rfl;generalize hFF:joF r (c.1*d.1).toNat d.1=F at *;generalize hTT:joT r (c.1*d.1).toNat d.1 c.1=T at *;have lF:F.length=r.2.1.length+(c.1*d.1).toNat:=by rw[←hFF];unfold joF;rw[bn,bA]
 have lT:T.length=r.2.1.length+(c.1*d.1).toNat:=by rw[←hTT];unfold joT;rw[bn,bA,rlt]
 have Fl:∀f:Int,0<=f->f<r.2.1.length->F.getD f.toNat 0=r.2.1.getD f.toNat 0:=λf f0 f1=>by rw[←hFF];exact iw f0 f1
 have Tl:∀f:Int,0<=f->f<r.2.1.length->T.getD f.toNat 0=r.2.2.1.getD f.toNat 0:=λf f0 f1=>by rw[←hTT];exact iw f0 aa
 have Fr:∀f:Int,(r.2.1.length:Int)<=f->f<r.2.1.length+c.1*d.1->F.getD f.toNat 0=(f-r.2.1.length) / d.1:=λf f0 f1=>by rw[←hFF];unfold joF;rw[lh f0,dN aa aa]
 have Tr:∀f:Int,(r.2.1.length:Int)<=f->f<r.2.1.length+c.1*d.1->T.getD f.toNat 0=c.1+(f-r.2.1.length)%d.1:=λf f0 f1=>by rw[←hTT];unfold joT;rw[lh aa,rlt,dN aa aa]
 have ext:∀f:Int,(r.2.1.length:Int)<=f->f<r.2.1.length+c.1*d.1->0<=F.getD f.toNat 0/\F.getD f.toNat 0<c.1/\c.1<=T.getD f.toNat 0/\T.getD f.toNat 0<c.1+d.1:=λf f0 f1=>by obtain⟨a0,a1,b0,b1,_⟩:=t5 (k:=f-r.2.1.length) aa hob dob aa;rw[Fr f f0 f1,Tr f f0 f1];exact⟨a0,a1,aa,aa⟩
 have gW:∀f:Int,0<=f->f<F.length->(rk r c d).2.2.2.2.getD f.toNat []=joW r d.1 c.1 F T f:=λf f0 f1=>by show (aG (joF r (c.1*d.1).toNat d.1).length (joW r d.1 c.1 (joF r (c.1*d.1).toNat d.1) (joT r (c.1*d.1).toNat d.1 c.1))).getD f.toNat []=_;rw[hFF,hTT,dN f0 f1]
 have gC:∀f g:Int,0<=f->f<F.length->0<=g->g<F.length->aq (rk r c d) f g=joH r d.1 c.1 F T f g:=λf g f0 f1 g0 g1=>by unfold aq;rw[gW f f0 f1];unfold joW;rw[dN g0 g1]
 have ob1:(rk r c d).1=c.1+d.1:=hr1;have id1:(rk r c d).2.2.2.1=r.2.2.2.1:=rfl;have lW:(rk r c d).2.2.2.2.length=F.length:=by show (aG (joF r (c.1*d.1).toNat d.1).length _).length=_;rw[bA,hFF]
 refine⟨by rw[ob1];omega,by rw[hF,hT];omega,by rw[id1,ob1];omega,by rw[lW,hF],λf f0 f1=>?_,λf f0 f1=>?_,λf f0 f1=>?_,λx x0 x1=>?_,λf g f0 f1 g0 g1 e=>?_,λf g f0 f1 g0 g1 e=>?_⟩
 ·rw[hF]at f1⊢;rw[gW f f0 f1];unfold joW;rw[bA]
 ·rw[hF]at f1⊢;rw[ob1];by_cases h:f<r.2.1.length
  ·rw[Fl f f0 h,←hr1];exact R.fr f f0 h
  ·have:=ext f aa aa;omega
 ·rw[hF]at f1;rw[hT,ob1];by_cases h:f<r.2.1.length
  ·rw[Tl f f0 h,←hr1];exact R.to f f0 h
  ·have:=ext f aa aa;omega
 ·rw[ob1]at x1;have:=R.idn x x0 aa;rw[hF,hT,id1,Fl _ this.1 this.2.1,Tl _ this.1 this.2.1];exact⟨this.1,aa,this.2.2⟩
 ·rw[hF]at f1 g1;rw[hT,hF]at e;rw[hF,hT,gC f g f0 f1 g0 g1];unfold joH;rw[aj (λhn=>hn e)];by_cases hb:f<r.2.1.length/\g<r.2.1.length
  ·rw[am hb];rw[Tl f f0 hb.1,Fl g g0 hb.2]at e;have y:=R.yes f g f0 hb.1 g0 hb.2 e;have y':0<=(r.2.2.2.2.getD f.toNat []).getD g.toNat 0/\(r.2.2.2.2.getD f.toNat []).getD g.toNat 0<r.2.1.length/\r.2.1.getD ((r.2.2.2.2.getD f.toNat []).getD g.toNat 0).toNat 0=r.2.1.getD f.toNat 0/\r.2.2.1.getD ((r.2.2.2.2.getD f.toNat []).getD g.toNat 0).toNat 0=r.2.2.1.getD g.toNat 0:=y;rw[Fl _ y'.1 y'.2.1,Tl _ y'.1 y'.2.1,Fl f f0 hb.1,Tl g g0 hb.2];exact⟨y'.1,aa,y'.2.2⟩
  ·rw[aj hb]
   have key:0<=F.getD f.toNat 0/\F.getD f.toNat 0<c.1/\c.1<=T.getD g.toNat 0/\T.getD g.toNat 0<c.1+d.1:=by
    by_cases h:f<r.2.1.length
    ·have hg:¬g<r.2.1.length:=λhg=>hb ⟨h,hg⟩;have eg:=ext g aa aa;have s:=side f f0 h;have rf:=R.fr f f0 h;rw[Tl f f0 h]at e;rw[Fl f f0 h];omega
    ·have ef:=ext f aa aa;by_cases k:g<r.2.1.length
     ·have s:=side g g0 k;have rt:=R.to g g0 k;rw[Fl g g0 k]at e;rw[Tl g g0 k];omega
     ·have eg:=ext g aa aa;omega
   have hr:=Bf key.1 key.2.1 (v:=T.getD g.toNat 0-c.1) (n:=d.1) aa aa;have hd:=@iD (F.getD f.toNat 0) (T.getD g.toNat 0-c.1) d.1 aa aa;rw[show (r.2.1.length:Int)+F.getD f.toNat 0*d.1+T.getD g.toNat 0-c.1=r.2.1.length+(F.getD f.toNat 0*d.1+(T.getD g.toNat 0-c.1)) by omega];have hX:(r.2.1.length:Int)+(F.getD f.toNat 0*d.1+(T.getD g.toNat 0-c.1))-r.2.1.length=F.getD f.toNat 0*d.1+(T.getD g.toNat 0-c.1):=by omega
   have eF:=Fr (r.2.1.length+(F.getD f.toNat 0*d.1+(T.getD g.toNat 0-c.1))) aa aa;have eT:=Tr (r.2.1.length+(F.getD f.toNat 0*d.1+(T.getD g.toNat 0-c.1))) aa aa;rw[hX,hd.1]at eF;rw[hX,hd.2]at eT;rw[eF,eT];exact⟨aa,aa,rfl,aa⟩
 ·rw[hF]at f1 g1;rw[hT,hF]at e;rw[gC f g f0 f1 g0 g1];unfold joH;rw[am e]
theorem lk(h:CgR b c)(hb:b<=1000000000000):ab (T.oks bO c):=by
 have h1:=h.m;have h2:=h.lt;have h3:=h.li;have h4:=h.ob;have h5:=h.ob0;have h6:=h.lc;refine ae1 (by rw[cF];omega) ⟨by rw[ce];omega,λx hx=>?_⟩ ⟨by rw[ce];omega,λx hx=>?_⟩ ⟨by rw[ce];omega,λx hx=>?_⟩ ⟨by rw[ce];omega,λr hr=>⟨by have:=(h.row r hr).1;rw[ce];omega,λx hx=>?_⟩⟩
 ·have:=h.fr x hx;show inK .i64 x;rw[cF];omega
 ·have:=h.to x hx;show inK .i64 x;rw[cF];omega
 ·have:=h.id x hx;show inK .i64 x;rw[cF];omega
 ·have:=(h.row r hr).2 x hx;show inK .i64 x;rw[cF];omega
theorem Kl(hok:(T.sl cy).ok rel)(h:RowP rel.length rel)(h8:rel.length<=8):CgR 64 (fZ rel)/\(fZ rel).1=(rel.length:Int)/\((fZ rel).2.1.length:Int)<=8*rel.length:=(Ni rel (by simp only[mA,okL,fO,ab,az];exact kN _ _ hok) ⟨h,h8,trivial⟩).2 |> λq=>⟨q.1,q.2.1,q.2.2.1⟩
theorem aaw(hok:(T.sl cy).ok rel)(h:RowP rel.length rel)(h8:rel.length<=8):CgR 64 (fZ rel):=(Kl hok h h8).1
structure CgT (b:Int) (c:ah):Prop where
 cg:CgR b c
 ty:TyP c
theorem CgT.le(h:CgT a c)(hab:a<=b):CgT b c:=⟨h.cg.le hab,h.ty⟩
theorem qN(hok:(T.sl cy).ok rel)(h:RowP rel.length rel)(h8:rel.length<=8)(hp:PreP rel):CgT 64 (fZ rel):=⟨aaw hok h h8,(Ni rel (by simp only[mA,okL,fO,ab,az];exact kN _ _ hok) ⟨h,h8,trivial⟩).2.2.2.2 hp⟩
def KJ(t:bW):Bool:=decide (t.length<=8)&&t.all λr=>decide (r.length<=8)&&r.all λx=>decide (0<=x/\x<=8)
theorem t6(h:KJ t=true):(T.sl cy).ok t:=by simp only[KJ,ao,db,gL]at h;exact⟨by rw[ce];omega,λr hr=>⟨by have:=(h.2 r hr).1;rw[ce];omega,λx hx=>by have:=(h.2 r hr).2 x hx;show inK .i64 x;rw[cF];omega⟩⟩
theorem aeb(h:CgR 64 c)(g:CgR 64 d):CgR 10000 (wM c d):=(NA c d (by simp only[mD,okL,fO,ab,az];exact⟨lk h aa,lk g aa⟩) ⟨h,g,trivial⟩).2.1
theorem Td(h:CgT 64 c)(g:CgT 64 d):CgT 10000 (wM c d):=⟨aeb h.cg g.cg,by rw[(NA c d (by simp only[mD,okL,fO,ab,az];exact⟨lk h.cg aa,lk g.cg aa⟩) ⟨h.cg,g.cg,trivial⟩).2.2];exact abu h.ty g.ty⟩
theorem op_t(h:CgT b c):CgT b (opR c):=⟨aed h.cg,ae4 h.ty⟩
theorem K5(h:TblR t):CgR 8 (lU t):=ac1 h.lo h.hi h.rw_ h.en
def cgB(b:Int)(c:ah):Bool:=
 decide (1<=b)&&decide (0<=c.1)&&decide (c.1<=b)&&decide ((c.2.1.length:Int)<=b)&&decide (c.2.2.1.length=c.2.1.length)&&decide ((c.2.2.2.1.length:Int)=c.1)&&decide (c.2.2.2.2.length=c.2.1.length)
  && c.2.1.all (λx=>decide (0<=x/\x<=b))&&c.2.2.1.all (λx=>decide (0<=x/\x<=b))&&c.2.2.2.1.all (λx=>decide (0<=x/\x<=b))&&c.2.2.2.2.all (λr=>decide (r.length=c.2.1.length)&&r.all (λx=>decide (-b<=x/\x<=b)))
theorem S9(h:cgB b c=true):CgR b c:=by simp only[cgB,ao,db,gL]at h;obtain⟨⟨⟨⟨⟨⟨⟨⟨⟨⟨h1,h2⟩,h3⟩,h4⟩,h5⟩,h6⟩,h7⟩,h8⟩,h9⟩,h10⟩,h11⟩:=h;exact⟨h1,h2,h3,h4,h5,h6,h7,h8,h9,h10,h11⟩
def xK(n:Nat):Nat->List (List Int×List Int)
 |0=>[([],[])]
 |k+1=>([],[])::((xK n k).flatMap λq=>(List.range n).flatMap λ(y:Nat)=>(List.range y).map λ(x:Nat)=>(Int.ofNat x::q.1,Int.ofNat y::q.2))
theorem aby:((xK 2 3).all λq=>cgB 10000 (nJ 2 q.1 q.2)&&lP (nJ 2 q.1 q.2))=true:=by decide+kernel
theorem abl:((xK 3 3).all λq=>cgB 10000 (nJ 3 q.1 q.2)&&lP (nJ 3 q.1 q.2))=true:=by decide+kernel
theorem Js{n:Nat}:∀(k:Nat)(fr to:aA),fr.length<=k->to.length=fr.length->(∀i:Nat,i<fr.length->0<=fr.getD i 0/\fr.getD i 0<to.getD i 0/\to.getD i 0<n)->(fr,to)∈xK n k
 |0,fr,to,h,hl,_=>by have h1:fr=[]:=jR aa;have h2:to=[]:=jR aa;subst h1;subst h2;exact cA.2 rfl
 |k+1,[],to,_,hl,_=>by have h2:to=[]:=jR hl;subst h2;exact cz.2 (.inl rfl)
 |k+1,x::fr,[],_,hl,_=>by cases hl
 |k+1,x::fr,y::to,h,hl,he=>by
  have h0:=he 0 ak;simp only[wx]at h0;have hi:=Js k fr to (by simpa using h) (by simpa using hl) (λi hi=>by have:=he (i+1) (by simpa using hi);simpa using this);refine cz.2 (.inr (sg.2 ⟨_,hi,sg.2 ⟨y.toNat,C7.2 aa,fX.2 ⟨x.toNat,C7.2 aa,?_⟩⟩⟩));have hx:Int.ofNat x.toNat=x:=by rw[Int.ofNat_eq_natCast];omega
  have hy:Int.ofNat y.toNat=y:=by rw[Int.ofNat_eq_natCast];omega
  dsimp only;rw[hx,hy]
theorem JS{to:aA}(h2:2<=n)(h3:n<=3)(hk:fr.length<=3)(hl:to.length=fr.length)(he:∀i:Nat,i<fr.length->0<=fr.getD i 0/\fr.getD i 0<to.getD i 0/\to.getD i 0<n):CgT 10000 (nJ n fr to):=by
 rcases (show n=2\/n=3 by omega)with e|e
 ·have hm:(fr,to)∈xK 2 3:=Js (n:=2) 3 fr to hk hl (λi hi=>by have:=he i hi;omega);have h:=gL.1 aby (fr,to) hm;rw[e];dsimp only at h;rw[ao]at h;exact⟨S9 h.1,IZ h.2⟩
 ·have hm:(fr,to)∈xK 3 3:=Js (n:=3) 3 fr to hk hl (λi hi=>by have:=he i hi;omega);have h:=gL.1 abl (fr,to) hm;rw[e];dsimp only at h;rw[ao]at h;exact⟨S9 h.1,IZ h.2⟩
structure EdP (n:Int) (fr to:aA):Prop where
 l:to.length=fr.length
 e:∀i:Nat,i<fr.length->0<=fr.getD i 0/\fr.getD i 0<to.getD i 0/\to.getD i 0<n
theorem EdP.push{y:Int}{to:aA}(h:EdP n fr to)(h0:0<=x)(h1:x<y)(h2:y<n):EdP n (fr++[x]) (to++[y]):=
 ⟨by rw[bn,bn,h.l];rfl,λi hi=>by
  have hl:=h.l;rw[bn]at hi;simp only[aX,bh]at hi;by_cases hc:i<fr.length
  ·rw[Km hc,Km aa];exact h.e i hc
  ·have e1:i=fr.length:=aa
   have e2:(to++[y]).getD fr.length 0=y:=by rw[←hl];exact Kv to
   rw[e1,e2,Kv fr];exact⟨h0,h1,h2⟩⟩
structure OnP (n k:Int) (t:bW):Prop where
 l:(t.length:Int)=k
 e:∀r∈t,r=List.replicate n.toNat 1
theorem OnP.push(h:OnP n k t)(hr:r=List.replicate n.toNat 1):OnP n (k+1) (t++[r]):=
 ⟨by rw[bn];have:=h.l;simp only[aX,bh];omega,λy hy=>by
  rcases eS.1 hy with hy|hy
  ·exact h.e y hy
  ·rw[cA.1 hy];exact hr⟩
def jW:Wt:=⟨fC,[],[],λx y=>[aY x],λx _=>x,[(true,fM)],λ_ _=>dfR _,0⟩
def zG(s z:aU)(r0:ah):Prop:=aY z/\CgT 10000 r0
def MF:Ann:=(.s .n (.s (.s .n (.s .n (.s .n (.s .n (.s .n (.s .n (.s .n (.s .n (.s .n (.s .n (.s .n (.s .n (.s (.s .n (.s .n (.s (.s .n (.l [(0,(.ad 1000000 [.de])),(2,(.ad 2 [.de])),(4,(.ref 800004 [])),(5,(.d aC))] [(1000000,jE),(2,cG),(800004,iU)] [3] (.s .n (.s (.s .n (.s (.s .n (.l [(0,(.ad 1000000 [.de])),(2,(.ad 2 [.de])),(4,(.ref 800004 [])),(6,(.ref 800006 [])),(7,(.d aC))] [(1000000,jE),(2,cG),(800004,iU),(800006,bS)] [3,5] .n)) .n)) .n)))) .n))) .n))))))))))))) (.s .n (.s .n (.s (.s .n (.l [(0,(.ad 1000000 [.de])),(2,(.ad 2 [.de])),(9,(.ref 800009 [])),(10,(.ref 800010 [])),(11,(.d aC))] [(1000000,jE),(2,cG),(800009,bS),(800010,bS)] [8] .n)) .n)))))
def agj:FuncId->Option Ct:=lkp [(65,oH),(129,HB),(141,M6),(130,Db),(142,HY),(128,qk),(127,q9),(126,qm),(123,wP)]
def CX(s:aU)(K:yQ):Prop:=let a2:=RowP ([[1]].length:Int) [[1]];let u:=fZ [[1]];let j:=c6 s 12;let g:=cI s 12;let y:=wF g;let x:=cI g 5;let w:=c6 g 3;let q:=c6 g 5;let m:=cI g 2;let l:=uu g;let o:=wM (lU l) u;let k:=m7 x q;let h:=c6 g 2;let p:=m7 m (2+h);0<=s.2.1/\cnd (j==0) (0<=g.2.1/\aY x/\0<=q/\q<=8/\RowP (k.length:Int) k/\k.length<=8/\K (wB x q) (fZ k,())) (cnd (j==1) (RowP ([[1,1],[0,1]].length:Int) [[1,1],[0,1]]/\[[1,1],[0,1]].length<=8/\K g (fZ [[1,1],[0,1]],())) (cnd (j==2) (RowP ([[1,1,1],[0,1,0],[0,0,1]].length:Int) [[1,1,1],[0,1,0],[0,0,1]]/\[[1,1,1],[0,1,0],[0,0,1]].length<=8/\K g (fZ [[1,1,1],[0,1,0],[0,0,1]],())) (cnd (j==3) ((0:Int)<=2/\(2:Int)<=8/\[1,1].length=[0,0].length/\[0,0].length<=1000000000/\K g (nJ 2 [0,0] [1,1],())) (cnd (j==4) (aY g/\OwnP l/\K y (lU l,())) (cnd (j==5) (0<=g.2.1/\(Ik (1+w)<|aK (S:=LV) (λa b=>let a3:=a.1.2.2.2.1;let z:=a.2.2.2.1;Iq a3<|Oa cO a.2.1.1<|Iq a.2.1.2.1<|inK .u64 a.2.1.2.2->(Oc a.2.2.1<|Om z<|cnd (decide (a3<1+w)) (aK (S:=Ma) (λc d=>let a0:=c.1.2.2.2.2.1;let v:=c.2.2.2;Iq a0<|Oa cO c.2.1.1<|Iq c.2.1.2.1<|inK .u64 c.2.1.2.2->(Oc c.2.2.1<|Om v.1<|Ol v.2.1<|cnd (decide (a0<1+w)) (bg v.2.1.length [1].length 8/\(Ik (a0+1)<|d (((),(),(),(),a0+1,()),c.2.1,c.2.2.1,v.1,v.2.1++[1],()))) (bg v.1.length [v.2.1].length 24/\(Ik (a3+1)<|b (((),(),(),a3+1,()),c.2.1,c.2.2.1,v.1++[v.2.1],()))))) (((),(),(),(),0,()),a.2.1,a.2.2.1,z,[],())) (RowP (z.length:Int) z/\z.length<=8/\K a.2.1 (fZ z,())))) (((),(),(),0,()),cI g 3,(0,[],[],[],[]),[],()))) (cnd (j==6) ((0:Int)<=3/\(3:Int)<=8/\[1,2,2].length=[0,1,0].length/\[0,1,0].length<=1000000000/\K g (nJ 3 [0,1,0] [1,2,2],())) (cnd (j==7) (K g (wI,())) (cnd (j==8) (aY g/\OwnP l/\a2/\[[1]].length<=8/\CgR 64 (lU l)/\CgR 64 u/\SqR o/\K y (opR o,())) (cnd (j==9) (aY g/\OwnP l/\a2/\[[1]].length<=8/\CgR 64 (lU l)/\CgR 64 u/\K y (o,())) (cnd (j==10) (0<=g.2.1/\(Ik (2+h)<|aY m/\0<=2+h/\2+h<=8/\RowP (p.length:Int) p/\p.length<=8/\K (wB m (2+h)) (fZ p,()))) (0<=g.2.1/\(Ik (2+h)<|0<=m.2.1/\aK (S:=LT) (λe f=>let a1:=e.1.2.2.2.2.1;let t:=e.2.2.2;let r:=cI e.2.1 (2+h-1);let i:=c6 e.2.1 (2+h-1);let n:=c6 r (2+h-1-i);Iq a1<|Oa cO e.2.1.1<|Iq e.2.1.2.1<|inK .u64 e.2.1.2.2->(Oc e.2.2.1<|Ol t.1<|Ol t.2.1<|cnd (decide (0<a1)) (Ik (2+h-1)<|0<=e.2.1.2.1/\bg t.1.length [i].length 8/\(Ik (i+1)<|Ik (2+h-1)<|Ik (2+h-1-i)<|0<=r.2.1/\(Ik (i+1+n)<|bg t.2.1.length [i+1+n].length 8/\(Ik (a1-1)<|f (((),(),(),(),a1-1,()),cI r (2+h-1-i),e.2.2.1,t.1++[i],t.2.1++[i+1+n],()))))) (0<=2+h/\2+h<=8/\t.2.1.length=t.1.length/\t.1.length<=1000000000/\K e.2.1 (nJ (2+h) t.1 t.2.1,())))) (((),(),(),(),c6 m 4,()),cI m 4,(0,[],[],[],[]),[],[],())))))))))))))
theorem W7(s:aU)(hok:ab (jW.o.strip.oks s))(hok2:ab (okL jW.as (())))(hpre:ab (jW.pre s (()))):CX s (λz r=>zG s z r.1):=by
 simp only[jW,O.strip,okL,T.oks,T.ok,ap,ab,aL,az,aW]at hok hok2 hpre
 try dsimp only[T.den]at hok
 try dsimp only[T.den]at hok2
 try dsimp only[T.den]at hpre
 delta CX zG Ik Iq Oa Oc Ol Om
 dsimp -proj -eta only;have h1:=eD (n:=12) hpre aB;refine⟨hpre.2,?_⟩;clear hok hok2 hpre;generalize c6 s 12=w at *;generalize cI s 12=z at *;have hZ:=h1.1;clear h1;refine aJ (λ_=>?_) (λ_=>aJ (λ_=>?_) (λ_=>aJ (λ_=>?_) (λ_=>aJ (λ_=>?_) (λ_=>aJ (λ_=>?_) (λ_=>aJ (λ_=>?_) (λ_=>aJ (λ_=>?_) (λ_=>aJ (λ_=>?_) (λ_=>aJ (λ_=>?_) (λ_=>aJ (λ_=>?_) (λ_=>aJ (λ_=>?_) (λ_=>?_)))))))))))
 ·have h2:=eD (n:=5) hZ aB;have h5:=h2.2.2.1 aa;have h3:=O2 (s:=cI z 5) (n:=c6 z 5) h2.1 h2.2.1 aa;have hl:=h3.2.1.l;have hR:RowP ((m7 (cI z 5) (c6 z 5)).length:Int) (m7 (cI z 5) (c6 z 5)):=by rw[hl];exact h3.2.1
  exact⟨hZ.2,h2.1,h2.2.1,aa,hR,aa,h3.1,(qN h3.2.2 hR aa (NL h2.1 h2.2.1 aa)).le aa⟩
 ·have hR:RowP (([[1,1],[0,1]]:List (List Int)).length:Int) [[1,1],[0,1]]:=⟨rfl,aH⟩;exact⟨hR,aH,hZ,(qN (t6 aH) hR aH (x4 aH)).le aa⟩
 ·have hR:RowP (([[1,1,1],[0,1,0],[0,0,1]]:List (List Int)).length:Int) [[1,1,1],[0,1,0],[0,0,1]]:=⟨rfl,aH⟩;exact⟨hR,aH,hZ,(qN (t6 aH) hR aH (x4 aH)).le aa⟩
 ·exact⟨aH,aH,rfl,aH,hZ,JS aH aH aH rfl aH⟩
 ·have h2:=Ek hZ;exact⟨hZ,h2.2.1.own,h2.1,CgT.le ⟨K5 h2.2.1,Eu h2.2.1⟩ aa⟩
 ·have h2:=eD (n:=3) hZ aB;have h3:=h2.2.2.1 aa;have h4:=h2.2.1;refine⟨hZ.2,aB,?_⟩;have hn:1<=1+c6 z 3/\1+c6 z 3<=3:=aa
  generalize 1+c6 z 3=n at *;refine bt (λ(s:LV)=>0<=s.1.2.2.2.1/\s.1.2.2.2.1<=n/\aY s.2.1/\OnP n s.1.2.2.2.1 s.2.2.2.1) (λ(s:LV)=>(n-s.1.2.2.2.1).toNat) ?_ ⟨ak,an,h2.1,rfl,ak⟩;rintro⟨⟨_,_,_,i,_⟩,s1,o1,rel,_⟩ next ⟨i0,i1,hS,hR⟩ hnx
  intros
  try dsimp only at *
  refine aE (λhi=>?_) (λhi=>?_)
  ·refine bt (λ(s:Ma)=>0<=s.1.2.2.2.2.1/\s.1.2.2.2.2.1<=n/\aY s.2.1/\s.2.2.2.1=rel/\((s.2.2.2.2.1.length:Int)=s.1.2.2.2.2.1/\s.2.2.2.2.1=List.replicate s.1.2.2.2.2.1.toNat 1)) (λ(s:Ma)=>(n-s.1.2.2.2.2.1).toNat) ?_ ⟨ak,an,hS,rfl,rfl,rfl⟩;rintro⟨⟨_,_,_,_,j,_⟩,s2,o2,rel2,row,_⟩ next1 ⟨j0,j1,hS2,q,hj,hj2⟩ hn1;intros
   try dsimp only at j0 j1 hS2 q hj hj2 hn1⊢
   subst q;have hl:=hR.l;refine aE (λhc=>?_) (λhc=>?_)
   ·exact⟨bQ (by simp only[aX,bh];omega),aB,hn1 _ ⟨an,an,hS2,rfl,by dsimp only;rw[bn];simp only[aX,bh];omega,by dsimp only;rw[hj2,show (j+1).toNat=j.toNat+1 by omega,wy]⟩ an⟩
   ·exact⟨bQ (by simp only[aX,bh];omega),aB,hnx _ ⟨an,an,hS2,hR.push (by rw[hj2,show j=n by omega])⟩ an⟩
  ·have ei:i=n:=aa
   subst ei;have hl:=hR.l;have hP:RowP (rel.length:Int) rel:=⟨rfl,λr hr=>by rw[hl,hR.e r hr,eA];omega⟩;have h1:∀a b:Int,0<=a->a<rel.length->0<=b->b<rel.length->c7 rel a b=1:=λa b a0 a1 b0 b1=>by unfold c7;rw[hR.e _ (bX rel [] a0 a1)];exact x9 b0 aa
   exact⟨hP,aa,hS,(qN (by assumption) hP aa ⟨λi i0 i1=>h1 i i i0 i1 i0 i1,λi j k i0 i1 j0 j1 k0 k1 _ _=>h1 i k i0 i1 k0 k1⟩).le aa⟩
 ·exact⟨aH,aH,rfl,aH,hZ,JS aH aH aH rfl aH⟩
 ·have hs:=(Nb trivial trivial).2;exact⟨hZ,CgT.le ⟨hs.1,hs.2⟩ aa⟩
 ·have h2:=Ek hZ;have hR:RowP (([[1]]:List (List Int)).length:Int) [[1]]:=⟨rfl,aH⟩;have hp:=qN (t6 aH) hR aH (x4 aH);have hm:=CgT.le (b:=64) ⟨K5 h2.2.1,Eu h2.2.1⟩ aa;have hj:=Td hm hp;exact⟨hZ,h2.2.1.own,hR,aH,hm.cg,hp.cg,aff hj.cg aa,h2.1,op_t hj⟩
 ·have h2:=Ek hZ;have hR:RowP (([[1]]:List (List Int)).length:Int) [[1]]:=⟨rfl,aH⟩;have hp:=qN (t6 aH) hR aH (x4 aH);have hm:=CgT.le (b:=64) ⟨K5 h2.2.1,Eu h2.2.1⟩ aa;have hj:=Td hm hp;exact⟨hZ,h2.2.1.own,hR,aH,hm.cg,hp.cg,h2.1,hj⟩
 ·have h2:=eD (n:=2) hZ aB;have h5:=h2.2.2.1 aa;have h6:=h2.2.1;have h3:=O2 (s:=cI z 2) (n:=2+c6 z 2) h2.1 aa aa;have hl:=h3.2.1.l;have hR:RowP ((m7 (cI z 2) (2+c6 z 2)).length:Int) (m7 (cI z 2) (2+c6 z 2)):=by rw[hl];exact h3.2.1
  exact⟨hZ.2,aB,h2.1,aa,aa,hR,aa,h3.1,(qN h3.2.2 hR aa (NL h2.1 aa aa)).le aa⟩
 ·have h2:=eD (n:=2) hZ aB;have h5:=h2.2.2.1 aa;have h6:=h2.2.1;have h3:=eD (n:=4) h2.1 aB;have h7:=h3.2.2.1 aa;refine⟨hZ.2,aB,h2.1.2,?_⟩;have hn:2<=2+c6 z 2/\2+c6 z 2<=3:=aa
  generalize 2+c6 z 2=n at *;refine bt (λ(s:LT)=>0<=s.1.2.2.2.2.1/\(s.2.2.2.1.length:Int)+s.1.2.2.2.2.1<=3/\aY s.2.1/\EdP n s.2.2.2.1 s.2.2.2.2.1) (λ(s:LT)=>s.1.2.2.2.2.1.toNat) ?_ ⟨h3.2.1,by dsimp only;simp only[bh];omega,h3.1,rfl,ak⟩;rintro⟨⟨_,_,_,_,k,_⟩,s1,o1,fr,to,_⟩ next ⟨k0,k1,hS,hE⟩ hnx
  intros
  try dsimp only at k0 k1 hS hE hnx⊢
  have hl:=hE.l;refine aE (λhc=>?_) (λhc=>?_)
  ·have g1:=eD (n:=n-1) hS aB;have g2:=g1.2.2.1 aa;have g3:=g1.2.1;generalize c6 s1 (n-1)=x at *;generalize cI s1 (n-1)=s2 at *;have g4:=eD (n:=n-1-x) g1.1 aB;have g5:=g4.2.2.1 aa;have g6:=g4.2.1;exact⟨aB,hS.2,bQ (by simp only[aX,bh];omega),aB,aB,aB,g1.1.2,aB,bQ (by simp only[aX,bh];omega),aB,hnx _ ⟨an,by dsimp only;rw[bn];simp only[aX,bh];omega,g4.1,hE.push g3 aa aa⟩ an⟩
  ·exact⟨aa,aa,hl,aa,hS,JS hn.1 hn.2 aa hl hE.e⟩
theorem Dd(s:aU):∃q:aU×(ah×Unit),ab (jW.o.strip.oks s)->ab (okL jW.as (()))->ab (jW.pre s (()))->CX s (λz r=>z=q.1/\r=q.2)/\ab (jW.o.strip.oks q.1)/\ab (okR jW.rt q.2)/\zG s q.1 q.2.1:=pkw (au gq (au CK (au Mr (au CY (au Ny (au CR (au D7 (au CU (au oE aR))))))))) aS 120 Tryz.f120 jW MF [] ke (λx y K=>CX x K) (λx y z r=>zG x z r.1) (λx y h1 h2 h3=>W7 x h1 h2 h3) s (())
def uy(s:aU):aU:=(Dd s).choose.1
def uv(s:aU):ah:=(Dd s).choose.2.1
theorem WL(s:aU)(hok:ab (jW.o.strip.oks s))(hok2:ab (okL jW.as (())))(hpre:ab (jW.pre s (()))):ab (jW.o.strip.oks (uy s))/\ab (okR jW.rt (uv s,()))/\zG s (uy s) (uv s):=((Dd s).choose_spec hok hok2 hpre).2
def MC:Wt:=⟨fC,[],[],λx y=>[aY x],λx y=>(uy x),[(true,fM)],λx y=>((uv x),()),0⟩
def MO:Ct:=g7 MC
theorem M7:aN Tryz.prog 120 MO:=wtb (au gq (au CK (au Mr (au CY (au Ny (au CR (au D7 (au CU (au oE aR))))))))) aS 120 Tryz.f120 MC MF [] (λx y h1 h2 h3=>Eq.mp (by kernel_rfl) ((Dd x).choose_spec h1 h2 h3).1)
theorem Jt(h:aY s):aY (uy s)/\CgT 10000 (uv s):=(WL s h.1 trivial ⟨h,trivial⟩).2.2
theorem adl(h:CgR a c)(g:CgR b d)(ha:a<=1000000000000)(hb:b<=1000000000000):CgR (a+b) (nA c d):=T6 (by simp only[j9,okL,fO,ab,az];exact⟨lk h ha,lk g hb⟩) h g ha hb
theorem n_(h:CgR 20000 c)(g:CgR 10000 d):CgR 1000000000 (wC c d):=(ME c d (by simp only[m9,okL,fO,ab,az];exact⟨lk h aa,lk g aa⟩) ⟨h,g,trivial⟩).2.1
theorem ado(h:CgT a c)(g:CgT b d)(ha:a<=1000000000000)(hb:b<=1000000000000):CgT (a+b) (nA c d):=⟨adl h.cg g.cg ha hb,by rw[Ts (by simp only[j9,okL,fO,ab,az];exact⟨lk h.cg ha,lk g.cg hb⟩) h.cg g.cg ha hb];exact ST h.ty g.ty⟩
theorem p_(h:CgT 20000 c)(g:CgT 10000 d):CgT 1000000000 (wC c d):=⟨n_ h.cg g.cg,by rw[(ME c d (by simp only[m9,okL,fO,ab,az];exact⟨lk h.cg aa,lk g.cg aa⟩) ⟨h.cg,g.cg,trivial⟩).2.2];exact ac4 h.ty g.ty⟩
def jz:Wt:=⟨fC,[aC,aC],[false,false],λx y=>[aY x,1<=y.1,y.1<=8,1<=y.2.1,y.2.1<=40],λx _=>x,[(true,fM)],λ_ _=>dfR _,0⟩
def Aa(s:aU)(objects arrows:Int)(z:aU)(r0:ah):Prop:=aY z/\CgT 1000000000 r0/\r0.1<=objects/\(r0.2.1.length:Int)<=40/\(8<=arrows->(r0.2.1.length:Int)<=arrows)
def Ng:Ann:=(.s .n (.s (.s .n (.l [(0,(.ad 1000000 [.de])),(6,(.ad 6 [.de])),(7,(.d aC))] [(1000000,jE),(6,cG)] [1,2] (.s .n (.s (.s .n (.s (.s .n (.j T9 [(1000000,jE),(6,cG),(8,cG)] [1,2,7] .n)) (.s (.s .n (.j T9 [(1000000,jE),(6,cG),(8,cG)] [1,2,7] .n)) .n))) .n)))) .n))
def ag0:FuncId->Option Ct:=lkp [(65,oH),(120,MO),(50,wV),(123,wP),(122,H4),(121,I0)]
def D0(s:aU)(objects arrows:Int)(K:yQ):Prop:=aK (S:=Mc) (λa b=>let m:=a.1.2.2.1;let j:=uy a.2.1;let i:=uv a.2.1;let g:=cI j 5;let p:=uv g;Iq m<|Oa cO a.2.1.1<|Iq a.2.1.2.1<|inK .u64 a.2.1.2.2->(Oc a.2.2.1<|cnd (decide (m<12)) (aY a.2.1/\0<=j.2.1/\bK (S:=gR) (λc=>let n:=c.2.2.2.1;let h:=cI c.2.1 8;let o:=uv h;Oa cO c.2.1.1<|Iq c.2.1.2.1<|inK .u64 c.2.1.2.2->(Oc c.2.2.1<|Oc n<|0<=c.2.1.2.1/\bK (S:=gR) (λd=>let l:=d.2.2.2.1;Oa cO d.2.1.1<|Iq d.2.1.2.1<|inK .u64 d.2.1.2.2->(Oc d.2.2.1<|Oc l<|cnd (decide (l.1<=objects)&&decide ((l.2.1.length:Int)<=arrows)&&(decide (l.1<=8)&&decide ((l.2.1.length:Int)<=40))) (K d.2.1 (l,())) (Ik (m+1)<|b (((),(),m+1,()),d.2.1,d.2.2.1,())))) (λe=>cnd (c6 c.2.1 8==0) (aY h/\CgR 20000 n/\CgR 10000 o/\e (((),(),(),()),uy h,c.2.2.1,wC n o,())) (e (((),(),(),()),h,c.2.2.1,n,()))))) (λf=>cnd (c6 j 5==0) (aY g/\CgR 1000000000000 i/\CgR 1000000000000 p/\f (((),(),(),()),uy g,a.2.2.1,nA i p,())) (f (((),(),(),()),g,a.2.2.1,i,())))) (RowP ([[1]].length:Int) [[1]]/\[[1]].length<=8/\K a.2.1 (fZ [[1]],())))) (((),(),0,()),s,(0,[],[],[],[]),())
theorem XK(s:aU)(objects arrows:Int)(hok:ab (jz.o.strip.oks s))(hok2:ab (okL jz.as (objects,arrows,())))(hpre:ab (jz.pre s (objects,arrows,()))):D0 s objects arrows (λz r=>Aa s objects arrows z r.1):=by
 simp only[jz,O.strip,okL,T.oks,T.ok,ap,ab,aL,az,aW]at hok hok2 hpre
 try dsimp only[T.den]at hok
 try dsimp only[T.den]at hok2
 try dsimp only[T.den]at hpre
 delta D0 Aa Ik Iq Oa Oc Ol Om
 dsimp -proj -eta only;obtain⟨hS,o1,o8,a1,a40⟩:=hpre;refine bt (λ(s:Mc)=>0<=s.1.2.2.1/\s.1.2.2.1<=12/\aY s.2.1) (λ(s:Mc)=>(12-s.1.2.2.1).toNat) ?_ ⟨ak,ak,hS⟩;rintro⟨⟨_,_,t,_⟩,s1,o1',_⟩ next ⟨t0,t1,h1⟩ hnx
 intros
 try dsimp only at t0 t1 h1 hnx⊢
 refine aE (λhc=>?_) (λhc=>?_)
 ·have f1:=Jt h1;have g1:=eD (n:=5) f1.1 aB;refine⟨h1,f1.1.2,bZ (λ(q:gR)=>aY q.2.1/\CgT 20000 q.2.2.2.1) ?_ ?_⟩
  ·rintro⟨_,s2,o2,c2,_⟩ ⟨p1,p2⟩;intros
   try dsimp only at p1 p2⊢
   have g2:=eD (n:=8) p1 aB;refine⟨p1.2,bZ (λ(q:gR)=>aY q.2.1/\CgT 1000000000 q.2.2.2.1) ?_ ?_⟩
   ·rintro⟨_,s3,o3,c3,_⟩ ⟨r1,r2⟩;intros
    try dsimp only at r1 r2⊢
    refine aJ (λh=>?_) (λ_=>?_)
    ·simp only[ao,db]at h;exact⟨r1,r2,h.1.1,h.2.2,λ_=>h.1.2⟩
    ·exact⟨aB,hnx _ ⟨an,an,r1⟩ an⟩
   ·intro k hk;have f2:=Jt g2.1;exact aJ (λ_=>⟨g2.1,p2.cg,f2.2.cg,hk _ ⟨f2.1,p_ p2 f2.2⟩⟩) (λ_=>hk _ ⟨g2.1,p2.le aa⟩)
  ·intro k hk;have f2:=Jt g1.1;exact aJ (λ_=>⟨g1.1,f1.2.cg.le aa,f2.2.cg.le aa,hk _ ⟨f2.1,(ado f1.2 f2.2 aa aa).le aa⟩⟩) (λ_=>hk _ ⟨g1.1,f1.2.le aa⟩)
 ·have hR:RowP (([[1]]:List (List Int)).length:Int) [[1]]:=⟨rfl,aH⟩;have hp:=Kl (t6 aH) hR aH;have h3:((fZ [[1]]).2.1.length:Int)<=8:=hp.2.2;have h4:(fZ [[1]]).1=1:=hp.2.1;exact⟨hR,aH,h1,(qN (t6 aH) hR aH (x4 aH)).le aa,by (try dsimp only);omega,by (try dsimp only);omega,λ_=>by (try dsimp only);omega⟩
theorem Dw(s:aU)(objects arrows:Int):∃q:aU×(ah×Unit),ab (jz.o.strip.oks s)->ab (okL jz.as (objects,arrows,()))->ab (jz.pre s (objects,arrows,()))->D0 s objects arrows (λz r=>z=q.1/\r=q.2)/\ab (jz.o.strip.oks q.1)/\ab (okR jz.rt q.2)/\Aa s objects arrows q.1 q.2.1:=pkw (au gq (au M7 (au HM (au oE (au M4 (au Dr aR)))))) aS 98 Tryz.f98 jz Ng [(6,90002),(8,90002)] ke (λx y K=>D0 x y.1 y.2.1 K) (λx y z r=>Aa x y.1 y.2.1 z r.1) (λx y h1 h2 h3=>XK x y.1 y.2.1 h1 h2 h3) s (objects,arrows,())
def oK(s:aU)(objects arrows:Int):aU:=(Dw s objects arrows).choose.1
def kM(s:aU)(objects arrows:Int):ah:=(Dw s objects arrows).choose.2.1
theorem Ya(s:aU)(objects arrows:Int)(hok:ab (jz.o.strip.oks s))(hok2:ab (okL jz.as (objects,arrows,())))(hpre:ab (jz.pre s (objects,arrows,()))):ab (jz.o.strip.oks (oK s objects arrows))/\ab (okR jz.rt (kM s objects arrows,()))/\Aa s objects arrows (oK s objects arrows) (kM s objects arrows):=((Dw s objects arrows).choose_spec hok hok2 hpre).2
def Nk:Wt:=⟨fC,[aC,aC],[false,false],λx y=>[aY x,1<=y.1,y.1<=8,1<=y.2.1,y.2.1<=40],λx y=>(oK x y.1 y.2.1),[(true,fM)],λx y=>((kM x y.1 y.2.1),()),0⟩
def zZ:Ct:=g7 Nk
theorem sC:aN Tryz.prog 98 zZ:=wtb (au gq (au M7 (au HM (au oE (au M4 (au Dr aR)))))) aS 98 Tryz.f98 Nk Ng [(6,90002),(8,90002)] (λx y h1 h2 h3=>Eq.mp (by kernel_rfl) ((Dw x y.1 y.2.1).choose_spec h1 h2 h3).1)
theorem Bn(h:aY s)(a1:1<=a)(a8:a<=8)(b1:1<=b)(b40:b<=40):aY (oK s a b)/\CgT 1000000000 (kM s a b)/\(kM s a b).1<=a/\((kM s a b).2.1.length:Int)<=40/\(8<=b->((kM s a b).2.1.length:Int)<=b):=(Ya s a b h.1 (by simp only[jz,okL,T.oks,ap,ab,az,cF];omega) ⟨h,a1,a8,b1,b40,trivial⟩).2.2
def u9:Ct:=⟨[bO,bO,cy],[true,true,false],λx=>[ShapeP x.1,ShapeP x.2.1],[(false,cU)],λ_=>dfR _,false,none⟩
def Dg(c d:ah)(objects:aA)(r0:bo):Prop:=(r0=r0)
def MN:Ann:=(.s .n (.s (.s .n (.l pa [] [2,3,4] .n)) .n))
def zJ(c d:ah)(objects:aA)(K:d9):Prop:=let i:=objects.length;aK (S:=cH) (λa b=>let j:=a.1.1;let h:=c.2.1.getD j.toNat 0;let g:=c.2.2.1.getD j.toNat 0;let f:=decide (h<(i:Int));let e:=decide (g<(i:Int));Iq j<|cnd (decide (j<(c.2.1.length:Int))) (Ix j c.2.1.length<|Ix j c.2.2.1.length<|((f&&e)=true->h<(i:Int)/\0<=h)/\((f&&e)=true->g<(i:Int)/\0<=g)/\((f&&e)=true->d.2.2.1.length=d.2.1.length/\d.2.1.length<=40)/\cnd (f&&e&&((aF d (objects.getD h.toNat 0) (objects.getD g.toNat 0)).length:Int)==0) (K (false,())) (Ik (j+1)<|b ((j+1,()),()))) (K (true,()))) ((0,()),())
theorem Xr(c d:ah)(objects:aA)(hok:ab (okL u9.args (c,d,objects,())))(hpre:ab (u9.pre (c,d,objects,()))):zJ c d objects (λr=>Dg c d objects r.1):=by
 simp only[u9,okL,T.oks,T.ok,ap,ab,aL,az,aW]at hok hpre
 try dsimp only[T.den]at hok hpre
 delta zJ Dg Ik Iq Ix
 dsimp -proj -eta only;obtain⟨C,D⟩:=hpre;have clt:=C.lt;have cm:=C.m;clear hok;refine eV (n:=c.2.1.length) (λ_=>True) aa trivial ?_ ?_
 ·intro i next i0 i1 _ hn _
  try dsimp only
  have fr:=C.frm i0 i1;refine aE (λ_=>⟨i0,i1,i0,aa,λh=>?_,λh=>?_,λ_=>⟨D.lt,D.m⟩,aJ (λ_=>rfl) (λ_=>⟨aB,hn trivial⟩)⟩) (λh=>absurd i1 h)
  ·simp only[ao,db]at h;exact⟨h.1,fr.1⟩
  ·simp only[ao,db]at h;exact⟨h.2,fr.2.2.1⟩
 ·intro next _ _
  try dsimp only
  exact aE (λh=>absurd h (dK _)) (λ_=>rfl)
theorem Nu(c d:ah)(objects:aA):∃q:Bool×Unit,ab (okL u9.args (c,d,objects,()))->ab (u9.pre (c,d,objects,()))->zJ c d objects (λr=>r=q)/\ab (okR u9.rt q)/\Dg c d objects q.1:=pkb (au Af aR) aS 147 Tryz.f147 u9 MN [(4,11),(5,20)] (λx K=>zJ x.1 x.2.1 x.2.2.1 K) (λx r=>Dg x.1 x.2.1 x.2.2.1 r.1) (λx h1 h2=>Xr x.1 x.2.1 x.2.2.1 h1 h2) (c,d,objects,())
def CJ(c d:ah)(objects:aA):Bool:=(Nu c d objects).choose.1
def Di:Ct:=⟨[bO,bO,cy],[true,true,false],λx=>[ShapeP x.1,ShapeP x.2.1],[(false,cU)],λx=>((CJ x.1 x.2.1 x.2.2.1),()),false,none⟩
theorem WG:aN Tryz.prog 147 Di:=ctb (au Af aR) aS 147 Tryz.f147 Di MN [(4,11),(5,20)] (λx K=>zJ x.1 x.2.1 x.2.2.1 K) (λx h1 h2=>((Nu x.1 x.2.1 x.2.2.1).choose_spec h1 h2).1)
def stR(c d:ah)(ob:aA):Nat->List Int
 |0=>List.replicate c.2.1.length (-1)
 |n+1=>(stR c d ob n).set (c.2.2.2.1.getD n 0).toNat (d.2.2.2.1.getD (ob.getD n 0).toNat 0)
def nf(c d:ah)(ob:aA)(fd:mn)(l:aA):List aV:=if (fd.length:Int)<=200 then fd++[(c,d,ob,l)]else fd
def jr(c d:ah):Nat->List Int->List aV->List aV
 |0,_,found=>found
 |n+1,ob,found=>
  if CJ c d ob=false then found else
  if (ob.length:Int)=c.1 then (jo c d ob ((((stR c d ob ob.length).length:Int)-0).toNat+1) (stR c d ob ob.length) 0 []).foldl (nf c d ob) found else
  (aG d.1.toNat λy=>y).foldl (λfd y=>if (fd.length:Int)<=200 then jr c d n (ob++[y]) fd else fd) found
def oi(c d:ah)(n:Nat)(ob:aA)(fd:mn)(y:Int):List aV:=if (fd.length:Int)<=200 then jr c d n (ob++[y]) fd else fd
theorem Lq{n:Nat}:jr c d (n+1) ob found=if CJ c d ob=false then found else if (ob.length:Int)=c.1 then (jo c d ob ((((stR c d ob ob.length).length:Int)-0).toNat+1) (stR c d ob ob.length) 0 []).foldl (nf c d ob) found else (aG d.1.toNat λy=>y).foldl (oi c d n ob) found:=rfl
theorem OQ{c d:ah}{ob:aA}{fd:mn}(h:¬(fd.length:Int)<=200):∀l:List (List Int),l.foldl (nf c d ob) fd=fd
 |[]=>rfl
 |x::r=>by
  rw[iA];have:nf c d ob fd x=fd:=by unfold nf;rw[aj h]
  rw[this];exact OQ h r
theorem Pr{c d:ah}{n:Nat}{ob:aA}{fd:mn}(h:¬(fd.length:Int)<=200):∀l:List Int,l.foldl (oi c d n ob) fd=fd
 |[]=>rfl
 |x::r=>by
  rw[iA];have:oi c d n ob fd x=fd:=by unfold oi;rw[aj h]
  rw[this];exact Pr h r
theorem EJ{c d:ah}:∀(n:Nat)(ob:aA)(found:mn),found.length<=200->(jr c d n ob found).length<=201
 |0,ob,found,h=>c8 h aa
 |n+1,ob,found,h=>by
  rw[Lq];split
  ·omega
  split
  ·refine qJ (P:=λl:List aV=>l.length<=201) (λs x hs=>?_) _ _ aa;unfold nf;split
   ·rw[bn];simp only[aX,bh];omega
   ·exact hs
  ·refine qJ (P:=λl:List aV=>l.length<=201) (λs x hs=>?_) _ _ aa;unfold oi;split
   ·exact EJ n _ _ aa
   ·exact hs
theorem aag{s:jK}:(md c d a b s).1.length=s.1.length:=by
 unfold md;split
 ·rfl
 split
 ·rfl
 split
 ·rfl
 ·exact gK
theorem Os{c d:ah}{a:Int}{s:jK}:∀n:Nat,(iS c d a n s).1.length=s.1.length
 |0=>rfl
 |n+1=>aag.trans (Os n)
theorem Ox{c d:ah}{m:Nat}{s:jK}:∀n:Nat,(ji c d m n s).1.length=s.1.length
 |0=>rfl
 |n+1=>(Os m).trans (Ox n)
theorem PG{c d:ah}:∀(n:Nat)(arr:aA),(tS c d n arr).1.length=arr.length
 |0,arr=>rfl
 |n+1,arr=>by
  have h:(ji c d arr.length arr.length (arr,false,true)).1.length=arr.length:=Ox _;rw[tS];split
  ·exact h
  ·split
   ·rw[PG n];exact h
   ·exact h
theorem JZ{c d:ah}{ob:aA}{M:Nat}:∀(n:Nat)(arr:aA)(f:Int)(found:bW),arr.length=M->(∀r∈found,r.length=M)->∀r∈jo c d ob n arr f found,r.length=M
 |0,arr,f,found,_,h=>h
 |n+1,arr,f,found,ha,h=>by
  rw[Lo];split
  ·intro r hr;rcases eS.1 hr with hr|hr
   ·exact h r hr
   ·rw[cA.1 hr];exact ha
  ·refine qJ (P:=λl:List (List Int)=>∀r∈l,r.length=M) (λs x hs=>?_) _ _ h;unfold mh;split
   ·split
    ·exact JZ n _ _ _ ((PG _ _).trans (List.length_set.trans ha)) hs
    ·exact hs
   ·exact hs
theorem ET{c d:ah}{ob:aA}:∀n:Nat,(stR c d ob n).length=c.2.1.length
 |0=>eA
 |n+1=>List.length_set.trans (ET n)
theorem st_o{c d:ah}{ob:aA}(C:TyP c)(D:TyP d)(hm:c.2.1.length<=1000000)(hl:(ob.length:Int)<=c.1)(hr:∀x∈ob,0<=x/\x<d.1):∀n:Nat,n<=ob.length->FrcO c d (λx=>ob.getD x.toNat 0) (stR c d ob n)
 |0,_=>⟨C,D,eA,hm,λa a0 a1 ha=>by have:(List.replicate c.2.1.length (-1:Int)).getD a.toNat 0=-1:=x9 a0 a1;have e:(stR c d ob 0).getD a.toNat 0=-1:=this;rw[e]at ha;omega⟩
 |n+1,h=>by
  have ih:=st_o C D hm hl hr n aa;have hx:=hr _ (bX ob 0 (i:=(n:Int)) aa aa);rw[cQ]at hx;have ic:=C.idn (n:Int) aa aa;rw[cQ]at ic;have id:=D.idn _ hx.1 hx.2;refine ih.set ic.1 ic.2.1 id.2.1 ?_ ?_
  ·rw[id.2.2.1,ic.2.2.1,cQ]
  ·rw[id.2.2.2,ic.2.2.2,cQ]
structure SrhP (c d:ah) (ob:aA) (found:mn):Prop where
 C:ShapeP c
 D:ShapeP d
 l:(ob.length:Int)<=c.1
 r:∀x∈ob,0<=x/\x<d.1
 fd:found.length<=200
def wG:Wu:=⟨yi,[bO,bO,cy],[true,true,false],λx y=>[SrhP y.1 y.2.1 y.2.2.1 x],[(false,yi)],λx y=>(jr y.1 y.2.1 ((y.1.1-y.2.2.1.length).toNat+1) y.2.2.1 x,()),3⟩
def WU:Ct:=rM wG
def H2(x:(yi:O).strip.den)(y:bq [bO,bO,cy]):Nat:=(y.1.1-y.2.2.1.length).toNat
def s0(n:Nat):Wu:=⟨yi,[bO,bO,cy],[true,true,false],λx y=>[H2 x y<n,SrhP y.1 y.2.1 y.2.2.1 x],[(false,yi)],λx y=>(jr y.1 y.2.1 n y.2.2.1 x,()),3⟩
def MS(n:Nat):Ct:=rM (s0 n)
def MI:Ann:=(.s .n (.s .n (.s (.s .n (.s (.s .n (.s (.s .n (.l [(3,(.ref 999900 [])),(4,(.ad 4 [.de])),(5,(.ad 5 [.de])),(9,(.ref 800009 [])),(10,(.d aC))] TT [2] .n)) (.s (.s .n (.l [(3,(.ref 999900 [])),(4,(.ad 4 [.de])),(5,(.ad 5 [.de])),(9,(.ref 800009 [])),(11,(.d aC))] TT [2] .n)) (.s .n (.s (.s .n (.l [(3,(.ref 999900 [])),(4,(.ad 4 [.de])),(5,(.ad 5 [.de])),(13,(.d aC))] [(999900,LQ),(4,lY),(5,lY)] [2,12] .n)) .n))))) .n)) (.s (.s .n (.l [(3,(.ref 999900 [])),(4,(.ad 4 [.de])),(5,(.ad 5 [.de])),(14,(.d aC))] [(999900,LQ),(4,lY),(5,lY)] [2] .n)) .n))))
abbrev G2:Type:=(List aV)×Unit->Prop
def HC(n:Nat)(found:mn)(c d:ah)(objects:aA)(K:G2):Prop:=let p:=objects.length;ShapeP c/\ShapeP d/\cnd (!CJ c d objects) (K (found,())) (cnd ((p:Int)==c.1) (aK (S:=yL) (λa b=>let u:=a.2.2;let r:=a.1.2.2.2.2.1;Iq r<|T.ok (.sl io) a.2.1->(Oc u.1<|Oc u.2.1<|Ol u.2.2.1<|cnd (decide (r<(u.1.2.1.length:Int))) (bg u.2.2.1.length [-1].length 8/\(Ik (r+1)<|b (((),(),(),(),r+1,()),a.2.1,u.1,u.2.1,u.2.2.1++[-1],()))) (aK (S:=yL) (λe f=>let y:=e.2.2.1;let q:=e.2.2.2;let l:=e.1.2.2.2.2.1;let z:=objects.getD l.toNat 0;let v:=y.2.2.2.1.getD l.toNat 0;let k:=jo y q.1 objects (Int.toNat ((q.2.1.length:Int)-0)+1) q.2.1 0 [];Iq l<|T.ok (.sl io) e.2.1->(Oc y<|Oc q.1<|Ol q.2.1<|cnd (decide (l<(p:Int))) (Ix l y.2.2.2.1.length<|Ix l p<|Ix z q.1.2.2.2.1.length<|Ix v q.2.1.length<|Ik (l+1)<|f (((),(),(),(),l+1,()),e.2.1,y,q.1,List.set q.2.1 v.toNat (q.1.2.2.2.1.getD z.toNat 0),())) (ArwP y q.1 objects q.2.1 0 []/\aK (S:=yN) (λg h=>let a0:=g.2.2.1;let w:=g.2.2.2.1;let m:=g.1.2.2.2.1;let t:=k.getD m.toNat [];Iq m<|T.ok (.sl io) g.2.1->(Oc a0<|Oc w<|cnd (decide (m<(k.length:Int))&&decide ((g.2.1.length:Int)<=200)) (Ix m k.length<|ShapeP a0/\ShapeP w/\p<=1099511627776/\t.length<=1099511627776/\bg g.2.1.length ((a0,w,objects,t)::([]:List jM)).length 256/\(Ik (m+1)<|h (((),(),(),m+1,()),g.2.1++(a0,w,objects,t)::([]:List jM),a0,w,()))) (K (g.2.1,())))) (((),(),(),0,()),e.2.1,y,q.1,())))) (((),(),(),(),0,()),a.2.1,u.1,u.2.1,u.2.2.1,())))) (((),(),(),(),0,()),found,c,d,[],())) (aK (S:=yN) (λi j=>let a1:=i.2.2.1;let x:=i.2.2.2.1;let o:=i.1.2.2.2.1;Iq o<|T.ok (.sl io) i.2.1->(Oc a1<|Oc x<|cnd (decide (o<x.1)&&decide ((i.2.1.length:Int)<=200)) (p<=1099511627776/\bg p [o].length 8/\Int.toNat (a1.1-((objects++[o]).length:Int))<n/\SrhP a1 x (objects++[o]) i.2.1/\(Ik (o+1)<|j (((),(),(),o+1,()),jr a1 x n (objects++[o]) i.2.1,a1,x,()))) (K (i.2.1,())))) (((),(),(),0,()),found,c,d,())))
theorem WX(n:Nat)(x:wG.o.strip.den)(y:bq wG.as)(K:G2):Cc tab (lkp [(132,MS n),(143,km),(148,HA),(133,wW),(147,Di)]) (fJ [(17,508),(22,500000065007),(12,514)]) Tryz.f132 (eC Tryz.f132) MI (s0 (n+1)) x y K=HC n x y.1 y.2.1 y.2.2.1 K:=by kernel_rfl
theorem W1(n:Nat)(found:mn)(c d:ah)(objects:aA)(hok:ab (wG.o.strip.oks found))(hok2:ab (okL wG.as (c,d,objects,())))(hpre:ab ((s0 (n+1)).pre found (c,d,objects,()))):HC n found c d objects (λr=>r=(s0 (n+1)).res found (c,d,objects,())):=by
 simp only[wG,s0,O.strip,okL,T.oks,T.ok,ap,ab,aL,az,aW]at hok hok2 hpre
 try dsimp only[T.den]at hok
 try dsimp only[T.den]at hok2
 try dsimp only[T.den]at hpre
 delta HC Ik Iq Ix Oc Ol Om
 dsimp -proj -eta only;obtain⟨hmu,hP⟩:=hpre;have C:=hP.C;have D:=hP.D;have hol:=hP.l;have hr:=hP.r;have hfd:=hP.fd;have cm:=C.m;have co:=C.ob;have cli:=C.li;have dli:=D.li;have do_:=D.ob;clear hok hok2;refine⟨C,D,?_⟩;have hres:(s0 (n+1)).res found (c,d,objects,())=(jr c d (n+1) objects found,()):=rfl;rw[hres,Lq];refine aJ (λh=>?_) (λh=>?_)
 ·rw[am (by simpa using h)]
 rw[aj (by simpa using h)];refine aJ (λhe=>?_) (λhe=>?_)
 ·have he:(objects.length:Int)=c.1:=by simpa using he
  rw[am he];have hST:=λk hk=>st_o (J7 C) (J7 D) aa hol hr k hk;refine bt (λ(s:yL)=>0<=s.1.2.2.2.2.1/\s.1.2.2.2.2.1<=c.2.1.length/\s.2.1=found/\s.2.2.1=c/\s.2.2.2.1=d/\s.2.2.2.2.1=List.replicate s.1.2.2.2.2.1.toNat (-1)) (λ(s:yL)=>(c.2.1.length-s.1.2.2.2.2.1).toNat) ?_ ⟨ak,ak,rfl,rfl,rfl,rfl⟩;rintro⟨⟨_,_,_,_,f,_⟩,fd1,c1,d1,st,_⟩ next ⟨f0,f1,q1,q2,q3,q4⟩ hnx
  intros
  try dsimp only at f0 f1 q1 q2 q3 q4 hnx⊢
  subst q1;subst q2;subst q3;subst q4;refine aE (λhf=>⟨bQ (by rw[eA];simp only[aX,bh];omega),aB,hnx _ ⟨an,an,rfl,rfl,rfl,by dsimp only;rw[show (f+1).toNat=f.toNat+1 by omega,wy]⟩ an⟩) (λhf=>?_);have ef:f=c1.2.1.length:=by omega
  subst ef;refine bt (λ(s:yL)=>0<=s.1.2.2.2.2.1/\s.1.2.2.2.2.1<=objects.length/\s.2.1=fd1/\s.2.2.1=c1/\s.2.2.2.1=d1/\s.2.2.2.2.1=stR c1 d1 objects s.1.2.2.2.2.1.toNat) (λ(s:yL)=>(objects.length-s.1.2.2.2.2.1).toNat) ?_ ⟨ak,ak,rfl,rfl,rfl,rfl⟩;rintro⟨⟨_,_,_,_,x,_⟩,fd2,c2,d2,st,_⟩ next1 ⟨x0,x1,q1,q2,q3,q4⟩ hn1;intros
  try dsimp only at x0 x1 q1 q2 q3 q4 hn1⊢
  subst q1;subst q2;subst q3;subst q4;refine aE (λhx=>?_) (λhx=>?_)
  ·have ho:=hr _ (bX objects 0 x0 hx);have ic:=C.idn x0 aa;refine⟨x0,aa,x0,hx,ho.1,aa,ic.1,by rw[ET];exact ic.2.1,aB,hn1 _ ⟨an,an,rfl,rfl,rfl,?_⟩ an⟩
   try dsimp only
   rw[show (x+1).toNat=x.toNat+1 by omega];rfl
  have ex:x=objects.length:=aa
  subst ex;rw[cQ];refine⟨⟨hST _ (bd _),cm,D.m,he,dB _,aa,ak⟩,?_⟩;have hrow:=λr (hr2:r∈jo c2 d2 objects ((((stR c2 d2 objects objects.length).length:Int)-0).toNat+1) (stR c2 d2 objects objects.length) 0 [])=>JZ (M:=c2.2.1.length) _ _ _ _ (ET _) (λr hr=>by cases hr) r hr2;have hLl:=@JR c2 d2 objects ((((stR c2 d2 objects objects.length).length:Int)-0).toNat+1) (stR c2 d2 objects objects.length) 0 [] ak;generalize jo c2 d2 objects ((((stR c2 d2 objects objects.length).length:Int)-0).toNat+1) (stR c2 d2 objects objects.length) 0 []=L at *;refine bt (λ(s:yN)=>0<=s.1.2.2.2.1/\s.1.2.2.2.1<=L.length/\s.2.1=(L.take s.1.2.2.2.1.toNat).foldl (nf c2 d2 objects) fd2/\s.2.1.length<=201/\s.2.2.1=c2/\s.2.2.2.1=d2) (λ(s:yN)=>(L.length-s.1.2.2.2.1).toNat) ?_ ⟨ak,ak,rfl,an,rfl,rfl⟩;rintro⟨⟨_,_,_,i,_⟩,fd3,c3,d3,_⟩ next2 ⟨i0,i1,q1,hfl,q2,q3⟩ hn2;intros
  try dsimp only at i0 i1 q1 hfl q2 q3 hn2⊢
  subst q2;subst q3;refine aJ (λhx=>?_) (λhx=>?_)
  ·simp only[ao,db]at hx;have ht:=gE L [] i0 hx.1;have hw:=hrow _ (bX L [] i0 hx.1);refine⟨i0,hx.1,C,D,aa,aa,bQ (by simp only[aX,bh];omega),aB,hn2 _ ⟨an,an,?_,?_,rfl,rfl⟩ an⟩
   ·try dsimp only
    rw[ht,iO,←q1];show _=nf _ _ _ fd3 _;unfold nf;rw[am hx.2]
   ·try dsimp only
    rw[bn];simp only[aX,bh];omega
  ·have hfin:L.foldl (nf c3 d3 objects) fd2=fd3:=by
    by_cases e:i<L.length
    ·rw[iP e,gB,gM]at hx
     conv=>lhs;rw[←jb i.toNat L]
     rw[iO,←q1];exact OQ hx _
    ·rw[q1,fU aa]
   rw[hfin]
 ·have he:¬(objects.length:Int)=c.1:=by simpa using he
  rw[aj he];generalize hL:(aG d.1.toNat λy=>y)=L;have hLl:L.length=d.1.toNat:=by rw[←hL];exact bA _
  have hLg:∀y:Int,0<=y->y<d.1->L.getD y.toNat 0=y:=λy y0 y1=>by rw[←hL];exact dN y0 aa
  refine bt (λ(s:yN)=>0<=s.1.2.2.2.1/\s.1.2.2.2.1<=d.1/\s.2.1=(L.take s.1.2.2.2.1.toNat).foldl (oi c d n objects) found/\s.2.1.length<=201/\s.2.2.1=c/\s.2.2.2.1=d) (λ(s:yN)=>(d.1-s.1.2.2.2.1).toNat) ?_ ⟨ak,do_.1,rfl,an,rfl,rfl⟩;rintro⟨⟨_,_,_,y,_⟩,fd3,c3,d3,_⟩ next2 ⟨y0,y1,q1,hfl,q2,q3⟩ hn2;intros
  try dsimp only at y0 y1 q1 hfl q2 q3 hn2⊢
  subst q2;subst q3;refine aJ (λhx=>?_) (λhx=>?_)
  ·simp only[ao,db]at hx;have ht:=gE L 0 y0 aa;rw[hLg y y0 hx.1]at ht;refine⟨aa,bQ (by simp only[aX,bh];omega),?_,⟨C,D,?_,?_,aa⟩,aB,hn2 _ ⟨an,an,?_,EJ n _ _ aa,rfl,rfl⟩ an⟩
   ·simp only[H2]at hmu;rw[bn];simp only[aX,bh];omega
   ·rw[bn];simp only[aX,bh];omega
   ·intro z hz;rcases eS.1 hz with hz|hz
    ·exact hr z hz
    ·rw[cA.1 hz];exact⟨y0,hx.1⟩
   ·try dsimp only
    rw[ht,iO,←q1];show _=oi _ _ _ _ fd3 _;unfold oi;rw[am hx.2]
  ·have hfin:L.foldl (oi c3 d3 n objects) found=fd3:=by
    by_cases e:y<d3.1
    ·rw[iP e,gB,gM]at hx
     conv=>lhs;rw[←jb y.toNat L]
     rw[iO,←q1];exact Pr hx _
    ·rw[q1,fU aa]
   rw[hfin]
theorem Wn:aN Tryz.prog 132 WU:=SN H2 (g:=λn=>(s0 n).res) (qA (fn:=Tryz.f132) (c:=eC Tryz.f132) (by kernel_rfl) (by kernel_rfl) (by kernel_rfl)) (λx y=>rfl) (λn ih=>TB (Φ:=lkp [(132,MS n),(143,km),(148,HA),(133,wW),(147,Di)]) (au ih (au oL (au Wo (au HN (au WG aR))))) aS (by kernel_rfl) (fn:=Tryz.f132) (c:=eC Tryz.f132) (by kernel_rfl) (by kernel_rfl) (by kernel_rfl) (s0 (n+1)) MI (fJ [(17,508),(22,500000065007),(12,514)]) (by kernel_rfl) (eU rfl) (by kernel_rfl) (by kernel_rfl) (eU rfl) (λx y h1 h2 h3=>(WX n x y _).mpr (W1 n x y.1 y.2.1 y.2.2.1 h1 h2 h3)))
def sO:Ct:=⟨[bO,bO],[true,true],λx=>[ShapeP x.1,ShapeP x.2.1],[(false,yi)],λx=>(jr x.1 x.2.1 (x.1.1.toNat+1) [] [],()),true,none⟩
def Iu(c d:ah)(K:G2):Prop:=SrhP c d [] ([]:List jM)/\K (jr c d (Int.toNat (c.1-(([]:List Int).length:Int))+1) [] ([]:List jM),())
theorem Y7(c d:ah)(hok:ab (okL sO.args (c,d,())))(hpre:ab (sO.pre (c,d,()))):Iu c d (λr=>r=sO.res (c,d,())):=by
 simp only[sO,okL,T.oks,T.ok,ap,ab,aL,az,aW]at hok hpre
 try dsimp only[T.den]at hok hpre
 unfold Iu;obtain⟨C,D⟩:=hpre;refine⟨⟨C,D,by have:=C.ob;simp only[bh];omega,λx hx=>(wh hx).elim,fV _⟩,?_⟩;show (jr c d ((c.1-((0:Nat):Int)).toNat+1) [] [],())=(jr c d (c.1.toNat+1) [] [],());rw[show (c.1-((0:Nat):Int)).toNat=c.1.toNat by omega]
theorem D2:aN Tryz.prog 103 sO:=ctb (au Wn aR) aS 103 Tryz.f103 sO .n [] (λx K=>Iu x.1 x.2.1 K) (λx h1 h2=>Y7 x.1 x.2.1 h1 h2)
def y5(c:ah):aV:=(c,(c,(aG c.1.toNat λx=>x,aG c.2.1.length λa=>a)))
def qp:Ct:=⟨[bO],[true],λx=>[ShapeP x.1],[(true,yv)],λx=>(y5 x.1,()),true,none⟩
def Xx:Ann:=(.s .n (.s .n (.s (.s .n (.l [(2,(.ad 2 [.de])),(3,(.ref 800003 [])),(5,(.d aC))] [(2,tM),(800003,bS)] [1,4] .n)) (.s (.s .n (.l [(2,(.ad 2 [.de])),(4,(.ref 800004 [])),(6,(.d aC))] [(2,tM),(800004,bS)] [1,3] .n)) .n))))
def HU(c:ah)(K:Cq):Prop:=aK (S:=nw) (λa b=>let h:=a.2.2.1;let f:=a.1.2.2.1;Iq f<|Of a.2.1<|Ol h<|cnd (decide (f<c.1)) (bg h.length [f].length 8/\(Ik (f+1)<|b (((),(),f+1,()),a.2.1,h++[f],()))) (aK (S:=nw) (λd e=>let i:=d.2.2.1;let g:=d.1.2.2.1;Iq g<|Of d.2.1<|Ol i<|cnd (decide (g<(c.2.1.length:Int))) (bg i.length [g].length 8/\(Ik (g+1)<|e (((),(),g+1,()),d.2.1,i++[g],()))) (ShapeP c/\ShapeP c/\h.length<=1099511627776/\i.length<=1099511627776/\K ((c,c,h,i),()))) (((),(),0,()),a.2.1,[],()))) (((),(),0,()),((0,[],[],[],[]),(0,[],[],[],[]),[],[]),[],())
theorem Yc(c:ah)(hok:ab (okL qp.args (c,())))(hpre:ab (qp.pre (c,()))):HU c (λr=>r=qp.res (c,())):=by
 simp only[qp,okL,T.oks,T.ok,ap,ab,aL,az,aW]at hok hpre
 try dsimp only[T.den]at hok hpre
 delta HU Ik Iq Oc Of Ol Om
 dsimp -proj -eta only;have C:ShapeP c:=hpre;have cm:=C.m;have co:=C.ob;clear hok hpre;refine bt (λ(s:nw)=>0<=s.1.2.2.1/\s.1.2.2.1<=c.1/\s.2.2.1=aG s.1.2.2.1.toNat λx=>x) (λ(s:nw)=>(c.1-s.1.2.2.1).toNat) ?_ ⟨ak,co.1,rfl⟩;rintro⟨⟨_,_,x,_⟩,o1,l,_⟩ next ⟨x0,x1,hl⟩ hnx
 intros
 try dsimp only at x0 x1 hl hnx⊢
 subst hl;refine aE (λhx=>⟨bQ (by rw[bA];simp only[aX,bh];omega),aB,hnx _ ⟨an,an,by dsimp only;rw[eY x0]⟩ an⟩) (λhx=>?_);have ex:x=c.1:=aa
 subst ex;refine bt (λ(s:nw)=>0<=s.1.2.2.1/\s.1.2.2.1<=c.2.1.length/\s.2.2.1=aG s.1.2.2.1.toNat λx=>x) (λ(s:nw)=>(c.2.1.length-s.1.2.2.1).toNat) ?_ ⟨ak,ak,rfl⟩;rintro⟨⟨_,_,a,_⟩,o2,l2,_⟩ next1 ⟨a0,a1,hl2⟩ hn1;intros
 try dsimp only at a0 a1 hl2 hn1⊢
 subst hl2;refine aE (λha=>⟨bQ (by rw[bA];simp only[aX,bh];omega),aB,hn1 _ ⟨an,an,by dsimp only;rw[eY a0]⟩ an⟩) (λha=>?_);have ea:a=c.2.1.length:=aa
 subst ea;refine⟨C,C,by rw[bA];omega,by rw[bA];omega,?_⟩;simp only[qp,y5];rw[cQ]
theorem Df:aN Tryz.prog 104 qp:=ctb (au HN aR) aS 104 Tryz.f104 qp Xx [] (λx K=>HU x.1 K) (λx h1 h2=>Yc x.1 h1 h2)
def Dz:Ct:=⟨[bO,aC],[true,false],λx=>[ShapeP x.1,0<=x.2.1,x.2.1<x.1.2.1.length],[(false,cU)],λx=>(idR x.1 x.2.1,()),false,none⟩
def Io(c:ah)(f:Int)(K:d9):Prop:=let a:=c.2.1.getD f.toNat 0;Ix f c.2.1.length<|Ix a c.2.2.2.1.length<|K (c.2.2.2.1.getD a.toNat 0==f,())
theorem XX(c:ah)(f:Int):Mh Dz (c,f,()) (Io c f):=by
 intro hok hpre;simp only[Dz,okL,T.oks,T.ok,ap,ab,aL,az,aW]at hok hpre
 try dsimp only[T.den]at hok hpre
 delta Io Ix
 dsimp -proj -eta only;have S:ShapeP c:=hpre.1;have a:=S.frm hpre.2.1 hpre.2.2;have:=S.li;exact⟨hpre.2.1,hpre.2.2,a.1,aa,rfl⟩
theorem Nt:aN Tryz.prog 146 Dz:=ctb aR aS 146 Tryz.f146 Dz .n [(1,12)] (λx K=>Io x.1 x.2.1 K) (λx h1 h2=>XX x.1 x.2.1 h1 h2)
def ux:Ct:=⟨[bO],[true],λx=>[ShapeP x.1],[(false,bS)],λ_=>dfR _,false,none⟩
def CZ(c:ah)(r0:aA):Prop:=r0.length<=c.2.1.length
def MH:Ann:=(.s .n (.s .n (.s (.s .n (.l FA Bp [1] (.s .n (.s (.s .n (.j [(3,(.ref 800003 []))] Bp [1,4] .n)) .n)))) .n)))
def zD(c:ah)(K:l6):Prop:=aK (S:=(dH×dV)) (λa b=>let f:=a.1.2.1;Iq f<|Ol a.2.1<|cnd (decide (f<(c.2.1.length:Int))) (ShapeP c/\(Ix f c.2.1.length<|bK (S:=ly) (λd=>Ol d.2.1<|Ik (f+1)<|b (((),f+1,()),d.2.1,())) (λe=>cnd (!idR c f) (bg a.2.1.length [f].length 8/\e (((),()),a.2.1++[f],())) (e (((),()),a.2.1,()))))) (K (a.2.1,()))) (((),0,()),[],())
theorem WB(c:ah)(hok:ab (okL ux.args (c,())))(hpre:ab (ux.pre (c,()))):zD c (λr=>CZ c r.1):=by
 simp only[ux,okL,T.oks,T.ok,ap,ab,aL,az,aW]at hok hpre
 try dsimp only[T.den]at hok hpre
 delta zD CZ Ik Iq Ix Ol
 dsimp -proj -eta only;have C:ShapeP c:=hpre;have cm:=C.m;clear hok hpre;refine bt (λ(s:l8)=>0<=s.1.2.1/\s.1.2.1<=c.2.1.length/\(s.2.1.length:Int)<=s.1.2.1) (λ(s:l8)=>(c.2.1.length-s.1.2.1).toNat) ?_ ⟨ak,ak,ak⟩;rintro⟨⟨_,f,_⟩,l,_⟩ next ⟨f0,f1,hl⟩ hnx _ _
 try dsimp only at f0 f1 hl hnx⊢
 refine aE (λhf=>⟨C,f0,hf,bZ (λ(q:ly)=>(q.2.1.length:Int)<=f+1) ?_ (λk hk=>aJ (λ_=>⟨bQ (by simp only[aX,bh];omega),hk _ ?_⟩) (λ_=>hk _ an))⟩) (λhf=>aa)
 ·rintro⟨_,l2,_⟩ h2 _
  try dsimp only at h2⊢
  exact⟨aB,hnx _ ⟨an,an,h2⟩ an⟩
 ·try dsimp only
  rw[bn];simp only[aX,bh];omega
theorem MU(c:ah):∃q:(List Int)×Unit,ab (okL ux.args (c,()))->ab (ux.pre (c,()))->zD c (λr=>r=q)/\ab (okR ux.rt q)/\CZ c q.1:=pkb (au Nt aR) aS 131 Tryz.f131 ux MH [] (λx K=>zD x.1 K) (λx r=>CZ x.1 r.1) (λx h1 h2=>WB x.1 h1 h2) (c,())
def Mz(c:ah):List Int:=(MU c).choose.1
def MK:Ct:=⟨[bO],[true],λx=>[ShapeP x.1],[(false,bS)],λx=>((Mz x.1),()),false,none⟩
theorem M9:aN Tryz.prog 131 MK:=ctb (au Nt aR) aS 131 Tryz.f131 MK MH [] (λx K=>zD x.1 K) (λx h1 h2=>((MU x.1).choose_spec h1 h2).1)
def u7:Ct:=⟨[bO,bO],[true,true],λx=>[ShapeP x.1],[(false,cU)],λ_=>dfR _,false,none⟩
def Da(c d:ah)(r0:bo):Prop:=(r0=r0)
def zS(c d:ah)(K:d9):Prop:=ShapeP c/\K (decide (((Mz c).length:Int)<=8)&&decide ((d.2.1.length:Int)<=16),())
theorem Xj(c d:ah)(hok:ab (okL u7.args (c,d,())))(hpre:ab (u7.pre (c,d,()))):zS c d (λr=>Da c d r.1):=by
 simp only[u7,okL,T.oks,T.ok,ap,ab,aL,az,aW]at hok hpre
 try dsimp only[T.den]at hok hpre
 unfold zS Da;exact⟨hpre,rfl⟩
theorem MW(c d:ah):∃q:Bool×Unit,ab (okL u7.args (c,d,()))->ab (u7.pre (c,d,()))->zS c d (λr=>r=q)/\ab (okR u7.rt q)/\Da c d q.1:=pkb (au M9 aR) aS 102 Tryz.f102 u7 .n [] (λx K=>zS x.1 x.2.1 K) (λx r=>Da x.1 x.2.1 r.1) (λx h1 h2=>Xj x.1 x.2.1 h1 h2) (c,d,())
def Hv(c d:ah):Bool:=(MW c d).choose.1
def Dk:Ct:=⟨[bO,bO],[true,true],λx=>[ShapeP x.1],[(false,cU)],λx=>((Hv x.1 x.2.1),()),false,none⟩
theorem CT:aN Tryz.prog 102 Dk:=ctb (au M9 aR) aS 102 Tryz.f102 Dk .n [] (λx K=>zS x.1 x.2.1 K) (λx h1 h2=>((MW x.1 x.2.1).choose_spec h1 h2).1)
theorem DY(C:TyP c)(h8:c.1<=8)(h40:c.2.1.length<=40):ShapeP c:=by
 have hlt:=C.lt;have hli:=C.li;have hob:=C.ob;refine⟨⟨C.ob,h8⟩,h40,C.lt,?_,?_,C.li,?_,C.lc,λx x0 x1=>(C.idn x x0 x1).2.2,C.row,λf g f0 f1 g0 g1=>?_⟩
 ·exact fw.2 λi i0 i1=>C.fr i i0 i1
 ·exact fw.2 λi i0 i1=>C.to i i0 aa
 ·exact fw.2 λi i0 i1=>⟨(C.idn i i0 aa).1,(C.idn i i0 aa).2.1⟩
 ·unfold iV k8;split
  ·rename_i h;have:=C.yes f g f0 f1 g0 g1 h;rw[db];exact this
  ·rename_i h;rw[db];exact C.no f g f0 f1 g0 g1 h
theorem EV(h:aY s)(a1:1<=a)(a8:a<=8)(b1:1<=b)(b40:b<=40):ShapeP (kM s a b):=by have g:=Bn h a1 a8 b1 b40;exact DY g.2.1.ty (by have:=g.2.2.1;omega) (by have:=g.2.2.2.1;omega)
theorem qM(hb:KJ rel=true)(hR:RowP rel.length rel)(h5:rel.length<=5)(hp:LL rel=true):ShapeP (fZ rel):=by have h:=Kl (t6 hb) hR aa;exact DY (qN (t6 hb) hR aa (x4 hp)).ty (by have:=h.2.1;omega) (by have:=h.2.2;omega)
def oN:Ct:=⟨[],[],λx=>[],[(true,fM)],λ_=>dfR _,false,none⟩
def Aq(r0:ah):Prop:=ShapeP r0
def Am(K:ny):Prop:=RowP ([[1]].length:Int) [[1]]/\[[1]].length<=8/\K (fZ [[1]],())
theorem YG(hok:ab (okL oN.args (())))(hpre:ab (oN.pre (()))):Am (λr=>Aq r.1):=by
 simp only[oN,okL,T.oks,T.ok,ap,ab,aL,az,aW]at hok hpre
 try dsimp only[T.den]at hok hpre
 unfold Am Aq;exact⟨⟨rfl,aH⟩,aH,qM aH ⟨rfl,aH⟩ aH aH⟩
theorem I5:∃q:ah×Unit,ab (okL oN.args (()))->ab (oN.pre (()))->Am (λr=>r=q)/\ab (okR oN.rt q)/\Aq q.1:=pkb (au oE aR) aS 105 Tryz.f105 oN .n [] (λx K=>Am K) (λx r=>Aq r.1) (λx h1 h2=>YG h1 h2) (())
def u6:ah:=(I5).choose.1
theorem Y8(hok:ab (okL oN.args (())))(hpre:ab (oN.pre (()))):ab (okR oN.rt (u6,()))/\Aq (u6):=((I5).choose_spec hok hpre).2
def D8:Ct:=⟨[],[],λx=>[],[(true,fM)],λx=>((u6),()),false,none⟩
theorem D4:aN Tryz.prog 105 D8:=ctb (au oE aR) aS 105 Tryz.f105 D8 .n [] (λx K=>Am K) (λx h1 h2=>((I5).choose_spec h1 h2).1)
theorem Ur:ShapeP u6:=(Y8 trivial trivial).2
structure FsmP (c:ah) (f:aV):Prop where
 s:f.1=c
 t:f.2.1.2.1.length<=40
 o:f.2.2.1.length<=8
 a:f.2.2.2.length<=40
theorem RV{c d:ah}(h8:c.1<=8)(ha:c.2.1.length<=40)(hd:d.2.1.length<=40):∀(n:Nat)(ob:aA)(found:mn),(ob.length:Int)<=c.1->(∀f∈found,FsmP c f)->∀f∈jr c d n ob found,FsmP c f
 |0,ob,found,_,h=>h
 |n+1,ob,found,ho,h=>by
  rw[Lq];split
  ·exact h
  split
  ·have hrow:=λr (hr2:r∈jo c d ob ((((stR c d ob ob.length).length:Int)-0).toNat+1) (stR c d ob ob.length) 0 [])=>JZ (M:=c.2.1.length) _ _ _ _ (ET _) (λr hr=>by cases hr) r hr2;generalize jo c d ob ((((stR c d ob ob.length).length:Int)-0).toNat+1) (stR c d ob ob.length) 0 []=L at *
   have key:∀(L:bW) (fd:mn),(∀r∈L,r.length=c.2.1.length)->(∀f∈fd,FsmP c f)->∀f∈L.foldl (nf c d ob) fd,FsmP c f:=by
    intro L
    induction L with
    |nil=>intro fd _ h;exact h
    |cons x r ih=>
     intro fd hr h;rw[iA];refine ih _ (λy hy=>hr y (fp _ hy)) (λf hf=>?_);unfold nf at hf;split at hf
     ·rcases eS.1 hf with hf|hf
      ·exact h f hf
      ·rw[cA.1 hf];exact⟨rfl,hd,an,by dsimp only;rw[hr x (gk ..)];exact ha⟩
     ·exact h f hf
   exact key L found hrow h
  ·rename_i hne
   have key:∀(L:aA)(fd:mn),(∀f∈fd,FsmP c f)->∀f∈L.foldl (oi c d n ob) fd,FsmP c f:=by
    intro L
    induction L with
    |nil=>intro fd h;exact h
    |cons y r ih=>
     intro fd h;rw[iA];refine ih _ (λf hf=>?_);unfold oi at hf;split at hf
     ·exact RV h8 ha hd n _ _ (by rw[bn];simp only[aX,bh];omega) h f hf
     ·exact h f hf
   exact key _ found h
def j8:Wt:=⟨fC,[bO,aC,aC],[true,false,false],λx y=>[aY x,ShapeP y.1,1<=y.2.1,y.2.1<=8,8<=y.2.2.1,y.2.2.1<=40],λx _=>x,[(true,yv)],λ_ _=>dfR _,0⟩
def Ac(s:aU)(c:ah)(objects arrows:Int)(z:aU)(r0:aV):Prop:=aY z/\FsmP c r0
def Nw:Ann:=(.s .n (.s .n (.s (.s .n (.j [(0,(.ad 1000000 [.de])),(5,(.ad 5 [.de])),(8,(.ad 8 [.de])),(9,(.d yj))] [(1000000,jE),(5,lY),(8,tM)] [9] .n)) .n)))
def agz:FuncId->Option Ct:=lkp [(65,oH),(98,zZ),(103,sO),(115,qb),(104,qp),(102,Dk)]
abbrev Cm:Type:=aU->(aV×Unit)->Prop
def Dq(s:aU)(c:ah)(objects arrows:Int)(K:Cm):Prop:=let g:=kM s objects arrows;let e:=oK s objects arrows;let d:=jr c g (c.1.toNat+1) [] ([]:List jM);let m:=c6 e (d.length:Int);aY s/\1<=objects/\objects<=8/\1<=arrows/\arrows<=40/\ShapeP c/\bK (S:=Uw) (λa=>let n:=a.2.1;let l:=a.2.2.1;let p:=ShapeP l;let h:=cI n 2;let f:=a.1.2.2.2.1;let o:=decide (0<f.1);let j:=c6 h f.1;let i:=c6 n f.1;Oc f<|Oa cO n.1<|Iq n.2.1<|inK .u64 n.2.2->(Oc l<|Of a.2.2.2.1<|ifP (o=true) (0<=n.2.1/\cnd (o&&c6 n 2==0) (0<=h.2.1/\p/\ShapeP f/\0<=j/\j<f.1/\K (cI h f.1) (cT l f j,())) (p/\K h (y5 l,()))) (cnd (o&&(0:Int)==0) (0<=n.2.1/\p/\ShapeP f/\0<=i/\i<f.1/\K (cI n f.1) (cT l f i,())) (p/\K n (y5 l,()))))) (λb=>cnd (Hv c g) (ShapeP c/\ShapeP g/\cnd (decide (0<(d.length:Int))) (0<=e.2.1/\(Ix m d.length<|K (cI e (d.length:Int)) (d.getD m.toNat ((0,[],[],[],[]),(0,[],[],[],[]),[],[]),()))) (b (((),(),(),g,()),e,c,((0,[],[],[],[]),(0,[],[],[],[]),[],[]),()))) (b (((),(),(),g,()),e,c,((0,[],[],[],[]),(0,[],[],[],[]),[],[]),())))
theorem Ys(s:aU)(c:ah)(objects arrows:Int)(hok:ab (j8.o.strip.oks s))(hok2:ab (okL j8.as (c,objects,arrows,())))(hpre:ab (j8.pre s (c,objects,arrows,()))):Dq s c objects arrows (λz r=>Ac s c objects arrows z r.1):=by
 simp only[j8,O.strip,okL,T.oks,T.ok,ap,ab,aL,az,aW]at hok hok2 hpre
 try dsimp only[T.den]at hok
 try dsimp only[T.den]at hok2
 try dsimp only[T.den]at hpre
 delta Dq Ac Iq Ix Oa Oc Of Ol Om
 dsimp -proj -eta only;obtain⟨hS,C,o1,o8,a1,a40⟩:=hpre;have g:=Bn (a:=objects) (b:=arrows) hS o1 o8 aa a40;have D:=EV hS o1 o8 aa a40;generalize kM s objects arrows=d at *;generalize oK s objects arrows=z at *;have cm:=C.m;have co:=C.ob;refine⟨hS,o1,o8,aa,a40,C,bZ (λ(q:Uw)=>aY q.2.1/\q.2.2.1=c/\ShapeP q.1.2.2.2.1) ?_ ?_⟩
 ·rintro⟨⟨_,_,_,d1,_⟩,s1,c1,f1,_⟩ ⟨p1,p2,p3⟩;intros
  try dsimp only at p1 p2 p3⊢
  subst p2;have n1:=eD (n:=2) p1 aB;have dob:=p3.ob;have dm:=p3.m;have n3:=eD (n:=d1.1) n1.1 aB;have fc:∀y,FsmP c1 (cT c1 d1 y):=λy=>⟨rfl,dm,by show (aG _ _).length<=8;rw[bA];omega,by show (aG _ _).length<=40;rw[bA];omega⟩;have fs:FsmP c1 (y5 c1):=⟨rfl,cm,by show (aG _ _).length<=8;rw[bA];omega,by show (aG _ _).length<=40;rw[bA];omega⟩;refine⟨λhd=>⟨p1.2,aJ (λh=>?_) (λ_=>⟨C,n1.1,fs⟩)⟩,λhd=>?_⟩
  ·have hd:0<d1.1:=by simpa using hd
   exact⟨n1.1.2,C,p3,n3.2.1,n3.2.2.1 aa,n3.1,fc _⟩
  ·refine aJ (λh=>?_) (λ_=>⟨C,p1,fs⟩);exfalso;apply hd;simpa using h
 ·intro k hk;refine aJ (λ_=>⟨C,D,aE (λhl=>?_) (λ_=>hk _ ⟨g.1,rfl,D⟩)⟩) (λ_=>hk _ ⟨g.1,rfl,D⟩);have hb:=EJ (c:=c) (d:=d) (c.1.toNat+1) [] [] (fV _);have hm:=RV co.2 cm D.m (c.1.toNat+1) [] [] co.1 (λf hf=>(wh hf).elim);generalize jr c d (c.1.toNat+1) [] []=L at *;have n1:=eD (n:=(L.length:Int)) g.1 aB;have n2:=n1.2.2.1 aa;exact⟨g.1.2,n1.2.1,n2,n1.1,hm _ (bX L _ n1.2.1 n2)⟩
theorem Dm(s:aU)(c:ah)(objects arrows:Int):∃q:aU×(aV×Unit),ab (j8.o.strip.oks s)->ab (okL j8.as (c,objects,arrows,()))->ab (j8.pre s (c,objects,arrows,()))->Dq s c objects arrows (λz r=>z=q.1/\r=q.2)/\ab (j8.o.strip.oks q.1)/\ab (okR j8.rt q.2)/\Ac s c objects arrows q.1 q.2.1:=pkw (au gq (au sC (au D2 (au Hk (au Df (au CT aR)))))) aS.take 97 Tryz.f97 j8 Nw [(6,1600),(7,60005)] ke (λx y K=>Dq x y.1 y.2.1 y.2.2.1 K) (λx y z r=>Ac x y.1 y.2.1 y.2.2.1 z r.1) (λx y h1 h2 h3=>Ys x y.1 y.2.1 y.2.2.1 h1 h2 h3) s (c,objects,arrows,())
def wR(s:aU)(c:ah)(objects arrows:Int):aU:=(Dm s c objects arrows).choose.1
def wN(s:aU)(c:ah)(objects arrows:Int):aV:=(Dm s c objects arrows).choose.2.1
theorem XH(s:aU)(c:ah)(objects arrows:Int)(hok:ab (j8.o.strip.oks s))(hok2:ab (okL j8.as (c,objects,arrows,())))(hpre:ab (j8.pre s (c,objects,arrows,()))):ab (j8.o.strip.oks (wR s c objects arrows))/\ab (okR j8.rt (wN s c objects arrows,()))/\Ac s c objects arrows (wR s c objects arrows) (wN s c objects arrows):=((Dm s c objects arrows).choose_spec hok hok2 hpre).2
def Nz:Wt:=⟨fC,[bO,aC,aC],[true,false,false],λx y=>[aY x,ShapeP y.1,1<=y.2.1,y.2.1<=8,8<=y.2.2.1,y.2.2.1<=40],λx y=>(wR x y.1 y.2.1 y.2.2.1),[(true,yv)],λx y=>((wN x y.1 y.2.1 y.2.2.1),()),0⟩
def NB:Ct:=g7 Nz
theorem Nf:aN Tryz.prog 97 NB:=wtb (au gq (au sC (au D2 (au Hk (au Df (au CT aR)))))) aS.take 97 Tryz.f97 Nz Nw [(6,1600),(7,60005)] (λx y h1 h2 h3=>Eq.mp (by kernel_rfl) ((Dm x y.1 y.2.1 y.2.2.1).choose_spec h1 h2 h3).1)
theorem acz(h:aY s)(ho:ab (T.oks bO c))(C:ShapeP c)(a1:1<=a)(a8:a<=8)(b8:8<=b)(b40:b<=40):aY (wR s c a b)/\FsmP c (wN s c a b):=(XH s c a b h.1 (by simp only[j8,okL,fO,ab,az];exact⟨ho,by simp only[T.oks,ab,az,cF];omega,by simp only[T.oks,ab,az,cF];omega⟩) ⟨h,C,a1,a8,b8,b40,trivial⟩).2.2
def kg:Wt:=⟨fC,[],[],λx y=>[aY x],λx _=>x,[(true,ph)],λ_ _=>dfR _,0⟩
def Ag(s z:aU)(r0:aV):Prop:=aY z/\(r0=r0)
def N0:Ann:=(.s .n (.s .n (.s .n (.s (.s .n (.s .n (.j FL F8 [] (.s .n (.s .n (.j FL F8 [] (.s (.s .n (.j FL F8 [] .n)) (.s .n (.j FL F8 [] .n))))))))) .n))))
def agy:FuncId->Option Ct:=lkp [(65,oH),(99,N8),(98,zZ),(97,NB)]
def Do(s:aU)(K:Cm):Prop:=let o:=oK s 4 10;let n:=kM s 4 10;let j:=wR o n 4 12;let p:=c6 j 30;let l:=cI j 30;let i:=wN o n 4 12;let q:=c6 l (i.2.2.2.length:Int);let m:=cI l (i.2.2.2.length:Int);aY s/\(1:Int)<=4/\(4:Int)<=8/\(1:Int)<=10/\(10:Int)<=40/\aY o/\ShapeP n/\(1:Int)<=4/\(4:Int)<=8/\(8:Int)<=12/\(12:Int)<=40/\0<=j.2.1/\bK (S:=ug) (λa=>Oa cO a.2.1.1<|Iq a.2.1.2.1<|inK .u64 a.2.1.2.2->(Of a.2.2.1<|Of a.2.2.2.1<|K a.2.1 (a.2.2.2.1,()))) (λb=>cnd (p==0) (aY l/\CgR 1000000000 i.1/\b (((),(),(),()),zR l i.1,((0,[],[],[],[]),(0,[],[],[],[]),[],[]),(zE l i.1,i.2),())) (bK (S:=ug) (λc=>Oa cO c.2.1.1<|Iq c.2.1.2.1<|inK .u64 c.2.1.2.2->(Of c.2.2.1<|Of c.2.2.2.1<|b (((),(),(),()),c.2.1,c.2.2.1,c.2.2.2.1,()))) (λd=>cnd (p==1) (bK (S:=ug) (λe=>Oa cO e.2.1.1<|Iq e.2.1.2.1<|inK .u64 e.2.1.2.2->(Of e.2.2.1<|Of e.2.2.2.1<|d (((),(),(),()),e.2.1,e.2.2.1,e.2.2.2.1,()))) (λf=>cnd (decide (0<(i.2.2.2.length:Int))) (Ik ((i.2.1.2.1.length:Int)+1)<|0<=l.2.1/\0<=m.2.1/\(Ix q i.2.2.2.length<|f (((),(),(),()),cI m ((i.2.1.2.1.length:Int)+1),((0,[],[],[],[]),(0,[],[],[],[]),[],[]),(i.1,i.2.1,i.2.2.1,List.set i.2.2.2 q.toNat (c6 m ((i.2.1.2.1.length:Int)+1))),()))) (f (((),(),(),()),l,((0,[],[],[],[]),(0,[],[],[],[]),[],[]),i,())))) (bK (S:=ug) (λg=>Oa cO g.2.1.1<|Iq g.2.1.2.1<|inK .u64 g.2.1.2.2->(Of g.2.2.1<|Of g.2.2.2.1<|d (((),(),(),()),g.2.1,g.2.2.1,g.2.2.2.1,()))) (λh=>cnd (p==2) (bg i.2.2.1.length [0].length 8/\h (((),(),(),()),l,((0,[],[],[],[]),(0,[],[],[],[]),[],[]),(i.1,i.2.1,i.2.2.1++[0],i.2.2.2),())) (h (((),(),(),()),l,((0,[],[],[],[]),(0,[],[],[],[]),[],[]),i,())))))))
theorem Ye(s:aU)(hok:ab (kg.o.strip.oks s))(hok2:ab (okL kg.as (())))(hpre:ab (kg.pre s (()))):Do s (λz r=>Ag s z r.1):=by
 simp only[kg,O.strip,okL,T.oks,T.ok,ap,ab,aL,az,aW]at hok hok2 hpre
 try dsimp only[T.den]at hok
 try dsimp only[T.den]at hok2
 try dsimp only[T.den]at hpre
 delta Do Ag Ik Iq Ix Oa Oc Of Ol Om
 dsimp -proj -eta only;have hS:aY s:=hpre;have g:=Bn (a:=4) (b:=10) hS aH aH aH aH;have C:=EV (a:=4) (b:=10) hS aH aH aH aH;generalize kM s 4 10=c at *;generalize oK s 4 10=z at *;have f:=acz (a:=4) (b:=12) g.1 (lk g.2.1.cg aa) C aH aH aH aH;generalize wN z c 4 12=q at *;generalize wR z c 4 12=y at *;have hy:=f.1;have F:=f.2;have fo:=F.o;have fa:=F.a;have ft:=F.t;have h0:=eD (n:=30) hy aB;refine⟨hS,aH,aH,aH,aH,g.1,C,aH,aH,aH,aH,hy.2,?_⟩;have hz:=h0.1;generalize cI y 30=x at *;have b:=aeu (c:=q.1) hz (by rw[F.s];exact lk g.2.1.cg aa) (by rw[F.s];exact g.2.1.cg);refine bZ (λ(t:ug)=>aY t.2.1) (λt ht=>by intros;exact⟨ht,rfl⟩) (λk hk=>aJ (λ_=>⟨hz,by rw[F.s];exact g.2.1.cg,hk _ b.1⟩) (λ_=>?_));refine bZ (λ(t:ug)=>aY t.2.1) (λt ht=>by intros;exact hk _ ht) (λk1 hk1=>aJ (λ_=>?_) (λ_=>?_))
 ·refine bZ (λ(t:ug)=>aY t.2.1) (λt ht=>by intros;exact hk1 _ ht) (λk2 hk2=>aE (λhm=>?_) (λ_=>hk2 _ hz));have n1:=eD (n:=(q.2.2.2.length:Int)) hz aB;have n2:=eD (n:=(q.2.1.2.1.length:Int)+1) n1.1 aB;exact⟨aB,hz.2,n1.1.2,n1.2.1,n1.2.2.1 aa,hk2 _ n2.1⟩
 ·refine bZ (λ(t:ug)=>aY t.2.1) (λt ht=>by intros;exact hk1 _ ht) (λk2 hk2=>aJ (λ_=>⟨bQ (by simp only[aX,bh];omega),hk2 _ hz⟩) (λ_=>hk2 _ hz))
theorem Dn(s:aU):∃q:aU×(aV×Unit),ab (kg.o.strip.oks s)->ab (okL kg.as (()))->ab (kg.pre s (()))->Do s (λz r=>z=q.1/\r=q.2)/\ab (kg.o.strip.oks q.1)/\ab (okR kg.rt q.2)/\Ag s q.1 q.2.1:=pkw (au gq (au Na (au sC (au Nf aR)))) aS 66 Tryz.f66 kg N0 [(8,40010)] ke (λx y K=>Do x K) (λx y z r=>Ag x z r.1) (λx y h1 h2 h3=>Ye x h1 h2 h3) s (())
def zQ(s:aU):aU:=(Dn s).choose.1
def CS(s:aU):aV:=(Dn s).choose.2.1
theorem XN(s:aU)(hok:ab (kg.o.strip.oks s))(hok2:ab (okL kg.as (())))(hpre:ab (kg.pre s (()))):ab (kg.o.strip.oks (zQ s))/\ab (okR kg.rt (CS s,()))/\Ag s (zQ s) (CS s):=((Dn s).choose_spec hok hok2 hpre).2
def Nl:Wt:=⟨fC,[],[],λx y=>[aY x],λx y=>(zQ x),[(true,ph)],λx y=>((CS x),()),0⟩
def N4:Ct:=g7 Nl
theorem Nv:aN Tryz.prog 66 N4:=wtb (au gq (au Na (au sC (au Nf aR)))) aS 66 Tryz.f66 Nl N0 [(8,40010)] (λx y h1 h2 h3=>Eq.mp (by kernel_rfl) ((Dn x).choose_spec h1 h2 h3).1)
theorem ab4(h:aY s):aY (zQ s):=(XN s h.1 trivial ⟨h,trivial⟩).2.2.1
def jZ:Wt:=⟨fC,[],[],λx y=>[aY x],λx _=>x,[(true,fM)],λ_ _=>dfR _,0⟩
def zM(s z:aU)(r0:ah):Prop:=aY z/\ShapeP r0
def ago:FuncId->Option Ct:=lkp [(65,oH),(129,HB),(98,zZ),(128,qk),(127,q9),(126,qm),(123,wP),(105,D8)]
def Dh(s:aU)(K:yQ):Prop:=let d:=RowP ([[1,1,1],[0,1,0],[0,0,1]].length:Int) [[1,1,1],[0,1,0],[0,0,1]];let c:=fZ [[1,1,1],[0,1,0],[0,0,1]];let b:=c6 s 9;let a:=cI s 9;let e:=uu a;0<=s.2.1/\cnd (b==0) (RowP (([]:List (List Int)).length:Int) []/\([]:List (List Int)).length<=8/\K a (fZ [],())) (cnd (b==1) (K a (u6,())) (cnd (b==2) (RowP ([[1,0],[0,1]].length:Int) [[1,0],[0,1]]/\[[1,0],[0,1]].length<=8/\K a (fZ [[1,0],[0,1]],())) (cnd (b==3) ((0:Int)<=2/\(2:Int)<=8/\[1,1].length=[0,0].length/\[0,0].length<=1000000000/\K a (nJ 2 [0,0] [1,1],())) (cnd (b==4) (d/\[[1,1,1],[0,1,0],[0,0,1]].length<=8/\SqR c/\K a (opR c,())) (cnd (b==5) (d/\[[1,1,1],[0,1,0],[0,0,1]].length<=8/\K a (c,())) (cnd (b==6) (aY a/\OwnP e/\K (wF a) (lU e,())) (cnd (b==7) (RowP ([[1,1],[0,1]].length:Int) [[1,1],[0,1]]/\[[1,1],[0,1]].length<=8/\K a (fZ [[1,1],[0,1]],())) (aY a/\(1:Int)<=3/\(3:Int)<=8/\(1:Int)<=5/\(5:Int)<=40/\K (oK a 3 5) (kM a 3 5,())))))))))
theorem Xe(s:aU)(hok:ab (jZ.o.strip.oks s))(hok2:ab (okL jZ.as (())))(hpre:ab (jZ.pre s (()))):Dh s (λz r=>zM s z r.1):=by
 simp only[jZ,O.strip,okL,T.oks,T.ok,ap,ab,aL,az,aW]at hok hok2 hpre
 try dsimp only[T.den]at hok
 try dsimp only[T.den]at hok2
 try dsimp only[T.den]at hpre
 delta Dh zM
 dsimp -proj -eta only;have h:=eD (n:=9) hpre aB;have hz:=h.1;refine⟨hpre.2,?_⟩;generalize cI s 9=z at *;generalize c6 s 9=r at *;refine aJ (λ_=>⟨⟨rfl,aH⟩,aH,hz,qM aH ⟨rfl,aH⟩ aH aH⟩) (λ_=>?_);refine aJ (λ_=>⟨hz,Ur⟩) (λ_=>?_);refine aJ (λ_=>⟨⟨rfl,aH⟩,aH,hz,qM aH ⟨rfl,aH⟩ aH aH⟩) (λ_=>?_);refine aJ (λ_=>⟨aH,aH,aH,aH,hz,uJ.1 (by decide+kernel)⟩) (λ_=>?_);refine aJ (λ_=>⟨⟨rfl,aH⟩,aH,N_ (qM aH ⟨rfl,aH⟩ aH aH),hz,J9 (qM aH ⟨rfl,aH⟩ aH aH)⟩) (λ_=>?_);refine aJ (λ_=>⟨⟨rfl,aH⟩,aH,hz,qM aH ⟨rfl,aH⟩ aH aH⟩) (λ_=>?_);refine aJ (λ_=>?_) (λ_=>?_)
 ·have m:=Ek hz;refine⟨hz,m.2.1.own,m.1,DY (Eu m.2.1) (by show (1:Int)<=8;decide) ?_⟩;show (List.replicate _ _).length<=40;rw[eA];have:=m.2.1.hi;omega
 refine aJ (λ_=>⟨⟨rfl,aH⟩,aH,hz,qM aH ⟨rfl,aH⟩ aH aH⟩) (λ_=>?_);have g:=Bn (a:=3) (b:=5) hz aH aH aH aH;exact⟨hz,aH,aH,aH,aH,g.1,EV hz aH aH aH aH⟩
theorem Dj(s:aU):∃q:aU×(ah×Unit),ab (jZ.o.strip.oks s)->ab (okL jZ.as (()))->ab (jZ.pre s (()))->Dh s (λz r=>z=q.1/\r=q.2)/\ab (jZ.o.strip.oks q.1)/\ab (okR jZ.rt q.2)/\zM s q.1 q.2.1:=pkw (au gq (au CK (au sC (au CR (au D7 (au CU (au oE (au D4 aR)))))))) aS 100 Tryz.f100 jZ .n [] ke (λx y K=>Dh x K) (λx y z r=>zM x z r.1) (λx y h1 h2 h3=>Xe x h1 h2 h3) s (())
def wO(s:aU):aU:=(Dj s).choose.1
def wH(s:aU):ah:=(Dj s).choose.2.1
theorem Xs(s:aU)(hok:ab (jZ.o.strip.oks s))(hok2:ab (okL jZ.as (())))(hpre:ab (jZ.pre s (()))):ab (jZ.o.strip.oks (wO s))/\ab (okR jZ.rt (wH s,()))/\zM s (wO s) (wH s):=((Dj s).choose_spec hok hok2 hpre).2
def ML:Wt:=⟨fC,[],[],λx y=>[aY x],λx y=>(wO x),[(true,fM)],λx y=>((wH x),()),0⟩
def Nn:Ct:=g7 ML
theorem MQ:aN Tryz.prog 100 Nn:=wtb (au gq (au CK (au sC (au CR (au D7 (au CU (au oE (au D4 aR)))))))) aS 100 Tryz.f100 ML .n [] (λx y h1 h2 h3=>Eq.mp (by kernel_rfl) ((Dj x).choose_spec h1 h2 h3).1)
theorem ac7(h:aY s):aY (wO s)/\ShapeP (wH s):=(Xs s h.1 trivial ⟨h,trivial⟩).2.2
theorem aa5:ShapeP wI:=by have h:=(Nb trivial trivial).2;exact DY h.2 (by have:=h.1.ob;omega) (by have:=h.1.m;omega)
def jY:Wt:=⟨fC,[],[],λx y=>[aY x],λx _=>x,[(true,fM)],λ_ _=>dfR _,0⟩
def zH(s z:aU)(r0:ah):Prop:=aY z/\ShapeP r0
def agi:FuncId->Option Ct:=lkp [(65,oH),(98,zZ),(130,Db),(123,wP)]
def Dc(s:aU)(K:yQ):Prop:=let b:=c6 s 6;let a:=cI s 6;0<=s.2.1/\cnd (b==0) (RowP ([[1,1,1,1],[0,1,0,1],[0,0,1,1],[0,0,0,1]].length:Int) [[1,1,1,1],[0,1,0,1],[0,0,1,1],[0,0,0,1]]/\[[1,1,1,1],[0,1,0,1],[0,0,1,1],[0,0,0,1]].length<=8/\K a (fZ [[1,1,1,1],[0,1,0,1],[0,0,1,1],[0,0,0,1]],())) (cnd (b==1) (RowP ([[1,1,1],[0,1,1],[0,0,1]].length:Int) [[1,1,1],[0,1,1],[0,0,1]]/\[[1,1,1],[0,1,1],[0,0,1]].length<=8/\K a (fZ [[1,1,1],[0,1,1],[0,0,1]],())) (cnd (b==2) (K a (wI,())) (aY a/\(1:Int)<=4/\(4:Int)<=8/\(1:Int)<=12/\(12:Int)<=40/\K (oK a 4 12) (kM a 4 12,()))))
theorem W5(s:aU)(hok:ab (jY.o.strip.oks s))(hok2:ab (okL jY.as (())))(hpre:ab (jY.pre s (()))):Dc s (λz r=>zH s z r.1):=by
 simp only[jY,O.strip,okL,T.oks,T.ok,ap,ab,aL,az,aW]at hok hok2 hpre
 try dsimp only[T.den]at hok
 try dsimp only[T.den]at hok2
 try dsimp only[T.den]at hpre
 delta Dc zH
 dsimp -proj -eta only;have h:=eD (n:=6) hpre aB;have hz:=h.1;refine⟨hpre.2,?_⟩;generalize cI s 6=z at *;generalize c6 s 6=r at *;refine aJ (λ_=>⟨⟨rfl,aH⟩,aH,hz,qM aH ⟨rfl,aH⟩ aH aH⟩) (λ_=>?_);refine aJ (λ_=>⟨⟨rfl,aH⟩,aH,hz,qM aH ⟨rfl,aH⟩ aH aH⟩) (λ_=>?_);refine aJ (λ_=>⟨hz,aa5⟩) (λ_=>?_);have g:=Bn (a:=4) (b:=12) hz aH aH aH aH;exact⟨hz,aH,aH,aH,aH,g.1,EV hz aH aH aH aH⟩
theorem De(s:aU):∃q:aU×(ah×Unit),ab (jY.o.strip.oks s)->ab (okL jY.as (()))->ab (jY.pre s (()))->Dc s (λz r=>z=q.1/\r=q.2)/\ab (jY.o.strip.oks q.1)/\ab (okR jY.rt q.2)/\zH s q.1 q.2.1:=pkw (au gq (au sC (au CY (au oE aR)))) aS 101 Tryz.f101 jY .n [] ke (λx y K=>Dc x K) (λx y z r=>zH x z r.1) (λx y h1 h2 h3=>W5 x h1 h2 h3) s (())
def wL(s:aU):aU:=(De s).choose.1
def wK(s:aU):ah:=(De s).choose.2.1
theorem WF(s:aU)(hok:ab (jY.o.strip.oks s))(hok2:ab (okL jY.as (())))(hpre:ab (jY.pre s (()))):ab (jY.o.strip.oks (wL s))/\ab (okR jY.rt (wK s,()))/\zH s (wL s) (wK s):=((De s).choose_spec hok hok2 hpre).2
def MD:Wt:=⟨fC,[],[],λx y=>[aY x],λx y=>(wL x),[(true,fM)],λx y=>((wK x),()),0⟩
def MR:Ct:=g7 MD
theorem MG:aN Tryz.prog 101 MR:=wtb (au gq (au sC (au CY (au oE aR)))) aS 101 Tryz.f101 MD .n [] (λx y h1 h2 h3=>Eq.mp (by kernel_rfl) ((De x).choose_spec h1 h2 h3).1)
theorem aac(h:aY s):aY (wL s)/\ShapeP (wK s):=(WF s h.1 trivial ⟨h,trivial⟩).2.2
def jV:Wt:=⟨fC,[],[],λx y=>[aY x],λx _=>x,[(true,ph)],λ_ _=>dfR _,0⟩
def zA(s z:aU)(r0:aV):Prop:=aY z/\(r0=r0)
def Mw:Ann:=(.s .n (.s (.s .n (.l [(0,(.ad 1000000 [.de])),(2,(.ad 2 [.de])),(3,(.d aC))] [(1000000,jE),(2,tM)] [] (.s .n (.s (.s .n (.s .n (.j [(0,(.ad 1000000 [.de])),(2,(.ad 2 [.de]))] [(1000000,jE),(2,tM)] [3] .n))) .n)))) .n))
def agh:FuncId->Option Ct:=lkp [(65,oH),(103,sO),(104,qp),(102,Dk),(105,D8),(100,Nn),(101,MR)]
def CP(s:aU)(K:Cm):Prop:=aK (S:=(dD×Cj)) (λa b=>let l:=a.1.2.2.1;let h:=wO a.2.1;let i:=wK h;let g:=wH a.2.1;let f:=wL h;let e:=jr g i (Int.toNat g.1+1) [] ([]:List jM);let j:=c6 f (e.length:Int);Iq l<|Oa cO a.2.1.1<|Iq a.2.1.2.1<|inK .u64 a.2.1.2.2->(Of a.2.2.1<|cnd (decide (l<8)) (aY a.2.1/\aY h/\ShapeP g/\bK (S:=(g8×Cj)) (λc=>Oa cO c.2.1.1<|Iq c.2.1.2.1<|inK .u64 c.2.1.2.2->(Of c.2.2.1<|Ik (l+1)<|b (((),(),l+1,()),c.2.1,c.2.2.1,()))) (λd=>cnd (Hv g i) (ShapeP g/\ShapeP i/\cnd (decide (0<(e.length:Int))) (0<=f.2.1/\(Ix j e.length<|K (cI f (e.length:Int)) (e.getD j.toNat ((0,[],[],[],[]),(0,[],[],[],[]),[],[]),()))) (d (((),(),()),f,a.2.2.1,()))) (d (((),(),()),f,a.2.2.1,())))) (ShapeP u6/\K a.2.1 (y5 u6,())))) (((),(),0,()),s,((0,[],[],[],[]),(0,[],[],[],[]),[],[]),())
theorem Wj(s:aU)(hok:ab (jV.o.strip.oks s))(hok2:ab (okL jV.as (())))(hpre:ab (jV.pre s (()))):CP s (λz r=>zA s z r.1):=by
 simp only[jV,O.strip,okL,T.oks,T.ok,ap,ab,aL,az,aW]at hok hok2 hpre
 try dsimp only[T.den]at hok
 try dsimp only[T.den]at hok2
 try dsimp only[T.den]at hpre
 delta CP zA Ik Iq Ix Oa Oc Of Ol Om
 dsimp -proj -eta only;have hS:aY s:=hpre;refine bt (λ(t:(dD×Cj))=>0<=t.1.2.2.1/\t.1.2.2.1<=8/\aY t.2.1) (λ(t:(dD×Cj))=>(8-t.1.2.2.1).toNat) ?_ ⟨ak,ak,hS⟩;rintro⟨⟨_,_,n,_⟩,s1,f1,_⟩ next ⟨n0,n1,h1⟩ hnx
 intros
 try dsimp only at n0 n1 h1 hnx⊢
 refine aE (λhn=>?_) (λ_=>⟨Ur,h1,rfl⟩);have a:=ac7 h1;generalize wH s1=c at *;generalize wO s1=y at *;have b:=aac a.1;generalize wK y=d at *;generalize wL y=z at *;refine⟨h1,a.1,a.2,bZ (λ(q:(g8×Cj))=>aY q.2.1) ?_ ?_⟩
 ·rintro⟨_,s2,f2,_⟩ p1;intros
  try dsimp only at p1⊢
  exact⟨aB,hnx _ ⟨an,an,p1⟩ an⟩
 ·intro k hk;refine aJ (λ_=>⟨a.2,b.2,aE (λhl=>?_) (λ_=>hk _ b.1)⟩) (λ_=>hk _ b.1);have hb:=EJ (c:=c) (d:=d) (c.1.toNat+1) [] [] (fV _);generalize jr c d (c.1.toNat+1) [] []=L at *;have n1:=eD (n:=(L.length:Int)) b.1 aB;exact⟨b.1.2,n1.2.1,n1.2.2.1 aa,n1.1,rfl⟩
theorem CQ(s:aU):∃q:aU×(aV×Unit),ab (jV.o.strip.oks s)->ab (okL jV.as (()))->ab (jV.pre s (()))->CP s (λz r=>z=q.1/\r=q.2)/\ab (jV.o.strip.oks q.1)/\ab (okR jV.rt q.2)/\zA s q.1 q.2.1:=pkw (au gq (au D2 (au Df (au CT (au D4 (au MQ (au MG aR))))))) aS 67 Tryz.f67 jV Mw [] ke (λx y K=>CP x K) (λx y z r=>zA x z r.1) (λx y h1 h2 h3=>Wj x h1 h2 h3) s (())
def z5(s:aU):aU:=(CQ s).choose.1
def CH(s:aU):aV:=(CQ s).choose.2.1
theorem Wx(s:aU)(hok:ab (jV.o.strip.oks s))(hok2:ab (okL jV.as (())))(hpre:ab (jV.pre s (()))):ab (jV.o.strip.oks (z5 s))/\ab (okR jV.rt (CH s,()))/\zA s (z5 s) (CH s):=((CQ s).choose_spec hok hok2 hpre).2
def My:Wt:=⟨fC,[],[],λx y=>[aY x],λx y=>(z5 x),[(true,ph)],λx y=>((CH x),()),0⟩
def MA:Ct:=g7 My
theorem M5:aN Tryz.prog 67 MA:=wtb (au gq (au D2 (au Df (au CT (au D4 (au MQ (au MG aR))))))) aS 67 Tryz.f67 My Mw [] (λx y h1 h2 h3=>Eq.mp (by kernel_rfl) ((CQ x).choose_spec h1 h2 h3).1)
theorem afb(h:aY s):aY (z5 s):=(Wx s h.1 trivial ⟨h,trivial⟩).2.2.1
def oI:Wt:=⟨fC,[],[],λx y=>[aY x],λx _=>x,[(true,ph)],λ_ _=>dfR _,0⟩
def Dl(s z:aU)(r0:aV):Prop:=aY z/\(r0=r0)
def ags:FuncId->Option Ct:=lkp [(65,oH),(66,N4),(67,MA)]
def Dt(s:aU)(K:Cm):Prop:=let a:=cI s 16;0<=s.2.1/\cnd (c6 s 16==0) (aY a/\K (zQ a) (CS a,())) (aY a/\K (z5 a) (CH a,()))
theorem XP(s:aU)(hok:ab (oI.o.strip.oks s))(hok2:ab (okL oI.as (())))(hpre:ab (oI.pre s (()))):Dt s (λz r=>Dl s z r.1):=by
 simp only[oI,O.strip,okL,T.oks,T.ok,ap,ab,aL,az,aW]at hok hok2 hpre
 try dsimp only[T.den]at hok
 try dsimp only[T.den]at hok2
 try dsimp only[T.den]at hpre
 delta Dt Dl
 dsimp -proj -eta only;have h:=eD (n:=16) hpre aB;exact⟨hpre.2,aJ (λ_=>⟨h.1,ab4 h.1,rfl⟩) (λ_=>⟨h.1,afb h.1,rfl⟩)⟩
theorem Ih(s:aU):∃q:aU×(aV×Unit),ab (oI.o.strip.oks s)->ab (okL oI.as (()))->ab (oI.pre s (()))->Dt s (λz r=>z=q.1/\r=q.2)/\ab (oI.o.strip.oks q.1)/\ab (okR oI.rt q.2)/\Dl s q.1 q.2.1:=pkw (au gq (au Nv (au M5 aR))) aS 31 Tryz.f31 oI .n [] ke (λx y K=>Dt x K) (λx y z r=>Dl x z r.1) (λx y h1 h2 h3=>XP x h1 h2 h3) s (())
def Xv(s:aU):aU:=(Ih s).choose.1
def MJ(s:aU):aV:=(Ih s).choose.2.1
def MY:Wt:=⟨fC,[],[],λx y=>[aY x],λx y=>(Xv x),[(true,ph)],λx y=>((MJ x),()),0⟩
def N6:Ct:=g7 MY
theorem MZ:aN Tryz.prog 31 N6:=wtb (au gq (au Nv (au M5 aR))) aS 31 Tryz.f31 MY .n [] (λx y h1 h2 h3=>Eq.mp (by kernel_rfl) ((Ih x).choose_spec h1 h2 h3).1)
def uw:Ct:=⟨[cO],[false],λx=>[],[(true,ph)],λ_=>dfR _,true,none⟩
def CL(code:aA)(r0:aV):Prop:=(r0=r0)
def age:FuncId->Option Ct:=lkp [(32,Ie),(31,N6)]
def z4(code:aA)(K:Cq):Prop:=let a:=zI code;aY a/\K (MJ a,())
theorem VH(code:aA)(hok:ab (okL uw.args (code,())))(hpre:ab (uw.pre (code,()))):z4 code (λr=>CL code r.1):=by
 simp only[uw,okL,T.oks,T.ok,ap,ab,aL,az,aW]at hok hpre
 try dsimp only[T.den]at hok hpre
 delta z4 CL
 dsimp -proj -eta only;have hF:=ads (code:=code) (by simpa only [T.oks,T.ok,ap,ab,aL,az,aW]using hok);exact⟨hF,rfl⟩
theorem Ms(code:aA):∃q:aV×Unit,ab (okL uw.args (code,()))->ab (uw.pre (code,()))->z4 code (λr=>r=q)/\ab (okR uw.rt q)/\CL code q.1:=pkb (au Nj (au MZ aR)) aS 7 Tryz.f7 uw .n [] (λx K=>z4 x.1 K) (λx r=>CL x.1 r.1) (λx h1 h2=>VH x.1 h1 h2) (code,())
def Hf(code:aA):aV:=(Ms code).choose.1
def Hq:Ct:=⟨[cO],[false],λx=>[],[(true,ph)],λx=>((Hf x.1),()),true,none⟩
theorem VM:aN Tryz.prog 7 Hq:=ctb (au Nj (au MZ aR)) aS 7 Tryz.f7 Hq .n [] (λx K=>z4 x.1 K) (λx h1 h2=>((Ms x.1).choose_spec h1 h2).1)
def sP:Ct:=⟨[aC,cy],[false,false],λx=>[],[(false,cU)],λx=>(ds x.2.1 x.1,()),false,none⟩
def XS:Ann:=(.s .n (.s (.s .n (.l tx [] [0,1] .n)) .n))
def Iz(n:Int)(f:aA)(K:d9):Prop:=aK (S:=cH) (λa b=>let d:=a.1.1;let c:=f.getD d.toNat 0;Iq d<|cnd (decide (d<(f.length:Int))) (Ix d f.length<|(decide (c<0)=false->d<(f.length:Int)/\0<=d)/\cnd (decide (c<0)||decide (n<=c)) (K (false,())) (Ik (d+1)<|b ((d+1,()),()))) (K (true,()))) ((0,()),())
theorem Y4(n:Int)(f:aA):Mh sP (n,f,()) (Iz n f):=by
 intro hok hpre;simp only[sP,okL,T.oks,T.ok,ap,ab,aL,az,aW]at hok hpre
 try dsimp only[T.den]at hok hpre
 delta Iz Ik Iq Ix
 dsimp -proj -eta only;refine bt (λ(s:cH)=>0<=s.1.1/\s.1.1<=f.length/\ds f n=ds (f.drop s.1.1.toNat) n) (λ(s:cH)=>(f.length-s.1.1).toNat) ?_ ak;rintro⟨⟨i,_⟩,_⟩ next ⟨h0,h1,h2⟩ hn hin
 simp only at h0 h1 h2 hn⊢;refine aE (λhc=>?_) (λhc=>?_)
 ·rw[tE f 0 h0 hc]at h2;simp only[ds,zm]at h2
  grind[cnd,ce,cF,sP,ds,inR]
 ·rw[ve f aa]at h2
  grind[cnd,ce,cF,sP,ds]
theorem Ig:aN Tryz.prog 71 sP:=ctb aR aS 71 Tryz.f71 sP XS [] (λx K=>Iz x.1 x.2.1 K) (λx h1 h2=>Y4 x.1 x.2.1 h1 h2)
def wX:Ct:=⟨[aC,aC,aC],[false,false,false],λx=>[],[(false,cU)],λx=>(inR x.1 x.2.1 x.2.2.1,()),false,none⟩
def IB(n low high:Int)(K:d9):Prop:=K (decide (low<=n)&&decide (n<=high),())
theorem YJ(n low high:Int):Mh wX (n,low,high,()) (IB n low high):=by
 intro hok hpre;simp only[wX,okL,T.oks,T.ok,ap,ab,aL,az,aW]at hok hpre
 try dsimp only[T.den]at hok hpre
 unfold IB
 grind[cnd,ce,cF,wX,inR]
theorem Y2:aN Tryz.prog 134 wX:=ctb aR aS 134 Tryz.f134 wX .n [] (λx K=>IB x.1 x.2.1 x.2.2.1 K) (λx h1 h2=>YJ x.1 x.2.1 x.2.2.1 h1 h2)
def sH:Ct:=⟨[cy,aC,aC],[false,false,false],λx=>[],[(false,cU)],λx=>((decide ((x.1.length:Int)=x.2.1)&&ds x.1 x.2.2.1),()),false,none⟩
def HT(list:aA)(length objects:Int)(K:d9):Prop:=K ((list.length:Int)==length&&ds list objects,())
theorem Yo(list:aA)(length objects:Int)(hok:ab (okL sH.args (list,length,objects,())))(hpre:ab (sH.pre (list,length,objects,()))):HT list length objects (λr=>r=sH.res (list,length,objects,())):=by
 simp only[sH,okL,T.oks,T.ok,ap,ab,aL,az,aW]at hok hpre
 try dsimp only[T.den]at hok hpre
 unfold HT;have:((list.length:Int)==length)=decide ((list.length:Int)=length):=rfl;simp only[sH,this]
theorem Xp:aN Tryz.prog 135 sH:=ctb (au Ig aR) aS 135 Tryz.f135 sH .n [] (λx K=>HT x.1 x.2.1 x.2.2.1 K) (λx h1 h2=>Yo x.1 x.2.1 x.2.2.1 h1 h2)
def oM:Ct:=⟨[bO],[true],λx=>[],[(false,cU)],λx=>(lP x.1,()),false,none⟩
def Xu:Ann:=(.s .n (.s .n (.s .n (.s .n (.s (.s .n (.l [(4,(.d aC))] [] [1,3] .n)) (.s (.s .n (.l tx [] [1,3] (.s .n (.s (.s .n (.s .n (.l [(6,(.d aC))] [] [1,3,5] (.s .n (.s (.j [] [] [1,3,5,6] .n) .n))))) .n)))) .n))))))
def agv:FuncId->Option Ct:=lkp [(134,wX),(71,sP),(135,sH)]
def Il(c:ah)(K:d9):Prop:=let x:=c.2.2.2;let p:=c.2.2.1.length;let l:=c.2.1.length;cnd (!inR c.1 0 8||decide (40<(l:Int))||!(decide ((l:Int)=(l:Int))&&ds c.2.1 c.1)||!(decide ((p:Int)=(l:Int))&&ds c.2.2.1 c.1)||(x.2.length:Int) != (l:Int)) (K (false,())) (cnd ((x.1.length:Int) != c.1||!ds x.1 (l:Int)) (K (false,())) (aK (S:=cH) (λa b=>let v:=a.1.1;let m:=x.1.getD v.toNat 0;let t:=c.2.1.getD m.toNat 0;Iq v<|cnd (decide (v<c.1)) (Ix v x.1.length<|Ix m l<|((t != v)=false->v<(x.1.length:Int)/\0<=v)/\((t != v)=false->m<(p:Int)/\0<=m)/\cnd (t != v||c.2.2.1.getD m.toNat 0 != v) (K (false,())) (Ik (v+1)<|b ((v+1,()),()))) (aK (S:=cH) (λd e=>let w:=d.1.1;let q:=c.2.1.getD w.toNat 0;let o:=x.2.getD w.toNat [];Iq w<|cnd (decide (w<(l:Int))) (Ix w x.2.length<|cnd ((o.length:Int) != (l:Int)) (K (false,())) (aK (S:=cH) (λf g=>let y:=f.1.1;let j:=o.getD y.toNat 0;let u:=c.2.1.getD j.toNat 0;let r:=decide (j<0);let n:=decide ((l:Int)<=j);Iq y<|cnd (decide (y<(l:Int))) (bK (S:=(Unit×Unit)) (λh=>Ik (y+1)<|g ((y+1,()),())) (λi=>Ix w x.2.length<|Ix y o.length<|Ix w p<|Ix y l<|cnd (c.2.2.1.getD w.toNat 0 != c.2.1.getD y.toNat 0) (cnd (j != -1) (K (false,())) (i ((),()))) (((r||n)=false->j<(l:Int)/\0<=j)/\((r||n)=false->w<(l:Int)/\0<=w)/\((r||n||u != q)=false->j<(p:Int)/\0<=j)/\((r||n||u != q)=false->y<(p:Int)/\0<=y)/\cnd (r||n||u != q||c.2.2.1.getD j.toNat 0 != c.2.2.1.getD y.toNat 0) (K (false,())) (i ((),()))))) (Ik (w+1)<|e ((w+1,()),()))) ((0,()),()))) (K (true,()))) ((0,()),()))) ((0,()),())))
theorem XU(c:ah)(hok:ab (okL oM.args (c,())))(hpre:ab (oM.pre (c,()))):Il c (λr=>r=oM.res (c,())):=by
 simp only[oM,okL,T.oks,T.ok,ap,ab,aL,az,aW]at hok hpre
 try dsimp only[T.den]at hok hpre
 delta Il Ik Iq Ix
 dsimp -proj -eta only;have bad:¬ShapeP c->(false,())=oM.res (c,()):=λh=>by simp only[oM];rw[E6 h]
 refine aJ (λhc=>bad λh=>?_) (λhc=>aJ (λhd=>bad λh=>?_) (λhd=>?_))
 ·have h1:=h.ob;have h2:=h.m;have h3:=h.lt;have h4:=h.fr;have h5:=h.to;have h6:=h.lc;simp only[inR]at hc;grind[cnd,ce,cF]
 ·have h1:=h.li;have h2:=h.ids;grind[cnd,ce,cF]
 simp only[inR,lE,oB,ao,db,gM,fY]at hc hd;obtain⟨⟨⟨⟨hob,hm⟩,_,hfr⟩,hlt,hto⟩,hlc⟩:=hc;obtain⟨hli,hids⟩:=hd;refine eV (n:=c.1) (λx=>∀y:Int,0<=y->y<x->c.2.1.getD (c.2.2.2.1.getD y.toNat 0).toNat 0=y/\c.2.2.1.getD (c.2.2.2.1.getD y.toNat 0).toNat 0=y) aa (by intro y h0 h1;omega) ?_ ?_
 ·intro x next h0 h1 hP hn hin
  have hb:=fw.1 hids x h0 aa
  try dsimp only
  refine aE (λ_=>⟨h0,aa,hb.1,hb.2,λ_=>aa,λ_=>aa,aJ (λhx=>bad λh=>?_) (λhx=>?_)⟩) (λh=>absurd h1 h)
  ·have:=h.idt x h0 aa;rw[this.1,this.2]at hx;simp at hx
  ·simp only[lE,fY]at hx;refine⟨aB,hn λy y0 y1=>?_⟩;by_cases e:y=x
   ·rw[e];exact hx
   ·exact hP y y0 aa
 intro next hidt hin
 refine aE (λh=>absurd h an) (λ_=>?_);refine eV (n:=c.2.1.length) (λf=>∀f':Int,0<=f'->f'<f->(c.2.2.2.2.getD f'.toNat []).length=c.2.1.length/\∀g:Int,0<=g->g<c.2.1.length->iV c f' g=true) aa (by intro y h0 h1;omega) ?_ ?_
 ·intro f next h0 h1 hP hn hin
  try dsimp only
  refine aE (λ_=>⟨h0,aa,aJ (λhx=>bad λh=>?_) (λhx=>?_)⟩) (λh=>absurd h1 h)
  ·have:=h.row f h0 aa;rw[this]at hx;simp at hx
  simp only[fY]at hx;refine eV (n:=c.2.1.length) (λg=>∀g':Int,0<=g'->g'<g->iV c f g'=true) aa (by intro y h0 h1;omega) ?_ ?_
  ·intro g next3 g0 g1 hP3 hn3 hin3
   try dsimp only
   refine aE (λ_=>?_) (λh=>absurd g1 h);refine bZ (λ_=>iV c f g=true) (λ_ hcell=>⟨aB,hn3 λg' y0 y1=>?_⟩) (λk hk=>?_)
   ·by_cases e:g'=g
    ·rw[e];exact hcell
    ·exact hP3 g' y0 aa
   have hcell:∀b,iV c f g=b->b=false->¬ShapeP c:=λb h1 h2 h=>by have:=h.cell f g h0 aa g0 aa;rw[h1,h2]at this;cases this
   have hk':=hk ((),());obtain⟨v,hv⟩:∃v,(c.2.2.2.2.getD f.toNat []).getD g.toNat 0=v:=⟨_,rfl⟩;have hR:iV c f g=k8 c f g v:=by unfold iV aq;rw[hv]
   rw[hR]at hk';rw[hR]at hcell;rw[hv];clear hP3 hn3 hP hn hk hR hv hidt hok;refine⟨h0,aa,g0,aa,h0,aa,g0,aa,aJ (λha=>aJ (λhb=>bad ?_) (λhb=>hk' ?_)) (λha=>⟨λhv=>?_,λ_=>⟨aa,h0⟩,λhv=>?_,λ_=>⟨aa,g0⟩,aJ (λhb=>bad ?_) (λhb=>hk' ?_)⟩)⟩
   ·exact hcell _ rfl (by grind[cnd,ce,cF,k8])
   ·grind[cnd,ce,cF,k8]
   ·simp only[lE,gM]at hv;omega
   ·simp only[lE,gM]at hv;omega
   ·exact hcell _ rfl (by grind[cnd,ce,cF,k8])
   ·grind[cnd,ce,cF,k8]
  ·intro next3 hP3 hin3;refine aE (λh=>absurd h an) (λ_=>⟨aB,hn λf' y0 y1=>?_⟩);by_cases e:f'=f
   ·rw[e];exact⟨aa,λg g0 g1=>hP3 g g0 aa⟩
   ·exact hP f' y0 aa
 ·intro next2 hP2 hin2;refine aE (λh=>absurd h an) (λ_=>?_);simp only[oM];rw[Kw ⟨hob,aa,aa,hfr,hto,aa,hids,aa,λx a b=>hidt x a aa,λf a b=>(hP2 f a aa).1,λf g a b d e=>(hP2 f a aa).2 g d e⟩]
theorem XF:aN Tryz.prog 106 oM:=ctb (au Y2 (au Ig (au Xp aR))) aS 106 Tryz.f106 oM Xu [(20,11),(23,33),(9,24)] (λx K=>Il x.1 K) (λx h1 h2=>XU x.1 h1 h2)
def ql:Ct:=⟨[bO],[true],λx=>[ShapeP x.1],[(false,dP),(false,dP),(false,dP),(false,dP)],λx=>((gO x.1).1,(gO x.1).2.1,(gO x.1).2.2.1,(gO x.1).2.2.2,()),false,none⟩
def WA:Ann:=(.s .n (.s .n (.s (.s .n (.l pa [] [1,6] .n)) (.s (.s .n (.l [(8,(.d aC))] [] [1,6] (.s .n (.s (.s .n (.l [(9,(.d aC))] [] [1,6,8] (.s .n (.s (.j [] [] [1,6,8,9] (.s .n (.s .n (.l Br [] [1,6,8,9] .n)))) .n)))) .n)))) .n))))
def HW(c:ah)(K:Int×Int×Int×Int×Unit->Prop):Prop:=let a5:=c.2.2.1.length;let x:=c.2.1.length;let u:=c.2.2.2.2.length;aK (S:=cH) (λa b=>let v:=a.1.1;let a3:=v.toNat;let a6:=c.2.2.2.2.getD a3 [];let t:=c.2.2.2.1.getD (c.2.1.getD a3 0).toNat 0;let a4:=c.2.2.2.2.getD t.toNat [];let q:=c.2.2.1.getD a3 0;let y:=c.2.2.2.1.getD q.toNat 0;let m:=a4.getD a3 0;Iq v<|cnd (decide (v<(x:Int))) (Ix v x<|Ix (c.2.1.getD a3 0) c.2.2.2.1.length<|Ix t u<|Ix v a4.length<|((m != v)=false->v<(u:Int)/\0<=v)/\((m != v)=false->v<(a5:Int)/\0<=v)/\((m != v)=false->q<(c.2.2.2.1.length:Int)/\0<=q)/\((m != v)=false->y<(a6.length:Int)/\0<=y)/\cnd (m != v||a6.getD y.toNat 0 != v) (K (1,v,0,0,())) (Ik (v+1)<|b ((v+1,()),()))) (aK (S:=cH) (λd e=>let a1:=d.1.1;let p:=c.2.2.2.2.getD a1.toNat [];Iq a1<|cnd (decide (a1<(x:Int))) (aK (S:=cH) (λf g=>let a2:=f.1.1;let w:=a2.toNat;let a0:=c.2.2.2.2.getD (p.getD w 0).toNat [];let n:=c.2.2.1.getD w 0;Iq a2<|cnd (decide (a2<(x:Int))) (bK (S:=(Unit×Unit)) (λh=>Ik (a2+1)<|g ((a2+1,()),())) (λi=>Ix a1 a5<|Ix a2 x<|cnd (c.2.2.1.getD a1.toNat 0 != c.2.1.getD w 0) (i ((),())) (aK (S:=cH) (λj l=>let z:=j.1.1;let r:=(c.2.2.2.2.getD w []).getD z.toNat 0;let o:=c.2.1.getD z.toNat 0;Iq z<|cnd (decide (z<(x:Int))) (Ix a2 a5<|Ix z x<|((n==o)=true->a1<(u:Int)/\0<=a1)/\((n==o)=true->a2<(p.length:Int)/\0<=a2)/\((n==o)=true->p.getD w 0<(u:Int)/\0<=p.getD w 0)/\((n==o)=true->z<(a0.length:Int)/\0<=z)/\((n==o)=true->a1<(u:Int)/\0<=a1)/\((n==o)=true->a2<(u:Int)/\0<=a2)/\((n==o)=true->z<((c.2.2.2.2.getD w []).length:Int)/\0<=z)/\((n==o)=true->r<(p.length:Int)/\0<=r)/\cnd (n==o&&a0.getD z.toNat 0 != p.getD r.toNat 0) (K (2,a1,a2,z,())) (Ik (z+1)<|l ((z+1,()),()))) (i ((),()))) ((0,()),())))) (Ik (a1+1)<|e ((a1+1,()),()))) ((0,()),())) (K (0,0,0,0,()))) ((0,()),()))) ((0,()),())
theorem X3(c:ah)(hok:ab (okL ql.args (c,())))(hpre:ab (ql.pre (c,()))):HW c (λr=>r=ql.res (c,())):=by
 simp only[ql,okL,T.oks,T.ok,ap,ab,aL,az,aW]at hok hpre
 try dsimp only[T.den]at hok hpre
 delta HW Ik Iq Ix
 dsimp -proj -eta only;have S:ShapeP c:=hpre;have hlt:=S.lt;have hli:=S.li;have hlc:=S.lc;have hmm:=S.m;have resq:∀a b d e,gO c=(a,b,d,e)->(a,b,d,e,())=ql.res (c,()):=λa b d e h=>by simp only[ql,h]
 have hcr:∀f g:Int,(c.2.2.2.2.getD f.toNat []).getD g.toNat 0=aq c f g:=λ_ _=>rfl;simp only[hcr];refine eV (n:=c.2.1.length) (λf=>ck (iq c) c.2.1.length 0=ck (iq c) ((c.2.1.length:Int)-f).toNat f) aa t8 ?_ ?_
 ·intro f next h0 h1 hP hn hin
  try dsimp only
  obtain⟨a1,a2,a3,a4⟩:=S.frm h0 h1;obtain⟨b1,b2,_,_⟩:=S.idn a1 a2;obtain⟨d1,d2,_,_⟩:=S.idn a3 a4;have r1:=S.row _ b1 b2;have r2:=S.row f h0 h1;refine aE (λ_=>⟨h0,h1,aa,aa,aa,aa,h0,aa,λ_=>aa,λ_=>aa,λ_=>aa,λ_=>aa,aJ (λhx=>resq _ _ _ _ ?_) (λhx=>⟨aB,hn ?_⟩)⟩) (λh=>absurd h1 h)
  ·have:iq c f=some (1,f,0,0):=by unfold iq;rw[am];simpa using hx
   unfold gO;rw[hP,t9 h1 this];rfl
  ·have:iq c f=none:=by unfold iq;rw[aj];simpa using hx
   rw[hP,tz h1 this]
 intro next hI hin
 rw[tq]at hI;refine aE (λh=>absurd h an) (λ_=>?_);have hF:gO c=orR (ck (jD c) c.2.1.length 0) (0,0,0,0):=by unfold gO;rw[hI];rfl
 refine eV (n:=c.2.1.length) (λf=>ck (jD c) c.2.1.length 0=ck (jD c) ((c.2.1.length:Int)-f).toNat f) aa t8 ?_ ?_
 ·intro f next h0 h1 hP hn hin
  try dsimp only
  refine aE (λ_=>?_) (λh=>absurd h1 h);have r1:=S.row f h0 h1;refine eV (n:=c.2.1.length) (λg=>jD c f=ck (jC c f) ((c.2.1.length:Int)-g).toNat g) aa t8 ?_ ?_
  ·intro g next3 g0 g1 hP3 hn3 hin3
   try dsimp only
   refine aE (λ_=>?_) (λh=>absurd g1 h);have r2:=S.row g g0 g1;refine bZ (λ_=>jC c f g=none) (λ_ hG=>⟨aB,hn3 (by rw[hP3,tz g1 hG])⟩) (λk hk=>?_);have hk':=hk ((),());refine⟨aa,aa,aa,aa,aJ (λhx=>hk' ?_) (λhx=>?_)⟩
   ·unfold jC;rw[aj];simpa using hx
   have hfg:c.2.2.1.getD f.toNat 0=c.2.1.getD g.toNat 0:=by rw[fY]at hx;exact hx
   obtain⟨y1,y2,_,_⟩:=S.yes h0 h1 g0 g1 hfg;refine eV (n:=c.2.1.length) (λh=>jC c f g=ck (kW c f g) ((c.2.1.length:Int)-h).toNat h) aa (by unfold jC;rw[am hfg];exact t8) ?_ ?_
   ·intro h next4 i0 i1 hP4 hn4 hin4
    try dsimp only
    refine aE (λ_=>?_) (λh=>absurd i1 h);have r3:=S.row _ y1 y2;have cgh:=S.comp g0 g1 i0 i1;have ygh:=@ShapeP.yes c S g h g0 g1 i0 i1;refine⟨aa,aa,aa,aa,λ_=>aa,λ_=>aa,λ_=>aa,λ_=>aa,λ_=>aa,λ_=>aa,λ_=>aa,λhe=>?_,aJ (λhx=>resq _ _ _ _ ?_) (λhx=>⟨aB,hn4 ?_⟩)⟩
    ·have:=ygh (by simpa only [bN]using he);omega
    ·have:kW c f g h=some (2,f,g,h):=by unfold kW;rw[am];simpa using hx
     have e1:jC c f g=some (2,f,g,h):=by rw[hP4,t9 i1 this]
     have e2:jD c f=some (2,f,g,h):=by rw[hP3,t9 g1 e1]
     rw[hF,hP,t9 h1 e2];rfl
    ·have:kW c f g h=none:=by unfold kW;rw[aj];simpa using hx
     rw[hP4,tz i1 this]
   ·intro next4 hP4 hin4;rw[tq]at hP4;exact aE (λh=>absurd h an) (λ_=>hk' hP4)
  ·intro next3 hP3 hin3;rw[tq]at hP3;exact aE (λh=>absurd h an) (λ_=>⟨aB,hn (by rw[hP,tz h1 hP3])⟩)
 ·intro next2 hP2 hin2;rw[tq]at hP2;refine aE (λh=>absurd h an) (λ_=>resq _ _ _ _ ?_);rw[hF,hP2];rfl
theorem WC:aN Tryz.prog 107 ql:=ctb aR aS 107 Tryz.f107 ql WA [(17,44),(5,38),(13,11)] (λx K=>HW x.1 K) (λx h1 h2=>X3 x.1 h1 h2)
def sL:Ct:=⟨[bO],[true],λx=>[],[(false,cU)],λx=>(cq x.1,()),false,none⟩
def ag7:FuncId->Option Ct:=lkp [(106,oM),(107,ql)]
def IG(c:ah)(K:d9):Prop:=cnd (!lP c) (K (false,())) (ShapeP c/\K ((gO c).1==0,()))
theorem YS(c:ah)(hok:ab (okL sL.args (c,())))(hpre:ab (sL.pre (c,()))):IG c (λr=>r=sL.res (c,())):=by
 simp only[sL,okL,T.oks,T.ok,ap,ab,aL,az,aW]at hok hpre
 try dsimp only[T.den]at hok hpre
 unfold IG;simp only[sL,cq];have:=@uJ c
 grind[cnd,ce,cF]
theorem YH:aN Tryz.prog 70 sL:=ctb (au XF (au WC aR)) aS 70 Tryz.f70 sL .n [] (λx K=>IG x.1 K) (λx h1 h2=>YS x.1 h1 h2)
end
end Go.Bm
