/- What the functions that FnLimitsFromProducts reaches give: for each its contract, what it asks, and the proof. No condition. -/
import Derived.Test.YtimfdllgcnabjaaGreatFnLimitsFromProductsFnsB
set_option linter.unusedVariables false
set_option linter.unusedSimpArgs false
namespace Go.Bm
open Go.Proofs
set_option maxRecDepth 100000
set_option maxHeartbeats 1000000
abbrev CF:=@Int.mul_nonneg
abbrev G9:=@List.length_reverse
noncomputable section
abbrev rU:Type:=Int×Int×List Int
variable {F code e fr l r w:aA}{G:Int->List Int}{W m num rel t:bW}{a b f i j k k' n x y:Int}{c d:ah}{p q:rU}{s:aU}{α:Type}
def ocR(c:ah):ah:=if cq c=true then opR c else (0,[],[],[],[])
def y8(c:ah):Int:=if cq c=true then 0 else 1
def sr:Ct:=⟨[bO],[true],λx=>[],[(true,B3),(false,dP)],λx=>(ocR x.1,y8 x.1,()),true,none⟩
def af2:FuncId->Option Ct:=lkp [(37,pW),(38,wQ)]
def GO(c:ah)(K:ah×Int×Unit->Prop):Prop:=cnd (!cq c) (K ((0,[],[],[],[]),1,())) (ShapeP c/\K (opR c,0,()))
theorem Vf(c:ah)(hok:ab (okL sr.args (c,())))(hpre:ab (sr.pre (c,()))):GO c (λr=>r=sr.res (c,())):=by
 simp only[sr,okL,T.oks,T.ok,ap,ab,aL,az,aW]at hok hpre
 try dsimp only[T.den]at hok hpre
 unfold GO;have hres:(sr).res (c,())=(ocR c,y8 c,()):=rfl;rw[hres];refine aJ (λhx=>?_) (λhx=>?_)
 ·have h:¬cq c=true:=by simpa using hx
  unfold ocR y8;rw[aj h,aj h]
 ·have h:cq c=true:=by simpa using hx
  refine⟨gZ h,?_⟩;unfold ocR y8;rw[am h,am h]
theorem UZ:aN Tryz.prog 12 sr:=ctb (au GC (au MT aR)) aS 12 Tryz.f12 sr .n [] (λx K=>GO x.1 K) (λx h1 h2=>Vf x.1 h1 h2)
def Av:Ct:=⟨[cO],[false],λx=>[],[(false,cU)],λx=>(decide ((4096:Int)<x.1.length),()),false,none⟩
def IJ(code:aA)(K:d9):Prop:=K (decide (4096<(code.length:Int)),())
theorem Zq(code:aA):Mh Av (code,()) (IJ code):=by
 intro hok hpre;simp only[Av,okL,T.oks,T.ok,ap,ab,aL,az,aW]at hok hpre
 try dsimp only[T.den]at hok hpre
 unfold IJ;rfl
theorem YW:aN Tryz.prog 6 Av:=ctb aR aS 6 Tryz.f6 Av .n [] (λx K=>IJ x.1 K) (λx h1 h2=>Zq x.1 h1 h2)
def xX(a b:aA):Bool:=decide (a=b)
def oJ:Ct:=⟨[cy,cy],[false,false],λx=>[],[(false,cU)],λx=>(xX x.1 x.2.1,()),false,none⟩
def WW:Ann:=(.s .n (.s .n (.s (.s .n (.l tx [] [0,1] .n)) .n)))
def HG(a b:aA)(K:d9):Prop:=cnd ((a.length:Int) != (b.length:Int)) (K (false,())) (aK (S:=cH) (λc d=>let e:=c.1.1;Iq e<|cnd (decide (e<(a.length:Int))) (Ix e a.length<|Ix e b.length<|cnd (a.getD e.toNat 0 != b.getD e.toNat 0) (K (false,())) (Ik (e+1)<|d ((e+1,()),()))) (K (true,()))) ((0,()),()))
theorem XE(a b:aA)(hok:ab (okL oJ.args (a,b,())))(hpre:ab (oJ.pre (a,b,()))):HG a b (λr=>r=oJ.res (a,b,())):=by
 simp only[oJ,okL,T.oks,T.ok,ap,ab,aL,az,aW]at hok hpre
 try dsimp only[T.den]at hok hpre
 delta HG Ik Iq Ix
 dsimp -proj -eta only;have hla:a.length<=140737488355328:=by have:=hok.1.1;rw[ce]at this;omega
 clear hok;refine aJ (λhc=>?_) (λhc=>?_)
 ·simp only[oJ,xX,bE,az,gM];rw[eq_comm,gM];rintro rfl;simp at hc
 have hl:a.length=b.length:=by simp at hc;omega
 refine bt (λ(s:cH)=>0<=s.1.1/\s.1.1<=a.length/\a.take s.1.1.toNat=b.take s.1.1.toNat) (λ(s:cH)=>(a.length-s.1.1).toNat) ?_ ak;rintro⟨⟨i,_⟩,_⟩ next ⟨h0,h1,h2⟩ hn hin
 simp only at h0 h1 h2 hn⊢;refine aE (λhc=>?_) (λhc=>?_)
 ·have ha:=gE a 0 h0 hc;have hb:=gE b 0 h0 aa;refine⟨aa,aa,aa,aa,aJ (λhd=>?_) (λhd=>?_)⟩
  ·simp only[oJ,xX,bE,az];rw[eq_comm,gM];rintro rfl;simp at hd
  ·refine⟨aB,hn _ ⟨cw,cw,?_⟩ cw⟩;rw[fY]at hd;simp only[ha,hb,h2,hd]
 ·rw[lQ a aa,lQ b aa]at h2;simp[h2,oJ,xX]
theorem WP:aN Tryz.prog 10 oJ:=ctb aR aS 10 Tryz.f10 oJ WW [(6,8)] (λx K=>HG x.1 x.2.1 K) (λx h1 h2=>XE x.1 x.2.1 h1 h2)
def aY(s:aU):Prop:=ab (T.oks ke s)/\0<=s.2.1
theorem inKu:inK .u64 x<->0<=x/\x<=18446744073709551615:=by unfold inK;exact jQ
theorem inK8:inK .u8 x<->0<=x/\x<=255:=by unfold inK;exact jQ
theorem aes(a:Int):0<=tK .u64 a 16777215/\tK .u64 a 16777215<=16777215:=by
 have h:((BitVec.ofInt IntKind.u64.bits a &&& BitVec.ofInt IntKind.u64.bits 16777215).toNat:Nat)<=16777215:=by rw[BitVec.toNat_and];exact c8 Nat.and_le_right aH
 unfold tK;rw[AT (by rw[inKu];omega)];omega
theorem aet(h:inK .u64 a):inK .u64 (pu .u64 a 33):=by
 rw[inKu]at h⊢;have e:pu .u64 a 33=a / 8589934592:=by show a.fdiv 8589934592=_;rw[Int.fdiv_eq_ediv_of_nonneg _ aH]
 rw[e];omega
def kf:Wt:=⟨fC,[aC],[false],λx y=>[0<=x.2.1],λx _=>x,[(false,dP)],λ_ _=>dfR _,0⟩
def Ae(s:aU)(n:Int)(z:aU)(r0:Int):Prop:=0<=z.2.1/\0<=r0/\(1<=n->r0<n)/\(n<1->r0=0)
def Np:Ann:=(.s .n (.s .n (.s .n (.s .n (.s (.s .n (.j [(0,(.ad 1000000 [.de])),(5,(.d aC))] [(1000000,jE)] [1] .n)) .n)))))
def Dx(s:aU)(n:Int)(K:aU->(Int×Unit)->Prop):Prop:=let e:=IntKind.wrap .i64 (s.1.getD s.2.1.toNat 0);let c:=IntKind.wrap .u64 (IntKind.wrap .u64 (s.2.2*6364136223846793005)+1442695040888963407);let d:=IntKind.wrap .i64 (tK .u64 (pu .u64 c 33) 16777215);cnd (decide (n<1)) (K s (0,())) ((0:Int)<=33/\inK .u64 (pu .u64 c 33)/\bK (S:=Gy) (λa=>Iq a.1.2.1<|Oa cO a.2.1.1<|Iq a.2.1.2.1<|inK .u64 a.2.1.2.2->n≠0/\(Ik (Int.tmod a.1.2.1 n)<|K a.2.1 (Int.tmod a.1.2.1 n,()))) (λb=>cnd (decide (s.2.1<(s.1.length:Int))) (Ix s.2.1 s.1.length<|Ik (d+e)<|Ik (s.2.1+1)<|b (((),d+e,()),(s.1,s.2.1+1,c),())) (b (((),d,()),(s.1,s.2.1,c),()))))
theorem Yk(s:aU)(n:Int)(hok:ab (kf.o.strip.oks s))(hok2:ab (okL kf.as (n,())))(hpre:ab (kf.pre s (n,()))):Dx s n (λz r=>Ae s n z r.1):=by
 simp only[kf,O.strip,okL,T.oks,T.ok,ap,ab,aL,az,aW]at hok hok2 hpre
 try dsimp only[T.den]at hok
 try dsimp only[T.den]at hok2
 try dsimp only[T.den]at hpre
 delta Dx Ae Ik Iq Ix Oa
 dsimp -proj -eta only;obtain⟨⟨hc1,hc2⟩,ha,hh⟩:=hok;rw[ce]at hc1;generalize hx:IntKind.wrap .u64 (IntKind.wrap .u64 (s.2.2*6364136223846793005)+1442695040888963407)=x;have hxk:inK .u64 x:=by rw[←hx];exact xl _ _
 have hm:=aes (pu .u64 x 33);generalize tK .u64 (pu .u64 x 33) 16777215=y at hm;refine aE (λhn=>⟨hpre,dB _,λh=>aa,λ_=>rfl⟩) (λhn=>⟨aa,aet hxk,?_⟩);rw[AT (show inK .i64 y by rw[cF];(try dsimp only);omega)];refine bZ (λs1=>0<=s1.2.1.2.1/\0<=s1.1.2.1) (λs1 hs _ _ _ _=>?_) (λk hk=>aE (λhc=>?_) (λhc=>hk _ ⟨hpre,hm.1⟩))
 ·have h1:=Int.tmod_nonneg n hs.2;have h2:=Int.tmod_lt_of_pos s1.1.2.1 (show 0<n by omega);have hn2:=cF.1 hok2;exact⟨aa,aB,hs.1,h1,λ_=>h2,λh=>aa⟩
 ·have hb:=inK8.1 (hc2 _ (bX s.1 0 hpre hc));rw[AT (show inK .i64 (s.1.getD s.2.1.toNat 0) by rw[cF];(try dsimp only);omega)];exact⟨hpre,hc,aB,aB,hk _ ⟨an,an⟩⟩
theorem D1(s:aU)(n:Int):∃q:aU×(Int×Unit),ab (kf.o.strip.oks s)->ab (okL kf.as (n,()))->ab (kf.pre s (n,()))->Dx s n (λz r=>z=q.1/\r=q.2)/\ab (kf.o.strip.oks q.1)/\ab (okR kf.rt q.2)/\Ae s n q.1 q.2.1:=pkw aR aS 65 Tryz.f65 kf Np [(5,9),(6,12)] ke (λx y K=>Dx x y.1 K) (λx y z r=>Ae x y.1 z r.1) (λx y h1 h2 h3=>Yk x y.1 h1 h2 h3) s (n,())
def cI(s:aU)(n:Int):aU:=(D1 s n).choose.1
def c6(s:aU)(n:Int):Int:=(D1 s n).choose.2.1
theorem X8(s:aU)(n:Int)(hok:ab (kf.o.strip.oks s))(hok2:ab (okL kf.as (n,())))(hpre:ab (kf.pre s (n,()))):ab (kf.o.strip.oks (cI s n))/\ab (okR kf.rt (c6 s n,()))/\Ae s n (cI s n) (c6 s n):=((D1 s n).choose_spec hok hok2 hpre).2
def MV:Wt:=⟨fC,[aC],[false],λx y=>[0<=x.2.1],λx y=>(cI x y.1),[(false,dP)],λx y=>((c6 x y.1),()),0⟩
def oH:Ct:=g7 MV
theorem gq:aN Tryz.prog 65 oH:=wtb aR aS 65 Tryz.f65 MV Np [(5,9),(6,12)] (λx y h1 h2 h3=>Eq.mp (by kernel_rfl) ((D1 x y.1).choose_spec h1 h2 h3).1)
theorem eD(h:aY s)(hn:inK .i64 n):aY (cI s n)/\0<=c6 s n/\(1<=n->c6 s n<n)/\(n<1->c6 s n=0):=by obtain⟨h1,h2,h3,h4⟩:=X8 s n h.1 ⟨hn,trivial⟩ ⟨h.2,trivial⟩;exact⟨⟨h1,h3⟩,h4⟩
def nB:Ct:=⟨[cO],[false],λx=>[],[(false,fC)],λ_=>dfR _,true,none⟩
def Ai(code:aA)(r0:aU):Prop:=aY r0
def MX:Ann:=(.s .n (.s .n (.s (.s .n (.l [(3,(.ad 11 [.de])),(4,(.d aC))] [(11,jE)] [0] .n)) .n)))
def zV(code:aA)(K:aU×Unit->Prop):Prop:=aK (S:=Gy) (λa b=>let c:=a.1.2.1;Iq c<|Oa cO a.2.1.1<|Iq a.2.1.2.1<|inK .u64 a.2.1.2.2->cnd (decide (c<(code.length:Int))&&decide (c<4096)) (Ix c code.length<|Ik (c+1)<|b (((),c+1,()),(a.2.1.1,a.2.1.2.1,IntKind.wrap .u64 (IntKind.wrap .u64 (IntKind.wrap .u64 (a.2.1.2.2*1099511628211)+IntKind.wrap .u64 (code.getD c.toNat 0))+7)),())) (K (a.2.1,()))) (((),0,()),(code,0,IntKind.wrap .u64 (7019+IntKind.wrap .u64 (code.length:Int))),())
theorem Yl(code:aA)(hok:ab (okL nB.args (code,())))(hpre:ab (nB.pre (code,()))):zV code (λr=>Ai code r.1):=by
 simp only[nB,okL,T.oks,T.ok,ap,ab,aL,az,aW]at hok hpre
 try dsimp only[T.den]at hok hpre
 delta zV Ai Ik Iq Ix Oa
 dsimp -proj -eta only;have hl:=hok.1;rw[ce]at hl;refine bt (λ(s:Gy)=>0<=s.1.2.1/\s.1.2.1<=code.length/\s.2.1.1=code/\s.2.1.2.1=0/\inK .u64 s.2.1.2.2) (λ(s:Gy)=>(code.length-s.1.2.1).toNat) ?_ ⟨ak,ak,rfl,rfl,xl _ _⟩;rintro⟨⟨_,i,_⟩,⟨c,a,h⟩,_⟩ next ⟨h0,h1,h2,h3,h4⟩ hn _ _ _ _
 try dsimp only at h0 h1 h2 h3 h4 hn⊢
 subst h2;subst h3;refine aJ (λhc=>?_) (λ_=>⟨?_,dB _⟩)
 ·simp only[ao,db]at hc;exact⟨h0,hc.1,aB,hn _ ⟨an,an,rfl,rfl,xl _ _⟩ cw⟩
 ·simp only[T.oks,T.ok,ap,ab,az];exact⟨hok,aB,h4⟩
theorem In(code:aA):∃q:aU×Unit,ab (okL nB.args (code,()))->ab (nB.pre (code,()))->zV code (λr=>r=q)/\ab (okR nB.rt q)/\Ai code q.1:=pkb aR aS 32 Tryz.f32 nB MX [(5,13)] (λx K=>zV x.1 K) (λx r=>Ai x.1 r.1) (λx h1 h2=>Yl x.1 h1 h2) (code,())
def zI(code:aA):aU:=(In code).choose.1
theorem XV(code:aA)(hok:ab (okL nB.args (code,())))(hpre:ab (nB.pre (code,()))):ab (okR nB.rt (zI code,()))/\Ai code (zI code):=((In code).choose_spec hok hpre).2
def Ie:Ct:=⟨[cO],[false],λx=>[],[(false,fC)],λx=>((zI x.1),()),true,none⟩
theorem Nj:aN Tryz.prog 32 Ie:=ctb aR aS 32 Tryz.f32 Ie MX [(5,13)] (λx K=>zV x.1 K) (λx h1 h2=>((In x.1).choose_spec h1 h2).1)
theorem ads(h:ab ((T.sl (.int .u8)).oks code)):aY (zI code):=(XV code (by simpa only [nB,okL,fO,ab,az]using h) trivial).2
def j7:Wt:=⟨fC,[cy],[false],λx y=>[aY x,1<=y.1.length],λx _=>x,[(false,dP)],λ_ _=>dfR _,0⟩
def Aj(s:aU)(list:aA)(z:aU)(r0:Int):Prop:=aY z/\r0∈list
def Dv(s:aU)(list:aA)(K:aU->(Int×Unit)->Prop):Prop:=let a:=c6 s (list.length:Int);0<=s.2.1/\(Ix a list.length<|K (cI s (list.length:Int)) (list.getD a.toNat 0,()))
theorem XW(s:aU)(list:aA)(hok:ab (j7.o.strip.oks s))(hok2:ab (okL j7.as (list,())))(hpre:ab (j7.pre s (list,()))):Dv s list (λz r=>Aj s list z r.1):=by
 simp only[j7,O.strip,okL,T.oks,T.ok,ap,ab,aL,az,aW]at hok hok2 hpre
 try dsimp only[T.den]at hok
 try dsimp only[T.den]at hok2
 try dsimp only[T.den]at hpre
 delta Dv Aj Ix
 dsimp -proj -eta only;obtain⟨hs,hl⟩:=hpre;have h0:=hok2.1;rw[ce]at h0;obtain⟨h1,h2,h3,_⟩:=eD (n:=list.length) hs aB;have h4:=h3 aa;exact⟨hs.2,h2,h4,h1,bX list 0 h2 h4⟩
theorem D3(s:aU)(list:aA):∃q:aU×(Int×Unit),ab (j7.o.strip.oks s)->ab (okL j7.as (list,()))->ab (j7.pre s (list,()))->Dv s list (λz r=>z=q.1/\r=q.2)/\ab (j7.o.strip.oks q.1)/\ab (okR j7.rt q.2)/\Aj s list q.1 q.2.1:=pkw (au gq aR) aS 125 Tryz.f125 j7 .n [] ke (λx y K=>Dv x y.1 K) (λx y z r=>Aj x y.1 z r.1) (λx y h1 h2 h3=>XW x y.1 h1 h2 h3) s (list,())
def zO(s:aU)(list:aA):aU:=(D3 s list).choose.1
def zF(s:aU)(list:aA):Int:=(D3 s list).choose.2.1
theorem Yr(s:aU)(list:aA)(hok:ab (j7.o.strip.oks s))(hok2:ab (okL j7.as (list,())))(hpre:ab (j7.pre s (list,()))):ab (j7.o.strip.oks (zO s list))/\ab (okR j7.rt (zF s list,()))/\Aj s list (zO s list) (zF s list):=((D3 s list).choose_spec hok hok2 hpre).2
def Nx:Wt:=⟨fC,[cy],[false],λx y=>[aY x,1<=y.1.length],λx y=>(zO x y.1),[(false,dP)],λx y=>((zF x y.1),()),0⟩
def N7:Ct:=g7 Nx
theorem No:aN Tryz.prog 125 N7:=wtb (au gq aR) aS 125 Tryz.f125 Nx .n [] (λx y h1 h2 h3=>Eq.mp (by kernel_rfl) ((D3 x y.1).choose_spec h1 h2 h3).1)
theorem acx(h:aY s)(hl:ab ((T.sl aC).oks l))(hn:1<=l.length):aY (zO s l)/\zF s l∈l:=(Yr s l h.1 (by simpa only [j7,okL,fO,ab,az]using hl) ⟨h,hn,trivial⟩).2.2
theorem aej(h:l.length<=nb)(he:∀x∈l,inK .i64 x):ab ((T.sl aC).oks l):=by simp only[T.oks,T.ok,ap,ab,az];exact⟨h,he⟩
theorem ae1(h0:inK .i64 c.1)(h1:(T.sl aC).ok c.2.1)(h2:(T.sl aC).ok c.2.2.1)(h3:(T.sl aC).ok c.2.2.2.1)(h4:(T.sl cy).ok c.2.2.2.2):ab (T.oks bO c):=by simpa only [T.oks,T.ok,ap,ab,az]using⟨h0,h1,h2,h3,h4⟩
def kh:Wt:=⟨fC,[bO],[true],λx y=>[aY x,CgR 1000000000 y.1],λx _=>x,[(true,B3)],λ_ _=>dfR _,0⟩
def Ak(s:aU)(c:ah)(z:aU)(r0:ah):Prop:=aY z/\r0.2.1.length<=c.2.1.length+1
def Nm:Ann:=(.s .n (.s .n (.s .n (.s .n (.s (.s .n (.s .n (.j qZ vu [] (.s .n (.s .n (.j qZ vu [] (.s .n (.s .n (.j qZ vu [] (.s (.s .n (.j qZ B1 [] .n)) (.s (.s .n (.j Up B1 [5,6,16] (.s .n (.s .n (.j Up B1 [5,6,16] .n))))) (.j qZ vu [] (.s (.s .n (.j qZ B1 [] .n)) (.s .n (.j qZ vu [] (.s (.s .n (.j qZ B1 [] .n)) (.j [(0,(.ad 1000000 [.de])),(3,(.ad 3 [.de])),(4,(.ad 4 [.de])),(18,(.d .bool))] vu [6] (.s .n (.j qZ vu [] .n))))))))))))))))))) .n)))))
def agt:FuncId->Option Ct:=lkp [(65,oH),(125,N7),(124,wS)]
abbrev yQ:Type:=aU->(ah×Unit)->Prop
def Dy(s:aU)(c:ah)(K:yQ):Prop:=let a4:=c.2.1.length;let a9:=decide (0<(a4:Int));let a2:=c6 s (a4:Int);let a1:=cI s (a4:Int);let a5:=c6 a1 8;let a3:=cI a1 8;OwcR c/\0<=s.2.1/\0<=a1.2.1/\bK (S:=gR) (λa=>Oa cO a.2.1.1<|Iq a.2.1.2.1<|inK .u64 a.2.1.2.2->(Oc a.2.2.1<|Oc a.2.2.2.1<|K a.2.1 (a.2.2.1,()))) (λb=>cnd (a5==0) (Ik (c.1+1)<|aY a3/\1<=[c.1+1,-1,9].length/\b (((),(),(),()),zO a3 [c.1+1,-1,9],(zF a3 [c.1+1,-1,9],c.2),(0,[],[],[],[]),())) (bK (S:=gR) (λd=>Oa cO d.2.1.1<|Iq d.2.1.2.1<|inK .u64 d.2.1.2.2->(Oc d.2.2.1<|Oc d.2.2.2.1<|b (((),(),(),()),d.2.1,d.2.2.1,d.2.2.2.1,()))) (λe=>cnd (a5==1) (bg a4 [0].length 8/\e (((),(),(),()),a3,(c.1,c.2.1++[0],c.2.2),(0,[],[],[],[]),())) (bK (S:=gR) (λf=>Oa cO f.2.1.1<|Iq f.2.1.2.1<|inK .u64 f.2.1.2.2->(Oc f.2.2.1<|Oc f.2.2.2.1<|e (((),(),(),()),f.2.1,f.2.2.1,f.2.2.2.1,()))) (λg=>cnd (a5==2) (bK (S:=gR) (λh=>Oa cO h.2.1.1<|Iq h.2.1.2.1<|inK .u64 h.2.1.2.2->(Oc h.2.2.1<|Oc h.2.2.2.1<|g (((),(),(),()),h.2.1,h.2.2.1,h.2.2.2.1,()))) (λi=>cnd (decide (0<(c.2.2.2.1.length:Int))) (Ik ((a4:Int)+1)<|0<=a3.2.1/\(Ix 0 c.2.2.2.1.length<|i (((),(),(),()),cI a3 ((a4:Int)+1),(c.1,c.2.1,c.2.2.1,List.set c.2.2.2.1 (Int.toNat 0) (c6 a3 ((a4:Int)+1)),c.2.2.2.2),(0,[],[],[],[]),()))) (i (((),(),(),()),a3,c,(0,[],[],[],[]),())))) (bK (S:=yK) (λj=>let b1:=j.2.2.2.1;let b0:=j.2.1;let b3:=c6 b0 (a4:Int);let a7:=j.2.2.1;let b6:=a7.2.2;let b4:=b6.2.2.getD a2.toNat [];let a6:=cI b0 (a4:Int);let b2:=c6 a6 ((a4:Int)+1);Oa cO b0.1<|Iq b0.2.1<|inK .u64 b0.2.2->(Oc a7<|Oc b1<|bK (S:=gR) (λl=>Oa cO l.2.1.1<|Iq l.2.1.2.1<|inK .u64 l.2.1.2.2->(Oc l.2.2.1<|Oc l.2.2.2.1<|g (((),(),(),()),l.2.1,l.2.2.1,l.2.2.2.1,()))) (λm=>cnd j.1.2.2.2.1 (bK (S:=gR) (λn=>Oa cO n.2.1.1<|Iq n.2.1.2.1<|inK .u64 n.2.1.2.2->(Oc n.2.2.1<|Oc n.2.2.2.1<|m (((),(),(),()),n.2.1,n.2.2.1,n.2.2.2.1,()))) (λo=>cnd a9 (Ix a2 b6.2.2.length<|Ik ((a4:Int)+1)<|0<=b0.2.1/\0<=a6.2.1/\(Ik (b2-1)<|Ix b3 b4.length<|o (((),(),(),()),cI a6 ((a4:Int)+1),(a7.1,a7.2.1,b6.1,b6.2.1,List.set b6.2.2 a2.toNat (List.set b4 b3.toNat (b2-1))),b1,()))) (o (((),(),(),()),b0,a7,b1,())))) (bK (S:=gR) (λp=>Oa cO p.2.1.1<|Iq p.2.1.2.1<|inK .u64 p.2.1.2.2->(Oc p.2.2.1<|Oc p.2.2.2.1<|m (((),(),(),()),p.2.1,p.2.2.1,p.2.2.2.1,()))) (λq=>cnd (a5==6) (bK (S:=gR) (λr=>Oa cO r.2.1.1<|Iq r.2.1.2.1<|inK .u64 r.2.1.2.2->(Oc r.2.2.1<|Oc r.2.2.2.1<|q (((),(),(),()),r.2.1,r.2.2.1,r.2.2.2.1,()))) (λt=>cnd a9 (Ik (a7.1+1)<|0<=b0.2.1/\(Ix a2 b6.1.length<|t (((),(),(),()),cI b0 (a7.1+1),(a7.1,a7.2.1,List.set b6.1 a2.toNat (c6 b0 (a7.1+1)),b6.2),b1,()))) (t (((),(),(),()),b0,a7,b1,())))) (bK (S:=yK) (λu=>let a8:=u.2.2.1;let b5:=a8.2.2.2.2.getD a2.toNat [];Oa cO u.2.1.1<|Iq u.2.1.2.1<|inK .u64 u.2.1.2.2->(Oc a8<|Oc u.2.2.2.1<|bK (S:=gR) (λv=>Oa cO v.2.1.1<|Iq v.2.1.2.1<|inK .u64 v.2.1.2.2->(Oc v.2.2.1<|Oc v.2.2.2.1<|q (((),(),(),()),v.2.1,v.2.2.1,v.2.2.2.1,()))) (λw=>cnd u.1.2.2.2.1 (Ix a2 a8.2.2.2.2.length<|(0:Int)<=1/\1<=(b5.length:Int)/\(Ix a2 a8.2.2.2.2.length<|w (((),(),(),()),u.2.1,(a8.1,a8.2.1,a8.2.2.1,a8.2.2.2.1,List.set a8.2.2.2.2 a2.toNat (List.drop (Int.toNat 1) b5)),u.2.2.2.1,()))) (w (((),(),(),()),u.2.1,a8,u.2.2.2.1,()))))) (λx=>x (((),(),(),a9,()),b0,a7,b1,())))))))) (λy=>cnd (a5==3) (y (((),(),(),a5==3,()),a3,c,(0,[],[],[],[]),())) (bK (S:=yK) (λz=>Oa cO z.2.1.1<|Iq z.2.1.2.1<|inK .u64 z.2.1.2.2->(Oc z.2.2.1<|Oc z.2.2.2.1<|y (((),(),(),z.1.2.2.2.1,()),z.2.1,z.2.2.1,z.2.2.2.1,()))) (λa0=>cnd (a5==4) (a0 (((),(),(),a5==4,()),a3,c,(0,[],[],[],[]),())) (a0 (((),(),(),a5==5,()),a3,c,(0,[],[],[],[]),())))))))))))
theorem Yu(s:aU)(c:ah)(hok:ab (kh.o.strip.oks s))(hok2:ab (okL kh.as (c,())))(hpre:ab (kh.pre s (c,()))):Dy s c (λz r=>Ak s c z r.1):=by
 simp only[kh,O.strip,okL,T.oks,T.ok,ap,ab,aL,az,aW]at hok hok2 hpre
 try dsimp only[T.den]at hok
 try dsimp only[T.den]at hok2
 try dsimp only[T.den]at hpre
 delta Dy Ak Ik Iq Ix Oa Oc Ol Om
 dsimp -proj -eta only;obtain⟨hS,hC⟩:=hpre;have hm:=hC.m;have ho:=hC.ob;have ho0:=hC.ob0;have h1:=eD (n:=(c.2.1.length:Int)) hS aB;have h2:=eD (n:=8) h1.1 aB;refine⟨SP hC aa,hS.2,h1.1.2,?_⟩;have f0:=h1.2.1;have f1:=h1.2.2.1;generalize c6 s c.2.1.length=f at *;generalize cI s c.2.1.length=z at *;have hZ:=h2.1;generalize c6 z 8=w at *;generalize cI z 8=y at *;have n1:=eD (n:=(c.2.1.length:Int)+1) hZ aB;have n2:=eD (n:=(c.2.1.length:Int)) hZ aB;have n3:=eD (n:=(c.2.1.length:Int)+1) n2.1 aB;have n4:=eD (n:=c.1+1) hZ aB;have hrow:0<c.2.1.length->(c.2.2.2.2.getD f.toNat []).length=c.2.1.length:=λh=>hC.rowG f0 (f1 aa);have hlc:=hC.lc;have hlt:=hC.lt;refine bZ (λ(q:gR)=>aY q.2.1/\q.2.2.1.2.1.length<=c.2.1.length+1) (λq hq=>by intros;exact hq) (λk hk=>?_);refine aJ (λ_=>?_) (λ_=>?_)
 ·have hp:=acx (s:=y) (l:=[c.1+1,-1,9]) hZ (aej (by rw[ce];simp) (λx hx=>by simp only[cz,wh,or_false]at hx;rw[cF];omega)) ak;exact⟨aB,hZ,ak,hk _ ⟨hp.1,jT _⟩⟩
 refine bZ (λ(q:gR)=>aY q.2.1/\q.2.2.1.2.1.length<=c.2.1.length+1) (λq hq=>by intros;exact hk _ hq) (λk1 hk1=>?_);refine aJ (λ_=>?_) (λ_=>?_)
 ·exact⟨bQ (by simp only[aX,bh];omega),hk1 _ ⟨hZ,ak⟩⟩
 refine bZ (λ(q:gR)=>aY q.2.1/\q.2.2.1.2.1.length<=c.2.1.length+1) (λq hq=>by intros;exact hk1 _ hq) (λk2 hk2=>?_);refine aJ (λ_=>?_) (λ_=>?_)
 ·refine bZ (λ(q:gR)=>aY q.2.1/\q.2.2.1.2.1.length<=c.2.1.length+1) (λq hq=>by intros;exact hk2 _ hq) (λk3 hk3=>?_);refine aE (λhl=>?_) (λhl=>?_)
  ·exact⟨aB,hZ.2,dB _,hl,hk3 _ ⟨n1.1,jT _⟩⟩
  ·exact hk3 _ ⟨hZ,jT _⟩
 refine bZ (λ(q:yK)=>q.2.1=y/\q.2.2.1=c) ?_ ?_
 ·rintro⟨⟨_,_,_,b,_⟩,y2,c2,_⟩ ⟨e1,e2⟩;intros
  try dsimp only at e1 e2⊢
  subst e1;subst e2;refine bZ (λ(q:gR)=>aY q.2.1/\q.2.2.1.2.1.length<=c2.2.1.length+1) (λq hq=>by intros;exact hk2 _ hq) (λk3 hk3=>?_);refine aJ (λ_=>?_) (λ_=>?_)
  ·refine bZ (λ(q:gR)=>aY q.2.1/\q.2.2.1.2.1.length<=c2.2.1.length+1) (λq hq=>by intros;exact hk3 _ hq) (λk4 hk4=>?_);refine aE (λhl=>?_) (λhl=>?_)
   ·have hr:=hrow aa;have b3:=n3.2.2.1 aa;have b3a:=n3.2.1;have b2:=n2.2.2.1 aa;exact⟨f0,by have:=f1 aa;omega,aB,hZ.2,n2.1.2,aB,n2.2.1,by rw[hr];exact b2,hk4 _ ⟨n3.1,jT _⟩⟩
   ·exact hk4 _ ⟨hZ,jT _⟩
  refine bZ (λ(q:gR)=>aY q.2.1/\q.2.2.1.2.1.length<=c2.2.1.length+1) (λq hq=>by intros;exact hk3 _ hq) (λk4 hk4=>?_);refine aJ (λ_=>?_) (λ_=>?_)
  ·refine bZ (λ(q:gR)=>aY q.2.1/\q.2.2.1.2.1.length<=c2.2.1.length+1) (λq hq=>by intros;exact hk4 _ hq) (λk5 hk5=>?_);refine aE (λhl=>?_) (λhl=>?_)
   ·exact⟨aB,hZ.2,f0,by have:=f1 aa;omega,hk5 _ ⟨n4.1,jT _⟩⟩
   ·exact hk5 _ ⟨hZ,jT _⟩
  refine bZ (λ(q:yK)=>q.2.1=y2/\q.2.2.1=c2/\q.1.2.2.2.1=decide (0<(c2.2.1.length:Int))) ?_ (λk5 hk5=>hk5 _ ⟨rfl,rfl,rfl⟩);rintro⟨⟨_,_,_,b2,_⟩,y3,c3,_⟩ ⟨e3,e4,e5⟩;intros
  try dsimp only at e3 e4 e5⊢
  subst e3;subst e4;subst e5;refine bZ (λ(q:gR)=>aY q.2.1/\q.2.2.1.2.1.length<=c3.2.1.length+1) (λq hq=>by intros;exact hk4 _ hq) (λk5 hk5=>?_);refine aE (λhl=>?_) (λhl=>?_)
  ·have hr:=hrow aa;have:=f1 aa;exact⟨f0,aa,aa,by rw[hr];omega,f0,aa,hk5 _ ⟨hZ,jT _⟩⟩
  ·exact hk5 _ ⟨hZ,jT _⟩
 ·intro k3 hk3;refine aJ (λ_=>hk3 _ ⟨rfl,rfl⟩) (λ_=>?_);refine bZ (λ(q:yK)=>q.2.1=y/\q.2.2.1=c) (λq hq=>by intros;exact hk3 _ hq) (λk4 hk4=>?_);exact aJ (λ_=>hk4 _ ⟨rfl,rfl⟩) (λ_=>hk4 _ ⟨rfl,rfl⟩)
theorem Dp(s:aU)(c:ah):∃q:aU×(ah×Unit),ab (kh.o.strip.oks s)->ab (okL kh.as (c,()))->ab (kh.pre s (c,()))->Dy s c (λz r=>z=q.1/\r=q.2)/\ab (kh.o.strip.oks q.1)/\ab (okR kh.rt q.2)/\Ak s c q.1 q.2.1:=pkw (au gq (au No (au Ah aR))) aS 99 Tryz.f99 kh Nm [(18,40010),(21,40006),(6,9),(13,40004)] ke (λx y K=>Dy x y.1 K) (λx y z r=>Ak x y.1 z r.1) (λx y h1 h2 h3=>Yu x y.1 h1 h2 h3) s (c,())
def zR(s:aU)(c:ah):aU:=(Dp s c).choose.1
def zE(s:aU)(c:ah):ah:=(Dp s c).choose.2.1
theorem X9(s:aU)(c:ah)(hok:ab (kh.o.strip.oks s))(hok2:ab (okL kh.as (c,())))(hpre:ab (kh.pre s (c,()))):ab (kh.o.strip.oks (zR s c))/\ab (okR kh.rt (zE s c,()))/\Ak s c (zR s c) (zE s c):=((Dp s c).choose_spec hok hok2 hpre).2
def Nh:Wt:=⟨fC,[bO],[true],λx y=>[aY x,CgR 1000000000 y.1],λx y=>(zR x y.1),[(true,B3)],λx y=>((zE x y.1),()),0⟩
def N8:Ct:=g7 Nh
theorem Na:aN Tryz.prog 99 N8:=wtb (au gq (au No (au Ah aR))) aS 99 Tryz.f99 Nh Nm [(18,40010),(21,40006),(6,9),(13,40004)] (λx y h1 h2 h3=>Eq.mp (by kernel_rfl) ((Dp x y.1).choose_spec h1 h2 h3).1)
theorem aeu(h:aY s)(ho:ab (T.oks bO c))(hc:CgR 1000000000 c):aY (zR s c)/\(zE s c).2.1.length<=c.2.1.length+1:=(X9 s c h.1 ho ⟨h,hc,trivial⟩).2.2
structure TblR (t:bW):Prop where
 lo:1<=t.length
 hi:t.length<=8
 rw_:∀r∈t,r.length=t.length
 en:∀r∈t,∀x∈r,0<=x/\x<=8
 cl:∀r∈t,∀x∈r,x<t.length
theorem TblR.own(h:TblR t):OwnP t:=⟨by have:=h.hi;omega,λr hr=>by have:=h.rw_ r hr;have:=h.hi;omega⟩
theorem TblR.row(h:TblR t)(i0:0<=i)(i1:i<t.length):(t.getD i.toNat []).length=t.length:=h.rw_ _ (bX t [] i0 i1)
def jX:Wt:=⟨fC,[],[],λx y=>[aY x],λx _=>x,[(false,iU)],λ_ _=>dfR _,0⟩
def zC(s z:aU)(r0:bW):Prop:=aY z/\TblR r0
def CV(s:aU)(K:aU->(iK×Unit)->Prop):Prop:=let b:=c6 s 8;let a:=cI s 8;0<=s.2.1/\cnd (b==0) (K a ([[0]],())) (cnd (b==1) (K a ([[0,1],[1,0]],())) (cnd (b==2) (K a ([[0,1],[1,1]],())) (cnd (b==3) (K a ([[0,1,2],[1,2,0],[2,0,1]],())) (cnd (b==4) (K a ([[0,1,2],[1,1,2],[2,2,2]],())) (cnd (b==5) (K a ([[0,1,2],[1,1,2],[2,1,2]],())) (cnd (b==6) (K a ([[0,1,2,3],[1,0,2,3],[2,3,2,3],[3,2,2,3]],())) (K a ([[0,1,2],[1,2,2],[2,2,2]],()))))))))
theorem WY(s:aU)(hok:ab (jX.o.strip.oks s))(hok2:ab (okL jX.as (())))(hpre:ab (jX.pre s (()))):CV s (λz r=>zC s z r.1):=by
 simp only[jX,O.strip,okL,T.oks,T.ok,ap,ab,aL,az,aW]at hok hok2 hpre
 try dsimp only[T.den]at hok
 try dsimp only[T.den]at hok2
 try dsimp only[T.den]at hpre
 delta CV zC
 dsimp -proj -eta only;have h1:=eD (n:=8) hpre aB;refine⟨hpre.2,?_⟩
 repeat' first|exact⟨h1.1,⟨ak,ak,ak,aH,aH⟩⟩|refine aJ (λ_=>⟨h1.1,⟨ak,ak,ak,aH,aH⟩⟩) (λ_=>?_)
theorem CW(s:aU):∃q:aU×(iK×Unit),ab (jX.o.strip.oks s)->ab (okL jX.as (()))->ab (jX.pre s (()))->CV s (λz r=>z=q.1/\r=q.2)/\ab (jX.o.strip.oks q.1)/\ab (okR jX.rt q.2)/\zC s q.1 q.2.1:=pkw (au gq aR) aS 129 Tryz.f129 jX .n [] ke (λx y K=>CV x K) (λx y z r=>zC x z r.1) (λx y h1 h2 h3=>WY x h1 h2 h3) s (())
def wF(s:aU):aU:=(CW s).choose.1
def uu(s:aU):List (List Int):=(CW s).choose.2.1
theorem WK(s:aU)(hok:ab (jX.o.strip.oks s))(hok2:ab (okL jX.as (())))(hpre:ab (jX.pre s (()))):ab (jX.o.strip.oks (wF s))/\ab (okR jX.rt (uu s,()))/\zC s (wF s) (uu s):=((CW s).choose_spec hok hok2 hpre).2
def MB:Wt:=⟨fC,[],[],λx y=>[aY x],λx y=>(wF x),[(false,iU)],λx y=>((uu x),()),0⟩
def HB:Ct:=g7 MB
theorem CK:aN Tryz.prog 129 HB:=wtb (au gq aR) aS 129 Tryz.f129 MB .n [] (λx y h1 h2 h3=>Eq.mp (by kernel_rfl) ((CW x).choose_spec h1 h2 h3).1)
theorem Ek(h:aY s):aY (wF s)/\TblR (uu s)/\(T.sl cy).ok (uu s):=by obtain⟨_,h2,h3⟩:=WK s h.1 trivial ⟨h,trivial⟩;exact⟨h3.1,h3.2,h2.1⟩
structure RowP (n:Int) (m:bW):Prop where
 l:(m.length:Int)=n
 r:∀r∈m,(r.length:Int)=n
theorem RowP.row(h:RowP n m)(i0:0<=i)(i1:i<n):((m.getD i.toNat []).length:Int)=n:=h.r _ (bX m [] i0 (by have:=h.l;omega))
theorem RowP.set(h:RowP n m)(i0:0<=i)(i1:i<n){j:Nat}:RowP n (m.set i.toNat ((m.getD i.toNat []).set j x)):=
 ⟨by rw[gK];exact h.l,λr hr=>by
  rcases CC hr with hr|hr
  ·exact h.r r hr
  ·rw[hr,gK];exact h.row i0 i1⟩
def c7(rel:bW)(a b:Int):Int:=(rel.getD a.toNat []).getD b.toNat 0
structure PreP (rel:bW):Prop where
 r:∀i:Int,0<=i->i<rel.length->c7 rel i i=1
 t:∀i j k:Int,0<=i->i<rel.length->0<=j->j<rel.length->0<=k->k<rel.length->c7 rel i j=1->c7 rel j k=1->c7 rel i k=1
theorem R8(h:RowP n m)(i0:0<=i)(i1:i<n)(j0:0<=j)(j1:j<n)(a0:0<=a)(b0:0<=b):
  c7 (m.set i.toNat ((m.getD i.toNat []).set j.toNat x)) a b=if a=i/\b=j then x else c7 m a b:=by
 have hl:=h.l;have hr:=h.row i0 i1;unfold c7;simp only[br]at hr⊢;by_cases ha:a=i
 ·subst ha;rw[zq aa,gA];by_cases hb:b=j
  ·subst hb;rw[am ⟨rfl,rfl⟩,zq aa];rfl
  ·rw[aj (λh=>hb h.2),zr aa]
 ·rw[aj (λh=>ha h.1),zr aa]
def LF(n:Int)(m:bW):Prop:=∀a:Int,0<=a->a<n->c7 m a a=1
def TrK(n k:Int)(m:bW):Prop:=∀l a b:Int,0<=l->l<k->0<=a->a<n->0<=b->b<n->c7 m a l=1->c7 m l b=1->c7 m a b=1
def WarP(n k i j:Int)(m R:bW):Prop:=∀a b:Int,0<=a->a<n->0<=b->b<n->(c7 m a b=1<->c7 R a b=1\/((a<i\/a=i/\b<j)/\c7 R a k=1/\c7 R k b=1))
def WkP(n k:Int)(m:bW):Prop:=RowP n m/\LF n m/\TrK n k m
def WjP(n k i j:Int)(m:bW):Prop:=RowP n m/\∃R,LF n R/\TrK n k R/\WarP n k i j m R
theorem WkP.go(h:WkP n k m):WjP n k 0 0 m:=⟨h.1,m,h.2.1,h.2.2,λa b a0 a1 b0 b1=>⟨.inl,λq=>q.elim id λq=>aa⟩⟩
theorem WjP.rd{R:bW}(hR:LF n R)(k0:0<=k)(k1:k<n)(h:WarP n k i j m R)(a0:0<=a)(a1:a<n):(c7 m a k=1<->c7 R a k=1)/\(c7 m k a=1<->c7 R k a=1):=by have h1:=h a k a0 a1 k0 k1;have h2:=h k a k0 k1 a0 a1;exact⟨⟨λq=>(h1.1 q).elim id λq=>q.2.1,λq=>h1.2 (.inl q)⟩,⟨λq=>(h2.1 q).elim id λq=>q.2.2,λq=>h2.2 (.inl q)⟩⟩
theorem WjP.yes(h:WjP n k i j m)(k0:0<=k)(k1:k<n)(i0:0<=i)(i1:i<n)(j0:0<=j)(j1:j<n)(h1:c7 m i k=1)(h2:c7 m k j=1):WjP n k i (j+1) (m.set i.toNat ((m.getD i.toNat []).set j.toNat 1)):=by
 obtain⟨hm,R,hR,hT,hW⟩:=h;refine⟨hm.set i0 i1,R,hR,hT,λa b a0 a1 b0 b1=>?_⟩;have e1:=((WjP.rd hR k0 k1 hW i0 i1).1).1 h1;have e2:=((WjP.rd hR k0 k1 hW j0 j1).2).1 h2;rw[R8 hm i0 i1 j0 j1 a0 b0];by_cases hab:a=i/\b=j
 ·rw[am hab];obtain⟨rfl,rfl⟩:=hab;exact⟨λ_=>.inr ⟨.inr ⟨rfl,aa⟩,e1,e2⟩,λ_=>rfl⟩
 ·rw[aj hab,hW a b a0 a1 b0 b1];constructor
  ·rintro (q|⟨q,r⟩)
   ·exact .inl q
   ·exact .inr ⟨q.elim .inl λq=>.inr ⟨q.1,aa⟩,r⟩
  ·rintro (q|⟨q,r⟩)
   ·exact .inl q
   ·exact .inr ⟨q.elim .inl λq=>.inr ⟨q.1,by have:=λe=>hab ⟨q.1,e⟩;omega⟩,r⟩
theorem WjP.no(h:WjP n k i j m)(k0:0<=k)(k1:k<n)(i0:0<=i)(i1:i<n)(j0:0<=j)(j1:j<n)(hn:¬(c7 m i k=1/\c7 m k j=1)):WjP n k i (j+1) m:=by
 obtain⟨hm,R,hR,hT,hW⟩:=h;refine⟨hm,R,hR,hT,λa b a0 a1 b0 b1=>?_⟩;rw[hW a b a0 a1 b0 b1];constructor
 ·rintro (q|⟨q,r⟩)
  ·exact .inl q
  ·exact .inr ⟨q.elim .inl λq=>.inr ⟨q.1,aa⟩,r⟩
 ·rintro (q|⟨q,r⟩)
  ·exact .inl q
  ·rcases q with q|⟨q1,q2⟩
   ·exact .inr ⟨.inl q,r⟩
   ·by_cases e:b=j
    ·subst q1;subst e;exact absurd ⟨((WjP.rd hR k0 k1 hW i0 i1).1).2 r.1,((WjP.rd hR k0 k1 hW j0 j1).2).2 r.2⟩ hn
    ·exact .inr ⟨.inr ⟨q1,aa⟩,r⟩
theorem WjP.row(h:WjP n k i n m):WjP n k (i+1) 0 m:=by
 obtain⟨hm,R,hR,hT,hW⟩:=h;refine⟨hm,R,hR,hT,λa b a0 a1 b0 b1=>?_⟩;rw[hW a b a0 a1 b0 b1];have:(a<i\/a=i/\b<n)<->(a<i+1\/a=i+1/\b<0):=aa
 rw[this]
theorem WjP.fin(h:WjP n k n 0 m)(k0:0<=k)(k1:k<n):WkP n (k+1) m:=by
 obtain⟨hm,R,hR,hT,hW⟩:=h;have W:∀a b:Int,0<=a->a<n->0<=b->b<n->(c7 m a b=1<->c7 R a b=1\/(c7 R a k=1/\c7 R k b=1)):=λa b a0 a1 b0 b1=>by rw[hW a b a0 a1 b0 b1];exact⟨λq=>q.elim .inl λq=>.inr q.2,λq=>q.elim .inl λq=>.inr ⟨.inl a1,q⟩⟩
 refine⟨hm,λa a0 a1=>(W a a a0 a1 a0 a1).2 (.inl (hR a a0 a1)),λl a b l0 l1 a0 a1 b0 b1 h1 h2=>?_⟩;have l2:l<n:=aa
 have g1:=(W a l a0 a1 l0 l2).1 h1;have g2:=(W l b l0 l2 b0 b1).1 h2;by_cases hl:l=k
 ·subst hl;have e1:c7 R a l=1:=g1.elim id λq=>q.1;have e2:c7 R l b=1:=g2.elim id λq=>q.2;exact (W a b a0 a1 b0 b1).2 (.inr ⟨e1,e2⟩)
 ·have hlk:l<k:=aa
  rcases g1 with g1|⟨g1,g1'⟩
  ·rcases g2 with g2|⟨g2,g2'⟩
   ·exact (W a b a0 a1 b0 b1).2 (.inl (hT l a b l0 hlk a0 a1 b0 b1 g1 g2))
   ·exact (W a b a0 a1 b0 b1).2 (.inr ⟨hT l a k l0 hlk a0 a1 k0 k1 g1 g2,g2'⟩)
  ·rcases g2 with g2|⟨g2,g2'⟩
   ·exact (W a b a0 a1 b0 b1).2 (.inr ⟨g1,hT l k b l0 hlk k0 k1 b0 b1 g1' g2⟩)
   ·exact (W a b a0 a1 b0 b1).2 (.inr ⟨g1,g2'⟩)
theorem WkP.pre(h:WkP n k m)(hk:n<=k):PreP m:=by have hl:=h.1.l;exact⟨λi i0 i1=>h.2.1 i i0 aa,λi j k' i0 i1 j0 j1 k0 k1 h1 h2=>h.2.2 j i k' j0 aa i0 aa k0 aa h1 h2⟩
theorem WkP.set1(h:WkP n 0 m)(i0:0<=i)(i1:i<n)(j0:0<=j)(j1:j<n):WkP n 0 (m.set i.toNat ((m.getD i.toNat []).set j.toNat 1)):=⟨h.1.set i0 i1,λa a0 a1=>by rw[R8 h.1 i0 i1 j0 j1 a0 a0];split;rfl;exact h.2.1 a a0 a1,λl a b l0 l1=>aa⟩
def jc:Wt:=⟨fC,[aC],[false],λx y=>[aY x,0<=y.1,y.1<=8],λx _=>x,[(false,iU)],λ_ _=>dfR _,0⟩
def zB(s:aU)(n:Int)(z:aU)(r0:bW):Prop:=aY z/\RowP n r0/\PreP r0
def Mo:Ann:=(.s .n (.s .n (.s (.s .n (.l [(0,(.ad 1000000 [.de])),(5,(.ref 800005 [])),(6,(.d aC))] ym [1] (.s .n (.s (.s .n (.s .n (.s (.s .n (.l [(0,(.ad 1000000 [.de])),(5,(.ref 800005 [])),(7,(.ref 19 [])),(8,(.d aC))] [(1000000,jE),(800005,iU),(19,bS)] [1,6] .n)) .n))) .n)))) (.s (.s .n (.j Uh ym [1] .n)) (.s (.s .n (.l [(0,(.ad 1000000 [.de])),(5,(.ref 800005 [])),(9,(.d aC))] ym [1] (.s .n (.s (.s .n (.l [(0,(.ad 1000000 [.de])),(5,(.ref 800005 [])),(10,(.d aC))] ym [1,9] (.s .n (.s (.s .n (.l [(0,(.ad 1000000 [.de])),(5,(.ref 800005 [])),(11,(.d aC))] ym [1,9,10] (.s .n (.s (.s .n (.j Uh ym [1,9,10,11] .n)) .n)))) .n)))) .n)))) .n)))))
def CN(s:aU)(n:Int)(K:aU->(iK×Unit)->Prop):Prop:=let c2:=decide (1<n);let c0:=Int.toNat (n-1);let b7:=List.replicate n.toNat (0:Int);aK (S:=ig) (λa b=>let b6:=a.2.1;let c4:=c6 b6 n;let b3:=a.2.2.1;let a9:=a.1.2.2.1;let a4:=cI b6 4;let c3:=c6 a4 n;let a3:=b3.getD c0 [];Iq a9<|Oa cO b6.1<|Iq b6.2.1<|inK .u64 b6.2.2->(Om b3<|cnd (decide (a9<n)) (0<=n/\n<=n/\n<=((140737488355328:Nat):Int)/\n*((8:Nat):Int)<=((140737488355328:Nat):Int)/\(Ix a9 b7.length<|Ik (a9+1)<|aK (S:=Mb) (λc d=>let c1:=c.2.2.2.1;let b2:=c.1.2.2.2.1;Iq b2<|Oa cO c.2.1.1<|Iq c.2.1.2.1<|inK .u64 c.2.1.2.2->(Om c.2.2.1<|Ol c1<|cnd (decide (b2<n)) (0<=c.2.1.2.1/\(Ix b2 c1.length<|Ik (b2+1)<|d (((),(),(),b2+1,()),cI c.2.1 2,c.2.2.1,List.set c1 b2.toNat (c6 c.2.1 2),()))) (bg c.2.2.1.length [c1].length 24/\(Ik (a9+1)<|b (((),(),a9+1,()),c.2.1,c.2.2.1++[c1],()))))) (((),(),(),a9+1,()),b6,b3,List.set b7 a9.toNat 1,()))) (ifP (c2=true) (0<=b6.2.1/\bK (S:=Gx) (λe=>Oa cO e.2.1.1<|Iq e.2.1.2.1<|inK .u64 e.2.1.2.2->(Om e.2.2.1<|aK (S:=ig) (λf g=>let a5:=f.1.2.2.1;Iq a5<|Oa cO f.2.1.1<|Iq f.2.1.2.1<|inK .u64 f.2.1.2.2->(Om f.2.2.1<|cnd (decide (a5<n)) (aK (S:=ig) (λh i=>let b0:=h.1.2.2.1;Iq b0<|Oa cO h.2.1.1<|Iq h.2.1.2.1<|inK .u64 h.2.1.2.2->(Om h.2.2.1<|cnd (decide (b0<n)) (aK (S:=ig) (λj l=>let b8:=j.2.2.1;let a7:=j.1.2.2.1;let a1:=b8.getD b0.toNat [];let b4:=a1.getD a5.toNat 0;Iq a7<|Oa cO j.2.1.1<|Iq j.2.1.2.1<|inK .u64 j.2.1.2.2->(Om b8<|cnd (decide (a7<n)) (Ix b0 b8.length<|Ix a5 a1.length<|((b4==1)=true->a5<(b8.length:Int)/\0<=a5)/\((b4==1)=true->a7<((b8.getD a5.toNat []).length:Int)/\0<=a7)/\bK (S:=Gx) (λm=>Oa cO m.2.1.1<|Iq m.2.1.2.1<|inK .u64 m.2.1.2.2->(Om m.2.2.1<|Ik (a7+1)<|l (((),(),a7+1,()),m.2.1,m.2.2.1,()))) (λo=>cnd (b4==1&&(b8.getD a5.toNat []).getD a7.toNat 0==1) (Ix b0 b8.length<|Ix a7 a1.length<|o (((),(),()),j.2.1,List.set b8 b0.toNat (List.set a1 a7.toNat 1),())) (o (((),(),()),j.2.1,b8,())))) (Ik (b0+1)<|i (((),(),b0+1,()),j.2.1,b8,())))) (((),(),0,()),h.2.1,h.2.2.1,())) (Ik (a5+1)<|g (((),(),a5+1,()),h.2.1,h.2.2.1,())))) (((),(),0,()),f.2.1,f.2.2.1,())) (K f.2.1 (f.2.2.1,())))) (((),(),0,()),e.2.1,e.2.2.1,()))) (λp=>cnd (c2&&c6 b6 4==0) (Ik (n-1)<|Ix (n-1) b3.length<|0<=a4.2.1/\(Ix c3 a3.length<|p (((),(),()),cI a4 n,List.set b3 c0 (List.set a3 c3.toNat 1),()))) (p (((),(),()),a4,b3,())))) (bK (S:=Gx) (λq=>Oa cO q.2.1.1<|Iq q.2.1.2.1<|inK .u64 q.2.1.2.2->(Om q.2.2.1<|aK (S:=ig) (λr t=>let a6:=r.1.2.2.1;Iq a6<|Oa cO r.2.1.1<|Iq r.2.1.2.1<|inK .u64 r.2.1.2.2->(Om r.2.2.1<|cnd (decide (a6<n)) (aK (S:=ig) (λu v=>let b1:=u.1.2.2.1;Iq b1<|Oa cO u.2.1.1<|Iq u.2.1.2.1<|inK .u64 u.2.1.2.2->(Om u.2.2.1<|cnd (decide (b1<n)) (aK (S:=ig) (λw x=>let b9:=w.2.2.1;let a8:=w.1.2.2.1;let a2:=b9.getD b1.toNat [];let b5:=a2.getD a6.toNat 0;Iq a8<|Oa cO w.2.1.1<|Iq w.2.1.2.1<|inK .u64 w.2.1.2.2->(Om b9<|cnd (decide (a8<n)) (Ix b1 b9.length<|Ix a6 a2.length<|((b5==1)=true->a6<(b9.length:Int)/\0<=a6)/\((b5==1)=true->a8<((b9.getD a6.toNat []).length:Int)/\0<=a8)/\bK (S:=Gx) (λy=>Oa cO y.2.1.1<|Iq y.2.1.2.1<|inK .u64 y.2.1.2.2->(Om y.2.2.1<|Ik (a8+1)<|x (((),(),a8+1,()),y.2.1,y.2.2.1,()))) (λz=>cnd (b5==1&&(b9.getD a6.toNat []).getD a8.toNat 0==1) (Ix b1 b9.length<|Ix a8 a2.length<|z (((),(),()),w.2.1,List.set b9 b1.toNat (List.set a2 a8.toNat 1),())) (z (((),(),()),w.2.1,b9,())))) (Ik (b1+1)<|v (((),(),b1+1,()),w.2.1,b9,())))) (((),(),0,()),u.2.1,u.2.2.1,())) (Ik (a6+1)<|t (((),(),a6+1,()),u.2.1,u.2.2.1,())))) (((),(),0,()),r.2.1,r.2.2.1,())) (K r.2.1 (r.2.2.1,())))) (((),(),0,()),q.2.1,q.2.2.1,()))) (λa0=>cnd (c2&&(0:Int)==0) (Ik (n-1)<|Ix (n-1) b3.length<|0<=b6.2.1/\(Ix c4 a3.length<|a0 (((),(),()),cI b6 n,List.set b3 c0 (List.set a3 c4.toNat 1),()))) (a0 (((),(),()),b6,b3,()))))))) (((),(),0,()),s,[],())
theorem VT(s:aU)(n:Int)(hok:ab (jc.o.strip.oks s))(hok2:ab (okL jc.as (n,())))(hpre:ab (jc.pre s (n,()))):CN s n (λz r=>zB s n z r.1):=by
 simp only[jc,O.strip,okL,T.oks,T.ok,ap,ab,aL,az,aW]at hok hok2 hpre
 try dsimp only[T.den]at hok
 try dsimp only[T.den]at hok2
 try dsimp only[T.den]at hpre
 delta CN zB Ik Iq Ix Oa Ol Om
 dsimp -proj -eta only;obtain⟨hs0,hn1,hn8⟩:=hpre;refine bt (λ(s:ig)=>0<=s.1.2.2.1/\s.1.2.2.1<=n/\aY s.2.1/\(s.2.2.1.length:Int)=s.1.2.2.1/\(∀r∈s.2.2.1,(r.length:Int)=n)/\∀a:Int,0<=a->a<s.1.2.2.1->c7 s.2.2.1 a a=1) (λ(s:ig)=>(n-s.1.2.2.1).toNat) ?_ ⟨ak,by (try dsimp only);omega,hs0,ak,ak,λa a0 a1=>by dsimp only at a1;omega⟩;rintro⟨⟨_,_,i,_⟩,s1,m1,_⟩ next ⟨h0,h1,h2,h3,h4,h5⟩ hn
 intros
 try dsimp only at h0 h1 h2 h3 h4 h5 hn⊢
 refine aE (λhc=>?_) (λhc=>?_)
 ·refine⟨aa,dB _,aa,aa,h0,by rw[eA];omega,aB,?_⟩;refine bt (λ(s:Mb)=>i+1<=s.1.2.2.2.1/\s.1.2.2.2.1<=n/\aY s.2.1/\s.2.2.1=m1/\(s.2.2.2.1.length:Int)=n/\s.2.2.2.1.getD i.toNat 0=1) (λ(s:Mb)=>(n-s.1.2.2.2.1).toNat) ?_ ⟨by (try dsimp only);omega,by (try dsimp only);omega,h2,rfl,by (try dsimp only);rw[gK,eA];omega,by (try dsimp only);rw[br,zq (by rw[eA];omega)];rfl⟩;rintro⟨⟨_,_,_,j,_⟩,s2,m2,row,_⟩ next1 ⟨g0,g1,g2,g3,g4,g5⟩ hn1';intros
  try dsimp only at g0 g1 g2 g3 g4 g5 hn1'⊢
  subst g3;refine aE (λhd=>?_) (λhd=>?_)
  ·exact⟨g2.2,aa,aa,aB,hn1' _ ⟨an,an,(eD g2 aB).1,rfl,by rw[gK];exact g4,by dsimp only;rw[br,zr aa,←br];exact g5⟩ cw⟩
  ·refine⟨?_,aB,hn _ ⟨an,an,g2,?_,?_,?_⟩ cw⟩
   ·unfold bg;rw[ce];simp only[aX,bh];omega
   ·simp only[bn,aX,bh];omega
   ·intro r hr;rcases eS.1 hr with hr|hr
    ·exact h4 r hr
    ·simp only[cA]at hr;subst hr;exact g4
   ·intro a a0 a1
    try dsimp only at a1⊢
    unfold c7;by_cases ha:a<i
    ·have:=h5 a a0 ha;unfold c7 at this;rw[iw a0 aa];exact this
    ·have:a=i:=aa
     subst this;rw[lh aa,show (a-(m2.length:Int)).toNat=0 by omega];exact g5
 have hR:RowP n m1:=⟨aa,h4⟩;have hnx:=eD (n:=4) h2 aB;have lr:1<=n->((m1.getD (n-1).toNat []).length:Int)=n:=λh=>hR.row (i:=n-1) aa aa;have lm:=hR.l;have hK:WkP n 0 m1:=⟨hR,λa a0 a1=>h5 a a0 aa,λl a b l0 l1=>aa⟩;refine⟨λhg=>⟨h2.2,bZ (λs2=>aY s2.2.1/\WkP n 0 s2.2.2.1) (λs2 hs _ _ _ _=>?_) (λk hk=>aJ (λ_=>?_) (λ_=>hk _ ⟨hnx.1,hK⟩))⟩,λhg=>bZ (λs2=>aY s2.2.1/\WkP n 0 s2.2.2.1) (λs2 hs _ _ _ _=>?_) (λk hk=>aJ (λhx=>?_) (λ_=>hk _ ⟨h2,hK⟩))⟩
 ·skip
  refine bt (λ(s:ig)=>0<=s.1.2.2.1/\s.1.2.2.1<=n/\aY s.2.1/\WkP n s.1.2.2.1 s.2.2.1) (λ(s:ig)=>(n-s.1.2.2.1).toNat) ?_ ⟨ak,by (try dsimp only);omega,hs⟩;rintro⟨⟨_,_,k,_⟩,s3,m3,_⟩ next3 ⟨k0,k1,k2,k3⟩ hn3;intros
  try dsimp only at k0 k1 k2 k3 hn3⊢
  refine aE (λhkc=>?_) (λhkc=>⟨k2,k3.1,k3.pre aa⟩);refine bt (λ(s:ig)=>0<=s.1.2.2.1/\s.1.2.2.1<=n/\aY s.2.1/\WjP n k s.1.2.2.1 0 s.2.2.1) (λ(s:ig)=>(n-s.1.2.2.1).toNat) ?_ ⟨ak,by (try dsimp only);omega,k2,k3.go⟩;rintro⟨⟨_,_,i,_⟩,s4,m4,_⟩ next4 ⟨i0,i1,i2,i3⟩ hn4;intros
  try dsimp only at i0 i1 i2 i3 hn4⊢
  refine aE (λhic=>?_) (λhic=>⟨aB,hn3 _ ⟨an,an,i2,WjP.fin (by rw[show i=n by omega]at i3;exact i3) k0 hkc⟩ cw⟩);refine bt (λ(s:ig)=>0<=s.1.2.2.1/\s.1.2.2.1<=n/\aY s.2.1/\WjP n k i s.1.2.2.1 s.2.2.1) (λ(s:ig)=>(n-s.1.2.2.1).toNat) ?_ ⟨ak,by (try dsimp only);omega,i2,i3⟩;rintro⟨⟨_,_,j,_⟩,s5,m5,_⟩ next5 ⟨j0,j1,j2,j3⟩ hn5;intros
  try dsimp only at j0 j1 j2 j3 hn5⊢
  refine aE (λhjc=>?_) (λhjc=>⟨aB,hn4 _ ⟨an,an,j2,WjP.row (by rw[show j=n by omega]at j3;exact j3)⟩ cw⟩);have l1:=j3.1.l;have l2:=j3.1.row i0 hic;have l3:=j3.1.row k0 hkc;refine⟨i0,aa,k0,aa,λ_=>⟨aa,k0⟩,λ_=>⟨aa,j0⟩,bZ (λs6=>aY s6.2.1/\WjP n k i (j+1) s6.2.2.1) (λs6 hs6=>?_) (λkk hkk=>aJ (λhq=>⟨i0,aa,j0,aa,hkk _ ⟨j2,j3.yes k0 hkc i0 hic j0 hjc (by unfold c7;simp only[ao,bN]at hq;exact hq.1) (by unfold c7;simp only[ao,bN]at hq;exact hq.2)⟩⟩) (λhq=>hkk _ ⟨j2,j3.no k0 hkc i0 hic j0 hjc (λhh=>by unfold c7 at hh;rw[hh.1,hh.2]at hq;cases hq)⟩))⟩;intros;exact⟨aB,hn5 _ ⟨an,an,hs6⟩ cw⟩
 ·have hy:=eD (n:=n) hnx.1 aB;have hn1':1<=n:=by have:=ze hg;omega
  have hy2:=hy.2.2.1 hn1';have lr:=lr hn1';exact⟨aB,aa,aa,hnx.1.2,hy.2.1,aa,hk _ ⟨hy.1,hK.set1 aa aa aa aa⟩⟩
 ·skip
  refine bt (λ(s:ig)=>0<=s.1.2.2.1/\s.1.2.2.1<=n/\aY s.2.1/\WkP n s.1.2.2.1 s.2.2.1) (λ(s:ig)=>(n-s.1.2.2.1).toNat) ?_ ⟨ak,by (try dsimp only);omega,hs⟩;rintro⟨⟨_,_,k,_⟩,s3,m3,_⟩ next3 ⟨k0,k1,k2,k3⟩ hn3;intros
  try dsimp only at k0 k1 k2 k3 hn3⊢
  refine aE (λhkc=>?_) (λhkc=>⟨k2,k3.1,k3.pre aa⟩);refine bt (λ(s:ig)=>0<=s.1.2.2.1/\s.1.2.2.1<=n/\aY s.2.1/\WjP n k s.1.2.2.1 0 s.2.2.1) (λ(s:ig)=>(n-s.1.2.2.1).toNat) ?_ ⟨ak,by (try dsimp only);omega,k2,k3.go⟩;rintro⟨⟨_,_,i,_⟩,s4,m4,_⟩ next4 ⟨i0,i1,i2,i3⟩ hn4;intros
  try dsimp only at i0 i1 i2 i3 hn4⊢
  refine aE (λhic=>?_) (λhic=>⟨aB,hn3 _ ⟨an,an,i2,WjP.fin (by rw[show i=n by omega]at i3;exact i3) k0 hkc⟩ cw⟩);refine bt (λ(s:ig)=>0<=s.1.2.2.1/\s.1.2.2.1<=n/\aY s.2.1/\WjP n k i s.1.2.2.1 s.2.2.1) (λ(s:ig)=>(n-s.1.2.2.1).toNat) ?_ ⟨ak,by (try dsimp only);omega,i2,i3⟩;rintro⟨⟨_,_,j,_⟩,s5,m5,_⟩ next5 ⟨j0,j1,j2,j3⟩ hn5;intros
  try dsimp only at j0 j1 j2 j3 hn5⊢
  refine aE (λhjc=>?_) (λhjc=>⟨aB,hn4 _ ⟨an,an,j2,WjP.row (by rw[show j=n by omega]at j3;exact j3)⟩ cw⟩);have l1:=j3.1.l;have l2:=j3.1.row i0 hic;have l3:=j3.1.row k0 hkc;refine⟨i0,aa,k0,aa,λ_=>⟨aa,k0⟩,λ_=>⟨aa,j0⟩,bZ (λs6=>aY s6.2.1/\WjP n k i (j+1) s6.2.2.1) (λs6 hs6=>?_) (λkk hkk=>aJ (λhq=>⟨i0,aa,j0,aa,hkk _ ⟨j2,j3.yes k0 hkc i0 hic j0 hjc (by unfold c7;simp only[ao,bN]at hq;exact hq.1) (by unfold c7;simp only[ao,bN]at hq;exact hq.2)⟩⟩) (λhq=>hkk _ ⟨j2,j3.no k0 hkc i0 hic j0 hjc (λhh=>by unfold c7 at hh;rw[hh.1,hh.2]at hq;cases hq)⟩))⟩;intros;exact⟨aB,hn5 _ ⟨an,an,hs6⟩ cw⟩
 ·exfalso;simp only[ao]at hx;exact hg hx.1
theorem CM(s:aU)(n:Int):∃q:aU×(iK×Unit),ab (jc.o.strip.oks s)->ab (okL jc.as (n,()))->ab (jc.pre s (n,()))->CN s n (λz r=>z=q.1/\r=q.2)/\ab (jc.o.strip.oks q.1)/\ab (okR jc.rt q.2)/\zB s n q.1 q.2.1:=pkw (au gq aR) aS 141 Tryz.f141 jc Mo [(12,1600),(13,8000060007)] ke (λx y K=>CN x y.1 K) (λx y z r=>zB x y.1 z r.1) (λx y h1 h2 h3=>VT x y.1 h1 h2 h3) s (n,())
def wB(s:aU)(n:Int):aU:=(CM s n).choose.1
def m7(s:aU)(n:Int):List (List Int):=(CM s n).choose.2.1
theorem Mv(s:aU)(n:Int)(hok:ab (jc.o.strip.oks s))(hok2:ab (okL jc.as (n,())))(hpre:ab (jc.pre s (n,()))):ab (jc.o.strip.oks (wB s n))/\ab (okR jc.rt (m7 s n,()))/\zB s n (wB s n) (m7 s n):=((CM s n).choose_spec hok hok2 hpre).2
def Mq:Wt:=⟨fC,[aC],[false],λx y=>[aY x,0<=y.1,y.1<=8],λx y=>(wB x y.1),[(false,iU)],λx y=>((m7 x y.1),()),0⟩
def M6:Ct:=g7 Mq
theorem Mr:aN Tryz.prog 141 M6:=wtb (au gq aR) aS 141 Tryz.f141 Mq Mo [(12,1600),(13,8000060007)] (λx y h1 h2 h3=>Eq.mp (by kernel_rfl) ((CM x y.1).choose_spec h1 h2 h3).1)
theorem O2(h:aY s)(n1:0<=n)(n8:n<=8):aY (wB s n)/\RowP n (m7 s n)/\(T.sl cy).ok (m7 s n):=by obtain⟨_,h2,h3⟩:=Mv s n h.1 (by simp only[jc,okL,T.oks,ap,ab,az,cF];omega) ⟨h,n1,n8,trivial⟩;exact⟨h3.1,h3.2.1,h2.1⟩
theorem NL(h:aY s)(n1:0<=n)(n8:n<=8):PreP (m7 s n):=(Mv s n h.1 (by simp only[jc,okL,T.oks,ap,ab,az,cF];omega) ⟨h,n1,n8,trivial⟩).2.2.2.2
theorem J7(S:ShapeP c):TyP c:=⟨S.ob.1,S.lt,S.li,S.lc,S.row,λf f0 f1=>⟨(S.frm f0 f1).1,(S.frm f0 f1).2.1⟩,λf f0 f1=>(S.frm f0 f1).2.2,λx x0 x1=>by have h:=S.idn x0 x1;exact⟨h.1,h.2.1,S.idt x x0 x1⟩,λf g f0 f1 g0 g1 e=>S.yes f0 f1 g0 g1 e,λf g f0 f1 g0 g1 e=>S.no f0 f1 g0 g1 e⟩
theorem IZ(h:lP c=true):TyP c:=J7 (uJ.1 h)
theorem Eu(h:TblR t):TyP (lU t):=by
 have lo:=h.lo;have hl:(lU t).2.1.length=t.length:=eA;have hz:∀f:Int,0<=f->f<t.length->(List.replicate t.length (0:Int)).getD f.toNat 0=0:=λf f0 f1=>x9 f0 f1;have gr:∀f:Int,0<=f->f<t.length->(t.getD f.toNat []).length=t.length:=λf f0 f1=>h.row f0 f1;have gc:∀f g:Int,0<=f->f<t.length->0<=g->g<t.length->0<=aq (lU t) f g/\aq (lU t) f g<t.length:=λf g f0 f1 g0 g1=>by have hm:=bX t [] f0 f1;have hx:=bX (t.getD f.toNat []) 0 g0 (by rw[gr f f0 f1];exact g1);exact⟨(h.en _ hm _ hx).1,h.cl _ hm _ hx⟩
 refine⟨by show (0:Int)<=1;decide,by show (List.replicate t.length (0:Int)).length=_;rfl,rfl,by show t.length=_;rw[hl],λf f0 f1=>?_,λf f0 f1=>?_,λf f0 f1=>?_,λx x0 x1=>?_,λf g f0 f1 g0 g1 e=>?_,λf g f0 f1 g0 g1 e=>?_⟩
 ·rw[hl]at f1⊢;exact gr f f0 f1
 ·rw[hl]at f1;show 0<=(List.replicate t.length (0:Int)).getD f.toNat 0/\(List.replicate t.length (0:Int)).getD f.toNat 0<1;rw[hz f f0 f1];omega
 ·rw[hl]at f1;show 0<=(List.replicate t.length (0:Int)).getD f.toNat 0/\(List.replicate t.length (0:Int)).getD f.toNat 0<1;rw[hz f f0 f1];omega
 ·have hx:x=0:=by have:x<1:=x1;omega
  subst hx;rw[hl];show (0:Int)<=0/\(0:Int)<t.length/\(List.replicate t.length (0:Int)).getD (0:Int).toNat 0=0/\(List.replicate t.length (0:Int)).getD (0:Int).toNat 0=0;rw[hz 0 (dB _) aa];exact⟨dB _,aa,rfl,rfl⟩
 ·rw[hl]at f1 g1⊢;have:=gc f g f0 f1 g0 g1;refine⟨this.1,this.2,?_,?_⟩
  ·show (List.replicate t.length (0:Int)).getD _ 0=(List.replicate t.length (0:Int)).getD _ 0;rw[hz _ this.1 this.2,hz f f0 f1]
  ·show (List.replicate t.length (0:Int)).getD _ 0=(List.replicate t.length (0:Int)).getD _ 0;rw[hz _ this.1 this.2,hz g g0 g1]
 ·rw[hl]at f1 g1;exfalso;apply e;show (List.replicate t.length (0:Int)).getD _ 0=(List.replicate t.length (0:Int)).getD _ 0;rw[hz f f0 f1,hz g g0 g1]
def LL(rel:bW):Bool:=cu rel.length λi=>decide (c7 rel i i=1)&&cu rel.length λj=>cu rel.length λk=>!(decide (c7 rel i j=1)&&decide (c7 rel j k=1))||decide (c7 rel i k=1)
theorem x4(h:LL rel=true):PreP rel:=by simp only[LL,gX,ao,db]at h;refine⟨λi i0 i1=>(h i i0 i1).1,λi j k i0 i1 j0 j1 k0 k1 h1 h2=>?_⟩;have:=(h i i0 i1).2 j j0 j1 k k0 k1;rw[iP h1,iP h2]at this;simpa using this
def oF:Ct:=⟨[],[],λx=>[],[(true,fM)],λ_=>dfR _,false,none⟩
def zN(r0:ah):Prop:=CgR 5 r0/\TyP r0
def zP(K:ny):Prop:=K ((2,[0,1,0,0,1],[0,1,0,1,0],[0,1],[[0,-1,2,3,-1],[-1,1,-1,-1,4],[2,-1,2,3,-1],[-1,3,-1,-1,2],[4,-1,4,1,-1]]),())
theorem X0(hok:ab (okL oF.args (())))(hpre:ab (oF.pre (()))):zP (λr=>zN r.1):=by
 simp only[oF,okL,T.oks,T.ok,ap,ab,aL,az,aW]at hok hpre
 try dsimp only[T.den]at hok hpre
 unfold zP zN;exact⟨⟨aH,aH,aH,aH,aH,aH,aH,aH,aH,aH,aH⟩,IZ aH⟩
theorem HD:∃q:ah×Unit,ab (okL oF.args (()))->ab (oF.pre (()))->zP (λr=>r=q)/\ab (okR oF.rt q)/\zN q.1:=pkb aR aS 130 Tryz.f130 oF .n [] (λx K=>zP K) (λx r=>zN r.1) (λx h1 h2=>X0 h1 h2) (())
def wI:ah:=(HD).choose.1
theorem Nb(hok:ab (okL oF.args (())))(hpre:ab (oF.pre (()))):ab (okR oF.rt (wI,()))/\zN (wI):=((HD).choose_spec hok hpre).2
def Db:Ct:=⟨[],[],λx=>[],[(true,fM)],λx=>((wI),()),false,none⟩
theorem CY:aN Tryz.prog 130 Db:=ctb aR aS 130 Tryz.f130 Db .n [] (λx K=>zP K) (λx h1 h2=>((HD).choose_spec h1 h2).1)
def v8(f j g:Int):Nat:=if g<f then 0 else if g=f then j.toNat else 0
def iY(c:ah)(k f j:Int):List (List Int):=aG c.2.1.length λg=>c.2.2.2.2.getD g.toNat []++List.replicate (if g<f then k.toNat else v8 f j g) (-1)
def rH(m h:Int):Int:=if 0<=h then h+m else h
def py(c d:ah)(f:Int):List Int:=List.replicate c.2.1.length (-1)++aG d.2.1.length λg=>rH c.2.1.length ((d.2.2.2.2.getD f.toNat []).getD g.toNat 0)
def eE(l e:aA)(n:Nat)(p:Int):List Int:=l++aG n λy=>e.getD y.toNat 0+p
def eq(c d:ah):ah:=(c.1+d.1,(eE c.2.1 d.2.1 d.2.1.length c.1,(eE c.2.2.1 d.2.2.1 d.2.1.length c.1,(eE c.2.2.2.1 d.2.2.2.1 d.1.toNat c.2.1.length,iY c d.2.1.length c.2.1.length 0++aG d.2.1.length (py c d)))))
theorem oQ:(iY c k f j).length=c.2.1.length:=bA _
theorem JA{g:Int}(g0:0<=g)(g1:g<c.2.1.length):(iY c k f j).getD g.toNat []=c.2.2.2.2.getD g.toNat []++List.replicate (if g<f then k.toNat else v8 f j g) (-1):=dN g0 g1
theorem aak(f0:0<=f)(f1:f<c.2.1.length)(j0:0<=j):(iY c k f j).set f.toNat ((iY c k f j).getD f.toNat []++[-1])=iY c k f (j+1):=by
 rw[JA f0 f1];unfold iY;rw[uV f0 f1];refine ge λi i0 i1=>?_;by_cases e:i=f
 ·subst e;rw[am rfl,aj (dK _),aj (dK _)];unfold v8;rw[aj (dK _),am rfl,aj (dK _),am rfl,dk,show (j+1).toNat=j.toNat+1 from by omega,wy]
 ·rw[aj e];unfold v8;by_cases h:i<f
  ·rw[am h,am h]
  ·rw[aj h,aj h,aj e,aj h,aj h,aj e]
theorem ZN:iY c k f k=iY c k (f+1) 0:=by
 refine ge λi i0 i1=>?_;unfold v8;by_cases h:i<f
 ·rw[am h,am aa]
 ·by_cases e:i=f
  ·rw[aj h,aj h,am e,am aa]
  ·rw[aj h,aj h,aj e,aj aa,aj aa];split<;>rfl
theorem aey(h:c.2.2.2.2.length=c.2.1.length):iY c k 0 0=c.2.2.2.2:=by
 conv=>rhs;rw[←Jq [] c.2.2.2.2]
 unfold iY;rw[h];refine ge λi i0 i1=>?_;unfold v8;rw[aj aa,aj aa];have:(if i=0 then (0:Int).toNat else 0)=0:=by split<;>rfl
 rw[this];exact iM _
theorem kP{n:Nat}{p:Int}:(eE l e n p).length=l.length+n:=by unfold eE;rw[bn,bA]
theorem K8{p:Int}(h:0<=y):eE l e y.toNat p++[e.getD y.toNat 0+p]=eE l e (y+1).toNat p:=by unfold eE;rw[eY h,dk]
theorem Kb{n:Nat}{p:Int}(hl:∀x∈l,0<=x/\x<=a)(he:∀x∈e,0<=x/\x<=b)(hn:n<=e.length)(p0:0<=p)(p1:p<=a)(b0:0<=b):∀x∈eE l e n p,0<=x/\x<=a+b:=by
 intro x hx;rcases eS.1 hx with h|h
 ·have:=hl x h;omega
 ·obtain⟨i,i0,i1,rfl⟩:=fN.1 h;have:=he _ (bX e 0 i0 aa);omega
theorem adi(h:CgR a c)(g:CgR b d):CgR (a+b) (eq c d):=by
 have a1:=h.b1;have a2:=h.ob0;have a3:=h.ob;have a4:=h.m;have a5:=h.lt;have a6:=h.li;have a7:=h.lc;have b1:=g.b1;have b2:=g.ob0;have b3:=g.ob;have b4:=g.m;have b5:=g.lt;have b6:=g.li;have b7:=g.lc;refine⟨aa,by show 0<=c.1+d.1;omega,by show c.1+d.1<=a+b;omega,?_,?_,?_,?_,Kb h.fr g.fr (bd _) a2 a3 aa,Kb h.to g.to aa a2 a3 aa,Kb h.id g.id aa aa aa aa,?_⟩
 ·show ((eE _ _ _ _).length:Int)<=a+b;rw[kP];omega
 ·show (eE _ _ _ _).length=(eE _ _ _ _).length;rw[kP,kP];omega
 ·show ((eE _ _ _ _).length:Int)=c.1+d.1;rw[kP];omega
 ·show (_++_:List (List Int)).length=(eE _ _ _ _).length;rw[kP,bn,oQ,bA]
 ·intro r hr;have hl:(eq c d).2.1.length=c.2.1.length+d.2.1.length:=kP;rw[hl];rcases eS.1 hr with hr|hr
  ·obtain⟨i,i0,i1,rfl⟩:=fN.1 hr;have hh:=h.row _ (bX c.2.2.2.2 [] i0 aa);rw[am i1];refine⟨by rw[bn,eA,hh.1,cQ],λx hx=>?_⟩;rcases eS.1 hx with hx|hx
   ·have:=hh.2 x hx;omega
   ·rw[w6 hx];omega
  ·obtain⟨i,i0,i1,rfl⟩:=fN.1 hr;have hh:=g.row _ (bX d.2.2.2.2 [] i0 aa);unfold py;refine⟨by rw[bn,eA,bA],λx hx=>?_⟩;rcases eS.1 hx with hx|hx
   ·rw[w6 hx];omega
   ·obtain⟨j,j0,j1,rfl⟩:=fN.1 hx;have:=hh.2 _ (bX _ 0 j0 (by rw[hh.1];exact j1));unfold rH;split<;>omega
def j9:Ct:=⟨[bO,bO],[true,true],λx=>[CgR 1000000000000 x.1,CgR 1000000000000 x.2.1],[(true,fM)],λ_=>dfR _,false,none⟩
def Ao(c d r0:ah):Prop:=r0=eq c d/\∀a b:Int,CgR a c->CgR b d->CgR (a+b) r0
def N5:Ann:=(.s .n (.s .n (.s .n (.s .n (.s (.s .n (.l Ud t7 [3,5,6] .n)) (.s (.s .n (.l Tz t7 [3,5,6] (.s .n (.s (.s .n (.l TU t7 [3,5,6,9] .n)) .n)))) (.s (.s .n (.l T8 t7 [3,5,6] (.s .n (.s (.s .n (.s .n (.s .n (.s (.s .n (.l Ul yg [3,5,6,11] .n)) (.s (.s .n (.l Tx yg [3,5,6,11] (.s .n (.s (.s .n (.s (.s .n (.j TF yg [3,5,6,11,14] .n)) .n)) .n)))) .n))))) .n)))) .n)))))))
def An(c d:ah)(K:ny):Prop:=let a6:=d.2.1.length;let x:=c.2.1.length;OwcR c/\(Ik (c.1+d.1)<|aK (S:=(dD×gh)) (λa b=>let a4:=a.2.2.1;let a3:=a.1.2.2.1;let w:=d.2.2.2.1.getD a3.toNat 0;Iq a3<|Oc a.2.1<|Oc a4<|cnd (decide (a3<d.1)) (Ix a3 d.2.2.2.1.length<|Ik (w+(x:Int))<|bg a4.2.2.2.1.length [w+(x:Int)].length 8/\(Ik (a3+1)<|b (((),(),a3+1,()),a.2.1,(a4.1,a4.2.1,a4.2.2.1,a4.2.2.2.1++[w+(x:Int)],a4.2.2.2.2),()))) (aK (S:=(dD×gh)) (λe f=>let v:=e.1.2.2.1;Iq v<|Oc e.2.1<|Oc e.2.2.1<|cnd (decide (v<(e.2.2.1.2.2.2.2.length:Int))) (aK (S:=(dD×gh)) (λg h=>let b2:=g.1.2.2.1;let a0:=g.2.2.1;let b1:=om a0.2.2.2.2 v.toNat;let a9:=a0.2.2.2.2.getD v.toNat [];let t:=List.set b1 v.toNat (Option.some (a9++[-1]));Iq b2<|Oc g.2.1<|Oc a0<|cnd (decide (b2<(a6:Int))) (Ix v a0.2.2.2.2.length<|bg a9.length [-1].length 8/\(Ix v b1.length<|vC t=true/\(Ik (b2+1)<|h (((),(),b2+1,()),g.2.1,(a0.1,a0.2.1,a0.2.2.1,a0.2.2.2.1,pv [] t),())))) (Ik (v+1)<|f (((),(),v+1,()),g.2.1,a0,()))) (((),(),0,()),e.2.1,e.2.2.1,())) (aK (S:=(dD×gh)) (λi j=>let a5:=i.2.2.1;let u:=i.1.2.2.1;let b0:=d.2.2.2.2.getD u.toNat [];let a2:=d.2.1.getD u.toNat 0;let z:=d.2.2.1.getD u.toNat 0;Iq u<|Oc i.2.1<|Oc a5<|cnd (decide (u<(a6:Int))) (Ix u a6<|Ik (a2+c.1)<|bg a5.2.1.length [a2+c.1].length 8/\(Ix u d.2.2.1.length<|Ik (z+c.1)<|bg a5.2.2.1.length [z+c.1].length 8/\aK (S:=eG) (λl m=>let b3:=l.2.2.2.1;let a8:=l.1.2.2.2.1;Iq a8<|Oc l.2.1<|Oc l.2.2.1<|Ol b3<|cnd (decide (a8<(x:Int))) (bg b3.length [-1].length 8/\(Ik (a8+1)<|m (((),(),(),a8+1,()),l.2.1,l.2.2.1,b3++[-1],()))) (aK (S:=eG) (λn o=>let a7:=n.2.2.2.1;let a1:=n.2.2.1;let y:=n.1.2.2.2.1;let r:=b0.getD y.toNat 0;Iq y<|Oc n.2.1<|Oc a1<|Ol a7<|cnd (decide (y<(a6:Int))) (Ix u d.2.2.2.2.length<|Ix y b0.length<|bK (S:=eG) (λp=>Iq p.1.2.2.2.1<|Oc p.2.1<|Oc p.2.2.1<|Ol p.2.2.2.1<|bg p.2.2.2.1.length [p.1.2.2.2.1].length 8/\(Ik (y+1)<|o (((),(),(),y+1,()),p.2.1,p.2.2.1,p.2.2.2.1++[p.1.2.2.2.1],()))) (λq=>cnd (decide (0<=r)) (Ik (r+(x:Int))<|q (((),(),(),r+(x:Int),()),n.2.1,a1,a7,())) (q (((),(),(),r,()),n.2.1,a1,a7,())))) (bg a1.2.2.2.2.length [a7].length 24/\(Ik (u+1)<|j (((),(),u+1,()),n.2.1,(a1.1,a1.2.1,a1.2.2.1,a1.2.2.2.1,a1.2.2.2.2++[a7]),())))) (((),(),(),0,()),l.2.1,l.2.2.1,b3,()))) (((),(),(),0,()),i.2.1,(a5.1,a5.2.1++[a2+c.1],a5.2.2.1++[z+c.1],a5.2.2.2),[],()))) (K (a5,()))) (((),(),0,()),e.2.1,e.2.2.1,()))) (((),(),0,()),a.2.1,a4,()))) (((),(),0,()),(0,[],[],[],[]),(c.1+d.1,c.2),()))
theorem Yz(c d:ah)(hok:ab (okL j9.args (c,d,())))(hpre:ab (j9.pre (c,d,()))):An c d (λr=>Ao c d r.1):=by
 simp only[j9,okL,T.oks,T.ok,ap,ab,aL,az,aW]at hok hpre
 try dsimp only[T.den]at hok hpre
 delta An Ao Ik Iq Ix Oc Ol Om
 dsimp -proj -eta only;obtain⟨Hc,Hd⟩:=hpre;have a2:=Hc.ob0;have a3:=Hc.ob;have a4:=Hc.m;have a5:=Hc.lt;have a6:=Hc.li;have a7:=Hc.lc;have b2:=Hd.ob0;have b3:=Hd.ob;have b4:=Hd.m;have b5:=Hd.lt;have b6:=Hd.li;have b7:=Hd.lc;clear hok;refine⟨SP Hc (dB _),aB,?_⟩;refine bt (λ(s:eH)=>0<=s.1.2.2.1/\s.1.2.2.1<=d.1/\s.2.2.1=(c.1+d.1,(c.2.1,(c.2.2.1,(eE c.2.2.2.1 d.2.2.2.1 s.1.2.2.1.toNat c.2.1.length,c.2.2.2.2))))) (λ(s:eH)=>(d.1-s.1.2.2.1).toNat) ?_ ⟨ak,b2,by simp[eE,aG]⟩;rintro⟨⟨_,_,y,_⟩,o1,out,_⟩ next ⟨y0,y1,hq⟩ hnx _ _ _ _ _ _ _ _ _ _ _
 try dsimp only at y0 y1 hq hnx⊢
 subst hq;refine aE (λhy=>?_) (λhy=>?_)
 ·have:=Hd.idG y0 hy;exact⟨y0,aa,aB,bQ (by dsimp only;rw[kP];simp only[aX,bh];omega),aB,hnx _ ⟨cw,cw,by dsimp only;rw[K8 y0]⟩ cw⟩
 have ey:y=d.1:=aa
 subst ey;refine bt (λ(s:eH)=>0<=s.1.2.2.1/\s.1.2.2.1<=c.2.1.length/\s.2.2.1=(c.1+d.1,(c.2.1,(c.2.2.1,(eE c.2.2.2.1 d.2.2.2.1 d.1.toNat c.2.1.length,iY c d.2.1.length s.1.2.2.1 0))))) (λ(s:eH)=>(c.2.1.length-s.1.2.2.1).toNat) ?_ ⟨ak,ak,by dsimp only;rw[aey a7]⟩;rintro⟨⟨_,_,f,_⟩,o2,out,_⟩ next1 ⟨f0,f1,hq⟩ hn1 _ _ _ _ _ _ _ _ _ _ _
 try dsimp only at f0 f1 hq hn1⊢
 subst hq;refine aE (λhf=>?_) (λhf=>?_)
 ·rw[oQ]at hf;refine bt (λ(s:eH)=>0<=s.1.2.2.1/\s.1.2.2.1<=d.2.1.length/\s.2.2.1=(c.1+d.1,(c.2.1,(c.2.2.1,(eE c.2.2.2.1 d.2.2.2.1 d.1.toNat c.2.1.length,iY c d.2.1.length f s.1.2.2.1))))) (λ(s:eH)=>(d.2.1.length-s.1.2.2.1).toNat) ?_ ⟨ak,ak,rfl⟩;rintro⟨⟨_,_,g,_⟩,o3,out,_⟩ next2 ⟨g0,g1,hq⟩ hn2 _ _ _ _ _ _ _ _ _ _ _
  try dsimp only at g0 g1 hq hn2⊢
  subst hq;refine aE (λhg=>?_) (λhg=>?_)
  ·have hr:=Hc.rowG f0 hf;have hl:((iY c d.2.1.length f g).getD f.toNat []).length=c.2.1.length+g.toNat:=by rw[JA f0 hf,bn,eA,hr,aj (dK _),v8,aj (dK _),am rfl]
   try dsimp only
   refine⟨f0,by rw[oQ];exact hf,bQ (by rw[hl];simp only[aX,bh];omega),f0,by rw[acl,oQ];exact hf,abb,aB,hn2 _ ⟨cw,cw,?_⟩ cw⟩
   try dsimp only
   rw[acb,aak f0 hf g0]
  ·have eg:g=d.2.1.length:=aa
   subst eg;exact⟨aB,hn1 _ ⟨cw,cw,by dsimp only;rw[ZN]⟩ cw⟩
 rw[oQ]at hf;have ef:f=c.2.1.length:=aa
 subst ef;refine bt (λ(s:eH)=>0<=s.1.2.2.1/\s.1.2.2.1<=d.2.1.length/\s.2.2.1=(c.1+d.1,(eE c.2.1 d.2.1 s.1.2.2.1.toNat c.1,(eE c.2.2.1 d.2.2.1 s.1.2.2.1.toNat c.1,(eE c.2.2.2.1 d.2.2.2.1 d.1.toNat c.2.1.length,iY c d.2.1.length c.2.1.length 0++aG s.1.2.2.1.toNat (py c d)))))) (λ(s:eH)=>(d.2.1.length-s.1.2.2.1).toNat) ?_ ⟨ak,ak,by simp[eE,aG]⟩;rintro⟨⟨_,_,f,_⟩,o3,out,_⟩ next2 ⟨f0,f1,hq⟩ hn2 _ _ _ _ _ _ _ _ _ _ _
 try dsimp only at f0 f1 hq hn2⊢
 subst hq;refine aE (λhf=>?_) (λhf=>?_)
 ·have h1:=Hd.frG f0 hf;have h2:=Hd.toG f0 hf;have h3:=Hd.rowG f0 hf;refine⟨f0,hf,aB,bQ (by dsimp only;rw[kP];simp only[aX,bh];omega),f0,aa,aB,bQ (by dsimp only;rw[kP];simp only[aX,bh];omega),?_⟩;refine bt (λ(s:eG)=>0<=s.1.2.2.2.1/\s.1.2.2.2.1<=c.2.1.length/\s.2.2.1=(c.1+d.1,(eE c.2.1 d.2.1 (f+1).toNat c.1,(eE c.2.2.1 d.2.2.1 (f+1).toNat c.1,(eE c.2.2.2.1 d.2.2.2.1 d.1.toNat c.2.1.length,iY c d.2.1.length c.2.1.length 0++aG f.toNat (py c d)))))/\s.2.2.2.1=List.replicate s.1.2.2.2.1.toNat (-1)) (λ(s:eG)=>(c.2.1.length-s.1.2.2.2.1).toNat) ?_ ⟨ak,ak,by dsimp only;rw[K8 f0,K8 f0],rfl⟩;rintro⟨⟨_,_,_,g,_⟩,o4,out,row,_⟩ next3 ⟨g0,g1,hq,hr⟩ hn3 _ _ _ _ _ _ _ _ _ _ _ _
  try dsimp only at g0 g1 hq hr hn3⊢
  subst hr;refine aE (λhg=>?_) (λhg=>?_)
  ·exact⟨bQ (by rw[eA];simp only[aX,bh];omega),aB,hn3 _ ⟨cw,cw,hq,by dsimp only;rw[show (g+1).toNat=g.toNat+1 from by omega,wy]⟩ cw⟩
  have eg:g=c.2.1.length:=aa
  subst eg;refine bt (λ(s:eG)=>0<=s.1.2.2.2.1/\s.1.2.2.2.1<=d.2.1.length/\s.2.2.1=out/\s.2.2.2.1=List.replicate c.2.1.length (-1)++aG s.1.2.2.2.1.toNat λg=>rH c.2.1.length ((d.2.2.2.2.getD f.toNat []).getD g.toNat 0)) (λ(s:eG)=>(d.2.1.length-s.1.2.2.2.1).toNat) ?_ ⟨ak,ak,rfl,by simp[aG]⟩;rintro⟨⟨_,_,_,g,_⟩,o5,out2,row,_⟩ next4 ⟨g0,g1,hq2,hr⟩ hn4 _ _ _ _ _ _ _ _ _ _ _ _
  try dsimp only at g0 g1 hq2 hr hn4⊢
  subst hr;subst hq2;refine aE (λhg=>?_) (λhg=>?_)
  ·have hc:=Hd.cel f0 hf g0 hg;refine⟨f0,aa,g0,aa,bZ (λ(q:eG)=>q.1.2.2.2.1=rH c.2.1.length ((d.2.2.2.2.getD f.toNat []).getD g.toNat 0)/\q.2.2.1=out2/\q.2.2.2.1=List.replicate c.2.1.length (-1)++aG g.toNat λg=>rH c.2.1.length ((d.2.2.2.2.getD f.toNat []).getD g.toNat 0)) ?_ ?_⟩
   ·rintro⟨⟨_,_,_,h,_⟩,o6,out3,row,_⟩ ⟨q1,q2,q3⟩ _ _ _ _ _ _ _ _ _ _ _ _
    try dsimp only at q1 q2 q3⊢
    subst q1;subst q2;subst q3;refine⟨bQ (by rw[bn,eA,bA];simp only[aX,bh];omega),aB,hn4 _ ⟨cw,cw,rfl,?_⟩ cw⟩
    try dsimp only
    rw[eY g0,dk]
   ·intro k hk;refine aE (λhh=>⟨aB,hk _ ⟨?_,rfl,rfl⟩⟩) (λhh=>hk _ ⟨?_,rfl,rfl⟩)
    ·try dsimp only;unfold rH;rw[am hh]
    ·try dsimp only;unfold rH;rw[aj hh]
  ·have eg:g=d.2.1.length:=aa
   subst eg;subst hq
   try dsimp only
   refine⟨bQ (by rw[bn,oQ,bA];simp only[aX,bh];omega),aB,hn2 _ ⟨cw,cw,?_⟩ cw⟩
   try dsimp only
   rw[eY f0,←dk];rfl
 have ef:f=d.2.1.length:=aa
 subst ef;exact⟨rfl,λa b h1 h2=>adi h1 h2⟩
theorem I8(c d:ah):∃q:ah×Unit,ab (okL j9.args (c,d,()))->ab (j9.pre (c,d,()))->An c d (λr=>r=q)/\ab (okR j9.rt q)/\Ao c d q.1:=pkb (au Ah aR) aS 121 Tryz.f121 j9 N5 [(1,6),(18,510),(19,510),(7,510),(14,85008)] (λx K=>An x.1 x.2.1 K) (λx r=>Ao x.1 x.2.1 r.1) (λx h1 h2=>Yz x.1 x.2.1 h1 h2) (c,d,())
def nA(c d:ah):ah:=(I8 c d).choose.1
theorem NH(c d:ah)(hok:ab (okL j9.args (c,d,())))(hpre:ab (j9.pre (c,d,()))):ab (okR j9.rt (nA c d,()))/\Ao c d (nA c d):=((I8 c d).choose_spec hok hpre).2
def I0:Ct:=⟨[bO,bO],[true,true],λx=>[CgR 1000000000000 x.1,CgR 1000000000000 x.2.1],[(true,fM)],λx=>((nA x.1 x.2.1),()),false,none⟩
theorem Dr:aN Tryz.prog 121 I0:=ctb (au Ah aR) aS 121 Tryz.f121 I0 N5 [(1,6),(18,510),(19,510),(7,510),(14,85008)] (λx K=>An x.1 x.2.1 K) (λx h1 h2=>((I8 x.1 x.2.1).choose_spec h1 h2).1)
theorem T6(hok:ab (okL j9.args (c,d,())))(h:CgR a c)(g:CgR b d)(ha:a<=1000000000000)(hb:b<=1000000000000):CgR (a+b) (nA c d):=(NH c d hok ⟨h.le ha,g.le hb,trivial⟩).2.2 a b h g
theorem Ts(hok:ab (okL j9.args (c,d,())))(h:CgR a c)(g:CgR b d)(ha:a<=1000000000000)(hb:b<=1000000000000):nA c d=eq c d:=(NH c d hok ⟨h.le ha,g.le hb,trivial⟩).2.1
theorem mN(x0:0<=x)(x1:x<=a)(y0:0<=y)(y1:y<=b):0<=x*y/\x*y<=a*b:=⟨CF x0 y0,wv (Int.mul_le_mul_of_nonneg_right x1 y0) (Int.mul_le_mul_of_nonneg_left y1 (wv x0 x1))⟩
structure RwB (k b:Int) (w:aA):Prop where
 l:(w.length:Int)=k
 e:∀x∈w,-b<=x/\x<=b
theorem RwB.push(h:RwB k b l)(h0:-b<=x)(h1:x<=b):RwB (k+1) b (l++[x]):=
 ⟨by rw[bn];have:=h.l;simp only[aX,bh];omega,λy hy=>by
  rcases eS.1 hy with hy|hy
  ·exact h.e y hy
  ·rw[cA.1 hy];exact⟨h0,h1⟩⟩
structure TbB (k n b:Int) (t:bW):Prop where
 l:(t.length:Int)=k
 e:∀r∈t,RwB n b r
theorem TbB.push(h:TbB k n b t)(hr:RwB n b r):TbB (k+1) n b (t++[r]):=
 ⟨by rw[bn];have:=h.l;simp only[aX,bh];omega,λy hy=>by
  rcases eS.1 hy with hy|hy
  ·exact h.e y hy
  ·rw[cA.1 hy];exact hr⟩
theorem Kc{p:Int->Prop}(h:∀y∈l,p y)(hx:p x):∀y∈l++[x],p y:=λy hy=>by
 rcases eS.1 hy with hy|hy
 ·exact h y hy
 ·rw[cA.1 hy];exact hx
structure RwG (G:ml) (k b:Int) (w:aA):Prop where
 r:RwB k b w
 g:w=aG k.toNat G
theorem RwG.push{G:ml}(h:RwG G k b w)(h0:-b<=x)(h1:x<=b)(hx:x=G k):RwG G (k+1) b (w++[x]):=⟨h.r.push h0 h1,by rw[eY (by have:=h.r.l;omega),←h.g,hx]⟩
theorem RwG.to{G:ml}(h:RwG G k b w)(e:k=k'):RwG G k' b w:=e▸h
structure TbG (G:Int->List Int) (k n b:Int) (t:bW):Prop where
 r:TbB k n b t
 g:t=aG k.toNat G
theorem TbG.push(h:TbG G k n b t)(hr:RwB n b r)(hx:r=G k):TbG G (k+1) n b (t++[r]):=⟨h.r.push hr,by rw[eY (by have:=h.r.l;omega),←h.g,hx]⟩
theorem TbG.to(h:TbG G k n b t)(e:k=k'):TbG G k' n b t:=e▸h
theorem iD{x y n:Int}(y0:0<=y)(y1:y<n):(x*n+y) / n=x/\(x*n+y)%n=y:=by
 have hn:n≠0:=aa
 constructor
 ·rw[Int.add_comm,Int.add_mul_ediv_right _ _ hn,Int.ediv_eq_zero_of_lt y0 y1,Int.zero_add]
 ·rw[Int.add_comm,Int.add_mul_emod_self_right,Int.emod_eq_of_lt y0 y1]
def joF(r:ah)(k:Nat)(n:Int):List Int:=r.2.1++aG k λi=>i / n
def joT(r:ah)(k:Nat)(n q:Int):List Int:=r.2.2.1++aG k λi=>q+i%n
def joH(r:ah)(n q:Int)(F T:aA)(f g:Int):Int:=if T.getD f.toNat 0≠F.getD g.toNat 0 then -1 else if f<r.2.1.length/\g<r.2.1.length then (r.2.2.2.2.getD f.toNat []).getD g.toNat 0 else r.2.1.length+F.getD f.toNat 0*n+T.getD g.toNat 0-q
def joW(r:ah)(n q:Int)(F T:aA)(f:Int):List Int:=aG F.length (joH r n q F T f)
def rk(r c d:ah):ah:=(r.1,(joF r (c.1*d.1).toNat d.1,(joT r (c.1*d.1).toNat d.1 c.1,(r.2.2.2.1,aG (joF r (c.1*d.1).toNat d.1).length (joW r d.1 c.1 (joF r (c.1*d.1).toNat d.1) (joT r (c.1*d.1).toNat d.1 c.1))))))
def F9(c d:ah):ah:=rk (eq c d) c d
structure JoC (r:ah) (n q k b:Int) (c:ah):Prop where
 ob:c.1=r.1
 lt:c.2.2.1.length=c.2.1.length
 m:(c.2.1.length:Int)<=b
 fr:∀x∈c.2.1,0<=x/\x<=128
 to:∀x∈c.2.2.1,0<=x/\x<=128
 re:c.2.2.2=r.2.2.2
 fg:c.2.1=joF r k.toNat n
 tg:c.2.2.1=joT r k.toNat n q
theorem JoC.le{r:ah}{q:Int}(h:JoC r n q k a c)(hb:a<=b)(hk:k=k'):JoC r n q k' b c:=⟨h.ob,h.lt,by have:=h.m;omega,h.fr,h.to,h.re,hk▸h.fg,hk▸h.tg⟩
theorem yk:(x+1)*y=x*y+y:=by rw[Int.add_mul,Int.one_mul]
def mD:Ct:=⟨[bO,bO],[true,true],λx=>[CgR 64 x.1,CgR 64 x.2.1],[(true,fM)],λ_=>dfR _,false,none⟩
def zX(c d r0:ah):Prop:=CgR 10000 r0/\r0=F9 c d
def Nd:Ann:=(.s .n (.s .n (.s .n (.s (.s .n (.l [(4,(.ad 4 [.de])),(5,(.ad 5 [.de])),(7,(.d aC))] [(4,cG),(5,cG)] [2,3,6] (.s .n (.s (.s .n (.l [(4,(.ad 4 [.de])),(5,(.ad 5 [.de])),(8,(.d aC))] [(4,cG),(5,cG)] [2,3,6,7] .n)) .n)))) (.s .n (.s (.s .n (.l [(4,(.ad 4 [.de])),(5,(.ad 5 [.de])),(9,(.ref 800009 [])),(10,(.d aC))] [(4,cG),(5,cG),(800009,iU)] [2,3,6] (.s .n (.s (.s .n (.s (.s .n (.l [(4,(.ad 4 [.de])),(5,(.ad 5 [.de])),(9,(.ref 800009 [])),(11,(.ref 800011 [])),(12,(.d aC))] Lf [2,3,6,10] (.s .n (.s (.s .n (.s (.s .n (.j TS Lf [2,3,6,10,12] (.s .n (.s .n (.j TS Lf [2,3,6,10,12] .n))))) .n)) .n)))) .n)) .n)))) .n))))))
def zW(c d:ah)(K:ny):Prop:=let p:=(nA c d).2.1.length;CgR 1000000000000 c/\CgR 1000000000000 d/\aK (S:=(dD×gh)) (λa b=>let x:=a.1.2.2.1;Iq x<|Oc a.2.1<|Oc a.2.2.1<|cnd (decide (x<c.1)) (aK (S:=(dD×gh)) (λe f=>let y:=e.2.2.1;let w:=e.1.2.2.1;Iq w<|Oc e.2.1<|Oc y<|cnd (decide (w<d.1)) (bg y.2.1.length [x].length 8/\(Ik (c.1+w)<|bg y.2.2.1.length [c.1+w].length 8/\(Ik (w+1)<|f (((),(),w+1,()),e.2.1,(y.1,y.2.1++[x],y.2.2.1++[c.1+w],y.2.2.2),())))) (Ik (x+1)<|b (((),(),x+1,()),e.2.1,y,()))) (((),(),0,()),a.2.1,a.2.2.1,())) (aK (S:=LU) (λg h=>let z:=g.2.2.1;let t:=g.1.2.2.2.1;Iq t<|Oc g.2.1<|Oc z<|Om g.2.2.2.1<|cnd (decide (t<(z.2.1.length:Int))) (aK (S:=vS) (λi j=>let u:=i.2.2;let a2:=u.1.2.1.length;let a1:=u.2.2.1;let a0:=u.1.2.2.2.2.getD t.toNat [];let r:=i.1.2.2.2.2.1;let v:=u.1.2.2.1.getD r.toNat 0;let q:=u.1.2.1.getD t.toNat 0;Iq r<|Oc i.2.1<|Oc u.1<|Om u.2.1<|Ol a1<|cnd (decide (r<(a2:Int))) (Ix t u.1.2.2.1.length<|Ix r a2<|bK (S:=vS) (λl=>let a4:=l.2.2.2;let a3:=l.1.2.2.2.2.1;Iq a3<|Oc l.2.1<|Oc l.2.2.1<|Om a4.1<|Ol a4.2.1<|bg a4.2.1.length [a3].length 8/\(Ik (r+1)<|j (((),(),(),(),r+1,()),l.2.1,l.2.2.1,a4.1,a4.2.1++[a3],()))) (λm=>cnd (u.1.2.2.1.getD t.toNat 0 != u.1.2.1.getD r.toNat 0) (m (((),(),(),(),-1,()),i.2.1,u.1,u.2.1,a1,())) (bK (S:=vS) (λn=>Iq n.1.2.2.2.2.1<|Oc n.2.1<|Oc n.2.2.1<|Om n.2.2.2.1<|Ol n.2.2.2.2.1<|m (((),(),(),(),n.1.2.2.2.2.1,()),n.2.1,n.2.2.1,n.2.2.2.1,n.2.2.2.2.1,())) (λo=>cnd (decide (t<(p:Int))&&decide (r<(p:Int))) (Ix t u.1.2.2.2.2.length<|Ix r a0.length<|o (((),(),(),(),a0.getD r.toNat 0,()),i.2.1,u.1,u.2.1,a1,())) (Ix t a2<|Ik (q*d.1)<|Ik ((p:Int)+q*d.1)<|Ix r u.1.2.2.1.length<|Ik ((p:Int)+q*d.1+v)<|Ik ((p:Int)+q*d.1+v-c.1)<|o (((),(),(),(),(p:Int)+q*d.1+v-c.1,()),i.2.1,u.1,u.2.1,a1,())))))) (bg u.2.1.length [a1].length 24/\(Ik (t+1)<|h (((),(),(),t+1,()),i.2.1,u.1,u.2.1++[a1],())))) (((),(),(),(),0,()),g.2.1,z,g.2.2.2.1,[],())) (K ((z.1,z.2.1,z.2.2.1,z.2.2.2.1,g.2.2.2.1),()))) (((),(),(),0,()),a.2.1,a.2.2.1,[],()))) (((),(),0,()),(0,[],[],[],[]),nA c d,())
theorem Yq(c d:ah)(hok:ab (okL mD.args (c,d,())))(hpre:ab (mD.pre (c,d,()))):zW c d (λr=>zX c d r.1):=by
 simp only[mD,okL,T.oks,T.ok,ap,ab,aL,az,aW]at hok hpre
 try dsimp only[T.den]at hok hpre
 delta zW zX Ik Iq Ix Oc Ol Om
 dsimp -proj -eta only;obtain⟨Hc,Hd⟩:=hpre;have Hs:=T6 (c:=c) (d:=d) (by simp only[j9,okL,T.oks,T.ok,ap,ab,aL,az,aW];exact hok) Hc Hd aa aa;have He:=Ts (c:=c) (d:=d) (by simp only[j9,okL,T.oks,T.ok,ap,ab,aL,az,aW];exact hok) Hc Hd aa aa;refine⟨Hc.le aa,Hd.le aa,?_⟩;clear hok;generalize nA c d=r at *;have c0:=Hc.ob0;have c1:=Hc.ob;have d0:=Hd.ob0;have d1:=Hd.ob;have rm:=Hs.m;have rl:=Hs.lt;have rc:=Hs.lc;refine bt (λ(s:eH)=>0<=s.1.2.2.1/\s.1.2.2.1<=c.1/\JoC r d.1 c.1 (s.1.2.2.1*d.1) (128+64*s.1.2.2.1) s.2.2.1) (λ(s:eH)=>(c.1-s.1.2.2.1).toNat) ?_ ⟨ak,c0,⟨rfl,rl,by (try dsimp only);omega,Hs.fr,Hs.to,rfl,by simp[joF,aG],by simp[joT,aG]⟩⟩;rintro⟨⟨_,_,x,_⟩,o1,out,_⟩ next ⟨x0,x1,hJ⟩ hnx
 intros
 try dsimp only at x0 x1 hJ hnx⊢
 refine aE (λhx=>?_) (λhx=>?_)
 ·refine bt (λ(s:eH)=>0<=s.1.2.2.1/\s.1.2.2.1<=d.1/\JoC r d.1 c.1 (x*d.1+s.1.2.2.1) (128+64*x+s.1.2.2.1) s.2.2.1) (λ(s:eH)=>(d.1-s.1.2.2.1).toNat) ?_ ⟨ak,d0,hJ.le (by (try dsimp only);omega) (by (try dsimp only);omega)⟩;rintro⟨⟨_,_,y,_⟩,o2,out2,_⟩ next1 ⟨y0,y1,hJ2⟩ hn1;intros
  try dsimp only at y0 y1 hJ2 hn1⊢
  have jm:=hJ2.m;have jl:=hJ2.lt;refine aE (λhy=>?_) (λhy=>?_)
  ·refine⟨bQ (by simp only[aX,bh];omega),aB,bQ (by simp only[aX,bh];omega),aB,hn1 _ ⟨an,an,⟨hJ2.ob,?_,?_,Kc hJ2.fr aa,Kc hJ2.to aa,hJ2.re,?_,?_⟩⟩ cw⟩
   ·try dsimp only;simp only[bn,aX,bh];omega
   ·try dsimp only;simp only[bn,aX,bh];omega
   ·try dsimp only
    rw[hJ2.fg];unfold joF;rw[show (x*d.1+(y+1)).toNat=((x*d.1+y)+1).toNat by omega,eY (by have:=mN x0 (b:=64) (a:=64) aa d0 d1;omega),(iD y0 hy).1,dk]
   ·try dsimp only
    rw[hJ2.tg];unfold joT;rw[show (x*d.1+(y+1)).toNat=((x*d.1+y)+1).toNat by omega,eY (by have:=mN x0 (b:=64) (a:=64) aa d0 d1;omega),(iD y0 hy).2,dk]
  ·exact⟨aB,hnx _ ⟨an,an,hJ2.le an (by dsimp only;rw[yk];omega)⟩ cw⟩
 replace hJ:=hJ.le (b:=4224) (k':=c.1*d.1) aa (by rw[show x=c.1 by omega]);clear hnx;have jm:=hJ.m;have jl:=hJ.lt;have hco:out.2.2.2.2=r.2.2.2.2:=by rw[hJ.re]
 refine bt (λ(s:LU)=>0<=s.1.2.2.2.1/\s.1.2.2.2.1<=out.2.1.length/\s.2.2.1=out/\TbG (joW r d.1 c.1 out.2.1 out.2.2.1) s.1.2.2.2.1 out.2.1.length 10000 s.2.2.2.1) (λ(s:LU)=>(out.2.1.length-s.1.2.2.2.1).toNat) ?_ ⟨ak,ak,rfl,⟨⟨rfl,ak⟩,by simp[aG]⟩⟩;rintro⟨⟨_,_,_,f,_⟩,o2,out2,t,_⟩ next1 ⟨f0,f1,q1,hT⟩ hn1;intros
 try dsimp only at f0 f1 q1 hT hn1⊢
 subst q1;have tl:=hT.r.l;refine aE (λhf=>?_) (λhf=>?_)
 ·refine bt (λ(s:vS)=>0<=s.1.2.2.2.2.1/\s.1.2.2.2.2.1<=out2.2.1.length/\s.2.2.1=out2/\s.2.2.2.1=t/\RwG (joH r d.1 c.1 out2.2.1 out2.2.2.1 f) s.1.2.2.2.2.1 10000 s.2.2.2.2.1) (λ(s:vS)=>(out2.2.1.length-s.1.2.2.2.2.1).toNat) ?_ ⟨ak,ak,rfl,rfl,⟨⟨rfl,ak⟩,by simp[aG]⟩⟩;rintro⟨⟨_,_,_,_,g,_⟩,o3,out3,t3,row,_⟩ next2 ⟨g0,g1,q1,q2,hR⟩ hn2;intros
  try dsimp only at g0 g1 q1 q2 hR hn2⊢
  subst q1;subst q2;have hl:=hR.r.l;refine aE (λhg=>?_) (λhg=>?_)
  ·have af:=hJ.fr _ (bX out3.2.1 0 f0 hf);have ag:=hJ.to _ (bX out3.2.2.1 0 g0 aa);have hm:=mN af.1 af.2 d0 d1;refine⟨f0,aa,g0,hg,bZ (λ(q:vS)=>(-10000<=q.1.2.2.2.2.1/\q.1.2.2.2.2.1<=10000/\q.1.2.2.2.2.1=joH r d.1 c.1 out3.2.1 out3.2.2.1 f g)/\q.2.2.1=out3/\q.2.2.2.1=t3/\q.2.2.2.2.1=row) ?_ (λk hk=>aJ (λhz=>hk _ ⟨⟨an,an,by dsimp only;unfold joH;rw[am (by simpa using hz)]⟩,rfl,rfl,rfl⟩) (λhz=>bZ (λ(q:vS)=>(-10000<=q.1.2.2.2.2.1/\q.1.2.2.2.2.1<=10000/\q.1.2.2.2.2.1=joH r d.1 c.1 out3.2.1 out3.2.2.1 f g)/\q.2.2.1=out3/\q.2.2.2.1=t3/\q.2.2.2.2.1=row) ?_ (λk1 hk1=>aJ (λhb=>?_) (λhb=>?_))))⟩
   ·rintro⟨⟨_,_,_,_,h,_⟩,o4,out4,t4,row4,_⟩ ⟨⟨q1,q2,q6⟩,q3,q4,q5⟩;intros
    try dsimp only at q1 q2 q3 q4 q5 q6⊢
    subst q3;subst q4;subst q5;exact⟨bQ (by simp only[aX,bh];omega),aB,hn2 _ ⟨an,an,rfl,rfl,hR.push q1 q2 q6⟩ cw⟩
   ·rintro⟨⟨_,_,_,_,h,_⟩,o4,out4,t4,row4,_⟩ ⟨q1,q3,q4,q5⟩;intros;exact hk _ ⟨q1,q3,q4,q5⟩
   ·simp only[ao,db]at hb;have hrow:=Hs.rowG f0 hb.1;have hcel:=Hs.cel f0 hb.1 g0 hb.2;rw[hco];exact⟨f0,aa,g0,aa,hk1 _ ⟨⟨an,an,by dsimp only;unfold joH;rw[aj (by simpa using hz),am hb]⟩,rfl,rfl,rfl⟩⟩
   ·exact⟨f0,hf,aB,aB,g0,aa,aB,aB,hk1 _ ⟨⟨an,an,by dsimp only;unfold joH;rw[aj (by simpa using hz),aj (λhh=>by rw[iP hh.1,iP hh.2]at hb;cases hb)]⟩,rfl,rfl,rfl⟩⟩
  ·have e:g=out3.2.1.length:=aa
   rw[e]at hR;exact⟨bQ (by simp only[aX,bh];omega),aB,hn1 _ ⟨an,an,rfl,hT.push hR.r (by rw[hR.g];unfold joW;rw[cQ])⟩ cw⟩
 have ef:f=out2.2.1.length:=aa
 rw[ef]at hT;have tl:=hT.r.l;have hob:=hJ.ob;have hid:out2.2.2.2.1=r.2.2.2.1:=by rw[hJ.re]
 refine⟨⟨aa,by dsimp only;have:=Hs.ob0;omega,by dsimp only;have:=Hs.ob;omega,an,jl,by dsimp only;rw[hid,hob];exact Hs.li,an,λx hx=>by have:=hJ.fr x hx;omega,λx hx=>by have:=hJ.to x hx;omega,λx hx=>by dsimp only at hx;rw[hid]at hx;have:=Hs.id x hx;omega,λw hw=>?_⟩,?_⟩
 ·have h:=hT.r.e w hw;exact⟨by have:=h.l;dsimp only;omega,h.e⟩
 ·have e1:=hJ.fg;have e2:=hJ.tg;have e4:=hT.g;rw[cQ]at e4
  try dsimp only
  unfold F9 rk;rw[←He,←e1,←e2,←e4,hob,hid]
theorem Ib(c d:ah):∃q:ah×Unit,ab (okL mD.args (c,d,()))->ab (mD.pre (c,d,()))->zW c d (λr=>r=q)/\ab (okR mD.rt q)/\zX c d q.1:=pkb (au Dr aR) aS 142 Tryz.f142 mD Nd [(20,18),(21,10)] (λx K=>zW x.1 x.2.1 K) (λx r=>zX x.1 x.2.1 r.1) (λx h1 h2=>Yq x.1 x.2.1 h1 h2) (c,d,())
def wM(c d:ah):ah:=(Ib c d).choose.1
theorem NA(c d:ah)(hok:ab (okL mD.args (c,d,())))(hpre:ab (mD.pre (c,d,()))):ab (okR mD.rt (wM c d,()))/\zX c d (wM c d):=((Ib c d).choose_spec hok hpre).2
def HY:Ct:=⟨[bO,bO],[true,true],λx=>[CgR 64 x.1,CgR 64 x.2.1],[(true,fM)],λx=>((wM x.1 x.2.1),()),false,none⟩
theorem Ny:aN Tryz.prog 142 HY:=ctb (au Dr aR) aS 142 Tryz.f142 HY Nd [(20,18),(21,10)] (λx K=>zW x.1 x.2.1 K) (λx h1 h2=>((Ib x.1 x.2.1).choose_spec h1 h2).1)
def oO:Ct:=⟨[cy,cy],[false,false],λx=>[],[(false,cU)],λx=>(eqR cy x.1 x.2.1,()),false,none⟩
def Xt:Ann:=(.s .n (.s .n (.s (.s .n (.l tx [] [0,1] .n)) .n)))
def HR(a b:aA)(K:d9):Prop:=cnd ((a.length:Int) != (b.length:Int)) (K (false,())) (aK (S:=cH) (λc d=>let e:=c.1.1;Iq e<|cnd (decide (e<(a.length:Int))) (Ix e a.length<|Ix e b.length<|cnd (a.getD e.toNat 0 != b.getD e.toNat 0) (K (false,())) (Ik (e+1)<|d ((e+1,()),()))) (K (true,()))) ((0,()),()))
theorem XT(a b:aA)(hok:ab (okL oO.args (a,b,())))(hpre:ab (oO.pre (a,b,()))):HR a b (λr=>r=oO.res (a,b,())):=by
 simp only[oO,okL,T.oks,T.ok,ap,ab,aL,az,aW]at hok hpre
 try dsimp only[T.den]at hok hpre
 delta HR Ik Iq Ix
 dsimp -proj -eta only;have ha:a.length<=140737488355328:=by simp only[ce]at hok;omega
 clear hok;refine aJ (λh=>?_) (λh=>?_)
 ·simp only[oO];rw[ye];rintro rfl;simp at h
 have hl:a.length=b.length:=by rw[fY]at h;omega
 refine eV (n:=a.length) (λi=>a.take i.toNat=b.take i.toNat) aa ak ?_ ?_
 ·intro i next i0 i1 hP hn hin
  have hta:=gE a 0 i0 i1;have htb:=gE b 0 i0 aa;refine aE (λ_=>⟨i0,i1,i0,aa,aJ (λh1=>?_) (λh1=>⟨aB,hn ?_⟩)⟩) (λh=>absurd i1 h)
  ·simp only[oO];rw[ye];rintro rfl;simp at h1
  ·rw[fY]at h1;rw[hta,htb,hP,h1]
 ·intro next hP hin
  refine aE (λh=>absurd h an) (λ_=>?_);rw[lQ _ (dB _),lQ _ aa]at hP;simp only[oO,hP,PV]
theorem Xd:aN Tryz.prog 89 oO:=ctb aR aS 89 Tryz.f89 oO Xt [(6,9)] (λx K=>HR x.1 x.2.1 K) (λx h1 h2=>XT x.1 x.2.1 h1 h2)
def wV:Ct:=⟨[bO],[true],λx=>[],[(false,cU)],λx=>((decide (x.1.1<=8)&&decide ((x.1.2.1.length:Int)<=40)),()),false,none⟩
def HP(c:ah)(K:d9):Prop:=K (decide (c.1<=8)&&decide ((c.2.1.length:Int)<=40),())
theorem XY(c:ah):Mh wV (c,()) (HP c):=by
 intro hok hpre;simp only[wV,okL,T.oks,T.ok,ap,ab,aL,az,aW]at hok hpre
 try dsimp only[T.den]at hok hpre
 unfold HP;rfl
theorem HM:aN Tryz.prog 50 wV:=ctb aR aS 50 Tryz.f50 wV .n [] (λx K=>HP x.1 K) (λx h1 h2=>XY x.1 h1 h2)
def tv:List Int->List Int->Bool
 |_,[]=>false
 |[],_::_=>true
 |x::a,y::b=>if x=y then tv a b else decide (x<y)
def sK:Ct:=⟨[cy,cy],[false,false],λx=>[],[(false,cU)],λx=>(tv x.1 x.2.1,()),false,none⟩
def Xl:Ann:=(.s .n (.s (.s .n (.l tx [] [0,1] .n)) .n))
def HX(a b:aA)(K:d9):Prop:=aK (S:=cH) (λc d=>let e:=c.1.1;Iq e<|cnd (decide (e<(a.length:Int))&&decide (e<(b.length:Int))) (Ix e a.length<|Ix e b.length<|cnd (a.getD e.toNat 0 != b.getD e.toNat 0) (Ix e a.length<|Ix e b.length<|K (decide (a.getD e.toNat 0<b.getD e.toNat 0),())) (Ik (e+1)<|d ((e+1,()),()))) (K (decide ((a.length:Int)<(b.length:Int)),()))) ((0,()),())
theorem Yh(a b:aA)(hok:ab (okL sK.args (a,b,())))(hpre:ab (sK.pre (a,b,()))):HX a b (λr=>r=sK.res (a,b,())):=by
 simp only[sK,okL,T.oks,T.ok,ap,ab,aL,az,aW]at hok hpre
 try dsimp only[T.den]at hok hpre
 delta HX Ik Iq Ix
 dsimp -proj -eta only;have h1:a.length<=140737488355328:=by simp only[ce]at hok;omega
 clear hok hpre;refine bt (λ(s:cH)=>0<=s.1.1/\s.1.1<=a.length/\s.1.1<=b.length/\tv a b=tv (a.drop s.1.1.toNat) (b.drop s.1.1.toNat)) (λ(s:cH)=>(a.length-s.1.1).toNat) ?_ ⟨ak,ak,ak,ak⟩;rintro⟨⟨i,_⟩,_⟩ next ⟨h0,h2,h3,h4⟩ hn _
 try dsimp only at h0 h2 h3 h4 hn⊢
 refine aJ (λhc=>?_) (λhc=>?_)
 ·simp only[ao,db]at hc;rw[tE a 0 h0 hc.1,tE b 0 h0 hc.2,tv]at h4;refine⟨h0,hc.1,h0,hc.2,aJ (λhd=>⟨h0,hc.1,h0,hc.2,?_⟩) (λhd=>⟨aB,?_⟩)⟩
  ·rw[aj (by simpa using hd)]at h4;simp only[sK,h4]
  ·rw[am (by simpa using hd)]at h4;exact hn _ ⟨an,an,an,h4⟩ an
 ·simp only[w7,gM]at hc;simp only[sK,h4];by_cases hb:i<b.length
  ·have ha:¬i<a.length:=by rcases hc with h|h<;>omega
   rw[ve a aa,tE b 0 h0 hb,tv,iP (by omega:(a.length:Int)<b.length)]
  ·rw[ve b aa,oz (by omega:¬(a.length:Int)<b.length)];cases a.drop i.toNat<;>rfl
theorem XC:aN Tryz.prog 156 sK:=ctb aR aS 156 Tryz.f156 sK Xl [(4,8),(5,8)] (λx K=>HX x.1 x.2.1 K) (λx h1 h2=>Yh x.1 x.2.1 h1 h2)
def BS(a b:rU):Bool:=if a.1=b.1 then (if a.2.1=b.2.1 then tv a.2.2 b.2.2 else decide (a.2.1<b.2.1))else decide (a.1<b.1)
def sB:Ct:=⟨[Ly,Ly],[true,true],λx=>[],[(false,cU)],λx=>(BS x.1 x.2.1,()),false,none⟩
def H9(a b:JJ)(K:d9):Prop:=cnd (a.1 != b.1) (K (decide (a.1<b.1),())) (cnd (a.2.1 != b.2.1) (K (decide (a.2.1<b.2.1),())) (K (tv a.2.2 b.2.2,())))
theorem W4(a b:JJ)(hok:ab (okL sB.args (a,b,())))(hpre:ab (sB.pre (a,b,()))):H9 a b (λr=>r=sB.res (a,b,())):=by
 simp only[sB,okL,T.oks,T.ok,ap,ab,aL,az,aW]at hok hpre
 try dsimp only[T.den]at hok hpre
 unfold H9;simp only[sB,BS];refine aJ (λh=>?_) (λh=>?_)
 ·rw[lH]at h;rw[aj h]
 ·have h1:a.1=b.1:=by simpa using h
  rw[am h1];refine aJ (λh=>?_) (λh=>?_)
  ·rw[lH]at h;rw[aj h]
  ·have h2:a.2.1=b.2.1:=by simpa using h
   rw[am h2]
theorem Wy:aN Tryz.prog 151 sB:=ctb (au XC aR) aS 151 Tryz.f151 sB .n [] (λx K=>H9 x.1 x.2.1 K) (λx h1 h2=>W4 x.1 x.2.1 h1 h2)
def kF(fr to:aA)(p:rU)(n:Nat):List mi:=((aG n λe=>e).filter λe=>fr.getD e.toNat 0==p.2.1).map λe=>(p.1,to.getD e.toNat 0,p.2.2++[e])
def BZ(fr to:aA)(p:rU):List mi:=kF fr to p fr.length
def kD(fr to:aA):Nat->Nat->List mi->List mi
 |0,_,l=>l
 |u+1,k,l=>if k<l.length/\l.length<=40 then kD fr to u (k+1) (l++BZ fr to (l.getD k (0,0,[])))else l
def oc(n:Int):List mi:=aG n.toNat λx=>(x,x,[])
def kH(x:rU):List mi->List mi
 |[]=>[x]
 |y::r=>if BS x y then y::kH x r else x::y::r
abbrev ov:Type:=List mi
def od(l:ov):List mi:=l.foldl (λa x=>kH x a) []
def BJ(l:ov):List mi:=(od l).reverse
def rq(n:Int)(fr to:aA):List mi:=BJ (kD fr to 42 0 (oc n))
theorem afr{fr to:aA}{p:rU}{e:Int}(h:0<=e):kF fr to p (e+1).toNat=kF fr to p e.toNat++(if (fr.getD e.toNat 0==p.2.1)=true then [(p.1,to.getD e.toNat 0,p.2.2++[e])]else []):=by unfold kF;rw[eY h,zn,mr];split<;>rename_i h1<;>simp only[oy,h1,dA,pO,CB,iN,vX,d4]
theorem Qh{fr to:aA}{p:rU}{n:Nat}:(kF fr to p n).length<=n:=by unfold kF;rw[cC];exact c8 (wz _ _) (Nat.le_of_eq (bA n))
theorem Qe{to:aA}{n:Nat}(h:q∈kF fr to p n):q.2.2.length=p.2.2.length+1:=by unfold kF at h;obtain⟨e,_,rfl⟩:=fX.1 h;simp only[bn,aX,bh]
theorem aex{to:aA}{u k:Nat}{l:ov}(h:¬(k<l.length/\l.length<=40)):kD fr to u k l=l:=by cases u<;>simp only[kD,aj h]
theorem Km{l m:List α}{d:α}{k:Nat}(h:k<l.length):(l++m).getD k d=l.getD k d:=by rw[br,br,fT h]
theorem P6{x:rU}:∀l:List mi,(kH x l).length=l.length+1
 |[]=>rfl
 |y::r=>by unfold kH;split<;>simp only[aX,P6 r]
theorem acv{l:ov}(h0:0<=i)(h1:i<l.length):od (l.take (i+1).toNat)=kH (l.getD i.toNat (0,(0,[]))) (od (l.take i.toNat)):=by unfold od;rw[gE l (0,(0,[])) h0 h1,iO];rfl
theorem Qr:∀(l a:ov),(l.foldl (λa x=>kH x a) a).length=a.length+l.length
 |[],a=>rfl
 |x::l,a=>by rw[iA,Qr l,P6,aX];omega
theorem PH(l:ov):(od l).length=l.length:=by unfold od;rw[Qr];exact jO _
def px(l:ov)(i:Int):List mi:=(od (l.take i.toNat)).reverse++l.drop i.toNat
theorem ab5(l:ov)(i:Int):(px l i).length=l.length:=by unfold px;rw[bn,G9,PH,dW,jw];omega
theorem afl(l:ov):px l 1=l:=by cases l<;>rfl
theorem ael{l:ov}(h:(l.length:Int)<=i):px l i=BJ l:=by unfold px BJ;rw[lQ l h,C5 aa,iM]
theorem Kv{d x:α}{t:List α}:∀p:List α,(p++x::t).getD p.length d=x
 |[]=>rfl
 |_::p=>ak
theorem aat{d x y:α}{t:List α}:∀p:List α,(p++y::x::t).getD (p.length+1) d=x
 |[]=>rfl
 |_::p=>ak
theorem G_{x y:α}{t:List α}:∀p:List α,((p++y::x::t).set (p.length+1) y).set p.length x=p++x::y::t
 |[]=>rfl
 |a::p=>ak
def sN:Ct:=⟨[aC,cy,cy],[false,false,false],λx=>[0<=x.1,x.1<=8,x.2.2.1.length=x.2.1.length,x.2.1.length<=1000000000],[(false,(.fz (.sl T4)))],λx=>(rq x.1 x.2.1 x.2.2.1,()),true,none⟩
def Yi:Ann:=(.s .n (.j Fd vf [0,1,2] (.s .n (.s (.s .n (.l [(7,(.ref 800007 [])),(8,(.d aC))] vf [0,1,2] .n)) (.s (.s .n (.l [(7,(.ref 800007 [])),(9,(.d aC))] vf [1,2] (.s .n (.s (.s .n (.l [(7,(.ref 800007 [])),(10,(.d aC))] vf [1,2,9] (.s .n (.s (.s .n (.j Fd vf [1,2,9,10] .n)) .n)))) .n)))) (.s (.s .n (.l [(7,(.ref 800007 [])),(11,(.d aC))] vf [] (.s .n (.s (.s .n (.l [(7,(.ref 800007 [])),(12,(.d aC))] vf [11] .n)) .n)))) .n))))))
def ag5:FuncId->Option Ct:=lkp [(143,km),(151,sB)]
def Iv(n:Int)(from_ to:aA)(K:(List JJ)×Unit->Prop):Prop:=bK (S:=Gw) (λa=>Oa vq a.2.1<|aK (S:=kL) (λb c=>let w:=b.1.2.1;Iq w<|Oa vq b.2.1<|cnd (decide (w<n)) (bg b.2.1.length ((w,w,[])::([]:List (Int×fm))).length 40/\(Ik (w+1)<|c (((),w+1,()),b.2.1++(w,w,[])::([]:List (Int×fm)),()))) (aK (S:=kL) (λd e=>let x:=d.1.2.1;Iq x<|Oa vq d.2.1<|cnd (decide (x<(d.2.1.length:Int))&&decide ((d.2.1.length:Int)<=40)) (aK (S:=kL) (λf g=>let z:=f.2.1.length;let u:=f.1.2.1;let q:=f.2.1.getD x.toNat (0,0,[]);Iq u<|Oa vq f.2.1<|cnd (decide (u<(from_.length:Int))) (Ix u from_.length<|Ix x z<|bK (S:=Gw) (λh=>Oa vq h.2.1<|Ik (u+1)<|g (((),u+1,()),h.2.1,())) (λi=>cnd (from_.getD u.toNat 0==q.2.1) (Ix x z<|Ix u to.length<|Ix x z<|q.2.2.length<=1099511627776/\bg q.2.2.length [u].length 8/\bg z ((q.1,to.getD u.toNat 0,q.2.2++[u])::([]:List (Int×fm))).length 40/\i (((),()),f.2.1++(q.1,to.getD u.toNat 0,q.2.2++[u])::([]:List (Int×fm)),())) (i (((),()),f.2.1,())))) (Ik (x+1)<|e (((),x+1,()),f.2.1,()))) (((),0,()),d.2.1,())) (aK (S:=kL) (λj l=>let a2:=j.1.2.1;Iq a2<|Oa vq j.2.1<|cnd (decide (a2<(j.2.1.length:Int))) (aK (S:=kL) (λm o=>let v:=m.2.1.length;let r:=m.1.2.1;let a0:=m.2.1.getD r.toNat (0,0,[]);let y:=decide (0<r);let t:=m.2.1.getD (Int.toNat (r-1)) (0,0,[]);let a1:=List.set m.2.1 r.toNat t;Iq r<|Oa vq m.2.1<|(y=true->r<(v:Int)/\0<=r)/\(y=true->inK .i64 (r-1))/\(y=true->r-1<(v:Int)/\0<=r-1)/\cnd (y&&BS a0 t) (Ix r v<|Ik (r-1)<|Ix (r-1) v<|Ix r v<|Ik (r-1)<|Ix (r-1) a1.length<|Ik (r-1)<|o (((),r-1,()),List.set a1 (Int.toNat (r-1)) a0,())) (Ik (a2+1)<|l (((),a2+1,()),m.2.1,()))) (((),a2,()),j.2.1,())) (K (j.2.1,()))) (((),1,()),d.2.1,()))) (((),0,()),b.2.1,()))) (((),0,()),a.2.1,())) (λp=>p (((),()),([]:List (Int×fm)),()))
theorem YI(n:Int)(from_ to:aA)(hok:ab (okL sN.args (n,from_,to,())))(hpre:ab (sN.pre (n,from_,to,()))):Iv n from_ to (λr=>r=sN.res (n,from_,to,())):=by
 simp only[sN,okL,T.oks,T.ok,ap,ab,aL,az,aW]at hok hpre
 try dsimp only[T.den]at hok hpre
 delta Iv Ik Iq Ix Oa
 dsimp -proj -eta only;obtain⟨n0,n8,ht,hf⟩:=hpre;refine bZ (λ(s:Gw)=>s.2.1=[]) ?_ (λk hk=>hk _ rfl);rintro⟨_,l0,_⟩ e0;intros
 try dsimp only at e0⊢
 subst e0;refine bt (λ(s:kL)=>0<=s.1.2.1/\s.1.2.1<=n/\s.2.1=oc s.1.2.1) (λ(s:kL)=>(n-s.1.2.1).toNat) ?_ ⟨ak,n0,rfl⟩;rintro⟨⟨_,x,_⟩,l,_⟩ next ⟨x0,x1,q⟩ hnx
 intros
 try dsimp only at x0 x1 q hnx⊢
 subst q;have zl:(oc x).length=x.toNat:=bA _;refine aE (λhx=>?_) (λhx=>?_)
 ·refine⟨bQ (by rw[zl];simp only[aX,bh];omega),aB,hnx _ ⟨an,an,?_⟩ an⟩
  try dsimp only
  unfold oc;rw[eY x0]
 have ex:x=n:=aa
 subst ex;clear hnx
 have hz0:∀p∈oc x,(p.2.2.length:Int)<=0:=by
  intro p hp;unfold oc at hp
  have hz:∀(k:Nat),p∈aG k (λx=>((x,x,[]):Int×Int×List Int))->p.2.2=[]:=by
   intro k
   induction k with
   |zero=>intro h;cases h
   |succ k ih=>
    intro h;rcases eS.1 h with h|h
    ·exact ih h
    ·rw[cA.1 h]
  rw[hz _ hp];simp
 refine bt (λ(s:kL)=>0<=s.1.2.1/\s.1.2.1<=41/\kD from_ to 42 0 (oc x)=kD from_ to (42-s.1.2.1).toNat s.1.2.1.toNat s.2.1/\(∀p∈s.2.1,(p.2.2.length:Int)<=s.1.2.1)/\s.2.1.length<=40+from_.length) (λ(s:kL)=>(41-s.1.2.1).toNat) ?_ ⟨ak,ak,rfl,hz0,an⟩;rintro⟨⟨_,k,_⟩,L,_⟩ next ⟨k0,k41,hg,hp,hL⟩ hnx
 intros
 try dsimp only at k0 k41 hg hp hL hnx⊢
 refine aJ (λhc=>?_) (λhc=>?_)
 ·simp only[ao,db]at hc;obtain⟨hc1,hc2⟩:=hc;have hpk:=hp _ (bX L (0,(0,[])) k0 hc1);have hgk:kD from_ to 42 0 (oc x)=kD from_ to (42-(k+1)).toNat (k+1).toNat (L++BZ from_ to (L.getD k.toNat (0,0,[]))):=by rw[hg,show (42-k).toNat=(42-(k+1)).toNat+1 from by omega,show (k+1).toNat=k.toNat+1 from by omega];simp only[kD];rw[am ⟨aa,aa⟩]
  generalize hP:L.getD k.toNat (0,(0,[]))=P at *;refine bt (λ(s:kL)=>0<=s.1.2.1/\s.1.2.1<=from_.length/\s.2.1=L++kF from_ to P s.1.2.1.toNat) (λ(s:kL)=>(from_.length-s.1.2.1).toNat) ?_ ⟨ak,ak,by simp[kF,aG]⟩;rintro⟨⟨_,e,_⟩,M,_⟩ next1 ⟨e0,e1,q⟩ hn1;intros
  try dsimp only at e0 e1 q hn1⊢
  subst q;have hM:(L++kF from_ to P e.toNat).length<=40+from_.length:=by rw[bn];have:=@Qh from_ to P e.toNat;omega
  have hMk:k<(L++kF from_ to P e.toNat).length:=by rw[bn];omega
  have hG:(L++kF from_ to P e.toNat).getD k.toNat (0,(0,[]))=P:=by rw[Km aa,hP]
  have hE:=@afr from_ to P e e0;rw[hG];refine aE (λhe=>?_) (λhe=>?_)
  ·refine⟨e0,aa,k0,hMk,bZ (λ(q:Gw)=>q.2.1=L++kF from_ to P (e+1).toNat) ?_ ?_⟩
   ·rintro⟨_,M2,_⟩ q2;intros
    try dsimp only at q2⊢
    subst q2;exact⟨aB,hn1 _ ⟨an,an,rfl⟩ an⟩
   ·intro k1 hk1;rw[hE]at hk1;refine aJ (λhb=>?_) (λhb=>?_)
    ·rw[am hb]at hk1;exact⟨k0,hMk,e0,aa,k0,hMk,aa,bQ (by simp only[aX,bh];omega),bQ (by simp only[aX,bh];omega),hk1 _ (dk _ _ _)⟩
    ·rw[aj (by rw[hb];decide),iM]at hk1;exact hk1 _ rfl
  ·have ee:e=from_.length:=aa
   subst ee;refine⟨aB,hnx _ ⟨an,an,hgk,?_,hM⟩ an⟩;intro p hp'
   try dsimp only at hp'⊢
   rcases eS.1 hp' with h|h
   ·have:=hp p h;omega
   ·have:=Qe h;omega
 ·simp only[w7,gM]at hc;replace hg:=hg.trans (aex aa);clear hnx;have hres:rq x from_ to=BJ L:=by unfold rq;rw[hg]
  simp only[sN];rw[hres];refine bt (λ(s:kL)=>1<=s.1.2.1/\s.2.1=px L s.1.2.1) (λ(s:kL)=>(L.length-s.1.2.1).toNat) ?_ ⟨ak,(afl L).symm⟩;rintro⟨⟨_,i,_⟩,A,_⟩ next1 ⟨i0,q⟩ hn1;intros
  try dsimp only at i0 q hn1⊢
  subst q;rw[ab5];refine aE (λhi=>?_) (λhi=>?_)
  ·have hs:=acv (l:=L) (i:=i) aa hi;have hd:L.drop i.toNat=L.getD i.toNat (0,(0,[]))::L.drop (i+1).toNat:=by rw[show (i+1).toNat=i.toNat+1 from by omega,br,bU aa];exact zf aa
   have ha:px L (i+1)=(kH (L.getD i.toNat (0,(0,[]))) (od (L.take i.toNat))).reverse++L.drop (i+1).toNat:=by unfold px;rw[hs]
   have hl:(od (L.take i.toNat)).length=i.toNat:=by rw[PH,dW];omega
   have hA:px L i=(od (L.take i.toNat)).reverse++L.getD i.toNat (0,(0,[]))::L.drop (i+1).toNat:=by unfold px;rw[hd]
   rw[hA];generalize L.getD i.toNat (0,(0,[]))=X at *;generalize od (L.take i.toNat)=R at *;generalize L.drop (i+1).toNat=Q at *;refine bt (λ(s:kL)=>∃R1 R2,R=R1++R2/\(R2.length:Int)=s.1.2.1/\kH X R=R1++kH X R2/\s.2.1=R2.reverse++X::(R1.reverse++Q)) (λ(s:kL)=>s.1.2.1.toNat) ?_ ⟨[],R,rfl,an,rfl,rfl⟩;rintro⟨⟨_,k,_⟩,B,_⟩ next2 ⟨R1,R2,r1,r2,r3,r4⟩ hn2;intros
   try dsimp only at r1 r2 r3 r4 hn2⊢
   subst r4
   cases R2 with
   |nil=>
    have ek:k=0:=by simpa using r2.symm
    subst ek;refine⟨λh=>by simp at h,λh=>by simp at h,λh=>by simp at h,aJ (λh=>by simp at h) (λ_=>⟨aB,hn1 _ ⟨an,?_⟩ an⟩)⟩
    try dsimp only
    rw[ha,r3];simp[kH]
   |cons Y R2=>
    simp only[aX]at r2;have hr:R1.length+(R2.length+1)=i.toNat:=by rw[←hl,r1];simp
    have e1:(Y::R2).reverse++X::(R1.reverse++Q)=R2.reverse++Y::X::(R1.reverse++Q):=ak
    rw[e1];have hk:k.toNat=R2.reverse.length+1:=by rw[G9];omega
    have hk1:(k-1).toNat=R2.reverse.length:=by rw[G9];omega
    rw[hk,hk1,Kv,aat,G_];have hlen:((R2.reverse++Y::X::(R1.reverse++Q)).length:Int)=R2.length+2+R1.length+Q.length:=by simp;omega
    have hlen2:(((R2.reverse++Y::X::(R1.reverse++Q)).set (R2.reverse.length+1) Y).length:Int)=R2.length+2+R1.length+Q.length:=by rw[gK];exact hlen
    have hk63:inK .i64 (k-1):=aB
    refine⟨λ_=>⟨aa,aa⟩,λ_=>hk63,λ_=>⟨aa,aa⟩,aJ (λh=>?_) (λh=>?_)⟩
    ·simp only[ao,db]at h;refine⟨aa,aa,hk63,aa,aa,aa,aa,hk63,aa,aa,hk63,hn2 _ ⟨R1++[Y],R2,by simp[r1],an,?_,?_⟩ an⟩
     ·rw[r3];simp[kH,h.2]
     ·simp
    ·have hb:BS X Y=false:=by
      rcases w7.1 h with h|h
      ·simp only[gM]at h;omega
      ·exact h
     refine⟨aB,hn1 _ ⟨an,?_⟩ an⟩
     try dsimp only
     rw[ha,r3];simp[kH,hb]
  ·rw[ael aa]
theorem Yj:aN Tryz.prog 145 sN:=ctb (au oL (au Wy aR)) aS 145 Tryz.f145 sN Yi [(18,12),(12,9),(13,8000085018)] (λx K=>Iv x.1 x.2.1 x.2.2.1 K) (λx h1 h2=>YI x.1 x.2.1 x.2.2.1 h1 h2)
abbrev PtT:=Int×Int×List Int
def pAt(l:List PtT)(i:Int):PtT:=l.getD i.toNat (0,(0,[]))
def vo(n:Nat)(p:jt):Int:=(aG n λk=>k).foldl (λh k=>if p k then k else h) (-1)
def xE(l:List PtT)(i j k:Int):Bool:=(pAt l k).1==(pAt l i).1&&eqR cy (pAt l k).2.2 ((pAt l i).2.2++(pAt l j).2.2)
def jJ(l:List PtT)(i j:Int):Int:=if (pAt l i).2.1=(pAt l j).1 then vo l.length (xE l i j)else -1
def og(l:List PtT)(n:Int)(i:Nat):List Int:=(aG i λk=>k).foldl (λa k=>if (pAt l k).2.2.length=0 then a.set (pAt l k).1.toNat k else a) (List.replicate n.toNat 0)
def vA(n:Int)(l:List PtT)(t:bW):ah:=(n,(l.map (·.1),(l.map (·.2.1),(og l n l.length,t))))
def Gl(n:Int)(l:List PtT):ah:=vA n l (if l.length<=40 then aG l.length (λi=>aG l.length (jJ l i))else [])
def nJ(n:Int)(fr to:aA):ah:=Gl n (rq n fr to)
theorem P5{x:PtT}:∀l:List PtT,(kH x l).Perm (x::l)
 |[]=>List.Perm.refl _
 |y::r=>by
  unfold kH;split
  ·exact ((P5 r).cons y).trans (List.Perm.swap x y r)
  ·exact List.Perm.refl _
theorem Pf:∀(l a:List PtT),(l.foldl (λa x=>kH x a) a).Perm (a++l)
 |[],a=>by rw[List.foldl_nil,iM]
 |x::l,a=>by rw[iA];refine (Pf l _).trans (((P5 a).append_right l).trans ?_);rw[uq];exact List.perm_middle.symm
theorem Oo(l:List PtT):(BJ l).Perm l:=(List.reverse_perm _).trans (Pf l [])
theorem PT{fr to:aA}(Q:PtT->Prop)(hQ:∀p e,Q p->0<=e->e<(fr.length:Int)->fr.getD e.toNat 0=p.2.1->Q (p.1,to.getD e.toNat 0,p.2.2++[e])):∀(u k:Nat)(l:List PtT),(∀p∈l,Q p)->∀p∈kD fr to u k l,Q p
 |0,_,_,h=>h
 |u+1,k,l,h=>by
  unfold kD;split
  ·rename_i hc;refine PT Q hQ u (k+1) _ λp hp=>?_;rcases eS.1 hp with hp|hp
   ·exact h p hp
   ·unfold BZ kF at hp;obtain⟨e,he,rfl⟩:=fX.1 hp;obtain⟨he,hf⟩:=mw.1 he;obtain⟨e2,e0,e1,rfl⟩:=fN.1 he;have hk:l.getD k (0,(0,[]))∈l:=by have:=bX l (0,(0,[])) (i:=k) aa aa;simpa using this
    exact hQ _ _ (h _ hk) e0 e1 (by simpa using hf)
  ·exact h
theorem PD{fr to:aA}:∀(u k:Nat)(l:List PtT),(∀p∈l,p.2.2.length<=k)->∀p∈kD fr to u k l,p.2.2.length<=k+u
 |0,_,_,h=>h
 |u+1,k,l,h=>by
  unfold kD;split
  ·rename_i hc;have:=PD (fr:=fr) (to:=to) u (k+1) (l++BZ fr to (l.getD k (0,0,[]))) λp hp=>?_
   ·intro p hp;have:=this p hp;omega
   ·rcases eS.1 hp with hp|hp
    ·have:=h p hp;omega
    ·have hk:l.getD k (0,(0,[]))∈l:=by have:=bX l (0,(0,[])) (i:=k) aa aa;simpa using this
     have h1:=h _ hk;have h2:=Qe hp;omega
  ·intro p hp;have:=h p hp;omega
theorem Qu{fr to:aA}:∀(u k:Nat)(l:List PtT),l.length<=40+fr.length->(kD fr to u k l).length<=40+fr.length
 |0,_,_,h=>h
 |u+1,k,l,h=>by
  unfold kD;split
  ·rename_i hc;refine Qu u (k+1) _ ?_;rw[bn];have:=@Qh fr to (l.getD k (0,0,[])) fr.length;unfold BZ;omega
  ·exact h
theorem QD{p:PtT}(h:p∈oc n):0<=p.1/\p.1<n/\p.2.1=p.1/\p.2.2=[]:=by unfold oc at h;obtain⟨e,h0,h1,rfl⟩:=fN.1 h;exact⟨h0,an,rfl,rfl⟩
theorem abz{n:Int}{fr to:aA}{p:PtT}(h:p∈rq n fr to):(0<=p.1/\p.1<n)/\p.2.2.length<=42:=by
 have h1:=(Oo _).mem_iff.1 h;refine⟨PT (λp=>0<=p.1/\p.1<n) (λp e hp _ _ _=>hp) 42 0 _ (λp hp=>?_) p h1,?_⟩
 ·have:=QD hp;exact⟨this.1,this.2.1⟩
 ·have:=PD 42 0 _ (λp hp=>by rw[(QD hp).2.2.2];simp) p h1;omega
theorem abm{n:Int}{fr to:aA}(h:n<=8):(rq n fr to).length<=40+fr.length:=by unfold rq;rw[(Oo _).length_eq];refine Qu 42 0 _ ?_;unfold oc;rw[bA];omega
theorem Tg{l:List PtT}{n i:Int}(h:0<=i):og l n (i+1).toNat=if (pAt l i).2.2.length=0 then (og l n i.toNat).set (pAt l i).1.toNat i else og l n i.toNat:=by unfold og;rw[eY h,iO];rfl
theorem JF{l:List PtT}{n:Int}:∀i:Nat,(og l n i).length=n.toNat
 |0=>by simp[og,aG]
 |i+1=>by
  have:=@Tg l n i aa;rw[show ((i:Int)+1).toNat=i+1 from rfl,cQ]at this;rw[this];split
  ·rw[gK,JF i]
  ·exact JF i
theorem acu{p:jt}(h:0<=i):vo (i+1).toNat p=if p i then i else vo i.toNat p:=by unfold vo;rw[eY h,iO];rfl
def qm:Ct:=⟨[aC,cy,cy],[false,false,false],λx=>[0<=x.1,x.1<=8,x.2.2.1.length=x.2.1.length,x.2.1.length<=1000000000],[(true,fM)],λx=>(nJ x.1 x.2.1 x.2.2.1,()),false,none⟩
def W2:Ann:=(.s .n (.s .n (.s .n (.s (.s .n (.l [(6,(.ad 6 [.de])),(8,(.ad 8 [.de])),(9,(.d aC))] [(6,cG),(8,cG)] [7] (.s .n (.s (.s .n (.s .n (.s .n (.j [(6,(.ad 6 [.de])),(8,(.ad 8 [.de]))] [(6,cG),(8,cG)] [7,9] .n)))) .n)))) (.s .n (.s (.s .n (.l [(6,(.ad 6 [.de])),(8,(.ad 8 [.de])),(10,(.d aC))] [(6,cG),(8,cG)] [7] (.s .n (.s (.s .n (.s (.s .n (.l [(6,(.ad 6 [.de])),(8,(.ad 8 [.de])),(11,(.ref 800011 [])),(12,(.d aC))] FE [7,10] (.s .n (.s (.s .n (.s (.s .n (.j TY FE [7,10,12] (.s (.s .n (.s .n (.l [(6,(.ad 6 [.de])),(8,(.ad 8 [.de])),(11,(.ref 800011 [])),(13,(.d aC)),(15,(.d aC))] FE [7,10,12,14] (.s .n (.s (.s .n (.j TY FE [7,10,12,14,15] .n)) .n))))) .n))) .n)) .n)))) .n)) .n)))) .n))))))
def agm:FuncId->Option Ct:=lkp [(143,km),(89,oO),(50,wV),(145,sN)]
def HF(n:Int)(from_ to:aA)(K:ny):Prop:=let q:=rq n from_ to;0<=n/\n<=8/\to.length=from_.length/\from_.length<=1000000000/\0<=n/\n<=n/\n<=((140737488355328:Nat):Int)/\n*((8:Nat):Int)<=((140737488355328:Nat):Int)/\aK (S:=(dD×gh)) (λa b=>let x:=a.1.2.2.1;let v:=a.2.2.1;let r:=q.getD x.toNat (0,0,[]);Iq x<|Oc a.2.1<|Oc v<|cnd (decide (x<(q.length:Int))) (Ix x q.length<|bg v.2.1.length [r.1].length 8/\(Ix x q.length<|bg v.2.2.1.length [r.2.1].length 8/\(Ix x q.length<|bK (S:=(g8×gh)) (λc=>Oc c.2.1<|Oc c.2.2.1<|Ik (x+1)<|b (((),(),x+1,()),c.2.1,c.2.2.1,())) (λd=>cnd ((r.2.2.length:Int)==0) (Ix x q.length<|Ix r.1 v.2.2.2.1.length<|d (((),(),()),a.2.1,(v.1,v.2.1++[r.1],v.2.2.1++[r.2.1],List.set v.2.2.2.1 r.1.toNat x,v.2.2.2.2),())) (d (((),(),()),a.2.1,(v.1,v.2.1++[r.1],v.2.2.1++[r.2.1],v.2.2.2),())))))) (cnd (!(decide (v.1<=8)&&decide ((v.2.1.length:Int)<=40))) (K (v,())) (aK (S:=(dD×gh)) (λe f=>let y:=e.1.2.2.1;let t:=q.getD y.toNat (0,0,[]);Iq y<|Oc e.2.1<|Oc e.2.2.1<|cnd (decide (y<(q.length:Int))) (aK (S:=eG) (λg h=>let a2:=g.2.2.2.1;let a1:=g.2.2.1;let w:=g.1.2.2.2.1;let z:=q.getD w.toNat (0,0,[]);Iq w<|Oc g.2.1<|Oc a1<|Ol a2<|cnd (decide (w<(q.length:Int))) (Ix y q.length<|Ix w q.length<|bK (S:=eG) (λi=>Iq i.1.2.2.2.1<|Oc i.2.1<|Oc i.2.2.1<|Ol i.2.2.2.1<|bg i.2.2.2.1.length [i.1.2.2.2.1].length 8/\(Ik (w+1)<|h (((),(),(),w+1,()),i.2.1,i.2.2.1,i.2.2.2.1++[i.1.2.2.2.1],()))) (λj=>cnd (t.2.1==z.1) (Ix y q.length<|t.2.2.length<=1099511627776/\(Ix w q.length<|bg t.2.2.length z.2.2.length 8/\aK (S:=LY) (λl m=>let a4:=l.2.2;let a3:=l.1.2.2.2;let u:=a3.2.1;let a0:=q.getD u.toNat (0,0,[]);Iq a3.1<|Iq u<|Oc l.2.1<|Oc a4.1<|Ol a4.2.1<|cnd (decide (u<(q.length:Int))) (Ix u q.length<|Ix y q.length<|((a0.1==t.1)=true->u<(q.length:Int)/\0<=u)/\bK (S:=eG) (λo=>Iq o.1.2.2.2.1<|Oc o.2.1<|Oc o.2.2.1<|Ol o.2.2.2.1<|Ik (u+1)<|m (((),(),(),o.1.2.2.2.1,u+1,()),o.2.1,o.2.2.1,o.2.2.2.1,())) (λp=>cnd (a0.1==t.1&&eqR cy a0.2.2 (t.2.2++z.2.2)) (p (((),(),(),u,()),l.2.1,a4.1,a4.2.1,())) (p (((),(),(),a3.1,()),l.2.1,a4.1,a4.2.1,())))) (j (((),(),(),a3.1,()),l.2.1,a4.1,a4.2.1,()))) (((),(),(),-1,0,()),g.2.1,a1,a2,()))) (j (((),(),(),-1,()),g.2.1,a1,a2,())))) (bg a1.2.2.2.2.length [a2].length 24/\(Ik (y+1)<|f (((),(),y+1,()),g.2.1,(a1.1,a1.2.1,a1.2.2.1,a1.2.2.2.1,a1.2.2.2.2++[a2]),())))) (((),(),(),0,()),e.2.1,e.2.2.1,[],())) (K (e.2.2.1,()))) (((),(),0,()),a.2.1,v,())))) (((),(),0,()),(0,[],[],[],[]),(n,[],[],List.replicate n.toNat (0:Int),[]),())
theorem Xc(n:Int)(from_ to:aA)(hok:ab (okL qm.args (n,from_,to,())))(hpre:ab (qm.pre (n,from_,to,()))):HF n from_ to (λr=>r=qm.res (n,from_,to,())):=by
 simp only[qm,okL,T.oks,T.ok,ap,ab,aL,az,aW]at hok hpre
 try dsimp only[T.den]at hok hpre
 delta HF Ik Iq Ix Oc Ol Om
 dsimp -proj -eta only;obtain⟨n0,n8,ht,hf⟩:=hpre;have hm:=@abz n from_ to;have hx:=@abm n from_ to n8;refine⟨n0,n8,ht,hf,n0,dB _,aa,aa,?_⟩;simp only[qm,nJ];generalize rq n from_ to=l at *;have hg:∀{i:Int},0<=i->i<l.length->(0<=(pAt l i).1/\(pAt l i).1<n)/\(pAt l i).2.2.length<=42:=λh0 h1=>hm (bX l _ h0 h1);refine bt (λ(s:eH)=>0<=s.1.2.2.1/\s.1.2.2.1<=l.length/\s.2.2.1=(n,((l.take s.1.2.2.1.toNat).map (·.1),((l.take s.1.2.2.1.toNat).map (·.2.1),(og l n s.1.2.2.1.toNat,[]))))) (λ(s:eH)=>(l.length-s.1.2.2.1).toNat) ?_ ⟨ak,ak,rfl⟩;rintro⟨⟨_,_,i,_⟩,o1,c,_⟩ next ⟨i0,i1,q⟩ hnx
 intros
 try dsimp only at i0 i1 q hnx⊢
 subst q;refine aE (λhi=>?_) (λhi=>?_)
 ·have hp:=hg i0 hi;have ht:=gE l (0,(0,[])) i0 hi;have hs:=Tg (l:=l) (n:=n) i0;have hl:((l.take i.toNat).map (·.1)).length=i.toNat:=by rw[cC,dW];omega
  have hl2:((l.take i.toNat).map (·.2.1)).length=i.toNat:=by rw[cC,dW];omega
  have hil:=@JF l n i.toNat;have hc:(n,((l.take (i+1).toNat).map (·.1),((l.take (i+1).toNat).map (·.2.1),(og l n (i+1).toNat,([]:List (List Int))))))=(n,((l.take i.toNat).map (·.1)++[(pAt l i).1],((l.take i.toNat).map (·.2.1)++[(pAt l i).2.1],(og l n (i+1).toNat,[])))):=by rw[ht,mr,mr];rfl
  refine⟨i0,hi,bQ (by rw[hl];simp only[aX,bh];omega),i0,hi,bQ (by rw[hl2];simp only[aX,bh];omega),i0,hi,bZ (λ(q:(g8×gh))=>q.2.2.1=(n,((l.take (i+1).toNat).map (·.1),((l.take (i+1).toNat).map (·.2.1),(og l n (i+1).toNat,([]:List (List Int))))))) ?_ ?_⟩
  ·rintro⟨_,o2,c2,_⟩ q2;intros
   try dsimp only at q2⊢
   subst q2;exact⟨aB,hnx _ ⟨an,an,rfl⟩ an⟩
  ·intro k hk;rw[hc,hs]at hk;refine aJ (λh=>?_) (λh=>?_)
   ·have h0:(pAt l i).2.2.length=0:=(by have:(((pAt l i).2.2.length:Nat):Int)=0:=eq_of_beq h;omega);rw[am h0]at hk;exact⟨i0,hi,hp.1.1,by rw[hil];show (pAt l i).1<_;omega,hk _ rfl⟩
   ·have h0:¬(pAt l i).2.2.length=0:=(by have:¬(((pAt l i).2.2.length:Nat):Int)=0:=mt.1 h;omega);rw[aj h0]at hk;exact hk _ rfl
 have ei:i=l.length:=aa
 subst ei;clear hnx;rw[cQ,List.take_length];simp only[cC];refine aJ (λh=>?_) (λh=>?_)
 ·have h40:¬l.length<=40:=by simp only[gU,w7,gM]at h;omega
  unfold Gl;rw[aj h40];rfl
 have h40:l.length<=40:=by simp only[oB,ao,db]at h;omega
 have hcat:Gl n l=vA n l (aG l.length (λi=>aG l.length (jJ l i))):=by unfold Gl;rw[am h40]
 rw[hcat];refine bt (λ(s:eH)=>0<=s.1.2.2.1/\s.1.2.2.1<=l.length/\s.2.2.1=vA n l (aG s.1.2.2.1.toNat (λi=>aG l.length (jJ l i)))) (λ(s:eH)=>(l.length-s.1.2.2.1).toNat) ?_ ⟨ak,ak,rfl⟩;rintro⟨⟨_,_,i,_⟩,o1,c,_⟩ next ⟨i0,i1,q⟩ hnx
 intros
 try dsimp only at i0 i1 q hnx⊢
 subst q;refine aE (λhi=>?_) (λhi=>?_)
 ·have hp:=hg i0 hi;refine bt (λ(s:eG)=>0<=s.1.2.2.2.1/\s.1.2.2.2.1<=l.length/\s.2.2.1=vA n l (aG i.toNat (λi=>aG l.length (jJ l i)))/\s.2.2.2.1=aG s.1.2.2.2.1.toNat (jJ l i)) (λ(s:eG)=>(l.length-s.1.2.2.2.1).toNat) ?_ ⟨ak,ak,rfl,rfl⟩;rintro⟨⟨_,_,_,j,_⟩,o2,c,r,_⟩ next1 ⟨j0,j1,q,qr⟩ hn1;intros
  try dsimp only at j0 j1 q qr hn1⊢
  subst q;subst qr;refine aE (λhj=>?_) (λhj=>?_)
  ·have hq:=hg j0 hj;refine⟨i0,hi,j0,hj,bZ (λ(q:eG)=>q.1.2.2.2.1=jJ l i j/\q.2.2.1=vA n l (aG i.toNat (λi=>aG l.length (jJ l i)))/\q.2.2.2.1=aG j.toNat (jJ l i)) ?_ ?_⟩
   ·rintro⟨⟨_,_,_,h,_⟩,o3,c3,r3,_⟩ ⟨e1,e2,e3⟩;intros
    try dsimp only at e1 e2 e3⊢
    subst e1;subst e2;subst e3;exact⟨bQ (by rw[bA];simp only[aX,bh];omega),aB,hn1 _ ⟨an,an,rfl,(eY j0).symm⟩ an⟩
   ·intro k hk;refine aJ (λh=>?_) (λh=>?_)
    ·have he:(pAt l i).2.1=(pAt l j).1:=eq_of_beq h;refine⟨i0,hi,by have:=hp.2;unfold pAt at this;omega,j0,hj,bQ (by have:=hp.2;have:=hq.2;unfold pAt at *;omega),?_⟩;have hcm:jJ l i j=vo l.length (xE l i j):=by unfold jJ;rw[am he]
     rw[hcm]at hk;refine bt (λ(s:LY)=>0<=s.1.2.2.2.2.1/\s.1.2.2.2.2.1<=l.length/\s.1.2.2.2.1=vo s.1.2.2.2.2.1.toNat (xE l i j)/\s.2.2.1=vA n l (aG i.toNat (λi=>aG l.length (jJ l i)))/\s.2.2.2.1=aG j.toNat (jJ l i)) (λ(s:LY)=>(l.length-s.1.2.2.2.2.1).toNat) ?_ ⟨ak,ak,rfl,rfl,rfl⟩;rintro⟨⟨_,_,_,h,m,_⟩,o3,c3,r3,_⟩ next3 ⟨m0,m1,e1,e2,e3⟩ hn3;intros
     try dsimp only at m0 m1 e1 e2 e3 hn3⊢
     subst e1;subst e2;subst e3;refine aE (λhm=>?_) (λhm=>?_)
     ·refine⟨m0,hm,i0,hi,λ_=>⟨hm,m0⟩,bZ (λ(q:eG)=>q.1.2.2.2.1=vo (m+1).toNat (xE l i j)/\q.2.2.1=vA n l (aG i.toNat (λi=>aG l.length (jJ l i)))/\q.2.2.2.1=aG j.toNat (jJ l i)) ?_ ?_⟩
      ·rintro⟨⟨_,_,_,h,_⟩,o4,c4,r4,_⟩ ⟨e1,e2,e3⟩;intros
       try dsimp only at e1 e2 e3⊢
       subst e1;subst e2;subst e3;exact⟨aB,hn3 _ ⟨an,an,rfl,rfl,rfl⟩ an⟩
      ·intro k1 hk1;rw[acu m0]at hk1;refine aJ (λhb=>?_) (λhb=>?_)
       ·exact hk1 _ ⟨(am hb).symm,rfl,rfl⟩
       ·exact hk1 _ ⟨(aj (by show ¬xE l i j m=true;exactλh=>by rw[show xE l i j m=false from hb]at h;cases h)).symm,rfl,rfl⟩
     ·have em:m=l.length:=aa
      subst em;exact hk _ ⟨rfl,rfl,rfl⟩
    ·have he:¬(pAt l i).2.1=(pAt l j).1:=mt.1 h;have hcm:jJ l i j=-1:=by unfold jJ;rw[aj he]
     rw[hcm]at hk;exact hk _ ⟨rfl,rfl,rfl⟩
  ·have ej:j=l.length:=aa
   subst ej;refine⟨bQ (by show ((aG i.toNat _).length+_)*24<=_;rw[bA];simp only[aX,bh];omega),by rw[cF];(try dsimp only);omega,hnx _ ⟨an,an,?_⟩ an⟩
   try dsimp only
   rw[eY i0];rfl
 ·have ei:i=l.length:=aa
  subst ei;rfl
theorem CU:aN Tryz.prog 126 qm:=ctb (au oL (au Xd (au HM (au Yj aR)))) aS 126 Tryz.f126 qm W2 [(20,10),(21,511),(6,508),(7,508),(25,18),(9,508)] (λx K=>HF x.1 x.2.1 x.2.2.1 K) (λx h1 h2=>Xc x.1 x.2.1 x.2.2.1 h1 h2)
structure PoC (n b:Int) (c:ah):Prop where
 ob:c.1=n
 lt:c.2.2.1.length=c.2.1.length
 m:(c.2.1.length:Int)<=b
 fr:∀x∈c.2.1,0<=x/\x<n
 to:∀x∈c.2.2.1,0<=x/\x<n
theorem PoC.le(h:PoC n a c)(hb:a<=b):PoC n b c:=⟨h.ob,h.lt,by have:=h.m;omega,h.fr,h.to⟩
structure NumL (k b:Int) (w:aA):Prop where
 l:(w.length:Int)=k
 e:∀x∈w,-b<=x/\x<=64
theorem NumL.push(h:NumL k b l)(h0:-b<=x)(h1:x<=64):NumL (k+1) b (l++[x]):=
 ⟨by rw[bn];have:=h.l;simp only[aX,bh];omega,λy hy=>by
  rcases eS.1 hy with hy|hy
  ·exact h.e y hy
  ·rw[cA.1 hy];exact⟨h0,h1⟩⟩
theorem NumL.at(h:NumL k b l)(h0:0<=i)(h1:i<k):-b<=l.getD i.toNat 0/\l.getD i.toNat 0<=64:=h.e _ (bX l 0 h0 (by have:=h.l;omega))
structure NumT (k n b:Int) (t:bW):Prop where
 l:(t.length:Int)=k
 e:∀r∈t,NumL n b r
theorem NumT.push(h:NumT k n b t)(hr:NumL n b r):NumT (k+1) n b (t++[r]):=
 ⟨by rw[bn];have:=h.l;simp only[aX,bh];omega,λy hy=>by
  rcases eS.1 hy with hy|hy
  ·exact h.e y hy
  ·rw[cA.1 hy];exact hr⟩
theorem NumT.at(h:NumT k n b t)(h0:0<=i)(h1:i<k):NumL n b (t.getD i.toNat []):=h.e _ (bX t [] h0 (by have:=h.l;omega))
def Cf(F T:aA)(h a b:Int):Prop:=0<=h/\h<F.length/\F.getD h.toNat 0=a/\T.getD h.toNat 0=b
theorem Cf.app{T:aA}{h:Int}(hl:T.length=F.length)(H:Cf F T h a b):Cf (F++[x]) (T++[y]) h a b:=by obtain⟨h0,h1,h2,h3⟩:=H;exact⟨h0,by rw[bn];simp only[aX,bh];omega,by rw[iw h0 h1];exact h2,by rw[iw h0 aa];exact h3⟩
structure PoG (rel:bW) (n:Int) (num:bW) (F T:aA) (i j:Int) (row:aA):Prop where
 a:∀a b:Int,0<=a->a<i->0<=b->b<n->c7 rel a b=1->Cf F T (c7 num a b) a b
 r:∀b:Int,0<=b->b<j->c7 rel i b=1->Cf F T (row.getD b.toNat 0) i b
 k:∀f:Int,0<=f->f<F.length->c7 rel (F.getD f.toNat 0) (T.getD f.toNat 0)=1
theorem PoG.yes{T:aA}{row:aA}(h:PoG rel n num F T i j row)(hl:T.length=F.length)(hr:(row.length:Int)=j)(h1:c7 rel i j=1):PoG rel n num (F++[i]) (T++[j]) i (j+1) (row++[(F.length:Int)]):=by
 refine⟨λa b a0 a1 b0 b1 e=>(h.a a b a0 a1 b0 b1 e).app hl,λb b0 b1 e=>?_,λf f0 f1=>?_⟩
 ·by_cases hb:b<j
  ·rw[iw b0 aa];exact (h.r b b0 hb e).app hl
  ·have:b=j:=aa
   subst this;rw[lh aa,show (b-(row.length:Int)).toNat=0 by omega];refine⟨ak,by simp;omega,?_,?_⟩
   ·simp only[wx];rw[lh (dB _),Int.sub_self];rfl
   ·simp only[wx];rw[lh aa,show ((F.length:Int)-T.length).toNat=0 by omega];rfl
 ·rw[bn]at f1;simp only[aX,bh]at f1;by_cases hf:f<F.length
  ·rw[iw f0 hf,iw f0 aa];exact h.k f f0 hf
  ·rw[lh aa,lh aa,show (f-(F.length:Int)).toNat=0 by omega,show (f-(T.length:Int)).toNat=0 by omega];exact h1
theorem PoG.no{T:aA}{row:aA}(h:PoG rel n num F T i j row)(hr:(row.length:Int)=j)(h1:c7 rel i j≠1):PoG rel n num F T i (j+1) (row++[x]):=by
 refine⟨h.a,λb b0 b1 e=>?_,h.k⟩;by_cases hb:b<j
 ·rw[iw b0 aa];exact h.r b b0 hb e
 ·have:b=j:=aa
  subst this;exact absurd e h1
theorem PoG.next{T:aA}{row:aA}(h:PoG rel n num F T i n row)(hn:(num.length:Int)=i):PoG rel n (num++[row]) F T (i+1) 0 []:=by
 refine⟨λa b a0 a1 b0 b1 e=>?_,λb b0 b1=>aa,h.k⟩;unfold c7;by_cases ha:a<i
 ·rw[iw a0 aa];exact h.a a b a0 ha b0 b1 e
 ·have:a=i:=aa
  subst this;rw[lh aa,show (a-(num.length:Int)).toNat=0 by omega];exact h.r b b0 b1 e
def poH(num:bW)(F T:aA)(f g:Int):Int:=if T.getD f.toNat 0=F.getD g.toNat 0 then c7 num (F.getD f.toNat 0) (T.getD g.toNat 0)else -1
theorem afn{T I:aA}(P:PreP rel)(hn:(rel.length:Int)=n)(C:PoC n b (n,F,T,I,W))(G:PoG rel n num F T n 0 [])(hI:I=aG n.toNat λy=>c7 num y y)(hW:W=aG F.length λf=>aG F.length (poH num F T f)):TyP (n,F,T,I,W):=by
 have hlt:T.length=F.length:=C.lt;have n0:0<=n:=aa
 have fr:∀f:Int,0<=f->f<F.length->0<=F.getD f.toNat 0/\F.getD f.toNat 0<n:=λf f0 f1=>C.fr _ (bX F 0 f0 f1);have to:∀f:Int,0<=f->f<F.length->0<=T.getD f.toNat 0/\T.getD f.toNat 0<n:=λf f0 f1=>C.to _ (bX T 0 f0 aa);have gC:∀f g:Int,0<=f->f<F.length->0<=g->g<F.length->aq (n,F,T,I,W) f g=poH num F T f g:=λf g f0 f1 g0 g1=>by show (W.getD f.toNat []).getD g.toNat 0=_;rw[hW,dN f0 f1,dN g0 g1]
 refine⟨n0,hlt,by show (I.length:Int)=n;rw[hI,bA];omega,by show W.length=F.length;rw[hW,bA],λf f0 f1=>?_,fr,to,λx x0 x1=>?_,λf g f0 f1 g0 g1 e=>?_,λf g f0 f1 g0 g1 e=>?_⟩
 ·show (W.getD f.toNat []).length=F.length;rw[hW,dN f0 f1,bA]
 ·have x1:x<n:=x1;have:=G.a x x x0 x1 x0 x1 (P.r x x0 aa);show 0<=I.getD x.toNat 0/\I.getD x.toNat 0<F.length/\F.getD (I.getD x.toNat 0).toNat 0=x/\T.getD (I.getD x.toNat 0).toNat 0=x;rw[hI,dN x0 aa];exact this
 ·have e:T.getD f.toNat 0=F.getD g.toNat 0:=e;have a1:=fr f f0 f1;have a2:=to f f0 f1;have b2:=to g g0 g1;have h1:=G.k f f0 f1;have h2:=G.k g g0 g1;rw[←e]at h2;have:=G.a _ _ a1.1 a1.2 b2.1 b2.2 (P.t _ _ _ a1.1 aa a2.1 aa b2.1 aa h1 h2);rw[gC f g f0 f1 g0 g1];unfold poH;rw[am e];exact this
 ·have e:T.getD f.toNat 0≠F.getD g.toNat 0:=e;rw[gC f g f0 f1 g0 g1];unfold poH;rw[aj e]
def mA:Ct:=⟨[yn],[false],λx=>[RowP x.1.length x.1,x.1.length<=8],[(true,fM)],λ_=>dfR _,false,none⟩
def zK(rel:bW)(r0:ah):Prop:=CgR 64 r0/\r0.1=(rel.length:Int)/\(r0.2.1.length:Int)<=8*rel.length/\(PreP rel->TyP r0)
def MM:Ann:=(.s .n (.s .n (.s .n (.s .n (.s (.s .n (.l [(2,(.ad 2 [.de])),(4,(.ref 800004 [])),(5,(.ad 5 [.de])),(6,(.d aC))] [(2,cG),(800004,iU),(5,cG)] [0,3] (.s .n (.s (.s .n (.s (.s .n (.l [(2,(.ad 2 [.de])),(4,(.ref 800004 [])),(5,(.ad 5 [.de])),(7,(.ref 800007 [])),(8,(.d aC))] Uj [0,3,6] (.s .n (.s (.s .n (.s .n (.j [(2,(.ad 2 [.de])),(4,(.ref 800004 [])),(5,(.ad 5 [.de])),(7,(.ref 800007 []))] Uj [0,3,6,8] .n))) .n)))) .n)) .n)))) (.s (.s .n (.l [(2,(.ad 2 [.de])),(5,(.ad 5 [.de])),(9,(.d aC))] [(2,cG),(5,cG)] [3,4] .n)) (.s (.s .n (.l [(2,(.ad 2 [.de])),(5,(.ad 5 [.de])),(10,(.d aC))] [(2,cG),(5,cG)] [4] (.s .n (.s (.s .n (.s (.s .n (.l [(2,(.ad 2 [.de])),(5,(.ad 5 [.de])),(11,(.ref 800011 [])),(12,(.d aC))] [(2,cG),(5,cG),(800011,bS)] [4,10] (.s .n (.s (.s .n (.s (.s .n (.j [(2,(.ad 2 [.de])),(5,(.ad 5 [.de])),(11,(.ref 800011 [])),(13,(.d aC))] [(2,cG),(5,cG),(800011,bS)] [4,10,12] .n)) .n)) .n)))) .n)) .n)))) .n)))))))
def zU(rel:bW)(K:ny):Prop:=let a1:=rel.length;aK (S:=LZ) (λa b=>let r:=a.1.2.2.2.1;Iq r<|Oc a.2.1<|Om a.2.2.1<|Oc a.2.2.2.1<|cnd (decide (r<(a1:Int))) (aK (S:=(vQ×Ci)) (λc d=>let a5:=c.2.2.1;let q:=c.1.2.2.2.2.1;let p:=c.2.2.2;let z:=p.1.2.1.length;Iq q<|Oc c.2.1<|Om a5<|Oc p.1<|Ol p.2.1<|cnd (decide (q<(a1:Int))) (bg p.2.1.length [(z:Int)].length 8/\(Ix r a1<|Ix q (rel.getD r.toNat []).length<|bK (S:=((Unit×(Unit×g8))×Ci)) (λe=>Oc e.2.1<|Om e.2.2.1<|Oc e.2.2.2.1<|Ol e.2.2.2.2.1<|Ik (q+1)<|d (((),(),(),(),q+1,()),e.2.1,e.2.2.1,e.2.2.2.1,e.2.2.2.2.1,())) (λf=>cnd ((rel.getD r.toNat []).getD q.toNat 0==1) (bg z [r].length 8/\bg p.1.2.2.1.length [q].length 8/\f (((),(),(),(),()),c.2.1,a5,(p.1.1,p.1.2.1++[r],p.1.2.2.1++[q],p.1.2.2.2),p.2.1++[(z:Int)],())) (f (((),(),(),(),()),c.2.1,a5,p.1,p.2.1++[(z:Int)],()))))) (bg a5.length [p.2.1].length 24/\(Ik (r+1)<|b (((),(),(),r+1,()),c.2.1,a5++[p.2.1],p.1,())))) (((),(),(),(),0,()),a.2.1,a.2.2.1,a.2.2.2.1,[],())) (aK (S:=(dD×gh)) (λg h=>let a0:=g.2.2.1;let u:=g.1.2.2.1;let y:=a.2.2.1.getD u.toNat [];Iq u<|Oc g.2.1<|Oc a0<|cnd (decide (u<(a1:Int))) (Ix u a.2.2.1.length<|Ix u y.length<|bg a0.2.2.2.1.length [y.getD u.toNat 0].length 8/\(Ik (u+1)<|h (((),(),u+1,()),g.2.1,(a0.1,a0.2.1,a0.2.2.1,a0.2.2.2.1++[y.getD u.toNat 0],a0.2.2.2.2),()))) (aK (S:=(dD×gh)) (λi j=>let x:=i.1.2.2.1;Iq x<|Oc i.2.1<|Oc i.2.2.1<|cnd (decide (x<(i.2.2.1.2.1.length:Int))) (aK (S:=eG) (λl m=>let a2:=l.2.2.2.1;let w:=l.2.2.1;let a6:=w.2.1.length;let v:=w.2.1.getD x.toNat 0;let a3:=a.2.2.1.getD v.toNat [];let t:=l.1.2.2.2.1;let a4:=w.2.2.1.getD t.toNat 0;Iq t<|Oc l.2.1<|Oc w<|Ol a2<|cnd (decide (t<(a6:Int))) (Ix x w.2.2.1.length<|Ix t a6<|bK (S:=eG) (λn=>Iq n.1.2.2.2.1<|Oc n.2.1<|Oc n.2.2.1<|Ol n.2.2.2.1<|bg n.2.2.2.1.length [n.1.2.2.2.1].length 8/\(Ik (t+1)<|m (((),(),(),t+1,()),n.2.1,n.2.2.1,n.2.2.2.1++[n.1.2.2.2.1],()))) (λo=>cnd (w.2.2.1.getD x.toNat 0==w.2.1.getD t.toNat 0) (Ix x a6<|Ix v a.2.2.1.length<|Ix t w.2.2.1.length<|Ix a4 a3.length<|o (((),(),(),a3.getD a4.toNat 0,()),l.2.1,w,a2,())) (o (((),(),(),-1,()),l.2.1,w,a2,())))) (bg w.2.2.2.2.length [a2].length 24/\(Ik (x+1)<|j (((),(),x+1,()),l.2.1,(w.1,w.2.1,w.2.2.1,w.2.2.2.1,w.2.2.2.2++[a2]),())))) (((),(),(),0,()),i.2.1,i.2.2.1,[],())) (K (i.2.2.1,()))) (((),(),0,()),g.2.1,a0,()))) (((),(),0,()),a.2.1,a.2.2.2.1,()))) (((),(),(),0,()),(0,[],[],[],[]),[],((a1:Int),[],[],[],[]),())
theorem Xa(rel:bW)(hok:ab (okL mA.args (rel,())))(hpre:ab (mA.pre (rel,()))):zU rel (λr=>zK rel r.1):=by
 simp only[mA,okL,T.oks,T.ok,ap,ab,aL,az,aW]at hok hpre
 try dsimp only[T.den]at hok hpre
 delta zU zK Ik Iq Ix Oc Ol Om
 dsimp -proj -eta only;obtain⟨hR,h8⟩:=hpre;clear hok;generalize hn:rel.length=n0 at *;obtain⟨n,hnn⟩:∃n:Int,n=(n0:Int):=⟨_,rfl⟩;rw[←hnn]at hR⊢;have n0':0<=n:=aa
 have n8:n<=8:=aa
 have rl:(rel.length:Int)=n:=aa
 refine bt (λ(s:LZ)=>0<=s.1.2.2.2.1/\s.1.2.2.2.1<=n/\NumT s.1.2.2.2.1 n 0 s.2.2.1/\(PoC n (8*s.1.2.2.2.1) s.2.2.2.1/\PoG rel n s.2.2.1 s.2.2.2.1.2.1 s.2.2.2.1.2.2.1 s.1.2.2.2.1 0 [])/\s.2.2.2.1.2.2.2=([],[])) (λ(s:LZ)=>(n-s.1.2.2.2.1).toNat) ?_ ⟨ak,by simpa using n0',⟨rfl,ak⟩,⟨⟨rfl,rfl,ak,ak,ak⟩,⟨λa b a0 a1=>by dsimp only at a1;omega,λb b0 b1=>aa,λf f0 f1=>by simp at f1;omega⟩⟩,rfl⟩;rintro⟨⟨_,_,_,i,_⟩,o1,num,c,_⟩ next ⟨i0,i1,hN,⟨hP,hG⟩,hz⟩ hnx
 intros
 try dsimp only at i0 i1 hN hP hG hz hnx⊢
 refine aE (λhi=>?_) (λhi=>?_)
 ·refine bt (λ(s:(vQ×Ci))=>0<=s.1.2.2.2.2.1/\s.1.2.2.2.2.1<=n/\s.2.2.1=num/\(PoC n (8*i+s.1.2.2.2.2.1) s.2.2.2.1/\PoG rel n num s.2.2.2.1.2.1 s.2.2.2.1.2.2.1 i s.1.2.2.2.2.1 s.2.2.2.2.1)/\s.2.2.2.1.2.2.2=([],[])/\NumL s.1.2.2.2.2.1 0 s.2.2.2.2.1) (λ(s:(vQ×Ci))=>(n-s.1.2.2.2.2.1).toNat) ?_ ⟨ak,by simpa using n0',rfl,⟨hP.le (by (try dsimp only);omega),hG⟩,hz,⟨rfl,ak⟩⟩;rintro⟨⟨_,_,_,_,j,_⟩,o2,num2,c2,row,_⟩ next2 ⟨j0,j1,q1,⟨hP2,hG2⟩,hz2,hL⟩ hn2;intros
  try dsimp only at j0 j1 q1 hP2 hG2 hz2 hL hn2⊢
  subst q1;have m2:=hP2.m;have l2:=hP2.lt;have ll:=hL.l;refine aE (λhj=>?_) (λhj=>?_)
  ·have hr:=hR.row (i:=i) i0 aa;refine⟨bQ (by simp only[aX,bh];omega),i0,aa,j0,aa,bZ (λ(q:((Unit×(Unit×g8))×Ci))=>q.2.2.1=num2/\(PoC n (8*i+(j+1)) q.2.2.2.1/\PoG rel n num2 q.2.2.2.1.2.1 q.2.2.2.1.2.2.1 i (j+1) q.2.2.2.2.1)/\q.2.2.2.1.2.2.2=([],[])/\NumL (j+1) 0 q.2.2.2.2.1) ?_ (λk hk=>aJ (λhone=>⟨bQ (by simp only[aX,bh];omega),bQ (by simp only[aX,bh];omega),hk _ ⟨rfl,⟨⟨hP2.ob,?_,?_,?_,?_⟩,hG2.yes l2 ll (by unfold c7;simpa using hone)⟩,hz2,hL.push aa aa⟩⟩) (λhone=>hk _ ⟨rfl,⟨hP2.le aa,hG2.no ll (by unfold c7;simpa using hone)⟩,hz2,hL.push aa aa⟩))⟩
   ·rintro⟨_,o3,num3,c3,row3,_⟩ ⟨q1,q2,q3,q4⟩;intros
    try dsimp only at q1 q2 q3 q4⊢
    exact⟨aB,hn2 _ ⟨an,an,q1,q2,q3,q4⟩ cw⟩
   ·try dsimp only;simp only[bn,aX,bh];omega
   ·try dsimp only;simp only[bn,aX,bh];omega
   ·try dsimp only;intro x hx
    rcases eS.1 hx with hx|hx
    ·exact hP2.fr x hx
    ·rw[cA.1 hx];omega
   ·try dsimp only;intro x hx
    rcases eS.1 hx with hx|hx
    ·exact hP2.to x hx
    ·rw[cA.1 hx];omega
  ·have e:j=n:=aa
   rw[e]at hL hP2 hG2;have:=hN.l;exact⟨bQ (by simp only[aX,bh];omega),aB,hnx _ ⟨an,an,hN.push hL,⟨hP2.le an,hG2.next this⟩,hz2⟩ cw⟩
 have ei:i=n:=aa
 rw[ei]at hN hP hG;replace hP:=hP.le (b:=8*n) aa;have nl:=hN.l;refine bt (λ(s:eH)=>0<=s.1.2.2.1/\s.1.2.2.1<=n/\(PoC n (8*n) s.2.2.1/\s.2.2.1.2.1=c.2.1/\s.2.2.1.2.2.1=c.2.2.1/\s.2.2.1.2.2.2.1=aG s.1.2.2.1.toNat λy=>c7 num y y)/\s.2.2.1.2.2.2.2=[]/\NumL s.1.2.2.1 0 s.2.2.1.2.2.2.1) (λ(s:eH)=>(n-s.1.2.2.1).toNat) ?_ ⟨ak,by simpa using n0',⟨hP,rfl,rfl,by dsimp only;rw[hz];simp[aG]⟩,by dsimp only;rw[hz],by dsimp only;rw[hz];exact⟨rfl,ak⟩⟩;rintro⟨⟨_,_,y,_⟩,o2,c2,_⟩ next1 ⟨y0,y1,⟨hP2,eF,eT,eI⟩,hz2,hL⟩ hn1;intros
 try dsimp only at y0 y1 hP2 eF eT eI hz2 hL hn1⊢
 have ll:=hL.l;refine aE (λhy=>?_) (λhy=>?_)
 ·have hr:=hN.at y0 aa;have hrl:=hr.l;have hv:=hr.at y0 aa;exact⟨y0,aa,y0,aa,bQ (by simp only[aX,bh];omega),aB,hn1 _ ⟨an,an,⟨⟨hP2.ob,hP2.lt,hP2.m,hP2.fr,hP2.to⟩,eF,eT,by dsimp only;rw[eI,eY y0];rfl⟩,hz2,hL.push hv.1 hv.2⟩ cw⟩
 have ey:y=n:=aa
 rw[ey]at hL eI;have m2:=hP2.m;have l2:=hP2.lt;refine bt (λ(s:eH)=>0<=s.1.2.2.1/\s.1.2.2.1<=c2.2.1.length/\s.2.2.1.1=c2.1/\s.2.2.1.2.1=c2.2.1/\s.2.2.1.2.2.1=c2.2.2.1/\s.2.2.1.2.2.2.1=c2.2.2.2.1/\NumT s.1.2.2.1 c2.2.1.length 64 s.2.2.1.2.2.2.2/\s.2.2.1.2.2.2.2=aG s.1.2.2.1.toNat λf=>aG c2.2.1.length (poH num c2.2.1 c2.2.2.1 f)) (λ(s:eH)=>(c2.2.1.length-s.1.2.2.1).toNat) ?_ ⟨ak,ak,rfl,rfl,rfl,rfl,by dsimp only;rw[hz2];exact⟨rfl,ak⟩,by dsimp only;rw[hz2];simp[aG]⟩;rintro⟨⟨_,_,f,_⟩,o3,⟨c31,c32,c33,c34,c35⟩,_⟩ next2 ⟨f0,f1,q1,q2,q3,q4,hT,eW⟩ hn2;intros
 try dsimp only at f0 f1 q1 q2 q3 q4 hT eW hn2⊢
 subst q1;subst q2;subst q3;subst q4;have tl:=hT.l;refine aE (λhf=>?_) (λhf=>?_)
 ·refine bt (λ(s:eG)=>0<=s.1.2.2.2.1/\s.1.2.2.2.1<=c2.2.1.length/\s.2.2.1=(c2.1,c2.2.1,c2.2.2.1,c2.2.2.2.1,c35)/\(NumL s.1.2.2.2.1 64 s.2.2.2.1/\s.2.2.2.1=aG s.1.2.2.2.1.toNat (poH num c2.2.1 c2.2.2.1 f))) (λ(s:eG)=>(c2.2.1.length-s.1.2.2.2.1).toNat) ?_ ⟨ak,ak,rfl,⟨rfl,ak⟩,by simp[aG]⟩;rintro⟨⟨_,_,_,g,_⟩,o4,c4,row,_⟩ next3 ⟨g0,g1,q1,hL3,eR⟩ hn3;intros
  try dsimp only at g0 g1 q1 hL3 eR hn3⊢
  subst q1
  try dsimp only
  have ll3:=hL3.l;refine aE (λhg=>?_) (λhg=>?_)
  ·have a1:=hP2.fr _ (bX c2.2.1 0 f0 hf);have a2:=hP2.to _ (bX c2.2.2.1 0 g0 aa);have hr:=hN.at a1.1 a1.2;have hrl:=hr.l;have hv:=hr.at a2.1 a2.2;refine⟨f0,aa,g0,hg,bZ (λ(q:eG)=>(-64<=q.1.2.2.2.1/\q.1.2.2.2.1<=64/\q.1.2.2.2.1=poH num c2.2.1 c2.2.2.1 f g)/\q.2.2.1=(c2.1,c2.2.1,c2.2.2.1,c2.2.2.2.1,c35)/\q.2.2.2.1=row) ?_ (λk hk=>aJ (λhq=>⟨f0,hf,a1.1,aa,g0,aa,a2.1,aa,hk _ ⟨⟨an,an,by dsimp only;unfold poH;rw[am (by simpa using hq)];rfl⟩,rfl,rfl⟩⟩) (λhq=>hk _ ⟨⟨an,an,by dsimp only;unfold poH;rw[aj (by simpa using hq)]⟩,rfl,rfl⟩))⟩;rintro⟨⟨_,_,_,h,_⟩,o5,c5,row5,_⟩ ⟨⟨q1,q2,q5⟩,q3,q4⟩;intros
   try dsimp only at q1 q2 q3 q4 q5⊢
   subst q3;subst q4;exact⟨bQ (by simp only[aX,bh];omega),aB,hn3 _ ⟨an,an,rfl,hL3.push q1 q2,by dsimp only;rw[eR,eY g0,q5]⟩ cw⟩
  ·have e:g=c2.2.1.length:=aa
   rw[e]at hL3 eR;exact⟨bQ (by simp only[aX,bh];omega),aB,hn2 _ ⟨an,an,rfl,rfl,rfl,rfl,hT.push hL3,by dsimp only;rw[eW,eY f0,eR,cQ]⟩ cw⟩
 have ef:f=c2.2.1.length:=aa
 rw[ef]at hT eW;have hob:=hP2.ob;have tl:=hT.l;have ll:=hL.l;refine⟨⟨aa,by (try dsimp only);omega,by (try dsimp only);omega,by (try dsimp only);omega,l2,by (try dsimp only);omega,by (try dsimp only);omega,λx hx=>by have:=hP2.fr x hx;omega,λx hx=>by have:=hP2.to x hx;omega,λx hx=>by have:=hL.e x hx;omega,λr hr=>?_⟩,by (try dsimp only);omega,by (try dsimp only);omega,λhpre=>?_⟩
 ·have h:=hT.e r hr;exact⟨by have:=h.l;(try dsimp only);omega,h.e⟩
 ·rw[cQ]at eW;have G:PoG rel n num c2.2.1 c2.2.2.1 n 0 []:=by rw[eF,eT];exact hG
  have C:PoC n (8*n) (n,c2.2.1,c2.2.2.1,c2.2.2.2.1,c35):=⟨rfl,hP2.lt,hP2.m,hP2.fr,hP2.to⟩;have:=afn hpre rl C G eI eW;rw[hob];exact this
theorem HK(rel:bW):∃q:ah×Unit,ab (okL mA.args (rel,()))->ab (mA.pre (rel,()))->zU rel (λr=>r=q)/\ab (okR mA.rt q)/\zK rel q.1:=pkb aR aS 123 Tryz.f123 mA MM [(19,510),(28,10),(29,13)] (λx K=>zU x.1 K) (λx r=>zK x.1 r.1) (λx h1 h2=>Xa x.1 h1 h2) (rel,())
def fZ(rel:bW):ah:=(HK rel).choose.1
theorem Ni(rel:bW)(hok:ab (okL mA.args (rel,())))(hpre:ab (mA.pre (rel,()))):ab (okR mA.rt (fZ rel,()))/\zK rel (fZ rel):=((HK rel).choose_spec hok hpre).2
def wP:Ct:=⟨[yn],[false],λx=>[RowP x.1.length x.1,x.1.length<=8],[(true,fM)],λx=>((fZ x.1),()),false,none⟩
theorem oE:aN Tryz.prog 123 wP:=ctb aR aS 123 Tryz.f123 wP MM [(19,510),(28,10),(29,13)] (λx K=>zU x.1 K) (λx h1 h2=>((HK x.1).choose_spec h1 h2).1)
theorem ae4(C:TyP c):TyP (opR c):=by
 have hlt:=C.lt;have gC:∀f g:Int,0<=f->f<c.2.1.length->0<=g->g<c.2.1.length->aq (opR c) f g=aq c g f:=λf g f0 f1 g0 g1=>rz f0 f1 g0 g1;have hl:(opR c).2.1.length=c.2.1.length:=hlt;refine⟨C.ob,hlt.symm,C.li,by rw[hl];exact bA _,λf f0 f1=>?_,λf f0 f1=>?_,λf f0 f1=>?_,λx x0 x1=>?_,λf g f0 f1 g0 g1 e=>?_,λf g f0 f1 g0 g1 e=>?_⟩
 ·rw[hl]at f1⊢;show ((aG c.2.1.length λf=>aG c.2.1.length λg=>aq c g f).getD f.toNat []).length=_;rw[dN f0 f1,bA]
 ·rw[hl]at f1;exact C.to f f0 f1
 ·rw[hl]at f1;exact C.fr f f0 f1
 ·have:=C.idn x x0 x1;rw[hl];exact⟨this.1,this.2.1,this.2.2.2,this.2.2.1⟩
 ·rw[hl]at f1 g1⊢;rw[gC f g f0 f1 g0 g1];have y:=C.yes g f g0 g1 f0 f1 e.symm;exact⟨y.1,y.2.1,y.2.2.2,y.2.2.1⟩
 ·rw[hl]at f1 g1;rw[gC f g f0 f1 g0 g1];exact C.no g f g0 g1 f0 f1 (λh=>e h.symm)
theorem Bx{n:Nat}{p:Int}(h0:0<=i)(h:i<l.length):(eE l e n p).getD i.toNat 0=l.getD i.toNat 0:=iw h0 h
theorem Bi{n:Nat}{p:Int}(h:(l.length:Int)<=i)(h1:i<l.length+n):(eE l e n p).getD i.toNat 0=e.getD (i-l.length).toNat 0+p:=by unfold eE;rw[lh h,dN aa aa]
theorem ST(C:TyP c)(D:TyP d):TyP (eq c d):=by
 have hob:=C.ob;have dob:=D.ob;have hlt:=C.lt;have dlt:=D.lt;have hli:=C.li;have dli:=D.li;have hlc:=C.lc;have hm:(eq c d).2.1.length=c.2.1.length+d.2.1.length:=kP;have frl:∀f:Int,0<=f->f<c.2.1.length->(eq c d).2.1.getD f.toNat 0=c.2.1.getD f.toNat 0:=λf h0 h1=>Bx h0 h1;have tol:∀f:Int,0<=f->f<c.2.1.length->(eq c d).2.2.1.getD f.toNat 0=c.2.2.1.getD f.toNat 0:=λf h0 h1=>Bx h0 aa;have frr:∀f:Int,(c.2.1.length:Int)<=f->f<c.2.1.length+d.2.1.length->(eq c d).2.1.getD f.toNat 0=d.2.1.getD (f-c.2.1.length).toNat 0+c.1:=λf h0 h1=>Bi h0 h1;have tor:∀f:Int,(c.2.1.length:Int)<=f->f<c.2.1.length+d.2.1.length->(eq c d).2.2.1.getD f.toNat 0=d.2.2.1.getD (f-c.2.1.length).toNat 0+c.1:=λf h0 h1=>by have:=Bi (l:=c.2.2.1) (e:=d.2.2.1) (n:=d.2.1.length) (p:=c.1) (i:=f) aa aa;rw[hlt]at this;exact this
 have rwl:∀f:Int,0<=f->f<c.2.1.length->(eq c d).2.2.2.2.getD f.toNat []=c.2.2.2.2.getD f.toNat []++List.replicate d.2.1.length (-1):=λf h0 h1=>by show (iY c d.2.1.length c.2.1.length 0++aG d.2.1.length (py c d)).getD f.toNat []=_;rw[iw h0 (by rw[oQ];exact h1),JA h0 h1,am h1,cQ]
 have rwr:∀f:Int,(c.2.1.length:Int)<=f->f<c.2.1.length+d.2.1.length->(eq c d).2.2.2.2.getD f.toNat []=py c d (f-c.2.1.length):=λf h0 h1=>by show (iY c d.2.1.length c.2.1.length 0++aG d.2.1.length (py c d)).getD f.toNat []=_;rw[lh (by rw[oQ];exact h0),oQ,dN aa aa]
 have cll:∀f g:Int,0<=f->f<c.2.1.length->0<=g->g<c.2.1.length->aq (eq c d) f g=aq c f g:=λf g f0 f1 g0 g1=>by unfold aq;rw[rwl f f0 f1,iw g0 (by rw[C.row f f0 f1];exact g1)]
 have clr:∀f g:Int,0<=f->f<c.2.1.length->(c.2.1.length:Int)<=g->g<c.2.1.length+d.2.1.length->aq (eq c d) f g=-1:=λf g f0 f1 g0 g1=>by unfold aq;rw[rwl f f0 f1,lh (by rw[C.row f f0 f1];exact g0),C.row f f0 f1,x9 aa aa]
 have crl:∀f g:Int,(c.2.1.length:Int)<=f->f<c.2.1.length+d.2.1.length->0<=g->g<c.2.1.length->aq (eq c d) f g=-1:=λf g f0 f1 g0 g1=>by unfold aq;rw[rwr f f0 f1];unfold py;rw[iw g0 (by rw[eA];exact g1),x9 g0 g1]
 have crr:∀f g:Int,(c.2.1.length:Int)<=f->f<c.2.1.length+d.2.1.length->(c.2.1.length:Int)<=g->g<c.2.1.length+d.2.1.length->aq (eq c d) f g=rH c.2.1.length (aq d (f-c.2.1.length) (g-c.2.1.length)):=λf g f0 f1 g0 g1=>by show ((eq c d).2.2.2.2.getD f.toNat []).getD g.toNat 0=_;rw[rwr f f0 f1];unfold py;rw[lh (by rw[eA];exact g0),eA,dN aa aa];rfl
 refine⟨?_,?_,?_,?_,λf f0 f1=>?_,λf f0 f1=>?_,λf f0 f1=>?_,λx x0 x1=>?_,λf g f0 f1 g0 g1 e=>?_,λf g f0 f1 g0 g1 e=>?_⟩
 ·show 0<=c.1+d.1;omega
 ·show (eE _ _ _ _).length=(eE _ _ _ _).length;rw[kP,kP];omega
 ·show ((eE _ _ _ _).length:Int)=c.1+d.1;rw[kP];omega
 ·rw[hm];show (_++_:List (List Int)).length=_;rw[bn,oQ,bA]
 ·rw[hm]at f1⊢;by_cases h:f<c.2.1.length
  ·rw[rwl f f0 h,bn,eA,C.row f f0 h]
  ·rw[rwr f aa aa];unfold py;rw[bn,eA,bA]
 ·rw[hm]at f1;show _/\_<c.1+d.1;by_cases h:f<c.2.1.length
  ·rw[frl f f0 h];have:=C.fr f f0 h;omega
  ·rw[frr f aa aa];have:=D.fr (f-c.2.1.length) aa aa;omega
 ·rw[hm]at f1;show _/\_<c.1+d.1;by_cases h:f<c.2.1.length
  ·rw[tol f f0 h];have:=C.to f f0 h;omega
  ·rw[tor f aa aa];have:=D.to (f-c.2.1.length) aa aa;omega
 ·have x1:x<c.1+d.1:=x1;rw[hm];by_cases h:x<c.1
  ·have e:(eq c d).2.2.2.1.getD x.toNat 0=c.2.2.2.1.getD x.toNat 0:=Bx x0 aa;have:=C.idn x x0 h;rw[e,frl _ this.1 this.2.1,tol _ this.1 this.2.1];exact⟨this.1,aa,this.2.2⟩
  ·have e:(eq c d).2.2.2.1.getD x.toNat 0=d.2.2.2.1.getD (x-c.1).toNat 0+c.2.1.length:=by have:=Bi (l:=c.2.2.2.1) (e:=d.2.2.2.1) (n:=d.1.toNat) (p:=c.2.1.length) (i:=x) aa aa;rw[hli]at this;exact this
   have:=D.idn (x-c.1) aa aa;rw[e,frr _ aa aa,tor _ aa aa,Int.add_sub_cancel];exact⟨aa,aa,aa,aa⟩
 ·rw[hm]at f1 g1⊢;by_cases h:f<c.2.1.length
  ·by_cases k:g<c.2.1.length
   ·rw[tol f f0 h,frl g g0 k]at e;have:=C.yes f g f0 h g0 k e;rw[cll f g f0 h g0 k,frl _ this.1 this.2.1,tol _ this.1 this.2.1,frl f f0 h,tol g g0 k];exact⟨this.1,aa,this.2.2⟩
   ·rw[tol f f0 h,frr g aa aa]at e;have h1:=C.to f f0 h;have h2:=D.fr (g-c.2.1.length) aa aa;omega
  ·by_cases k:g<c.2.1.length
   ·rw[tor f aa aa,frl g g0 k]at e;have h1:=D.to (f-c.2.1.length) aa aa;have h2:=C.fr g g0 k;omega
   ·rw[tor f aa aa,frr g aa aa]at e;have:=D.yes (f-c.2.1.length) (g-c.2.1.length) aa aa aa aa aa;rw[crr f g aa aa aa aa];unfold rH;rw[am this.1,frr _ aa aa,tor _ aa aa,Int.add_sub_cancel,frr f aa aa,tor g aa aa];exact⟨aa,aa,aa,aa⟩
 ·rw[hm]at f1 g1;by_cases h:f<c.2.1.length
  ·by_cases k:g<c.2.1.length
   ·rw[tol f f0 h,frl g g0 k]at e;rw[cll f g f0 h g0 k];exact C.no f g f0 h g0 k e
   ·exact clr f g f0 h aa aa
  ·by_cases k:g<c.2.1.length
   ·exact crl f g aa aa g0 k
   ·rw[tor f aa aa,frr g aa aa]at e;rw[crr f g aa aa aa aa,D.no _ _ aa aa aa aa (λh=>e aa)];rfl
end
end Go.Bm
