/- What the functions that FnSchemaCategories reaches give: for each its contract, what it asks, and the proof. No condition. -/
import Derived.Test.YtpmjngfhnebmaaaGreatDoorFnSchemaCategoriesFnsB
set_option linter.unusedVariables false
set_option linter.unusedSimpArgs false
namespace Go.Bm
open Go.Proofs
set_option maxRecDepth 100000
set_option maxHeartbeats 1000000
abbrev za:=@List.length_singleton
abbrev Ci:=@List.eq_of_mem_replicate
noncomputable section
variable {B:Nat}{a b f g h i j k n p x y:Int}{c d:aF}{e l r:aw}{m t:df}{s:ba}
def jR:Wt:=⟨gE,[bd],[false],λx y=>[bt x,1<=y.1.length],λx _=>x,[(false,cA)],λ_ _=>dfR _,0⟩
def zN(s:ba)(list:aw)(z:ba)(r0:Int):Prop:=bt z/\r0∈list
def CX(s:ba)(list:aw)(K:Gb):Prop:=let a:=cL s (list.length:Int);0<=s.2.1/\(Ix a list.length<|K (dq s (list.length:Int)) (list.getD a.toNat 0,()))
theorem XU(s:ba)(list:aw)(hok:ab (jR.o.strip.oks s))(hok2:ab (okL jR.as (list,())))(hpre:ab (jR.pre s (list,()))):CX s list (λz r=>zN s list z r.1):=by
 simp only[jR,O.strip,okL,T.oks,T.ok,ap,ab,aL,aA,bf]at hok hok2 hpre
 try dsimp only[T.den]at hok
 try dsimp only[T.den]at hok2
 try dsimp only[T.den]at hpre
 delta CX zN Ix
 dsimp -proj -eta only;obtain⟨hs,hl⟩:=hpre;have h0:=hok2.1;rw[bO]at h0;obtain⟨h1,h2,h3,_⟩:=fI (n:=list.length) hs az;have h4:=h3 aa;exact⟨hs.2,h2,h4,h1,cC list 0 h2 h4⟩
theorem CS(s:ba)(list:aw):∃q:ba×(Int×Unit),ab (jR.o.strip.oks s)->ab (okL jR.as (list,()))->ab (jR.pre s (list,()))->CX s list (λz r=>z=q.1/\r=q.2)/\ab (jR.o.strip.oks q.1)/\ab (okR jR.rt q.2)/\zN s list q.1 q.2.1:=pkw (au iB aQ) aR 56 Tryz.f56 jR .n [] lU (λx y K=>CX x y.1 K) (λx y z r=>zN x y.1 z r.1) (λx y h1 h2 h3=>XU x y.1 h1 h2 h3) s (list,())
def wS(s:ba)(list:aw):ba:=(CS s list).choose.1
def wP(s:ba)(list:aw):Int:=(CS s list).choose.2.1
theorem Y6(s:ba)(list:aw)(hok:ab (jR.o.strip.oks s))(hok2:ab (okL jR.as (list,())))(hpre:ab (jR.pre s (list,()))):ab (jR.o.strip.oks (wS s list))/\ab (okR jR.rt (wP s list,()))/\zN s list (wS s list) (wP s list):=((CS s list).choose_spec hok hok2 hpre).2
def N5:Wt:=⟨gE,[bd],[false],λx y=>[bt x,1<=y.1.length],λx y=>(wS x y.1),[(false,cA)],λx y=>((wP x y.1),()),0⟩
def Il:Ct:=iO N5
theorem CM:aN Tryz.prog 56 Il:=wtb (au iB aQ) aR 56 Tryz.f56 N5 .n [] (λx y h1 h2 h3=>Eq.mp (by kernel_rfl) ((CS x y.1).choose_spec h1 h2 h3).1)
theorem Tg(h:bt s)(hl:ab ((T.sl aq).oks l))(hn:1<=l.length):bt (wS s l)/\wP s l∈l:=(Y6 s l h.1 (by simpa only [jR,okL,fW,ab,aA]using hl) ⟨h,hn,trivial⟩).2.2
theorem afg(h0:inK .i64 c.1)(h1:(T.sl aq).ok c.2.1)(h2:(T.sl aq).ok c.2.2.1)(h3:(T.sl aq).ok c.2.2.2.1)(h4:(T.sl bd).ok c.2.2.2.2):ab (T.oks cS c):=by simpa only [T.oks,T.ok,ap,ab,aA]using⟨h0,h1,h2,h3,h4⟩
def jN:Wt:=⟨gE,[aq],[false],λx y=>[bt x],λx _=>x,[(false,cA)],λ_ _=>dfR _,0⟩
def z6(s:ba)(n:Int)(z:ba)(r0:Int):Prop:=bt z
def aht:FuncId->Option Ct:=lkp [(31,sH),(56,Il)]
def CC(s:ba)(n:Int)(K:Gb):Prop:=let a:=dq s 40;0<=s.2.1/\cnd (cL s 40==0) (bt a/\1<=[-1,n,9223372036854775807,-9223372036854775808].length/\K (wS a [-1,n,9223372036854775807,-9223372036854775808]) (wP a [-1,n,9223372036854775807,-9223372036854775808],())) (0<=a.2.1/\K (dq a n) (cL a n,()))
theorem WM(s:ba)(n:Int)(hok:ab (jN.o.strip.oks s))(hok2:ab (okL jN.as (n,())))(hpre:ab (jN.pre s (n,()))):CC s n (λz r=>z6 s n z r.1):=by
 simp only[jN,O.strip,okL,T.oks,T.ok,ap,ab,aL,aA,bf]at hok hok2 hpre
 try dsimp only[T.den]at hok
 try dsimp only[T.den]at hok2
 try dsimp only[T.den]at hpre
 delta CC z6
 dsimp -proj -eta only;have h1:=fI (n:=40) hpre az;refine⟨hpre.2,aC (λhc=>?_) (λhc=>?_)⟩
 ·exact⟨h1.1,ak,(Tg h1.1 (by simp[T.oks,T.ok,ab,cf,bO];have:=cf.1 hok2;omega) ak).1⟩
 ·exact⟨h1.1.2,(fI h1.1 hok2).1⟩
theorem CG(s:ba)(n:Int):∃q:ba×(Int×Unit),ab (jN.o.strip.oks s)->ab (okL jN.as (n,()))->ab (jN.pre s (n,()))->CC s n (λz r=>z=q.1/\r=q.2)/\ab (jN.o.strip.oks q.1)/\ab (okR jN.rt q.2)/\z6 s n q.1 q.2.1:=pkw (au iB (au CM aQ)) aR 57 Tryz.f57 jN .n [] lU (λx y K=>CC x y.1 K) (λx y z r=>z6 x y.1 z r.1) (λx y h1 h2 h3=>WM x y.1 h1 h2 h3) s (n,())
def zr(s:ba)(n:Int):ba:=(CG s n).choose.1
def zh(s:ba)(n:Int):Int:=(CG s n).choose.2.1
theorem WN(s:ba)(n:Int)(hok:ab (jN.o.strip.oks s))(hok2:ab (okL jN.as (n,())))(hpre:ab (jN.pre s (n,()))):ab (jN.o.strip.oks (zr s n))/\ab (okR jN.rt (zh s n,()))/\z6 s n (zr s n) (zh s n):=((CG s n).choose_spec hok hok2 hpre).2
def MP:Wt:=⟨gE,[aq],[false],λx y=>[bt x],λx y=>(zr x y.1),[(false,cA)],λx y=>((zh x y.1),()),0⟩
def Nh:Ct:=iO MP
theorem MU:aN Tryz.prog 57 Nh:=wtb (au iB (au CM aQ)) aR 57 Tryz.f57 MP .n [] (λx y h1 h2 h3=>Eq.mp (by kernel_rfl) ((CG x y.1).choose_spec h1 h2 h3).1)
theorem W_(h:bt s)(hn:inK .i64 n):bt (zr s n)/\inK .i64 (zh s n):=by obtain⟨_,h1,h2⟩:=WN s n h.1 (by simp only[jN,okL,T.oks,ap,ab,aA];exact hn) ⟨h,trivial⟩;exact⟨h2,h1.1⟩
def jS:Wt:=⟨gE,[fV,aq],[true,false],λx y=>[bt x],λx _=>x,[(true,Bl)],λ_ _=>dfR _,0⟩
def Ag(s:ba)(m:aB)(start:Int)(z:ba)(r0:aO):Prop:=bt z
def Ia:Ann:=(.s .n (.s .n (.s (.s .n (.j [(0,(.ad 1000000 [.de])),(4,(.d tyN8)),(6,(.ad 6 [.de])),(7,(.ad 7 [.de]))] Bs [] .n)) (.s (.s .n (.j Ue Bs [4] (.l [(0,(.ad 1000000 [.de])),(6,(.ad 6 [.de])),(7,(.ad 7 [.de])),(8,(.d aq))] Bs [4] (.s .n (.s (.s .n (.s (.s .n (.l [(0,(.ad 1000000 [.de])),(6,(.ad 6 [.de])),(7,(.ad 7 [.de])),(9,(.d aq)),(10,(.d aq))] Bs [4,8] .n)) .n)) .n))))) (.s (.s .n (.j Ue Bs [] .n)) .n)))))
def NQ:FuncId->Option Ct:=lkp [(19,mT),(38,qN),(31,sH),(46,lu),(57,Nh),(41,mV)]
def wW(s:ba)(m:aB)(start:Int)(K:ba->(aO×Unit)->Prop):Prop:=((!bE m)=false->inK .i64 (m.1-1))/\bZ (S:=((Unit×(uf×iw))×(jA×mG))) (λa=>let q:=a.1.2.1;let l:=q.2.1.length;Iq q.1<|Ol q.2.1<|Ol q.2.2.1<|Oa aW q.2.2.2.1<|Oa aW q.2.2.2.2<|Oa dK a.2.1.1<|Iq a.2.1.2.1<|inK .u64 a.2.1.2.2->(Iq a.2.2.1.1<|Ol a.2.2.1.2<|Iq a.2.2.2.1.1<|Ol a.2.2.2.1.2<|0<=a.2.1.2.1/\bZ (S:=FX) (λb=>let t:=b.2.2.2.1;let o:=dq b.2.1 30;let v:=zh o (l:Int);Oa dK b.2.1.1<|Iq b.2.1.2.1<|inK .u64 b.2.1.2.2->(Iq b.2.2.1.1<|Ol b.2.2.1.2<|Iq t.1<|Ol t.2<|0<=b.2.1.2.1/\bZ (S:=FX) (λc=>Oa dK c.2.1.1<|Iq c.2.1.2.1<|inK .u64 c.2.1.2.2->(Iq c.2.2.1.1<|Ol c.2.2.1.2<|Iq c.2.2.2.1.1<|Ol c.2.2.2.1.2<|K c.2.1 (c.2.2.2.1,()))) (λd=>cnd (cL b.2.1 30==0) (t.2.length<=1099511627776/\bt o/\aX t.2.length [v].length 8/\d (((),(),(),()),zr o (l:Int),b.2.2.1,(t.1,t.2++[v]),())) (d (((),(),(),()),o,b.2.2.1,t,()))))) (λe=>aI (S:=LQ) (λf g=>let z:=f.2.2;let w:=f.1.2.2.2.1;Iq w<|Oa dK f.2.1.1<|Iq f.2.1.2.1<|inK .u64 f.2.1.2.2->(Iq z.1.1<|Ol z.1.2<|Iq z.2.1.1<|Ol z.2.1.2<|cnd (decide (0<w)) (0<=f.2.1.2.1/\aI (S:=(BV×(jA×mG))) (λh i=>let a0:=h.2.2.1;let p:=h.2.2.2.1;let u:=bD p.2 (q.2.2.1.length:Int);let n:=h.1.2.2.2;let y:=q.2.1.getD n.1.toNat 0;let x:=Int.tmod (n.1+1) (l:Int);let r:=decide (n.2.1<(l:Int));Iq n.1<|Iq n.2.1<|Oa dK h.2.1.1<|Iq h.2.1.2.1<|inK .u64 h.2.1.2.2->(Iq a0.1<|Ol a0.2<|Iq p.1<|Ol p.2<|(r=true->n.1<(l:Int)/\0<=n.1)/\(r=true->u=true)/\cnd (r&&y != dF q p) (Ik (n.1+1)<|(l:Int)≠0/\(Ik x<|Ik (n.2.1+1)<|i (((),(),(),x,n.2.1+1,()),h.2.1,a0,p,()))) ((((l:Int)==0)=false->n.1<(l:Int)/\0<=n.1)/\(((l:Int)==0)=false->u=true)/\cnd ((l:Int)==0||y != dF q p) (e (((),(),(),()),h.2.1,a0,p,())) (p.2.length<=1099511627776/\aX p.2.length [n.1].length 8/\(Ik (w-1)<|g (((),(),(),w-1,()),h.2.1,a0,(p.1,p.2++[n.1]),())))))) (((),(),(),cL f.2.1 (l:Int),0,()),dq f.2.1 (l:Int),z.1,z.2.1,())) (e (((),(),(),()),f.2.1,z.1,z.2.1,())))) (((),(),(),cL a.2.1 7,()),dq a.2.1 7,a.2.2.1,a.2.2.2.1,())))) (λj=>cnd (!bE m||!inR start 0 (m.1-1)) (K s ((start,[]),())) (j (((),m,(),(),()),s,(0,[]),(start,[]),())))
theorem YP(s:ba)(m:aB)(start:Int)(hok:ab (jS.o.strip.oks s))(hok2:ab (okL jS.as (m,start,())))(hpre:ab (jS.pre s (m,start,()))):wW s m start (λz r=>Ag s m start z r.1):=by
 simp only[jS,O.strip,okL,T.oks,T.ok,ap,ab,aL,aA,bf]at hok hok2 hpre
 try dsimp only[T.den]at hok
 try dsimp only[T.den]at hok2
 try dsimp only[T.den]at hpre
 delta wW Ag Ik Iq Oa Ol
 dsimp -proj -eta only;have hS:bt s:=hpre;have hm1:=cf.1 hok2.1;refine⟨λh=>?_,cp (λ(q:((Unit×(uf×iw))×(jA×mG)))=>q.1.2.1=m/\bE m=true/\bt q.2.1/\q.2.2.2.1.2=[]) (λq hq=>?_) (λk hk=>aC (λ_=>hS) (λh=>hk _ ⟨rfl,?_,hS,rfl⟩))⟩
 ·have h:bE m=true:=by simpa using h
  have:=(fH h).1;rw[cf];omega
 rotate_left
 ·rw[gV]at h;simpa using h.1
 obtain⟨⟨_,m',_⟩,src,p0,p,_⟩:=q;obtain⟨rfl,hI,hS1,hp⟩:=hq;intros
 try dsimp only at hI hS1 hp⊢
 obtain⟨_,_,f8,tf,_⟩:=fH hI;clear hok2 hok;have h7:=fI (n:=7) hS1 az;refine⟨hS1.2,cp (λ(q:FX)=>bt q.2.1/\q.2.2.2.1.2.length<=1000) (λq hq=>?_) (λk hk=>?_)⟩
 ·obtain⟨hS2,hl⟩:=hq;intros;have h30:=fI (n:=30) hS2 az;refine⟨hS2.2,cp (λ(q:FX)=>bt q.2.1) (λq hq=>by intros;exact hq) (λk hk=>aC (λ_=>⟨aa,h30.1,bh (by simp only[aH,aM];omega),hk _ ?_⟩) (λ_=>hk _ h30.1))⟩;exact (W_ h30.1 az).1
 refine aY (λ(q:LQ)=>bt q.2.1/\0<=q.1.2.2.2.1/\q.1.2.2.2.1<=7/\(q.2.2.2.1.2.length:Int)+q.1.2.2.2.1<=7/\bD q.2.2.2.1.2 m'.2.2.1.length=true) (λ(q:LQ)=>q.1.2.2.2.1.toNat) ?_ ⟨h7.1,h7.2.1,by have:=h7.2.2.1;dsimp only;omega,by have:=h7.2.2.1;dsimp only;rw[hp];simp only[aM];omega,by dsimp only;rw[hp];rfl⟩;rintro⟨⟨_,_,_,c,_⟩,sr,p1,pa,_⟩ next ⟨hS2,c0,c7,cl,hw⟩ hn
 intros
 try dsimp only at hS2 c0 c7 cl hw hn⊢
 refine aC (λhx=>?_) (λ_=>hk _ ⟨hS2,ae⟩);rw[cj]at hx;have hnx:=fI (n:=m'.2.1.length) hS2 az;refine⟨hS2.2,?_⟩;refine aY (λ(q:(BV×(jA×mG)))=>bt q.2.1/\0<=q.1.2.2.2.2.1/\q.1.2.2.2.2.1<=m'.2.1.length/\0<=q.1.2.2.2.1/\(1<=m'.2.1.length->q.1.2.2.2.1<m'.2.1.length)/\q.2.2.2.1=pa) (λ(q:(BV×(jA×mG)))=>(m'.2.1.length-q.1.2.2.2.2.1).toNat) ?_ ⟨hnx.1,ak,ak,hnx.2.1,λh=>hnx.2.2.1 aa,rfl⟩;rintro⟨⟨_,_,_,e,i,_⟩,s3,p3,pb,_⟩ next1 ⟨hS3,i0,i1,e0,e1,rfl⟩ hn1 ke ki;intros
 try dsimp only at hS3 i0 i1 e0 e1 hn1 ke ki⊢
 refine⟨λh=>?_,λh=>hw,aC (λh=>?_) (λh=>⟨λh2=>?_,λ_=>hw,aC (λ_=>hk _ ⟨hS3,by dsimp only at cl⊢;omega⟩) (λh2=>?_)⟩)⟩
 ·rw[cj]at h;exact⟨e1 aa,e0⟩
 ·rw[ao,cj]at h;have hlt:=h.1;have e2:=e1 aa;have ht:Int.tmod (e+1) m'.2.1.length=(e+1)%m'.2.1.length:=Int.tmod_eq_emod_of_nonneg aa;have t0:0<=(e+1)%(m'.2.1.length:Int):=Int.emod_nonneg _ aa;have t1:(e+1)%(m'.2.1.length:Int)<m'.2.1.length:=Int.emod_lt_of_pos _ aa;rw[ht];exact⟨az,aa,az,az,hn1 _ ⟨hS3,ae,ae,t0,λ_=>t1,rfl⟩ ae⟩
 ·rw[iH]at h2;exact⟨e1 aa,e0⟩
 ·rw[gV,iH]at h2;have e2:=e1 aa
  try dsimp only at cl
  refine⟨aa,bh (by simp only[aH,aM];omega),az,hn _ ⟨hS3,ae,ae,by simp only[bj,aH,aM];omega,?_⟩ ae⟩
  try dsimp only
  unfold bD at hw⊢;rw[yX,hw];simp only[oX,List.all_nil,bM,ji];exact iD.2 ⟨e0,aa⟩
theorem Dd(s:ba)(m:aB)(start:Int):∃q:ba×(aO×Unit),ab (jS.o.strip.oks s)->ab (okL jS.as (m,start,()))->ab (jS.pre s (m,start,()))->wW s m start (λz r=>z=q.1/\r=q.2)/\ab (jS.o.strip.oks q.1)/\ab (okR jS.rt q.2)/\Ag s m start q.1 q.2.1:=pkw (au wN (au Af (au iB (au jo (au MU (au wZ aQ)))))) aR 32 Tryz.f32 jS Ia [(9,14),(12,13),(15,507)] lU (λx y K=>wW x y.1 y.2.1 K) (λx y z r=>Ag x y.1 y.2.1 z r.1) (λx y h1 h2 h3=>YP x y.1 y.2.1 h1 h2 h3) s (m,start,())
def zR(s:ba)(m:aB)(start:Int):ba:=(Dd s m start).choose.1
def CJ(s:ba)(m:aB)(start:Int):aO:=(Dd s m start).choose.2.1
theorem YB(s:ba)(m:aB)(start:Int)(hok:ab (jS.o.strip.oks s))(hok2:ab (okL jS.as (m,start,())))(hpre:ab (jS.pre s (m,start,()))):ab (jS.o.strip.oks (zR s m start))/\ab (okR jS.rt (CJ s m start,()))/\Ag s m start (zR s m start) (CJ s m start):=((Dd s m start).choose_spec hok hok2 hpre).2
def zU:Wt:=⟨gE,[fV,aq],[true,false],λx y=>[bt x],λx y=>(zR x y.1 y.2.1),[(true,Bl)],λx y=>((CJ x y.1 y.2.1),()),0⟩
def NZ:Ct:=iO zU
theorem Yq(x:zU.o.strip.den)(y:bo zU.as)(K:ba->(aO×Unit)->Prop):kP tab NQ (fN [(9,14),(12,13),(15,507)]) Tryz.f32 (fa Tryz.f32) Ia zU x y K=wW x y.1 y.2.1 K:=by kernel_rfl
theorem NW:aN Tryz.prog 32 NZ:=Fp (Φ:=NQ) (au wN (au Af (au iB (au jo (au MU (au wZ aQ)))))) aR (by kernel_rfl) (fn:=Tryz.f32) (c:=fa Tryz.f32) (by kernel_rfl) (by kernel_rfl) (by kernel_rfl) zU Ia (fN [(9,14),(12,13),(15,507)]) (by kernel_rfl) bz (by kernel_rfl) (by kernel_rfl) bz (by kernel_rfl) (λx y K=>wW x y.1 y.2.1 K) (Yq) (λx y h1 h2 h3=>((Dd x y.1 y.2.1).choose_spec h1 h2 h3).1)
theorem afj{m:aB}(h:bt s)(hm:ab (T.oks fV m))(hx:inK .i64 x):bt (zR s m x):=(YB s m x h.1 (by simp only[jS,okL,fW,ab,aA];exact⟨hm,by simpa only [T.oks,ab,aA]using hx⟩) ⟨h,trivial⟩).2.2
def sI:Ct:=⟨[bd,aq,aq],[false,false,false],λx=>[],[(false,dS)],λx=>((decide ((x.1.length:Int)=x.2.1)&&bD x.1 x.2.2.1),()),false,none⟩
def HY(list:aw)(length objects:Int)(K:fP):Prop:=K ((list.length:Int)==length&&bD list objects,())
theorem Y3(list:aw)(length objects:Int)(hok:ab (okL sI.args (list,length,objects,())))(hpre:ab (sI.pre (list,length,objects,()))):HY list length objects (λr=>r=sI.res (list,length,objects,())):=by
 simp only[sI,okL,T.oks,T.ok,ap,ab,aL,aA,bf]at hok hpre
 try dsimp only[T.den]at hok hpre
 unfold HY;have:((list.length:Int)==length)=decide ((list.length:Int)=length):=rfl;simp only[sI,this]
theorem Xz:aN Tryz.prog 103 sI:=ctb (au Da aQ) aR 103 Tryz.f103 sI .n [] (λx K=>HY x.1 x.2.1 x.2.2.1 K) (λx h1 h2=>Y3 x.1 x.2.1 x.2.2.1 h1 h2)
def pj:Ct:=⟨[cS],[true],λx=>[],[(false,dS)],λx=>(pE x.1,()),false,none⟩
def XH:Ann:=(.s .n (.s .n (.s .n (.s .n (.s (.s .n (.l [(4,(.d aq))] [] [1,3] .n)) (.s (.s .n (.l vE [] [1,3] (.s .n (.s (.s .n (.s .n (.l [(6,(.d aq))] [] [1,3,5] (.s .n (.s (.j [] [] [1,3,5,6] .n) .n))))) .n)))) .n))))))
def ah2:FuncId->Option Ct:=lkp [(38,qN),(39,qM),(103,sI)]
def If(c:aF)(K:fP):Prop:=let x:=c.2.2.2;let p:=c.2.2.1.length;let l:=c.2.1.length;cnd (!inR c.1 0 8||decide (40<(l:Int))||!(decide ((l:Int)=(l:Int))&&bD c.2.1 c.1)||!(decide ((p:Int)=(l:Int))&&bD c.2.2.1 c.1)||(x.2.length:Int) != (l:Int)) (K (false,())) (cnd ((x.1.length:Int) != c.1||!bD x.1 (l:Int)) (K (false,())) (aI (S:=cZ) (λa b=>let v:=a.1.1;let m:=x.1.getD v.toNat 0;let t:=c.2.1.getD m.toNat 0;Iq v<|cnd (decide (v<c.1)) (Ix v x.1.length<|Ix m l<|((t != v)=false->v<(x.1.length:Int)/\0<=v)/\((t != v)=false->m<(p:Int)/\0<=m)/\cnd (t != v||c.2.2.1.getD m.toNat 0 != v) (K (false,())) (Ik (v+1)<|b ((v+1,()),()))) (aI (S:=cZ) (λd e=>let w:=d.1.1;let q:=c.2.1.getD w.toNat 0;let o:=x.2.getD w.toNat [];Iq w<|cnd (decide (w<(l:Int))) (Ix w x.2.length<|cnd ((o.length:Int) != (l:Int)) (K (false,())) (aI (S:=cZ) (λf g=>let y:=f.1.1;let j:=o.getD y.toNat 0;let u:=c.2.1.getD j.toNat 0;let r:=decide (j<0);let n:=decide ((l:Int)<=j);Iq y<|cnd (decide (y<(l:Int))) (bZ (S:=(Unit×Unit)) (λh=>Ik (y+1)<|g ((y+1,()),())) (λi=>Ix w x.2.length<|Ix y o.length<|Ix w p<|Ix y l<|cnd (c.2.2.1.getD w.toNat 0 != c.2.1.getD y.toNat 0) (cnd (j != -1) (K (false,())) (i ((),()))) (((r||n)=false->j<(l:Int)/\0<=j)/\((r||n)=false->w<(l:Int)/\0<=w)/\((r||n||u != q)=false->j<(p:Int)/\0<=j)/\((r||n||u != q)=false->y<(p:Int)/\0<=y)/\cnd (r||n||u != q||c.2.2.1.getD j.toNat 0 != c.2.2.1.getD y.toNat 0) (K (false,())) (i ((),()))))) (Ik (w+1)<|e ((w+1,()),()))) ((0,()),()))) (K (true,()))) ((0,()),()))) ((0,()),())))
theorem Yg(c:aF)(hok:ab (okL pj.args (c,())))(hpre:ab (pj.pre (c,()))):If c (λr=>r=pj.res (c,())):=by
 simp only[pj,okL,T.oks,T.ok,ap,ab,aL,aA,bf]at hok hpre
 try dsimp only[T.den]at hok hpre
 delta If Ik Iq Ix
 dsimp -proj -eta only;have bad:¬ShapeP c->(false,())=pj.res (c,()):=λh=>by simp only[pj];rw[DX h]
 refine aC (λhc=>bad λh=>?_) (λhc=>aC (λhd=>bad λh=>?_) (λhd=>?_))
 ·have h1:=h.ob;have h2:=h.m;have h3:=h.lt;have h4:=h.fr;have h5:=h.to;have h6:=h.lc;simp only[inR]at hc;grind[cnd,bO,cf]
 ·have h1:=h.li;have h2:=h.ids;grind[cnd,bO,cf]
 simp only[inR,gV,jK,ao,cj,fS,fT]at hc hd;obtain⟨⟨⟨⟨hob,hm⟩,_,hfr⟩,hlt,hto⟩,hlc⟩:=hc;obtain⟨hli,hids⟩:=hd;refine il (n:=c.1) (λx=>∀y:Int,0<=y->y<x->c.2.1.getD (c.2.2.2.1.getD y.toNat 0).toNat 0=y/\c.2.2.1.getD (c.2.2.2.1.getD y.toNat 0).toNat 0=y) aa (by intro y h0 h1;omega) ?_ ?_
 ·intro x next h0 h1 hP hn hin
  have hb:=fF.1 hids x h0 aa
  try dsimp only
  refine aE (λ_=>⟨h0,aa,hb.1,hb.2,λ_=>aa,λ_=>aa,aC (λhx=>bad λh=>?_) (λhx=>?_)⟩) (λh=>absurd h1 h)
  ·have:=h.idt x h0 aa;rw[this.1,this.2]at hx;simp at hx
  ·simp only[gV,fT]at hx;refine⟨az,hn λy y0 y1=>?_⟩;by_cases e:y=x
   ·rw[e];exact hx
   ·exact hP y y0 aa
 intro next hidt hin
 refine aE (λh=>absurd h ae) (λ_=>?_);refine il (n:=c.2.1.length) (λf=>∀f':Int,0<=f'->f'<f->(c.2.2.2.2.getD f'.toNat []).length=c.2.1.length/\∀g:Int,0<=g->g<c.2.1.length->kg c f' g=true) aa (by intro y h0 h1;omega) ?_ ?_
 ·intro f next h0 h1 hP hn hin
  try dsimp only
  refine aE (λ_=>⟨h0,aa,aC (λhx=>bad λh=>?_) (λhx=>?_)⟩) (λh=>absurd h1 h)
  ·have:=h.row f h0 aa;rw[this]at hx;simp at hx
  simp only[fT]at hx;refine il (n:=c.2.1.length) (λg=>∀g':Int,0<=g'->g'<g->kg c f g'=true) aa (by intro y h0 h1;omega) ?_ ?_
  ·intro g next3 g0 g1 hP3 hn3 hin3
   try dsimp only
   refine aE (λ_=>?_) (λh=>absurd g1 h);refine cp (λ_=>kg c f g=true) (λ_ hcell=>⟨az,hn3 λg' y0 y1=>?_⟩) (λk hk=>?_)
   ·by_cases e:g'=g
    ·rw[e];exact hcell
    ·exact hP3 g' y0 aa
   have hcell:∀b,kg c f g=b->b=false->¬ShapeP c:=λb h1 h2 h=>by have:=h.cell f g h0 aa g0 aa;rw[h1,h2]at this;cases this
   have hk':=hk ((),());obtain⟨v,hv⟩:∃v,(c.2.2.2.2.getD f.toNat []).getD g.toNat 0=v:=⟨_,rfl⟩;have hR:kg c f g=mt c f g v:=by unfold kg bU;rw[hv]
   rw[hR]at hk';rw[hR]at hcell;rw[hv];clear hP3 hn3 hP hn hk hR hv hidt hok;refine⟨h0,aa,g0,aa,h0,aa,g0,aa,aC (λha=>aC (λhb=>bad ?_) (λhb=>hk' ?_)) (λha=>⟨λhv=>?_,λ_=>⟨aa,h0⟩,λhv=>?_,λ_=>⟨aa,g0⟩,aC (λhb=>bad ?_) (λhb=>hk' ?_)⟩)⟩
   ·exact hcell _ rfl (by grind[cnd,bO,cf,mt])
   ·grind[cnd,bO,cf,mt]
   ·simp only[gV,fS]at hv;omega
   ·simp only[gV,fS]at hv;omega
   ·exact hcell _ rfl (by grind[cnd,bO,cf,mt])
   ·grind[cnd,bO,cf,mt]
  ·intro next3 hP3 hin3;refine aE (λh=>absurd h ae) (λ_=>⟨az,hn λf' y0 y1=>?_⟩);by_cases e:f'=f
   ·rw[e];exact⟨aa,λg g0 g1=>hP3 g g0 aa⟩
   ·exact hP f' y0 aa
 ·intro next2 hP2 hin2;refine aE (λh=>absurd h ae) (λ_=>?_);simp only[pj];rw[S7 ⟨hob,aa,aa,hfr,hto,aa,hids,aa,λx a b=>hidt x a aa,λf a b=>(hP2 f a aa).1,λf g a b d e=>(hP2 f a aa).2 g d e⟩]
theorem XQ:aN Tryz.prog 73 pj:=ctb (au Af (au Da (au Xz aQ))) aR 73 Tryz.f73 pj XH [(20,11),(23,33),(9,24)] (λx K=>If x.1 K) (λx h1 h2=>Yg x.1 h1 h2)
def qF:Ct:=⟨[cS],[true],λx=>[ShapeP x.1],[(false,cA),(false,cA),(false,cA),(false,cA)],λx=>((iK x.1).1,(iK x.1).2.1,(iK x.1).2.2.1,(iK x.1).2.2.2,()),false,none⟩
def WB:Ann:=(.s .n (.s .n (.s (.s .n (.l [(7,(.d aq))] [] [1,6] .n)) (.s (.s .n (.l [(8,(.d aq))] [] [1,6] (.s .n (.s (.s .n (.l [(9,(.d aq))] [] [1,6,8] (.s .n (.s (.j [] [] [1,6,8,9] (.s .n (.s .n (.l [(10,(.d aq))] [] [1,6,8,9] .n)))) .n)))) .n)))) .n))))
def HJ(c:aF)(K:Int×Int×Int×Int×Unit->Prop):Prop:=let a5:=c.2.2.1.length;let x:=c.2.1.length;let u:=c.2.2.2.2.length;aI (S:=cZ) (λa b=>let v:=a.1.1;let a3:=v.toNat;let a6:=c.2.2.2.2.getD a3 [];let t:=c.2.2.2.1.getD (c.2.1.getD a3 0).toNat 0;let a4:=c.2.2.2.2.getD t.toNat [];let q:=c.2.2.1.getD a3 0;let y:=c.2.2.2.1.getD q.toNat 0;let m:=a4.getD a3 0;Iq v<|cnd (decide (v<(x:Int))) (Ix v x<|Ix (c.2.1.getD a3 0) c.2.2.2.1.length<|Ix t u<|Ix v a4.length<|((m != v)=false->v<(u:Int)/\0<=v)/\((m != v)=false->v<(a5:Int)/\0<=v)/\((m != v)=false->q<(c.2.2.2.1.length:Int)/\0<=q)/\((m != v)=false->y<(a6.length:Int)/\0<=y)/\cnd (m != v||a6.getD y.toNat 0 != v) (K (1,v,0,0,())) (Ik (v+1)<|b ((v+1,()),()))) (aI (S:=cZ) (λd e=>let a1:=d.1.1;let p:=c.2.2.2.2.getD a1.toNat [];Iq a1<|cnd (decide (a1<(x:Int))) (aI (S:=cZ) (λf g=>let a2:=f.1.1;let w:=a2.toNat;let a0:=c.2.2.2.2.getD (p.getD w 0).toNat [];let n:=c.2.2.1.getD w 0;Iq a2<|cnd (decide (a2<(x:Int))) (bZ (S:=(Unit×Unit)) (λh=>Ik (a2+1)<|g ((a2+1,()),())) (λi=>Ix a1 a5<|Ix a2 x<|cnd (c.2.2.1.getD a1.toNat 0 != c.2.1.getD w 0) (i ((),())) (aI (S:=cZ) (λj l=>let z:=j.1.1;let r:=(c.2.2.2.2.getD w []).getD z.toNat 0;let o:=c.2.1.getD z.toNat 0;Iq z<|cnd (decide (z<(x:Int))) (Ix a2 a5<|Ix z x<|((n==o)=true->a1<(u:Int)/\0<=a1)/\((n==o)=true->a2<(p.length:Int)/\0<=a2)/\((n==o)=true->p.getD w 0<(u:Int)/\0<=p.getD w 0)/\((n==o)=true->z<(a0.length:Int)/\0<=z)/\((n==o)=true->a1<(u:Int)/\0<=a1)/\((n==o)=true->a2<(u:Int)/\0<=a2)/\((n==o)=true->z<((c.2.2.2.2.getD w []).length:Int)/\0<=z)/\((n==o)=true->r<(p.length:Int)/\0<=r)/\cnd (n==o&&a0.getD z.toNat 0 != p.getD r.toNat 0) (K (2,a1,a2,z,())) (Ik (z+1)<|l ((z+1,()),()))) (i ((),()))) ((0,()),())))) (Ik (a1+1)<|e ((a1+1,()),()))) ((0,()),())) (K (0,0,0,0,()))) ((0,()),()))) ((0,()),())
theorem X7(c:aF)(hok:ab (okL qF.args (c,())))(hpre:ab (qF.pre (c,()))):HJ c (λr=>r=qF.res (c,())):=by
 simp only[qF,okL,T.oks,T.ok,ap,ab,aL,aA,bf]at hok hpre
 try dsimp only[T.den]at hok hpre
 delta HJ Ik Iq Ix
 dsimp -proj -eta only;have S:ShapeP c:=hpre;have hlt:=S.lt;have hli:=S.li;have hlc:=S.lc;have hmm:=S.m;have resq:∀a b d e,iK c=(a,b,d,e)->(a,b,d,e,())=qF.res (c,()):=λa b d e h=>by simp only[qF,h]
 have hcr:∀f g:Int,(c.2.2.2.2.getD f.toNat []).getD g.toNat 0=bU c f g:=λ_ _=>rfl;simp only[hcr];refine il (n:=c.2.1.length) (λf=>fK (ml c) c.2.1.length 0=fK (ml c) ((c.2.1.length:Int)-f).toNat f) aa tB ?_ ?_
 ·intro f next h0 h1 hP hn hin
  try dsimp only
  obtain⟨a1,a2,a3,a4⟩:=S.frm h0 h1;obtain⟨b1,b2,_,_⟩:=S.idn a1 a2;obtain⟨d1,d2,_,_⟩:=S.idn a3 a4;have r1:=S.row _ b1 b2;have r2:=S.row f h0 h1;refine aE (λ_=>⟨h0,h1,aa,aa,aa,aa,h0,aa,λ_=>aa,λ_=>aa,λ_=>aa,λ_=>aa,aC (λhx=>resq _ _ _ _ ?_) (λhx=>⟨az,hn ?_⟩)⟩) (λh=>absurd h1 h)
  ·have:ml c f=some (1,f,0,0):=by unfold ml;rw[am];simpa using hx
   unfold iK;rw[hP,tC h1 this];rfl
  ·have:ml c f=none:=by unfold ml;rw[ai];simpa using hx
   rw[hP,t8 h1 this]
 intro next hI hin
 rw[tz]at hI;refine aE (λh=>absurd h ae) (λ_=>?_);have hF:iK c=orR (fK (ow c) c.2.1.length 0) (0,0,0,0):=by unfold iK;rw[hI];rfl
 refine il (n:=c.2.1.length) (λf=>fK (ow c) c.2.1.length 0=fK (ow c) ((c.2.1.length:Int)-f).toNat f) aa tB ?_ ?_
 ·intro f next h0 h1 hP hn hin
  try dsimp only
  refine aE (λ_=>?_) (λh=>absurd h1 h);have r1:=S.row f h0 h1;refine il (n:=c.2.1.length) (λg=>ow c f=fK (mj c f) ((c.2.1.length:Int)-g).toNat g) aa tB ?_ ?_
  ·intro g next3 g0 g1 hP3 hn3 hin3
   try dsimp only
   refine aE (λ_=>?_) (λh=>absurd g1 h);have r2:=S.row g g0 g1;refine cp (λ_=>mj c f g=none) (λ_ hG=>⟨az,hn3 (by rw[hP3,t8 g1 hG])⟩) (λk hk=>?_);have hk':=hk ((),());refine⟨aa,aa,aa,aa,aC (λhx=>hk' ?_) (λhx=>?_)⟩
   ·unfold mj;rw[ai];simpa using hx
   have hfg:c.2.2.1.getD f.toNat 0=c.2.1.getD g.toNat 0:=by rw[fT]at hx;exact hx
   obtain⟨y1,y2,_,_⟩:=S.yes h0 h1 g0 g1 hfg;refine il (n:=c.2.1.length) (λh=>mj c f g=fK (ot c f g) ((c.2.1.length:Int)-h).toNat h) aa (by unfold mj;rw[am hfg];exact tB) ?_ ?_
   ·intro h next4 i0 i1 hP4 hn4 hin4
    try dsimp only
    refine aE (λ_=>?_) (λh=>absurd i1 h);have r3:=S.row _ y1 y2;have cgh:=S.comp g0 g1 i0 i1;have ygh:=@ShapeP.yes c S g h g0 g1 i0 i1;refine⟨aa,aa,aa,aa,λ_=>aa,λ_=>aa,λ_=>aa,λ_=>aa,λ_=>aa,λ_=>aa,λ_=>aa,λhe=>?_,aC (λhx=>resq _ _ _ _ ?_) (λhx=>⟨az,hn4 ?_⟩)⟩
    ·have:=ygh (by simpa only [cR]using he);omega
    ·have:ot c f g h=some (2,f,g,h):=by unfold ot;rw[am];simpa using hx
     have e1:mj c f g=some (2,f,g,h):=by rw[hP4,tC i1 this]
     have e2:ow c f=some (2,f,g,h):=by rw[hP3,tC g1 e1]
     rw[hF,hP,tC h1 e2];rfl
    ·have:ot c f g h=none:=by unfold ot;rw[ai];simpa using hx
     rw[hP4,t8 i1 this]
   ·intro next4 hP4 hin4;rw[tz]at hP4;exact aE (λh=>absurd h ae) (λ_=>hk' hP4)
  ·intro next3 hP3 hin3;rw[tz]at hP3;exact aE (λh=>absurd h ae) (λ_=>⟨az,hn (by rw[hP,t8 h1 hP3])⟩)
 ·intro next2 hP2 hin2;rw[tz]at hP2;refine aE (λh=>absurd h ae) (λ_=>resq _ _ _ _ ?_);rw[hF,hP2];rfl
theorem WR:aN Tryz.prog 74 qF:=ctb aQ aR 74 Tryz.f74 qF WB [(17,44),(5,38),(13,11)] (λx K=>HJ x.1 K) (λx h1 h2=>X7 x.1 h1 h2)
def pk:Ct:=⟨[cS],[true],λx=>[],[(false,dS)],λx=>(eM x.1,()),false,none⟩
def ah9:FuncId->Option Ct:=lkp [(73,pj),(74,qF)]
def IB(c:aF)(K:fP):Prop:=cnd (!pE c) (K (false,())) (ShapeP c/\K ((iK c).1==0,()))
theorem Za(c:aF)(hok:ab (okL pk.args (c,())))(hpre:ab (pk.pre (c,()))):IB c (λr=>r=pk.res (c,())):=by
 simp only[pk,okL,T.oks,T.ok,ap,ab,aL,aA,bf]at hok hpre
 try dsimp only[T.den]at hok hpre
 unfold IB;simp only[pk,eM];have:=@uV c
 grind[cnd,bO,cf]
theorem I6:aN Tryz.prog 47 pk:=ctb (au XQ (au WR aQ)) aR 47 Tryz.f47 pk .n [] (λx K=>IB x.1 K) (λx h1 h2=>Za x.1 h1 h2)
def uL:Ct:=⟨[cS,aq,aq],[true,false,false],λx=>[0<=x.2.1,x.2.1<x.1.2.2.2.2.length,0<=x.2.2.1,x.2.2.1<(x.1.2.2.2.2.getD x.2.1.toNat []).length],[(false,cA)],λx=>(bU x.1 x.2.1 x.2.2.1,()),false,none⟩
def Io(c:aF)(f g:Int)(K:jB):Prop:=let a:=c.2.2.2.2.getD f.toNat [];Ix f c.2.2.2.2.length<|Ix g a.length<|K (a.getD g.toNat 0,())
theorem Y4(c:aF)(f g:Int):Mh uL (c,f,g,()) (Io c f g):=by
 intro hok hpre;simp only[uL,okL,T.oks,T.ok,ap,ab,aL,aA,bf]at hok hpre
 try dsimp only[T.den]at hok hpre
 delta Io Ix
 dsimp -proj -eta only;exact⟨hpre.1,hpre.2.1,hpre.2.2.1,hpre.2.2.2,rfl⟩
theorem HE:aN Tryz.prog 84 uL:=ctb aQ aR 84 Tryz.f84 uL .n [] (λx K=>Io x.1 x.2.1 x.2.2.1 K) (λx h1 h2=>Y4 x.1 x.2.1 x.2.2.1 h1 h2)
def idR(c:aF)(f:Int):Bool:=c.2.2.2.1.getD (c.2.1.getD f.toNat 0).toNat 0==f
def wX:Ct:=⟨[cS,aq],[true,false],λx=>[ShapeP x.1,0<=x.2.1,x.2.1<x.1.2.1.length],[(false,dS)],λx=>(idR x.1 x.2.1,()),false,none⟩
def Ih(c:aF)(f:Int)(K:fP):Prop:=let a:=c.2.1.getD f.toNat 0;Ix f c.2.1.length<|Ix a c.2.2.2.1.length<|K (c.2.2.2.1.getD a.toNat 0==f,())
theorem XW(c:aF)(f:Int):Mh wX (c,f,()) (Ih c f):=by
 intro hok hpre;simp only[wX,okL,T.oks,T.ok,ap,ab,aL,aA,bf]at hok hpre
 try dsimp only[T.den]at hok hpre
 delta Ih Ix
 dsimp -proj -eta only;have S:ShapeP c:=hpre.1;have a:=S.frm hpre.2.1 hpre.2.2;have:=S.li;exact⟨hpre.2.1,hpre.2.2,a.1,aa,rfl⟩
theorem N4:aN Tryz.prog 83 wX:=ctb aQ aR 83 Tryz.f83 wX .n [(1,12)] (λx K=>Ih x.1 x.2.1 K) (λx h1 h2=>XW x.1 x.2.1 h1 h2)
def spQ(c:aF)(f g h:Int):Bool:=bU c f g==h&&(!idR c f&&!idR c g)
def ae5(c:aF)(h:Int):Bool:=fe c.2.1.length λf=>fe c.2.1.length λg=>spQ c f g h
def cU(c:aF):List Int:=lG c.2.1.length λh=>!idR c h&&!ae5 c h
theorem aeg(hn:¬(0<=bU c f g/\idR c f=false/\idR c g=false))(h0:0<=h):spQ c f g h=false:=by
 unfold spQ
 cases e:(bU c f g==h&&(!idR c f&&!idR c g))with
 |false=>rfl
 |true=>simp only[ao,cR,fy]at e;exact absurd ⟨aa,e.2.1,e.2.2⟩ hn
theorem afr(hn:h≠bU c f g):spQ c f g h=false:=by unfold spQ;rw[iH.2 (dg hn),Bool.false_and]
def wU:Ct:=⟨[cS],[true],λx=>[],[(false,dS)],λx=>((decide (x.1.1<=8)&&decide ((x.1.2.1.length:Int)<=40)),()),false,none⟩
def HT(c:aF)(K:fP):Prop:=K (decide (c.1<=8)&&decide ((c.2.1.length:Int)<=40),())
theorem Yl(c:aF):Mh wU (c,()) (HT c):=by
 intro hok hpre;simp only[wU,okL,T.oks,T.ok,ap,ab,aL,aA,bf]at hok hpre
 try dsimp only[T.den]at hok hpre
 unfold HT;rfl
theorem Hx:aN Tryz.prog 79 wU:=ctb aQ aR 79 Tryz.f79 wU .n [] (λx K=>HT x.1 K) (λx h1 h2=>Yl x.1 h1 h2)
structure ColP (l:df) (k:Int):Prop where
 k0:0<=k
 len:l.length<=1099511627776
 row:∀r∈l,k<r.length
def mX:Ct:=⟨[bd,bd],[false,false],λx=>[],[(false,dS)],λx=>(eqR bd x.1 x.2.1,()),false,none⟩
def XF:Ann:=(.s .n (.s .n (.s (.s .n (.l vE [] [0,1] .n)) .n)))
def HV(a b:aw)(K:fP):Prop:=cnd ((a.length:Int) != (b.length:Int)) (K (false,())) (aI (S:=cZ) (λc d=>let e:=c.1.1;Iq e<|cnd (decide (e<(a.length:Int))) (Ix e a.length<|Ix e b.length<|cnd (a.getD e.toNat 0 != b.getD e.toNat 0) (K (false,())) (Ik (e+1)<|d ((e+1,()),()))) (K (true,()))) ((0,()),()))
theorem Yf(a b:aw)(hok:ab (okL mX.args (a,b,())))(hpre:ab (mX.pre (a,b,()))):HV a b (λr=>r=mX.res (a,b,())):=by
 simp only[mX,okL,T.oks,T.ok,ap,ab,aL,aA,bf]at hok hpre
 try dsimp only[T.den]at hok hpre
 delta HV Ik Iq Ix
 dsimp -proj -eta only;have ha:a.length<=140737488355328:=by simp only[bO]at hok;omega
 clear hok;refine aC (λh=>?_) (λh=>?_)
 ·simp only[mX];rw[xW];rintro rfl;simp at h
 have hl:a.length=b.length:=by rw[fT]at h;omega
 refine il (n:=a.length) (λi=>a.take i.toNat=b.take i.toNat) aa ak ?_ ?_
 ·intro i next i0 i1 hP hn hin
  have hta:=fY a 0 i0 i1;have htb:=fY b 0 i0 aa;refine aE (λ_=>⟨i0,i1,i0,aa,aC (λh1=>?_) (λh1=>⟨az,hn ?_⟩)⟩) (λh=>absurd i1 h)
  ·simp only[mX];rw[xW];rintro rfl;simp at h1
  ·rw[fT]at h1;rw[hta,htb,hP,h1]
 ·intro next hP hin
  refine aE (λh=>absurd h ae) (λ_=>?_);rw[jv _ (cB _),jv _ aa]at hP;simp only[mX,hP,Qm]
theorem CB:aN Tryz.prog 72 mX:=ctb aQ aR 72 Tryz.f72 mX XF [(6,9)] (λx K=>HV x.1 x.2.1 K) (λx h1 h2=>Yf x.1 x.2.1 h1 h2)
structure ArrP (c:aF) (l:List (Int×Int×Int)):Prop where
 at_:∀i:Int,0<=i->i<l.length->0<=(l.getD i.toNat (0,(0,0))).2.2/\(l.getD i.toNat (0,(0,0))).2.2<c.2.1.length
structure CmpP (k:Zj) (c:aF):Prop where
 sh:ShapeP c
 ar:ArrP c k.2.2
 lf:k.1.2.1.length=k.2.2.length
 lt:k.1.2.2.1.length=k.2.2.length
 le:k.2.2.length<=40
theorem SE(h:eM c=true):ShapeP c:=by simp only[eM,ao]at h;exact uV.1 h.1
def tS(c:aF):List Int×Int:=if eM c=true then (cU c,0)else ([],1)
theorem ael{p:rN}(h0:0<=i):lG (i+1).toNat p=if p i=true then lG i.toNat p++[i]else lG i.toNat p:=by rw[show (i+1).toNat=i.toNat+1 from by omega,lG,show ((i.toNat:Nat):Int)=i from by omega]
def q6:Ct:=⟨[cS],[true],λx=>[],[(false,cd),(false,cA)],λx=>((tS x.1).1,(tS x.1).2,()),false,none⟩
def Vi:Ann:=(.s .n (.s .n (.s .n (.s (.s .n (.l [(4,(.ref 15 [])),(5,(.d aq))] [(15,Fw)] [1] (.s .n (.s (.s .n (.l [(4,(.ref 15 [])),(6,(.d aq))] [(15,Fw)] [1,5] (.s .n (.s (.s .n (.j [(4,(.ref 15 []))] [(15,Fw)] [1,5,6] .n)) .n)))) .n)))) (.s .n (.s (.s .n (.l [(7,(.ref 800007 [])),(8,(.d aq))] [(800007,cd)] [1,4] (.s .n (.s (.s .n (.j [(7,(.ref 800007 []))] [(800007,cd)] [1,4,8] .n)) .n)))) .n))))))
def ag6:FuncId->Option Ct:=lkp [(47,pk),(84,uL),(83,wX)]
def G6(c:aF)(K:(List Int)×Int×Unit->Prop):Prop:=let m:=c.2.1.length;cnd (!eM c) (K ([],1,())) (0<=(m:Int)/\(m:Int)<=(m:Int)/\(m:Int)<=((140737488355328:Nat):Int)/\(m:Int)*((1:Nat):Int)<=((140737488355328:Nat):Int)/\aI (S:=(dW×((List Bool)×Unit))) (λa b=>let u:=a.2.1.length;let n:=a.1.2.1;let q:=c.2.2.1.getD n.toNat 0;Iq n<|T.ok (.sl T.bool) a.2.1->cnd (decide (n<(u:Int))) (aI (S:=(dW×((List Bool)×Unit))) (λd e=>let o:=d.1.2.1;let r:=c.2.1.getD o.toNat 0;Iq o<|T.ok (.sl T.bool) d.2.1->cnd (decide (o<(d.2.1.length:Int))) (Ix n c.2.2.1.length<|Ix o m<|((q==r)=true->(Ix n m<|ShapeP c))/\((q==r&&!idR c n)=true->(Ix o m<|ShapeP c))/\bZ (S:=((Unit×Unit)×((List Bool)×Unit))) (λf=>T.ok (.sl T.bool) f.2.1->(Ik (o+1)<|e (((),o+1,()),f.2.1,()))) (λg=>cnd (q==r&&!idR c n&&!idR c o) (Ix n c.2.2.2.2.length<|Ix o (c.2.2.2.2.getD n.toNat []).length<|Ix (bU c n o) d.2.1.length<|g (((),()),List.set d.2.1 (bU c n o).toNat true,())) (g (((),()),d.2.1,())))) (Ik (n+1)<|b (((),n+1,()),d.2.1,()))) (((),0,()),a.2.1,())) (aI (S:=(dW×cV)) (λh i=>let p:=h.1.2.1;let t:=a.2.1.getD p.toNat false;Iq p<|Ol h.2.1<|cnd (decide (p<(u:Int))) (Ix p u<|((!t)=true->(Ix p m<|ShapeP c))/\bZ (S:=((Unit×Unit)×cV)) (λj=>Ol j.2.1<|Ik (p+1)<|i (((),p+1,()),j.2.1,())) (λl=>cnd (!t&&!idR c p) (aX h.2.1.length [p].length 8/\l (((),()),h.2.1++[p],())) (l (((),()),h.2.1,())))) (K (h.2.1,0,()))) (((),0,()),[],()))) (((),0,()),List.replicate (Int.toNat (m:Int)) false,()))
theorem Vr(c:aF)(hok:ab (okL q6.args (c,())))(hpre:ab (q6.pre (c,()))):G6 c (λr=>r=q6.res (c,())):=by
 simp only[q6,okL,T.oks,T.ok,ap,ab,aL,aA,bf]at hok hpre
 try dsimp only[T.den]at hok hpre
 delta G6 Ik Iq Ix Ol
 dsimp -proj -eta only;refine aC (λhx=>?_) (λhx=>?_)
 ·have h:eM c=false:=by rw[fy]at hx;exact hx
  simp only[q6,tS];rw[ai (by rw[h];simp)]
 have h:eM c=true:=by rw[jK]at hx;exact hx
 have S:=SE h;have hres:tS c=(cU c,0):=by unfold tS;rw[am h]
 clear hok hpre hx h;have hm:=S.m;have hlc:=S.lc;have hlt:=S.lt;refine⟨aa,aa,aa,aa,?_⟩;simp only[bB,qY];have hirr:cU c=lG c.2.1.length (λh=>!idR c h&&!(fe c.2.1.length λf=>fe c.2.1.length λg=>spQ c f g h)):=rfl;have hrow:∀i:Int,0<=i->i<c.2.1.length->(c.2.2.2.2.getD i.toNat []).length=c.2.1.length:=S.row;have hyes:∀i j:Int,0<=i->i<c.2.1.length->0<=j->j<c.2.1.length->c.2.2.1.getD i.toNat 0=c.2.1.getD j.toNat 0->0<=bU c i j/\bU c i j<c.2.1.length:=λi j i0 i1 j0 j1 h=>⟨(S.yes i0 i1 j0 j1 h).1,(S.yes i0 i1 j0 j1 h).2.1⟩;have hno:∀i j:Int,0<=i->i<c.2.1.length->0<=j->j<c.2.1.length->0<=bU c i j->c.2.2.1.getD i.toNat 0=c.2.1.getD j.toNat 0:=λi j i0 i1 j0 j1 h=>(S.comp i0 i1 j0 j1).1 h;generalize hn:c.2.1.length=m at *;refine po (λi=>be m λh=>fe i.toNat λf=>fe m λg=>spQ c f g h) (n:=m) aa (dJ λh h0 _=>by simp[fe]) ?_ ?_
 ·intro i next i0 i1 hn1 _ _
  try dsimp only at hn1⊢
  refine aE (λ_=>?_) (λh=>absurd (by rw[bG];exact i1) h);have hr:=hrow i i0 i1;refine po (λj=>be m λh=>(fe i.toNat λf=>fe m λg=>spQ c f g h)||fe j.toNat λg=>spQ c i g h) (n:=m) aa (dJ λh _ _=>by simp[fe]) ?_ ?_
  ·intro j next2 j0 j1 hn3 _ _
   try dsimp only at hn3⊢
   refine aE (λ_=>⟨i0,aa,j0,aa,λ_=>⟨i0,i1,S⟩,λ_=>⟨j0,j1,S⟩,?_⟩) (λh=>absurd (by rw[bG];exact j1) h);refine cp (λq=>q.2.1=be m λh=>(fe i.toNat λf=>fe m λg=>spQ c f g h)||fe (j+1).toNat λg=>spQ c i g h) (λq hq _=>⟨az,by rw[hq];exact hn3⟩) (λk hk=>aC (λhc=>?_) (λhc=>hk _ ?_))
   ·simp only[ao,cR,fy]at hc;obtain⟨⟨hc0,hi⟩,hj⟩:=hc;obtain⟨hp,hcm⟩:=hyes i j i0 i1 j0 j1 hc0;refine⟨i0,aa,j0,aa,hp,by rw[bG];exact hcm,hk _ ?_⟩
    try dsimp only
    rw[mb (k:=bU c i j) hp hcm];refine dJ λy y0 y1=>?_;rw[KC j0];by_cases hy:y=bU c i j
    ·rw[am hy];simp[spQ,hy,hi,hj]
    ·rw[ai hy,afr hy,yV]
   ·try dsimp only
    refine dJ λy y0 y1=>?_;rw[KC j0,aeg (λh=>?_) y0,yV];rw[h.2.1,h.2.2,cR.2 (hno i j i0 i1 j0 j1 h.1)]at hc;cases hc
  ·intro next2 _ _
   try dsimp only
   refine aE (λh=>absurd h (by rw[bG];omega)) (λ_=>⟨az,?_⟩);have e:(be m λh=>(fe i.toNat λf=>fe m λg=>spQ c f g h)||fe ((m:Int)).toNat λg=>spQ c i g h)=be m (λh=>fe (i+1).toNat λf=>fe m λg=>spQ c f g h):=dJ λy _ _=>by rw[KC i0];rfl
   rw[e];exact hn1
 ·intro next _ _
  try dsimp only
  refine aE (λh=>absurd h (by rw[bG];omega)) (λ_=>?_);refine po (λi=>lG i.toNat λh=>!idR c h&&!(fe m λf=>fe m λg=>spQ c f g h)) (n:=m) aa rfl ?_ ?_
  ·intro i next1 i0 i1 hn2 _ _
   try dsimp only at hn2⊢
   have hg:(be m λh=>fe ((m:Int)).toNat λf=>fe m λg=>spQ c f g h).getD i.toNat false=fe m λf=>fe m λg=>spQ c f g i:=iJ i0 i1;rw[hg];have hl:=@Kd (λh=>!idR c h&&!(fe m λf=>fe m λg=>spQ c f g h)) i.toNat;rw[ael i0]at hn2;refine aE (λ_=>⟨i0,by rw[bG];exact i1,λ_=>⟨i0,i1,S⟩,?_⟩) (λh=>absurd (by rw[bG];exact i1) h);refine cp (λq=>q.2.1=_) (λq hq _=>⟨az,by rw[hq];exact hn2⟩) (λk hk=>aC (λhc=>⟨bh (by simp only[aH,aM];omega),hk _ ?_⟩) (λhc=>hk _ ?_))
   ·rw[am (by rw[Bool.and_comm];exact hc)]
   ·rw[ai (by rw[Bool.and_comm,hc];simp)]
  ·intro next1 _ _
   try dsimp only
   refine aE (λh=>absurd h (by rw[bG];omega)) (λ_=>?_);simp only[q6,hres,hirr];rfl
theorem Vg:aN Tryz.prog 81 q6:=ctb (au I6 (au HE (au N4 aQ))) aR 81 Tryz.f81 q6 Vi [(10,20)] (λx K=>G6 x.1 K) (λx h1 h2=>Vr x.1 h1 h2)
abbrev iG:=List (Option (List Int))
variable {o:iG}
def lpE(c:aF)(gens:aw)(f:Int):Nat->iG×List Int->iG×List Int
 |0,s=>s
 |k+1,s=>if bU c f (gens.getD k 0)<0\/((lpE c gens f k s).1.getD (bU c f (gens.getD k 0)).toNat none).isSome=true then lpE c gens f k s
  else ((lpE c gens f k s).1.set (bU c f (gens.getD k 0)).toNat (some ((((lpE c gens f k s).1.getD f.toNat none).getD [])++[(k:Int)])),(lpE c gens f k s).2++[bU c f (gens.getD k 0)])
def lpL(c:aF)(gens:aw):Nat->iG->List Int->iG
 |0,out,_|_+1,out,[]=>out
 |n+1,out,f::todo=>lpL c gens n (lpE c gens f gens.length (out,todo)).1 (lpE c gens f gens.length (out,todo)).2
def lpI(c:aF):Nat->iG
 |0=>List.replicate c.2.1.length none
 |k+1=>(lpI c k).set (c.2.2.2.1.getD k 0).toNat (some [])
def lpF(c:aF)(gens:aw):iG:=lpL c gens (c.2.1.length+c.2.2.2.1.length+1) (lpI c c.2.2.2.1.length) c.2.2.2.1
def pF(c:aF)(gens:aw):Bool:=(lpF c gens).all Option.isSome
def LJ(c:aF)(gens:aw):List (List Int):=if pF c gens=true then kS [] (lpF c gens)else []
def iq:iG->Nat
 |[]=>0
 |none::r=>iq r+1
 |some _::r=>iq r
theorem OH:∀o:iG,iq o<=o.length
 |[]=>aZ _
 |none::r|some _::r=>by have:=OH r;simp only[iq,aH];omega
theorem Dq:∀(o:iG)(i:Nat)(l:aw),i<o.length->o.getD i none=none->iq (o.set i (some l))+1=iq o
 |[],_,_,h,_=>by simp at h
 |none::r,0,l,_,_=>rfl
 |some _::r,0,l,_,h=>by simp at h
 |none::r,i+1,l,h,hn|some _::r,i+1,l,h,hn=>by have:=Dq r i l (by simpa using h) (by simpa using hn);simp only[Gh,iq];omega
structure LpV (m B:Nat) (s:iG×List Int):Prop where
 len:s.1.length=m
 rng:∀f∈s.2,0<=f/\f<m/\(s.1.getD f.toNat none).isSome=true
 lnb:∀(h:Nat)(l:aw),s.1.getD h none=some l->l.length+iq s.1<=m
 mu:s.2.length+iq s.1<=B
theorem LpV.le{m B2:Nat}{s:iG×List Int}(V:LpV m B s)(h:B<=B2):LpV m B2 s:=⟨V.len,V.rng,V.lnb,eu V.mu h⟩
theorem LpV.set{m:Nat}{t:aw}(V:LpV m B (o,t))(fk:(o.getD f.toNat none).isSome=true)(h0:0<=h)(h1:h<m)(hn:o.getD h.toNat none=none):
  LpV m B (o.set h.toNat (some (((o.getD f.toNat none).getD [])++[k])),t++[h]):=by
 have hl:=V.len;have hc:=Dq o h.toNat (((o.getD f.toNat none).getD [])++[k]) (by dsimp only at hl;omega) hn;dsimp only at hl;refine⟨by dsimp only;rw[fx,hl],λg hg=>?_,λx l hx=>?_,?_⟩
 ·dsimp only at hg⊢;rw[ly _ _ _ _ _ aa];rcases dN.1 hg with hg|hg
  ·obtain⟨a,b,d⟩:=V.rng g hg;exact⟨a,b,by split;rfl;exact d⟩
  ·rw[cP]at hg;subst hg;exact⟨h0,h1,by rw[am rfl];rfl⟩
 ·dsimp only at hx⊢;rw[ly _ _ _ _ _ aa]at hx;by_cases e:h.toNat=x
  ·rw[am e,aG]at hx;obtain⟨q,hq⟩:=yG.1 fk;have:=V.lnb f.toNat q hq;dsimp only at this;rw[hq]at hc hx⊢;rw[←hx];simp only[dY,bj,aH,aM]at hc⊢;omega
  ·rw[ai e]at hx;have:=V.lnb x l hx;dsimp only at this;omega
 ·have:=V.mu;dsimp only at this⊢;rw[bj,za];omega
theorem Ft{c:aF}(S:ShapeP c){gens:aw}(hg:bD gens c.2.1.length=true){f:Int}(f0:0<=f)(f1:f<c.2.1.length){B:Nat}{s:iG×List Int}(V:LpV c.2.1.length B s)(fk:(s.1.getD f.toNat none).isSome=true) :
  ∀k:Nat,k<=gens.length->LpV c.2.1.length B (lpE c gens f k s)/\∀x:Nat,(s.1.getD x none).isSome=true->(lpE c gens f k s).1.getD x none=s.1.getD x none
 |0,_=>⟨V,λ_ _=>rfl⟩
 |k+1,hk=>by
  obtain⟨V1,K1⟩:=Ft S hg f0 f1 V fk k aa;rw[lpE];by_cases hc:bU c f (gens.getD k 0)<0\/((lpE c gens f k s).1.getD (bU c f (gens.getD k 0)).toNat none).isSome=true
  ·rw[am hc];exact⟨V1,K1⟩
  ·rw[ai hc];have hgk:=fF.1 hg (k:Int) aa aa;rw[bB]at hgk;have h0:0<=bU c f (gens.getD k 0):=aa
   have h1:=(S.yes f0 f1 hgk.1 hgk.2 ((S.comp f0 f1 hgk.1 hgk.2).1 h0)).2.1
   have hn:(lpE c gens f k s).1.getD (bU c f (gens.getD k 0)).toNat none=none:=by
    cases e:(lpE c gens f k s).1.getD (bU c f (gens.getD k 0)).toNat none with
    |none=>rfl
    |some _=>rw[e]at hc;simp at hc
   have fk':((lpE c gens f k s).1.getD f.toNat none).isSome=true:=by rw[K1 _ fk];exact fk
   refine⟨LpV.set V1 fk' h0 h1 hn,λx hx=>?_⟩;have hl:=V1.len;dsimp only;rw[ly _ _ _ _ _ aa];by_cases e:(bU c f (gens.getD k 0)).toNat=x
   ·rw[e,K1 x hx]at hn;rw[hn]at hx;cases hx
   ·rw[ai e];exact K1 x hx
theorem B5{c:aF}(S:ShapeP c):∀k:Nat,k<=c.2.2.2.1.length->(lpI c k).length=c.2.1.length/\(∀(h:Nat)(l:aw),(lpI c k).getD h none=some l->l=[])/\∀x:Nat,x<k->(lpI c k).getD (c.2.2.2.1.getD x 0).toNat none=some []
 |0,_=>by refine⟨by simp[lpI],λh l hl=>?_,λx hx=>aa⟩;simp only[lpI,bN,yN]at hl;split at hl<;>simp at hl
 |k+1,hk=>by
  obtain⟨a,b,d⟩:=B5 S k aa;have hi:=fF.1 S.ids (k:Int) aa aa;rw[bB]at hi;rw[lpI];refine⟨by rw[fx,a],λh l hl=>?_,λx hx=>?_⟩
  ·rw[ly _ _ _ _ _ aa]at hl;split at hl
   ·simpa using hl.symm
   ·exact b h l hl
  ·rw[ly _ _ _ _ _ aa];split
   ·rfl
   ·rename_i e;exact d x (by rcases ig x k with h|h;exact h;exact absurd (by rw[show x=k by omega]) e)
theorem UK(i0:0<=i):lpI c (i+1).toNat=(lpI c i.toNat).set (c.2.2.2.1.getD i.toNat 0).toNat (some []):=by rw[show (i+1).toNat=i.toNat+1 from by omega,lpI]
theorem Ll(S:ShapeP c):LpV c.2.1.length (c.2.1.length+c.2.2.2.1.length) (lpI c c.2.2.2.1.length,c.2.2.2.1):=by
 obtain⟨a,b,d⟩:=B5 S _ (aZ _);have hle:=OH (lpI c c.2.2.2.1.length);refine⟨a,λf hf=>?_,λh l hl=>?_,ae⟩
 ·dsimp only at hf;obtain⟨x,hx,rfl⟩:=mL hf;have hi:=fF.1 S.ids (x:Int) aa aa;rw[bB]at hi;have hd:=d x hx;have hxe:c.2.2.2.1.getD x 0=c.2.2.2.1[x]:=by rw[bN,bX hx,dY]
  rw[hxe]at hi hd;exact⟨hi.1,hi.2,by dsimp only;rw[hd];rfl⟩
 ·rw[b h l hl];dsimp only;simp only[aM];omega
def wyR(c:aF)(o:iG):List aO:=be c.2.1.length λh=>match o.getD h.toNat none with|some l=>(c.2.1.getD h.toNat 0,l)|none=>(0,[])
def knR(c:aF)(o:iG):List Bool:=be c.2.1.length λh=>(o.getD h.toNat none).isSome
def yv(c:aF)(gens:aw):List aO:=wyR c (lpF c gens)
theorem AS:(wyR c o).length=c.2.1.length:=bG _
theorem KR:(knR c o).length=c.2.1.length:=bG _
theorem Tn(h0:0<=h)(h1:h<c.2.1.length)(e:o.getD h.toNat none=some l):(wyR c o).getD h.toNat (0,[])=(c.2.1.getD h.toNat 0,l):=by rw[wyR,iJ h0 h1,e]
theorem SR(h0:0<=h)(h1:h<c.2.1.length):(knR c o).getD h.toNat false=(o.getD h.toNat none).isSome:=by rw[knR,iJ h0 h1]
theorem Te(ho:o.length=c.2.1.length)(h0:0<=h)(h1:h<c.2.1.length):(wyR c o).set h.toNat (c.2.1.getD h.toNat 0,l)=wyR c (o.set h.toNat (some l)):=by
 unfold wyR;rw[mb h0 h1];refine dJ λy y0 y1=>?_;rw[ly _ _ _ _ _ aa];by_cases e:y=h
 ·rw[am e,am (by rw[e]),e]
 ·rw[ai e,ai aa]
theorem TK(ho:o.length=c.2.1.length)(h0:0<=h)(h1:h<c.2.1.length):(knR c o).set h.toNat true=knR c (o.set h.toNat (some l)):=by
 unfold knR;rw[mb h0 h1];refine dJ λy y0 y1=>?_;rw[ly _ _ _ _ _ aa];by_cases e:y=h
 ·rw[am e,am (by rw[e])];rfl
 ·rw[ai e,ai aa]
theorem JB(n h:Nat):(List.replicate n (none:hV)).getD h none=none:=by rw[bN,yN];split<;>rfl
theorem QU:∀n:Nat,iq (List.replicate n none)=n
 |0=>rfl
 |n+1=>by rw[wv,iq,QU n]
theorem SU:∀o:iG,(iq o=0)<->o.all Option.isSome=true
 |[]|none::r=>by simp[iq]
 |some _::r=>by simp only[iq,oX,Option.isSome_some,ji];exact SU r
theorem PB{c:aF}(S:ShapeP c):∀k:Nat,k<=c.2.2.2.1.length->∀h:Nat,(∀x:Nat,x<k->(c.2.2.2.1.getD x 0).toNat≠h)->(lpI c k).getD h none=none
 |0,_,h,_=>JB _ _
 |k+1,hk,h,hn=>by have hi:=fF.1 S.ids (k:Int) aa aa;rw[bB]at hi;rw[lpI,ly _ _ _ _ _ (by rw[(B5 S k aa).1];omega),ai (hn k aa)];exact PB S k aa h λx hx=>hn x aa
theorem TY{c:aF}(S:ShapeP c):∀k:Nat,k<=c.2.2.2.1.length->k+iq (lpI c k)=c.2.1.length
 |0,_=>by rw[lpI,QU];omega
 |k+1,hk=>by have hi:=fF.1 S.ids (k:Int) aa aa;rw[bB]at hi;have hli:=S.li;have h1:=TY S k aa;have h2:=Dq (lpI c k) (c.2.2.2.1.getD k 0).toNat [] (by rw[(B5 S k aa).1];omega) (PB S k aa _ λx hx e=>by have hx1:=fF.1 S.ids (x:Int) aa aa;rw[bB]at hx1;have a:=(S.idt x aa aa).1;have b:=(S.idt k aa aa).1;rw[bB]at a b;rw[e,b]at a;omega);rw[lpI];omega
theorem Uu{c:aF}(S:ShapeP c){gens:aw}(hg:bD gens c.2.1.length=true){f:Int}(f0:0<=f)(f1:f<c.2.1.length){B:Nat}{s:iG×List Int}(V:LpV c.2.1.length B s)(fk:(s.1.getD f.toNat none).isSome=true) :
  ∀k:Nat,k<=gens.length->(lpE c gens f k s).2.length+iq (lpE c gens f k s).1=s.2.length+iq s.1
 |0,_=>rfl
 |k+1,hk=>by
  obtain⟨V1,K1⟩:=Ft S hg f0 f1 V fk k aa;have h1:=Uu S hg f0 f1 V fk k aa;rw[lpE];by_cases hc:bU c f (gens.getD k 0)<0\/((lpE c gens f k s).1.getD (bU c f (gens.getD k 0)).toNat none).isSome=true
  ·rw[am hc];exact h1
  ·rw[ai hc];have hgk:=fF.1 hg (k:Int) aa aa;rw[bB]at hgk;have h0:0<=bU c f (gens.getD k 0):=aa
   have h2:=(S.yes f0 f1 hgk.1 hgk.2 ((S.comp f0 f1 hgk.1 hgk.2).1 h0)).2.1
   have hn:(lpE c gens f k s).1.getD (bU c f (gens.getD k 0)).toNat none=none:=by
    cases e:(lpE c gens f k s).1.getD (bU c f (gens.getD k 0)).toNat none with
    |none=>rfl
    |some _=>rw[e]at hc;simp at hc
   have hl:=V1.len;have h3:=Dq (lpE c gens f k s).1 (bU c f (gens.getD k 0)).toNat (((lpE c gens f k s).1.getD f.toNat none).getD []++[(k:Int)]) aa hn;dsimp only;rw[bj,za];omega
def sG:Ct:=⟨[cS,bd],[true,false],λx=>[ShapeP x.1,bD x.2.1 x.1.2.1.length=true],[(false,vD),(false,dS)],λx=>(yv x.1 x.2.1,pF x.1 x.2.1,()),true,none⟩
def Xu:Ann:=(.s .n (.s .n (.s .n (.s (.s .n (.l [(6,(.ref 17 [])),(7,(.ref 21 [])),(8,(.ref 800008 [])),(9,(.d aq))] BE [1,2] .n)) (.s (.s .n (.l [(6,(.ref 17 [])),(7,(.ref 21 [])),(8,(.ref 800008 [])),(10,(.d aq))] BE [1,2] (.s .n (.s (.s .n (.s .n (.l [(6,(.ref 17 [])),(7,(.ref 21 [])),(8,(.ref 800008 [])),(12,(.d aq))] BE [1,2,10,11] (.s .n (.s (.j UE BE [1,2,10,11,12] (.s .n (.s .n (.s .n (.j UE BE [1,2,10,11,12] .n))))) .n))))) .n)))) .n)))))
def ah6:FuncId->Option Ct:=lkp [(46,lu),(84,uL)]
def Ie(c:aF)(gens:aw)(K:(List aO)×Bool×Unit->Prop):Prop:=let x:=c.2.2.2.1.length;let p:=c.2.1.length;0<=(p:Int)/\(p:Int)<=(p:Int)/\(p:Int)<=((140737488355328:Nat):Int)/\(p:Int)*((32:Nat):Int)<=((140737488355328:Nat):Int)/\0<=(p:Int)/\(p:Int)<=(p:Int)/\(p:Int)<=((140737488355328:Nat):Int)/\(p:Int)*((1:Nat):Int)<=((140737488355328:Nat):Int)/\aI (S:=rL) (λa b=>let z:=a.2.2;let r:=a.1.2.2.2.1;let o:=c.2.2.2.1.getD r.toNat 0;Iq r<|Oa aW a.2.1<|T.ok (.sl T.bool) z.1->(Ol z.2.1<|cnd (decide (r<c.1)) (Ix r x<|Ix o a.2.1.length<|Ix r x<|Ix o z.1.length<|Ix r x<|aX z.2.1.length [o].length 8/\(Ik (r+1)<|b (((),(),(),r+1,()),List.set a.2.1 o.toNat (r,[]),List.set z.1 o.toNat true,z.2.1++[o],()))) (aI (S:=rL) (λd e=>let y:=d.2.2.2.1;let v:=d.1.2.2.2.1;let m:=y.getD v.toNat 0;Iq v<|Oa aW d.2.1<|T.ok (.sl T.bool) d.2.2.1->(Ol y<|cnd (decide (v<(y.length:Int))) (Ix v y.length<|aI (S:=rL) (λf g=>let a0:=f.2.1;let w:=f.2.2;let t:=f.1.2.2.2.1;let q:=a0.getD m.toNat (0,[]);let n:=gens.getD t.toNat 0;let u:=bU c m n;Iq t<|Oa aW a0<|T.ok (.sl T.bool) w.1->(Ol w.2.1<|cnd (decide (t<(gens.length:Int))) (bZ (S:=FU) (λh=>Oa aW h.2.1<|T.ok (.sl T.bool) h.2.2.1->(Ol h.2.2.2.1<|Ik (t+1)<|g (((),(),(),t+1,()),h.2.1,h.2.2.1,h.2.2.2.1,()))) (λi=>Ix t gens.length<|Ix n p<|Ix m c.2.2.1.length<|cnd (c.2.1.getD n.toNat 0 != c.2.2.1.getD m.toNat 0) (i (((),(),(),()),a0,w.1,w.2.1,())) (Ix t gens.length<|Ix m c.2.2.2.2.length<|Ix n (c.2.2.2.2.getD m.toNat []).length<|Ix u w.1.length<|bZ (S:=FU) (λj=>Oa aW j.2.1<|T.ok (.sl T.bool) j.2.2.1->(Ol j.2.2.2.1<|i (((),(),(),()),j.2.1,j.2.2.1,j.2.2.2.1,()))) (λl=>cnd (!w.1.getD u.toNat false) (Ix u w.1.length<|Ix m a0.length<|Ix m a0.length<|q.2.length<=1099511627776/\aX q.2.length [t].length 8/\(Ix u a0.length<|aX w.2.1.length [u].length 8/\l (((),(),(),()),List.set a0 u.toNat (q.1,q.2++[t]),List.set w.1 u.toNat true,w.2.1++[u],()))) (l (((),(),(),()),a0,w.1,w.2.1,())))))) (Ik (v+1)<|e (((),(),(),v+1,()),a0,w.1,w.2.1,())))) (((),(),(),0,()),d.2.1,d.2.2.1,y,())) (K (d.2.1,(y.length:Int)==(p:Int),())))) (((),(),(),0,()),a.2.1,z.1,z.2.1,())))) (((),(),(),0,()),List.replicate (Int.toNat (p:Int)) (0,[]),List.replicate (Int.toNat (p:Int)) false,[],())
theorem Yp(c:aF)(gens:aw)(hok:ab (okL sG.args (c,gens,())))(hpre:ab (sG.pre (c,gens,()))):Ie c gens (λr=>r=sG.res (c,gens,())):=by
 simp only[sG,okL,T.oks,T.ok,ap,ab,aL,aA,bf]at hok hpre
 try dsimp only[T.den]at hok hpre
 delta Ie Ik Iq Ix Oa Ol
 dsimp -proj -eta only;obtain⟨S,hg⟩:=hpre;have hil:=hok.2.2.2.2.2.1;simp only[bO]at hil;clear hok;have hm:=S.m;have hlc:=S.lc;have hob:=S.ob;have hli:=S.li;have hlt:=S.lt;refine⟨aa,aa,aa,aa,aa,aa,aa,aa,?_⟩;refine aY (λ(s:rL)=>0<=s.1.2.2.2.1/\s.1.2.2.2.1<=c.1/\s.2.1=wyR c (lpI c s.1.2.2.2.1.toNat)/\s.2.2.1=knR c (lpI c s.1.2.2.2.1.toNat)/\s.2.2.2.1=c.2.2.2.1.take s.1.2.2.2.1.toNat) (λ(s:rL)=>(c.1-s.1.2.2.2.1).toNat) ?_ ⟨ae,ae,?_,?_,rfl⟩;rotate_left
 ·try dsimp only
  rw[bB,qY];refine dJ λy _ _=>?_;rw[show lpI c (Int.toNat 0)=List.replicate c.2.1.length none from rfl,JB]
 ·try dsimp only
  rw[bB,qY];refine dJ λy _ _=>?_;rw[show lpI c (Int.toNat 0)=List.replicate c.2.1.length none from rfl,JB];rfl
 rintro⟨⟨_,_,_,i,_⟩,out,known,order,_⟩ next ⟨i0,i1,ho,hk,hd⟩ hnx hin hok1 hok2 hok3
 try dsimp only at i0 i1 ho hk hd hnx hin⊢
 subst ho;subst hk;subst hd;clear hok1 hok2 hok3;obtain⟨l1,l2,l3⟩:=B5 S i.toNat aa;refine aE (λhi=>?_) (λhi=>?_)
 ·obtain⟨ha,hb,hc,_⟩:=S.idn i0 hi;refine⟨i0,aa,ha,by rw[AS];exact hb,i0,aa,ha,by rw[KR];exact hb,i0,aa,bh (by rw[ez];simp only[aH,aM];omega),az,hnx _ ⟨ae,ae,?_,?_,?_⟩ ae⟩
  ·try dsimp only
   rw[UK i0,←Te l1 ha hb,hc]
  ·try dsimp only
   rw[UK i0,←TK l1 ha hb]
  ·try dsimp only
   exact (fY c.2.2.2.1 0 i0 aa).symm
 have hie:i.toNat=c.2.2.2.1.length:=aa
 rw[hie,wh];clear hi hnx next l1 l2 l3
 have V0:=Ll S;have N0:=TY S _ (aZ _)
 refine aY (λ(s:rL)=>0<=s.1.2.2.2.1/\s.1.2.2.2.1<=s.2.2.2.1.length/\∃o:iG,s.2.1=wyR c o/\s.2.2.1=knR c o/\LpV c.2.1.length (c.2.1.length+c.2.2.2.1.length) (o,s.2.2.2.1.drop s.1.2.2.2.1.toNat)/\s.2.2.2.1.length+iq o=c.2.1.length/\∃n,(s.2.2.2.1.drop s.1.2.2.2.1.toNat).length+iq o<n/\lpL c gens n o (s.2.2.2.1.drop s.1.2.2.2.1.toNat)=lpF c gens) (λ(s:rL)=>(c.2.1.length-s.1.2.2.2.1).toNat) ?_
  ⟨ae,ae,_,rfl,rfl,V0,N0,_,Nat.lt_succ_of_le (eu V0.mu (aZ _)),rfl⟩
 rintro⟨⟨_,_,_,i,_⟩,_,_,order,_⟩ next ⟨i0,i1,o,ho,hkn,V,hn,n,hf,hF⟩ hnx hin hok1 hok2 hok3
 try dsimp only at i0 i1 ho hkn V hn hf hF hnx hin⊢
 subst ho;subst hkn;clear hok1 hok2 hok3;refine aE (λhi=>⟨i0,hi,?_⟩) (λhi=>?_)
 ·have hdc:=im order 0 i0 hi;rw[hdc]at V hf hF;have htd:=kx (i+1).toNat order;have htl:(order.take (i+1).toNat).length=i.toNat+1:=by rw[ez];omega
  have hdl:(order.drop (i+1).toNat).length=order.length-(i.toNat+1):=by rw[iz];omega
  generalize order.getD i.toNat 0=f at *;generalize hto:order.drop (i+1).toNat=todo at *;generalize hta:order.take (i+1).toNat=tk at *;obtain⟨n,rfl⟩:∃n',n=n'+1:=⟨n-1,aa⟩;rw[lpL]at hF;obtain⟨f0,f1,fk⟩:=V.rng f ak
  try dsimp only at fk
  have V1:LpV c.2.1.length (todo.length+iq o) (o,todo):=⟨V.len,λg hg=>V.rng g (by simp only[cQ];exact .inr hg),V.lnb,aZ _⟩;have VE:=Ft S hg f0 f1 V1 fk;have NE:=Uu S hg f0 f1 V1 fk;refine aY (λ(s:rL)=>0<=s.1.2.2.2.1/\s.1.2.2.2.1<=gens.length/\s.2.1=wyR c (lpE c gens f s.1.2.2.2.1.toNat (o,todo)).1/\s.2.2.1=knR c (lpE c gens f s.1.2.2.2.1.toNat (o,todo)).1/\s.2.2.2.1=tk++(lpE c gens f s.1.2.2.2.1.toNat (o,todo)).2) (λ(s:rL)=>(gens.length-s.1.2.2.2.1).toNat) ?_ ⟨ae,ae,rfl,rfl,htd.symm⟩;rintro⟨⟨_,_,_,e,_⟩,_,_,_,_⟩ next2 ⟨e0,e1,h1,h2,h3⟩ hnx2 hin2 hok1 hok2 hok3
  try dsimp only at e0 e1 h1 h2 h3 hnx2 hin2⊢
  subst h1;subst h2;subst h3;clear hok1 hok2 hok3;obtain⟨V2,K2⟩:=VE e.toNat aa;have N2:=NE e.toNat aa;refine aE (λhe=>?_) (λhe=>?_)
  ·have hge:=fF.1 hg e e0 he
   have hs:lpE c gens f (e+1).toNat (o,todo)=if bU c f (gens.getD e.toNat 0)<0\/((lpE c gens f e.toNat (o,todo)).1.getD (bU c f (gens.getD e.toNat 0)).toNat none).isSome=true then lpE c gens f e.toNat (o,todo)
     else ((lpE c gens f e.toNat (o,todo)).1.set (bU c f (gens.getD e.toNat 0)).toNat (some ((((lpE c gens f e.toNat (o,todo)).1.getD f.toNat none).getD [])++[e])),(lpE c gens f e.toNat (o,todo)).2++[bU c f (gens.getD e.toNat 0)]):=by
    rw[show (e+1).toNat=e.toNat+1 from by omega,lpE,show ((e.toNat:Nat):Int)=e from by omega]
   have hl2:=V2.len;have hfk:((lpE c gens f e.toNat (o,todo)).1.getD f.toNat none).isSome=true:=by rw[K2 _ fk];exact fk
   obtain⟨pf,hpf⟩:=yG.1 hfk;have hplen:=V2.lnb _ _ hpf;have hwf:=Tn f0 f1 hpf;have hrow:=S.row f f0 f1;refine cp (λ(q:FU)=>q.2.1=wyR c (lpE c gens f (e+1).toNat (o,todo)).1/\q.2.2.1=knR c (lpE c gens f (e+1).toNat (o,todo)).1/\q.2.2.2.1=tk++(lpE c gens f (e+1).toNat (o,todo)).2) (λq hq _ _ _=>⟨az,hnx2 _ ⟨ae,ae,hq⟩ ae⟩) (λk hk=>?_);refine⟨e0,he,hge.1,hge.2,f0,aa,aC (λhx=>hk _ ?_) (λhx=>?_)⟩
   ·rw[qu]at hx;rw[hs,am (.inl (by rw[S.no f0 f1 hge.1 hge.2 (dg hx)];omega))];exact⟨rfl,rfl,rfl⟩
   ·rw[fT]at hx;obtain⟨hh0,hh1,hh2,_⟩:=S.yes f0 f1 hge.1 hge.2 hx.symm;generalize bU c f (gens.getD e.toNat 0)=h at *;generalize lpE c gens f e.toNat (o,todo)=s2 at *;refine⟨e0,he,f0,aa,hge.1,by rw[hrow];exact hge.2,hh0,by rw[KR];exact hh1,?_⟩;refine cp (λ(q:FU)=>q.2.1=wyR c (lpE c gens f (e+1).toNat (o,todo)).1/\q.2.2.1=knR c (lpE c gens f (e+1).toNat (o,todo)).1/\q.2.2.2.1=tk++(lpE c gens f (e+1).toNat (o,todo)).2) (λq hq _ _ _=>hk _ hq) (λk1 hk1=>aC (λhz=>?_) (λhz=>hk1 _ ?_))
    ·rw[SR hh0 hh1,fy]at hz;rw[ai (by rw[hz];rintro (q|q);omega;cases q),hpf,dY]at hs;rw[hwf];refine⟨hh0,by rw[KR];exact hh1,f0,by rw[AS];exact f1,f0,by rw[AS];exact f1,ae,bh (by dsimp only;simp only[aH,aM];omega),hh0,by rw[AS];exact hh1,bh (by rw[bj];simp only[aH,aM];dsimp only at N2;omega),hk1 _ ?_⟩;rw[hs]
     try dsimp only
     rw[←hh2,Te hl2 hh0 hh1,TK hl2 hh0 hh1,eP];exact⟨rfl,rfl,rfl⟩
    ·rw[SR hh0 hh1,jK]at hz;rw[hs,am (.inr hz)];exact⟨rfl,rfl,rfl⟩
  ·have hee:e.toNat=gens.length:=aa
   rw[hee]at V2 N2⊢;have hmu:=V2.mu;have hvm:=V.mu;simp only[aH]at hvm hf;generalize lpE c gens f gens.length (o,todo)=s2 at *;have hdd:(tk++s2.2).drop (i+1).toNat=s2.2:=List.drop_left' (by rw[htl];omega);have htt:(tk++s2.2).length=i.toNat+1+s2.2.length:=by rw[bj,htl]
   try dsimp only at N2
   refine⟨az,hnx _ ⟨ae,ae,s2.1,rfl,rfl,?_,?_,n,?_,?_⟩ ae⟩
   ·try dsimp only;rw[hdd];exact V2.le aa
   ·try dsimp only;omega
   ·try dsimp only;rw[hdd];omega
   ·try dsimp only;rw[hdd];exact hF
 ·have hie2:(order.length:Int)<=i:=aa
  rw[jt order hie2]at hF;have hoF:o=lpF c gens:=by rw[←hF];cases n<;>rfl
  subst hoF;have hb:(((order.length:Nat):Int)==((c.2.1.length:Nat):Int))=pF c gens:=by rw[pF,Bool.eq_iff_iff,cR,←SU];omega
  simp only[sG,hb];rfl
theorem XE:aN Tryz.prog 82 sG:=ctb (au jo (au HE aQ)) aR 82 Tryz.f82 sG Xu [(16,13),(17,506),(1,509),(20,185015),(22,8)] (λx K=>Ie x.1 x.2.1 K) (λx h1 h2=>Yp x.1 x.2.1 h1 h2)
def oB(f g:aw):List Int:=f.map λy=>g.getD y.toNat 0
def l8(c:aF)(f:Int):List Int:=(LJ c (cU c)).getD f.toNat []
def soQ(c:aF)(f e:Int):Bool:=(decide (bU c f ((cU c).getD e.toNat 0)<0)||idR c f)||eqR bd (l8 c f++[e]) (l8 c (bU c f ((cU c).getD e.toNat 0)))
abbrev yC:Type:=List aO×List aO
def soE(c:aF)(f:Int)(s:yC):Nat->List aO×List aO
 |0=>s
 |k+1=>if soQ c f k=true then soE c f s k else ((soE c f s k).1++[(c.2.1.getD f.toNat 0,l8 c f++[(k:Int)])],(soE c f s k).2++[(c.2.1.getD f.toNat 0,l8 c (bU c f ((cU c).getD k 0)))])
def soF(c:aF):Nat->List aO×List aO
 |0=>([],[])
 |k+1=>soE c k (soF c k) (cU c).length
def soS(c:aF):aB:=(c.1,oB (cU c) c.2.1,oB (cU c) c.2.2.1,(soF c c.2.1.length).1,(soF c c.2.1.length).2)
def soZ:aB:=(0,[],[],[],[])
def soR(c:aF):aB×Int:=if eM c=true then (if pF c (cU c)=true then (if bE (soS c)=true then (soS c,0)else (soZ,3))else (soZ,4))else (soZ,1)
theorem acd:(cU c).length<=c.2.1.length:=by unfold cU;exact Kd _
theorem II:bD (cU c) c.2.1.length=true:=by unfold bD;rw[eU];intro x hx;unfold cU at hx;obtain⟨a,b,_⟩:=JW.1 hx;rw[iD];omega
theorem Kl{z:aw}:∀(o:iG)(h:Nat),(kS z o).getD h z=(o.getD h none).getD z
 |[],h=>by simp[kS]
 |a::r,0=>by cases a<;>simp[kS]
 |a::r,h+1=>by have:=@Kl z r h;simpa[kS]using this
theorem Ln{c:aF}(S:ShapeP c){gens:aw}(hg:bD gens c.2.1.length=true):∀(n B:Nat)(out:iG)(todo:aw),LpV c.2.1.length B (out,todo)->
  (lpL c gens n out todo).length=c.2.1.length/\∀(h:Nat)(l:aw),(lpL c gens n out todo).getD h none=some l->l.length<=c.2.1.length
 |0,B,out,todo,V|n+1,B,out,[],V=>⟨V.len,λh l e=>by have:=V.lnb h l e;omega⟩
 |n+1,B,out,f::todo,V=>by obtain⟨f0,f1,fk⟩:=V.rng f ak;have V1:LpV c.2.1.length (todo.length+iq out) (out,todo):=⟨V.len,λg hg=>V.rng g (by simp only[cQ];exact .inr hg),V.lnb,aZ _⟩;obtain⟨V2,_⟩:=Ft S hg f0 f1 V1 fk gens.length (aZ _);rw[lpL];exact Ln S hg n _ _ _ V2
theorem Tz(S:ShapeP c)(f:Int):(l8 c f).length<=c.2.1.length:=by
 rw[l8,LJ];split
 ·rw[Kl]
  cases e:(lpF c (cU c)).getD f.toNat none with
  |none=>simp
  |some l=>exact (Ln S II (c.2.1.length+c.2.2.2.1.length+1) _ _ _ (Ll S)).2 _ _ e
 ·simp
theorem Ui{e:Int}{s:yC}(e0:0<=e):soE c f s (e+1).toNat=if soQ c f e=true then soE c f s e.toNat else ((soE c f s e.toNat).1++[(c.2.1.getD f.toNat 0,l8 c f++[e])],(soE c f s e.toNat).2++[(c.2.1.getD f.toNat 0,l8 c (bU c f ((cU c).getD e.toNat 0)))]):=by rw[show (e+1).toNat=e.toNat+1 from by omega,soE,show ((e.toNat:Nat):Int)=e from by omega]
theorem Eb{c:aF}{f:Int}{s:yC}(h:s.1.length=s.2.length):∀k:Nat,s.1.length<=(soE c f s k).1.length/\(soE c f s k).1.length<=s.1.length+k/\(soE c f s k).1.length=(soE c f s k).2.length
 |0=>⟨aZ _,aZ _,h⟩
 |k+1=>by
  have:=Eb (c:=c) (f:=f) h k;rw[soE];split
  ·omega
  ·simp only[bj,za];omega
theorem JX{c:aF}:∀k:Nat,(soF c k).1.length<=k*(cU c).length/\(soF c k).1.length=(soF c k).2.length
 |0=>⟨dO _,rfl⟩
 |k+1=>by have h:=JX (c:=c) k;have:=Eb (c:=c) (f:=k) h.2 (cU c).length;rw[soF,jk,Nat.one_mul];omega
theorem TX(f0:0<=f):soF c (f+1).toNat=soE c f (soF c f.toNat) (cU c).length:=by rw[show (f+1).toNat=f.toNat+1 from by omega,soF,show ((f.toNat:Nat):Int)=f from by omega]
def soT(c:aF)(s:yC):aB:=(c.1,oB (cU c) c.2.1,oB (cU c) c.2.2.1,s.1,s.2)
theorem act(S:ShapeP c)(ok:pF c (cU c)=true)(f0:0<=f)(f1:f<c.2.1.length):((yv c (cU c)).getD f.toNat (0,[])).2=l8 c f:=by
 have hl:=(Ln S II (c.2.1.length+c.2.2.2.1.length+1) _ _ _ (Ll S)).1
 have hs:((lpF c (cU c)).getD f.toNat none).isSome=true:=by
  have h:=ok;unfold pF at h;rw[eU]at h;have hx:f.toNat<(lpF c (cU c)).length:=by unfold lpF;rw[hl];omega
  rw[bN,bX hx,dY];exact h _ (rS hx)
 obtain⟨l,hl2⟩:=yG.1 hs;rw[yv,Tn f0 f1 hl2,l8,LJ,am ok,Kl,hl2];rfl
theorem Q1{c:aF}{f:Int}{s:yC}{k:Nat}:∀d:Nat,(soE c f s k).1.length<=(soE c f s (k+d)).1.length
 |0=>aZ _
 |d+1=>by
  have:=Q1 (c:=c) (f:=f) (s:=s) (k:=k) d;rw[show k+(d+1)=(k+d)+1 from rfl,soE];split
  ·exact this
  ·simp only[bj,za];omega
theorem Ql{c:aF}{k:Nat}:∀d:Nat,(soF c k).1.length<=(soF c (k+d)).1.length
 |0=>aZ _
 |d+1=>by have:=Ql (c:=c) (k:=k) d;have h:=(Eb (c:=c) (f:=((k+d:Nat):Int)) (JX (c:=c) (k+d)).2 (cU c).length).1;rw[show k+(d+1)=(k+d)+1 from rfl,soF];omega
theorem ac5{e:Int}(i0:0<=i)(hi:i<c.2.1.length)(e0:0<=e)(he:e<(cU c).length)(h8:(soE c i (soF c i.toNat) e.toNat).1.length=8)(hq:soQ c i e=false):bE (soT c (soF c c.2.1.length))=false:=by
 have h9:(soE c i (soF c i.toNat) (e.toNat+1)).1.length=9:=by have:=Ui (c:=c) (f:=i) (s:=soF c i.toNat) e0;rw[show (e+1).toNat=e.toNat+1 from by omega]at this;rw[this,ai (by rw[hq];simp)];simp only[bj,za];omega
 have h1:=Q1 (c:=c) (f:=i) (s:=soF c i.toNat) (k:=e.toNat+1) ((cU c).length-(e.toNat+1));rw[show e.toNat+1+((cU c).length-(e.toNat+1))=(cU c).length from by omega]at h1;have h2:=TX (c:=c) i0;rw[←h2,show (i+1).toNat=i.toNat+1 from by omega]at h1;have h3:=Ql (c:=c) (k:=i.toNat+1) (c.2.1.length-(i.toNat+1));rw[show i.toNat+1+(c.2.1.length-(i.toNat+1))=c.2.1.length from by omega]at h3;have h4:¬(soT c (soF c c.2.1.length)).2.2.2.1.length<=8:=by show ¬(soF c c.2.1.length).1.length<=8;omega
 cases hz:bE (soT c (soF c c.2.1.length))with
 |false=>rfl
 |true=>unfold bE at hz;simp only[ao,cj]at hz;exact absurd hz.1.1.2 h4
def mU:Ct:=⟨[cS],[true],λx=>[],[(true,Lm),(false,cA)],λx=>((soR x.1).1,(soR x.1).2,()),true,none⟩
def WQ:Ann:=(.s .n (.s .n (.s .n (.s .n (.s .n (.s .n (.s (.s .n (.l [(2,(.ad 2 [.de])),(8,(.ad 8 [.de])),(9,(.d aq))] [(2,pU),(8,pU)] [1,4,6] .n)) (.s (.s .n (.l U3 [(2,pU),(8,L0)] [1,4,6] (.s .n (.s (.s .n (.l [(2,(.ad 2 [.de])),(8,(.ad 8 [.de])),(11,(.d aq))] [(2,pU),(8,L0)] [1,4,6,10] (.s .n (.s (.j [(2,(.ad 2 [.de])),(8,(.ad 8 [.de]))] [(2,pU),(8,L0)] [1,4,6,10,11] (.s .n (.s .n (.s .n (.s (.s .n (.j [(2,(.ad 2 [.de])),(8,(.ad 8 [.de])),(12,(.d bd))] [(2,pU),(8,(.pt (.p cA (.p cd (.p cd U1)))))] [1,4,6,10,11,13] .n)) .n))))) .n)))) .n)))) .n))))))))
def ah0:FuncId->Option Ct:=lkp [(81,q6),(19,mT),(46,lu),(72,mX),(47,pk),(84,uL),(83,wX),(82,sG)]
def HG(c:aF)(K:aB×Int×Unit->Prop):Prop:=let a2:=tS c;let y:=yv c a2.1;let w:=c.2.1.length;let t:=a2.1.length;cnd (!eM c) (K ((0,[],[],([]:List aS),([]:List aS)),1,())) (ShapeP c/\bD a2.1 (w:Int)=true/\cnd (!pF c a2.1) (K ((0,[],[],([]:List aS),([]:List aS)),4,())) (aI (S:=(dy×lN)) (λa b=>let z:=a.1.2.2.1;let u:=a.2.2.1.2;let o:=a2.1.getD z.toNat 0;let a6:=c.2.1.getD o.toNat 0;let a5:=c.2.2.1.getD o.toNat 0;Iq z<|Iq a.2.1.1<|Ol a.2.1.2.1<|Ol a.2.1.2.2.1<|Oa aW a.2.1.2.2.2.1<|Oa aW a.2.1.2.2.2.2<|Iq a.2.2.1.1<|Ol u.1<|Ol u.2.1<|Oa aW u.2.2.1<|Oa aW u.2.2.2<|cnd (decide (z<(t:Int))) (u.1.length<=1099511627776/\(Ix z t<|Ix o w<|aX u.1.length [a6].length 8/\u.2.1.length<=1099511627776/\(Ix z t<|Ix o c.2.2.1.length<|aX u.2.1.length [a5].length 8/\(Ik (z+1)<|b (((),(),z+1,()),a.2.1,(a.2.2.1.1,u.1++[a6],u.2.1++[a5],u.2.2),()))))) (aI (S:=(dy×lN)) (λd e=>let a1:=d.2.2.1;let n:=d.1.2.2.1;let x:=c.2.1.getD n.toNat 0;let q:=y.getD n.toNat (0,[]);Iq n<|Iq d.2.1.1<|Ol d.2.1.2.1<|Ol d.2.1.2.2.1<|Oa aW d.2.1.2.2.2.1<|Oa aW d.2.1.2.2.2.2<|Iq a1.1<|Ol a1.2.1<|Ol a1.2.2.1<|Oa aW a1.2.2.2.1<|Oa aW a1.2.2.2.2<|cnd (decide (n<(w:Int))) (aI (S:=(dy×lN)) (λf g=>let a4:=f.2.1;let a0:=f.2.2.1;let v:=f.1.2.2.1;let p:=a2.1.getD v.toNat 0;let m:=y.getD (bU c n p).toNat (0,[]);Iq v<|Iq a4.1<|Ol a4.2.1<|Ol a4.2.2.1<|Oa aW a4.2.2.2.1<|Oa aW a4.2.2.2.2<|Iq a0.1<|Ol a0.2.1<|Ol a0.2.2.1<|Oa aW a0.2.2.2.1<|Oa aW a0.2.2.2.2<|cnd (decide (v<(t:Int))) (bZ (S:=(iw×lN)) (λh=>let a3:=h.2.2.1;Iq h.2.1.1<|Ol h.2.1.2.1<|Ol h.2.1.2.2.1<|Oa aW h.2.1.2.2.2.1<|Oa aW h.2.1.2.2.2.2<|Iq a3.1<|Ol a3.2.1<|Ol a3.2.2.1<|Oa aW a3.2.2.2.1<|Oa aW a3.2.2.2.2<|Ik (v+1)<|g (((),(),v+1,()),h.2.1,a3,())) (λi=>ShapeP c/\(Ix n w<|(idR c n=false->v<(t:Int)/\0<=v)/\(idR c n=false->p<(w:Int)/\0<=p)/\(idR c n=false->n<(c.2.2.1.length:Int)/\0<=n)/\cnd (idR c n||c.2.1.getD p.toNat 0 != c.2.2.1.getD n.toNat 0) (i (((),(),()),a4,a0,())) (Ix n y.length<|q.2.length<=1099511627776/\aX q.2.length [v].length 8/\(Ix v t<|Ix n c.2.2.2.2.length<|Ix p (c.2.2.2.2.getD n.toNat []).length<|Ix (bU c n p) y.length<|bZ (S:=((Unit×(Unit×cV))×lN)) (λj=>let a7:=j.2.2.1;let r:=a7.2.2;let a8:=r.2.1.length;Ol j.1.2.2.1<|Iq j.2.1.1<|Ol j.2.1.2.1<|Ol j.2.1.2.2.1<|Oa aW j.2.1.2.2.2.1<|Oa aW j.2.1.2.2.2.2<|Iq a7.1<|Ol a7.2.1<|Ol r.1<|Oa aW r.2.1<|Oa aW r.2.2<|cnd ((a8:Int)==8) (K ((0,[],[],([]:List aS),([]:List aS)),3,())) (aX 0 a8 32/\(Ix n w<|aX a8 ((x,j.1.2.2.1)::([]:List aS)).length 32/\aX 0 r.2.2.length 32/\(Ix n w<|m.2.length<=1099511627776/\aX r.2.2.length ((x,m.2)::([]:List aS)).length 32/\i (((),(),()),j.2.1,(a7.1,a7.2.1,r.1,r.2.1++(x,j.1.2.2.1)::([]:List aS),r.2.2++(x,m.2)::([]:List aS)),()))))) (λl=>cnd (eqR bd (q.2++[v]) m.2) (i (((),(),()),a4,a0,())) (l (((),(),q.2++[v],()),a4,a0,())))))))) (Ik (n+1)<|e (((),(),n+1,()),a4,a0,()))) (((),(),0,()),d.2.1,a1,())) (cnd (!bE a1) (K ((0,[],[],([]:List aS),([]:List aS)),3,())) (K (a1,0,())))) (((),(),0,()),a.2.1,a.2.2.1,()))) (((),(),0,()),(0,[],[],([]:List aS),([]:List aS)),(c.1,[],[],([]:List aS),([]:List aS)),())))
abbrev rM:Type:=(dy×lN)
theorem XN(c:aF)(hok:ab (okL mU.args (c,())))(hpre:ab (mU.pre (c,()))):HG c (λr=>r=mU.res (c,())):=by
 simp only[mU,okL,T.oks,T.ok,ap,ab,aL,aA,bf]at hok hpre
 try dsimp only[T.den]at hok hpre
 delta HG Ik Iq Ix Oa Ol
 dsimp -proj -eta only;refine aC (λhx=>?_) (λhx=>?_)
 ·have h:eM c=false:=by rw[fy]at hx;exact hx
  simp only[mU,soR];rw[ai (by rw[h];simp)];rfl
 have h:eM c=true:=by rw[jK]at hx;exact hx
 have hirr:(tS c).1=cU c:=by unfold tS;rw[am h]
 have S:=SE h;have hw:=II (c:=c);simp only[hirr];refine⟨S,hw,aC (λhy=>?_) (λhy=>?_)⟩
 ·have h2:pF c (cU c)=false:=by rw[fy]at hy;exact hy
  simp only[mU,soR];rw[am h,ai (by rw[h2];simp)];rfl
 have h2:pF c (cU c)=true:=by rw[jK]at hy;exact hy
 clear hok hpre hx hy;have hres:soR c=if bE (soT c (soF c c.2.1.length))=true then (soT c (soF c c.2.1.length),0)else (soZ,3):=by rw[soR,am h,am h2];rfl
 have hm:=S.m;have hlc:=S.lc;have hlt:=S.lt;have hil:=acd (c:=c);have hwl:(yv c (cU c)).length=c.2.1.length:=AS;have hwr:∀f:Int,0<=f->f<c.2.1.length->((yv c (cU c)).getD f.toNat (0,[])).2=l8 c f:=λf f0 f1=>act S h2 f0 f1;refine aY (λ(s:rM)=>0<=s.1.2.2.1/\s.1.2.2.1<=(cU c).length/\s.2.2.1=(c.1,oB ((cU c).take s.1.2.2.1.toNat) c.2.1,oB ((cU c).take s.1.2.2.1.toNat) c.2.2.1,[],[])) (λ(s:rM)=>((cU c).length-s.1.2.2.1).toNat) ?_ ⟨ae,ae,rfl⟩;rintro⟨⟨_,_,i,_⟩,z,s,_⟩ next ⟨i0,i1,hs⟩ hnx hin _ _ _ _ _ _ _ _ _ _
 try dsimp only at i0 i1 hs hnx hin⊢
 subst hs;refine aE (λhi=>?_) (λhi=>?_)
 ·have hge:=fF.1 hw i i0 hi;have htc:=fY (cU c) 0 i0 hi;have hl1:(oB ((cU c).take i.toNat) c.2.1).length<=40:=by unfold oB;rw[d5,ez];omega
  have hl2:(oB ((cU c).take i.toNat) c.2.2.1).length<=40:=by unfold oB;rw[d5,ez];omega
  refine⟨ae,i0,hi,hge.1,hge.2,bh (by dsimp only;simp only[aH,aM];omega),ae,i0,hi,hge.1,aa,bh (by dsimp only;simp only[aH,aM];omega),az,hnx _ ⟨ae,ae,?_⟩ ae⟩
  try dsimp only
  rw[htc];simp only[oB,mN,gO,nP]
 have hie:i.toNat=(cU c).length:=aa
 rw[hie,wh];clear hi hnx next
 refine aY (λ(s:rM)=>0<=s.1.2.2.1/\s.1.2.2.1<=c.2.1.length/\s.2.2.1=soT c (soF c s.1.2.2.1.toNat)) (λ(s:rM)=>(c.2.1.length-s.1.2.2.1).toNat) ?_ ⟨ae,ae,rfl⟩;rintro⟨⟨_,_,i,_⟩,z,s,_⟩ next ⟨i0,i1,hs⟩ hnx hin _ _ _ _ _ _ _ _ _ _
 try dsimp only at i0 i1 hs hnx hin⊢
 subst hs;have hF:=JX (c:=c) i.toNat;have hF1:(soF c i.toNat).1.length<=40*40:=eu hF.1 (Nat.mul_le_mul aa aa);refine aE (λhi=>?_) (λhi=>?_)
 ·refine aY (λ(s:rM)=>0<=s.1.2.2.1/\s.1.2.2.1<=(cU c).length/\s.2.2.1=soT c (soE c i (soF c i.toNat) s.1.2.2.1.toNat)) (λ(s:rM)=>((cU c).length-s.1.2.2.1).toNat) ?_ ⟨ae,ae,rfl⟩;rintro⟨⟨_,_,e,_⟩,z2,s2,_⟩ next2 ⟨e0,e1,hs⟩ hnx2 hin2 _ _ _ _ _ _ _ _ _ _
  try dsimp only at e0 e1 hs hnx2 hin2⊢
  subst hs;have hE:=Eb (c:=c) (f:=i) hF.2 e.toNat;refine aE (λhe=>?_) (λhe=>?_)
  ·have hge:=fF.1 hw e e0 he;have hrow:=S.row i i0 hi;have hst:=Ui (c:=c) (f:=i) (s:=soF c i.toNat) e0;refine cp (λ(q:(iw×lN))=>q.2.2.1=soT c (soE c i (soF c i.toNat) (e+1).toNat)) (λq hq _ _ _ _ _ _ _ _ _ _=>⟨az,hnx2 _ ⟨ae,ae,hq⟩ ae⟩) (λk hk=>?_);refine⟨S,i0,hi,λ_=>⟨he,e0⟩,λ_=>⟨hge.2,hge.1⟩,λ_=>⟨aa,i0⟩,aC (λhc=>hk _ ?_) (λhc=>?_)⟩
   ·have hq:soQ c i e=true:=by
     unfold soQ;rw[fR]at hc;rcases hc with hc|hc
     ·rw[hc];simp
     ·rw[qu]at hc;rw[S.no i0 hi hge.1 hge.2 (dg hc)];rfl
    rw[hst,am hq]
   ·rw[gV,fT]at hc;obtain⟨hc1,hc2⟩:=hc;obtain⟨hh0,hh1,_,_⟩:=S.yes i0 hi hge.1 hge.2 hc2.symm;have hp1:=Tz S i;have hp2:=Tz S (bU c i ((cU c).getD e.toNat 0));have hqe:soQ c i e=eqR bd (l8 c i++[e]) (l8 c (bU c i ((cU c).getD e.toNat 0))):=by unfold soQ;rw[hc1,Ce aa];rfl
    rw[hwr i i0 hi,hwr _ hh0 hh1];refine⟨i0,aa,aa,bh (by simp only[aH,aM];omega),e0,he,i0,aa,hge.1,by rw[hrow];exact hge.2,hh0,aa,?_⟩;refine cp (λ(q:((Unit×(Unit×cV))×lN))=>q.1.2.2.1=l8 c i++[e]/\q.2.2.1=soT c (soE c i (soF c i.toNat) e.toNat)/\soQ c i e=false) ?_ (λk1 hk1=>aC (λhz=>hk _ ?_) (λhz=>hk1 _ ⟨rfl,rfl,by rw[hqe];exact hz⟩))
    ·rintro⟨⟨_,_,l,_⟩,z3,s3,_⟩ ⟨hl,hs3,hq⟩ _ _ _ _ _ _ _ _ _ _ _
     try dsimp only at hl hs3⊢
     subst hl;subst hs3;refine aC (λh8=>?_) (λh8=>?_)
     ·have h8':(soE c i (soF c i.toNat) e.toNat).1.length=8:=by rw[cR]at h8;have:(soT c (soE c i (soF c i.toNat) e.toNat)).2.2.2.1=(soE c i (soF c i.toNat) e.toNat).1:=rfl;rw[this]at h8;omega
      have hz2:=ac5 i0 hi e0 he h8' hq;simp only[mU,hres];rw[ai (by rw[hz2];simp)];rfl
     ·refine⟨bh (by dsimp only[soT];omega),i0,hi,bh (by dsimp only[soT];simp only[aH,aM];omega),bh (by dsimp only[soT];omega),i0,hi,aa,bh (by dsimp only[soT];simp only[aH,aM];omega),hk _ ?_⟩;rw[hst,ai (by rw[hq];simp)];rfl
    ·rw[hst,am (by rw[hqe];exact hz)]
  ·have hee:e.toNat=(cU c).length:=aa
   rw[hee];refine⟨az,hnx _ ⟨ae,ae,?_⟩ ae⟩
   try dsimp only
   rw[TX i0]
 ·have hie:i.toNat=c.2.1.length:=aa
  rw[hie];refine aC (λhz=>?_) (λhz=>?_)
  ·have hz2:bE (soT c (soF c c.2.1.length))=false:=by rw[fy]at hz;exact hz
   simp only[mU,hres];rw[ai (by rw[hz2];simp)];rfl
  ·have hz2:bE (soT c (soF c c.2.1.length))=true:=by rw[jK]at hz;exact hz
   simp only[mU,hres];rw[am hz2]
theorem Nd:aN Tryz.prog 55 mU:=ctb (au Vg (au wN (au jo (au CB (au I6 (au HE (au N4 (au XE aQ)))))))) aR 55 Tryz.f55 mU WQ [(19,17),(21,507),(25,1012),(26,1011),(11,512),(12,512)] (λx K=>HG x.1 K) (λx h1 h2=>XN x.1 h1 h2)
structure OwnP (l:df):Prop where
 n:l.length<=1099511627776
 e:∀r∈l,r.length<=1099511627776
def sJ:Ct:=⟨[nz],[false],λx=>[OwnP x.1],[(false,iL)],λx=>(x.1,()),false,none⟩
def XD:Ann:=(.s .n (.s .n (.s (.s .n (.l Lz [(800003,iL)] [0] .n)) .n)))
def Id(lists:df)(K:je×Unit->Prop):Prop:=aI (S:=vY) (λa b=>let d:=a.1.2.1;let c:=lists.getD d.toNat [];Iq d<|Om a.2.1<|cnd (decide (d<(lists.length:Int))) (Ix d lists.length<|c.length<=1099511627776/\aX a.2.1.length [c].length 24/\(Ik (d+1)<|b (((),d+1,()),a.2.1++[c],()))) (K (a.2.1,()))) (((),0,()),[],())
theorem XX(lists:df)(hok:ab (okL sJ.args (lists,())))(hpre:ab (sJ.pre (lists,()))):Id lists (λr=>r=sJ.res (lists,())):=by
 simp only[sJ,okL,T.oks,T.ok,ap,ab,aL,aA,bf]at hok hpre
 try dsimp only[T.den]at hok hpre
 delta Id Ik Iq Ix Om
 dsimp -proj -eta only;have h1:=hpre.n;have h2:=hpre.e;clear hok;refine po (λi=>lists.take i.toNat) (n:=lists.length) aa rfl ?_ ?_
 ·intro i next i0 i1 hn _ _
  try dsimp only at hn⊢
  rw[fY lists [] i0 i1]at hn;exact aE (λ_=>⟨i0,i1,h2 _ (cC lists [] i0 i1),bh (by rw[ez];simp only[aH,aM];omega),az,hn⟩) (λh=>absurd i1 h)
 ·intro next _ _
  refine aE (λh=>absurd h (jL _)) (λ_=>?_);simp only[sJ];rw[jv _ (cB _)]
theorem NI:aN Tryz.prog 128 sJ:=ctb (au jo aQ) aR 128 Tryz.f128 sJ XD [] (λx K=>Id x.1 K) (λx h1 h2=>XX x.1 h1 h2)
structure TblR (t:df):Prop where
 lo:1<=t.length
 hi:t.length<=8
 rw_:∀r∈t,r.length=t.length
 en:∀r∈t,∀x∈r,0<=x/\x<=8
theorem TblR.own(h:TblR t):OwnP t:=⟨by have:=h.hi;omega,λr hr=>by have:=h.rw_ r hr;have:=h.hi;omega⟩
def k8:Wt:=⟨gE,[],[],λx y=>[bt x],λx _=>x,[(false,iL)],λ_ _=>dfR _,0⟩
def zw(s z:ba)(r0:df):Prop:=bt z/\TblR r0
def C6(s:ba)(K:ba->(je×Unit)->Prop):Prop:=let b:=cL s 8;let a:=dq s 8;0<=s.2.1/\cnd (b==0) (K a ([[0]],())) (cnd (b==1) (K a ([[0,1],[1,0]],())) (cnd (b==2) (K a ([[0,1],[1,1]],())) (cnd (b==3) (K a ([[0,1,2],[1,2,0],[2,0,1]],())) (cnd (b==4) (K a ([[0,1,2],[1,1,2],[2,2,2]],())) (cnd (b==5) (K a ([[0,1,2],[1,1,2],[2,1,2]],())) (cnd (b==6) (K a ([[0,1,2,3],[1,0,2,3],[2,3,2,3],[3,2,2,3]],())) (K a ([[0,1,2],[1,2,2],[2,2,2]],()))))))))
theorem Xn(s:ba)(hok:ab (k8.o.strip.oks s))(hok2:ab (okL k8.as (())))(hpre:ab (k8.pre s (()))):C6 s (λz r=>zw s z r.1):=by
 simp only[k8,O.strip,okL,T.oks,T.ok,ap,ab,aL,aA,bf]at hok hok2 hpre
 try dsimp only[T.den]at hok
 try dsimp only[T.den]at hok2
 try dsimp only[T.den]at hpre
 delta C6 zw
 dsimp -proj -eta only;have h1:=fI (n:=8) hpre az;refine⟨hpre.2,?_⟩
 repeat' first|exact⟨h1.1,⟨ak,ak,ak,bz⟩⟩|refine aC (λ_=>⟨h1.1,⟨ak,ak,ak,bz⟩⟩) (λ_=>?_)
theorem C7(s:ba):∃q:ba×(je×Unit),ab (k8.o.strip.oks s)->ab (okL k8.as (()))->ab (k8.pre s (()))->C6 s (λz r=>z=q.1/\r=q.2)/\ab (k8.o.strip.oks q.1)/\ab (okR k8.rt q.2)/\zw s q.1 q.2.1:=pkw (au iB aQ) aR 113 Tryz.f113 k8 .n [] lU (λx y K=>C6 x K) (λx y z r=>zw x z r.1) (λx y h1 h2 h3=>Xn x h1 h2 h3) s (())
def zm(s:ba):ba:=(C7 s).choose.1
def wK(s:ba):List (List Int):=(C7 s).choose.2.1
theorem Xa(s:ba)(hok:ab (k8.o.strip.oks s))(hok2:ab (okL k8.as (())))(hpre:ab (k8.pre s (()))):ab (k8.o.strip.oks (zm s))/\ab (okR k8.rt (wK s,()))/\zw s (zm s) (wK s):=((C7 s).choose_spec hok hok2 hpre).2
def MV:Wt:=⟨gE,[],[],λx y=>[bt x],λx y=>(zm x),[(false,iL)],λx y=>((wK x),()),0⟩
def Nx:Ct:=iO MV
theorem MN:aN Tryz.prog 113 Nx:=wtb (au iB aQ) aR 113 Tryz.f113 MV .n [] (λx y h1 h2 h3=>Eq.mp (by kernel_rfl) ((C7 x).choose_spec h1 h2 h3).1)
theorem J5(h:bt s):bt (zm s)/\TblR (wK s)/\(T.sl bd).ok (wK s):=by obtain⟨_,h2,h3⟩:=Xa s h.1 trivial ⟨h,trivial⟩;exact⟨h3.1,h3.2,h2.1⟩
structure RowP (n:Int) (m:df):Prop where
 l:(m.length:Int)=n
 r:∀r∈m,(r.length:Int)=n
theorem RowP.row(h:RowP n m)(i0:0<=i)(i1:i<n):((m.getD i.toNat []).length:Int)=n:=h.r _ (cC m [] i0 (by have:=h.l;omega))
theorem RowP.set(h:RowP n m)(i0:0<=i)(i1:i<n){j:Nat}:RowP n (m.set i.toNat ((m.getD i.toNat []).set j x)):=
 ⟨by rw[fx];exact h.l,λr hr=>by
  rcases List.mem_or_eq_of_mem_set hr with hr|hr
  ·exact h.r r hr
  ·rw[hr,fx];exact h.row i0 i1⟩
def jM:Wt:=⟨gE,[aq],[false],λx y=>[bt x,0<=y.1,y.1<=8],λx _=>x,[(false,iL)],λ_ _=>dfR _,0⟩
def zk(s:ba)(n:Int)(z:ba)(r0:df):Prop:=bt z/\RowP n r0
def M9:Ann:=(.s .n (.s .n (.s (.s .n (.l [(0,(.ad 1000000 [.de])),(5,(.ref 800005 [])),(6,(.d aq))] yi [1] (.s .n (.s (.s .n (.s .n (.s (.s .n (.l [(0,(.ad 1000000 [.de])),(5,(.ref 800005 [])),(7,(.ref 19 [])),(8,(.d aq))] [(1000000,nw),(800005,iL),(19,cd)] [1,6] .n)) .n))) .n)))) (.s (.s .n (.j Uf yi [1] .n)) (.s (.s .n (.l [(0,(.ad 1000000 [.de])),(5,(.ref 800005 [])),(9,(.d aq))] yi [1] (.s .n (.s (.s .n (.l [(0,(.ad 1000000 [.de])),(5,(.ref 800005 [])),(10,(.d aq))] yi [1,9] (.s .n (.s (.s .n (.l [(0,(.ad 1000000 [.de])),(5,(.ref 800005 [])),(11,(.d aq))] yi [1,9,10] (.s .n (.s (.s .n (.j Uf yi [1,9,10,11] .n)) .n)))) .n)))) .n)))) .n)))))
def C0(s:ba)(n:Int)(K:ba->(je×Unit)->Prop):Prop:=let c2:=decide (1<n);let c0:=Int.toNat (n-1);let b7:=List.replicate n.toNat (0:Int);aI (S:=iy) (λa b=>let b6:=a.2.1;let c4:=cL b6 n;let b3:=a.2.2.1;let a9:=a.1.2.2.1;let a4:=dq b6 4;let c3:=cL a4 n;let a3:=b3.getD c0 [];Iq a9<|Oa dK b6.1<|Iq b6.2.1<|inK .u64 b6.2.2->(Om b3<|cnd (decide (a9<n)) (0<=n/\n<=n/\n<=((140737488355328:Nat):Int)/\n*((8:Nat):Int)<=((140737488355328:Nat):Int)/\(Ix a9 b7.length<|Ik (a9+1)<|aI (S:=LO) (λc d=>let c1:=c.2.2.2.1;let b2:=c.1.2.2.2.1;Iq b2<|Oa dK c.2.1.1<|Iq c.2.1.2.1<|inK .u64 c.2.1.2.2->(Om c.2.2.1<|Ol c1<|cnd (decide (b2<n)) (0<=c.2.1.2.1/\(Ix b2 c1.length<|Ik (b2+1)<|d (((),(),(),b2+1,()),dq c.2.1 2,c.2.2.1,List.set c1 b2.toNat (cL c.2.1 2),()))) (aX c.2.2.1.length [c1].length 24/\(Ik (a9+1)<|b (((),(),a9+1,()),c.2.1,c.2.2.1++[c1],()))))) (((),(),(),a9+1,()),b6,b3,List.set b7 a9.toNat 1,()))) (ifP (c2=true) (0<=b6.2.1/\bZ (S:=FY) (λe=>Oa dK e.2.1.1<|Iq e.2.1.2.1<|inK .u64 e.2.1.2.2->(Om e.2.2.1<|aI (S:=iy) (λf g=>let a5:=f.1.2.2.1;Iq a5<|Oa dK f.2.1.1<|Iq f.2.1.2.1<|inK .u64 f.2.1.2.2->(Om f.2.2.1<|cnd (decide (a5<n)) (aI (S:=iy) (λh i=>let b0:=h.1.2.2.1;Iq b0<|Oa dK h.2.1.1<|Iq h.2.1.2.1<|inK .u64 h.2.1.2.2->(Om h.2.2.1<|cnd (decide (b0<n)) (aI (S:=iy) (λj l=>let b8:=j.2.2.1;let a7:=j.1.2.2.1;let a1:=b8.getD b0.toNat [];let b4:=a1.getD a5.toNat 0;Iq a7<|Oa dK j.2.1.1<|Iq j.2.1.2.1<|inK .u64 j.2.1.2.2->(Om b8<|cnd (decide (a7<n)) (Ix b0 b8.length<|Ix a5 a1.length<|((b4==1)=true->a5<(b8.length:Int)/\0<=a5)/\((b4==1)=true->a7<((b8.getD a5.toNat []).length:Int)/\0<=a7)/\bZ (S:=FY) (λm=>Oa dK m.2.1.1<|Iq m.2.1.2.1<|inK .u64 m.2.1.2.2->(Om m.2.2.1<|Ik (a7+1)<|l (((),(),a7+1,()),m.2.1,m.2.2.1,()))) (λo=>cnd (b4==1&&(b8.getD a5.toNat []).getD a7.toNat 0==1) (Ix b0 b8.length<|Ix a7 a1.length<|o (((),(),()),j.2.1,List.set b8 b0.toNat (List.set a1 a7.toNat 1),())) (o (((),(),()),j.2.1,b8,())))) (Ik (b0+1)<|i (((),(),b0+1,()),j.2.1,b8,())))) (((),(),0,()),h.2.1,h.2.2.1,())) (Ik (a5+1)<|g (((),(),a5+1,()),h.2.1,h.2.2.1,())))) (((),(),0,()),f.2.1,f.2.2.1,())) (K f.2.1 (f.2.2.1,())))) (((),(),0,()),e.2.1,e.2.2.1,()))) (λp=>cnd (c2&&cL b6 4==0) (Ik (n-1)<|Ix (n-1) b3.length<|0<=a4.2.1/\(Ix c3 a3.length<|p (((),(),()),dq a4 n,List.set b3 c0 (List.set a3 c3.toNat 1),()))) (p (((),(),()),a4,b3,())))) (bZ (S:=FY) (λq=>Oa dK q.2.1.1<|Iq q.2.1.2.1<|inK .u64 q.2.1.2.2->(Om q.2.2.1<|aI (S:=iy) (λr t=>let a6:=r.1.2.2.1;Iq a6<|Oa dK r.2.1.1<|Iq r.2.1.2.1<|inK .u64 r.2.1.2.2->(Om r.2.2.1<|cnd (decide (a6<n)) (aI (S:=iy) (λu v=>let b1:=u.1.2.2.1;Iq b1<|Oa dK u.2.1.1<|Iq u.2.1.2.1<|inK .u64 u.2.1.2.2->(Om u.2.2.1<|cnd (decide (b1<n)) (aI (S:=iy) (λw x=>let b9:=w.2.2.1;let a8:=w.1.2.2.1;let a2:=b9.getD b1.toNat [];let b5:=a2.getD a6.toNat 0;Iq a8<|Oa dK w.2.1.1<|Iq w.2.1.2.1<|inK .u64 w.2.1.2.2->(Om b9<|cnd (decide (a8<n)) (Ix b1 b9.length<|Ix a6 a2.length<|((b5==1)=true->a6<(b9.length:Int)/\0<=a6)/\((b5==1)=true->a8<((b9.getD a6.toNat []).length:Int)/\0<=a8)/\bZ (S:=FY) (λy=>Oa dK y.2.1.1<|Iq y.2.1.2.1<|inK .u64 y.2.1.2.2->(Om y.2.2.1<|Ik (a8+1)<|x (((),(),a8+1,()),y.2.1,y.2.2.1,()))) (λz=>cnd (b5==1&&(b9.getD a6.toNat []).getD a8.toNat 0==1) (Ix b1 b9.length<|Ix a8 a2.length<|z (((),(),()),w.2.1,List.set b9 b1.toNat (List.set a2 a8.toNat 1),())) (z (((),(),()),w.2.1,b9,())))) (Ik (b1+1)<|v (((),(),b1+1,()),w.2.1,b9,())))) (((),(),0,()),u.2.1,u.2.2.1,())) (Ik (a6+1)<|t (((),(),a6+1,()),u.2.1,u.2.2.1,())))) (((),(),0,()),r.2.1,r.2.2.1,())) (K r.2.1 (r.2.2.1,())))) (((),(),0,()),q.2.1,q.2.2.1,()))) (λa0=>cnd (c2&&(0:Int)==0) (Ik (n-1)<|Ix (n-1) b3.length<|0<=b6.2.1/\(Ix c4 a3.length<|a0 (((),(),()),dq b6 n,List.set b3 c0 (List.set a3 c4.toNat 1),()))) (a0 (((),(),()),b6,b3,()))))))) (((),(),0,()),s,[],())
theorem Wn(s:ba)(n:Int)(hok:ab (jM.o.strip.oks s))(hok2:ab (okL jM.as (n,())))(hpre:ab (jM.pre s (n,()))):C0 s n (λz r=>zk s n z r.1):=by
 simp only[jM,O.strip,okL,T.oks,T.ok,ap,ab,aL,aA,bf]at hok hok2 hpre
 try dsimp only[T.den]at hok
 try dsimp only[T.den]at hok2
 try dsimp only[T.den]at hpre
 delta C0 zk Ik Iq Ix Oa Ol Om
 dsimp -proj -eta only;obtain⟨hs0,hn1,hn8⟩:=hpre;refine aY (λ(s:iy)=>0<=s.1.2.2.1/\s.1.2.2.1<=n/\bt s.2.1/\(s.2.2.1.length:Int)=s.1.2.2.1/\∀r∈s.2.2.1,(r.length:Int)=n) (λ(s:iy)=>(n-s.1.2.2.1).toNat) ?_ ⟨ak,by (try dsimp only);omega,hs0,ak,ak⟩;rintro⟨⟨_,_,i,_⟩,s1,m1,_⟩ next ⟨h0,h1,h2,h3,h4⟩ hn
 intros
 try dsimp only at h0 h1 h2 h3 h4 hn⊢
 refine aE (λhc=>?_) (λhc=>?_)
 ·refine⟨aa,cB _,aa,aa,h0,by rw[lk];omega,az,?_⟩;refine aY (λ(s:LO)=>0<=s.1.2.2.2.1/\s.1.2.2.2.1<=n/\bt s.2.1/\s.2.2.1=m1/\(s.2.2.2.1.length:Int)=n) (λ(s:LO)=>(n-s.1.2.2.2.1).toNat) ?_ ⟨by (try dsimp only);omega,by (try dsimp only);omega,h2,rfl,by (try dsimp only);rw[fx,lk];omega⟩;rintro⟨⟨_,_,_,j,_⟩,s2,m2,row,_⟩ next1 ⟨g0,g1,g2,g3,g4⟩ hn1';intros
  try dsimp only at g0 g1 g2 g3 g4 hn1'⊢
  subst g3;refine aE (λhd=>?_) (λhd=>?_)
  ·exact⟨g2.2,g0,aa,az,hn1' _ ⟨ae,ae,(fI g2 az).1,rfl,by rw[fx];exact g4⟩ cO⟩
  ·refine⟨?_,az,hn _ ⟨ae,ae,g2,?_,?_⟩ cO⟩
   ·unfold aX;rw[bO];simp only[aH,aM];omega
   ·simp only[bj,aH,aM];omega
   ·intro r hr;rcases dN.1 hr with hr|hr
    ·exact h4 r hr
    ·simp only[cP]at hr;subst hr;exact g4
 have hR:RowP n m1:=⟨aa,h4⟩;have hnx:=fI (n:=4) h2 az;have lr:1<=n->((m1.getD (n-1).toNat []).length:Int)=n:=λh=>hR.row (i:=n-1) aa aa;have lm:=hR.l;refine⟨λhg=>⟨h2.2,cp (λs2=>bt s2.2.1/\RowP n s2.2.2.1) (λs2 hs _ _ _ _=>?_) (λk hk=>aC (λ_=>?_) (λ_=>hk _ ⟨hnx.1,hR⟩))⟩,λhg=>cp (λs2=>bt s2.2.1/\RowP n s2.2.2.1) (λs2 hs _ _ _ _=>?_) (λk hk=>aC (λhx=>?_) (λ_=>hk _ ⟨h2,hR⟩))⟩
 ·skip
  refine aY (λ(s:iy)=>0<=s.1.2.2.1/\s.1.2.2.1<=n/\bt s.2.1/\RowP n s.2.2.1) (λ(s:iy)=>(n-s.1.2.2.1).toNat) ?_ ⟨ak,by (try dsimp only);omega,hs⟩;rintro⟨⟨_,_,k,_⟩,s3,m3,_⟩ next3 ⟨k0,k1,k2,k3⟩ hn3;intros
  try dsimp only at k0 k1 k2 k3 hn3⊢
  refine aE (λhkc=>?_) (λ_=>⟨k2,k3⟩);refine aY (λ(s:iy)=>0<=s.1.2.2.1/\s.1.2.2.1<=n/\bt s.2.1/\RowP n s.2.2.1) (λ(s:iy)=>(n-s.1.2.2.1).toNat) ?_ ⟨ak,by (try dsimp only);omega,k2,k3⟩;rintro⟨⟨_,_,i,_⟩,s4,m4,_⟩ next4 ⟨i0,i1,i2,i3⟩ hn4;intros
  try dsimp only at i0 i1 i2 i3 hn4⊢
  refine aE (λhic=>?_) (λ_=>⟨az,hn3 _ ⟨ae,ae,i2,i3⟩ cO⟩);refine aY (λ(s:iy)=>0<=s.1.2.2.1/\s.1.2.2.1<=n/\bt s.2.1/\RowP n s.2.2.1) (λ(s:iy)=>(n-s.1.2.2.1).toNat) ?_ ⟨ak,by (try dsimp only);omega,i2,i3⟩;rintro⟨⟨_,_,j,_⟩,s5,m5,_⟩ next5 ⟨j0,j1,j2,j3⟩ hn5;intros
  try dsimp only at j0 j1 j2 j3 hn5⊢
  refine aE (λhjc=>?_) (λ_=>⟨az,hn4 _ ⟨ae,ae,j2,j3⟩ cO⟩);have l1:=j3.l;have l2:=j3.row i0 hic;have l3:=j3.row k0 hkc;refine⟨i0,aa,k0,aa,λ_=>⟨aa,k0⟩,λ_=>⟨aa,j0⟩,cp (λs6=>bt s6.2.1/\RowP n s6.2.2.1) (λs6 hs6=>?_) (λkk hkk=>aC (λ_=>⟨i0,aa,j0,aa,hkk _ ⟨j2,j3.set i0 hic⟩⟩) (λ_=>hkk _ ⟨j2,j3⟩))⟩;intros;exact⟨az,hn5 _ ⟨ae,ae,hs6⟩ cO⟩
 ·have hy:=fI (n:=n) hnx.1 az;have hn1':1<=n:=by have:=w6 hg;omega
  have hy2:=hy.2.2.1 hn1';have lr:=lr hn1';exact⟨az,aa,aa,hnx.1.2,hy.2.1,aa,hk _ ⟨hy.1,hR.set aa aa⟩⟩
 ·skip
  refine aY (λ(s:iy)=>0<=s.1.2.2.1/\s.1.2.2.1<=n/\bt s.2.1/\RowP n s.2.2.1) (λ(s:iy)=>(n-s.1.2.2.1).toNat) ?_ ⟨ak,by (try dsimp only);omega,hs⟩;rintro⟨⟨_,_,k,_⟩,s3,m3,_⟩ next3 ⟨k0,k1,k2,k3⟩ hn3;intros
  try dsimp only at k0 k1 k2 k3 hn3⊢
  refine aE (λhkc=>?_) (λ_=>⟨k2,k3⟩);refine aY (λ(s:iy)=>0<=s.1.2.2.1/\s.1.2.2.1<=n/\bt s.2.1/\RowP n s.2.2.1) (λ(s:iy)=>(n-s.1.2.2.1).toNat) ?_ ⟨ak,by (try dsimp only);omega,k2,k3⟩;rintro⟨⟨_,_,i,_⟩,s4,m4,_⟩ next4 ⟨i0,i1,i2,i3⟩ hn4;intros
  try dsimp only at i0 i1 i2 i3 hn4⊢
  refine aE (λhic=>?_) (λ_=>⟨az,hn3 _ ⟨ae,ae,i2,i3⟩ cO⟩);refine aY (λ(s:iy)=>0<=s.1.2.2.1/\s.1.2.2.1<=n/\bt s.2.1/\RowP n s.2.2.1) (λ(s:iy)=>(n-s.1.2.2.1).toNat) ?_ ⟨ak,by (try dsimp only);omega,i2,i3⟩;rintro⟨⟨_,_,j,_⟩,s5,m5,_⟩ next5 ⟨j0,j1,j2,j3⟩ hn5;intros
  try dsimp only at j0 j1 j2 j3 hn5⊢
  refine aE (λhjc=>?_) (λ_=>⟨az,hn4 _ ⟨ae,ae,j2,j3⟩ cO⟩);have l1:=j3.l;have l2:=j3.row i0 hic;have l3:=j3.row k0 hkc;refine⟨i0,aa,k0,aa,λ_=>⟨aa,k0⟩,λ_=>⟨aa,j0⟩,cp (λs6=>bt s6.2.1/\RowP n s6.2.2.1) (λs6 hs6=>?_) (λkk hkk=>aC (λ_=>⟨i0,aa,j0,aa,hkk _ ⟨j2,j3.set i0 hic⟩⟩) (λ_=>hkk _ ⟨j2,j3⟩))⟩;intros;exact⟨az,hn5 _ ⟨ae,ae,hs6⟩ cO⟩
 ·exfalso;simp only[ao]at hx;exact hg hx.1
theorem Cz(s:ba)(n:Int):∃q:ba×(je×Unit),ab (jM.o.strip.oks s)->ab (okL jM.as (n,()))->ab (jM.pre s (n,()))->C0 s n (λz r=>z=q.1/\r=q.2)/\ab (jM.o.strip.oks q.1)/\ab (okR jM.rt q.2)/\zk s n q.1 q.2.1:=pkw (au iB aQ) aR 110 Tryz.f110 jM M9 [(12,1600),(13,8000060007)] lU (λx y K=>C0 x y.1 K) (λx y z r=>zk x y.1 z r.1) (λx y h1 h2 h3=>Wn x y.1 h1 h2 h3) s (n,())
def wD(s:ba)(n:Int):ba:=(Cz s n).choose.1
def nR(s:ba)(n:Int):List (List Int):=(Cz s n).choose.2.1
theorem Ws(s:ba)(n:Int)(hok:ab (jM.o.strip.oks s))(hok2:ab (okL jM.as (n,())))(hpre:ab (jM.pre s (n,()))):ab (jM.o.strip.oks (wD s n))/\ab (okR jM.rt (nR s n,()))/\zk s n (wD s n) (nR s n):=((Cz s n).choose_spec hok hok2 hpre).2
def MA:Wt:=⟨gE,[aq],[false],λx y=>[bt x,0<=y.1,y.1<=8],λx y=>(wD x y.1),[(false,iL)],λx y=>((nR x y.1),()),0⟩
def MF:Ct:=iO MA
theorem MB:aN Tryz.prog 110 MF:=wtb (au iB aQ) aR 110 Tryz.f110 MA M9 [(12,1600),(13,8000060007)] (λx y h1 h2 h3=>Eq.mp (by kernel_rfl) ((Cz x y.1).choose_spec h1 h2 h3).1)
theorem OE(h:bt s)(n1:0<=n)(n8:n<=8):bt (wD s n)/\RowP n (nR s n)/\(T.sl bd).ok (nR s n):=by obtain⟨_,h2,h3⟩:=Ws s n h.1 (by simp only[jM,okL,T.oks,ap,ab,aA,cf];omega) ⟨h,n1,n8,trivial⟩;exact⟨h3.1,h3.2,h2.1⟩
def tK(t:df):aF:=(1,(List.replicate t.length 0,(List.replicate t.length 0,([0],t))))
structure CgR (b:Int) (c:aF):Prop where
 b1:1<=b
 ob0:0<=c.1
 ob:c.1<=b
 m:(c.2.1.length:Int)<=b
 lt:c.2.2.1.length=c.2.1.length
 li:(c.2.2.2.1.length:Int)=c.1
 lc:c.2.2.2.2.length=c.2.1.length
 fr:∀x∈c.2.1,0<=x/\x<=b
 to:∀x∈c.2.2.1,0<=x/\x<=b
 id:∀x∈c.2.2.2.1,0<=x/\x<=b
 row:∀r∈c.2.2.2.2,r.length=c.2.1.length/\∀x∈r,-b<=x/\x<=b
theorem CgR.le(h:CgR a c)(hab:a<=b):CgR b c:=
 ⟨by have:=h.b1;omega,h.ob0,by have:=h.ob;omega,by have:=h.m;omega,h.lt,h.li,h.lc,λx hx=>by have:=h.fr x hx;omega,λx hx=>by have:=h.to x hx;omega,λx hx=>by have:=h.id x hx;omega,
  λr hr=>⟨(h.row r hr).1,λx hx=>by have:=(h.row r hr).2 x hx;omega⟩⟩
theorem CgR.frG(h:CgR b c)(f0:0<=f)(f1:f<c.2.1.length):0<=c.2.1.getD f.toNat 0/\c.2.1.getD f.toNat 0<=b:=h.fr _ (cC c.2.1 0 f0 f1)
theorem CgR.toG(h:CgR b c)(f0:0<=f)(f1:f<c.2.1.length):0<=c.2.2.1.getD f.toNat 0/\c.2.2.1.getD f.toNat 0<=b:=h.to _ (cC c.2.2.1 0 f0 (by rw[h.lt];exact f1))
theorem CgR.idG(h:CgR b c)(f0:0<=x)(f1:x<c.1):0<=c.2.2.2.1.getD x.toNat 0/\c.2.2.2.1.getD x.toNat 0<=b:=h.id _ (cC c.2.2.2.1 0 f0 (by have:=h.li;omega))
theorem CgR.rowG(h:CgR b c)(f0:0<=f)(f1:f<c.2.1.length):(c.2.2.2.2.getD f.toNat []).length=c.2.1.length:=(h.row _ (cC c.2.2.2.2 [] f0 (by rw[h.lc];exact f1))).1
theorem CgR.cel(h:CgR b c)(f0:0<=f)(f1:f<c.2.1.length)(g0:0<=g)(g1:g<c.2.1.length):-b<=(c.2.2.2.2.getD f.toNat []).getD g.toNat 0/\(c.2.2.2.2.getD f.toNat []).getD g.toNat 0<=b:=(h.row _ (cC c.2.2.2.2 [] f0 (by rw[h.lc];exact f1))).2 _ (cC _ 0 g0 (by rw[h.rowG f0 f1];exact g1))
theorem ac2(h0:1<=t.length)(h8:t.length<=8)(hr:∀r∈t,r.length=t.length)(he:∀r∈t,∀x∈r,0<=x/\x<=8):CgR 8 (tK t):=
 ⟨aa,Int.le.intro 1 rfl,by show (1:Int)<=8;omega,by show ((List.replicate t.length (0:Int)).length:Int)<=8;rw[lk];omega,rfl,rfl,by show t.length=(List.replicate t.length (0:Int)).length;rw[lk],
  λx hx=>by rw[Ci hx];omega,λx hx=>by rw[Ci hx];omega,λx hx=>by rw[cP.1 hx];omega,
  λr hr'=>⟨by show r.length=(List.replicate t.length (0:Int)).length;rw[lk];exact hr r hr',λx hx=>by have:=he r hr' x hx;omega⟩⟩
def sA:Ct:=⟨[nz],[false],λx=>[OwnP x.1],[(true,iI)],λx=>(tK x.1,()),false,none⟩
abbrev qh:Type:=aF×Unit->Prop
def Ht(table:df)(K:qh):Prop:=let a:=table.length;let b:=List.replicate (Int.toNat (a:Int)) (0:Int);0<=(a:Int)/\(a:Int)<=(a:Int)/\(a:Int)<=((140737488355328:Nat):Int)/\(a:Int)*((8:Nat):Int)<=((140737488355328:Nat):Int)/\0<=(a:Int)/\(a:Int)<=(a:Int)/\(a:Int)<=((140737488355328:Nat):Int)/\(a:Int)*((8:Nat):Int)<=((140737488355328:Nat):Int)/\OwnP table/\K ((1,b,b,[0],table),())
theorem WY(table:df)(hok:ab (okL sA.args (table,())))(hpre:ab (sA.pre (table,()))):Ht table (λr=>r=sA.res (table,())):=by
 simp only[sA,okL,T.oks,T.ok,ap,ab,aL,aA,bf]at hok hpre
 try dsimp only[T.den]at hok hpre
 delta Ht
 dsimp -proj -eta only;have hl:=hpre.n;refine⟨aa,cB _,aa,aa,aa,cB _,aa,aa,hpre,?_⟩;simp only[sA,tK,bB]
theorem MS:aN Tryz.prog 112 sA:=ctb (au NI aQ) aR 112 Tryz.f112 sA .n [(2,507)] (λx K=>Ht x.1 K) (λx h1 h2=>WY x.1 h1 h2)
def pi:Ct:=⟨[],[],λx=>[],[(true,iI)],λ_=>dfR _,false,none⟩
def zF(r0:aF):Prop:=CgR 5 r0
def zG(K:qh):Prop:=K ((2,[0,1,0,0,1],[0,1,0,1,0],[0,1],[[0,-1,2,3,-1],[-1,1,-1,-1,4],[2,-1,2,3,-1],[-1,3,-1,-1,2],[4,-1,4,1,-1]]),())
theorem X6(hok:ab (okL pi.args (())))(hpre:ab (pi.pre (()))):zG (λr=>zF r.1):=by
 simp only[pi,okL,T.oks,T.ok,ap,ab,aL,aA,bf]at hok hpre
 try dsimp only[T.den]at hok hpre
 unfold zG zF;exact⟨bz,bz,bz,bz,bz,bz,bz,bz,bz,bz,bz⟩
theorem H8:∃q:aF×Unit,ab (okL pi.args (()))->ab (pi.pre (()))->zG (λr=>r=q)/\ab (okR pi.rt q)/\zF q.1:=pkb aQ aR 114 Tryz.f114 pi .n [] (λx K=>zG K) (λx r=>zF r.1) (λx h1 h2=>X6 h1 h2) (())
def C2:aF:=(H8).choose.1
theorem Xr(hok:ab (okL pi.args (())))(hpre:ab (pi.pre (()))):ab (okR pi.rt (C2,()))/\zF (C2):=((H8).choose_spec hok hpre).2
def H3:Ct:=⟨[],[],λx=>[],[(true,iI)],λx=>((C2),()),false,none⟩
theorem Nm:aN Tryz.prog 114 H3:=ctb aQ aR 114 Tryz.f114 H3 .n [] (λx K=>zG K) (λx h1 h2=>((H8).choose_spec h1 h2).1)
structure OwcR (c:aF):Prop where
 a:c.2.1.length<=1099511627776
 b:c.2.2.1.length<=1099511627776
 d:c.2.2.2.1.length<=1099511627776
 e:OwnP c.2.2.2.2
theorem afw(h:CgR b c)(hb:b<=1000000000000):OwcR c:=by have h1:=h.m;have h2:=h.lt;have h3:=h.li;have h4:=h.ob;have h5:=h.lc;exact⟨aa,aa,aa,⟨aa,λr hr=>by have:=(h.row r hr).1;omega⟩⟩
def Db:Ct:=⟨[cS],[true],λx=>[OwcR x.1],[(true,iI)],λx=>(x.1,()),false,none⟩
def ah7:FuncId->Option Ct:=lkp [(46,lu),(128,sJ)]
def I7(c:aF)(K:qh):Prop:=c.2.1.length<=1099511627776/\c.2.2.1.length<=1099511627776/\c.2.2.2.1.length<=1099511627776/\OwnP c.2.2.2.2/\K (c,())
theorem YK(c:aF):Mh Db (c,()) (I7 c):=by
 intro hok hpre;simp only[Db,okL,T.oks,T.ok,ap,ab,aL,aA,bf]at hok hpre
 try dsimp only[T.den]at hok hpre
 unfold I7;exact⟨hpre.a,hpre.b,hpre.d,hpre.e,rfl⟩
theorem NV:aN Tryz.prog 117 Db:=ctb (au jo (au NI aQ)) aR 117 Tryz.f117 Db .n [(1,514)] (λx K=>I7 x.1 K) (λx h1 h2=>YK x.1 h1 h2)
def vI(f j g:Int):Nat:=if g<f then 0 else if g=f then j.toNat else 0
def km(c:aF)(k f j:Int):List (List Int):=be c.2.1.length λg=>c.2.2.2.2.getD g.toNat []++List.replicate (if g<f then k.toNat else vI f j g) (-1)
def vW(m h:Int):Int:=if 0<=h then h+m else h
def F6(c d:aF)(f:Int):List Int:=List.replicate c.2.1.length (-1)++be d.2.1.length λg=>vW c.2.1.length ((d.2.2.2.2.getD f.toNat []).getD g.toNat 0)
def gy(l e:aw)(n:Nat)(p:Int):List Int:=l++be n λy=>e.getD y.toNat 0+p
def sumR(c d:aF):aF:=(c.1+d.1,(gy c.2.1 d.2.1 d.2.1.length c.1,(gy c.2.2.1 d.2.2.1 d.2.1.length c.1,(gy c.2.2.2.1 d.2.2.2.1 d.1.toNat c.2.1.length,km c d.2.1.length c.2.1.length 0++be d.2.1.length (F6 c d)))))
theorem xz:(km c k f j).length=c.2.1.length:=bG _
theorem Qr(g0:0<=g)(g1:g<c.2.1.length):(km c k f j).getD g.toNat []=c.2.2.2.2.getD g.toNat []++List.replicate (if g<f then k.toNat else vI f j g) (-1):=iJ g0 g1
theorem abd(f0:0<=f)(f1:f<c.2.1.length)(j0:0<=j):(km c k f j).set f.toNat ((km c k f j).getD f.toNat []++[-1])=km c k f (j+1):=by
 rw[Qr f0 f1];unfold km;rw[mb f0 f1];refine dJ λi i0 i1=>?_;by_cases e:i=f
 ·subst e;rw[am rfl,ai (jL _),ai (jL _)];unfold vI;rw[ai (jL _),am rfl,ai (jL _),am rfl,eP,show (j+1).toNat=j.toNat+1 from by omega,Gk]
 ·rw[ai e];unfold vI;by_cases h:i<f
  ·rw[am h,am h]
  ·rw[ai h,ai h,ai e,ai h,ai h,ai e]
theorem u_:km c k f k=km c k (f+1) 0:=by
 refine dJ λi i0 i1=>?_;unfold vI;by_cases h:i<f
 ·rw[am h,am aa]
 ·by_cases e:i=f
  ·rw[ai h,ai h,am e,am aa]
  ·rw[ai h,ai h,ai e,ai aa,ai aa];split<;>rfl
theorem af2(h:c.2.2.2.2.length=c.2.1.length):km c k 0 0=c.2.2.2.2:=by
 conv=>rhs;rw[←V' [] c.2.2.2.2]
 unfold km;rw[h];refine dJ λi i0 i1=>?_;unfold vI;rw[ai aa,ai aa];have:(if i=0 then (0:Int).toNat else 0)=0:=by split<;>rfl
 rw[this];exact lS _
theorem qR{n:Nat}:(gy l e n p).length=l.length+n:=by unfold gy;rw[bj,bG]
theorem KA(h:0<=y):gy l e y.toNat p++[e.getD y.toNat 0+p]=gy l e (y+1).toNat p:=by unfold gy;rw[gC h,eP]
theorem JU{n:Nat}(hl:∀x∈l,0<=x/\x<=a)(he:∀x∈e,0<=x/\x<=b)(hn:n<=e.length)(p0:0<=p)(p1:p<=a)(b0:0<=b):∀x∈gy l e n p,0<=x/\x<=a+b:=by
 intro x hx;rcases dN.1 hx with h|h
 ·have:=hl x h;omega
 ·obtain⟨i,i0,i1,rfl⟩:=ij.1 h;have:=he _ (cC e 0 i0 aa);omega
theorem aec(h:CgR a c)(g:CgR b d):CgR (a+b) (sumR c d):=by
 have a1:=h.b1;have a2:=h.ob0;have a3:=h.ob;have a4:=h.m;have a5:=h.lt;have a6:=h.li;have a7:=h.lc;have b1:=g.b1;have b2:=g.ob0;have b3:=g.ob;have b4:=g.m;have b5:=g.lt;have b6:=g.li;have b7:=g.lc;refine⟨aa,by show 0<=c.1+d.1;omega,by show c.1+d.1<=a+b;omega,?_,?_,?_,?_,JU h.fr g.fr (aZ _) a2 a3 aa,JU h.to g.to aa a2 a3 aa,JU h.id g.id aa aa aa aa,?_⟩
 ·show ((gy _ _ _ _).length:Int)<=a+b;rw[qR];omega
 ·show (gy _ _ _ _).length=(gy _ _ _ _).length;rw[qR,qR];omega
 ·show ((gy _ _ _ _).length:Int)=c.1+d.1;rw[qR];omega
 ·show (_++_:List (List Int)).length=(gy _ _ _ _).length;rw[qR,bj,xz,bG]
 ·intro r hr;have hl:(sumR c d).2.1.length=c.2.1.length+d.2.1.length:=qR;rw[hl];rcases dN.1 hr with hr|hr
  ·obtain⟨i,i0,i1,rfl⟩:=ij.1 hr;have hh:=h.row _ (cC c.2.2.2.2 [] i0 aa);rw[am i1];refine⟨by rw[bj,lk,hh.1,bB],λx hx=>?_⟩;rcases dN.1 hx with hx|hx
   ·have:=hh.2 x hx;omega
   ·rw[Ci hx];omega
  ·obtain⟨i,i0,i1,rfl⟩:=ij.1 hr;have hh:=g.row _ (cC d.2.2.2.2 [] i0 aa);unfold F6;refine⟨by rw[bj,lk,bG],λx hx=>?_⟩;rcases dN.1 hx with hx|hx
   ·rw[Ci hx];omega
   ·obtain⟨j,j0,j1,rfl⟩:=ij.1 hx;have:=hh.2 _ (cC _ 0 j0 (by rw[hh.1];exact j1));unfold vW;split<;>omega
def lV:Ct:=⟨[cS,cS],[true,true],λx=>[CgR 1000000000000 x.1,CgR 1000000000000 x.2.1],[(true,iI)],λ_=>dfR _,false,none⟩
def Ah(c d r0:aF):Prop:=∀a b:Int,CgR a c->CgR b d->CgR (a+b) r0
def NP:Ann:=(.s .n (.s .n (.s .n (.s .n (.s (.s .n (.l U8 tR [3,5,6] .n)) (.s (.s .n (.l Uy tR [3,5,6] (.s .n (.s (.s .n (.l Ur tR [3,5,6,9] .n)) .n)))) (.s (.s .n (.l Ud tR [3,5,6] (.s .n (.s (.s .n (.s .n (.s .n (.s (.s .n (.l UI ya [3,5,6,11] .n)) (.s (.s .n (.l UB ya [3,5,6,11] (.s .n (.s (.s .n (.s (.s .n (.j TU ya [3,5,6,11,14] .n)) .n)) .n)))) .n))))) .n)))) .n)))))))
def Ae(c d:aF)(K:qh):Prop:=let a6:=d.2.1.length;let x:=c.2.1.length;OwcR c/\(Ik (c.1+d.1)<|aI (S:=dz) (λa b=>let a4:=a.2.2.1;let a3:=a.1.2.2.1;let w:=d.2.2.2.1.getD a3.toNat 0;Iq a3<|Oc a.2.1<|Oc a4<|cnd (decide (a3<d.1)) (Ix a3 d.2.2.2.1.length<|Ik (w+(x:Int))<|aX a4.2.2.2.1.length [w+(x:Int)].length 8/\(Ik (a3+1)<|b (((),(),a3+1,()),a.2.1,(a4.1,a4.2.1,a4.2.2.1,a4.2.2.2.1++[w+(x:Int)],a4.2.2.2.2),()))) (aI (S:=dz) (λe f=>let v:=e.1.2.2.1;Iq v<|Oc e.2.1<|Oc e.2.2.1<|cnd (decide (v<(e.2.2.1.2.2.2.2.length:Int))) (aI (S:=dz) (λg h=>let b2:=g.1.2.2.1;let a0:=g.2.2.1;let b1:=oL a0.2.2.2.2 v.toNat;let a9:=a0.2.2.2.2.getD v.toNat [];let t:=List.set b1 v.toNat (Option.some (a9++[-1]));Iq b2<|Oc g.2.1<|Oc a0<|cnd (decide (b2<(a6:Int))) (Ix v a0.2.2.2.2.length<|aX a9.length [-1].length 8/\(Ix v b1.length<|vP t=true/\(Ik (b2+1)<|h (((),(),b2+1,()),g.2.1,(a0.1,a0.2.1,a0.2.2.1,a0.2.2.2.1,kS [] t),())))) (Ik (v+1)<|f (((),(),v+1,()),g.2.1,a0,()))) (((),(),0,()),e.2.1,e.2.2.1,())) (aI (S:=dz) (λi j=>let a5:=i.2.2.1;let u:=i.1.2.2.1;let b0:=d.2.2.2.2.getD u.toNat [];let a2:=d.2.1.getD u.toNat 0;let z:=d.2.2.1.getD u.toNat 0;Iq u<|Oc i.2.1<|Oc a5<|cnd (decide (u<(a6:Int))) (Ix u a6<|Ik (a2+c.1)<|aX a5.2.1.length [a2+c.1].length 8/\(Ix u d.2.2.1.length<|Ik (z+c.1)<|aX a5.2.2.1.length [z+c.1].length 8/\aI (S:=ff) (λl m=>let b3:=l.2.2.2.1;let a8:=l.1.2.2.2.1;Iq a8<|Oc l.2.1<|Oc l.2.2.1<|Ol b3<|cnd (decide (a8<(x:Int))) (aX b3.length [-1].length 8/\(Ik (a8+1)<|m (((),(),(),a8+1,()),l.2.1,l.2.2.1,b3++[-1],()))) (aI (S:=ff) (λn o=>let a7:=n.2.2.2.1;let a1:=n.2.2.1;let y:=n.1.2.2.2.1;let r:=b0.getD y.toNat 0;Iq y<|Oc n.2.1<|Oc a1<|Ol a7<|cnd (decide (y<(a6:Int))) (Ix u d.2.2.2.2.length<|Ix y b0.length<|bZ (S:=ff) (λp=>Iq p.1.2.2.2.1<|Oc p.2.1<|Oc p.2.2.1<|Ol p.2.2.2.1<|aX p.2.2.2.1.length [p.1.2.2.2.1].length 8/\(Ik (y+1)<|o (((),(),(),y+1,()),p.2.1,p.2.2.1,p.2.2.2.1++[p.1.2.2.2.1],()))) (λq=>cnd (decide (0<=r)) (Ik (r+(x:Int))<|q (((),(),(),r+(x:Int),()),n.2.1,a1,a7,())) (q (((),(),(),r,()),n.2.1,a1,a7,())))) (aX a1.2.2.2.2.length [a7].length 24/\(Ik (u+1)<|j (((),(),u+1,()),n.2.1,(a1.1,a1.2.1,a1.2.2.1,a1.2.2.2.1,a1.2.2.2.2++[a7]),())))) (((),(),(),0,()),l.2.1,l.2.2.1,b3,()))) (((),(),(),0,()),i.2.1,(a5.1,a5.2.1++[a2+c.1],a5.2.2.1++[z+c.1],a5.2.2.2),[],()))) (K (a5,()))) (((),(),0,()),e.2.1,e.2.2.1,()))) (((),(),0,()),a.2.1,a4,()))) (((),(),0,()),(0,[],[],[],[]),(c.1+d.1,c.2),()))
theorem YD(c d:aF)(hok:ab (okL lV.args (c,d,())))(hpre:ab (lV.pre (c,d,()))):Ae c d (λr=>Ah c d r.1):=by
 simp only[lV,okL,T.oks,T.ok,ap,ab,aL,aA,bf]at hok hpre
 try dsimp only[T.den]at hok hpre
 delta Ae Ah Ik Iq Ix Oc Ol Om
 dsimp -proj -eta only;obtain⟨Hc,Hd⟩:=hpre;have a2:=Hc.ob0;have a3:=Hc.ob;have a4:=Hc.m;have a5:=Hc.lt;have a6:=Hc.li;have a7:=Hc.lc;have b2:=Hd.ob0;have b3:=Hd.ob;have b4:=Hd.m;have b5:=Hd.lt;have b6:=Hd.li;have b7:=Hd.lc;clear hok;refine⟨afw Hc (cB _),az,?_⟩;refine aY (λ(s:dz)=>0<=s.1.2.2.1/\s.1.2.2.1<=d.1/\s.2.2.1=(c.1+d.1,(c.2.1,(c.2.2.1,(gy c.2.2.2.1 d.2.2.2.1 s.1.2.2.1.toNat c.2.1.length,c.2.2.2.2))))) (λ(s:dz)=>(d.1-s.1.2.2.1).toNat) ?_ ⟨ak,b2,by simp[gy,be]⟩;rintro⟨⟨_,_,y,_⟩,o1,out,_⟩ next ⟨y0,y1,hq⟩ hnx _ _ _ _ _ _ _ _ _ _ _
 try dsimp only at y0 y1 hq hnx⊢
 subst hq;refine aE (λhy=>?_) (λhy=>?_)
 ·have:=Hd.idG y0 hy;exact⟨y0,aa,az,bh (by dsimp only;rw[qR];simp only[aH,aM];omega),az,hnx _ ⟨cO,cO,by dsimp only;rw[KA y0]⟩ cO⟩
 have ey:y=d.1:=aa
 subst ey;refine aY (λ(s:dz)=>0<=s.1.2.2.1/\s.1.2.2.1<=c.2.1.length/\s.2.2.1=(c.1+d.1,(c.2.1,(c.2.2.1,(gy c.2.2.2.1 d.2.2.2.1 d.1.toNat c.2.1.length,km c d.2.1.length s.1.2.2.1 0))))) (λ(s:dz)=>(c.2.1.length-s.1.2.2.1).toNat) ?_ ⟨ak,ak,by dsimp only;rw[af2 a7]⟩;rintro⟨⟨_,_,f,_⟩,o2,out,_⟩ next1 ⟨f0,f1,hq⟩ hn1 _ _ _ _ _ _ _ _ _ _ _
 try dsimp only at f0 f1 hq hn1⊢
 subst hq;refine aE (λhf=>?_) (λhf=>?_)
 ·rw[xz]at hf;refine aY (λ(s:dz)=>0<=s.1.2.2.1/\s.1.2.2.1<=d.2.1.length/\s.2.2.1=(c.1+d.1,(c.2.1,(c.2.2.1,(gy c.2.2.2.1 d.2.2.2.1 d.1.toNat c.2.1.length,km c d.2.1.length f s.1.2.2.1))))) (λ(s:dz)=>(d.2.1.length-s.1.2.2.1).toNat) ?_ ⟨ak,ak,rfl⟩;rintro⟨⟨_,_,g,_⟩,o3,out,_⟩ next2 ⟨g0,g1,hq⟩ hn2 _ _ _ _ _ _ _ _ _ _ _
  try dsimp only at g0 g1 hq hn2⊢
  subst hq;refine aE (λhg=>?_) (λhg=>?_)
  ·have hr:=Hc.rowG f0 hf;have hl:((km c d.2.1.length f g).getD f.toNat []).length=c.2.1.length+g.toNat:=by rw[Qr f0 hf,bj,lk,hr,ai (jL _),vI,ai (jL _),am rfl]
   try dsimp only
   refine⟨f0,by rw[xz];exact hf,bh (by rw[hl];simp only[aH,aM];omega),f0,by rw[adb,xz];exact hf,aca,az,hn2 _ ⟨cO,cO,?_⟩ cO⟩
   try dsimp only
   rw[ab2,abd f0 hf g0]
  ·have eg:g=d.2.1.length:=aa
   subst eg;exact⟨az,hn1 _ ⟨cO,cO,by dsimp only;rw[u_]⟩ cO⟩
 rw[xz]at hf;have ef:f=c.2.1.length:=aa
 subst ef;refine aY (λ(s:dz)=>0<=s.1.2.2.1/\s.1.2.2.1<=d.2.1.length/\s.2.2.1=(c.1+d.1,(gy c.2.1 d.2.1 s.1.2.2.1.toNat c.1,(gy c.2.2.1 d.2.2.1 s.1.2.2.1.toNat c.1,(gy c.2.2.2.1 d.2.2.2.1 d.1.toNat c.2.1.length,km c d.2.1.length c.2.1.length 0++be s.1.2.2.1.toNat (F6 c d)))))) (λ(s:dz)=>(d.2.1.length-s.1.2.2.1).toNat) ?_ ⟨ak,ak,by simp[gy,be]⟩;rintro⟨⟨_,_,f,_⟩,o3,out,_⟩ next2 ⟨f0,f1,hq⟩ hn2 _ _ _ _ _ _ _ _ _ _ _
 try dsimp only at f0 f1 hq hn2⊢
 subst hq;refine aE (λhf=>?_) (λhf=>?_)
 ·have h1:=Hd.frG f0 hf;have h2:=Hd.toG f0 hf;have h3:=Hd.rowG f0 hf;refine⟨f0,hf,az,bh (by dsimp only;rw[qR];simp only[aH,aM];omega),f0,aa,az,bh (by dsimp only;rw[qR];simp only[aH,aM];omega),?_⟩;refine aY (λ(s:ff)=>0<=s.1.2.2.2.1/\s.1.2.2.2.1<=c.2.1.length/\s.2.2.1=(c.1+d.1,(gy c.2.1 d.2.1 (f+1).toNat c.1,(gy c.2.2.1 d.2.2.1 (f+1).toNat c.1,(gy c.2.2.2.1 d.2.2.2.1 d.1.toNat c.2.1.length,km c d.2.1.length c.2.1.length 0++be f.toNat (F6 c d)))))/\s.2.2.2.1=List.replicate s.1.2.2.2.1.toNat (-1)) (λ(s:ff)=>(c.2.1.length-s.1.2.2.2.1).toNat) ?_ ⟨ak,ak,by dsimp only;rw[KA f0,KA f0],rfl⟩;rintro⟨⟨_,_,_,g,_⟩,o4,out,row,_⟩ next3 ⟨g0,g1,hq,hr⟩ hn3 _ _ _ _ _ _ _ _ _ _ _ _
  try dsimp only at g0 g1 hq hr hn3⊢
  subst hr;refine aE (λhg=>?_) (λhg=>?_)
  ·exact⟨bh (by rw[lk];simp only[aH,aM];omega),az,hn3 _ ⟨cO,cO,hq,by dsimp only;rw[show (g+1).toNat=g.toNat+1 from by omega,Gk]⟩ cO⟩
  have eg:g=c.2.1.length:=aa
  subst eg;refine aY (λ(s:ff)=>0<=s.1.2.2.2.1/\s.1.2.2.2.1<=d.2.1.length/\s.2.2.1=out/\s.2.2.2.1=List.replicate c.2.1.length (-1)++be s.1.2.2.2.1.toNat λg=>vW c.2.1.length ((d.2.2.2.2.getD f.toNat []).getD g.toNat 0)) (λ(s:ff)=>(d.2.1.length-s.1.2.2.2.1).toNat) ?_ ⟨ak,ak,rfl,by simp[be]⟩;rintro⟨⟨_,_,_,g,_⟩,o5,out2,row,_⟩ next4 ⟨g0,g1,hq2,hr⟩ hn4 _ _ _ _ _ _ _ _ _ _ _ _
  try dsimp only at g0 g1 hq2 hr hn4⊢
  subst hr;subst hq2;refine aE (λhg=>?_) (λhg=>?_)
  ·have hc:=Hd.cel f0 hf g0 hg;refine⟨f0,aa,g0,aa,cp (λ(q:ff)=>q.1.2.2.2.1=vW c.2.1.length ((d.2.2.2.2.getD f.toNat []).getD g.toNat 0)/\q.2.2.1=out2/\q.2.2.2.1=List.replicate c.2.1.length (-1)++be g.toNat λg=>vW c.2.1.length ((d.2.2.2.2.getD f.toNat []).getD g.toNat 0)) ?_ ?_⟩
   ·rintro⟨⟨_,_,_,h,_⟩,o6,out3,row,_⟩ ⟨q1,q2,q3⟩ _ _ _ _ _ _ _ _ _ _ _ _
    try dsimp only at q1 q2 q3⊢
    subst q1;subst q2;subst q3;refine⟨bh (by rw[bj,lk,bG];simp only[aH,aM];omega),az,hn4 _ ⟨cO,cO,rfl,?_⟩ cO⟩
    try dsimp only
    rw[gC g0,eP]
   ·intro k hk;refine aE (λhh=>⟨az,hk _ ⟨?_,rfl,rfl⟩⟩) (λhh=>hk _ ⟨?_,rfl,rfl⟩)
    ·try dsimp only;unfold vW;rw[am hh]
    ·try dsimp only;unfold vW;rw[ai hh]
  ·have eg:g=d.2.1.length:=aa
   subst eg;subst hq
   try dsimp only
   refine⟨bh (by rw[bj,xz,bG];simp only[aH,aM];omega),az,hn2 _ ⟨cO,cO,?_⟩ cO⟩
   try dsimp only
   rw[gC f0,←eP];rfl
 have ef:f=d.2.1.length:=aa
 subst ef;exactλa b h1 h2=>aec h1 h2
theorem I4(c d:aF):∃q:aF×Unit,ab (okL lV.args (c,d,()))->ab (lV.pre (c,d,()))->Ae c d (λr=>r=q)/\ab (okR lV.rt q)/\Ah c d q.1:=pkb (au NV aQ) aR 77 Tryz.f77 lV NP [(1,6),(18,510),(19,510),(7,510),(14,85008)] (λx K=>Ae x.1 x.2.1 K) (λx r=>Ah x.1 x.2.1 r.1) (λx h1 h2=>YD x.1 x.2.1 h1 h2) (c,d,())
def qE(c d:aF):aF:=(I4 c d).choose.1
theorem YM(c d:aF)(hok:ab (okL lV.args (c,d,())))(hpre:ab (lV.pre (c,d,()))):ab (okR lV.rt (qE c d,()))/\Ah c d (qE c d):=((I4 c d).choose_spec hok hpre).2
def It:Ct:=⟨[cS,cS],[true,true],λx=>[CgR 1000000000000 x.1,CgR 1000000000000 x.2.1],[(true,iI)],λx=>((qE x.1 x.2.1),()),false,none⟩
theorem CW:aN Tryz.prog 77 It:=ctb (au NV aQ) aR 77 Tryz.f77 It NP [(1,6),(18,510),(19,510),(7,510),(14,85008)] (λx K=>Ae x.1 x.2.1 K) (λx h1 h2=>((I4 x.1 x.2.1).choose_spec h1 h2).1)
theorem TO(hok:ab (okL lV.args (c,d,())))(h:CgR a c)(g:CgR b d)(ha:a<=1000000000000)(hb:b<=1000000000000):CgR (a+b) (qE c d):=(YM c d hok ⟨h.le ha,g.le hb,trivial⟩).2 a b h g
theorem p9(x0:0<=x)(x1:x<=a)(y0:0<=y)(y1:y<=b):0<=x*y/\x*y<=a*b:=⟨Int.mul_nonneg x0 y0,wx (Int.mul_le_mul_of_nonneg_right x1 y0) (Int.mul_le_mul_of_nonneg_left y1 (wx x0 x1))⟩
structure RwB (k b:Int) (w:aw):Prop where
 l:(w.length:Int)=k
 e:∀x∈w,-b<=x/\x<=b
theorem RwB.push(h:RwB k b l)(h0:-b<=x)(h1:x<=b):RwB (k+1) b (l++[x]):=
 ⟨by rw[bj];have:=h.l;simp only[aH,aM];omega,λy hy=>by
  rcases dN.1 hy with hy|hy
  ·exact h.e y hy
  ·rw[cP.1 hy];exact⟨h0,h1⟩⟩
structure TbB (k n b:Int) (t:df):Prop where
 l:(t.length:Int)=k
 e:∀r∈t,RwB n b r
theorem TbB.push(h:TbB k n b t)(hr:RwB n b r):TbB (k+1) n b (t++[r]):=
 ⟨by rw[bj];have:=h.l;simp only[aH,aM];omega,λy hy=>by
  rcases dN.1 hy with hy|hy
  ·exact h.e y hy
  ·rw[cP.1 hy];exact hr⟩
theorem JV{p:Int->Prop}(h:∀y∈l,p y)(hx:p x):∀y∈l++[x],p y:=λy hy=>by
 rcases dN.1 hy with hy|hy
 ·exact h y hy
 ·rw[cP.1 hy];exact hx
structure JoC (r:aF) (b:Int) (c:aF):Prop where
 ob:c.1=r.1
 lt:c.2.2.1.length=c.2.1.length
 m:(c.2.1.length:Int)<=b
 fr:∀x∈c.2.1,0<=x/\x<=128
 to:∀x∈c.2.2.1,0<=x/\x<=128
 re:c.2.2.2=r.2.2.2
theorem JoC.le{r:aF}(h:JoC r a c)(hb:a<=b):JoC r b c:=⟨h.ob,h.lt,by have:=h.m;omega,h.fr,h.to,h.re⟩
def nV:Ct:=⟨[cS,cS],[true,true],λx=>[CgR 64 x.1,CgR 64 x.2.1],[(true,iI)],λ_=>dfR _,false,none⟩
def zQ(c d r0:aF):Prop:=CgR 10000 r0
def Nr:Ann:=(.s .n (.s .n (.s .n (.s (.s .n (.l [(4,(.ad 4 [.de])),(5,(.ad 5 [.de])),(7,(.d aq))] [(4,d7),(5,d7)] [2,3,6] (.s .n (.s (.s .n (.l [(4,(.ad 4 [.de])),(5,(.ad 5 [.de])),(8,(.d aq))] [(4,d7),(5,d7)] [2,3,6,7] .n)) .n)))) (.s .n (.s (.s .n (.l [(4,(.ad 4 [.de])),(5,(.ad 5 [.de])),(9,(.ref 800009 [])),(10,(.d aq))] [(4,d7),(5,d7),(800009,iL)] [2,3,6] (.s .n (.s (.s .n (.s (.s .n (.l [(4,(.ad 4 [.de])),(5,(.ad 5 [.de])),(9,(.ref 800009 [])),(11,(.ref 800011 [])),(12,(.d aq))] Ls [2,3,6,10] (.s .n (.s (.s .n (.s (.s .n (.j U7 Ls [2,3,6,10,12] (.s .n (.s .n (.j U7 Ls [2,3,6,10,12] .n))))) .n)) .n)))) .n)) .n)))) .n))))))
def zP(c d:aF)(K:qh):Prop:=let p:=(qE c d).2.1.length;CgR 1000000000000 c/\CgR 1000000000000 d/\aI (S:=dz) (λa b=>let x:=a.1.2.2.1;Iq x<|Oc a.2.1<|Oc a.2.2.1<|cnd (decide (x<c.1)) (aI (S:=dz) (λe f=>let y:=e.2.2.1;let w:=e.1.2.2.1;Iq w<|Oc e.2.1<|Oc y<|cnd (decide (w<d.1)) (aX y.2.1.length [x].length 8/\(Ik (c.1+w)<|aX y.2.2.1.length [c.1+w].length 8/\(Ik (w+1)<|f (((),(),w+1,()),e.2.1,(y.1,y.2.1++[x],y.2.2.1++[c.1+w],y.2.2.2),())))) (Ik (x+1)<|b (((),(),x+1,()),e.2.1,y,()))) (((),(),0,()),a.2.1,a.2.2.1,())) (aI (S:=LR) (λg h=>let z:=g.2.2.1;let t:=g.1.2.2.2.1;Iq t<|Oc g.2.1<|Oc z<|Om g.2.2.2.1<|cnd (decide (t<(z.2.1.length:Int))) (aI (S:=vX) (λi j=>let u:=i.2.2;let a2:=u.1.2.1.length;let a1:=u.2.2.1;let a0:=u.1.2.2.2.2.getD t.toNat [];let r:=i.1.2.2.2.2.1;let v:=u.1.2.2.1.getD r.toNat 0;let q:=u.1.2.1.getD t.toNat 0;Iq r<|Oc i.2.1<|Oc u.1<|Om u.2.1<|Ol a1<|cnd (decide (r<(a2:Int))) (Ix t u.1.2.2.1.length<|Ix r a2<|bZ (S:=vX) (λl=>let a4:=l.2.2.2;let a3:=l.1.2.2.2.2.1;Iq a3<|Oc l.2.1<|Oc l.2.2.1<|Om a4.1<|Ol a4.2.1<|aX a4.2.1.length [a3].length 8/\(Ik (r+1)<|j (((),(),(),(),r+1,()),l.2.1,l.2.2.1,a4.1,a4.2.1++[a3],()))) (λm=>cnd (u.1.2.2.1.getD t.toNat 0 != u.1.2.1.getD r.toNat 0) (m (((),(),(),(),-1,()),i.2.1,u.1,u.2.1,a1,())) (bZ (S:=vX) (λn=>Iq n.1.2.2.2.2.1<|Oc n.2.1<|Oc n.2.2.1<|Om n.2.2.2.1<|Ol n.2.2.2.2.1<|m (((),(),(),(),n.1.2.2.2.2.1,()),n.2.1,n.2.2.1,n.2.2.2.1,n.2.2.2.2.1,())) (λo=>cnd (decide (t<(p:Int))&&decide (r<(p:Int))) (Ix t u.1.2.2.2.2.length<|Ix r a0.length<|o (((),(),(),(),a0.getD r.toNat 0,()),i.2.1,u.1,u.2.1,a1,())) (Ix t a2<|Ik (q*d.1)<|Ik ((p:Int)+q*d.1)<|Ix r u.1.2.2.1.length<|Ik ((p:Int)+q*d.1+v)<|Ik ((p:Int)+q*d.1+v-c.1)<|o (((),(),(),(),(p:Int)+q*d.1+v-c.1,()),i.2.1,u.1,u.2.1,a1,())))))) (aX u.2.1.length [a1].length 24/\(Ik (t+1)<|h (((),(),(),t+1,()),i.2.1,u.1,u.2.1++[a1],())))) (((),(),(),(),0,()),g.2.1,z,g.2.2.2.1,[],())) (K ((z.1,z.2.1,z.2.2.1,z.2.2.2.1,g.2.2.2.1),()))) (((),(),(),0,()),a.2.1,a.2.2.1,[],()))) (((),(),0,()),(0,[],[],[],[]),qE c d,())
theorem Y5(c d:aF)(hok:ab (okL nV.args (c,d,())))(hpre:ab (nV.pre (c,d,()))):zP c d (λr=>zQ c d r.1):=by
 simp only[nV,okL,T.oks,T.ok,ap,ab,aL,aA,bf]at hok hpre
 try dsimp only[T.den]at hok hpre
 delta zP zQ Ik Iq Ix Oc Ol Om
 dsimp -proj -eta only;obtain⟨Hc,Hd⟩:=hpre;have Hs:=TO (c:=c) (d:=d) (by simp only[lV,okL,T.oks,T.ok,ap,ab,aL,aA,bf];exact hok) Hc Hd aa aa;refine⟨Hc.le aa,Hd.le aa,?_⟩;clear hok;generalize qE c d=r at *;have c0:=Hc.ob0;have c1:=Hc.ob;have d0:=Hd.ob0;have d1:=Hd.ob;have rm:=Hs.m;have rl:=Hs.lt;have rc:=Hs.lc;refine aY (λ(s:dz)=>0<=s.1.2.2.1/\s.1.2.2.1<=c.1/\JoC r (128+64*s.1.2.2.1) s.2.2.1) (λ(s:dz)=>(c.1-s.1.2.2.1).toNat) ?_ ⟨ak,c0,⟨rfl,rl,by (try dsimp only);omega,Hs.fr,Hs.to,rfl⟩⟩;rintro⟨⟨_,_,x,_⟩,o1,out,_⟩ next ⟨x0,x1,hJ⟩ hnx
 intros
 try dsimp only at x0 x1 hJ hnx⊢
 refine aE (λhx=>?_) (λhx=>?_)
 ·refine aY (λ(s:dz)=>0<=s.1.2.2.1/\s.1.2.2.1<=d.1/\JoC r (128+64*x+s.1.2.2.1) s.2.2.1) (λ(s:dz)=>(d.1-s.1.2.2.1).toNat) ?_ ⟨ak,d0,hJ.le (by (try dsimp only);omega)⟩;rintro⟨⟨_,_,y,_⟩,o2,out2,_⟩ next1 ⟨y0,y1,hJ2⟩ hn1;intros
  try dsimp only at y0 y1 hJ2 hn1⊢
  have jm:=hJ2.m;have jl:=hJ2.lt;refine aE (λhy=>?_) (λhy=>?_)
  ·refine⟨bh (by simp only[aH,aM];omega),az,bh (by simp only[aH,aM];omega),az,hn1 _ ⟨ae,ae,⟨hJ2.ob,?_,?_,JV hJ2.fr aa,JV hJ2.to aa,hJ2.re⟩⟩ cO⟩
   ·try dsimp only;simp only[bj,aH,aM];omega
   ·try dsimp only;simp only[bj,aH,aM];omega
  ·exact⟨az,hnx _ ⟨ae,ae,hJ2.le ae⟩ cO⟩
 replace hJ:=hJ.le (b:=4224) aa;clear hnx;have jm:=hJ.m;have jl:=hJ.lt;have hco:out.2.2.2.2=r.2.2.2.2:=by rw[hJ.re]
 refine aY (λ(s:LR)=>0<=s.1.2.2.2.1/\s.1.2.2.2.1<=out.2.1.length/\s.2.2.1=out/\TbB s.1.2.2.2.1 out.2.1.length 10000 s.2.2.2.1) (λ(s:LR)=>(out.2.1.length-s.1.2.2.2.1).toNat) ?_ ⟨ak,ak,rfl,⟨rfl,ak⟩⟩;rintro⟨⟨_,_,_,f,_⟩,o2,out2,t,_⟩ next1 ⟨f0,f1,q1,hT⟩ hn1;intros
 try dsimp only at f0 f1 q1 hT hn1⊢
 subst q1;have tl:=hT.l;refine aE (λhf=>?_) (λhf=>?_)
 ·refine aY (λ(s:vX)=>0<=s.1.2.2.2.2.1/\s.1.2.2.2.2.1<=out2.2.1.length/\s.2.2.1=out2/\s.2.2.2.1=t/\RwB s.1.2.2.2.2.1 10000 s.2.2.2.2.1) (λ(s:vX)=>(out2.2.1.length-s.1.2.2.2.2.1).toNat) ?_ ⟨ak,ak,rfl,rfl,⟨rfl,ak⟩⟩;rintro⟨⟨_,_,_,_,g,_⟩,o3,out3,t3,row,_⟩ next2 ⟨g0,g1,q1,q2,hR⟩ hn2;intros
  try dsimp only at g0 g1 q1 q2 hR hn2⊢
  subst q1;subst q2;have hl:=hR.l;refine aE (λhg=>?_) (λhg=>?_)
  ·have af:=hJ.fr _ (cC out3.2.1 0 f0 hf);have ag:=hJ.to _ (cC out3.2.2.1 0 g0 aa);have hm:=p9 af.1 af.2 d0 d1;refine⟨f0,aa,g0,hg,cp (λ(q:vX)=>-10000<=q.1.2.2.2.2.1/\q.1.2.2.2.2.1<=10000/\q.2.2.1=out3/\q.2.2.2.1=t3/\q.2.2.2.2.1=row) ?_ (λk hk=>aC (λ_=>hk _ ⟨ae,ae,rfl,rfl,rfl⟩) (λ_=>cp (λ(q:vX)=>-10000<=q.1.2.2.2.2.1/\q.1.2.2.2.2.1<=10000/\q.2.2.1=out3/\q.2.2.2.1=t3/\q.2.2.2.2.1=row) ?_ (λk1 hk1=>aC (λhb=>?_) (λ_=>?_))))⟩
   ·rintro⟨⟨_,_,_,_,h,_⟩,o4,out4,t4,row4,_⟩ ⟨q1,q2,q3,q4,q5⟩;intros
    try dsimp only at q1 q2 q3 q4 q5⊢
    subst q3;subst q4;subst q5;exact⟨bh (by simp only[aH,aM];omega),az,hn2 _ ⟨ae,ae,rfl,rfl,hR.push q1 q2⟩ cO⟩
   ·rintro⟨⟨_,_,_,_,h,_⟩,o4,out4,t4,row4,_⟩ ⟨q1,q2,q3,q4,q5⟩;intros;exact hk _ ⟨q1,q2,q3,q4,q5⟩
   ·simp only[ao,cj]at hb;have hrow:=Hs.rowG f0 hb.1;have hcel:=Hs.cel f0 hb.1 g0 hb.2;rw[hco];exact⟨f0,aa,g0,aa,hk1 _ ⟨ae,ae,rfl,rfl,rfl⟩⟩
   ·exact⟨f0,hf,az,az,g0,aa,az,az,hk1 _ ⟨ae,ae,rfl,rfl,rfl⟩⟩
  ·have e:g=out3.2.1.length:=aa
   rw[e]at hR;exact⟨bh (by simp only[aH,aM];omega),az,hn1 _ ⟨ae,ae,rfl,hT.push hR⟩ cO⟩
 have ef:f=out2.2.1.length:=aa
 rw[ef]at hT;have tl:=hT.l;have hob:=hJ.ob;have hid:out2.2.2.2.1=r.2.2.2.1:=by rw[hJ.re]
 refine⟨aa,by dsimp only;have:=Hs.ob0;omega,by dsimp only;have:=Hs.ob;omega,ae,jl,by dsimp only;rw[hid,hob];exact Hs.li,ae,λx hx=>by have:=hJ.fr x hx;omega,λx hx=>by have:=hJ.to x hx;omega,λx hx=>by dsimp only at hx;rw[hid]at hx;have:=Hs.id x hx;omega,λw hw=>?_⟩;have h:=hT.e w hw;exact⟨by have:=h.l;dsimp only;omega,h.e⟩
theorem In(c d:aF):∃q:aF×Unit,ab (okL nV.args (c,d,()))->ab (nV.pre (c,d,()))->zP c d (λr=>r=q)/\ab (okR nV.rt q)/\zQ c d q.1:=pkb (au CW aQ) aR 116 Tryz.f116 nV Nr [(20,18),(21,10)] (λx K=>zP x.1 x.2.1 K) (λx r=>zQ x.1 x.2.1 r.1) (λx h1 h2=>Y5 x.1 x.2.1 h1 h2) (c,d,())
def zv(c d:aF):aF:=(In c d).choose.1
theorem Ym(c d:aF)(hok:ab (okL nV.args (c,d,())))(hpre:ab (nV.pre (c,d,()))):ab (okR nV.rt (zv c d,()))/\zQ c d (zv c d):=((In c d).choose_spec hok hpre).2
def HS:Ct:=⟨[cS,cS],[true,true],λx=>[CgR 64 x.1,CgR 64 x.2.1],[(true,iI)],λx=>((zv x.1 x.2.1),()),false,none⟩
theorem N6:aN Tryz.prog 116 HS:=ctb (au CW aQ) aR 116 Tryz.f116 HS Nr [(20,18),(21,10)] (λx K=>zP x.1 x.2.1 K) (λx h1 h2=>((In x.1 x.2.1).choose_spec h1 h2).1)
def opR(c:aF):aF:=(c.1,c.2.2.1,c.2.1,c.2.2.2.1,(be c.2.1.length λf=>be c.2.1.length λg=>bU c g f))
structure SqR (c:aF):Prop where
 m:c.2.1.length<=1000000000
 lt:c.2.2.1.length=c.2.1.length
 li:c.2.2.2.1.length<=1000000000
 lc:c.2.2.2.2.length=c.2.1.length
 row:∀f:Int,0<=f->f<c.2.1.length->(c.2.2.2.2.getD f.toNat []).length=c.2.1.length
theorem agk(h:CgR b c)(hb:b<=1000000000):SqR c:=⟨by have:=h.m;omega,h.lt,by have:=h.li;have:=h.ob;omega,h.lc,λ_ f0 f1=>h.rowG f0 f1⟩
theorem afm(h:CgR b c):CgR b (opR c):=
 ⟨h.b1,h.ob0,h.ob,by have:=h.m;have:=h.lt;show (c.2.2.1.length:Int)<=b;omega,h.lt.symm,h.li,by show (be c.2.1.length _).length=c.2.2.1.length;rw[bG,h.lt],h.to,h.fr,h.id,
  λr hr=>by change r∈be c.2.1.length _ at hr;obtain⟨f,f0,f1,rfl⟩:=ij.1 hr;refine⟨by show _=c.2.2.1.length;rw[bG,h.lt],λx hx=>?_⟩;obtain⟨g,g0,g1,rfl⟩:=ij.1 hx;exact h.cel g0 g1 f0 f1⟩
def sP:Ct:=⟨[cS],[true],λx=>[SqR x.1],[(true,iI)],λx=>(opR x.1,()),false,none⟩
def YA:Ann:=(.s .n (.s .n (.s (.s .n (.l [(2,(.ad 2 [.de])),(3,(.ad 3 [.de])),(4,(.d aq))] [(2,d7),(3,d7)] [1] (.s .n (.s (.s .n (.s (.s .n (.l [(2,(.ad 2 [.de])),(3,(.ad 3 [.de])),(5,(.ref 800005 [])),(6,(.d aq))] [(2,d7),(3,d7),(800005,cd)] [1,4] .n)) .n)) .n)))) .n)))
def I8(c:aF)(K:qh):Prop:=let j:=c.2.1.length;c.2.2.1.length<=1099511627776/\j<=1099511627776/\c.2.2.2.1.length<=1099511627776/\aI (S:=dz) (λa b=>let h:=a.1.2.2.1;Iq h<|Oc a.2.1<|Oc a.2.2.1<|cnd (decide (h<(j:Int))) (aI (S:=ff) (λd e=>let i:=d.2.2;let g:=d.1.2.2.2.1;let f:=c.2.2.2.2.getD g.toNat [];Iq g<|Oc d.2.1<|Oc i.1<|Ol i.2.1<|cnd (decide (g<(j:Int))) (Ix g c.2.2.2.2.length<|Ix h f.length<|aX i.2.1.length [f.getD h.toNat 0].length 8/\(Ik (g+1)<|e (((),(),(),g+1,()),d.2.1,i.1,i.2.1++[f.getD h.toNat 0],()))) (aX i.1.2.2.2.2.length [i.2.1].length 24/\(Ik (h+1)<|b (((),(),h+1,()),d.2.1,(i.1.1,i.1.2.1,i.1.2.2.1,i.1.2.2.2.1,i.1.2.2.2.2++[i.2.1]),())))) (((),(),(),0,()),a.2.1,a.2.2.1,[],())) (K (a.2.2.1,()))) (((),(),0,()),(0,[],[],[],[]),(c.1,c.2.2.1,c.2.1,c.2.2.2.1,[]),())
theorem YU(c:aF)(hok:ab (okL sP.args (c,())))(hpre:ab (sP.pre (c,()))):I8 c (λr=>r=sP.res (c,())):=by
 simp only[sP,okL,T.oks,T.ok,ap,ab,aL,aA,bf]at hok hpre
 try dsimp only[T.den]at hok hpre
 delta I8 Ik Iq Ix Oc Ol Om
 dsimp -proj -eta only;have S:SqR c:=hpre;have hlt:=S.lt;have hlc:=S.lc;have hmm:=S.m;have hids:=S.li;clear hok;generalize hn:c.2.1.length=n at *;refine⟨aa,aa,aa,?_⟩;refine aY (λ(s:dz)=>0<=s.1.2.2.1/\s.1.2.2.1<=n/\s.2.2.1=(c.1,c.2.2.1,c.2.1,c.2.2.2.1,be s.1.2.2.1.toNat λf=>be n λg=>bU c g f)) (λ(s:dz)=>(n-s.1.2.2.1).toNat) ?_ ⟨ak,ak,rfl⟩;rintro⟨⟨_,_,f,_⟩,o1,out,_⟩ next ⟨f0,f1,hq⟩ hnx _ _ _ _ _ _ _ _ _ _ _
 try dsimp only at f0 f1 hq hnx⊢
 refine aE (λhf=>?_) (λhf=>?_)
 ·refine aY (λ(s1:ff)=>0<=s1.1.2.2.2.1/\s1.1.2.2.2.1<=n/\s1.2.2.1=out/\s1.2.2.2.1=be s1.1.2.2.2.1.toNat λg=>bU c g f) (λ(s1:ff)=>(n-s1.1.2.2.2.1).toNat) ?_ ⟨ak,ak,rfl,rfl⟩;rintro⟨⟨_,_,_,g,_⟩,p1,out2,row,_⟩ next1 ⟨g0,g1,h1,h2⟩ hn1 _ _ _ _ _ _ _ _ _ _ _ _
  try dsimp only at g0 g1 h1 h2 hn1⊢
  subst h1;subst h2;refine aE (λhg=>?_) (λhg=>?_)
  ·have hr:=S.row g g0 aa;refine⟨g0,aa,f0,aa,bh (by rw[bG];simp only[aH,aM];omega),az,hn1 _ ⟨cO,cO,rfl,?_⟩ cO⟩
   try dsimp only;rw[gC g0];rfl
  ·have e:g=n:=aa
   subst hq;refine⟨bh (by rw[bG];simp only[aH,aM];omega),az,hnx _ ⟨cO,cO,?_⟩ cO⟩
   try dsimp only;rw[gC f0,e,bB]
 ·have e:f=n:=aa
  simp only[sP,opR,hn];rw[hq,e,bB]
theorem Of:aN Tryz.prog 115 sP:=ctb (au jo aQ) aR 115 Tryz.f115 sP YA [(1,514)] (λx K=>I8 x.1 K) (λx h1 h2=>YU x.1 h1 h2)
abbrev rO:Type:=Int×Int×List Int
def BJ(a b:rO):Bool:=if a.1=b.1 then (if a.2.1=b.2.1 then mh a.2.2 b.2.2 else decide (a.2.1<b.2.1))else decide (a.1<b.1)
def sC:Ct:=⟨[Lx,Lx],[true,true],λx=>[],[(false,dS)],λx=>(BJ x.1 x.2.1,()),false,none⟩
def Hl(a b:JF)(K:fP):Prop:=cnd (a.1 != b.1) (K (decide (a.1<b.1),())) (cnd (a.2.1 != b.2.1) (K (decide (a.2.1<b.2.1),())) (K (mh a.2.2 b.2.2,())))
theorem WT(a b:JF)(hok:ab (okL sC.args (a,b,())))(hpre:ab (sC.pre (a,b,()))):Hl a b (λr=>r=sC.res (a,b,())):=by
 simp only[sC,okL,T.oks,T.ok,ap,ab,aL,aA,bf]at hok hpre
 try dsimp only[T.den]at hok hpre
 unfold Hl;simp only[sC,BJ];refine aC (λh=>?_) (λh=>?_)
 ·rw[qu]at h;rw[ai h]
 ·have h1:a.1=b.1:=by simpa using h
  rw[am h1];refine aC (λh=>?_) (λh=>?_)
  ·rw[qu]at h;rw[ai h]
  ·have h2:a.2.1=b.2.1:=by simpa using h
   rw[am h2]
theorem W5:aN Tryz.prog 139 sC:=ctb (au N8 aQ) aR 139 Tryz.f139 sC .n [] (λx K=>Hl x.1 x.2.1 K) (λx h1 h2=>WT x.1 x.2.1 h1 h2)
end
end Go.Bm
