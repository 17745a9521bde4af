/- What the functions that FnSchemaCategories reaches give: for each its contract, what it asks, and the proof. No condition. -/
import Derived.Test.YtpmjngfhnebmaaaGreatDoorFnSchemaCategoriesFnsD
set_option linter.unusedVariables false
set_option linter.unusedSimpArgs false
namespace Go.Bm
open Go.Proofs
set_option maxRecDepth 100000
set_option maxHeartbeats 1000000
abbrev zb:=@List.pairwise_cons
noncomputable section
abbrev oQ:Type:=Int->Int->Prop
variable {D R:oQ}{L:bg}{a b f i n:Int}{c es j l x:aw}{g h:Int->Int}{p q r:aO}{s:aB}
def sw:Ct:=⟨[bd,aq],[false,false],λx=>[],[(false,cA)],λx=>(cT x.1 x.2.1,()),false,none⟩
def WZ:Ann:=(.s .n (.s (.s .n (.l vE [] [0,1] .n)) .n))
def HB(list:aw)(n:Int)(K:jB):Prop:=aI (S:=cZ) (λa b=>Iq a.1.1<|cnd (decide (a.1.1<(list.length:Int))) (Ix a.1.1 list.length<|cnd (list.getD a.1.1.toNat 0==n) (K (a.1.1,())) (Ik (a.1.1+1)<|b ((a.1.1+1,()),()))) (K (-1,()))) ((0,()),())
theorem Xg(list:aw)(n:Int)(hok:ab (okL sw.args (list,n,())))(hpre:ab (sw.pre (list,n,()))):HB list n (λr=>r=sw.res (list,n,())):=by
 simp only[sw,okL,T.oks,T.ok,ap,ab,aL,aA,bf]at hok hpre
 try dsimp only[T.den]at hok hpre
 delta HB Ik Iq Ix
 have hl:list.length<=140737488355328:=by simp only[bO]at hok;omega
 clear hok;refine il (n:=list.length) (λi=>∀k:Int,0<=k->k<i->list.getD k.toNat 0≠n) aa (by intro k h0 h1;omega) ?_ ?_
 ·intro i next i0 i1 hP hn _
  try dsimp only
  refine aE (λ_=>⟨i0,i1,aC (λhx=>?_) (λhx=>⟨az,hn λk k0 k1=>?_⟩)⟩) (λh=>absurd i1 h)
  ·have:cT list n=i:=EA (z:=(0:Int)) i0 i1 (by simpa using hx) hP;simp only[sw,this]
  ·by_cases hk:k=i
   ·subst hk;simpa using hx
   ·exact hP k k0 aa
 ·intro next hP _
  refine aE (λh=>absurd h (jL _)) (λ_=>?_);have:cT list n=-1:=ad9 (z:=(0:Int)) hP;simp only[sw,this]
theorem Xo:aN Tryz.prog 124 sw:=ctb aQ aR 124 Tryz.f124 sw WZ [] (λx K=>HB x.1 x.2.1 K) (λx h1 h2=>Xg x.1 x.2.1 h1 h2)
def uy:Ct:=⟨[bd],[false],λx=>[x.1.length<=1099511627776],[(false,cd)],λx=>(cq x.1,()),false,none⟩
def Wb:Ann:=(.s .n (.s .n (.s (.s .n (.l [(3,(.ref 800003 [])),(4,(.ref 800004 [])),(5,(.d aq))] [(800003,cd),(800004,cd)] [0] (.s .n (.s (.s .n (.s (.s .n (.j [(3,(.ref 800003 [])),(4,(.ref 800004 [])),(6,(.d aq))] [(800003,cd),(800004,cd)] [0,5] .n)) .n)) .n)))) .n)))
def Hg(labels:aw)(K:oO):Prop:=let h:=labels.length;aI (S:=oN) (λa b=>let g:=a.2.2.1;let f:=a.1.2.2.1;let e:=labels.getD f.toNat 0;Iq f<|Ol a.2.1<|Ol g<|cnd (decide (f<(h:Int))) (Ix f h<|bZ (S:=oN) (λc=>Iq c.1.2.2.1<|Ol c.2.1<|Ol c.2.2.1<|aX c.2.1.length [c.1.2.2.1].length 8/\(Ik (f+1)<|b (((),(),f+1,()),c.2.1++[c.1.2.2.1],c.2.2.1,()))) (λd=>cnd (decide (cT g e<0)) (Ix f h<|aX g.length [e].length 8/\d (((),(),(g.length:Int),()),a.2.1,g++[e],())) (d (((),(),cT g e,()),a.2.1,g,())))) (K (a.2.1,()))) (((),(),0,()),[],[],())
theorem WF(labels:aw)(hok:ab (okL uy.args (labels,())))(hpre:ab (uy.pre (labels,()))):Hg labels (λr=>r=uy.res (labels,())):=by
 simp only[uy,okL,T.oks,T.ok,ap,ab,aL,aA,bf]at hok hpre
 try dsimp only[T.den]at hok hpre
 delta Hg Ik Iq Ix Ol
 dsimp -proj -eta only;have hl:labels.length<=1099511627776:=hpre;clear hok;refine aY (λ(s:oN)=>0<=s.1.2.2.1/\s.1.2.2.1<=labels.length/\s.2.2.1=cX (labels.take s.1.2.2.1.toNat)/\s.2.1=(labels.take s.1.2.2.1.toNat).map (cT (cX labels))) (λ(s:oN)=>(labels.length-s.1.2.2.1).toNat) ?_ ⟨ak,ak,rfl,rfl⟩;rintro⟨⟨_,_,i,_⟩,out,seen,_⟩ next ⟨i0,i1,hM,ho⟩ hn _ _ _
 try dsimp only at i0 i1 hM ho hn⊢
 refine aE (λhc=>?_) (λhc=>?_)
 ·have hs:=@EU labels i i0 hc;have hex:=@AI labels (i+1).toNat (labels.getD i.toNat 0);have hml:seen.length<=labels.length:=by rw[hM];have:=E4 (labels.take i.toNat) [];rw[ez]at this;simp only[aM]at this;unfold cX;omega
  have hol:out.length<=labels.length:=by rw[ho,d5,ez];omega
  have hout:(labels.take (i+1).toNat).map (cT (cX labels))=out++[cT (cX labels) (labels.getD i.toNat 0)]:=by rw[fY labels 0 i0 hc,mN,←ho];rfl
  rw[hs,←hM]at hex;rw[←hM]at hs;generalize labels.getD i.toNat 0=k at *;refine⟨i0,hc,?_⟩;refine cp (λ(s:oN)=>s.2.2.1=fJ seen k/\s.1.2.2.1=cT (cX labels) k/\s.2.1=out) (λs ⟨s1,s2,s3⟩ _ _ _=>?_) (λkk hk=>?_)
  ·rw[s3,s2];refine⟨bh (by simp only[aH,aM];omega),az,hn _ ⟨ae,ae,by dsimp only;rw[hs];exact s1,by dsimp only;rw[hout]⟩ ae⟩
  refine aE (λhx=>?_) (λhx=>?_)
  ·have hd:fJ seen k=seen++[k]:=by unfold fJ;rw[am hx]
   have hi:=Ky hx;rw[hd]at hex hk;rw[hi]at hex;exact⟨i0,hc,bh (by simp only[aH,aM];omega),hk _ ⟨rfl,(hex aa).symm,rfl⟩⟩
  ·have hd:fJ seen k=seen:=by unfold fJ;rw[ai hx]
   rw[hd]at hex hk;exact hk _ ⟨rfl,(hex aa).symm,rfl⟩
 ·have e:i=labels.length:=aa
  subst e;simp only[uy,cq];rw[ho,jv _ (cB _)]
theorem Wy:aN Tryz.prog 102 uy:=ctb (au Xo aQ) aR 102 Tryz.f102 uy Wb [] (λx K=>Hg x.1 K) (λx h1 h2=>WF x.1 h1 h2)
structure PrsP (n:Int) (l:df):Prop where
 len:l.length<=1099511627776
 e:∀k:Int,0<=k->k<l.length->2<=(l.getD k.toNat []).length/\(0<=(l.getD k.toNat []).getD 0 0/\(l.getD k.toNat []).getD 0 0<n)/\(0<=(l.getD k.toNat []).getD 1 0/\(l.getD k.toNat []).getD 1 0<n)
def tV(l:aw)(a b:Int):List Int:=be l.length λz=>if l.getD z.toNat 0=b then a else l.getD z.toNat 0
def rC(l p:aw):List Int:=tV l (l.getD (p.getD 0 0).toNat 0) (l.getD (p.getD 1 0).toNat 0)
def iM(n:Int)(pairs:df):List Int:=pairs.foldl rC (cJ n)
theorem SJ{l:aw}:(be l.length λz=>l.getD z.toNat 0)=l:=by
 apply lR;intro k;by_cases hk:k<l.length
 ·have h1:=@iJ Int (λz=>l.getD z.toNat 0) 0 k l.length aa aa;rw[bB,bN,bX (by rw[bG];exact hk)]at h1;rw[bX (by rw[bG];exact hk),bX hk];simp only[dY]at h1;rw[h1,bN,bX hk];rfl
 ·rw[jj (by rw[bG];omega),jj aa]
theorem afq:tV l a a=l:=by
 unfold tV
 conv=>rhs;rw[←@SJ l]
 refine dJ λz _ _=>?_;split
 ·rename_i h;exact h.symm
 ·rfl
theorem RF:(tV l a b).length=l.length:=by unfold tV;rw[bG]
theorem Ee{n:Int}:∀(p:df) (l:aw),l.length=n.toNat->(p.foldl rC l).length=n.toNat
 |[],l,h=>h
 |e::r,l,h=>by rw[jF];exact Ee r _ (by unfold rC;rw[RF];exact h)
theorem age{p:df}(i0:0<=i)(i1:i<p.length):iM n (p.take (i+1).toNat)=rC (iM n (p.take i.toNat)) (p.getD i.toNat []):=by unfold iM;rw[fY p [] i0 i1,oY];rfl
def uF:Ct:=⟨[aq,nz],[false,false],λx=>[0<=x.1,x.1<=1099511627776,PrsP x.1 x.2.1],[(false,cd)],λx=>(cq (iM x.1 x.2.1),()),false,none⟩
def X5:Ann:=(.s .n (.s .n (.s (.s .n (.l Lj [(800005,cd)] [0,1] .n)) (.s (.s .n (.l [(5,(.ref 800005 [])),(7,(.d aq))] [(800005,cd)] [1] (.s .n (.s (.s .n (.s .n (.l [(5,(.ref 800005 [])),(10,(.d aq))] [(800005,cd)] [1,7,8,9] (.s .n (.s (.s .n (.j [(5,(.ref 800005 []))] [(800005,cd)] [1,7,8,9,10] .n)) .n))))) .n)))) .n))))
def Ic(n:Int)(pairs:df)(K:oO):Prop:=let q:=pairs.length;aI (S:=(dW×cV)) (λa b=>let p:=a.1.2.1;Iq p<|Ol a.2.1<|cnd (decide (p<n)) (aX a.2.1.length [p].length 8/\(Ik (p+1)<|b (((),p+1,()),a.2.1++[p],()))) (aI (S:=(dW×cV)) (λc d=>let r:=c.2.1.length;let o:=c.1.2.1;let i:=pairs.getD o.toNat [];let l:=i.getD (Int.toNat 1) 0;let v:=c.2.1.getD l.toNat 0;let j:=i.getD (Int.toNat 0) 0;let u:=c.2.1.getD j.toNat 0;Iq o<|Ol c.2.1<|cnd (decide (o<(q:Int))) (Ix o q<|Ix 0 i.length<|Ix j r<|Ix o q<|Ix 1 i.length<|Ix l r<|aI (S:=(dW×cV)) (λe f=>let t:=e.2.1.length;let m:=e.1.2.1;Iq m<|Ol e.2.1<|cnd (decide (m<(t:Int))&&u != v) (Ix m t<|bZ (S:=((Unit×Unit)×cV)) (λg=>Ol g.2.1<|Ik (m+1)<|f (((),m+1,()),g.2.1,())) (λh=>cnd (e.2.1.getD m.toNat 0==v) (Ix m t<|h (((),()),List.set e.2.1 m.toNat u,())) (h (((),()),e.2.1,())))) (Ik (o+1)<|d (((),o+1,()),e.2.1,()))) (((),0,()),c.2.1,())) (r<=1099511627776/\K (cq c.2.1,()))) (((),0,()),a.2.1,()))) (((),0,()),[],())
theorem Yr(n:Int)(pairs:df)(hok:ab (okL uF.args (n,pairs,())))(hpre:ab (uF.pre (n,pairs,()))):Ic n pairs (λr=>r=uF.res (n,pairs,())):=by
 simp only[uF,okL,T.oks,T.ok,ap,ab,aL,aA,bf]at hok hpre
 try dsimp only[T.den]at hok hpre
 delta Ic Ik Iq Ix Ol
 dsimp -proj -eta only;obtain⟨n0,n1,hp⟩:=hpre;have hpn:=hp.len;have hpe:=hp.e;clear hok;refine po (λi=>be i.toNat λk=>k) (n:=n) n0 rfl ?_ ?_
 ·intro i next i0 i1 hn _ _
  try dsimp only at hn⊢
  rw[gC i0]at hn;exact aE (λ_=>⟨bh (by rw[bG];simp only[aH,aM];omega),az,hn⟩) (λh=>absurd i1 h)
 ·intro next _ _
  refine aE (λh=>absurd h (jL _)) (λ_=>?_);refine po (λi=>iM n (pairs.take i.toNat)) (n:=pairs.length) aa rfl ?_ ?_
  ·intro i next i0 i1 hn _ _
   try dsimp only at hn⊢
   obtain⟨e0,⟨e1,e2⟩,e3,e4⟩:=hpe i i0 i1;have hl:(iM n (pairs.take i.toNat)).length=n.toNat:=Ee _ _ (by unfold cJ;rw[bG]);rw[age i0 i1]at hn;unfold rC at hn;generalize iM n (pairs.take i.toNat)=l at *;have hz:(0:Int).toNat=0:=rfl;have hz1:(1:Int).toNat=1:=rfl;simp only[hz,hz1];refine aE (λ_=>⟨i0,i1,bz,aa,e1,aa,i0,i1,bz,aa,e3,aa,?_⟩) (λh=>absurd i1 h);generalize l.getD ((pairs.getD i.toNat []).getD 0 0).toNat 0=a at *;generalize l.getD ((pairs.getD i.toNat []).getD 1 0).toNat 0=b at *;by_cases hab:a=b
   ·subst hab;rw[afq]at hn;refine aY (λ(s:yE)=>s.2.1=l) (λ_=>0) ?_ rfl;rintro⟨⟨_,j,_⟩,l2,_⟩ next2 hl2 _ _ _
    try dsimp only at hl2⊢
    subst hl2;refine aC (λh=>?_) (λ_=>⟨az,hn⟩);simp at h
   ·refine po (λj=>be l.length λz=>if z<j then (if l.getD z.toNat 0=b then a else l.getD z.toNat 0)else l.getD z.toNat 0) (n:=l.length) aa ?_ ?_ ?_
    ·conv=>lhs;rw[←@SJ l]
     exact dJ λz z0 _=>(ai aa).symm
    ·intro j next2 j0 j1 hn2 _ _
     try dsimp only at hn2⊢
     have hg:(be l.length λz=>if z<j then (if l.getD z.toNat 0=b then a else l.getD z.toNat 0)else l.getD z.toNat 0).getD j.toNat 0=l.getD j.toNat 0:=by rw[iJ j0 j1,ai aa]
     refine aC (λ_=>⟨j0,by rw[bG];exact j1,?_⟩) (λh=>?_)
     ·refine abc (be l.length λz=>if z<j+1 then (if l.getD z.toNat 0=b then a else l.getD z.toNat 0)else l.getD z.toNat 0) (λs hs _=>⟨az,by rw[hs];exact hn2⟩) (λk hk=>?_);rw[hg];refine aC (λhx=>⟨j0,by rw[bG];exact j1,hk _ ?_⟩) (λhx=>hk _ ?_)
      ·rw[mb j0 j1];refine dJ λz z0 z1=>?_;by_cases h:z=j
       ·subst h;rw[am rfl,am (show z<z+1 by omega),am (by simpa using hx)]
       ·rw[ai h];by_cases h2:z<j
        ·rw[am h2,am (show z<j+1 by omega)]
        ·rw[ai h2,ai (show ¬z<j+1 by omega)]
      ·refine dJ λz z0 z1=>?_;by_cases h:z=j
       ·subst h;rw[ai (show ¬z<z by omega),am (show z<z+1 by omega),ai (by simpa using hx)]
       ·by_cases h2:z<j
        ·rw[am h2,am (show z<j+1 by omega)]
        ·rw[ai h2,ai (show ¬z<j+1 by omega)]
     ·rw[bG]at h;simp[hab,j1]at h
    ·intro next2 _ _
     try dsimp only
     refine aC (λh=>?_) (λ_=>⟨az,?_⟩)
     ·rw[bG]at h;simp at h
     ·have:tV l a b=be l.length λz=>if z<(l.length:Int)then (if l.getD z.toNat 0=b then a else l.getD z.toNat 0)else l.getD z.toNat 0:=dJ λz _ z1=>by rw[am z1]
      rw[this]at hn;exact hn
  ·intro next _ _
   refine aE (λh=>absurd h (jL _)) (λ_=>?_);rw[jv _ (cB _)];have hl:(iM n pairs).length=n.toNat:=Ee _ _ (by unfold cJ;rw[bG]);refine⟨by rw[hl];omega,?_⟩;simp only[uF]
theorem XI:aN Tryz.prog 71 uF:=ctb (au Wy aQ) aR 71 Tryz.f71 uF X5 [(9,19)] (λx K=>Ic x.1 x.2.1 K) (λx h1 h2=>Yr x.1 x.2.1 h1 h2)
def zq:Ct:=⟨[aq,nz],[false,false],λx=>[0<=x.1,x.1<=1099511627776,PrsP x.1 x.2.1],[(false,cd)],λx=>(cq (iM x.1 x.2.1),()),false,none⟩
def Hb(n:Int)(pairs:df)(K:oO):Prop:=0<=n/\n<=1099511627776/\PrsP n pairs/\K (cq (iM n pairs),())
theorem WD(n:Int)(pairs:df):Mh zq (n,pairs,()) (Hb n pairs):=by
 intro hok hpre;simp only[zq,okL,T.oks,T.ok,ap,ab,aL,aA,bf]at hok hpre
 try dsimp only[T.den]at hok hpre
 unfold Hb;exact⟨hpre.1,hpre.2.1,hpre.2.2,rfl⟩
theorem Ww:aN Tryz.prog 43 zq:=ctb (au XI aQ) aR 43 Tryz.f43 zq .n [] (λx K=>Hb x.1 x.2.1 K) (λx h1 h2=>WD x.1 x.2.1 h1 h2)
def nD(x:Int)(es:aw):List aO->Int->Int
 |[],_=>-1
 |p::l,k=>if p.1=x/\p.2=es then k else nD x es l (k+1)
def iv(l:bg)(x:Int)(es:aw):Int:=nD x es l 0
theorem Ub{x:Int}{l:bg}(h0:0<=i)(h1:i<l.length):nD x es (l.drop i.toNat) i=if (l.getD i.toNat (0,[])).1=x/\(l.getD i.toNat (0,[])).2=es then i else nD x es (l.drop (i+1).toNat) (i+1):=by rw[im l (0,[]) h0 h1];rfl
def qD:Ct:=⟨[aW,aq,bd],[false,false,false],λx=>[],[(false,cA)],λx=>(iv x.1 x.2.1 x.2.2.1,()),false,none⟩
def WA:Ann:=(.s .n (.s (.s .n (.l [(7,(.d aq))] [] [0,1,2] .n)) .n))
def Hz(list:bg)(start:Int)(edges:aw)(K:jB):Prop:=aI (S:=cZ) (λa b=>let d:=a.1.1;let c:=list.getD d.toNat (0,[]);Iq d<|cnd (decide (d<(list.length:Int))) (Ix d list.length<|((c.1==start)=true->d<(list.length:Int)/\0<=d)/\cnd (c.1==start&&eqR bd c.2 edges) (K (d,())) (Ik (d+1)<|b ((d+1,()),()))) (K (-1,()))) ((0,()),())
theorem X3(list:bg)(start:Int)(edges:aw)(hok:ab (okL qD.args (list,start,edges,())))(hpre:ab (qD.pre (list,start,edges,()))):Hz list start edges (λr=>r=qD.res (list,start,edges,())):=by
 simp only[qD,okL,T.oks,T.ok,ap,ab,aL,aA,bf]at hok hpre
 try dsimp only[T.den]at hok hpre
 delta Hz Ik Iq Ix
 dsimp -proj -eta only;have hl:=hok.1;rw[bO]at hl;simp only[qD,iv];refine aY (λ(s:cZ)=>0<=s.1.1/\s.1.1<=list.length/\nD start edges list 0=nD start edges (list.drop s.1.1.toNat) s.1.1) (λ(s:cZ)=>(list.length-s.1.1).toNat) ?_ ⟨ak,ak,rfl⟩;rintro⟨⟨i,_⟩,_⟩ next ⟨i0,i1,q⟩ hnx
 intros
 try dsimp only at i0 i1 q hnx⊢
 rw[q];refine aE (λhi=>⟨i0,hi,λ_=>⟨hi,i0⟩,?_⟩) (λhi=>?_)
 ·rw[Ub i0 hi];refine aC (λh=>?_) (λh=>⟨az,hnx _ ⟨ae,ae,?_⟩ ae⟩)
  ·simp only[ao,cR,gi]at h;rw[am h]
  ·try dsimp only
   rw[q,Ub i0 hi,ai];rintro⟨h1,h2⟩;rw[h1,h2]at h;simp at h
 ·rw[jt list aa];rfl
theorem Np:aN Tryz.prog 45 qD:=ctb (au CB aQ) aR 45 Tryz.f45 qD WA [] (λx K=>Hz x.1 x.2.1 x.2.2.1 K) (λx h1 h2=>X3 x.1 x.2.1 x.2.2.1 h1 h2)
structure LnkP (s:aB) (l:bg):Prop where
 S:bE s=true
 n:l.length<=400
 e:∀p∈l,(aV s p).2=true
def tU(s:aB)(l:bg)(w i n:Nat):List (List Int):=if kO s (l.getD w (0,[])) (s.2.2.2.1.getD i (0,[])) n=true/\(gl (l.getD w (0,[])) (s.2.2.2.1.getD i (0,[])) (s.2.2.2.2.getD i (0,[])) n).length<=6 then [[(w:Int),iv l (l.getD w (0,[])).1 (gl (l.getD w (0,[])) (s.2.2.2.1.getD i (0,[])) (s.2.2.2.2.getD i (0,[])) n)]]else []
def lnA(s:aB)(l:bg)(w i:Nat):Nat->List (List Int)
 |0=>[]
 |n+1=>lnA s l w i n++tU s l w i n
def lnI(s:aB)(l:bg)(w:Nat):Nat->List (List Int)
 |0=>[]
 |i+1=>lnI s l w i++lnA s l w i ((l.getD w (0,[])).2.length+1)
def lnW(s:aB)(l:bg):Nat->List (List Int)
 |0=>[]
 |w+1=>lnW s l w++lnI s l w s.2.2.2.1.length
def jy(s:aB)(l:bg):List (List Int):=lnW s l l.length
theorem Ko(s:aB)(l:bg)(w i:Nat):∀n,(lnA s l w i n).length<=n
 |0=>aZ _
 |n+1=>by have:=Ko s l w i n;unfold lnA tU;rw[bj];split<;>simp only[aH,aM]<;>omega
theorem JK{s:aB}{l:bg}(h:∀p∈l,p.2.length<=6)(w:Nat):∀i,(lnI s l w i).length<=i*7
 |0=>aZ _
 |i+1=>by
  have h1:=JK (s:=s) h w i;have h2:=Ko s l w i ((l.getD w (0,[])).2.length+1)
  have h3:(l.getD w (0,[])).2.length<=6:=by
   rcases ig w l.length with hw|hw
   ·exact h _ (gA hw)
   ·simp[bN,jj hw]
  unfold lnI;rw[bj];omega
theorem Kq{s:aB}{l:bg}(h:∀p∈l,p.2.length<=6)(h8:s.2.2.2.1.length<=8):∀w,(lnW s l w).length<=w*56
 |0=>aZ _
 |w+1=>by have h1:=Kq h h8 w;have h2:=JK (s:=s) h w s.2.2.2.1.length;unfold lnW;rw[bj];omega
theorem R3{s:aB}{l:bg}{w i a:Nat}(h:(l.getD w (0,[])).2.length<a+(s.2.2.2.1.getD i (0,[])).2.length):∀n,a<=n->lnA s l w i n=lnA s l w i a
 |0,hn=>by rw[Nat.le_zero.1 hn]
 |n+1,hn=>by
  rcases ig n a with h1|h1
  ·rw[show a=n+1 from by omega]
  ·have hk:tU s l w i n=[]:=by unfold tU;rw[ai];rintro⟨hh,_⟩;unfold kO at hh;rw[ao,ao,cj]at hh;have:=hh.1.2;omega
   rw[lnA,hk,lS];exact R3 h n h1
theorem aby{l:aO}(n0:0<=n)(h:n+l.2.length<=p.2.length):((gl p l r n).length:Int)=p.2.length-l.2.length+r.2.length:=by unfold gl;rw[bj,bj,ez,iz];omega
def uG:Ct:=⟨[fV,aW],[true,false],λx=>[LnkP x.1 x.2.1],[(false,iL)],λx=>(jy x.1 x.2.1,()),false,none⟩
def Xk:Ann:=(.s .n (.s .n (.s (.s .n (.l Lj [(800005,iL)] [1,2] (.s .n (.s (.s .n (.s .n (.l [(5,(.ref 800005 [])),(8,(.d aq))] [(800005,iL)] [1,2,6,7] (.s .n (.s (.s .n (.s .n (.l [(5,(.ref 800005 [])),(9,(.ad 9 [.de])),(10,(.ad 10 [.de])),(11,(.d aq))] Lc [1,2,6,7,8] (.s .n (.s (.j [(5,(.ref 800005 [])),(9,(.ad 9 [.de])),(10,(.ad 10 [.de]))] Lc [1,2,6,7,8,11] (.s .n (.s (.s .n (.j [(5,(.ref 800005 [])),(9,(.ad 9 [.de])),(10,(.ad 10 [.de])),(12,(.d aq))] Lc [1,2,6,7,8,11] .n)) .n))) .n))))) .n))))) .n)))) .n)))
def ahu:FuncId->Option Ct:=lkp [(46,lu),(72,mX),(45,qD)]
def HK(s:aB)(list:bg)(K:je×Unit->Prop):Prop:=let y:=list.length;aI (S:=vY) (λa b=>let t:=a.1.2.1;let l:=list.getD t.toNat (0,[]);Iq t<|Om a.2.1<|cnd (decide (t<(y:Int))) (Ix t y<|aI (S:=vY) (λc d=>let w:=c.1.2.1;Iq w<|Om c.2.1<|cnd (decide (w<(s.2.2.2.1.length:Int))) (Ix w s.2.2.2.1.length<|Ix w s.2.2.2.2.length<|aI (S:=BY) (λe f=>let z:=e.2.2;let m:=e.1.2.2.2.1;let x:=l.2.getD (Int.toNat (m-1)) 0;let q:=List.take m.toNat l.2;Iq m<|Om e.2.1<|Iq z.1.1<|Ol z.1.2<|Iq z.2.1.1<|Ol z.2.1.2<|Ik (m+(z.1.2.length:Int))<|cnd (decide (m+(z.1.2.length:Int)<=(l.2.length:Int))) (bZ (S:=((Unit×iw)×(je×mG))) (λg=>Om g.2.1<|Iq g.2.2.1.1<|Ol g.2.2.1.2<|Iq g.2.2.2.1.1<|Ol g.2.2.2.1.2<|Ik (m+1)<|f (((),(),(),m+1,()),g.2.1,g.2.2.1,g.2.2.2.1,())) (λh=>Ix t y<|bZ (S:=BY) (λi=>let u:=i.1.2.2.2.1;let r:=i.2.2;let a0:=r.2.1.2;let n:=r.1.2.length;let v:=Int.toNat (m+(n:Int));let p:=iv list l.1 (q++a0++List.drop v l.2);let o:=eqR bd (List.drop m.toNat (List.take v l.2)) r.1.2;Iq u<|Om i.2.1<|Iq r.1.1<|Ol r.1.2<|Iq r.2.1.1<|Ol a0<|((u != r.1.1)=false->inK .i64 (m+(n:Int)))/\((u != r.1.1)=false->m<=m+(n:Int)/\m+(n:Int)<=(l.2.length:Int)/\0<=m)/\((u != r.1.1||!o)=false->inK .i64 ((l.2.length:Int)-(n:Int)))/\((u != r.1.1||!o)=false->inK .i64 ((l.2.length:Int)-(n:Int)+(a0.length:Int)))/\cnd (u != r.1.1||!o||decide (6<(l.2.length:Int)-(n:Int)+(a0.length:Int))) (h (((),(),(),()),i.2.1,r.1,r.2.1,())) (0<=m/\m<=(l.2.length:Int)/\q.length<=1099511627776/\(Ik (m+(n:Int))<|0<=m+(n:Int)/\m+(n:Int)<=(l.2.length:Int)/\aX q.length a0.length 8/\aX (q++a0).length (List.drop v l.2).length 8/\(Ix t y<|aX i.2.1.length [[t,p]].length 24/\h (((),(),(),()),i.2.1++[[t,p]],r.1,r.2.1,()))))) (λj=>cnd (decide (0<m)) (Ik (m-1)<|Ix (m-1) l.2.length<|Ix x s.2.2.1.length<|j (((),(),(),s.2.2.1.getD x.toNat 0,()),e.2.1,z.1,z.2.1,())) (j (((),(),(),l.1,()),e.2.1,z.1,z.2.1,()))))) (Ik (w+1)<|d (((),w+1,()),e.2.1,()))) (((),(),(),0,()),c.2.1,s.2.2.2.1.getD w.toNat (0,[]),s.2.2.2.2.getD w.toNat (0,[]),())) (Ik (t+1)<|b (((),t+1,()),c.2.1,()))) (((),0,()),a.2.1,())) (K (a.2.1,()))) (((),0,()),[],())
theorem Xx(s:aB)(list:bg)(hok:ab (okL uG.args (s,list,())))(hpre:ab (uG.pre (s,list,()))):HK s list (λr=>r=uG.res (s,list,())):=by
 simp only[uG,okL,T.oks,T.ok,ap,ab,aL,aA,bf]at hok hpre
 try dsimp only[T.den]at hok hpre
 delta HK Ik Iq Ix Ol Om
 dsimp -proj -eta only;have P:=hpre;clear hpre hok;obtain⟨s0,s8,f8,tf,_,_,e8,re,heq⟩:=fH P.S;have hl:=P.n;have h6:∀p∈list,p.2.length<=6:=λp hp=>qX (P.e p hp);refine aY (λ(q:vY)=>0<=q.1.2.1/\q.1.2.1<=list.length/\q.2.1=lnW s list q.1.2.1.toNat) (λ(q:vY)=>(list.length-q.1.2.1).toNat) ?_ ⟨cB _,ae,rfl⟩;rintro⟨⟨_,w,_⟩,out,_⟩ next ⟨w0,w1,q⟩ hnx
 intros
 try dsimp only at w0 w1 q hnx⊢
 subst q;refine aE (λhw=>?_) (λhw=>?_);rotate_left
 ·have e:w=list.length:=aa
  subst e;rw[bB];rfl
 have hWl:=Kq (s:=s) h6 e8 w.toNat;have hpe:=P.e _ (gA (l:=list) (i:=w.toNat) aa);have hpl:=qX hpe;have hpw:=(gX hpe).2;refine⟨w0,hw,aY (λ(q:vY)=>0<=q.1.2.1/\q.1.2.1<=s.2.2.2.1.length/\q.2.1=lnW s list w.toNat++lnI s list w.toNat q.1.2.1.toNat) (λ(q:vY)=>(s.2.2.2.1.length-q.1.2.1).toNat) ?_ ⟨cB _,ae,by simp[lnI]⟩⟩;rintro⟨⟨_,i,_⟩,out,_⟩ next1 ⟨i0,i1,q⟩ hn1;intros
 try dsimp only at i0 i1 q hn1⊢
 subst q;refine aE (λhi=>?_) (λhi=>?_);rotate_left
 ·have e:i=s.2.2.2.1.length:=aa
  subst e;refine⟨az,hnx _ ⟨ae,ae,?_⟩ ae⟩
  try dsimp only
  rw[show (w+1).toNat=w.toNat+1 from by omega,bB];rfl
 have hIl:=JK (s:=s) h6 w.toNat i.toNat;have E:=nf heq i0 hi aa;have hlp:=qX E.l2;have hlq:=qX E.r2;refine⟨i0,hi,i0,aa,aY (λ(q:BY)=>0<=q.1.2.2.2.1/\q.1.2.2.2.1<=(list.getD w.toNat (0,[])).2.length+1/\q.2.1=lnW s list w.toNat++lnI s list w.toNat i.toNat++lnA s list w.toNat i.toNat q.1.2.2.2.1.toNat/\q.2.2.1=s.2.2.2.1.getD i.toNat (0,[])/\q.2.2.2.1=s.2.2.2.2.getD i.toNat (0,[])) (λ(q:BY)=>((list.getD w.toNat (0,[])).2.length+1-q.1.2.2.2.1).toNat) ?_ ⟨cB _,ae,by simp[lnA],rfl,rfl⟩⟩;rintro⟨⟨_,_,_,n,_⟩,out,p,r,_⟩ next2 ⟨n0,n1,q1,q2,q3⟩ hn2;intros
 try dsimp only at n0 n1 q1 q2 q3 hn2⊢
 subst q1;subst q2;subst q3;have hAl:=Ko s list w.toNat i.toNat n.toNat;generalize hL:s.2.2.2.1.getD i.toNat (0,[])=Lf at *;generalize hR:s.2.2.2.2.getD i.toNat (0,[])=Rt at *;refine⟨az,aE (λhle=>?_) (λhgt=>?_)⟩;rotate_left
 ·refine⟨az,hn1 _ ⟨ae,ae,?_⟩ ae⟩
  try dsimp only
  rw[show (i+1).toNat=i.toNat+1 from by omega,lnI,R3 (a:=n.toNat) (by rw[hL];omega) ((list.getD w.toNat (0,[])).2.length+1) aa,eP]
 have hol:=aby (r:=Rt) n0 hle;have hstep:lnA s list w.toNat i.toNat (n+1).toNat=lnA s list w.toNat i.toNat n.toNat++(if kO s (list.getD w.toNat (0,[])) Lf n=true/\(gl (list.getD w.toNat (0,[])) Lf Rt n).length<=6 then [[w,iv list (list.getD w.toNat (0,[])).1 (gl (list.getD w.toNat (0,[])) Lf Rt n)]]else []):=by rw[show (n+1).toNat=n.toNat+1 from by omega,lnA];unfold tU;rw[hL,hR,jI n0,jI w0]
 refine cp (λ(q:((Unit×iw)×(je×mG)))=>q.2.1=lnW s list w.toNat++lnI s list w.toNat i.toNat++lnA s list w.toNat i.toNat (n+1).toNat/\q.2.2.1=Lf/\q.2.2.2.1=Rt) ?_ ?_
 ·rintro⟨_,out,p,r,_⟩ ⟨q1,q2,q3⟩;intros
  try dsimp only at q1 q2 q3⊢
  exact⟨az,hn2 _ ⟨ae,ae,q1,q2,q3⟩ ae⟩
 intro kk hk;refine⟨w0,hw,cp (λ(q:BY)=>q.1.2.2.2.1=oF s (list.getD w.toNat (0,[])) n/\q.2.1=lnW s list w.toNat++lnI s list w.toNat i.toNat++lnA s list w.toNat i.toNat n.toNat/\q.2.2.1=Lf/\q.2.2.2.1=Rt) ?_ ?_⟩;rotate_left
 ·intro k1 hk1;refine aE (λhp=>?_) (λhp=>?_)
  ·obtain⟨v0,v1⟩:=fF.1 hpw (n-1) aa aa;refine⟨az,aa,aa,v0,aa,hk1 _ ⟨?_,rfl,rfl,rfl⟩⟩
   try dsimp only
   unfold oF;rw[ai aa]
  ·refine hk1 _ ⟨?_,rfl,rfl,rfl⟩
   try dsimp only
   unfold oF;rw[am aa]
 rintro⟨⟨_,_,_,md,_⟩,out,p,r,_⟩ ⟨q0,q1,q2,q3⟩;intros
 try dsimp only at q0 q1 q2 q3⊢
 subst q0;subst q1;subst q2;subst q3;generalize list.getD w.toNat (0,[])=G at *;have hO1:(lnW s list w.toNat++lnI s list w.toNat i.toNat).length<=30000:=by rw[bj];omega
 generalize lnW s list w.toNat++lnI s list w.toNat i.toNat=O1 at *;clear hnx hn1 hn2;have hh:kO s G p n=true<->oF s G n=p.1/\eqR bd ((G.2.take (n+p.2.length).toNat).drop n.toNat) p.2=true:=by unfold kO;rw[ao,ao,cj,cR];exact⟨λh=>⟨h.1.1,h.2⟩,λh=>⟨⟨h.1,hle⟩,h.2⟩⟩
 have ho1:(G.2.take n.toNat).length<=6:=by rw[ez];omega
 have ho2:(G.2.drop (n+p.2.length).toNat).length<=6:=by rw[iz];omega
 refine⟨λ_=>az,λ_=>⟨aa,hle,n0⟩,λ_=>az,λ_=>az,aC (λhb=>?_) (λhb=>?_)⟩
 ·refine hk _ ⟨?_,rfl,rfl⟩
  try dsimp only
  rw[hstep,ai,lS];rintro⟨h1,h2⟩;obtain⟨h3,h4⟩:=hh.1 h1;rw[h3,h4]at hb;simp only[bne_self_eq_false,wo,yH,cj]at hb;omega
 ·rw[gV,gV,jK,fS]at hb;have h1:oF s G n=p.1:=by have:=hb.1.1;simpa using this
  rw[am ⟨hh.2 ⟨h1,hb.1.2⟩,aa⟩]at hstep;refine⟨n0,aa,aa,az,aa,hle,bh aa,bh (by rw[bj];omega),w0,hw,bh (by rw[bj];simp only[aH,aM];omega),hk _ ⟨?_,rfl,rfl⟩⟩
  try dsimp only
  rw[hstep,eP];rfl
theorem Xj:aN Tryz.prog 44 uG:=ctb (au jo (au CB (au Np aQ))) aR 44 Tryz.f44 uG Xk [(16,28),(17,105013),(9,2012),(15,7)] (λx K=>HK x.1 x.2.1 K) (λx h1 h2=>Xx x.1 x.2.1 h1 h2)
inductive EqvP (s:aB):aO->aO->Prop
 |link (p:aO) (e n:Int):(aV s p).2=true->0<=e->e<s.2.2.2.1.length->0<=n->n<=p.2.length->kO s p (s.2.2.2.1.getD e.toNat (0,[])) n=true->(gl p (s.2.2.2.1.getD e.toNat (0,[])) (s.2.2.2.2.getD e.toNat (0,[])) n).length<=6->EqvP s p (p.1,gl p (s.2.2.2.1.getD e.toNat (0,[])) (s.2.2.2.2.getD e.toNat (0,[])) n)
 |refl (p:aO):EqvP s p p
 |symm {p q:aO}:EqvP s p q->EqvP s q p
 |trans {p q r:aO}:EqvP s p q->EqvP s q r->EqvP s p r
theorem uX(hS:bE s=true)(h:EqvP s p q):p.1=q.1/\((aV s p).2=true->(aV s q).2=true/\(aV s p).1=(aV s q).1)/\((aV s q).2=true->(aV s p).2=true/\(aV s p).1=(aV s q).1):=by
 obtain⟨_,_,_,_,_,_,e8,re,heq⟩:=fH hS
 induction h with
 |link p e n hp e0 e1 n0 n1 hh h6=>obtain⟨o1,o2⟩:=xN hp (nf heq e0 e1 aa) n0 n1 hh h6;exact⟨rfl,λ_=>⟨o1,o2.symm⟩,λ_=>⟨hp,o2.symm⟩⟩
 |refl p=>exact⟨rfl,λh=>⟨h,rfl⟩,λh=>⟨h,rfl⟩⟩
 |symm _ ih=>exact⟨ih.1.symm,λh=>⟨(ih.2.2 h).1,(ih.2.2 h).2.symm⟩,λh=>⟨(ih.2.1 h).1,(ih.2.1 h).2.symm⟩⟩
 |trans _ _ i1 i2=>exact⟨i1.1.trans i2.1,λh=>⟨(i2.2.1 (i1.2.1 h).1).1,(i1.2.1 h).2.trans (i2.2.1 (i1.2.1 h).1).2⟩,λh=>⟨(i1.2.2 (i2.2.2 h).1).1,(i1.2.2 (i2.2.2 h).1).2.trans (i2.2.2 h).2⟩⟩
structure FinP (R:oQ) (n:Int) (D:oQ) (g:Int->Int):Prop where
 snd:∀i j:Int,0<=i->i<n->0<=j->j<n->g i=g j->R i j
 don:∀i j:Int,D i j->g i=g j
theorem Jk{R:oQ}{n:Int}{D:oQ}{g h:Int->Int}(rs:∀i j,R i j->R j i)(rt:∀i j k,R i j->R j k->R i k)(F:FinP R n D g){a b:Int}(a0:0<=a)(a1:a<n)(b0:0<=b)(b1:b<n)(hab:R a b)
  (hD:∀i j,D i j->(0<=i/\i<n)/\0<=j/\j<n) (hh:∀z:Int,0<=z->z<n->h z=if g z=g b then g a else g z):FinP R n (λi j=>D i j\/(i=a/\j=b)) h:=by
 refine⟨λi j i0 i1 j0 j1 e=>?_,λi j d=>?_⟩
 ·rw[hh i i0 i1,hh j j0 j1]at e;have q1:=F.snd i b i0 i1 b0 b1;have q2:=F.snd j b j0 j1 b0 b1;have q3:=F.snd i a i0 i1 a0 a1;have q4:=F.snd j a j0 j1 a0 a1;have q5:=F.snd i j i0 i1 j0 j1;split at e<;>rename_i h1<;>split at e<;>rename_i h2
  ·exact rt _ _ _ (q1 h1) (rs _ _ (q2 h2))
  ·exact rt _ _ _ (q1 h1) (rt _ _ _ (rs _ _ hab) (rs _ _ (q4 e.symm)))
  ·exact rt _ _ _ (q3 e) (rt _ _ _ hab (rs _ _ (q2 h2)))
  ·exact q5 e
 ·rcases d with d|⟨rfl,rfl⟩
  ·obtain⟨⟨i0,i1⟩,j0,j1⟩:=hD i j d;rw[hh i i0 i1,hh j j0 j1,F.don i j d]
  ·rw[hh i a0 a1,hh j b0 b1,am rfl];split
   ·rfl
   ·rfl
theorem ZW(rs:∀i j,R i j->R j i)(rt:∀i j k,R i j->R j k->R i k)(F:FinP R n D g)(a0:0<=a)(a1:a<n)(b0:0<=b)(b1:b<n)(hab:R a b)(hD:∀i j,D i j->(0<=i/\i<n)/\0<=j/\j<n)(hh:∀z:Int,0<=z->z<n->h z=if g z=g a then g b else g z):FinP R n (λi j=>D i j\/(i=a/\j=b)) h:=by
 have:=Jk rs rt F b0 b1 a0 a1 (rs _ _ hab) hD hh;refine⟨this.snd,λi j d=>?_⟩;rcases d with d|⟨rfl,rfl⟩
 ·exact this.don i j (.inl d)
 ·exact (this.don j i (.inr ⟨rfl,rfl⟩)).symm
def oM(s:aB)(L:bg)(i j:Int):Prop:=EqvP s (L.getD i.toNat (0,[])) (L.getD j.toNat (0,[]))
theorem RG{s:aB}{L:bg}{n:Int}(n0:0<=n):∀(ps:df) (D:oQ) (l:aw),l.length=n.toNat->(∀i j,D i j->(0<=i/\i<n)/\0<=j/\j<n)->
  (∀p∈ps,((0<=p.getD 0 0/\p.getD 0 0<n)/\0<=p.getD 1 0/\p.getD 1 0<n)/\oM s L (p.getD 0 0) (p.getD 1 0))->FinP (oM s L) n D (λz=>l.getD z.toNat 0)->
  FinP (oM s L) n (λi j=>D i j\/∃p∈ps,i=p.getD 0 0/\j=p.getD 1 0) (λz=>(ps.foldl rC l).getD z.toNat 0)
 |[],D,l,hl,hD,hp,H=>by simpa using H
 |p::ps,D,l,hl,hD,hp,H=>by
  obtain⟨⟨⟨a0,a1⟩,b0,b1⟩,hr⟩:=hp p ak;have K:=@Jk (oM s L) n D (λz=>l.getD z.toNat 0) (λz=>(rC l p).getD z.toNat 0) (λ_ _ h=>h.symm) (λ_ _ _ h g=>h.trans g) H (p.getD 0 0) (p.getD 1 0) a0 a1 b0 b1 hr hD λz z0 z1=>by show (tV l _ _).getD z.toNat 0=_;unfold tV;rw[iJ z0 aa]
  have:=RG n0 ps _ (rC l p) (by unfold rC;rw[RF];exact hl) (λi j d=>by
   rcases d with d|⟨rfl,rfl⟩
   ·exact hD i j d
   ·exact⟨⟨a0,a1⟩,b0,b1⟩) (λq hq=>hp q (oV _ hq)) K
  refine⟨this.snd,λi j d=>this.don i j ?_⟩;rcases d with d|⟨q,hq,e⟩
  ·exact .inl (.inl d)
  ·rcases cQ.1 hq with rfl|hq
   ·exact .inl (.inr e)
   ·exact .inr ⟨q,hq,e⟩
theorem JM{s:aB}{l:bg}{w i:Nat}{x:aw}:∀{n:Nat},x∈lnA s l w i n<->∃k,k<n/\x∈tU s l w i k
 |0=>by simp[lnA]
 |n+1=>by
  rw[lnA,dN,@JM s l w i x n];constructor
  ·rintro (⟨k,h1,h2⟩|h)
   ·exact⟨k,aa,h2⟩
   ·exact⟨n,aa,h⟩
  ·rintro⟨k,h1,h2⟩;by_cases e:k=n
   ·subst e;exact .inr h2
   ·exact .inl ⟨k,aa,h2⟩
theorem Kj{s:aB}{l:bg}{w:Nat}{x:aw}:∀{n:Nat},x∈lnI s l w n<->∃i,i<n/\x∈lnA s l w i ((l.getD w (0,[])).2.length+1)
 |0=>by simp[lnI]
 |n+1=>by
  rw[lnI,dN,@Kj s l w x n];constructor
  ·rintro (⟨k,h1,h2⟩|h)
   ·exact⟨k,aa,h2⟩
   ·exact⟨n,aa,h⟩
  ·rintro⟨k,h1,h2⟩;by_cases e:k=n
   ·subst e;exact .inr h2
   ·exact .inl ⟨k,aa,h2⟩
theorem Su{s:aB}{l:bg}{x:aw}:∀{n:Nat},x∈lnW s l n<->∃w,w<n/\x∈lnI s l w s.2.2.2.1.length
 |0=>by simp[lnW]
 |n+1=>by
  rw[lnW,dN,@Su s l x n];constructor
  ·rintro (⟨k,h1,h2⟩|h)
   ·exact⟨k,aa,h2⟩
   ·exact⟨n,aa,h⟩
  ·rintro⟨k,h1,h2⟩;by_cases e:k=n
   ·subst e;exact .inr h2
   ·exact .inl ⟨k,aa,h2⟩
theorem S8{l:bg}:x∈jy s l<->∃w i n:Nat,w<l.length/\i<s.2.2.2.1.length/\n<=(l.getD w (0,[])).2.length/\kO s (l.getD w (0,[])) (s.2.2.2.1.getD i (0,[])) n=true/\(gl (l.getD w (0,[])) (s.2.2.2.1.getD i (0,[])) (s.2.2.2.2.getD i (0,[])) n).length<=6/\x=[(w:Int),iv l (l.getD w (0,[])).1 (gl (l.getD w (0,[])) (s.2.2.2.1.getD i (0,[])) (s.2.2.2.2.getD i (0,[])) n)]:=by
 unfold jy;rw[Su];constructor
 ·rintro⟨w,hw,h⟩;obtain⟨i,hi,h⟩:=Kj.1 h;obtain⟨n,hn,h⟩:=JM.1 h;unfold tU at h;split at h
  ·rename_i hc;rw[cP]at h;exact⟨w,i,n,hw,hi,aa,hc.1,hc.2,h⟩
  ·cases h
 ·rintro⟨w,i,n,hw,hi,hn,h1,h2,rfl⟩;refine⟨w,hw,Kj.2 ⟨i,hi,JM.2 ⟨n,aa,?_⟩⟩⟩;unfold tU;rw[am ⟨h1,h2⟩];simp
structure AllP (s:aB) (L:bg):Prop where
 nd:L.Nodup
 le:L.length<=400
 ok:∀q∈L,(aV s q).2=true
 all:∀q,(aV s q).2=true->q∈L
theorem RH{x:Int}{es:aw}:∀{l:bg} {k:Int},(x,es)∈l->k<=nD x es l k/\nD x es l k<k+l.length/\l.getD (nD x es l k-k).toNat (0,[])=(x,es)
 |[],k,h=>by cases h
 |p::l,k,h=>by
  unfold nD;split
  ·rename_i hc;refine⟨cB _,by simp only[aH];omega,?_⟩;rw[show (k-k).toNat=0 from by omega];obtain⟨a,b⟩:=p;simp only at hc;rw[←hc.1,←hc.2];rfl
  ·rename_i hc;rcases cQ.1 h with e|h
   ·exact absurd ⟨by rw[←e],by rw[←e]⟩ hc
   ·obtain⟨h1,h2,h3⟩:=RH (l:=l) (k:=k+1) h;refine⟨aa,by simp only[aH];omega,?_⟩;rw[show (nD x es l (k+1)-k).toNat=(nD x es l (k+1)-(k+1)).toNat+1 from by omega];exact h3
theorem rh(A:AllP s L){x:Int}(h:(aV s (x,es)).2=true):0<=iv L x es/\iv L x es<L.length/\L.getD (iv L x es).toNat (0,[])=(x,es):=by have:=@RH x es L 0 (A.all _ h);unfold iv;rw[Int.sub_zero]at this;exact⟨this.1,aa,this.2.2⟩
theorem aey(A:AllP s L){i:Nat}(h:i<L.length):iv L (L.getD i (0,[])).1 (L.getD i (0,[])).2=i:=by have h1:=rh A (x:=(L.getD i (0,[])).1) (es:=(L.getD i (0,[])).2) (A.ok _ (gA h));have:=xC A.nd aa h h1.2.2;omega
theorem T6(hS:bE s=true)(A:AllP s L)(h:x∈jy s L):(((0<=x.getD 0 0/\x.getD 0 0<(L.length:Int))/\0<=x.getD 1 0/\x.getD 1 0<(L.length:Int))/\oM s L (x.getD 0 0) (x.getD 1 0))/\x.length=2:=by obtain⟨w,i,n,hw,hi,hn,h1,h2,rfl⟩:=S8.1 h;obtain⟨_,_,_,_,_,_,e8,re,heq⟩:=fH hS;have hp:=A.ok _ (gA hw);have E:=nf heq (i:=(i:Int)) aa aa aa;rw[bB]at E;obtain⟨o1,o2⟩:=xN hp E (i:=(n:Int)) aa aa h1 h2;obtain⟨a1,a2,a3⟩:=rh A o1;refine⟨⟨⟨⟨ak,by simp;omega⟩,a1,a2⟩,?_⟩,rfl⟩;unfold oM;simp only[wd,Cg,bB];rw[a3];have:=EqvP.link (s:=s) (L.getD w (0,[])) i n hp aa aa aa aa (by rw[bB];exact h1) (by rw[bB];exact h2);rw[bB]at this;exact this
def dp(s:aB)(L:bg):List Int:=cq (iM L.length (jy s L))
def nmS(c:aw)(L:bg)(x:Int)(es:aw):Int:=c.getD (iv L x es).toNat 0
theorem AK{s:aB}{L:bg}:(dp s L).length=L.length:=by unfold dp cq;rw[d5];unfold iM;rw[Ee (n:=(L.length:Int)) _ _ (by unfold cJ;rw[bG])];omega
theorem adx(hS:bE s=true)(A:AllP s L):FinP (oM s L) L.length (λi j=>∃p∈jy s L,i=p.getD 0 0/\j=p.getD 1 0) λz=>(iM L.length (jy s L)).getD z.toNat 0:=by have:=RG (s:=s) (L:=L) (n:=L.length) aa (jy s L) (λ_ _=>False) (cJ L.length) (by unfold cJ;rw[bG]) (λ_ _ h=>h.elim) (λp hp=>(T6 hS A hp).1) ⟨λi j i0 i1 j0 j1 e=>by unfold cJ at e;rw[iJ i0 aa,iJ j0 aa]at e;rw[e];exact .refl _,λ_ _ h=>h.elim⟩;exact⟨this.snd,λi j d=>this.don i j (.inr d)⟩
theorem K4(hS:bE s=true)(A:AllP s L)(hp:(aV s p).2=true)(hq:(aV s q).2=true):nmS (dp s L) L p.1 p.2=nmS (dp s L) L q.1 q.2<->EqvP s p q:=by
 have F:=adx hS A
 have hl:(iM L.length (jy s L)).length=L.length:=by
  have:=@AK s L;unfold dp cq at this
  rwa [d5]at this
 have key:∀p q:aO,(aV s p).2=true->(aV s q).2=true->(nmS (dp s L) L p.1 p.2=nmS (dp s L) L q.1 q.2<->(iM L.length (jy s L)).getD (iv L p.1 p.2).toNat 0=(iM L.length (jy s L)).getD (iv L q.1 q.2).toNat 0):=λp q hp hq=>by obtain⟨a1,a2,a3⟩:=rh A (x:=p.1) (es:=p.2) hp;obtain⟨b1,b2,b3⟩:=rh A (x:=q.1) (es:=q.2) hq;exact La aa aa
 constructor
 ·intro e;obtain⟨a1,a2,a3⟩:=rh A (x:=p.1) (es:=p.2) hp;obtain⟨b1,b2,b3⟩:=rh A (x:=q.1) (es:=q.2) hq;have:=F.snd _ _ a1 a2 b1 b2 ((key p q hp hq).1 e);unfold oM at this;rw[a3,b3]at this;exact this
 ·intro h
  have all:∀p q:aO,EqvP s p q->(aV s p).2=true->nmS (dp s L) L p.1 p.2=nmS (dp s L) L q.1 q.2:=λp q h=>by
   induction h with
   |link p e n hp e0 e1 n0 n1 hh h6=>
    intro _;obtain⟨_,_,_,_,_,_,e8,re,heq⟩:=fH hS;obtain⟨o1,o2⟩:=xN hp (nf heq e0 e1 aa) n0 n1 hh h6;rw[key _ _ hp o1];obtain⟨a1,a2,a3⟩:=rh A (x:=p.1) (es:=p.2) hp;refine F.don _ _ ⟨_,S8.2 ⟨(iv L p.1 p.2).toNat,e.toNat,n.toNat,aa,aa,?_,?_,?_,rfl⟩,?_,?_⟩
    ·rw[a3];show n.toNat<=p.2.length;omega
    ·rw[a3,jI n0];exact hh
    ·rw[a3,jI n0];exact h6
    ·simp only[wd];omega
    ·simp only[wd,Cg];rw[a3,jI n0]
   |refl p=>exactλ_=>rfl
   |symm h ih=>exactλhq=>(ih ((uX hS h).2.2 hq).1).symm
   |trans h1 h2 i1 i2=>exactλhp=>(i1 hp).trans (i2 ((uX hS h1).2.1 hp).1)
  exact all p q h hp
def cM(c:aw)(L:bg):Nat->List aO
 |0=>[]
 |n+1=>if c.getD n 0=((cM c L n).length:Int)then cM c L n++[L.getD n (0,[])]else cM c L n
theorem Ri{l:aw}{L:bg}:∀n:Nat,n<=l.length->(cM (cq l) L n).length=(cX (l.take n)).length
 |0,_=>rfl
 |n+1,hn=>by
  have ih:=@Ri l L n aa;have hs:=EU (l:=l) (i:=(n:Int)) aa aa;rw[show ((n:Int)+1).toNat=n+1 from by omega,bB]at hs;rw[cM,hs,AZ aa,ih];unfold fJ;by_cases h:cT (cX (l.take n)) (l.getD n 0)<0
  ·rw[am h]
   have hx:cT (cX (l.take (n+1))) (l.getD n 0)=(cX (l.take n)).length:=by
    rw[hs];unfold fJ;rw[am h];refine EA (z:=(0:Int)) aa (by rw[bj];simp only[aH,aM];omega) ?_ λk k0 k1 hk=>?_
    ·rw[bB,bN,jD (aZ _)];simp
    ·have hm:l.getD n 0∈cX (l.take n):=by rw[←hk,bN,g9 aa,←bN];exact D4 aa
     have:=((iE (0:Int)).1 hm).1;omega
   rw[AI (n:=n+1) aa,hx,am rfl];simp only[bj,aH,aM];omega
  ·rw[ai h,AI (n:=n) aa,ai,ih];have hm:l.getD n 0∈cX (l.take n):=wc λhh=>h (by have:=(iE (0:Int)).2 hh;omega);have:=((iE (0:Int)).1 hm).2.1;omega
theorem aed{n:Nat}(hn:n<l.length):0<=(cq l).getD n 0/\(cq l).getD n 0<=((cM (cq l) L n).length:Int):=by
 have hs:=EU (l:=l) (i:=(n:Int)) aa aa;rw[show ((n:Int)+1).toNat=n+1 from by omega,bB]at hs
 have hm:l.getD n 0∈cX (l.take (n+1)):=xP (l:=l.take (n+1)) (s:=[]) (.inr (by
  have:(l.take (n+1)).getD n 0=l.getD n 0:=by simp only[bN];rw[rU aa]
  rw[←this];exact D4 (by rw[ez];omega)))
 obtain⟨h0,h1,_⟩:=(iE (0:Int)).1 hm;rw[AZ hn,AI (n:=n+1) h0];refine⟨h0,?_⟩
 have:(cX (l.take (n+1))).length<=(cX (l.take n)).length+1:=by
  rw[hs];unfold fJ;split
  ·rw[bj];exact aZ _
  ·omega
 rw[Ri n aa];omega
structure LesP (c:aw) (L:bg) (n:Nat):Prop where
 lt:∀i:Nat,i<n->0<=c.getD i 0/\c.getD i 0<((cM c L n).length:Int)
 fi:∀k:Nat,k<(cM c L n).length->∃j:Nat,j<n/\c.getD j 0=k/\(cM c L n).getD k (0,[])=L.getD j (0,[])/\∀i:Nat,i<n->c.getD i 0=k->j<=i
theorem Ts{c:aw}{L:bg}(h:∀n:Nat,n<c.length->0<=c.getD n 0/\c.getD n 0<=((cM c L n).length:Int)):∀n:Nat,n<=c.length->LesP c L n
 |0,_=>⟨λi hi=>aa,λk hk=>by simp[cM]at hk⟩
 |n+1,hn=>by
  have ih:=Ts h n aa;obtain⟨h0,h1⟩:=h n aa;by_cases e:c.getD n 0=((cM c L n).length:Int)
  ·have es:cM c L (n+1)=cM c L n++[L.getD n (0,[])]:=by rw[cM,am e]
   refine⟨λi hi=>?_,λk hk=>?_⟩
   ·rw[es,bj];simp only[aH,aM];by_cases hin:i=n
    ·subst hin;omega
    ·have:=ih.lt i aa;omega
   ·rw[es]at hk⊢;rw[bj]at hk;simp only[aH,aM]at hk;by_cases hkn:k=(cM c L n).length
    ·subst hkn;refine⟨n,aa,e,RL (cM c L n),λi hi hc=>?_⟩;by_cases hin:i=n
     ·omega
     ·have:=ih.lt i aa;omega
    ·obtain⟨j,j1,j2,j3,j4⟩:=ih.fi k aa;refine⟨j,aa,j2,by rw[xD aa];exact j3,λi hi hc=>?_⟩;by_cases hin:i=n
     ·subst hin;omega
     ·exact j4 i aa hc
  ·have es:cM c L (n+1)=cM c L n:=by rw[cM,ai e]
   refine⟨λi hi=>?_,λk hk=>?_⟩
   ·rw[es];by_cases hin:i=n
    ·subst hin;omega
    ·exact ih.lt i aa
   ·rw[es]at hk⊢;obtain⟨j,j1,j2,j3,j4⟩:=ih.fi k hk;refine⟨j,aa,j2,j3,λi hi hc=>?_⟩;by_cases hin:i=n
    ·omega
    ·exact j4 i aa hc
theorem JR{c:aw}{L:bg}:∀n:Nat,n<=L.length->(cM c L n).Sublist (L.take n)
 |0,_=>List.nil_sublist _
 |n+1,hn=>by
  have ih:=@JR c L n aa;have ht:L.take (n+1)=L.take n++[L.getD n (0,[])]:=by have:=fY L (0,[]) (i:=(n:Int)) aa aa;rw[show ((n:Int)+1).toNat=n+1 from by omega,bB]at this;exact this
  rw[cM,ht];split
  ·exact ih.append (List.Sublist.refl _)
  ·exact ih.trans (List.sublist_append_left _ _)
structure LeaP (s:aB) (L:bg) (c:aw) (T:bg):Prop where
 rng:∀p,(aV s p).2=true->0<=nmS c L p.1 p.2/\nmS c L p.1 p.2<(T.length:Int)
 at_:∀p,(aV s p).2=true->EqvP s (T.getD (nmS c L p.1 p.2).toNat (0,[])) p
 nm:∀k:Nat,k<T.length->(aV s (T.getD k (0,[]))).2=true/\nmS c L (T.getD k (0,[])).1 (T.getD k (0,[])).2=k
 sub:T.Sublist L
 fst:∀k i:Nat,k<T.length->i<L.length->EqvP s (T.getD k (0,[])) (L.getD i (0,[]))->∃j,j<=i/\T.getD k (0,[])=L.getD j (0,[])
theorem EC(hS:bE s=true)(A:AllP s L):LeaP s L (dp s L) (cM (dp s L) L L.length):=by
 have hl:(iM L.length (jy s L)).length=L.length:=by
  have:=@AK s L;unfold dp cq at this
  rwa [d5]at this
 have P:LesP (dp s L) L L.length:=Ts (λn hn=>by rw[AK]at hn;exact aed aa) _ (Nat.le_of_eq AK.symm);have hnm:∀i:Nat,i<L.length->nmS (dp s L) L (L.getD i (0,[])).1 (L.getD i (0,[])).2=(dp s L).getD i 0:=λi hi=>by unfold nmS;rw[aey A hi,bB]
 have hrng:∀p,(aV s p).2=true->0<=nmS (dp s L) L p.1 p.2/\nmS (dp s L) L p.1 p.2<((cM (dp s L) L L.length).length:Int):=λp hp=>by have:=rh A (x:=p.1) (es:=p.2) hp;exact P.lt _ aa
 have hfi:∀k:Nat,k<(cM (dp s L) L L.length).length->(aV s ((cM (dp s L) L L.length).getD k (0,[]))).2=true/\nmS (dp s L) L ((cM (dp s L) L L.length).getD k (0,[])).1 ((cM (dp s L) L L.length).getD k (0,[])).2=k:=λk hk=>by obtain⟨j,j1,j2,j3,_⟩:=P.fi k hk;rw[j3];exact⟨A.ok _ (gA j1),by rw[hnm j j1];exact j2⟩
 refine⟨hrng,λp hp=>?_,hfi,by have:=@JR (dp s L) L L.length (aZ _);rwa [wh]at this,λk i hk hi he=>?_⟩
 ·obtain⟨r0,r1⟩:=hrng p hp;obtain⟨h1,h2⟩:=hfi (nmS (dp s L) L p.1 p.2).toNat aa;exact (K4 hS A h1 hp).1 (by rw[h2];omega)
 ·obtain⟨j,j1,j2,j3,j4⟩:=P.fi k hk;refine⟨j,j4 i hi ?_,j3⟩;have h1:=(hfi k hk);have:=(K4 hS A h1.1 (A.ok _ (gA hi))).2 he;rw[h1.2,hnm i hi]at this;omega
theorem Rf{c:aw}{L:bg}{p:aO}{n:Nat}(h:p∈cM c L n):∀d:Nat,p∈cM c L (n+d)
 |0=>h
 |d+1=>by
  have ih:=Rf h d;rw[show n+(d+1)=(n+d)+1 from rfl,cM];split
  ·exact jH _ ih
  ·exact ih
theorem ab0{c:aw}{L:bg}{n:Nat}(h:n<=L.length):(cM c L n).length<=n:=by have:=(@JR c L n h).length_le;rw[ez]at this;omega
structure FinJ (s:aB) (L:bg) (D:oQ) (j:aw):Prop where
 U:UfP j
 n:j.length=L.length
 rg:∀a b:Int,D a b->(0<=a/\a<L.length)/\0<=b/\b<L.length
 f:FinP (oM s L) L.length D (cE j)
theorem FinJ.mono{E:oQ}(F:FinJ s L D j)(h:∀a b,E a b->D a b):FinJ s L E j:=⟨F.U,F.n,λa b e=>F.rg a b (h a b e),⟨F.f.snd,λa b e=>F.f.don a b (h a b e)⟩⟩
theorem b_(F:FinJ s L D j){x y:Int}(x0:0<=x)(x1:x<L.length)(y0:0<=y)(y1:y<L.length)(hs:oM s L x y):FinJ s L (λa b=>D a b\/(a=x/\b=y)) (lC j x y).1:=by
 obtain⟨U,hl,hj⟩:=IQ F.U x0 (by rw[F.n];exact x1) y0 (by rw[F.n];exact y1);rw[F.n]at hj;refine⟨U,by rw[hl,F.n],λa b d=>?_,?_⟩
 ·rcases d with d|⟨rfl,rfl⟩
  ·exact F.rg a b d
  ·exact⟨⟨x0,x1⟩,y0,y1⟩
 ·rcases hj with hj|hj
  ·exact ZW (λ_ _ h=>h.symm) (λ_ _ _ h g=>h.trans g) F.f x0 x1 y0 y1 hs F.rg hj
  ·exact Jk (λ_ _ h=>h.symm) (λ_ _ _ h g=>h.trans g) F.f x0 x1 y0 y1 hs F.rg hj
def LG(s:aB)(L:bg)(k:cF)(w e n:Nat)(a b:Int):Prop:=kO s (L.getD w (0,[])) (s.2.2.2.1.getD e (0,[])) n=true/\(gl (L.getD w (0,[])) (s.2.2.2.1.getD e (0,[])) (s.2.2.2.2.getD e (0,[])) n).length<=6/\a=w/\b=da k (L.getD w (0,[])).1 (gl (L.getD w (0,[])) (s.2.2.2.1.getD e (0,[])) (s.2.2.2.2.getD e (0,[])) n)
theorem QD{s:aB}{L:bg}{k:cF}(P:SetP s L k){D:oQ}{j:aw}(F:FinJ s L D j){w:Nat}(w1:w<L.length){e:Nat}(e1:e<s.2.2.2.1.length) :
  ∀n:Nat,n<=(L.getD w (0,[])).2.length+1->FinJ s L (λa b=>D a b\/∃m,m<n/\LG s L k w e m a b) (gR s (L.getD w (0,[])) (s.2.2.2.1.getD e (0,[])) (s.2.2.2.2.getD e (0,[])) w k (L.getD w (0,[])) n j)
 |0,_=>F.mono λa b d=>by
  rcases d with d|⟨m,hm,_⟩
  ·exact d
  ·omega
 |n+1,hn=>by
  have ih:=QD P F w1 e1 n aa;simp only[gR];split
  ·rename_i hc;obtain⟨h1,h2,h3,h4,h5,h6,h7,h8,h9⟩:=fH P.S;have E:=nf h9 (i:=(e:Int)) aa aa aa;rw[bB]at E;have hp:=P.H.ok _ (gA w1);obtain⟨o1,o2⟩:=xN hp E (i:=(n:Int)) aa aa hc.1 hc.2;obtain⟨a1,a2,a3⟩:=P.at o1;refine (b_ ih (x:=(w:Int)) aa aa a1 a2 ?_).mono λa b d=>?_
   ·unfold oM;rw[a3,bB];have:=EqvP.link (s:=s) (L.getD w (0,[])) e n hp aa aa aa aa (by rw[bB];exact hc.1) (by rw[bB];exact hc.2);rw[bB]at this;exact this
   ·rcases d with d|⟨m,hm,d⟩
    ·exact .inl (.inl d)
    ·by_cases he:m=n
     ·subst he;exact .inr ⟨d.2.2.1,d.2.2.2⟩
     ·exact .inl (.inr ⟨m,aa,d⟩)
  ·rename_i hc;refine ih.mono λa b d=>?_;rcases d with d|⟨m,hm,d⟩
   ·exact .inl d
   ·by_cases he:m=n
    ·subst he;exact absurd ⟨d.1,d.2.1⟩ hc
    ·exact .inr ⟨m,aa,d⟩
theorem TF{s:aB}{L:bg}{k:cF}(P:SetP s L k){D:oQ}{j:aw}(F:FinJ s L D j){w:Nat}(w1:w<L.length) :
  ∀e:Nat,e<=s.2.2.2.1.length->FinJ s L (λa b=>D a b\/∃i m,i<e/\m<(L.getD w (0,[])).2.length+1/\LG s L k w i m a b) (jE s k (L.getD w (0,[])) w e j)
 |0,_=>F.mono λa b d=>by
  rcases d with d|⟨i,m,hm,_⟩
  ·exact d
  ·omega
 |e+1,he=>by
  have ih:=QD P (TF P F w1 e aa) w1 (e:=e) aa _ (aZ _);refine ih.mono λa b d=>?_;rcases d with d|⟨i,m,hi,hm,d⟩
  ·exact .inl (.inl d)
  ·by_cases h:i=e
   ·subst h;exact .inr ⟨m,hm,d⟩
   ·exact .inl (.inr ⟨i,m,aa,hm,d⟩)
theorem SX{s:aB}{L:bg}{k:cF}(P:SetP s L k) :
  ∀w:Nat,w<=L.length->FinJ s L (λa b=>∃v i m,v<w/\i<s.2.2.2.1.length/\m<(L.getD v (0,[])).2.length+1/\LG s L k v i m a b) (jW s k L w)
 |0,_=>by
  have Q:=Ul s L;have hg:∀x:Int,0<=x->x<L.length->(cJ L.length).getD x.toNat 0=x:=λx x0 x1=>by unfold cJ;rw[iJ x0 aa]
  refine⟨Q.U,Q.n,λa b ⟨v,i,m,hv,_⟩=>aa,⟨λi j i0 i1 j0 j1 h=>?_,λa b ⟨v,i,m,hv,_⟩=>aa⟩⟩;have h:cE (cJ L.length) i=cE (cJ L.length) j:=h;have hl:=Q.n;rw[pp Q.U i0 aa (hg i i0 i1),pp Q.U j0 aa (hg j j0 j1)]at h;rw[h];exact .refl _
 |w+1,hw=>by
  have ih:=TF P (SX P w aa) (w:=w) aa _ (aZ _);refine ih.mono λa b d=>?_;obtain⟨v,i,m,hv,hi,hm,d⟩:=d;by_cases h:v=w
  ·subst h;exact .inr ⟨i,m,hi,hm,d⟩
  ·exact .inl ⟨v,i,m,aa,hi,hm,d⟩
theorem QG(P:SetP s L (cI L L.length,([],[]))){j:Int}(i0:0<=i)(i1:i<L.length)(j0:0<=j)(j1:j<L.length):(fb s L).getD i.toNat 0=(fb s L).getD j.toNat 0<->EqvP s (L.getD i.toNat (0,[])) (L.getD j.toNat (0,[])):=by
 have F:=SX P L.length (aZ _);unfold fb;generalize hJ:jW s (cI L L.length,([],[])) L L.length=J at *;have hJl:=F.n;have hl:(dn J).length=L.length:=by unfold dn;rw[bG];omega
 have key:∀i j:Int,0<=i->i<L.length->0<=j->j<L.length->((cq (dn J)).getD i.toNat 0=(cq (dn J)).getD j.toNat 0<->cE J i=cE J j):=λi j i0 i1 j0 j1=>by rw[La aa aa,Eu i0 aa,Eu j0 aa]
 rw[key i j i0 i1 j0 j1];constructor
 ·exact F.f.snd i j i0 i1 j0 j1
 ·intro h;have at_:∀p:aO,(aV s p).2=true->0<=da (cI L L.length,([],[])) p.1 p.2/\da (cI L L.length,([],[])) p.1 p.2<L.length/\L.getD (da (cI L L.length,([],[])) p.1 p.2).toNat (0,[])=p:=λp hp=>P.at hp
  have all:∀p q:aO,EqvP s p q->(aV s p).2=true->cE J (da (cI L L.length,([],[])) p.1 p.2)=cE J (da (cI L L.length,([],[])) q.1 q.2):=λp q h=>by
   induction h with
   |link p e n hp e0 e1 n0 n1 hh h6=>
    intro _;obtain⟨a1,a2,a3⟩:=at_ p hp;refine F.f.don _ _ ⟨(da (cI L L.length,([],[])) p.1 p.2).toNat,e.toNat,n.toNat,aa,aa,?_,?_,?_,?_,?_⟩
    ·rw[a3];omega
    ·rw[a3,jI n0];exact hh
    ·rw[a3,jI n0];exact h6
    ·omega
    ·rw[a3,jI n0]
   |refl p=>exactλ_=>rfl
   |symm h ih=>exactλhq=>(ih ((uX P.S h).2.2 hq).1).symm
   |trans h1 h2 i1 i2=>exactλhp=>(i1 hp).trans (i2 ((uX P.S h1).2.1 hp).1)
  have hix:∀i:Int,0<=i->i<L.length->da (cI L L.length,([],[])) (L.getD i.toNat (0,[])).1 (L.getD i.toNat (0,[])).2=i:=λi i0 i1=>by obtain⟨a1,a2,a3⟩:=at_ _ (P.H.ok _ (gA (l:=L) (i:=i.toNat) aa));have:=xC P.H.nd aa aa a3;omega
  have:=all _ _ h (P.H.ok _ (gA (l:=L) (i:=i.toNat) aa))
  rwa [hix i i0 i1,hix j j0 j1]at this
def PLt(s:aB)(p q:aO):Prop:=p.1<q.1\/(p.1=q.1/\(dF s p<dF s q\/(dF s p=dF s q/\(p.2.length<q.2.length\/(p.2.length=q.2.length/\dU p.2 q.2<0)))))
theorem T3(p:aO):¬PLt s p p:=by unfold PLt;rw[xF.2 rfl];omega
theorem U2(h:PLt s p q)(g:PLt s q r):PLt s p r:=by unfold PLt at h g⊢;have:=DW p.2 q.2 r.2;omega
theorem KG(h:¬PLt s p q)(g:¬PLt s q p):p=q:=by unfold PLt at h g;have h1:=Jz p.2 q.2;exact Prod.ext aa (xF.1 aa)
theorem aeo(h:¬PLt s p q)(g:¬PLt s q r):¬PLt s p r:=λhh=>by
 by_cases e:PLt s q p
 ·exact g (U2 e hh)
 ·rw[←KG h e]at g;exact g hh
theorem PF:∀a b:List Int,mh a b=true<->dU a b<0
 |[],[]|[],_::_|_::_,[]=>by simp[mh,dU]
 |x::a,y::b=>by
  have ih:=PF a b;simp only[mh,dU];by_cases h:x=y
  ·simp[h,ih]
  ·by_cases h2:x<y
   ·simp[h,h2]
   ·simp[h,h2]
theorem Ra:jX s p q=true<->PLt s p q:=by
 unfold jX PLt;rw[PF];simp only[dU];by_cases h1:p.1=q.1
 ·rw[am h1];by_cases h2:dF s p=dF s q
  ·rw[am h2];by_cases h3:(p.2.length:Int)=q.2.length
   ·rw[am h3];omega
   ·rw[ai h3];split<;>omega
  ·rw[ai h2];split<;>omega
 ·rw[ai h1];split<;>omega
theorem P7{lt:jh}{x:aO}:∀l:List aO,(ir lt x l).Perm (x::l)
 |[]=>.refl _
 |y::r=>by
  unfold ir;split
  ·exact ((P7 r).cons y).trans (.swap _ _ _)
  ·exact .refl _
theorem Pu{lt:jh}:∀l a:List aO,(l.foldl (λa x=>ir lt x a) a).Perm (a++l)
 |[],a=>by rw[lS];exact .refl _
 |x::l,a=>by rw[jF];refine (Pu l _).trans ?_;have h1:=(P7 (lt:=lt) (x:=x) a).append_right l;exact h1.trans List.perm_middle.symm
theorem ZH{lt:jh}(l:bg):(lB lt l).Perm l:=by unfold lB lL;exact (List.reverse_perm _).trans (by have:=Pu (lt:=lt) l [];simpa using this)
theorem QA{s:aB}{x:aO}:∀l:List aO,l.Pairwise (λa b=>¬PLt s a b)->(ir (jX s) x l).Pairwise (λa b=>¬PLt s a b)
 |[],_=>Gp _ _
 |y::r,h=>by
  obtain⟨h1,h2⟩:=zb.1 h;unfold ir;split
  ·rename_i hc;have hc:=Ra.1 hc;refine zb.2 ⟨λz hz=>?_,QA r h2⟩;rcases JT r hz with rfl|hz
   ·exactλhh=>T3 _ (U2 hc hh)
   ·exact h1 z hz
  ·rename_i hc;have hc:¬PLt s x y:=λhh=>hc (Ra.2 hh);refine zb.2 ⟨λz hz=>?_,h⟩;rcases cQ.1 hz with rfl|hz
   ·exact hc
   ·exact aeo hc (h1 z hz)
theorem OZ{s:aB}:∀l a:List aO,a.Pairwise (λa b=>¬PLt s a b)->(l.foldl (λa x=>ir (jX s) x a) a).Pairwise (λa b=>¬PLt s a b)
 |[],a,h=>h
 |x::l,a,h=>by rw[jF];exact OZ l _ (QA a h)
theorem Zx(l:bg):(lB (jX s) l).Pairwise (λa b=>¬PLt s b a):=by unfold lB lL;rw[List.pairwise_reverse];exact OZ l [] List.Pairwise.nil
theorem OL{s:aB}:∀{a b:bg},a.Nodup->b.Nodup->a.Pairwise (λp q=>¬PLt s q p)->b.Pairwise (λp q=>¬PLt s q p)->(∀p,p∈a<->p∈b)->a=b
 |[],[],_,_,_,_,_=>rfl
 |[],q::b,_,_,_,_,h=>by have:=(h q).2 ak;cases this
 |p::a,[],_,_,_,_,h=>by have:=(h p).1 ak;cases this
 |p::a,q::b,na,nb,sa,sb,h=>by
  obtain⟨na1,na2⟩:=List.nodup_cons.1 na;obtain⟨nb1,nb2⟩:=List.nodup_cons.1 nb;obtain⟨sa1,sa2⟩:=zb.1 sa;obtain⟨sb1,sb2⟩:=zb.1 sb
  have e:p=q:=by
   rcases cQ.1 ((h p).1 ak)with e|hp
   ·exact e
   ·rcases cQ.1 ((h q).2 ak)with e|hq
    ·exact e.symm
    ·exact KG (sb1 p hp) (sa1 q hq)
  subst e;rw[OL na2 nb2 sa2 sb2 λr=>⟨λhr=>?_,λhr=>?_⟩]
  ·rcases cQ.1 ((h r).1 (oV _ hr))with e|hr'
   ·subst e;exact absurd hr na1
   ·exact hr'
  ·rcases cQ.1 ((h r).2 (oV _ hr))with e|hr'
   ·subst e;exact absurd hr nb1
   ·exact hr'
def vm(s:aB)(p:aO):Prop:=(aV s p).2=true/\∀q,EqvP s p q->¬PLt s q p
theorem OF(h:vm s p)(g:vm s q)(e:EqvP s p q):p=q:=KG (λhh=>g.2 p e.symm hh) λhh=>h.2 q e hh
theorem adw(hS:bE s=true){T:bg}(A:AllP s L)(hs:L.Pairwise λa b=>¬PLt s b a)(P:LeaP s L c T):p∈T<->vm s p:=by
 have one:∀p∈T,vm s p:=λp hp=>by
  obtain⟨k,hk,rfl⟩:=kC hp;refine⟨(P.nm k hk).1,λq hq hlt=>?_⟩;obtain⟨i,hi,rfl⟩:=kC (A.all q ((uX hS hq).2.1 (P.nm k hk).1).1);obtain⟨j,hj,e⟩:=P.fst k i hk hi hq;rw[e]at hlt;by_cases h:j=i
  ·subst h;exact T3 _ hlt
  ·have:=(Gl.1 hs) j i aa hi aa;simp only[bN,bX hi,bX (show j<L.length by omega),dY]at hlt;exact this hlt
 refine⟨one p,λh=>?_⟩;obtain⟨r0,r1⟩:=P.rng p h.1;have hm:=gA (l:=T) (i:=(nmS c L p.1 p.2).toNat) aa;rw[OF h (one _ hm) (P.at_ p h.1).symm];exact hm
theorem ac1(h:iY p q<0)(g:iY q r<0):iY p r<0:=by have:=DW p.2 q.2 r.2;unfold iY at h g⊢;split at h<;>split at g<;>split<;>omega
theorem aar:¬iY p p<0:=by unfold iY;rw[ai aa,xF.2 rfl];omega
theorem RC{c:aw}{L:bg}{s:aB}(C:ClaP s L c):∀m:Nat,m<=L.length->∀a:Nat,L.length-m<=a->a<L.length->¬iY (L.getD a (0,[])) (((lsD c L m).getD (c.getD a 0).toNat (0,none)).1,((lsD c L m).getD (c.getD a 0).toNat (0,none)).2.getD [])<0
 |0,_,a,h1,h2=>aa
 |m+1,hm,a,h1,h2=>by
  have ih:=RC C m aa;have hsm:=DF C m aa;have hln:=(v7 C m aa).n;simp only[lsD];generalize hi:L.length-1-m=i;have hci:=C.r (i:Int) aa aa;rw[bB]at hci;have hca:=C.r (a:Int) aa aa;rw[bB]at hca;unfold lsS;split
  ·rename_i hb;rw[ly _ _ _ _ _ (by rw[hln];omega)];split
   ·rename_i he;by_cases hai:a=i
    ·rw[hai];exact aar
    ·have h3:=ih a aa h2;have h4:=hsm a aa h2;rw[←he]at h3 h4;rw[fR,cj]at hb;rcases hb with hb|hb
     ·rw[Option.isNone_iff_eq_none]at hb;rw[hb]at h4;cases h4
     ·exactλhh=>h3 (ac1 hh hb)
   ·rename_i hne;exact ih a (by have:a≠i:=λe=>hne (by rw[e]);omega) h2
  ·rename_i hb;by_cases hai:a=i
   ·subst hai;intro hh;exact hb (by rw[fR,cj];exact .inr hh)
   ·exact ih a aa h2
theorem aef(h1:p.1=q.1)(h2:dF s p=dF s q):PLt s p q<->iY p q<0:=by unfold PLt iY;split<;>omega
structure LsaP (s:aB) (L:bg):Prop where
 n:((fp (lsA s L)).length:Int)=eA (fb s L)
 mem:∀k:Nat,k<(fp (lsA s L)).length->∃a:Nat,a<L.length/\(fb s L).getD a 0=k/\(fp (lsA s L)).getD k (0,[])=L.getD a (0,[])
 rng:∀a:Nat,a<L.length->0<=(fb s L).getD a 0/\(fb s L).getD a 0<((fp (lsA s L)).length:Int)
 min:∀a:Nat,a<L.length->¬iY (L.getD a (0,[])) ((fp (lsA s L)).getD ((fb s L).getD a 0).toNat (0,[]))<0
theorem SQ(hS:bE s=true)(H:ShrtP s L):LsaP s L:=by
 have P:SetP s L (cI L L.length,([],[])):=⟨hS,H,rfl⟩;have Q:=Bi P L.length (aZ _);have C:ClaP s L (fb s L):=EB Q;have D:=v7 C L.length (aZ _);have hln:(lsA s L).length=(eA (fb s L)).toNat:=D.n;have htl:(fp (lsA s L)).length=(lsA s L).length:=by unfold fp;rw[d5]
 have hle:=C.le;refine⟨aa,λk k1=>?_,λa ha=>?_,λa ha=>?_⟩
 ·have hr:(dn (jW s (cI L L.length,([],[])) L L.length)).length=L.length:=by unfold dn;rw[bG,Q.n]
  obtain⟨i,i1,hi⟩:=PC (l:=dn (jW s (cI L L.length,([],[])) L L.length)) (k:=(k:Int)) aa (by have:eA (fb s L)=eA (cq (dn (jW s (cI L L.length,([],[])) L L.length))):=rfl;omega);have hsm:=DF C L.length (aZ _) i aa aa;have hi':(fb s L).getD i 0=k:=hi;rw[hi',bB]at hsm;rw[DU];have hv:=D.v k;have hD:lsA s L=lsD (fb s L) L L.length:=rfl;rw[hD];generalize (lsD (fb s L) L L.length).getD k (0,none)=q at hsm hv⊢;obtain⟨x,o⟩:=q
  cases o with
  |none=>cases hsm
  |some es=>obtain⟨a,_,a0,a1,a2,a3⟩:=hv x es rfl;exact⟨a.toNat,aa,aa,a3.symm⟩
 ·have:=C.r (a:Int) aa aa;rw[bB]at this;omega
 ·rw[DU];exact RC C L.length (aZ _) a aa ha
theorem E0(hS:bE s=true)(H:ShrtP s L):p∈fp (lsA s L)<->vm s p:=by
 have P:SetP s L (cI L L.length,([],[])):=⟨hS,H,rfl⟩;have A:=SQ hS H;have ce:∀i j:Nat,i<L.length->j<L.length->((fb s L).getD i 0=(fb s L).getD j 0<->EqvP s (L.getD i (0,[])) (L.getD j (0,[]))):=λi j hi hj=>by have:=QG P (i:=(i:Int)) (j:=(j:Int)) aa aa aa aa;simpa only [bB]using this
 have one:∀p∈fp (lsA s L),vm s p:=λp hp=>by obtain⟨k,hk,rfl⟩:=kC hp;obtain⟨a,a1,a2,a3⟩:=A.mem k hk;have hv:=H.ok _ (gA a1);rw[a3];refine⟨hv,λq hq hlt=>?_⟩;have hsame:=uX hS hq;have hqv:=hsame.2.1 hv;obtain⟨b,b1,rfl⟩:=kC (H.all q hqv.1);have e:=(ce a b a1 b1).2 hq;have:=A.min b b1;rw[←e,a2,bB,a3]at this;exact this ((aef hsame.1.symm (by rw[(gX hqv.1).1,(gX hv).1];exact hqv.2.symm)).1 hlt)
 refine⟨one p,λh=>?_⟩;obtain⟨a,a1,rfl⟩:=kC (H.all p h.1);obtain⟨r0,r1⟩:=A.rng a a1;have hm:=gA (l:=fp (lsA s L)) (i:=((fb s L).getD a 0).toNat) aa;obtain⟨b,b1,b2,b3⟩:=A.mem ((fb s L).getD a 0).toNat aa;have e:=(ce b a b1 a1).1 aa;rw[←b3]at e;rw[OF h (one _ hm) e.symm];exact hm
theorem B'(hS:bE s=true)(H:ShrtP s L){i j:Nat}(hi:i<(fp (lsA s L)).length)(hj:j<(fp (lsA s L)).length)(e:(fp (lsA s L)).getD i (0,[])=(fp (lsA s L)).getD j (0,[])):i=j:=by have A:=SQ hS H;obtain⟨a,a1,a2,a3⟩:=A.mem i hi;obtain⟨b,b1,b2,b3⟩:=A.mem j hj;have:a=b:=xC H.nd a1 b1 (by rw[←a3,←b3];exact e);subst this;omega
theorem SV(hS:bE s=true)(hg:(bI s).2=true):(bc s (pcR s)).Nodup/\(bc s (pcR s)).Pairwise (λp q=>¬PLt s q p)/\∀p,p∈bc s (pcR s)<->vm s p:=by
 obtain⟨s0,s8,_⟩:=fH hS;have H:=vh s0 aa hg;have F:=xV s (pcR s);have hM:(pcR s).2.2=fp (lsA s (bI s).1):=rfl;have hp:=YX (pcR s) s (cJ (pcR s).2.2.length);have hv:∀c:Int,0<=c->c<(pcR s).2.2.length->(aV s ((pcR s).2.2.getD c.toNat (0,[]))).2=true:=λc c0 c1=>by have:=(E0 hS H).1 (gA (l:=fp (lsA s (bI s).1)) (i:=c.toNat) (by rw[←hM];omega));exact this.1
 have hr:∀c∈cY s (pcR s),0<=c/\c<(pcR s).2.2.length:=λc hc=>by
  obtain⟨i,hi,rfl⟩:=J1 hc;have:=F.r (i:Int) aa aa
  rwa [bB]at this
 refine⟨?_,?_,λp=>?_⟩
 ·unfold bc;unfold List.Nodup;rw[Cf];refine List.Pairwise.imp_of_mem (λ{a b} ha hb hab e=>?_) F.nd;have h1:=hr a ha;have h2:=hr b hb;have:=B' hS H (i:=a.toNat) (j:=b.toNat) (by rw[←hM];omega) (by rw[←hM];omega) e;omega
 ·unfold bc;rw[Cf];refine List.Pairwise.imp_of_mem (λ{a b} ha hb hab hlt=>hab ?_) hp;have h1:=hr a ha;have h2:=hr b hb;rw[FA];unfold y3;unfold PLt at hlt;rw[(gX (hv a h1.1 h1.2)).1,(gX (hv b h2.1 h2.2)).1]at hlt;exact hlt
 ·rw[←E0 hS H];unfold bc;rw[jJ];constructor
  ·rintro⟨c,hc,rfl⟩;have:=hr c hc;exact gA (by rw[←hM];omega)
  ·intro h;obtain⟨k,hk,rfl⟩:=kC h;exact⟨k,F.su k aa (by rw[hM];omega),by rw[bB];rfl⟩
def nE(c:aw)(L T:bg):Int->List Int->Int
 |h,[]=>h
 |h,e::r=>nE c L T (nmS c L (T.getD h.toNat (0,[])).1 ((T.getD h.toNat (0,[])).2++[e])) r
def vJ(s:aB)(c:aw)(L T:bg)(f g:Int):Int:=if (T.getD g.toNat (0,[])).1=dF s (T.getD f.toNat (0,[]))then nE c L T f (T.getD g.toNat (0,[])).2 else -1
def nF(c:aw)(L:bg)(n:Nat):List Int:=be n λx=>nmS c L x []
def oE(s:aB)(c:aw)(L:bg)(n:Nat):List Int:=be n λk=>nmS c L (s.2.1.getD k.toNat 0) [k]
def m7(s:aB)(l:bg):List Int:=l.map (dF s)
def vO(s:aB)(c:aw)(L T:bg)(f:Int)(n:Nat):List Int:=be n λg=>vJ s c L T f g
def pH(s:aB)(c:aw)(L T:bg)(n:Nat):List (List Int):=be n λf=>vO s c L T f T.length
def Fz(s:aB)(c:aw)(L T:bg):aF:=(s.1,(eB T,(m7 s T,(nF c L s.1.toNat,pH s c L T T.length))))
theorem adf{lt:jh}(H:ShrtP s L):AllP s (lB lt L):=
 have hp:=ZH (lt:=lt) L
 ⟨hp.nodup_iff.2 H.nd,by rw[hp.length_eq];exact H.le,λq hq=>H.ok q (hp.mem_iff.1 hq),λq hq=>hp.mem_iff.2 (H.all q hq)⟩
theorem DY(hS:bE s=true)(hg:(bI s).2=true)(hL:L=lB (jX s) (bI s).1):AllP s L/\cM (dp s L) L L.length=bc s (pcR s):=by obtain⟨s0,s8,_⟩:=fH hS;have H:=vh s0 aa hg;subst hL;have A:=adf (lt:=jX s) H;have P:=EC hS A;have hs:=Zx (s:=s) (bI s).1;obtain⟨a1,a2,a3⟩:=SV hS hg;exact⟨A,OL (s:=s) (P.sub.nodup A.nd) a1 (List.Pairwise.sublist P.sub hs) a2 λp=>(adw hS A hs P).trans (a3 p).symm⟩
theorem SL(hS:bE s=true)(hg:(bI s).2=true):io s=(bc s (pcR s)).all λp=>p.2.length != 6:=by
 obtain⟨s0,s8,_⟩:=fH hS;have H:=vh s0 aa hg;obtain⟨a1,a2,a3⟩:=SV hS hg;unfold io;rw[hg,ji];rw[Bool.eq_iff_iff,eU]
 have ht:Bu (lsA s (bI s).1)=true<->∀p∈fp (lsA s (bI s).1),(p.2.length != 6)=true:=by
  unfold Bu fp;rw[eU];constructor
  ·intro h p hp;obtain⟨q,hq,rfl⟩:=jJ.1 hp;exact h q hq
  ·intro h q hq;exact h _ (jJ.2 ⟨q,hq,rfl⟩)
 rw[ht];exact⟨λh p hp=>h p ((E0 hS H).2 ((a3 p).1 hp)),λh p hp=>h p ((a3 p).2 ((E0 hS H).1 hp))⟩
theorem E5(hS:bE s=true)(hp:io s=true)(hL:L=lB (jX s) (bI s).1)(hv:(aV s p).2=true):lM s (pcR s) p.1 p.2=nmS (dp s L) L p.1 p.2:=by
 obtain⟨s0,s8,_⟩:=fH hS;have hg:(bI s).2=true:=by unfold io at hp;rw[ao]at hp;exact hp.1
 have H:=vh s0 aa hg;have K:=p8 hS hp;obtain⟨A,hT⟩:=DY hS hg hL;have P:=EC hS A;rw[hT]at P;obtain⟨n0,n1,n2,_⟩:=KN K hv;obtain⟨r0,r1⟩:=P.rng p hv;have hq:=P.at_ p hv;obtain⟨O,_⟩:=rq K hv;have hm:EqvP s ((bc s (pcR s)).getD (lM s (pcR s) p.1 p.2).toNat (0,[])) p:=by rw[n2];obtain⟨a,a0,a1,a2,a3⟩:=K.mem _ O.o0 O.o1;obtain⟨b0,b1,b2⟩:=K.set.at hv;rw[a3];have SP:SetP s (bI s).1 (cI (bI s).1 (bI s).1.length,([],[])):=⟨hS,H,rfl⟩;have:=(QG SP a0 a1 b0 b1).1 (by exact a2);rw[b2]at this;exact this
 have hk:=P.nm (lM s (pcR s) p.1 p.2).toNat aa;have:=(K4 hS A hk.1 hv).2 hm;rw[hk.2]at this;omega
theorem SG{s:aB}(hS:bE s=true)(hp:io s=true){L:bg}(hL:L=lB (jX s) (bI s).1){T:bg}(hT:bc s (pcR s)=T){c:aw}(hc:dp s L=c)(es:aw):∀(h n:Int),0<=h->h<T.length->(aV s (T.getD h.toNat (0,[]))).1=n->(ca s n es).2=true->
  (0<=nE c L T h es/\nE c L T h es<T.length)/\es.foldl (Br (pcR s)) (T.getD h.toNat (0,[]))=T.getD (nE c L T h es).toNat (0,[]):=by
 induction es with
 |nil=>intro h n h0 h1 _ _;simp only[nE,List.foldl_nil];exact⟨⟨h0,h1⟩,trivial⟩
 |cons e r ih=>
  intro h n h0 h1 hn hf;have K:=p8 hS hp;have hat:=@pw s _ _ K h h0 (by rw[hT];exact h1);rw[hT]at hat;obtain⟨v1,v2⟩:=hat;simp only[ca]at hf;split at hf
  ·rename_i hc2;obtain⟨e0,e1⟩:=iD.1 hc2.1;have hv:=J2 v1 aa e0 aa (hc2.2.trans hn.symm);have hno:=KN K hv;have hx:=E5 hS hp hL hv;rw[hT]at hno;rw[hc]at hx;obtain⟨n0,n1,n2,n3⟩:=hno;dsimp only at n0 n1 n2 n3 hx;have hl:=(gX hv).1;have hne:dF s ((T.getD h.toNat (0,[])).1,(T.getD h.toNat (0,[])).2++[e])=s.2.2.1.getD e.toNat 0:=by unfold dF;rw[ai ak];simp
   have ih:=ih (lM s (pcR s) (T.getD h.toNat (0,[])).1 ((T.getD h.toNat (0,[])).2++[e])) (s.2.2.1.getD e.toNat 0) n0 n1 (by rw[n3.2,←hl,hne]) hf;rw[nE,←hx,jF];refine⟨ih.1,?_⟩;rw[←ih.2];unfold Br;rw[n2]
  ·cases hf
theorem aei(hS:bE s=true)(hp:io s=true)(hL:L=lB (jX s) (bI s).1){g:Int}(f0:0<=f)(f1:f<(bc s (pcR s)).length)(g0:0<=g)(g1:g<(bc s (pcR s)).length):vr (rK s (pcR s)) (j7 (pcR s) (fD (cY s (pcR s))) (bc s (pcR s))) f g=vJ s (dp s L) L (bc s (pcR s)) f g:=by
 have K:=p8 hS hp;have hg:(bI s).2=true:=by unfold io at hp;rw[ao]at hp;exact hp.1
 obtain⟨A,hT⟩:=DY hS hg hL;have P:=EC hS A;rw[hT]at P;obtain⟨v1,v2⟩:=pw K f0 f1;obtain⟨w1,w2⟩:=pw K g0 g1;unfold vr vJ;have e1:(rK s (pcR s)).2.2.1.getD f.toNat 0=dF s ((bc s (pcR s)).getD f.toNat (0,[])):=by show (toA s (bc s (pcR s))).getD f.toNat 0=_;rw[K5 aa,(gX v1).1]
 have e2:(rK s (pcR s)).2.1.getD g.toNat 0=((bc s (pcR s)).getD g.toNat (0,[])).1:=by show (eB (bc s (pcR s))).getD g.toNat 0=_;rw[Kx aa]
 rw[e1,e2];by_cases h:dF s ((bc s (pcR s)).getD f.toNat (0,[]))=((bc s (pcR s)).getD g.toNat (0,[])).1
 ·rw[am h,am h.symm];obtain⟨_,_,q3⟩:=iU w1;have hf:=w1;rw[q3]at hf;have R:=SG hS hp hL rfl rfl ((bc s (pcR s)).getD g.toNat (0,[])).2 f _ f0 f1 rfl (by rw[←(gX v1).1,h];exact hf);unfold j7 iQ;rw[R.2];have k:=P.nm (nE (dp s L) L (bc s (pcR s)) f ((bc s (pcR s)).getD g.toNat (0,[])).2).toNat aa;have:=E5 hS hp hL k.1;rw[k.2]at this;unfold lM at this;rw[this];omega
 ·rw[ai h,ai (λhh=>h hh.symm)]
theorem Tx(hS:bE s=true)(hp:io s=true)(hL:L=lB (jX s) (bI s).1):Fz s (dp s L) L (bc s (pcR s))=eC s (pcR s)/\oE s (dp s L) L s.2.1.length=dH s (pcR s) s.2.1.length:=by
 have K:=p8 hS hp;have hv:∀x:Int,0<=x->x<s.1.toNat->(aV s (x,[])).2=true:=λx x0 x1=>by rw[xJ (p:=(x,[])) (iD.2 ⟨x0,ae⟩) ak];rfl
 refine⟨?_,?_⟩
 ·unfold Fz eC;have h1:m7 s (bc s (pcR s))=toA s (bc s (pcR s)):=by unfold m7 toA;refine List.map_congr_left λp hp=>?_;obtain⟨i,hi,rfl⟩:=kC hp;have:=(pw K (i:=(i:Int)) aa aa).1;rw[bB]at this;exact (gX this).1
  have h2:nF (dp s L) L s.1.toNat=lK s (pcR s) s.1.toNat:=by unfold nF lK;exact dJ λx x0 x1=>(E5 hS hp hL (hv x x0 x1)).symm
  have h3:pH s (dp s L) L (bc s (pcR s)) (bc s (pcR s)).length=pz (rK s (pcR s)) (j7 (pcR s) (fD (cY s (pcR s))) (bc s (pcR s))):=by
   unfold pH pz;have hl:(rK s (pcR s)).2.1.length=(bc s (pcR s)).length:=by show (eB _).length=_;unfold eB;rw[d5]
   rw[hl];refine dJ λf f0 f1=>?_;unfold vO;exact dJ λg g0 g1=>(aei hS hp hL f0 f1 g0 g1).symm
  rw[h1,h2,h3]
 ·unfold oE dH;exact dJ λe e0 e1=>(E5 hS hp hL (A0 hS e0 e1).1).symm
def F8(s:aB)(L:bg):uK×Bool:=if ((cM (dp s L) L L.length).all λp=>p.2.length != 6)=true then (if 40<(cM (dp s L) L L.length).length then ((T.dflt cS,([],[])),false)else if jZ (s,(Fz s (dp s L) L (cM (dp s L) L L.length),(oE s (dp s L) L s.2.1.length,cM (dp s L) L L.length)))=true then ((Fz s (dp s L) L (cM (dp s L) L L.length),(cM (dp s L) L L.length,oE s (dp s L) L s.2.1.length)),true)else ((T.dflt cS,([],[])),false))else ((T.dflt cS,([],[])),false)
def gG(s:aB):uK×Bool:=if (me s).2=true then F8 s (me s).1 else ((T.dflt cS,([],[])),false)
theorem RN{s:aB}:(me s).2=(bI s).2/\((bI s).2=true->(me s).1=lB (jX s) (bI s).1):=by
 unfold me;have e:dC s 402 0 (dE s.1)=bI s:=rfl;rw[e]
 cases h:(bI s).2 with
 |true=>rw[am rfl];exact⟨rfl,λ_=>rfl⟩
 |false=>rw[ai bz];exact⟨rfl,λh=>by cases h⟩
theorem Tq(hS:bE s=true):gG s=if fC s=true then (((cr s).2.1,((cr s).2.2.2,(cr s).2.2.1)),true)else ((T.dflt cS,([],[])),false):=by
 obtain⟨e1,e2⟩:=@RN s;unfold gG fC;rw[e1]
 cases hg:(bI s).2 with
 |false=>
  have:io s=false:=by unfold io;rw[hg];rfl
  rw[this,ai bz,ai ak]
 |true=>
  rw[am rfl,e2 hg];obtain⟨A,hT⟩:=DY hS hg rfl;have h6:=SL hS hg;unfold F8;rw[hT,←h6]
  cases hp:io s with
  |false=>rw[ai bz,ai ak]
  |true=>
   obtain⟨c1,c2⟩:=Tx hS hp rfl;rw[am rfl,c1,c2,ji];have hl:(bc s (pcR s)).length=(cY s (pcR s)).length:=tq;by_cases h40:40<(bc s (pcR s)).length
   ·rw[am h40,ai];rw[ao,cj];omega
   ·rw[ai h40];have hd:decide ((cY s (pcR s)).length<=40)=true:=decide_eq_true aa;rw[hd,ji];rfl
def lq:Ct:=⟨[fV],[true],λx=>[bE x.1=true],[(true,(.fz NU)),(false,dS)],λx=>((gG x.1).1,(gG x.1).2,()),true,none⟩
def W9:Ann:=(.s .n (.s .n (.s .n (.s .n (.s .n (.s (.s .n (.l [(2,(.ad 2 [.de])),(7,(.ad 7 [.de])),(8,(.d aq))] B4 [1,4,6] (.s .n (.s (.s .n (.j [(2,(.ad 2 [.de])),(7,(.ad 7 [.de]))] B4 [1,4,6,8] .n)) .n)))) (.s .n (.s .n (.s (.s .n (.l [(2,(.ad 2 [.de])),(7,(.ad 7 [.de])),(9,(.d aq))] B4 [1,4,6] .n)) (.s (.s .n (.l [(2,(.ad 2 [.de])),(7,(.ad 7 [.de])),(10,(.d aq))] B4 [1,4,6] .n)) (.s (.s .n (.l [(2,(.ad 2 [.de])),(7,(.ad 7 [.de])),(11,(.d aq))] B4 [1,4,6] (.s .n (.s (.s .n (.s .n (.s .n (.s (.s .n (.l [(2,(.ad 2 [.de])),(7,(.ad 7 [.de])),(12,(.ref 800012 [])),(13,(.d aq))] Lw [1,4,6,11] (.s .n (.s (.s .n (.s (.s .n (.j [(2,(.ad 2 [.de])),(7,(.ad 7 [.de])),(12,(.ref 800012 [])),(14,(.d aq))] Lw [1,4,6,11,13] (.s (.s .n (.s .n (.l [(2,(.ad 2 [.de])),(7,(.ad 7 [.de])),(12,(.ref 800012 [])),(14,(.d aq)),(15,(.d aq))] Lw [1,4,6,11,13] .n))) .n))) .n)) .n)))) .n)))) .n)))) (.s .n (.s (.s .n (.l [(2,(.ad 2 [.de])),(16,(.d aq))] [(2,FK)] [1,7] .n)) (.s (.s .n (.l [(2,(.ad 2 [.de])),(17,(.d aq))] [(2,FK)] [1,7] .n)) .n))))))))))))))
def ahw:FuncId->Option Ct:=lkp [(46,lu),(47,pk),(48,sq),(43,zq),(41,mV),(44,uG),(45,qD),(42,qG)]
def HH(s:aB)(K:uK×Bool×Unit->Prop):Prop:=let c7:=s.2.2.1.length;let c0:=s.2.1.length;let y:=me s;let w:=cq (iM (y.1.length:Int) (jy s y.1));0<=s.1/\s.1<=400/\c0<=1000000/\c7=c0/\cnd (!y.2) (K (((0,[],[],[],[]),([]:List aS),[]),false,())) (LnkP s y.1/\0<=(y.1.length:Int)/\(y.1.length:Int)<=1099511627776/\PrsP (y.1.length:Int) (jy s y.1)/\aI (S:=nI) (λa b=>let a8:=a.2.2.1;let c9:=a8.2.1.length;let a5:=a.1.2.2.1;let b1:=y.1.getD a5.toNat (0,[]);Iq a5<|Oc a.2.1.1<|Oa aW a.2.1.2.1<|Ol a.2.1.2.2<|Oc a8.1<|Oa aW a8.2.1<|Ol a8.2.2<|cnd (decide (a5<(y.1.length:Int))) (Ix a5 w.length<|bZ (S:=(iw×(nJ×(nJ×Unit)))) (λc=>Oc c.2.1.1<|Oa aW c.2.1.2.1<|Ol c.2.1.2.2<|Oc c.2.2.1.1<|Oa aW c.2.2.1.2.1<|Ol c.2.2.1.2.2<|Ik (a5+1)<|b (((),(),a5+1,()),c.2.1,c.2.2.1,())) (λd=>cnd (w.getD a5.toNat 0==(c9:Int)) (Ix a5 y.1.length<|cnd ((b1.2.length:Int)==6) (K (((0,[],[],[],[]),([]:List aS),[]),false,())) (Ix a5 y.1.length<|aX c9 (b1::([]:List aS)).length 32/\d (((),(),()),a.2.1,(a8.1,a8.2.1++b1::([]:List aS),a8.2.2),()))) (d (((),(),()),a.2.1,a8,())))) (cnd (decide (40<(c9:Int))) (K (((0,[],[],[],[]),([]:List aS),[]),false,())) (aI (S:=nI) (λe f=>let b5:=e.1.2.2.1;let b9:=w.getD (iv y.1 b5 []).toNat 0;let a9:=e.2.2.1;Iq b5<|Oc e.2.1.1<|Oa aW e.2.1.2.1<|Ol e.2.1.2.2<|Oc a9.1<|Oa aW a9.2.1<|Ol a9.2.2<|cnd (decide (b5<s.1)) (Ix (iv y.1 b5 []) w.length<|aX a9.1.2.2.2.1.length [b9].length 8/\(Ik (b5+1)<|f (((),(),b5+1,()),e.2.1,((a9.1.1,a9.1.2.1,a9.1.2.2.1,a9.1.2.2.2.1++[b9],a9.1.2.2.2.2),a9.2),()))) (aI (S:=nI) (λg h=>let b7:=g.2.2.1;let b6:=g.1.2.2.1;let a2:=iv y.1 (s.2.1.getD b6.toNat 0) [b6];Iq b6<|Oc g.2.1.1<|Oa aW g.2.1.2.1<|Ol g.2.1.2.2<|Oc b7.1<|Oa aW b7.2.1<|Ol b7.2.2<|cnd (decide (b6<(c0:Int))) (Ix b6 c0<|Ix a2 w.length<|aX b7.2.2.length [w.getD a2.toNat 0].length 8/\(Ik (b6+1)<|h (((),(),b6+1,()),g.2.1,(b7.1,b7.2.1,b7.2.2++[w.getD a2.toNat 0]),()))) (aI (S:=nI) (λi j=>let a6:=i.1.2.2.1;let a1:=i.2.2.1;let d1:=a1.1;let b4:=a1.2.1.length;let a0:=a1.2.1.getD a6.toNat (0,[]);Iq a6<|Oc i.2.1.1<|Oa aW i.2.1.2.1<|Ol i.2.1.2.2<|Oc d1<|Oa aW a1.2.1<|Ol a1.2.2<|cnd (decide (a6<(b4:Int))) (Ix a6 b4<|aX d1.2.1.length [a0.1].length 8/\(Ix a6 b4<|bD a0.2 (c7:Int)=true/\aX d1.2.2.1.length [dF s a0].length 8/\aI (S:=BW) (λl m=>let c3:=l.2.2.2.1;let a7:=l.2.2.1;let d0:=a7.2.1.length;let c4:=a7.2.1.getD a6.toNat (0,[]);let a4:=l.1.2.2.2.1;Iq a4<|Oc l.2.1.1<|Oa aW l.2.1.2.1<|Ol l.2.1.2.2<|Oc a7.1<|Oa aW a7.2.1<|Ol a7.2.2<|Ol c3<|cnd (decide (a4<(d0:Int))) (Ix a4 d0<|Ix a6 d0<|bD c4.2 (c7:Int)=true/\bZ (S:=BW) (λn=>Iq n.1.2.2.2.1<|Oc n.2.1.1<|Oa aW n.2.1.2.1<|Ol n.2.1.2.2<|Oc n.2.2.1.1<|Oa aW n.2.2.1.2.1<|Ol n.2.2.1.2.2<|Ol n.2.2.2.1<|aX n.2.2.2.1.length [n.1.2.2.2.1].length 8/\(Ik (a4+1)<|m (((),(),(),a4+1,()),n.2.1,n.2.2.1,n.2.2.2.1++[n.1.2.2.2.1],()))) (λo=>cnd ((a7.2.1.getD a4.toNat (0,[])).1==dF s c4) (aI (S:=LU) (λp q=>let c6:=p.2.2.1;let b0:=c6.2.1.length;let a3:=p.1.2.2.2;let d2:=a3.2.1;let z:=c6.2.1.getD a4.toNat (0,[]);let b2:=z.2.getD d2.toNat 0;let x:=c6.2.1.getD a3.1.toNat (0,[]);let c8:=iv y.1 x.1 (x.2++[b2]);Iq a3.1<|Iq d2<|Oc p.2.1.1<|Oa aW p.2.1.2.1<|Ol p.2.1.2.2<|Oc c6.1<|Oa aW c6.2.1<|Ol c6.2.2<|Ol p.2.2.2.1<|Ix a4 b0<|cnd (decide (d2<(z.2.length:Int))) (Ix a3.1 b0<|Ix a3.1 b0<|x.2.length<=1099511627776/\(Ix a4 b0<|Ix d2 z.2.length<|aX x.2.length [b2].length 8/\(Ix c8 w.length<|Ik (d2+1)<|q (((),(),(),w.getD c8.toNat 0,d2+1,()),p.2.1,c6,p.2.2.2.1,())))) (o (((),(),(),a3.1,()),p.2.1,c6,p.2.2.2.1,()))) (((),(),(),a6,0,()),l.2.1,a7,c3,())) (o (((),(),(),-1,()),l.2.1,a7,c3,())))) (aX a7.1.2.2.2.2.length [c3].length 24/\(Ik (a6+1)<|j (((),(),a6+1,()),l.2.1,((a7.1.1,a7.1.2.1,a7.1.2.2.1,a7.1.2.2.2.1,a7.1.2.2.2.2++[c3]),a7.2),())))) (((),(),(),0,()),i.2.1,((d1.1,d1.2.1++[a0.1],d1.2.2.1++[dF s a0],d1.2.2.2),a1.2),[],()))) (cnd (!eM d1) (K (((0,[],[],[],[]),([]:List aS),[]),false,())) (aI (S:=(dW×(nJ×Unit))) (λr t=>let b8:=r.1.2.1;let c5:=a1.2.1.getD b8.toNat (0,[]);Iq b8<|Oc r.2.1.1<|Oa aW r.2.1.2.1<|Ol r.2.1.2.2<|cnd (decide (b8<(b4:Int))) (Ix b8 b4<|AroP a1 c5/\cnd (dG d1 a1.2.2 c5 != b8) (K (((0,[],[],[],[]),([]:List aS),[]),false,())) (Ik (b8+1)<|t (((),b8+1,()),r.2.1,()))) (aI (S:=(dW×(nJ×Unit))) (λu v=>let b3:=u.1.2.1;let c2:=s.2.2.2.2.getD b3.toNat (0,[]);let c1:=s.2.2.2.1.getD b3.toNat (0,[]);Iq b3<|Oc u.2.1.1<|Oa aW u.2.1.2.1<|Ol u.2.1.2.2<|cnd (decide (b3<(s.2.2.2.1.length:Int))) (Ix b3 s.2.2.2.1.length<|AroP a1 c1/\(Ix b3 s.2.2.2.2.length<|AroP a1 c2/\cnd (dG d1 a1.2.2 c1 != dG d1 a1.2.2 c2) (K (((0,[],[],[],[]),([]:List aS),[]),false,())) (Ik (b3+1)<|v (((),b3+1,()),u.2.1,())))) (K (a1,true,()))) (((),0,()),r.2.1,()))) (((),0,()),i.2.1,())))) (((),(),0,()),g.2.1,b7,()))) (((),(),0,()),e.2.1,a9,()))) (((),(),0,()),a.2.1,((s.1,[],[],[],[]),a8.2),())))) (((),(),0,()),((0,[],[],[],[]),([]:List aS),[]),((0,[],[],[],[]),([]:List aS),[]),()))
theorem XO(s:aB)(hok:ab (okL lq.args (s,())))(hpre:ab (lq.pre (s,()))):HH s (λr=>r=lq.res (s,())):=by
 simp only[lq,okL,T.oks,T.ok,ap,ab,aL,aA,bf]at hok hpre
 try dsimp only[T.den]at hok hpre
 delta HH Ik Iq Ix Oa Oc Ol Om
 dsimp -proj -eta only;have hS:bE s=true:=hpre;clear hok hpre;obtain⟨s0,s8,f8,tf,wf,wt,e8,re,heq⟩:=fH hS;obtain⟨E1,E2⟩:=@RN s;refine⟨s0,aa,aa,tf,aC (λh=>?_) (λh=>?_)⟩
 ·have hF:gG s=((T.dflt cS,([],[])),false):=by unfold gG;rw[ai (by simpa using h)]
  simp only[lq];rw[hF];rfl
 have hg:(bI s).2=true:=by rw[←E1];simpa using h
 have hL:=E2 hg;obtain⟨A,hT⟩:=DY hS hg hL;have P:=EC hS A;have htb:gG s=F8 s (me s).1:=by unfold gG;rw[am (by rw[E1];exact hg)]
 have hcn:=@AK s (me s).1;have hsix:=SL hS hg;clear E1 E2 h;generalize (me s).1=L at *;have hl4:=A.le;have h6:∀p∈L,p.2.length<=6:=λp hp=>qX (A.ok p hp);refine⟨⟨hS,hl4,A.ok⟩,aa,aa,⟨by have:=Kq (s:=s) h6 e8 L.length;unfold jy;omega,λk k0 k1=>?_⟩,?_⟩
 ·have:=T6 hS A (cC (jy s L) [] k0 k1);exact⟨Nat.le_of_eq this.2.symm,this.1.1⟩
 unfold F8 at htb;have hC:cq (iM (L.length:Int) (jy s L))=dp s L:=rfl;rw[hC];have hce:=λhp=>Tx hS hp hL;rw[←hT]at hce hsix;generalize hC0:dp s L=C at *;clear hC;have hun:∀l:List aO,(l.all λp=>p.2.length != 6)=true<->∀p∈l,p.2.length≠6:=λl=>by rw[eU];exact⟨λh p hp=>by simpa using h p hp,λh p hp=>by simpa using h p hp⟩
 refine aY (λ(q:nI)=>0<=q.1.2.2.1/\q.1.2.2.1<=L.length/\q.2.2.1=((0,([],([],([],[])))),(cM C L q.1.2.2.1.toNat,[]))/\∀p∈cM C L q.1.2.2.1.toNat,p.2.length≠6) (λ(q:nI)=>(L.length-q.1.2.2.1).toNat) ?_ ⟨cB _,ae,rfl,λp hp=>by cases hp⟩;rintro⟨⟨_,_,i,_⟩,z,out,_⟩ next ⟨i0,i1,q,hno⟩ hnx
 intros
 try dsimp only at i0 i1 q hno hnx⊢
 subst q
 try dsimp only
 refine aE (λhi=>?_) (λhi=>?_)
 ·have hs:cM C L (i+1).toNat=if C.getD i.toNat 0=((cM C L i.toNat).length:Int)then cM C L i.toNat++[L.getD i.toNat (0,[])]else cM C L i.toNat:=by rw[show (i+1).toNat=i.toNat+1 from by omega];rfl
  have hle:=@ab0 C L i.toNat aa;refine⟨i0,aa,cp (λ(q:(iw×(nJ×(nJ×Unit))))=>q.2.2.1=((0,([],([],([],[])))),(cM C L (i+1).toNat,[]))/\∀p∈cM C L (i+1).toNat,p.2.length≠6) ?_ ?_⟩
  ·rintro⟨_,z,out,_⟩ ⟨q1,q2⟩;intros
   try dsimp only at q1 q2⊢
   exact⟨az,hnx _ ⟨ae,ae,q1,q2⟩ ae⟩
  ·intro kk hk;refine aC (λhb=>?_) (λhb=>?_)
   ·have hb:=iT hb;rw[am hb]at hs;refine⟨i0,hi,aC (λh6=>?_) (λh6=>?_)⟩
    ·have h6:=iT h6
     have hm:L.getD i.toNat (0,[])∈cM C L L.length:=by
      have:=Rf (c:=C) (L:=L) (n:=(i+1).toNat) (p:=L.getD i.toNat (0,[])) (by rw[hs];simp) (L.length-(i+1).toNat)
      rwa [show (i+1).toNat+(L.length-(i+1).toNat)=L.length from by omega]at this
     have hF:gG s=((T.dflt cS,([],[])),false):=by rw[htb,ai];rw[hun];intro h;exact h _ hm aa
     simp only[lq];rw[hF];rfl
    ·have h6:=iH.1 h6;refine⟨i0,hi,bh (by simp only[aH,aM];omega),hk _ ⟨by dsimp only;rw[hs],λp hp=>?_⟩⟩;rw[hs]at hp;rcases dN.1 hp with hp|hp
     ·exact hno p hp
     ·rw[cP]at hp;subst hp;omega
   ·have hb:=iH.1 hb;rw[ai hb]at hs;exact hk _ ⟨by dsimp only;rw[hs],by rw[hs];exact hno⟩
 clear hnx;have e:i=L.length:=aa
 subst e;rw[bB]at hno⊢;have hpo:io s=true:=by rw[hsix,hun];exact hno
 obtain⟨hc1,hc2⟩:=hce hpo;rw[am ((hun _).2 hno)]at htb;have K:=p8 hS hpo;have hrun:=@SG s hS hpo L hL _ hT.symm C hC0
 have hv:∀f:Int,0<=f->f<(cM C L L.length).length->(aV s ((cM C L L.length).getD f.toNat (0,[]))).2=true/\((cM C L L.length).getD f.toNat (0,[])).2.length<6:=λf f0 f1=>by
  have:=@pw s _ _ K f f0 (by rw[←hT];exact f1)
  rwa [←hT]at this
 have pl:∀(x:Int)(es:aw),(aV s (x,es)).2=true->0<=iv L x es/\iv L x es<C.length:=λx es h=>by have:=rh A h;exact⟨this.1,aa⟩
 have hnx:∀p:aO,(aV s p).2=true->(aV s ((cM C L L.length).getD (nmS C L p.1 p.2).toNat (0,[]))).1=(aV s p).1:=λp hp=>((uX hS (P.at_ p hp)).2.2 hp).2;generalize hM:cM C L L.length=M at *;clear P hsix hce hM;refine aE (λh40=>?_) (λh40=>?_)
 ·have hF:gG s=((T.dflt cS,([],[])),false):=by rw[htb,am aa]
  simp only[lq];rw[hF];rfl
 rw[ai aa]at htb;have hMl:M.length<=40:=aa
 refine aY (λ(q:nI)=>0<=q.1.2.2.1/\q.1.2.2.1<=s.1/\q.2.2.1=((s.1,([],([],(nF C L q.1.2.2.1.toNat,[])))),(M,[]))) (λ(q:nI)=>(s.1-q.1.2.2.1).toNat) ?_ ⟨cB _,s0,rfl⟩;rintro⟨⟨_,_,x,_⟩,z,out,_⟩ next1 ⟨x0,x1,q⟩ hn1;intros
 try dsimp only at x0 x1 q hn1⊢
 subst q
 try dsimp only
 refine aE (λhx=>?_) (λhx=>?_)
 ·have hp:=pl x [] (by rw[xJ (p:=(x,[])) (iD.2 ⟨x0,ae⟩) ak];rfl);refine⟨hp.1,hp.2,bh (by unfold nF;rw[bG];simp only[aH,aM];omega),az,hn1 _ ⟨ae,ae,?_⟩ ae⟩
  try dsimp only
  unfold nF;rw[gC x0];rfl
 clear hn1;have e:x=s.1:=aa
 subst e;refine aY (λ(q:nI)=>0<=q.1.2.2.1/\q.1.2.2.1<=s.2.1.length/\q.2.2.1=((s.1,([],([],(nF C L s.1.toNat,[])))),(M,oE s C L q.1.2.2.1.toNat))) (λ(q:nI)=>(s.2.1.length-q.1.2.2.1).toNat) ?_ ⟨cB _,ae,rfl⟩;rintro⟨⟨_,_,k,_⟩,z,out,_⟩ next2 ⟨k0,k1,q⟩ hn2;intros
 try dsimp only at k0 k1 q hn2⊢
 subst q
 try dsimp only
 refine aE (λhk=>?_) (λhk=>?_)
 ·have hp:=pl _ _ (A0 hS k0 hk).1;refine⟨k0,hk,hp.1,hp.2,bh (by unfold oE;rw[bG];simp only[aH,aM];omega),az,hn2 _ ⟨ae,ae,?_⟩ ae⟩
  try dsimp only
  unfold oE;rw[gC k0];rfl
 clear hn2;have e:k=s.2.1.length:=aa
 subst e;rw[bB];have hfl:∀l:List aO,(eB l).length=l.length:=λl=>by unfold eB;rw[d5]
 have hll:∀l:List aO,(m7 s l).length=l.length:=λl=>by unfold m7;rw[d5]
 refine aY (λ(q:nI)=>0<=q.1.2.2.1/\q.1.2.2.1<=M.length/\q.2.2.1=((s.1,(eB (M.take q.1.2.2.1.toNat),(m7 s (M.take q.1.2.2.1.toNat),(nF C L s.1.toNat,pH s C L M q.1.2.2.1.toNat)))),(M,oE s C L s.2.1.length))) (λ(q:nI)=>(M.length-q.1.2.2.1).toNat) ?_ ⟨cB _,ae,rfl⟩;rintro⟨⟨_,_,f,_⟩,z,out,_⟩ next3 ⟨f0,f1,q⟩ hn3;intros
 try dsimp only at f0 f1 q hn3⊢
 subst q
 try dsimp only
 refine aE (λhf=>?_) (λhf=>?_)
 ·obtain⟨v1,v2⟩:=hv f f0 hf;have hw:=(gX v1).2;rw[←tf]at hw;have ht:=fY M (0,[]) f0 hf;have htl:(M.take f.toNat).length<=40:=by rw[ez];omega
  have hfr:eB (M.take (f+1).toNat)=eB (M.take f.toNat)++[(M.getD f.toNat (0,[])).1]:=by rw[ht];unfold eB;rw[mN];rfl
  have hla:m7 s (M.take (f+1).toNat)=m7 s (M.take f.toNat)++[dF s (M.getD f.toNat (0,[]))]:=by rw[ht];unfold m7;rw[mN];rfl
  refine⟨f0,hf,bh (by rw[hfl];simp only[aH,aM];omega),f0,hf,hw,bh (by rw[hll];simp only[aH,aM];omega),?_⟩;rw[←hfr,←hla];refine aY (λ(q:BW)=>0<=q.1.2.2.2.1/\q.1.2.2.2.1<=M.length/\q.2.2.1=((s.1,(eB (M.take (f+1).toNat),(m7 s (M.take (f+1).toNat),(nF C L s.1.toNat,pH s C L M f.toNat)))),(M,oE s C L s.2.1.length))/\q.2.2.2.1=vO s C L M f q.1.2.2.2.1.toNat) (λ(q:BW)=>(M.length-q.1.2.2.2.1).toNat) ?_ ⟨cB _,ae,rfl,rfl⟩;rintro⟨⟨_,_,_,g,_⟩,z,out,row,_⟩ next4 ⟨g0,g1,q1,q2⟩ hn4;intros
  try dsimp only at g0 g1 q1 q2 hn4⊢
  subst q1;subst q2
  try dsimp only
  refine aE (λhg'=>?_) (λhg'=>?_)
  ·refine⟨g0,hg',f0,hf,hw,cp (λ(q:BW)=>q.1.2.2.2.1=vJ s C L M f g/\q.2.2.1=((s.1,(eB (M.take (f+1).toNat),(m7 s (M.take (f+1).toNat),(nF C L s.1.toNat,pH s C L M f.toNat)))),(M,oE s C L s.2.1.length))/\q.2.2.2.1=vO s C L M f g.toNat) ?_ ?_⟩
   ·rintro⟨⟨_,_,_,h,_⟩,z,out,row,_⟩ ⟨q1,q2,q3⟩;intros
    try dsimp only at q1 q2 q3⊢
    subst q1;subst q2;subst q3;refine⟨bh (by unfold vO;rw[bG];simp only[aH,aM];omega),az,hn4 _ ⟨ae,ae,rfl,?_⟩ ae⟩
    try dsimp only
    unfold vO;rw[gC g0]
   ·intro kk hk;obtain⟨w1,w2⟩:=hv g g0 hg';refine aC (λhb=>?_) (λhb=>?_)
    ·have hb:=iT hb;have hcm:vJ s C L M f g=nE C L M f (M.getD g.toNat (0,[])).2:=by unfold vJ;rw[am hb]
     rw[hcm]at hk;obtain⟨_,_,q3⟩:=iU w1;have hfo:=w1;rw[q3,hb,(gX v1).1]at hfo;generalize hes:(M.getD g.toNat (0,[])).2=es at *;refine aY (λ(q:LU)=>0<=q.1.2.2.2.2.1/\q.1.2.2.2.2.1<=es.length/\(0<=q.1.2.2.2.1/\q.1.2.2.2.1<M.length)/\nE C L M f es=nE C L M q.1.2.2.2.1 (es.drop q.1.2.2.2.2.1.toNat)/\(ca s (aV s (M.getD q.1.2.2.2.1.toNat (0,[]))).1 (es.drop q.1.2.2.2.2.1.toNat)).2=true/\q.2.2.1=((s.1,(eB (M.take (f+1).toNat),(m7 s (M.take (f+1).toNat),(nF C L s.1.toNat,pH s C L M f.toNat)))),(M,oE s C L s.2.1.length))/\q.2.2.2.1=vO s C L M f g.toNat) (λ(q:LU)=>(es.length-q.1.2.2.2.2.1).toNat) ?_ ⟨cB _,ae,⟨f0,hf⟩,rfl,hfo,rfl,rfl⟩;rintro⟨⟨_,_,_,h,k,_⟩,z,out,row,_⟩ next5 ⟨k0,k1,⟨h0,h1⟩,q1,q2,q3,q4⟩ hn5;intros
     try dsimp only at k0 k1 h0 h1 q1 q2 q3 q4 hn5⊢
     subst q3;subst q4
     try dsimp only
     rw[hes];refine⟨g0,hg',aE (λhk'=>?_) (λhk'=>?_)⟩
     ·obtain⟨u1,u2⟩:=hv h h0 h1;rw[im es 0 k0 hk']at q1 q2
      have hst:=hrun [es.getD k.toNat 0] h _ h0 h1 rfl (by
       simp only[ca]at q2⊢;split at q2
       ·rename_i hc;rw[am hc]
       ·cases q2)
      simp only[ca]at q2;split at q2
      ·rename_i hc;obtain⟨e0,e1⟩:=iD.1 hc.1;have hval:=J2 u1 aa e0 aa hc.2;have hp:=pl _ _ hval;refine⟨h0,h1,h0,h1,aa,g0,hg',k0,hk',bh (by simp only[aH,aM];omega),hp.1,hp.2,az,hn5 _ ⟨ae,ae,hst.1,by rw[q1];rfl,?_,rfl,rfl⟩ ae⟩
       try dsimp only
       have h1':=hnx _ hval
       try dsimp only at h1'
       rw[show nE C L M h [es.getD k.toNat 0]=nmS C L (M.getD h.toNat (0,[])).1 ((M.getD h.toNat (0,[])).2++[es.getD k.toNat 0])from rfl]at *;show (ca s (aV s (M.getD (nmS C L (M.getD h.toNat (0,[])).1 ((M.getD h.toNat (0,[])).2++[es.getD k.toNat 0])).toNat (0,[]))).1 (es.drop (k+1).toNat)).2=true;rw[h1',←(gX hval).1];have hne:dF s ((M.getD h.toNat (0,[])).1,(M.getD h.toNat (0,[])).2++[es.getD k.toNat 0])=s.2.2.1.getD (es.getD k.toNat 0).toNat 0:=by unfold dF;rw[ai ak];simp
       rw[hne];exact q2
      ·cases q2
     ·refine hk _ ⟨?_,rfl,rfl⟩
      try dsimp only
      rw[q1,jt es aa];rfl
    ·have hb:=iH.1 hb;refine hk _ ⟨?_,rfl,rfl⟩
     try dsimp only
     unfold vJ;rw[ai hb]
  ·have e:g=M.length:=aa
   subst e;refine⟨bh (by unfold pH;rw[bG];simp only[aH,aM];omega),az,hn3 _ ⟨ae,ae,?_⟩ ae⟩
   try dsimp only
   unfold pH;rw[gC f0,bB]
 clear hn3;have e:f=M.length:=aa
 subst e;rw[bB,wh];have hcat:(s.1,(eB M,(m7 s M,(nF C L s.1.toNat,pH s C L M M.length))))=eC s (pcR s):=hc1;rw[hcat,hc2];rw[hc1,hc2]at htb;have AR:eM (eC s (pcR s))=true->∀p:aO,(aV s p).2=true->AroP (eC s (pcR s),(M,dH s (pcR s) s.2.1.length)) p:=λh p hp=>Bc K h hp;obtain⟨m1,m2⟩:=RD hS;generalize eC s (pcR s)=c at *;generalize dH s (pcR s) s.2.1.length=ed at *
 try dsimp only
 refine aC (λh=>?_) (λh=>?_)
 ·have h:eM c=false:=by simpa using h
  have hF:gG s=((T.dflt cS,([],[])),false):=by
   rw[htb,ai];unfold jZ
   try dsimp only
   rw[h];simp
  simp only[lq];rw[hF];rfl
 have h:eM c=true:=by simpa using h
 have hcl:jZ (s,(c,(ed,M)))=((gQ M.length λf=>dG c ed (M.getD f.toNat (0,[]))==f)&&gQ s.2.2.2.1.length λi=>dG c ed (s.2.2.2.1.getD i.toNat (0,[]))==dG c ed (s.2.2.2.2.getD i.toNat (0,[]))):=by unfold jZ;dsimp only;rw[h];rfl
 rw[hcl]at htb;refine PU (n:=(M.length:Int)) (λi=>gQ i.toNat (λf=>dG c ed (M.getD f.toNat (0,[]))==f)=true) aa rfl ?_ ?_
 ·intro f next4 f0 f1 ha hn4;intros
  try dsimp only at ha hn4⊢
  rw[K7 f0,ha,ji]at hn4;refine aE (λ_=>⟨f0,f1,AR h _ (hv f f0 f1).1,aC (λhx=>?_) (λhx=>⟨az,hn4 ?_⟩)⟩) (λhx=>absurd f1 hx)
  ·have hF:gG s=((T.dflt cS,([],[])),false):=by rw[htb,ai];rw[ao,tb];rintro⟨hh,_⟩;have:=hh f f0 f1;rw[iT this]at hx;simp at hx
   simp only[lq];rw[hF];rfl
  ·rw[cR];exact fT.1 hx
 intro next4 ha;intros
 try dsimp only at ha⊢
 rw[bB]at ha;rw[ha,ji]at htb;refine aE (λhx=>absurd hx aa) (λ_=>?_);refine PU (n:=(s.2.2.2.1.length:Int)) (λi=>gQ i.toNat (λi=>dG c ed (s.2.2.2.1.getD i.toNat (0,[]))==dG c ed (s.2.2.2.2.getD i.toNat (0,[])))=true) aa rfl ?_ ?_
 ·intro f next5 f0 f1 ha hn5;intros
  try dsimp only at ha hn5⊢
  rw[K7 f0,ha,ji]at hn5;refine aE (λ_=>⟨f0,f1,AR h _ (m1 _ (cC _ _ f0 f1)),f0,aa,AR h _ (m2 _ (cC _ _ f0 aa)),aC (λhx=>?_) (λhx=>⟨az,hn5 ?_⟩)⟩) (λhx=>absurd f1 hx)
  ·have hF:gG s=((T.dflt cS,([],[])),false):=by rw[htb,ai];rw[tb];intro hh;have:=hh f f0 f1;rw[iT this]at hx;simp at hx
   simp only[lq];rw[hF];rfl
  ·rw[cR];exact fT.1 hx
 intro next5 ha;intros
 try dsimp only at ha⊢
 rw[bB]at ha;refine aE (λhx=>absurd hx aa) (λ_=>?_);rw[am ha]at htb;simp only[lq];rw[htb]
theorem Xm:aN Tryz.prog 20 lq:=ctb (au jo (au I6 (au Xd (au Ww (au wZ (au Xj (au Np (au WU aQ)))))))) aR 20 Tryz.f20 lq W9 [(34,13),(19,511),(52,513),(39,85025),(23,515),(9,7),(27,510),(28,511),(12,507),(47,8)] (λx K=>HH x.1 K) (λx h1 h2=>XO x.1 h1 h2)
def kq(s:aB):aF×List Int×List aO×Int:=if bE s=true then (if (gG s).2=true then ((gG s).1.1,(gG s).1.2.2,(gG s).1.2.1,0)else (T.dflt cS,[],[],3))else (T.dflt cS,[],[],1)
theorem afy(s:aB):(kq s).1=(l9 s).1/\(kq s).2.1=(l9 s).2.1/\(kq s).2.2.1=(l9 s).2.2.1/\(kq s).2.2.2=(l9 s).2.2.2.1:=by
 unfold kq l9;by_cases hS:bE s=true
 ·rw[am hS,am hS,Tq hS];by_cases h:fC s=true
  ·rw[am h,am h];exact⟨rfl,rfl,rfl,rfl⟩
  ·rw[ai h,ai h,ai bz];exact⟨rfl,rfl,rfl,rfl⟩
 ·rw[ai hS,ai hS];exact⟨rfl,rfl,rfl,rfl⟩
def pg:Ct:=⟨[fV],[true],λx=>[],[(true,(.fz cS)),(false,ru),(false,vD),(false,cA)],λx=>((kq x.1).1,(kq x.1).2.1,(kq x.1).2.2.1,(kq x.1).2.2.2,()),true,none⟩
def ahb:FuncId->Option Ct:=lkp [(19,mT),(21,sn),(20,lq)]
def GC(s:aB)(K:LW):Prop:=let a:=gG s;cnd (!bE s) (K ((0,[],[],[],[]),[],([]:List aS),1,())) (bE s=true/\cnd (!a.2) (K ((0,[],[],[],[]),[],([]:List aS),3,())) (PthsR a.1.2.1/\K (a.1.1,a.1.2.2,a.1.2.1,0,())))
theorem VH(s:aB)(hok:ab (okL pg.args (s,())))(hpre:ab (pg.pre (s,()))):GC s (λr=>r=pg.res (s,())):=by
 simp only[pg,okL,T.oks,T.ok,ap,ab,aL,aA,bf]at hok hpre
 try dsimp only[T.den]at hok hpre
 delta GC
 dsimp -proj -eta only;clear hok;refine aC (λh=>?_) (λh=>?_)
 ·have h:bE s=false:=by simpa using h
  simp only[pg,kq];rw[ai (by rw[h];decide)];rfl
 have hS:bE s=true:=by simpa using h
 have hF:kq s=if (gG s).2=true then ((gG s).1.1,(gG s).1.2.2,(gG s).1.2.1,0)else (T.dflt cS,[],[],3):=by unfold kq;rw[am hS]
 refine⟨hS,aC (λh=>?_) (λh=>?_)⟩
 ·have h:(gG s).2=false:=by simpa using h
  simp only[pg];rw[hF,ai (by rw[h];decide)];rfl
 have h:(gG s).2=true:=by simpa using h
 refine⟨?_,?_⟩
 ·have he:=Tq hS;by_cases hp:fC s=true
  ·rw[he,am hp];exact PV hS hp
  ·rw[he,ai hp]at h;cases h
 ·simp only[pg];rw[hF,am h]
theorem VC:aN Tryz.prog 7 pg:=ctb (au wN (au Wi (au Xm aQ))) aR 7 Tryz.f7 pg .n [(6,75006)] (λx K=>GC x.1 K) (λx h1 h2=>VH x.1 h1 h2)
theorem Ry{c:aF}{ed:aw}(S:ShapeP c):∀(es:aw)(h:Int),0<=h->h<c.2.1.length->tT c ed h es->oK c h (es.map λe=>ed.getD e.toNat 0)=o9 c ed h es
 |[],_,_,_,_=>rfl
 |e::r,h,h0,h1,hc=>by obtain⟨b1,b2,b3,b4⟩:=hc;have y:=S.yes h0 h1 b2.1 b2.2 b3;rw[gO,oK,ai (by have:=y.1;omega),o9];exact Ry S r _ y.1 y.2.1 b4
theorem T5{c:aF}{ed:aw}(S:ShapeP c):∀(es:aw)(h:Int),0<=h->h<c.2.1.length->tT c ed h es->∀e∈es,(0<=e/\e<ed.length)/\0<=ed.getD e.toNat 0/\ed.getD e.toNat 0<c.2.1.length
 |[],_,_,_,_,e,he=>by cases he
 |e::r,h,h0,h1,hc,e',he=>by
  obtain⟨b1,b2,b3,b4⟩:=hc;have y:=S.yes h0 h1 b2.1 b2.2 b3;rcases cQ.1 he with rfl|he
  ·exact⟨b1,b2⟩
  ·exact T5 S r _ y.1 y.2.1 b4 e' he
theorem p_(hS:bE s=true)(hP:fC s=true)(f0:0<=f)(f1:f<(cr s).2.2.2.length):
  (∀e∈((cr s).2.2.2.getD f.toNat (0,[])).2,0<=e/\e<(cr s).2.2.1.length)/\((cr s).2.2.2.getD f.toNat (0,[])).2.length<6/\
  ri (cr s).2.1 ((cr s).2.2.2.getD f.toNat (0,[])).1 (((cr s).2.2.2.getD f.toNat (0,[])).2.map λe=>(cr s).2.2.1.getD e.toNat 0)=(f,0)/\rJ s ((cr s).2.2.2.getD f.toNat (0,[]))=(f,0):=by
 have hP2:=hP;unfold fC at hP2;rw[ao,ao,cj]at hP2;obtain⟨⟨hk,_⟩,hcl⟩:=hP2;have K:=p8 hS hk;obtain⟨p1,p2⟩:=pw K f0 f1;have A:=QY hS hP p1;unfold jZ at hcl;rw[ao,ao,tb]at hcl;obtain⟨⟨hc,hf⟩,_⟩:=hcl;have hff:=hf f f0 f1;rw[cR]at hff;have hpa:(cr s).2.2.2=bc s (pcR s):=rfl;rw[←hpa]at p1 p2 A;generalize hp:(cr s).2.2.2.getD f.toNat (0,[])=p at *;have S:=A.s;dsimp only at S;have hid:=S.idn A.p0 A.p1;have hin:=T5 S p.2 _ hid.1 hid.2.1 A.c;have hal:=Ry S p.2 _ hid.1 hid.2.1 A.c;have har:dG (cr s).2.1 (cr s).2.2.1 p=o9 (cr s).2.1 (cr s).2.2.1 ((cr s).2.1.2.2.2.1.getD p.1.toNat 0) p.2:=rfl;refine⟨λe he=>(hin e he).1,p2,?_,?_⟩
 ·unfold ri og;have hw:bD (p.2.map λe=>(cr s).2.2.1.getD e.toNat 0) (cr s).2.1.2.1.length=true:=by unfold bD;rw[eU];intro x hx;obtain⟨e,he,rfl⟩:=jJ.1 hx;have:=(hin e he).2;dsimp only at this;exact iD.2 ⟨this.1,aa⟩
  have h0:=A.p0;have h1:=A.p1;dsimp only at h1;rw[am hc,am hw,am rfl,am (iD.2 ⟨h0,aa⟩),hal,←har,hff,ai aa]
 ·unfold rJ;rw[am (by unfold mm rA oh;simp only[oX,List.all_nil,hS,hP,p1,nN])];show (dG (cr s).2.1 (cr s).2.2.1 p,(0:Int))=_;rw[hff]
theorem adi(hS:bE s=true)(hP:fC s=true)(i0:0<=i)(i1:i<s.2.2.2.1.length):vK s (s.2.2.2.1.getD i.toNat (0,[])) (s.2.2.2.2.getD i.toNat (0,[]))=(true,0):=by have hP2:=hP;unfold fC at hP2;rw[ao,ao,cj]at hP2;obtain⟨⟨hk,_⟩,hcl⟩:=hP2;unfold jZ at hcl;rw[ao,ao,tb,tb]at hcl;have he:=hcl.2 i i0 i1;rw[cR]at he;obtain⟨_,_,_,_,_,_,_,hl,heq⟩:=fH hS;have hq:=nf heq i0 i1 aa;unfold vK;rw[am (by unfold mm rA oh;simp only[oX,List.all_nil,hS,hP,hq.l2,hq.r2,nN])];have he2:dG (eC s (pcR s)) (dH s (pcR s) s.2.1.length) (s.2.2.2.1.getD i.toNat (0,[]))=dG (eC s (pcR s)) (dH s (pcR s) s.2.1.length) (s.2.2.2.2.getD i.toNat (0,[])):=he;rw[he2,wq]
def c_laws_FnSchemaCategories:Ct:=⟨[dK],[false],λx=>[],[(false,dS)],λx=>(true,()),false,none⟩
def Vc:Ann:=(.s .n (.s .n (.s .n (.s .n (.s .n (.s .n (.s .n (.s .n (.s (.s .n (.l [(12,(.d aq))] [] [3,4,5,6] (.s .n (.s (.s .n (.s (.s .n (.l [(13,(.ref 800013 [])),(14,(.d aq))] [(800013,cd)] [3,4,5,6,12] .n)) .n)) .n)))) (.s (.s .n (.l [(19,(.d aq))] [] [3] .n)) .n))))))))))
def ag3:FuncId->Option Ct:=lkp [(13,sm),(10,zo),(12,sB),(11,pc),(6,ut),(4,An),(9,nY),(8,uI),(5,Gy),(7,pg)]
def Gx(code:aw)(K:fP):Prop:=let g:=Gv code;let k:=l9 g;let i:=k.2.2.1.length;cnd (decide (4096<(code.length:Int))) (K (true,())) (cnd (k.2.2.2.1 != (kq g).2.2.2||!EF k.1 (kq g).1||!mr k.2.1 (kq g).2.1||(i:Int) != ((kq g).2.2.1.length:Int)) (K (false,())) (cnd (k.2.2.2.1 != 0) (K (true,())) (cnd (!eM k.1||(i:Int) != (k.1.2.1.length:Int)) (K (false,())) (aI (S:=cZ) (λa b=>let o:=a.1.1;let h:=k.2.2.1.getD o.toNat (0,[]);Iq o<|cnd (decide (o<(i:Int))) (aI (S:=(dW×cV)) (λc d=>let n:=c.1.2.1;let m:=ri k.1 h.1 c.2.1;let j:=h.2.getD n.toNat 0;let r:=k.2.1.getD j.toNat 0;let p:=decide (j<0);Iq n<|Ol c.2.1<|Ix o i<|cnd (decide (n<(h.2.length:Int))) (Ix o i<|Ix n h.2.length<|(p=false->o<(i:Int)/\0<=o)/\(p=false->n<(h.2.length:Int)/\0<=n)/\cnd (p||decide ((k.2.1.length:Int)<=j)) (K (false,())) (Ix o i<|Ix n h.2.length<|Ix j k.2.1.length<|aX c.2.1.length [r].length 8/\(Ik (n+1)<|d (((),n+1,()),c.2.1++[r],())))) (Ix o i<|Ix o i<|Ik (m.2+(rJ g h).2)<|cnd (m.2+(rJ g h).2 != 0||m.1 != o||(rJ g h).1 != m.1) (K (false,())) (Ik (o+1)<|b ((o+1,()),())))) (((),0,()),[],())) (aI (S:=cZ) (λe f=>let q:=e.1.1;let l:=vK g (g.2.2.2.1.getD q.toNat (0,[])) (g.2.2.2.2.getD q.toNat (0,[]));Iq q<|cnd (decide (q<(g.2.2.2.1.length:Int))) (Ix q g.2.2.2.1.length<|Ix q g.2.2.2.2.length<|cnd (l.2 != 0||!l.1) (K (false,())) (Ik (q+1)<|f ((q+1,()),()))) (K (true,()))) ((0,()),()))) ((0,()),())))))
theorem Vj(code:aw)(hok:ab (okL c_laws_FnSchemaCategories.args (code,())))(hpre:ab (c_laws_FnSchemaCategories.pre (code,()))):Gx code (λr=>r=c_laws_FnSchemaCategories.res (code,())):=by
 delta Gx Ik Iq Ix Ol
 dsimp -proj -eta only;clear hok hpre;refine aC (λ_=>rfl) (λ_=>?_);generalize Gv code=s;obtain⟨q1,q2,q3,q4⟩:=afy s;refine aC (λh=>?_) (λ_=>aC (λ_=>rfl) (λh0=>?_))
 ·exfalso;rw[q1,q2,q3,q4]at h;simp[EF,mr]at h
 have hE:bE s=true/\fC s=true:=by
  unfold l9 at h0;by_cases h1:bE s=true
  ·refine⟨h1,?_⟩;by_cases h2:fC s=true
   ·exact h2
   ·rw[am h1,ai h2]at h0;cases h0
  ·rw[ai h1]at h0;cases h0
 obtain⟨hS,hP⟩:=hE;have hv:l9 s=((cr s).2.1,(cr s).2.2.1,(cr s).2.2.2,0,()):=by unfold l9;rw[am hS,am hP]
 rw[hv];clear h0 hv q1 q2 q3 q4
 try dsimp only
 have hP2:=hP;unfold fC at hP2;rw[ao,ao,cj]at hP2;obtain⟨⟨hk,h40⟩,hcl⟩:=hP2;have hl:(cr s).2.2.2.length=(cY s (pcR s)).length:=tq;have hfl:(cr s).2.1.2.1.length=(cr s).2.2.2.length:=by show (eB (bc s (pcR s))).length=(bc s (pcR s)).length;unfold eB;rw[d5]
 unfold jZ at hcl;rw[ao,ao]at hcl;have hc:=hcl.1.1;obtain⟨_,_,_,_,_,_,e8,re,_⟩:=fH hS;refine aC (λh=>?_) (λ_=>?_)
 ·exfalso;rw[hc,hfl]at h;simp at h
 clear hcl hc hfl hk;refine aY (λ(q:cZ)=>0<=q.1.1/\q.1.1<=(cr s).2.2.2.length) (λ(q:cZ)=>((cr s).2.2.2.length-q.1.1).toNat) ?_ ⟨ak,ak⟩;rintro⟨⟨f,_⟩,_⟩ next ⟨f0,f1⟩ hn hin
 try dsimp only at f0 f1 hn hin⊢
 refine aC (λhx=>?_) (λ_=>?_)
 ·rw[cj]at hx;obtain⟨g1,g2,g3,g4⟩:=p_ hS hP f0 hx;generalize (cr s).2.2.2.getD f.toNat (0,[])=p at *;refine aY (λ(q:yE)=>0<=q.1.2.1/\q.1.2.1<=p.2.length/\q.2.1=(p.2.take q.1.2.1.toNat).map λe=>(cr s).2.2.1.getD e.toNat 0) (λ(q:yE)=>(p.2.length-q.1.2.1).toNat) ?_ ⟨ak,ak,ak⟩;rintro⟨⟨_,k,_⟩,l,_⟩ next1 ⟨k0,k1,hlk⟩ hn1;intros
  try dsimp only at k0 k1 hlk hn1⊢
  have hll:l.length<=6:=by rw[hlk,d5,ez];omega
  refine⟨f0,hx,aC (λhk=>?_) (λhk=>?_)⟩
  ·rw[cj]at hk;have he:=g1 _ (cC p.2 0 k0 hk);have ht:=fY p.2 0 k0 hk;generalize p.2.getD k.toNat 0=e at *;refine⟨f0,hx,k0,hk,λ_=>⟨hx,f0⟩,λ_=>⟨hk,k0⟩,aC (λh=>?_) (λ_=>⟨f0,hx,k0,hk,he.1,he.2,bh (by simp only[aH,aM];omega),az,hn1 _ ⟨ae,ae,?_⟩ ae⟩)⟩
   ·exfalso;rw[fR,cj,cj]at h;omega
   ·show l++[_]=List.map _ (List.take (k+1).toNat p.2);rw[ht,mN,hlk];rfl
  ·rw[fS]at hk;rw[jv p.2 aa]at hlk;rw[hlk,g3,g4];refine⟨f0,hx,f0,hx,az,aC (λh=>?_) (λ_=>⟨az,hn _ ⟨ae,ae⟩ ae⟩)⟩;exfalso;simp at h
 ·refine aY (λ(q:cZ)=>0<=q.1.1/\q.1.1<=s.2.2.2.1.length) (λ(q:cZ)=>(s.2.2.2.1.length-q.1.1).toNat) ?_ ⟨ak,ak⟩;rintro⟨⟨i,_⟩,_⟩ next1 ⟨i0,i1⟩ hn1 hin1
  try dsimp only at i0 i1 hn1 hin1⊢
  refine aC (λhx=>?_) (λ_=>rfl);rw[cj]at hx;rw[adi hS hP i0 hx];refine⟨i0,hx,i0,aa,aC (λh=>?_) (λ_=>⟨az,hn1 _ ⟨ae,ae⟩ ae⟩)⟩;exfalso;simp at h
theorem ct_laws_FnSchemaCategories:aN Tryz.prog 3 c_laws_FnSchemaCategories:=ctb (au V6 (au Wv (au W1 (au V5 (au V9 (au Ze (au Hv (au WL (au UV (au VC aQ)))))))))) aR 3 Tryz.f3 c_laws_FnSchemaCategories Vc [(22,12),(23,10),(29,16)] (λx K=>Gx x.1 K) (λx h1 h2=>Vj x.1 h1 h2)
end
end Go.Bm
