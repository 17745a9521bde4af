/- What the functions that FnLimitsFromProducts reaches give: for each its contract, what it asks, and the proof. No condition. -/
import Derived.Test.YtimfdllgcnabjaaGreatFnLimitsFromProductsFnsA
set_option linter.unusedVariables false
set_option linter.unusedSimpArgs false
namespace Go.Bm
open Go.Proofs
set_option maxRecDepth 100000
set_option maxHeartbeats 1000000
abbrev CD:=@Bool.eq_iff_iff
abbrev zq:=@List.getElem?_set_self
abbrev zr:=@List.getElem?_set_ne
abbrev iP:=@decide_eq_true
abbrev G8:=@Int.toNat_of_nonneg
abbrev CE:=@List.length_eq_zero_iff
abbrev oz:=@decide_eq_false
abbrev w7:=@Bool.and_eq_false_iff
noncomputable section
abbrev ml:Type:=Int->Int
variable {M j k n:Nat}{a b f0 g h i m x y:Int}{arr l pre:aA}{c:ah}{d f:aV}{fd found:bW}{iso more:bo}{ob:ml}{s:fu}{α:Type}
def sD:Ct:=⟨[cy,aC],[false,false],λx=>[],[(false,dP)],λx=>(dF x.1 x.2.1,()),false,none⟩
def WI:Ann:=(.s .n (.s (.s .n (.l tx [] [0,1] .n)) .n))
def HE(list:aA)(n:Int)(K:vU):Prop:=aK (S:=cH) (λa b=>Iq a.1.1<|cnd (decide (a.1.1<(list.length:Int))) (Ix a.1.1 list.length<|cnd (list.getD a.1.1.toNat 0==n) (K (a.1.1,())) (Ik (a.1.1+1)<|b ((a.1.1+1,()),()))) (K (-1,()))) ((0,()),())
theorem Xb(list:aA)(n:Int)(hok:ab (okL sD.args (list,n,())))(hpre:ab (sD.pre (list,n,()))):HE list n (λr=>r=sD.res (list,n,())):=by
 simp only[sD,okL,T.oks,T.ok,ap,ab,aL,az,aW]at hok hpre
 try dsimp only[T.den]at hok hpre
 delta HE Ik Iq Ix
 have hl:list.length<=140737488355328:=by simp only[ce]at hok;omega
 clear hok;refine eV (n:=list.length) (λi=>∀k:Int,0<=k->k<i->list.getD k.toNat 0≠n) aa (by intro k h0 h1;omega) ?_ ?_
 ·intro i next i0 i1 hP hn _
  try dsimp only
  refine aE (λ_=>⟨i0,i1,aJ (λhx=>?_) (λhx=>⟨aB,hn λk k0 k1=>?_⟩)⟩) (λh=>absurd i1 h)
  ·have:dF list n=i:=KI (z:=(0:Int)) i0 i1 (by simpa using hx) hP;simp only[sD,this]
  ·by_cases hk:k=i
   ·subst hk;simpa using hx
   ·exact hP k k0 aa
 ·intro next hP _
  refine aE (λh=>absurd h (dK _)) (λ_=>?_);have:dF list n=-1:=adg (z:=(0:Int)) hP;simp only[sD,this]
theorem WZ:aN Tryz.prog 153 sD:=ctb aR aS 153 Tryz.f153 sD WI [] (λx K=>HE x.1 x.2.1 K) (λx h1 h2=>Xb x.1 x.2.1 h1 h2)
def uz:Ct:=⟨[cy],[false],λx=>[x.1.length<=1099511627776],[(false,bS)],λx=>(ro x.1,()),false,none⟩
def VZ:Ann:=(.s .n (.s .n (.s (.s .n (.l [(3,(.ref 800003 [])),(4,(.ref 800004 [])),(5,(.d aC))] [(800003,bS),(800004,bS)] [0] (.s .n (.s (.s .n (.s (.s .n (.j [(3,(.ref 800003 [])),(4,(.ref 800004 [])),(6,(.d aC))] [(800003,bS),(800004,bS)] [0,5] .n)) .n)) .n)))) .n)))
def H1(labels:aA)(K:l6):Prop:=let h:=labels.length;aK (S:=(dD×pI)) (λa b=>let g:=a.2.2.1;let f:=a.1.2.2.1;let e:=labels.getD f.toNat 0;Iq f<|Ol a.2.1<|Ol g<|cnd (decide (f<(h:Int))) (Ix f h<|bK (S:=(dD×pI)) (λc=>Iq c.1.2.2.1<|Ol c.2.1<|Ol c.2.2.1<|bg c.2.1.length [c.1.2.2.1].length 8/\(Ik (f+1)<|b (((),(),f+1,()),c.2.1++[c.1.2.2.1],c.2.2.1,()))) (λd=>cnd (decide (dF g e<0)) (Ix f h<|bg g.length [e].length 8/\d (((),(),(g.length:Int),()),a.2.1,g++[e],())) (d (((),(),dF g e,()),a.2.1,g,())))) (K (a.2.1,()))) (((),(),0,()),[],[],())
abbrev yU:Type:=(dD×pI)
theorem Wl(labels:aA)(hok:ab (okL uz.args (labels,())))(hpre:ab (uz.pre (labels,()))):H1 labels (λr=>r=uz.res (labels,())):=by
 simp only[uz,okL,T.oks,T.ok,ap,ab,aL,az,aW]at hok hpre
 try dsimp only[T.den]at hok hpre
 delta H1 Ik Iq Ix Ol
 dsimp -proj -eta only;have hl:labels.length<=1099511627776:=hpre;clear hok;refine bt (λ(s:yU)=>0<=s.1.2.2.1/\s.1.2.2.1<=labels.length/\s.2.2.1=jq (labels.take s.1.2.2.1.toNat)/\s.2.1=(labels.take s.1.2.2.1.toNat).map (dF (jq labels))) (λ(s:yU)=>(labels.length-s.1.2.2.1).toNat) ?_ ⟨ak,ak,rfl,rfl⟩;rintro⟨⟨_,_,i,_⟩,out,seen,_⟩ next ⟨i0,i1,hM,ho⟩ hn _ _ _
 try dsimp only at i0 i1 hM ho hn⊢
 refine aE (λhc=>?_) (λhc=>?_)
 ·have hs:=@aek labels i i0 hc;have hex:=@acn labels (i+1).toNat (labels.getD i.toNat 0);have hml:seen.length<=labels.length:=by rw[hM];have:=Se (labels.take i.toNat) [];rw[dW]at this;simp only[bh]at this;unfold jq;omega
  have hol:out.length<=labels.length:=by rw[ho,cC,dW];omega
  have hout:(labels.take (i+1).toNat).map (dF (jq labels))=out++[dF (jq labels) (labels.getD i.toNat 0)]:=by rw[gE labels 0 i0 hc,mr,←ho];rfl
  rw[hs,←hM]at hex;rw[←hM]at hs;generalize labels.getD i.toNat 0=k at *;refine⟨i0,hc,?_⟩;refine bZ (λ(s:yU)=>s.2.2.1=lg seen k/\s.1.2.2.1=dF (jq labels) k/\s.2.1=out) (λs ⟨s1,s2,s3⟩ _ _ _=>?_) (λkk hk=>?_)
  ·rw[s3,s2];refine⟨bQ (by simp only[aX,bh];omega),aB,hn _ ⟨an,an,by dsimp only;rw[hs];exact s1,by dsimp only;rw[hout]⟩ an⟩
  refine aE (λhx=>?_) (λhx=>?_)
  ·have hd:lg seen k=seen++[k]:=by unfold lg;rw[am hx]
   have hi:=ac3 hx;rw[hd]at hex hk;rw[hi]at hex;exact⟨i0,hc,bQ (by simp only[aX,bh];omega),hk _ ⟨rfl,(hex aa).symm,rfl⟩⟩
  ·have hd:lg seen k=seen:=by unfold lg;rw[aj hx]
   rw[hd]at hex hk;exact hk _ ⟨rfl,(hex aa).symm,rfl⟩
 ·have e:i=labels.length:=aa
  subst e;simp only[uz,ro];rw[ho,lQ _ (dB _)]
theorem VW:aN Tryz.prog 149 uz:=ctb (au WZ aR) aS 149 Tryz.f149 uz VZ [] (λx K=>H1 x.1 K) (λx h1 h2=>Wl x.1 h1 h2)
def Gh(n:Int):List Int:=aG n.toNat λi=>i
structure PrsP (n:Int) (l:bW):Prop where
 len:l.length<=1099511627776
 e:∀k:Int,0<=k->k<l.length->2<=(l.getD k.toNat []).length/\(0<=(l.getD k.toNat []).getD 0 0/\(l.getD k.toNat []).getD 0 0<n)/\(0<=(l.getD k.toNat []).getD 1 0/\(l.getD k.toNat []).getD 1 0<n)
def yz(l:aA)(a b:Int):List Int:=aG l.length λz=>if l.getD z.toNat 0=b then a else l.getD z.toNat 0
def BB(l p:aA):List Int:=yz l (l.getD (p.getD 0 0).toNat 0) (l.getD (p.getD 1 0).toNat 0)
def mQ(n:Int)(pairs:bW):List Int:=pairs.foldl BB (Gh n)
theorem S5{l:aA}:(aG l.length λz=>l.getD z.toNat 0)=l:=by
 apply mo;intro k;by_cases hk:k<l.length
 ·have h1:=@dN Int (λz=>l.getD z.toNat 0) 0 k l.length aa aa;rw[cQ,br,bU (by rw[bA];exact hk)]at h1;rw[bU (by rw[bA];exact hk),bU hk];simp only[gA]at h1;rw[h1,br,bU hk];rfl
 ·rw[ja (by rw[bA];omega),ja aa]
theorem aep:yz l a a=l:=by
 unfold yz
 conv=>rhs;rw[←@S5 l]
 refine ge λz _ _=>?_;split
 ·rename_i h;exact h.symm
 ·rfl
theorem abt:(yz l a b).length=l.length:=by unfold yz;rw[bA]
theorem E8{n:Int}:∀(p:bW) (l:aA),l.length=n.toNat->(p.foldl BB l).length=n.toNat
 |[],l,h=>h
 |e::r,l,h=>by rw[iA];exact E8 r _ (by unfold BB;rw[abt];exact h)
theorem ae6{n:Int}{p:bW}(i0:0<=i)(i1:i<p.length):mQ n (p.take (i+1).toNat)=BB (mQ n (p.take i.toNat)) (p.getD i.toNat []):=by unfold mQ;rw[gE p [] i0 i1,iO];rfl
def sG:Ct:=⟨[aC,yn],[false,false],λx=>[0<=x.1,x.1<=1099511627776,PrsP x.1 x.2.1],[(false,bS)],λx=>(ro (mQ x.1 x.2.1),()),false,none⟩
def Xz:Ann:=(.s .n (.s .n (.s (.s .n (.l Lg tB [0,1] .n)) (.s (.s .n (.l [(5,(.ref 800005 [])),(7,(.d aC))] tB [1] (.s .n (.s (.s .n (.s .n (.l [(5,(.ref 800005 [])),(10,(.d aC))] tB [1,7,8,9] (.s .n (.s (.s .n (.j mM tB [1,7,8,9,10] .n)) .n))))) .n)))) .n))))
def Ii(n:Int)(pairs:bW)(K:l6):Prop:=let q:=pairs.length;aK (S:=(dH×dV)) (λa b=>let p:=a.1.2.1;Iq p<|Ol a.2.1<|cnd (decide (p<n)) (bg a.2.1.length [p].length 8/\(Ik (p+1)<|b (((),p+1,()),a.2.1++[p],()))) (aK (S:=(dH×dV)) (λc d=>let r:=c.2.1.length;let o:=c.1.2.1;let i:=pairs.getD o.toNat [];let l:=i.getD (Int.toNat 1) 0;let v:=c.2.1.getD l.toNat 0;let j:=i.getD (Int.toNat 0) 0;let u:=c.2.1.getD j.toNat 0;Iq o<|Ol c.2.1<|cnd (decide (o<(q:Int))) (Ix o q<|Ix 0 i.length<|Ix j r<|Ix o q<|Ix 1 i.length<|Ix l r<|aK (S:=(dH×dV)) (λe f=>let t:=e.2.1.length;let m:=e.1.2.1;Iq m<|Ol e.2.1<|cnd (decide (m<(t:Int))&&u != v) (Ix m t<|bK (S:=ly) (λg=>Ol g.2.1<|Ik (m+1)<|f (((),m+1,()),g.2.1,())) (λh=>cnd (e.2.1.getD m.toNat 0==v) (Ix m t<|h (((),()),List.set e.2.1 m.toNat u,())) (h (((),()),e.2.1,())))) (Ik (o+1)<|d (((),o+1,()),e.2.1,()))) (((),0,()),c.2.1,())) (r<=1099511627776/\K (ro c.2.1,()))) (((),0,()),a.2.1,()))) (((),0,()),[],())
theorem Yf(n:Int)(pairs:bW)(hok:ab (okL sG.args (n,pairs,())))(hpre:ab (sG.pre (n,pairs,()))):Ii n pairs (λr=>r=sG.res (n,pairs,())):=by
 simp only[sG,okL,T.oks,T.ok,ap,ab,aL,az,aW]at hok hpre
 try dsimp only[T.den]at hok hpre
 delta Ii Ik Iq Ix Ol
 dsimp -proj -eta only;obtain⟨n0,n1,hp⟩:=hpre;have hpn:=hp.len;have hpe:=hp.e;clear hok;refine iB (λi=>aG i.toNat λk=>k) (n:=n) n0 rfl ?_ ?_
 ·intro i next i0 i1 hn _ _
  try dsimp only at hn⊢
  rw[eY i0]at hn;exact aE (λ_=>⟨bQ (by rw[bA];simp only[aX,bh];omega),aB,hn⟩) (λh=>absurd i1 h)
 ·intro next _ _
  refine aE (λh=>absurd h (dK _)) (λ_=>?_);refine iB (λi=>mQ n (pairs.take i.toNat)) (n:=pairs.length) aa rfl ?_ ?_
  ·intro i next i0 i1 hn _ _
   try dsimp only at hn⊢
   obtain⟨e0,⟨e1,e2⟩,e3,e4⟩:=hpe i i0 i1;have hl:(mQ n (pairs.take i.toNat)).length=n.toNat:=E8 _ _ (by unfold Gh;rw[bA]);rw[ae6 i0 i1]at hn;unfold BB at hn;generalize mQ n (pairs.take i.toNat)=l at *;have hz:(0:Int).toNat=0:=rfl;have hz1:(1:Int).toNat=1:=rfl;simp only[hz,hz1];refine aE (λ_=>⟨i0,i1,aH,aa,e1,aa,i0,i1,aH,aa,e3,aa,?_⟩) (λh=>absurd i1 h);generalize l.getD ((pairs.getD i.toNat []).getD 0 0).toNat 0=a at *;generalize l.getD ((pairs.getD i.toNat []).getD 1 0).toNat 0=b at *;by_cases hab:a=b
   ·subst hab;rw[aep]at hn;refine bt (λ(s:l8)=>s.2.1=l) (λ_=>0) ?_ rfl;rintro⟨⟨_,j,_⟩,l2,_⟩ next2 hl2 _ _ _
    try dsimp only at hl2⊢
    subst hl2;refine aJ (λh=>?_) (λ_=>⟨aB,hn⟩);simp at h
   ·refine iB (λj=>aG l.length λz=>if z<j then (if l.getD z.toNat 0=b then a else l.getD z.toNat 0)else l.getD z.toNat 0) (n:=l.length) aa ?_ ?_ ?_
    ·conv=>lhs;rw[←@S5 l]
     exact ge λz z0 _=>(aj aa).symm
    ·intro j next2 j0 j1 hn2 _ _
     try dsimp only at hn2⊢
     have hg:(aG l.length λz=>if z<j then (if l.getD z.toNat 0=b then a else l.getD z.toNat 0)else l.getD z.toNat 0).getD j.toNat 0=l.getD j.toNat 0:=by rw[dN j0 j1,aj aa]
     refine aJ (λ_=>⟨j0,by rw[bA];exact j1,?_⟩) (λh=>?_)
     ·refine uR (aG l.length λz=>if z<j+1 then (if l.getD z.toNat 0=b then a else l.getD z.toNat 0)else l.getD z.toNat 0) (λs hs _=>⟨aB,by rw[hs];exact hn2⟩) (λk hk=>?_);rw[hg];refine aJ (λhx=>⟨j0,by rw[bA];exact j1,hk _ ?_⟩) (λhx=>hk _ ?_)
      ·rw[uV j0 j1];refine ge λz z0 z1=>?_;by_cases h:z=j
       ·subst h;rw[am rfl,am (show z<z+1 by omega),am (by simpa using hx)]
       ·rw[aj h];by_cases h2:z<j
        ·rw[am h2,am (show z<j+1 by omega)]
        ·rw[aj h2,aj (show ¬z<j+1 by omega)]
      ·refine ge λz z0 z1=>?_;by_cases h:z=j
       ·subst h;rw[aj (show ¬z<z by omega),am (show z<z+1 by omega),aj (by simpa using hx)]
       ·by_cases h2:z<j
        ·rw[am h2,am (show z<j+1 by omega)]
        ·rw[aj h2,aj (show ¬z<j+1 by omega)]
     ·rw[bA]at h;simp[hab,j1]at h
    ·intro next2 _ _
     try dsimp only
     refine aJ (λh=>?_) (λ_=>⟨aB,?_⟩)
     ·rw[bA]at h;simp at h
     ·have:yz l a b=aG l.length λz=>if z<(l.length:Int)then (if l.getD z.toNat 0=b then a else l.getD z.toNat 0)else l.getD z.toNat 0:=ge λz _ z1=>by rw[am z1]
      rw[this]at hn;exact hn
  ·intro next _ _
   refine aE (λh=>absurd h (dK _)) (λ_=>?_);rw[lQ _ (dB _)];have hl:(mQ n pairs).length=n.toNat:=E8 _ _ (by unfold Gh;rw[bA]);refine⟨by rw[hl];omega,?_⟩;simp only[sG]
theorem XG:aN Tryz.prog 138 sG:=ctb (au VW aR) aS 138 Tryz.f138 sG Xz [(9,19)] (λx K=>Ii x.1 x.2.1 K) (λx h1 h2=>Yf x.1 x.2.1 h1 h2)
def nC:Ct:=⟨[bO,aC,aC],[true,false,false],λx=>[x.1.2.1.length<=40,x.1.2.2.1.length=x.1.2.1.length],[(false,bS)],λx=>(aF x.1 x.2.1 x.2.2.1,()),false,none⟩
def XL:Ann:=(.s .n (.s .n (.s (.s .n (.l [(7,(.ref 800007 [])),(8,(.d aC))] [(800007,bS)] [1,2,3] (.s .n (.s (.s .n (.j Fd [(800007,bS)] [1,2,3,8] .n)) .n)))) .n)))
def Iw(c:ah)(x y:Int)(K:l6):Prop:=aK (S:=(dH×dV)) (λa b=>let f:=a.1.2.1;let g:=c.2.1.getD f.toNat 0;Iq f<|Ol a.2.1<|cnd (decide (f<(c.2.1.length:Int))) (Ix f c.2.1.length<|((g==x)=true->f<(c.2.2.1.length:Int)/\0<=f)/\bK (S:=ly) (λd=>Ol d.2.1<|Ik (f+1)<|b (((),f+1,()),d.2.1,())) (λe=>cnd (g==x&&c.2.2.1.getD f.toNat 0==y) (bg a.2.1.length [f].length 8/\e (((),()),a.2.1++[f],())) (e (((),()),a.2.1,())))) (K (a.2.1,()))) (((),0,()),[],())
theorem Y9(c:ah)(x y:Int)(hok:ab (okL nC.args (c,x,y,())))(hpre:ab (nC.pre (c,x,y,()))):Iw c x y (λr=>r=nC.res (c,x,y,())):=by
 simp only[nC,okL,T.oks,T.ok,ap,ab,aL,az,aW]at hok hpre
 try dsimp only[T.den]at hok hpre
 delta Iw Ik Iq Ix Ol
 dsimp -proj -eta only;have hm:c.2.1.length<=40:=hpre.1;have hlt:c.2.2.1.length=c.2.1.length:=hpre.2;refine bt (λ(s:l8)=>0<=s.1.2.1/\s.1.2.1<=c.2.1.length/\s.2.1=dh s.1.2.1.toNat λf=>c.2.1.getD f.toNat 0==x&&c.2.2.1.getD f.toNat 0==y) (λ(s:l8)=>(c.2.1.length-s.1.2.1).toNat) ?_ ⟨ak,ak,rfl⟩;rintro⟨⟨_,i,_⟩,l,_⟩ next ⟨h0,h1,h2⟩ hn hin hl
 try dsimp only at h0 h1 h2 hn⊢
 subst h2;refine aE (λhc=>⟨h0,hc,λ_=>aa,bZ (λs1=>s1.2.1=dh (i+1).toNat λf=>c.2.1.getD f.toNat 0==x&&c.2.2.1.getD f.toNat 0==y) (λs1 hs _=>⟨aB,hn _ ⟨cw,cw,hs⟩ cw⟩) (λk hk=>aJ (λhx=>⟨?_,hk _ ?_⟩) (λhx=>hk _ ?_))⟩) (λhc=>?_)
 ·have:=gD (p:=λf=>c.2.1.getD f.toNat 0==x&&c.2.2.1.getD f.toNat 0==y) i.toNat;unfold bg;rw[ce];have h3:(i::([]:List Int)).length=1:=rfl;rw[h3];omega
 ·exact (xU h0 hx).symm
 ·exact (xR h0 hx).symm
 ·have e1:i.toNat=c.2.1.length:=aa
  simp only[nC,aF];rw[e1]
theorem Af:aN Tryz.prog 88 nC:=ctb aR aS 88 Tryz.f88 nC XL [] (λx K=>Iw x.1 x.2.1 x.2.2.1 K) (λx h1 h2=>Y9 x.1 x.2.1 x.2.2.1 h1 h2)
def pG(l:aA)(n:Int):Bool:=l.any λx=>x==n
def uE:Ct:=⟨[cy,aC],[false,false],λx=>[],[(false,cU)],λx=>(pG x.1 x.2.1,()),false,none⟩
def XZ:Ann:=(.s .n (.s (.s .n (.l tx [] [0,1] .n)) .n))
def I4(list:aA)(n:Int)(K:d9):Prop:=aK (S:=cH) (λa b=>Iq a.1.1<|cnd (decide (a.1.1<(list.length:Int))) (Ix a.1.1 list.length<|cnd (list.getD a.1.1.toNat 0==n) (K (true,())) (Ik (a.1.1+1)<|b ((a.1.1+1,()),()))) (K (false,()))) ((0,()),())
theorem Yv(list:aA)(n:Int):Mh uE (list,n,()) (I4 list n):=by
 intro hok hpre;simp only[uE,okL,T.oks,T.ok,ap,ab,aL,az,aW]at hok hpre
 try dsimp only[T.den]at hok hpre
 delta I4 Ik Iq Ix
 refine bt (λ(s:cH)=>0<=s.1.1/\s.1.1<=list.length/\pG list n=pG (list.drop s.1.1.toNat) n) (λ(s:cH)=>(list.length-s.1.1).toNat) ?_ ak;rintro⟨⟨i,_⟩,_⟩ next ⟨h0,h1,h2⟩ hn hin
 simp only at h0 h1 h2 hn⊢;refine aE (λhc=>?_) (λhc=>?_)
 ·rw[tE list 0 h0 hc]at h2;simp only[pG,List.any_cons]at h2
  grind[cnd,ce,cF,uE,pG]
 ·rw[ve list aa]at h2
  grind[cnd,ce,cF,uE,pG]
theorem XM:aN Tryz.prog 159 uE:=ctb aR aS 159 Tryz.f159 uE XZ [] (λx K=>I4 x.1 x.2.1 K) (λx h1 h2=>Yv x.1 x.2.1 h1 h2)
def idR(c:ah)(f:Int):Bool:=c.2.2.2.1.getD (c.2.1.getD f.toNat 0).toNat 0==f
def vJ(c:ah)(f g:Int):Bool:=aq c f g==c.2.2.2.1.getD (c.2.1.getD f.toNat 0).toNat 0&&aq c g f==c.2.2.2.1.getD (c.2.2.1.getD f.toNat 0).toNat 0
def p7(c:ah)(f:Int):List Int->Int
 |[]=>-1
 |g::r=>if vJ c f g=true then g else p7 c f r
def Ce(c:ah)(f:Int):Int:=p7 c f (aF c (c.2.2.1.getD f.toNat 0) (c.2.1.getD f.toNat 0))
def tO(c:ah)(f g:Int):Bool:=c.2.1.getD g.toNat 0==c.2.2.1.getD f.toNat 0&&c.2.2.1.getD g.toNat 0==c.2.1.getD f.toNat 0&&aq c f g==c.2.2.2.1.getD (c.2.1.getD f.toNat 0).toNat 0
def rJ(c:ah)(f:Int):List Int:=dh c.2.1.length (tO c f)
def sv:Ct:=⟨[bO,aC],[true,false],λx=>[ShapeP x.1,0<=x.2.1,x.2.1<x.1.2.1.length],[(false,bS)],λx=>(rJ x.1 x.2.1,()),false,none⟩
def Vm:Ann:=(.s .n (.s .n (.s (.s .n (.l Lg tB [1,2] (.s .n (.s (.s .n (.j mM tB [1,2,6] .n)) .n)))) .n)))
def GZ(c:ah)(f:Int)(K:l6):Prop:=let n:=c.2.2.2.2.getD f.toNat [];let m:=c.2.1.length;let i:=c.2.2.1.getD f.toNat 0;let h:=c.2.1.getD f.toNat 0;aK (S:=(dH×dV)) (λa b=>let l:=a.1.2.1;let j:=c.2.2.1.getD l.toNat 0;let g:=c.2.1.getD l.toNat 0;Iq l<|Ol a.2.1<|cnd (decide (l<(m:Int))) (Ix l m<|Ix f c.2.2.1.length<|((g==i)=true->l<(c.2.2.1.length:Int)/\0<=l)/\((g==i)=true->f<(m:Int)/\0<=f)/\((g==i&&j==h)=true->f<(c.2.2.2.2.length:Int)/\0<=f)/\((g==i&&j==h)=true->l<(n.length:Int)/\0<=l)/\((g==i&&j==h)=true->f<(m:Int)/\0<=f)/\((g==i&&j==h)=true->h<(c.2.2.2.1.length:Int)/\0<=h)/\bK (S:=ly) (λd=>Ol d.2.1<|Ik (l+1)<|b (((),l+1,()),d.2.1,())) (λe=>cnd (g==i&&j==h&&n.getD l.toNat 0==c.2.2.2.1.getD h.toNat 0) (bg a.2.1.length [l].length 8/\e (((),()),a.2.1++[l],())) (e (((),()),a.2.1,())))) (K (a.2.1,()))) (((),0,()),[],())
theorem Vp(c:ah)(f:Int)(hok:ab (okL sv.args (c,f,())))(hpre:ab (sv.pre (c,f,()))):GZ c f (λr=>r=sv.res (c,f,())):=by
 simp only[sv,okL,T.oks,T.ok,ap,ab,aL,az,aW]at hok hpre
 try dsimp only[T.den]at hok hpre
 delta GZ Ik Iq Ix Ol
 dsimp -proj -eta only;obtain⟨S,f0,f1⟩:=hpre;have hlt:=S.lt;have hli:=S.li;have hlc:=S.lc;have hm:=S.m;have hf:=S.frm f0 f1;have rf:=S.row f f0 f1;refine Qc c.2.1.length (tO c f) ?_ ?_
 ·intro i out next i0 i1 hn hl hin hok
  have ri:=S.row i i0 i1
  try dsimp only
  refine aE (λ_=>?_) (λh=>absurd i1 h)
  repeat' (with_reducible apply And.intro)
  all_goals first|omega|(intro _;first|omega|(repeat' (with_reducible apply And.intro))<;>omega)|skip
  refine bZ (λs1=>s1.2.1=if tO c f i=true then out++[i]else out) (λs1 hs _=>⟨aB,hn _ hs⟩) (λk hk=>aJ (λhx=>⟨?_,hk _ ?_⟩) (λhx=>hk _ ?_))
  ·unfold bg;rw[ce];have h3:(i::([]:List Int)).length=1:=rfl;rw[h3];omega
  ·rw[am (show tO c f i=true from hx)]
  ·rw[aj (show ¬tO c f i=true from by unfold tO aq;rw[hx];simp)]
 ·intro next hin hok
  refine aE (λh=>absurd h (dK _)) (λ_=>?_);simp only[sv,rJ]
theorem Vl:aN Tryz.prog 157 sv:=ctb aR aS 157 Tryz.f157 sv Vm [(5,42)] (λx K=>GZ x.1 x.2.1 K) (λx h1 h2=>Vp x.1 x.2.1 h1 h2)
def tW(c:ah)(f g:Int):Bool:=c.2.1.getD g.toNat 0==c.2.2.1.getD f.toNat 0&&c.2.2.1.getD g.toNat 0==c.2.1.getD f.toNat 0&&aq c g f==c.2.2.2.1.getD (c.2.2.1.getD f.toNat 0).toNat 0
def vG(c:ah)(f:Int):List Int:=dh c.2.1.length (tW c f)
def sw:Ct:=⟨[bO,aC],[true,false],λx=>[ShapeP x.1,0<=x.2.1,x.2.1<x.1.2.1.length],[(false,bS)],λx=>(vG x.1 x.2.1,()),false,none⟩
def VJ:Ann:=(.s .n (.s .n (.s (.s .n (.l Lg tB [1,2] (.s .n (.s (.s .n (.j mM tB [1,2,6] .n)) .n)))) .n)))
def Ho(c:ah)(f:Int)(K:l6):Prop:=let o:=c.2.1.length;let n:=c.2.2.1.length;let j:=c.2.1.getD f.toNat 0;let g:=c.2.2.1.getD f.toNat 0;aK (S:=(dH×dV)) (λa b=>let l:=a.1.2.1;let m:=c.2.2.2.2.getD l.toNat [];let i:=c.2.2.1.getD l.toNat 0;let h:=c.2.1.getD l.toNat 0;Iq l<|Ol a.2.1<|cnd (decide (l<(o:Int))) (Ix l o<|Ix f n<|((h==g)=true->l<(n:Int)/\0<=l)/\((h==g)=true->f<(o:Int)/\0<=f)/\((h==g&&i==j)=true->l<(c.2.2.2.2.length:Int)/\0<=l)/\((h==g&&i==j)=true->f<(m.length:Int)/\0<=f)/\((h==g&&i==j)=true->f<(n:Int)/\0<=f)/\((h==g&&i==j)=true->g<(c.2.2.2.1.length:Int)/\0<=g)/\bK (S:=ly) (λd=>Ol d.2.1<|Ik (l+1)<|b (((),l+1,()),d.2.1,())) (λe=>cnd (h==g&&i==j&&m.getD f.toNat 0==c.2.2.2.1.getD g.toNat 0) (bg a.2.1.length [l].length 8/\e (((),()),a.2.1++[l],())) (e (((),()),a.2.1,())))) (K (a.2.1,()))) (((),0,()),[],())
theorem VV(c:ah)(f:Int)(hok:ab (okL sw.args (c,f,())))(hpre:ab (sw.pre (c,f,()))):Ho c f (λr=>r=sw.res (c,f,())):=by
 simp only[sw,okL,T.oks,T.ok,ap,ab,aL,az,aW]at hok hpre
 try dsimp only[T.den]at hok hpre
 delta Ho Ik Iq Ix Ol
 dsimp -proj -eta only;obtain⟨S,f0,f1⟩:=hpre;have hlt:=S.lt;have hli:=S.li;have hlc:=S.lc;have hm:=S.m;have hf:=S.frm f0 f1;have rf:=S.row f f0 f1;refine Qc c.2.1.length (tW c f) ?_ ?_
 ·intro i out next i0 i1 hn hl hin hok
  have ri:=S.row i i0 i1
  try dsimp only
  refine aE (λ_=>?_) (λh=>absurd i1 h)
  repeat' (with_reducible apply And.intro)
  all_goals first|omega|(intro _;first|omega|(repeat' (with_reducible apply And.intro))<;>omega)|skip
  refine bZ (λs1=>s1.2.1=if tW c f i=true then out++[i]else out) (λs1 hs _=>⟨aB,hn _ hs⟩) (λk hk=>aJ (λhx=>⟨?_,hk _ ?_⟩) (λhx=>hk _ ?_))
  ·unfold bg;rw[ce];have h3:(i::([]:List Int)).length=1:=rfl;rw[h3];omega
  ·rw[am (show tW c f i=true from hx)]
  ·rw[aj (show ¬tW c f i=true from by unfold tW aq;rw[hx];simp)]
 ·intro next hin hok
  refine aE (λh=>absurd h (dK _)) (λ_=>?_);simp only[sw,vG]
theorem VL:aN Tryz.prog 158 sw:=ctb aR aS 158 Tryz.f158 sw VJ [(5,42)] (λx K=>Ho x.1 x.2.1 K) (λx h1 h2=>VV x.1 x.2.1 h1 h2)
theorem QE{c:ah}{f:Int}{p:jt}:∀l:List Int,(∀g∈l,vJ c f g=true->p g=true)->p7 c f l=p7 c f (l.filter p)
 |[],_=>rfl
 |g::r,h=>by
  have ih:=QE r λg hg=>h g (fp _ hg)
  cases hp:p g with
  |true=>rw[oy,am hp];unfold p7;rw[ih]
  |false=>
   rw[oy,aj (by rw[hp];simp)]
   have hg:vJ c f g=false:=by
    cases hg:vJ c f g with
    |false=>rfl
    |true=>rw[h g (gk ..) hg]at hp;cases hp
   conv=>lhs;unfold p7
   rw[aj (by rw[hg];simp),ih]
theorem acf(c:ah)(f:Int):rJ c f=(aF c (c.2.2.1.getD f.toNat 0) (c.2.1.getD f.toNat 0)).filter λg=>aq c f g==c.2.2.2.1.getD (c.2.1.getD f.toNat 0).toNat 0:=by unfold aF;rw[Sk];rfl
theorem acy(c:ah)(f:Int):Ce c f=p7 c f (rJ c f):=by unfold Ce;rw[acf];refine QE _ λg _ h=>?_;unfold vJ at h;rw[ao]at h;exact h.1
theorem aa4{c:ah}{f g:Int}(h:g∈rJ c f):pG (vG c f) g=vJ c f g:=by
 have h':0<=g/\g<c.2.1.length/\tO c f g=true:=kS.1 h;have hq:=h'.2.2;unfold tO at hq;rw[ao,ao]at hq;rw[CD];have e:pG (vG c f) g=true<->g∈vG c f:=by unfold pG;simp
 have e2:g∈vG c f<->0<=g/\g<c.2.1.length/\tW c f g=true:=kS;rw[e,e2];unfold tW vJ;rw[hq.1.1,hq.1.2,hq.2];simp only[gB,bC];exact⟨λh=>h.2.2,λh=>⟨h'.1,h'.2.1,h⟩⟩
def s8:Ct:=⟨[bO,aC],[true,false],λx=>[ShapeP x.1,0<=x.2.1,x.2.1<x.1.2.1.length],[(false,dP)],λx=>(Ce x.1 x.2.1,()),false,none⟩
def Wb:Ann:=(.s .n (.s .n (.s (.s .n (.l pa [] [5,6] .n)) .n)))
def agf:FuncId->Option Ct:=lkp [(159,uE),(157,sv),(158,sw)]
def Hw(c:ah)(f:Int)(K:vU):Prop:=let d:=(rJ c f).length;ShapeP c/\(Ix f c.2.1.length<|ShapeP c/\(Ix f c.2.1.length<|aK (S:=cH) (λa b=>let e:=(rJ c f).getD a.1.1.toNat 0;Iq a.1.1<|cnd (decide (a.1.1<(d:Int))) (Ix a.1.1 d<|cnd (pG (vG c f) e) (Ix a.1.1 d<|K (e,())) (Ik (a.1.1+1)<|b ((a.1.1+1,()),()))) (K (-1,()))) ((0,()),())))
theorem Wm(c:ah)(f:Int)(hok:ab (okL s8.args (c,f,())))(hpre:ab (s8.pre (c,f,()))):Hw c f (λr=>r=s8.res (c,f,())):=by
 simp only[s8,okL,T.oks,T.ok,ap,ab,aL,az,aW]at hok hpre
 try dsimp only[T.den]at hok hpre
 delta Hw Ik Iq Ix
 dsimp -proj -eta only;obtain⟨S,f0,f1⟩:=hpre;have hl:(rJ c f).length<=40:=c8 (gD _) S.m;have hv:=acy c f;have hh:=λg=>@aa4 c f g;refine⟨S,f0,f1,S,f0,f1,?_⟩;simp only[s8,hv];generalize rJ c f=l at *;refine eV (n:=l.length) (λi=>p7 c f l=p7 c f (l.drop i.toNat)) aa ak ?_ ?_
 ·intro i next i0 i1 hP hn hin
  try dsimp only
  have hg:=hh _ (bX l 0 i0 i1);rw[tE l 0 i0 i1]at hP;simp only[p7]at hP;refine aE (λ_=>⟨i0,i1,aJ (λhx=>⟨i0,i1,?_⟩) (λhx=>⟨aB,hn ?_⟩)⟩) (λh=>absurd i1 h)
  ·rw[hP,am (by rw[←hg];exact hx)]
  ·rw[hP,aj (by rw[←hg,hx];simp)]
 ·intro next hP hin
  refine aE (λh=>absurd h an) (λ_=>?_);rw[hP,ve l aa];rfl
theorem Wd:aN Tryz.prog 154 s8:=ctb (au XM (au Vl (au VL aR))) aS 154 Tryz.f154 s8 Wb [(1,505)] (λx K=>Hw x.1 x.2.1 K) (λx h1 h2=>Wm x.1 x.2.1 h1 h2)
def vN(f g:aV)(l:aA)(a:Int):Bool:=aq f.2.1 (f.2.2.2.getD a.toNat 0) (l.getD (f.1.2.2.1.getD a.toNat 0).toNat 0)==aq f.2.1 (l.getD (f.1.2.1.getD a.toNat 0).toNat 0) (g.2.2.2.getD a.toNat 0)
structure ParP (f g:aV):Prop where
 F:FunP f
 G:FunP g
 s:g.1=f.1
 t:g.2.1=f.2.1
structure SqrP (f g:aV) (l:aA) (a:Int):Prop where
 p:ParP f g
 n:(l.length:Int)=f.1.1
 a0:0<=a
 a1:a<f.2.2.2.length
 x:0<=l.getD (f.1.2.1.getD a.toNat 0).toNat 0/\l.getD (f.1.2.1.getD a.toNat 0).toNat 0<f.2.1.2.1.length
 y:0<=l.getD (f.1.2.2.1.getD a.toNat 0).toNat 0/\l.getD (f.1.2.2.1.getD a.toNat 0).toNat 0<f.2.1.2.1.length
def sx:Ct:=⟨[io,io,cy,aC],[true,true,false,false],λx=>[SqrP x.1 x.2.1 x.2.2.1 x.2.2.2.1],[(false,cU)],λx=>(vN x.1 x.2.1 x.2.2.1 x.2.2.2.1,()),false,none⟩
def H7(f g:aV)(components:aA)(a:Int)(K:d9):Prop:=let e:=a.toNat;let d:=components.getD (f.1.2.2.1.getD e 0).toNat 0;let c:=f.2.1.2.2.2.2.getD (f.2.2.2.getD e 0).toNat [];let b:=components.getD (f.1.2.1.getD e 0).toNat 0;let h:=f.2.1.2.2.2.2.getD b.toNat [];Ix a f.2.2.2.length<|Ix (f.2.2.2.getD e 0) f.2.1.2.2.2.2.length<|Ix a f.1.2.2.1.length<|Ix (f.1.2.2.1.getD e 0) components.length<|Ix d c.length<|Ix a f.1.2.1.length<|Ix (f.1.2.1.getD e 0) components.length<|Ix b f.2.1.2.2.2.2.length<|Ix a g.2.2.2.length<|Ix (g.2.2.2.getD e 0) h.length<|K (c.getD d.toNat 0==h.getD (g.2.2.2.getD e 0).toNat 0,())
theorem WT(f g:aV)(components:aA)(a:Int)(hok:ab (okL sx.args (f,g,components,a,())))(hpre:ab (sx.pre (f,g,components,a,()))):H7 f g components a (λr=>r=sx.res (f,g,components,a,())):=by
 simp only[sx,okL,T.oks,T.ok,ap,ab,aL,az,aW]at hok hpre
 try dsimp only[T.den]at hok hpre
 delta H7 Ix
 dsimp -proj -eta only;obtain⟨⟨hF,hG,hs,ht⟩,hl,a0,a1,hx,hy⟩:=hpre;have hm:=hF.tgt.m;have lc:=hF.tgt.lc;have lt:=hF.src.lt;have la:=hF.fit.la;have ga:=hG.fit.la;rw[hs]at ga;have e:=hF.src.frm a0 aa;have f1:=fw.1 hF.fit.aw a a0 a1;have g1:=fw.1 hG.fit.aw a a0 aa;rw[ht]at g1;have r1:=hF.tgt.row _ f1.1 f1.2;have r2:=hF.tgt.row _ hx.1 hx.2
 repeat' (with_reducible apply And.intro)
 all_goals first|omega|skip
 simp only[sx,vN,aq]
theorem Wr:aN Tryz.prog 155 sx:=ctb aR aS 155 Tryz.f155 sx .n [(1,55006),(2,38)] (λx K=>H7 x.1 x.2.1 x.2.2.1 x.2.2.2.1 K) (λx h1 h2=>WT x.1 x.2.1 x.2.2.1 x.2.2.2.1 h1 h2)
def tV(f g:aV)(n:aA)(x a:Int):Bool:=(((f.1.2.1.getD a.toNat 0 != x&&f.1.2.2.1.getD a.toNat 0 != x)||decide (n.getD (f.1.2.1.getD a.toNat 0).toNat 0<0))||decide (n.getD (f.1.2.2.1.getD a.toNat 0).toNat 0<0))||vN f g n a
def nr(f g:aV)(iso:bo)(l:aA)(x h:Int):Bool:=!(iso&&decide (Ce f.2.1 h<0))&&cu f.2.2.2.length (tV f g (l.set x.toNat h) x)
def cW(s:fu)(l:aA)(x:Int):List Int:=(aF s.1.2.1 (s.1.2.2.1.getD x.toNat 0) (s.2.1.2.2.1.getD x.toNat 0)).filter (nr s.1 s.2.1 s.2.2.1 l x)
structure ChcP (s:fu) (l:aA) (x:Int):Prop where
 p:ParP s.1 s.2.1
 n:(l.length:Int)=s.1.1.1
 w:∀y∈l,y<s.1.2.1.2.1.length
 x0:0<=x
 x1:x<s.1.1.1
def qj:Ct:=⟨[(.pt Yb),cy,aC],[false,false,false],λx=>[ChcP x.1 x.2.1 x.2.2.1],[(false,bS)],λx=>(cW x.1 x.2.1 x.2.2.1,()),false,none⟩
def VF:Ann:=(.s .n (.s .n (.s .n (.s .n (.s (.s .n (.l [(10,(.ref 800010 [])),(11,(.d aC))] [(800010,bS)] [0,1,2,7,8,9] (.s .n (.s (.j [(10,(.ref 800010 []))] [(800010,bS)] [0,1,2,7,8,9,11] (.s .n (.s .n (.s .n (.s .n (.s (.s .n (.l [(10,(.ref 800010 [])),(12,(.ref 106600 [])),(13,(.d .bool)),(14,(.d aC))] [(800010,bS),(106600,bS)] [0,1,2,7,8,9,11] .n)) (.s .n (.j [(10,(.ref 800010 []))] [(800010,bS)] [0,1,2,7,8,9,11] .n)))))))) .n)))) .n)))))
def agc:FuncId->Option Ct:=lkp [(143,km),(88,nC),(154,s8),(155,sx)]
def H5(s:fu)(components:aA)(x:Int)(K:l6):Prop:=let u:=s.1.2.1;let r:=u.2.1.length;let i:=aF u (s.1.2.2.1.getD x.toNat 0) (s.2.1.2.2.1.getD x.toNat 0);Ix x s.1.2.2.1.length<|Ix x s.2.1.2.2.1.length<|r<=40/\u.2.2.1.length=r/\aK (S:=(dH×dV)) (λa b=>let p:=a.1.2.1;let m:=i.getD p.toNat 0;Iq p<|Ol a.2.1<|cnd (decide (p<(i.length:Int))) (bK (S:=ly) (λc=>Ol c.2.1<|Ik (p+1)<|b (((),p+1,()),c.2.1,())) (λd=>(s.2.2.1=true->p<(i.length:Int)/\0<=p)/\(s.2.2.1=true->(Ix m r<|ShapeP u))/\cnd (s.2.2.1&&decide (Ce u m<0)) (d (((),()),a.2.1,())) (components.length<=1099511627776/\(Ix p i.length<|Ix x components.length<|aK (S:=((Unit×vR)×pI)) (λe f=>let t:=e.2.2.1;let n:=e.1.2.2.2.1;let l:=s.1.1.2.2.1.getD n.toNat 0;let q:=decide (t.getD l.toNat 0<0);let j:=s.1.1.2.1.getD n.toNat 0;let o:=decide (t.getD j.toNat 0<0);Iq n<|Ol e.2.1<|Ol t<|cnd (e.1.2.2.1&&decide (n<(s.1.2.2.2.length:Int))) (Ix n s.1.1.2.1.length<|Ix n s.1.1.2.2.1.length<|((j != x&&l != x)=false->j<(t.length:Int)/\0<=j)/\((j != x&&l != x||o)=false->l<(t.length:Int)/\0<=l)/\((j != x&&l != x||o||q)=false->SqrP s.1 s.2.1 t n)/\(Ik (n+1)<|f (((),(),j != x&&l != x||o||q||vN s.1 s.2.1 t n,n+1,()),e.2.1,t,()))) (bK (S:=ly) (λg=>Ol g.2.1<|d (((),()),g.2.1,())) (λh=>cnd e.1.2.2.1 (Ix p i.length<|bg e.2.1.length [m].length 8/\h (((),()),e.2.1++[m],())) (h (((),()),e.2.1,()))))) (((),(),true,0,()),a.2.1,List.set components x.toNat m,()))))) (K (a.2.1,()))) (((),0,()),[],())
theorem Ws(s:fu)(components:aA)(x:Int)(hok:ab (okL qj.args (s,components,x,())))(hpre:ab (qj.pre (s,components,x,()))):H5 s components x (λr=>r=qj.res (s,components,x,())):=by
 simp only[qj,okL,T.oks,T.ok,ap,ab,aL,az,aW]at hok hpre
 try dsimp only[T.den]at hok hpre
 delta H5 Ik Iq Ix Ol
 dsimp -proj -eta only;obtain⟨⟨hF,hG,hs,ht⟩,hn,hw,x0,x1⟩:=hpre;have hm:=hF.tgt.m;have S:=hF.tgt;have lt:=hF.src.lt;have sm:=hF.src.m;have so:=hF.src.ob;have la:=hF.fit.la;have lo:=hF.fit.lo;have go:=hG.fit.lo;rw[hs]at go;refine⟨x0,aa,x0,aa,hm,S.lt,?_⟩;have hL:=E1 S (s.1.2.2.1.getD x.toNat 0) (s.2.1.2.2.1.getD x.toNat 0);have hmem:=λi:Int=>@Bw s.1.2.1 (s.1.2.2.1.getD x.toNat 0) (s.2.1.2.2.1.getD x.toNat 0) i;have hval:cW s components x=(aF s.1.2.1 (s.1.2.2.1.getD x.toNat 0) (s.2.1.2.2.1.getD x.toNat 0)).filter (nr s.1 s.2.1 s.2.2.1 components x):=rfl;generalize aF s.1.2.1 (s.1.2.2.1.getD x.toNat 0) (s.2.1.2.2.1.getD x.toNat 0)=l at *;refine iB (hV (nr s.1 s.2.1 s.2.2.1 components x) l) (n:=l.length) aa rfl ?_ ?_
 ·intro i next i0 i1 hnx hin hok
  have hmi:=hmem i i0 i1;have hf:=@xy (nr s.1 s.2.1 s.2.2.1 components x) l i;refine aE (λ_=>?_) (λh=>absurd i1 h)
  try dsimp only
  refine bZ (λs1=>s1.2.1=hV (nr s.1 s.2.1 s.2.2.1 components x) l (i+1)) (λs1 hs _=>⟨aB,by rw[←hs]at hnx;exact hnx⟩) (λk hk=>⟨λ_=>⟨i1,i0⟩,λ_=>⟨hmi.1,hmi.2.1,S⟩,aJ (λhx=>hk _ (vl i0 i1 (by unfold nr;rw[hx];rfl)).symm) (λhx=>⟨aa,i0,i1,x0,aa,?_⟩)⟩);have hq:nr s.1 s.2.1 s.2.2.1 components x (l.getD i.toNat 0)=cu s.1.2.2.2.length (tV s.1 s.2.1 (components.set x.toNat (l.getD i.toNat 0)) x):=by unfold nr;rw[hx];rfl
  have hcl:((components.set x.toNat (l.getD i.toNat 0)).length:Int)=s.1.1.1:=by rw[gK];exact hn
  have hcw:∀y∈components.set x.toNat (l.getD i.toNat 0),y<s.1.2.1.2.1.length:=λy hy=>by
   rcases CC hy with h|h
   ·exact hw y h
   ·rw[h];exact hmi.2.1
  generalize components.set x.toNat (l.getD i.toNat 0)=cs at *;refine bt (λ(s2:((Unit×vR)×pI))=>0<=s2.1.2.2.2.1/\s2.1.2.2.2.1<=s.1.2.2.2.length/\s2.2.1=hV (nr s.1 s.2.1 s.2.2.1 components x) l i/\s2.2.2.1=cs/\(s2.1.2.2.1=true->cu s2.1.2.2.2.1.toNat (tV s.1 s.2.1 cs x)=true)/\(s2.1.2.2.1=false->cu s.1.2.2.2.length (tV s.1 s.2.1 cs x)=false)) (λ(s2:((Unit×vR)×pI))=>(s.1.2.2.2.length-s2.1.2.2.2.1).toNat) ?_ ⟨dB _,an,rfl,rfl,λ_=>rfl,λh=>nomatch h⟩;rintro⟨⟨_,_,b,a,_⟩,y,z,_⟩ next1 ⟨a0,a1,hy,hz,hb,hb2⟩ hn1 hin1 hok1 hok2
  try dsimp only at a0 a1 hy hz hb hb2 hn1⊢
  subst hy;subst hz;refine aJ (λhc=>?_) (λhc=>?_)
  ·obtain⟨rfl,ha⟩:b=true/\a<(s.1.2.2.2.length:Int):=by simpa using hc
   have hP:=hb rfl;have e:=hF.src.frm a0 aa;have c1:=hcw _ (bX z 0 e.1 aa);have c2:=hcw _ (bX z 0 e.2.2.1 aa);refine⟨a0,aa,a0,aa,λ_=>⟨aa,e.1⟩,λ_=>⟨aa,e.2.2.1⟩,λhg=>⟨⟨hF,hG,hs,ht⟩,hcl,a0,ha,⟨?_,c1⟩,⟨?_,c2⟩⟩,aB,hn1 _ ⟨an,an,rfl,rfl,λh=>?_,λh=>Ez a0 ha h⟩ an⟩
   ·simp only[lE,gM]at hg;exact Int.not_lt.1 hg.1.2
   ·simp only[lE,gM]at hg;exact Int.not_lt.1 hg.2
   ·try dsimp only
    rw[xB a0,hP,gB];exact h
  ·refine bZ (λs3=>s3.2.1=hV (nr s.1 s.2.1 s.2.2.1 components x) l (i+1)) (λs3 hs _=>hk _ hs) (λk1 hk1=>?_)
   cases b with
   |true=>
    have hj:¬a<(s.1.2.2.2.length:Int):=by simpa using hc
    have e:a.toNat=s.1.2.2.2.length:=aa
    have hP:=hb rfl;rw[e]at hP;refine⟨λ_=>⟨i0,i1,?_,hk1 _ (ya i0 i1 (hq.trans hP)).symm⟩,λh=>nomatch h⟩;unfold bg;rw[ce];have h3:((l.getD i.toNat 0)::([]:List Int)).length=1:=rfl;rw[h3];omega
   |false=>exact⟨(λh=>nomatch h),λ_=>hk1 _ (vl i0 i1 (hq.trans (hb2 rfl))).symm⟩
 ·intro next hin hok
  refine aE (λh=>absurd h (dK _)) (λ_=>?_);simp only[qj];rw[xO aa,hval]
theorem VX:aN Tryz.prog 150 qj:=ctb (au oL (au Af (au Wd (au Wr aR)))) aS 150 Tryz.f150 qj VF [(1,2012),(2,517),(7,10),(14,11),(15,33)] (λx K=>H5 x.1 x.2.1 x.2.2.1 K) (λx h1 h2=>Ws x.1 x.2.1 x.2.2.1 h1 h2)
structure TyP (c:ah):Prop where
 ob:0<=c.1
 lt:c.2.2.1.length=c.2.1.length
 li:(c.2.2.2.1.length:Int)=c.1
 lc:c.2.2.2.2.length=c.2.1.length
 row:∀f:Int,0<=f->f<c.2.1.length->(c.2.2.2.2.getD f.toNat []).length=c.2.1.length
 fr:∀f:Int,0<=f->f<c.2.1.length->0<=c.2.1.getD f.toNat 0/\c.2.1.getD f.toNat 0<c.1
 to:∀f:Int,0<=f->f<c.2.1.length->0<=c.2.2.1.getD f.toNat 0/\c.2.2.1.getD f.toNat 0<c.1
 idn:∀x:Int,0<=x->x<c.1->0<=c.2.2.2.1.getD x.toNat 0/\c.2.2.2.1.getD x.toNat 0<c.2.1.length/\c.2.1.getD (c.2.2.2.1.getD x.toNat 0).toNat 0=x/\c.2.2.1.getD (c.2.2.2.1.getD x.toNat 0).toNat 0=x
 yes:∀f g:Int,0<=f->f<c.2.1.length->0<=g->g<c.2.1.length->c.2.2.1.getD f.toNat 0=c.2.1.getD g.toNat 0->0<=aq c f g/\aq c f g<c.2.1.length/\c.2.1.getD (aq c f g).toNat 0=c.2.1.getD f.toNat 0/\c.2.2.1.getD (aq c f g).toNat 0=c.2.2.1.getD g.toNat 0
 no:∀f g:Int,0<=f->f<c.2.1.length->0<=g->g<c.2.1.length->c.2.2.1.getD f.toNat 0≠c.2.1.getD g.toNat 0->aq c f g=-1
theorem iw{d:α}{a b:List α}(h0:0<=i)(h:i<a.length):(a++b).getD i.toNat d=a.getD i.toNat d:=by rw[br,fT aa,←br]
theorem lh{d:α}{a b:List α}(h:(a.length:Int)<=i):(a++b).getD i.toNat d=b.getD (i-a.length).toNat d:=by rw[br,g9 aa,←br,show i.toNat-a.length=(i-a.length).toNat by omega]
theorem x9(h0:0<=i)(h:i<n):(List.replicate n a).getD i.toNat 0=a:=by rw[br,G5,am aa];rfl
structure FrcP (c d:ah) (arr:aA):Prop where
 C:TyP c
 D:TyP d
 l:arr.length=c.2.1.length
 m:c.2.1.length<=1000000
 t:∃ob:Int->Int,∀a:Int,0<=a->a<c.2.1.length->0<=arr.getD a.toNat 0->arr.getD a.toNat 0<d.2.1.length/\d.2.1.getD (arr.getD a.toNat 0).toNat 0=ob (c.2.1.getD a.toNat 0)/\d.2.2.1.getD (arr.getD a.toNat 0).toNat 0=ob (c.2.2.1.getD a.toNat 0)
abbrev jK:=List Int×Bool×Bool
def md(c d:ah)(a b:Int)(s:jK):jK:=
 if s.2.2=false then s else
 if aq c a b<0\/s.1.getD a.toNat 0<0\/s.1.getD b.toNat 0<0 then s else
 if 0<=s.1.getD (aq c a b).toNat 0/\s.1.getD (aq c a b).toNat 0≠aq d (s.1.getD a.toNat 0) (s.1.getD b.toNat 0)then (s.1,s.2.1,false)else
 (s.1.set (aq c a b).toNat (aq d (s.1.getD a.toNat 0) (s.1.getD b.toNat 0)),s.2.1||decide (s.1.getD (aq c a b).toNat 0<0),true)
def iS(c d:ah)(a:Int):Nat->jK->jK
 |0,s=>s
 |n+1,s=>md c d a n (iS c d a n s)
def ji(c d:ah)(m:Nat):Nat->jK->jK
 |0,s=>s
 |n+1,s=>iS c d n m (ji c d m n s)
def tS(c d:ah):Nat->List Int->List Int×Bool
 |0,arr=>(arr,true)
 |n+1,arr=>if (ji c d arr.length arr.length (arr,false,true)).2.2=false then ((ji c d arr.length arr.length (arr,false,true)).1,false)else if (ji c d arr.length arr.length (arr,false,true)).2.1=true then tS c d n (ji c d arr.length arr.length (arr,false,true)).1 else ((ji c d arr.length arr.length (arr,false,true)).1,true)
def mU(c d:ah)(arr:aA):List Int×Bool:=tS c d (arr.length+1) arr
theorem Px{d:ah}{s:jK}(h:s.2.2=false):md c d a b s=s:=by unfold md;rw[am h]
theorem O3{c d:ah}{a:Int}{s:jK}{k:Nat}(h:(iS c d a k s).2.2=false):∀n,k<=n->iS c d a n s=iS c d a k s
 |0,hn=>by rw[show k=0 by omega]
 |n+1,hn=>by
  by_cases e:k=n+1
  ·rw[e]
  ·have ih:=O3 h n aa;show md c d a n (iS c d a n s)=_;rw[ih,Px h]
theorem Pe{c d:ah}{a:Int}{s:jK}(h:s.2.2=false):∀n,iS c d a n s=s
 |0=>rfl
 |n+1=>by show md c d a n (iS c d a n s)=_;rw[Pe h n,Px h]
theorem Oy{c d:ah}{m:Nat}{s:jK}{k:Nat}(h:(ji c d m k s).2.2=false):∀n,k<=n->ji c d m n s=ji c d m k s
 |0,hn=>by rw[show k=0 by omega]
 |n+1,hn=>by
  by_cases e:k=n+1
  ·rw[e]
  ·have ih:=Oy h n aa;show iS c d n m (ji c d m n s)=_;rw[ih,Pe h]
def oh(l:aA):Nat:=l.countP λx=>decide (x<0)
theorem Rb:∀(l:aA)(h:Nat)(x:Int),h<l.length->0<=x->oh (l.set h x)+(if l.getD h 0<0 then 1 else 0)=oh l
 |[],_,_,h,_=>by simp at h
 |y::l,0,x,_,hx=>by
  unfold oh;simp only[ur,List.countP_cons,wx];rw[aj (by simp;omega)];by_cases hy:y<0
  ·rw[am hy,am (by simpa using hy)]
  ·rw[aj hy,aj (by simpa using hy)]
 |y::l,h+1,x,hl,hx=>by have ih:=Rb l h x (by simpa using hl) hx;unfold oh at ih⊢;simp only[C4,List.countP_cons,zp];omega
theorem FrcP.im{d:ah}(F:FrcP c d arr)(a0:0<=a)(a1:a<c.2.1.length)(b0:0<=b)(b1:b<c.2.1.length)(h:0<=aq c a b)(ha:0<=arr.getD a.toNat 0)(hb:0<=arr.getD b.toNat 0):
  aq c a b<c.2.1.length/\arr.getD a.toNat 0<d.2.1.length/\arr.getD b.toNat 0<d.2.1.length/\0<=aq d (arr.getD a.toNat 0) (arr.getD b.toNat 0)/\FrcP c d (arr.set (aq c a b).toNat (aq d (arr.getD a.toNat 0) (arr.getD b.toNat 0))):=by
 obtain⟨ob,T⟩:=F.t;have hl:=F.l;have e:c.2.2.1.getD a.toNat 0=c.2.1.getD b.toNat 0:=sf λhn=>by rw[F.C.no a b a0 a1 b0 b1 hn]at h;omega
 have y:=F.C.yes a b a0 a1 b0 b1 e;have ta:=T a a0 a1 ha;have tb:=T b b0 b1 hb;have z:=F.D.yes _ _ ha ta.1 hb tb.1 (by rw[ta.2.2,tb.2.1,e]);refine⟨y.2.1,ta.1,tb.1,z.1,F.C,F.D,by rw[gK];exact hl,F.m,ob,λx x0 x1 hx=>?_⟩;by_cases ex:x=aq c a b
 ·subst ex;have eg:(arr.set (aq c a b).toNat (aq d (arr.getD a.toNat 0) (arr.getD b.toNat 0))).getD (aq c a b).toNat 0=aq d (arr.getD a.toNat 0) (arr.getD b.toNat 0):=by rw[br,zq aa];rfl
  rw[eg,z.2.2.1,z.2.2.2,y.2.2.1,y.2.2.2,ta.2.1,tb.2.2];exact⟨z.2.1,rfl,rfl⟩
 ·have eg:(arr.set (aq c a b).toNat (aq d (arr.getD a.toNat 0) (arr.getD b.toNat 0))).getD x.toNat 0=arr.getD x.toNat 0:=by rw[br,zr aa,←br]
  rw[eg]at hx⊢;exact T x x0 x1 hx
structure FrcI (c d:ah) (arr:aA) (more:bo) (z:aA):Prop where
 p:FrcP c d z
 n:oh z<=oh arr
 k:more=true->oh z<oh arr
theorem FrcI.step{d:ah}{z:aA}(I:FrcI c d arr more z)(a0:0<=a)(a1:a<c.2.1.length)(b0:0<=b)(b1:b<c.2.1.length)(h:0<=aq c a b)(ha:0<=z.getD a.toNat 0)(hb:0<=z.getD b.toNat 0):
  FrcI c d arr (more||decide (z.getD (aq c a b).toNat 0<0)) (z.set (aq c a b).toNat (aq d (z.getD a.toNat 0) (z.getD b.toNat 0))):=by
 have q:=I.p.im a0 a1 b0 b1 h ha hb;have hl:=I.p.l;have ng:=Rb z (aq c a b).toNat _ aa q.2.2.2.1;have h1:=I.n;refine⟨q.2.2.2.2,?_,λhm=>?_⟩
 ·split at ng<;>omega
 ·rw[e9,db]at hm;rcases hm with hm|hm
  ·have:=I.k hm;split at ng<;>omega
  ·rw[am hm]at ng;omega
def mB:Wt:=⟨bS,[bO,bO],[true,true],λx y=>[FrcP y.1 y.2.1 x],λx y=>(mU y.1 y.2.1 x).1,[(false,cU)],λx y=>((mU y.1 y.2.1 x).2,()),2⟩
def HO:Ct:=g7 mB
def WQ:Ann:=(.s .n (.s (.s .n (.l [(2,(.ref 1000000 [])),(7,(.d .bool))] EZ [3,4] (.s .n (.s .n (.s .n (.l [(2,(.ref 1000000 [])),(7,(.d .bool)),(8,(.d aC))] EZ [3,4] (.s .n (.s (.s .n (.l [(2,(.ref 1000000 [])),(7,(.d .bool)),(9,(.d aC))] EZ [3,4,8] (.s .n (.s (.j [(2,(.ref 1000000 [])),(7,(.d .bool))] EZ [3,4,8,9] .n) .n)))) .n)))))))) .n))
def Nq(arrows:aA)(c d:ah)(K:(List Int)->(Bool×Unit)->Prop):Prop:=aK (S:=Ch) (λa b=>Ol a.2.1<|cnd a.1.2.1 (aK (S:=(vR×dV)) (λe f=>let p:=e.1.2.2.1;let v:=c.2.2.2.2.getD p.toNat [];Iq p<|Ol e.2.1<|cnd (decide (p<(e.2.1.length:Int))) (aK (S:=(vR×dV)) (λg h=>let o:=g.2.1.length;let n:=g.1.2.2.1;let t:=g.2.1.getD n.toNat 0;let m:=g.2.1.getD p.toNat 0;let u:=d.2.2.2.2.getD m.toNat [];let q:=u.getD t.toNat 0;let l:=v.getD n.toNat 0;let w:=decide (l<0);let r:=g.2.1.getD l.toNat 0;Iq n<|Ol g.2.1<|cnd (decide (n<(o:Int))) (bK (S:=Ch) (λi=>Ol i.2.1<|Ik (n+1)<|h (((),i.1.2.1,n+1,()),i.2.1,())) (λj=>Ix p c.2.2.2.2.length<|Ix n v.length<|(w=false->p<(o:Int)/\0<=p)/\((w||decide (m<0))=false->n<(o:Int)/\0<=n)/\cnd (w||decide (m<0)||decide (t<0)) (j (((),g.1.2.1,()),g.2.1,())) (Ix p o<|Ix m d.2.2.2.2.length<|Ix n o<|Ix t u.length<|Ix l o<|(decide (0<=r)=true->l<(o:Int)/\0<=l)/\cnd (decide (0<=r)&&r != q) (K g.2.1 (false,())) ((g.1.2.1=false->l<(o:Int)/\0<=l)/\(Ix l o<|j (((),g.1.2.1||decide (r<0),()),List.set g.2.1 l.toNat q,())))))) (Ik (p+1)<|f (((),g.1.2.1,p+1,()),g.2.1,()))) (((),e.1.2.1,0,()),e.2.1,())) (b (((),e.1.2.1,()),e.2.1,()))) (((),false,0,()),a.2.1,())) (K a.2.1 (true,()))) (((),true,()),arrows,())
abbrev vV:Type:=(vR×dV)
theorem XD(arrows:aA)(c d:ah)(hok:ab (mB.o.strip.oks arrows))(hok2:ab (okL mB.as (c,d,())))(hpre:ab (mB.pre arrows (c,d,()))):Nq arrows c d (λz r=>z=mB.new arrows (c,d,())/\r=mB.res arrows (c,d,())):=by
 simp only[mB,O.strip,okL,T.oks,T.ok,ap,ab,aL,az,aW]at hok hok2 hpre
 try dsimp only[T.den]at hok
 try dsimp only[T.den]at hok2
 try dsimp only[T.den]at hpre
 delta Nq Ik Iq Ix Ol
 dsimp -proj -eta only;have F0:FrcP c d arrows:=hpre;clear hok hok2 hpre;have hl0:=F0.l;have hm0:=F0.m;have neg_le:∀l:List Int,oh l<=l.length:=λl=>List.countP_le_length;refine bt (λ(s:Ch)=>FrcP c d s.2.1/\(s.1.2.1=true->∃n,oh s.2.1<n/\tS c d n s.2.1=mU c d arrows)/\(s.1.2.1=false->mU c d arrows=(s.2.1,true))) (λ(s:Ch)=>if s.1.2.1=true then oh s.2.1+1 else 0) ?_ ⟨F0,λ_=>⟨arrows.length+1,by have:=neg_le arrows;dsimp only;omega,rfl⟩,λh=>by cases h⟩;rintro⟨⟨_,more,_⟩,arr,_⟩ next ⟨F,hT,hF⟩ hnx _
 try dsimp only at F hT hF hnx⊢
 refine aJ (λhmore=>?_) (λhmore=>?_)
 ·subst hmore;obtain⟨n,hn,hN⟩:=hT rfl;obtain⟨n,rfl⟩:∃k,n=k+1:=⟨n-1,aa⟩;have hla:=F.l;have hlc:=F.C.lc;rw[tS]at hN;refine bt (λ(s:vV)=>0<=s.1.2.2.1/\s.1.2.2.1<=c.2.1.length/\FrcI c d arr s.1.2.1 s.2.1/\ji c d c.2.1.length s.1.2.2.1.toNat (arr,false,true)=(s.2.1,s.1.2.1,true)) (λ(s:vV)=>(c.2.1.length-s.1.2.2.1).toNat) ?_ ⟨ak,ak,⟨F,bd _,λh=>by cases h⟩,rfl⟩;rintro⟨⟨_,m1,a,_⟩,z1,_⟩ next1 ⟨a0,a1,I1,e1⟩ hn1 _ _
  try dsimp only at a0 a1 I1 e1 hn1⊢
  have hl1:=I1.p.l;refine aE (λha=>?_) (λha=>?_)
  ·have ha':a<c.2.1.length:=aa
   have hrow:=F.C.row a a0 ha';refine bt (λ(s:vV)=>0<=s.1.2.2.1/\s.1.2.2.1<=c.2.1.length/\FrcI c d arr s.1.2.1 s.2.1/\iS c d a s.1.2.2.1.toNat (z1,m1,true)=(s.2.1,s.1.2.1,true)) (λ(s:vV)=>(c.2.1.length-s.1.2.2.1).toNat) ?_ ⟨ak,ak,I1,rfl⟩;rintro⟨⟨_,m2,b,_⟩,z2,_⟩ next2 ⟨b0,b1,I2,e2⟩ hn2 _ _
   try dsimp only at b0 b1 I2 e2 hn2⊢
   have hl2:=I2.p.l;refine aE (λhb=>?_) (λhb=>?_)
   ·have hb':b<c.2.1.length:=aa
    have hstep:iS c d a (b+1).toNat (z1,m1,true)=md c d a b (z2,m2,true):=by rw[show (b+1).toNat=b.toNat+1 by omega];show md c d a (b.toNat:Int) (iS c d a b.toNat (z1,m1,true))=_;rw[e2,show ((b.toNat:Nat):Int)=b by omega]
    have hS:md c d a b (z2,m2,true)=if aq c a b<0\/z2.getD a.toNat 0<0\/z2.getD b.toNat 0<0 then (z2,m2,true)else if 0<=z2.getD (aq c a b).toNat 0/\z2.getD (aq c a b).toNat 0≠aq d (z2.getD a.toNat 0) (z2.getD b.toNat 0)then (z2,m2,false)else (z2.set (aq c a b).toNat (aq d (z2.getD a.toNat 0) (z2.getD b.toNat 0)),m2||decide (z2.getD (aq c a b).toNat 0<0),true):=by unfold md;rw[aj ak]
    have ecell:(c.2.2.2.2.getD a.toNat []).getD b.toNat 0=aq c a b:=rfl;rw[ecell];refine bZ (λ(q:Ch)=>FrcI c d arr q.1.2.1 q.2.1/\iS c d a (b+1).toNat (z1,m1,true)=(q.2.1,q.1.2.1,true)) ?_ (λk hk=>?_)
    ·rintro⟨⟨_,m3,_⟩,z3,_⟩ ⟨I3,e3⟩ _
     try dsimp only at I3 e3⊢
     exact⟨aB,hn2 _ ⟨an,an,I3,e3⟩ an⟩
    ·refine⟨a0,aa,b0,aa,λ_=>⟨aa,a0⟩,λ_=>⟨hb,b0⟩,aJ (λhx=>hk _ ⟨I2,?_⟩) (λhx=>?_)⟩
     ·try dsimp only
      rw[hstep,hS,am];simp only[e9,db]at hx;rcases hx with (hx|hx)|hx
      ·exact .inl hx
      ·exact .inr (.inl hx)
      ·exact .inr (.inr hx)
     ·simp only[lE,gM]at hx;obtain⟨⟨x1,x2⟩,x3⟩:=hx;have q:=I2.p.im a0 ha' b0 hb' aa aa aa;have dlc:=F.D.lc;have drow:=F.D.row (z2.getD a.toNat 0) aa q.2.1;have ecd:(d.2.2.2.2.getD (z2.getD a.toNat 0).toNat []).getD (z2.getD b.toNat 0).toNat 0=aq d (z2.getD a.toNat 0) (z2.getD b.toNat 0):=rfl;rw[ecd];refine⟨a0,aa,aa,aa,b0,hb,aa,aa,aa,aa,λ_=>⟨aa,aa⟩,aJ (λhy=>?_) (λhy=>⟨λ_=>⟨aa,aa⟩,aa,aa,hk _ ⟨I2.step a0 ha' b0 hb' aa aa aa,?_⟩⟩)⟩
      ·simp only[ao,db,lH]at hy;have hbad:iS c d a (b+1).toNat (z1,m1,true)=(z2,m2,false):=by rw[hstep,hS,aj aa,am hy]
       have hr2:=O3 (c:=c) (d:=d) (a:=a) (s:=(z1,m1,true)) (k:=(b+1).toNat) (by rw[hbad]) c.2.1.length aa;have ha2:ji c d c.2.1.length (a+1).toNat (arr,false,true)=(z2,m2,false):=by rw[show (a+1).toNat=a.toNat+1 by omega];show iS c d (a.toNat:Int) c.2.1.length (ji c d c.2.1.length a.toNat (arr,false,true))=_;rw[e1,show ((a.toNat:Nat):Int)=a by omega,hr2,hbad]
       have hall:=Oy (c:=c) (d:=d) (m:=c.2.1.length) (s:=(arr,false,true)) (k:=(a+1).toNat) (by rw[ha2]) c.2.1.length aa;rw[hla,hall,ha2,am rfl]at hN;exact⟨by simp only[mB];rw[←hN],by simp only[mB];rw[←hN]⟩
      ·try dsimp only
       rw[hstep,hS,aj aa,aj];rintro⟨h1,h2⟩;rw[iP h1,gB,fY]at hy;exact h2 hy
   ·have eb:b=c.2.1.length:=aa
    subst eb;rw[cQ]at e2;refine⟨aB,hn1 _ ⟨an,an,I2,?_⟩ an⟩
    try dsimp only
    rw[show (a+1).toNat=a.toNat+1 by omega];show iS c d (a.toNat:Int) c.2.1.length (ji c d c.2.1.length a.toNat (arr,false,true))=_;rw[e1,show ((a.toNat:Nat):Int)=a by omega,e2]
  ·have ea:a=c.2.1.length:=aa
   subst ea;rw[cQ]at e1;rw[hla,e1,aj ak]at hN
   try dsimp only at hN
   refine hnx _ ⟨I1.p,λhm=>⟨n,?_,?_⟩,λhm=>?_⟩ ?_
   ·have:=I1.k hm;dsimp only;omega
   ·try dsimp only at hm⊢;rw[am hm]at hN;exact hN
   ·try dsimp only at hm⊢;rw[aj (by rw[hm];decide)]at hN;exact hN.symm
   ·try dsimp only
    rw[am rfl];split
    ·rename_i hm;have:=I1.k hm;omega
    ·omega
 ·subst hmore;have:=hF rfl;exact⟨by simp only[mB];rw[this],by simp only[mB];rw[this]⟩
theorem WH:aN Tryz.prog 152 HO:=wtb aR aS 152 Tryz.f152 mB WQ [(12,12)] (λx y h1 h2 h3=>Eq.mp (by kernel_rfl) (XD x y.1 y.2.1 h1 h2 h3))
def lu(arr:aA):Nat->Int->Int
 |0,f=>f
 |n+1,f=>if f<arr.length/\0<=arr.getD f.toNat 0 then lu arr n (f+1)else f
def jo(c d:ah)(ob:aA):Nat->List Int->Int->List (List Int)->List (List Int)
 |0,_,_,found=>found
 |n+1,arr,f0,found=>
  if lu arr arr.length f0=arr.length then found++[arr]else
  (aF d (ob.getD (c.2.1.getD (lu arr arr.length f0).toNat 0).toNat 0) (ob.getD (c.2.2.1.getD (lu arr arr.length f0).toNat 0).toNat 0)).foldl (λfd h=>if (fd.length:Int)<=200 then (if (mU c d (arr.set (lu arr arr.length f0).toNat h)).2=true then jo c d ob n (mU c d (arr.set (lu arr arr.length f0).toNat h)).1 (lu arr arr.length f0+1) fd else fd)else fd) found
structure FrcO (c d:ah) (ob:ml) (arr:aA):Prop where
 C:TyP c
 D:TyP d
 l:arr.length=c.2.1.length
 m:c.2.1.length<=1000000
 t:∀a:Int,0<=a->a<c.2.1.length->0<=arr.getD a.toNat 0->arr.getD a.toNat 0<d.2.1.length/\d.2.1.getD (arr.getD a.toNat 0).toNat 0=ob (c.2.1.getD a.toNat 0)/\d.2.2.1.getD (arr.getD a.toNat 0).toNat 0=ob (c.2.2.1.getD a.toNat 0)
theorem FrcO.p{d:ah}(h:FrcO c d ob arr):FrcP c d arr:=⟨h.C,h.D,h.l,h.m,ob,h.t⟩
theorem aai(h0:0<=h)(h1:h<l.length):(l.set h.toNat x).getD h.toNat 0=x:=by rw[br,zq aa];rfl
theorem E_(h0:0<=h)(g0:0<=g)(e:g≠h):(l.set h.toNat x).getD g.toNat 0=l.getD g.toNat 0:=by rw[br,zr aa,←br]
theorem FrcO.set{d:ah}(F:FrcO c d ob arr)(h0:0<=h)(h1:h<c.2.1.length)(x1:x<d.2.1.length)(e1:d.2.1.getD x.toNat 0=ob (c.2.1.getD h.toNat 0))(e2:d.2.2.1.getD x.toNat 0=ob (c.2.2.1.getD h.toNat 0)):FrcO c d ob (arr.set h.toNat x):=by
 have hl:=F.l;refine⟨F.C,F.D,by rw[gK];exact hl,F.m,λa a0 a1 ha=>?_⟩;by_cases e:a=h
 ·subst e;rw[aai a0 aa]at ha⊢;exact⟨x1,e1,e2⟩
 ·rw[E_ h0 a0 e]at ha⊢;exact F.t a a0 a1 ha
theorem adm{d:ah}(a0:0<=a)(a1:a<c.2.1.length)(b0:0<=b)(b1:b<c.2.1.length){s:jK}(F:FrcO c d ob s.1):FrcO c d ob (md c d a b s).1:=by
 unfold md;split
 ·exact F
 split
 ·exact F
 ·rename_i hn;split
  ·exact F
  ·have h:0<=aq c a b:=aa
   have ha:0<=s.1.getD a.toNat 0:=aa
   have hb:0<=s.1.getD b.toNat 0:=aa
   have e:c.2.2.1.getD a.toNat 0=c.2.1.getD b.toNat 0:=sf λhn=>by rw[F.C.no a b a0 a1 b0 b1 hn]at h;omega
   have y:=F.C.yes a b a0 a1 b0 b1 e;have ta:=F.t a a0 a1 ha;have tb:=F.t b b0 b1 hb;have z:=F.D.yes _ _ ha ta.1 hb tb.1 (by rw[ta.2.2,tb.2.1,e]);exact F.set y.1 y.2.1 z.2.1 (by rw[z.2.2.1,ta.2.1,y.2.2.1]) (by rw[z.2.2.2,tb.2.2,y.2.2.2])
theorem PN{c d:ah}{ob:ml}{a:Int}(a0:0<=a)(a1:a<c.2.1.length){s:jK}(F:FrcO c d ob s.1):∀n:Nat,n<=c.2.1.length->FrcO c d ob (iS c d a n s).1
 |0,_=>F
 |n+1,h=>adm a0 a1 aa aa (PN a0 a1 F n aa)
theorem Ql{c d:ah}{ob:ml}{s:jK}(F:FrcO c d ob s.1):∀n:Nat,n<=c.2.1.length->FrcO c d ob (ji c d c.2.1.length n s).1
 |0,_=>F
 |n+1,h=>PN aa aa (Ql F n aa) _ (bd _)
theorem SK{c d:ah}{ob:ml}:∀(n:Nat)(arr:aA),FrcO c d ob arr->FrcO c d ob (tS c d n arr).1
 |0,arr,F=>F
 |n+1,arr,F=>by
  have h:=Ql (s:=(arr,false,true)) F c.2.1.length (bd _);rw[←F.l]at h;rw[tS];split
  ·exact h
  ·split
   ·exact SK n _ h
   ·exact h
theorem aem{d:ah}(F:FrcO c d ob arr):FrcO c d ob (mU c d arr).1:=SK _ _ F
theorem Sj{arr:aA}:∀(n:Nat)(f g:Int),0<=f->f<=g->g<=arr.length->(g-f).toNat<=n->(∀j:Int,f<=j->j<g->0<=arr.getD j.toNat 0)->(g=arr.length\/arr.getD g.toNat 0<0)->lu arr n f=g
 |0,f,g,f0,fg,gl,hn,_,_=>by show f=g;omega
 |n+1,f,g,f0,fg,gl,hn,hj,he=>by
  unfold lu;by_cases e:f=g
  ·subst e;rw[aj];rintro⟨h1,h2⟩;rcases he with he|he<;>omega
  ·rw[am ⟨aa,hj f (dB _) aa⟩];exact Sj n (f+1) g aa aa gl aa (λj h1 h2=>hj j aa h2) he
structure ArwP (c d:ah) (ob arr:aA) (f:Int) (found:bW):Prop where
 o:FrcO c d (λx=>ob.getD x.toNat 0) arr
 cm:c.2.1.length<=40
 dm:d.2.1.length<=40
 ol:(ob.length:Int)=c.1
 f0:0<=f
 f1:f<=arr.length
 fd:found.length<=200
def mh(c d:ah)(ob:aA)(n:Nat)(arr:aA)(f:Int)(fd:bW)(h:Int):List (List Int):=if (fd.length:Int)<=200 then (if (mU c d (arr.set f.toNat h)).2=true then jo c d ob n (mU c d (arr.set f.toNat h)).1 (f+1) fd else fd)else fd
theorem Lo{d:ah}{ob:aA}:jo c d ob (n+1) arr f0 found=if lu arr arr.length f0=arr.length then found++[arr]else (aF d (ob.getD (c.2.1.getD (lu arr arr.length f0).toNat 0).toNat 0) (ob.getD (c.2.2.1.getD (lu arr arr.length f0).toNat 0).toNat 0)).foldl (mh c d ob n arr (lu arr arr.length f0)) found:=rfl
theorem qJ{α β:Type}{P:β->Prop}{g:β->α->β}(hg:∀s x,P s->P (g s x)):∀(l:List α)(s:β),P s->P (l.foldl g s)
 |[],s,h=>h
 |x::r,s,h=>qJ hg r _ (hg s x h)
theorem JR{c d:ah}{ob:aA}:∀(n:Nat)(arr:aA)(f:Int)(found:bW),found.length<=200->(jo c d ob n arr f found).length<=201
 |0,arr,f,found,h=>c8 h aa
 |n+1,arr,f,found,h=>by
  rw[Lo];split
  ·rw[bn];simp only[aX,bh];omega
  ·refine qJ (P:=λl:List (List Int)=>l.length<=201) (λs x hs=>?_) _ _ aa;unfold mh;split
   ·split
    ·exact JR n _ _ _ aa
    ·exact hs
   ·exact hs
theorem OU{c d:ah}{ob:aA}{n:Nat}{arr:aA}{f:Int}{fd:bW}(h:¬(fd.length:Int)<=200):∀l:List Int,l.foldl (mh c d ob n arr f) fd=fd
 |[]=>rfl
 |x::r=>by
  rw[iA];have:mh c d ob n arr f fd x=fd:=by unfold mh;rw[aj h]
  rw[this];exact OU h r
def wJ:Wu:=⟨rA,[bO,bO,cy,cy,aC],[true,true,false,false,false],λx y=>[ArwP y.1 y.2.1 y.2.2.1 y.2.2.2.1 y.2.2.2.2.1 x],[(false,rA)],λx y=>(jo y.1 y.2.1 y.2.2.1 ((y.2.2.2.1.length-y.2.2.2.2.1).toNat+1) y.2.2.2.1 y.2.2.2.2.1 x,()),5⟩
def HA:Ct:=rM wJ
def H0(x:(rA:O).strip.den)(y:bq [bO,bO,cy,cy,aC]):Nat:=(y.2.2.2.1.length-y.2.2.2.2.1).toNat
def sy(n:Nat):Wu:=⟨rA,[bO,bO,cy,cy,aC],[true,true,false,false,false],λx y=>[H0 x y<n,ArwP y.1 y.2.1 y.2.2.1 y.2.2.2.1 y.2.2.2.2.1 x],[(false,rA)],λx y=>(jo y.1 y.2.1 y.2.2.1 n y.2.2.2.1 y.2.2.2.2.1 x,()),5⟩
def MP(n:Nat):Ct:=rM (sy n)
def M8:Ann:=(.s .n (.s (.l [(4,(.d aC)),(5,(.ref 999900 [])),(6,(.ad 6 [.de])),(7,(.ad 7 [.de]))] [(999900,rA),(6,lY),(7,lY)] [2,3] .n) (.s .n (.s .n (.s (.s .n (.l [(5,(.ref 999900 [])),(6,(.ad 6 [.de])),(7,(.ad 7 [.de])),(14,(.d aC))] [(999900,rA),(6,lY),(7,lY)] [2,3,4,13] (.s .n (.s (.s .n (.s .n (.s .n (.j [(5,(.ref 108700 [])),(6,(.ad 6 [.de])),(7,(.ad 7 [.de]))] [(108700,rA),(6,lY),(7,lY)] [2,3,4,13,14] .n)))) .n)))) .n)))))
def H8(n:Nat)(found:bW)(c d:ah)(objects arrows:aA)(f:Int)(K:Cp):Prop:=let m:=arrows.length;aK (S:=LR) (λa b=>let x:=a.2.2.1;let q:=a.2.2.2.1;let o:=a.1.1;let w:=x.2.1.getD o.toNat 0;let v:=x.2.2.1.getD o.toNat 0;let j:=aF q (objects.getD w.toNat 0) (objects.getD v.toNat 0);Iq o<|Om a.2.1<|Oc x<|Oc q<|(decide (o<(m:Int))=true->o<(m:Int)/\0<=o)/\cnd (decide (o<(m:Int))&&decide (0<=arrows.getD o.toNat 0)) (Ik (o+1)<|b ((o+1,(),(),(),()),a.2.1,x,q,())) (cnd (o==(m:Int)) (m<=1099511627776/\bg a.2.1.length [arrows].length 24/\K (a.2.1++[arrows],())) (Ix o x.2.1.length<|Ix w objects.length<|Ix o x.2.2.1.length<|Ix v objects.length<|q.2.1.length<=40/\q.2.2.1.length=q.2.1.length/\aK (S:=LX) (λe g=>let u:=e.2.2.1;let r:=e.2.2.2.1;let p:=e.1.2.2.2.1;let t:=List.set arrows o.toNat (j.getD p.toNat 0);let l:=mU u r t;Iq p<|Om e.2.1<|Oc u<|Oc r<|cnd (decide (p<(j.length:Int))&&decide ((e.2.1.length:Int)<=200)) (m<=1099511627776/\(Ix p j.length<|Ix o m<|FrcP u r t/\bK (S:=((Unit×g8)×(iK×gh))) (λh=>Om h.2.1<|Oc h.2.2.1<|Oc h.2.2.2.1<|Ik (p+1)<|g (((),(),(),p+1,()),h.2.1,h.2.2.1,h.2.2.2.1,())) (λi=>cnd l.2 (Ik (o+1)<|Int.toNat ((l.1.length:Int)-(o+1))<n/\ArwP u r objects l.1 (o+1) e.2.1/\i (((),(),(),()),jo u r objects n l.1 (o+1) e.2.1,u,r,())) (i (((),(),(),()),e.2.1,u,r,()))))) (K (e.2.1,()))) (((),(),(),0,()),a.2.1,x,q,())))) ((f,(),(),(),()),found,c,d,())
theorem WD(n:Nat)(x:wJ.o.strip.den)(y:bq wJ.as)(K:Cp):Cc tab (lkp [(148,MP n),(143,km),(88,nC),(152,HO)]) (fJ [(5,517)]) Tryz.f148 (eC Tryz.f148) M8 (sy (n+1)) x y K=H8 n x y.1 y.2.1 y.2.2.1 y.2.2.2.1 y.2.2.2.2.1 K:=by kernel_rfl
theorem W3(n:Nat)(found:bW)(c d:ah)(objects arrows:aA)(f:Int)(hok:ab (wJ.o.strip.oks found))(hok2:ab (okL wJ.as (c,d,objects,arrows,f,())))(hpre:ab ((sy (n+1)).pre found (c,d,objects,arrows,f,()))):H8 n found c d objects arrows f (λr=>r=(sy (n+1)).res found (c,d,objects,arrows,f,())):=by
 simp only[wJ,sy,O.strip,okL,T.oks,T.ok,ap,ab,aL,az,aW]at hok hok2 hpre
 try dsimp only[T.den]at hok
 try dsimp only[T.den]at hok2
 try dsimp only[T.den]at hpre
 delta H8 Ik Iq Ix Oc Ol Om
 dsimp -proj -eta only;obtain⟨hmu,hP⟩:=hpre;have F:=hP.o;have hl:=F.l;have hcm:=hP.cm;have hdm:=hP.dm;have f00:=hP.f0;have f01:=hP.f1;have hfd:=hP.fd;have hol:=hP.ol;have clt:=F.C.lt;have dlt:=F.D.lt;clear hok hok2;refine bt (λ(s:LR)=>f<=s.1.1/\s.1.1<=arrows.length/\(∀j:Int,f<=j->j<s.1.1->0<=arrows.getD j.toNat 0)/\s.2.1=found/\s.2.2.1=c/\s.2.2.2.1=d) (λ(s:LR)=>(arrows.length-s.1.1).toNat) ?_ ⟨dB _,f01,λj h1 h2=>by dsimp only at h2;omega,rfl,rfl,rfl⟩;rintro⟨⟨g,_⟩,fd,c1,d1,_⟩ next ⟨g0,g1,hj,q1,q2,q3⟩ hnx
 intros
 try dsimp only at g0 g1 hj q1 q2 q3 hnx⊢
 subst q1;subst q2;subst q3;refine⟨λh=>⟨ze h,aa⟩,aJ (λhx=>?_) (λhx=>?_)⟩
 ·simp only[ao,db]at hx;refine⟨aB,hnx _ ⟨an,an,λj h1 h2=>?_,rfl,rfl,rfl⟩ an⟩
  try dsimp only at h2
  by_cases e:j=g
  ·subst e;exact hx.2
  ·exact hj j h1 aa
 have hend:g=arrows.length\/arrows.getD g.toNat 0<0:=by
  by_cases e:g=arrows.length
  ·exact .inl e
  ·refine .inr ?_;rw[iP (show g<arrows.length by omega),gB,gM]at hx;omega
 have hfst:lu arrows arrows.length f=g:=Sj _ f g f00 g0 g1 aa hj hend;have hres:(sy (n+1)).res fd (c1,d1,objects,arrows,f,())=(jo c1 d1 objects (n+1) arrows f fd,()):=rfl;rw[hres,Lo,hfst];refine aJ (λhg=>?_) (λhg=>?_)
 ·have hg:g=arrows.length:=by simpa using hg
  rw[am hg];exact⟨aa,bQ (by simp only[aX,bh];omega),rfl⟩
 have hg:¬g=arrows.length:=by simpa using hg
 have hneg:arrows.getD g.toNat 0<0:=hend.resolve_left hg;rw[aj hg];have gm:g<c1.2.1.length:=aa
 have fr:=F.C.fr g aa gm;have to:=F.C.to g aa gm;refine⟨aa,aa,fr.1,aa,aa,aa,to.1,aa,hdm,dlt,?_⟩;generalize hH:aF d1 (objects.getD (c1.2.1.getD g.toNat 0).toNat 0) (objects.getD (c1.2.2.1.getD g.toNat 0).toNat 0)=H;have hHl:H.length<=40:=by rw[←hH];exact c8 (gD _) hdm
 have hmem:∀h∈H,0<=h/\FrcO c1 d1 (λx=>objects.getD x.toNat 0) (arrows.set g.toNat h):=λh hh=>by rw[←hH,cY]at hh;exact⟨hh.1,F.set aa gm hh.2.1 hh.2.2.1 hh.2.2.2⟩
 refine bt (λ(s:LX)=>0<=s.1.2.2.2.1/\s.1.2.2.2.1<=H.length/\s.2.1=(H.take s.1.2.2.2.1.toNat).foldl (mh c1 d1 objects n arrows g) fd/\s.2.1.length<=201/\s.2.2.1=c1/\s.2.2.2.1=d1) (λ(s:LX)=>(H.length-s.1.2.2.2.1).toNat) ?_ ⟨ak,ak,rfl,an,rfl,rfl⟩;rintro⟨⟨_,_,_,i,_⟩,fd1,c2,d2,_⟩ next1 ⟨i0,i1,q1,hfl,q2,q3⟩ hn1;intros
 try dsimp only at i0 i1 q1 hfl q2 q3 hn1⊢
 subst q2;subst q3;refine aJ (λhx=>?_) (λhx=>?_)
 ·simp only[ao,db]at hx;have hm:=hmem _ (bX H 0 i0 hx.1);have ht:=gE H 0 i0 hx.1;generalize H.getD i.toNat 0=h at *;have hstep:(H.take (i+1).toNat).foldl (mh c2 d2 objects n arrows g) fd=mh c2 d2 objects n arrows g fd1 h:=by rw[ht,iO,←q1];rfl
  have hS:mh c2 d2 objects n arrows g fd1 h=if (mU c2 d2 (arrows.set g.toNat h)).2=true then jo c2 d2 objects n (mU c2 d2 (arrows.set g.toNat h)).1 (g+1) fd1 else fd1:=by unfold mh;rw[am hx.2]
  have F2:=aem hm.2;have hl2:=F2.l;refine⟨aa,i0,hx.1,aa,aa,hm.2.p,bZ (λ(q:((Unit×g8)×(iK×gh)))=>q.2.1=mh c2 d2 objects n arrows g fd1 h/\q.2.1.length<=201/\q.2.2.1=c2/\q.2.2.2.1=d2) ?_ (λk hk=>aJ (λho=>?_) (λho=>?_))⟩
  ·rintro⟨_,fd3,c3,d3,_⟩ ⟨r1,r2,r3,r4⟩;intros
   try dsimp only at r1 r2 r3 r4⊢
   subst r3;subst r4;exact⟨aB,hn1 _ ⟨an,an,by dsimp only;rw[hstep];exact r1,r2,rfl,rfl⟩ an⟩
  ·refine⟨aB,?_,⟨F2,hcm,hdm,hol,aa,aa,aa⟩,hk _ ⟨?_,?_,rfl,rfl⟩⟩
   ·simp only[H0]at hmu;omega
   ·try dsimp only;rw[hS,am ho]
   ·exact JR n _ _ _ aa
  ·exact hk _ ⟨by dsimp only;rw[hS,aj (by rw[ho];decide)],hfl,rfl,rfl⟩
 ·have hfin:H.foldl (mh c2 d2 objects n arrows g) fd=fd1:=by
   by_cases e:i<H.length
   ·rw[iP e,gB,gM]at hx
    conv=>lhs;rw[←jb i.toNat H]
    rw[iO,←q1];exact OU hx _
   ·rw[q1,fU aa]
  rw[hfin]
theorem Wo:aN Tryz.prog 148 HA:=SN H0 (g:=λn=>(sy n).res) (qA (fn:=Tryz.f148) (c:=eC Tryz.f148) (by kernel_rfl) (by kernel_rfl) (by kernel_rfl)) (λx y=>rfl) (λn ih=>TB (Φ:=lkp [(148,MP n),(143,km),(88,nC),(152,HO)]) (au ih (au oL (au Af (au WH aR)))) aS (by kernel_rfl) (fn:=Tryz.f148) (c:=eC Tryz.f148) (by kernel_rfl) (by kernel_rfl) (by kernel_rfl) (sy (n+1)) M8 (fJ [(5,517)]) (by kernel_rfl) (eU rfl) (by kernel_rfl) (by kernel_rfl) (eU rfl) (λx y h1 h2 h3=>(WD n x y _).mpr (W3 n x y.1 y.2.1 y.2.2.1 y.2.2.2.1 y.2.2.2.2.1 h1 h2 h3)))
def goM(l:aA):Nat:=(l.filter λy=>y==-1).length
def goX(s:fu)(l:aA):Nat->Int->Option Int
 |0,x=>some x
 |y+1,x=>if l.getD y 0=-1 then (if (cW s l y).length=0 then none else goX s l y y)else goX s l y x
def goR(s:fu):Nat->List Int->List (List Int)->List (List Int)
 |0,_,fd=>fd
 |n+1,l,fd=>match goX s l l.length (-1)with
  |none=>fd
  |some x=>if x<0 then fd++[l]else (cW s l x).foldl (λfd h=>if (fd.length:Int)<s.2.2.2.1 then goR s n (l.set x.toNat h) fd else fd) fd
def goW(s:fu)(n:Nat)(l:aA):fu:=(s.1,s.2.1,s.2.2.1,s.2.2.2.1,goR s n l s.2.2.2.2)
theorem TE{t:fu}(h:t.1=s.1/\t.2.1=s.2.1/\t.2.2.1=s.2.2.1):cW t l x=cW s l x:=by unfold cW;rw[h.1,h.2.1,h.2.2]
theorem xP{y:Nat}:goX s l (y+1) x=if l.getD y 0=-1 then (if (cW s l y).length=0 then none else goX s l y y)else goX s l y x:=rfl
theorem BA:goR s (n+1) l fd=match goX s l l.length (-1)with
  |none=>fd
  |some x=>if x<0 then fd++[l]else (cW s l x).foldl (λfd h=>if (fd.length:Int)<s.2.2.2.1 then goR s n (l.set x.toNat h) fd else fd) fd:=rfl
theorem Lz{s t:fu}(h:t.1=s.1/\t.2.1=s.2.1/\t.2.2.1=s.2.2.1){l:aA}:∀(n:Nat)(x:Int),goX t l n x=goX s l n x
 |0,x=>rfl
 |n+1,x=>by rw[xP,xP,TE h,Lz h n,Lz h n]
theorem Ua{s t:fu}(h:t.1=s.1/\t.2.1=s.2.1/\t.2.2.1=s.2.2.1)(hm:t.2.2.2.1=s.2.2.2.1):∀(n:Nat)(l:aA)(fd:bW),goR t n l fd=goR s n l fd
 |0,l,fd=>rfl
 |n+1,l,fd=>by
  have ih:goR t n=goR s n:=funext λa=>funext λb=>Ua h hm n a b;rw[BA,BA,Lz h,hm,ih];split
  ·rfl
  ·rw[TE h]
def goS(s:fu)(n:Nat)(l:aA)(x:Int)(fd:bW)(h:Int):List (List Int):=if (fd.length:Int)<s.2.2.2.1 then goR s n (l.set x.toNat h) fd else fd
theorem Ew(h:goX s l l.length (-1)=none):goR s (n+1) l fd=fd:=by rw[BA,h]
theorem Bb(h:goX s l l.length (-1)=some x)(hx:x<0):goR s (n+1) l fd=fd++[l]:=by rw[BA,h];dsimp only;rw[am hx]
theorem AX(h:goX s l l.length (-1)=some x)(hx:¬x<0):goR s (n+1) l fd=(cW s l x).foldl (goS s n l x) fd:=by rw[BA,h];dsimp only;rw[aj hx];rfl
theorem Qd{s:fu}{n:Nat}{l:aA}{x:Int}{fd:bW}(h:¬(fd.length:Int)<s.2.2.2.1):∀L:List Int,L.foldl (goS s n l x) fd=fd
 |[]=>rfl
 |y::r=>by
  rw[iA];have:goS s n l x fd y=fd:=by unfold goS;rw[aj h]
  rw[this];exact Qd h r
theorem KO{s:fu}:∀(n:Nat)(l:aA)(fd:bW),(fd.length:Int)<s.2.2.2.1->((goR s n l fd).length:Int)<=s.2.2.2.1
 |0,l,fd,h=>Int.le_of_lt h
 |n+1,l,fd,h=>by
  cases hx:goX s l l.length (-1)with
  |none=>rw[Ew hx];exact Int.le_of_lt h
  |some x=>
   by_cases h0:x<0
   ·rw[Bb hx h0,bn];simp only[aX,bh];omega
   ·rw[AX hx h0];refine qJ (P:=λq:List (List Int)=>(q.length:Int)<=s.2.2.2.1) (λq y hq=>?_) _ _ (Int.le_of_lt h);unfold goS;split
    ·rename_i h1;exact KO n _ _ h1
    ·exact hq
theorem Kk{h:Int}(hh:h≠-1):∀(l:aA)(i:Nat),l.getD i 0=-1->goM (l.set i h)+1=goM l
 |[],i,e=>by simp at e
 |y::r,0,e=>by
  simp only[wx]at e;subst e;have:(h==-1)=false:=by simpa using hh
  simp[goM,ur,oy,this]
 |y::r,i+1,e=>by simp only[zp]at e;have:=Kk hh r i e;simp only[goM,C4,oy]at this⊢;split<;>(try simp only[aX])<;>omega
theorem adw{s:fu}{l:aA}{x i:Int}(i0:0<=i)(i1:i<(cW s l x).length):0<=(cW s l x).getD i.toNat 0/\(cW s l x).getD i.toNat 0<s.1.2.1.2.1.length:=by have h:=bX (cW s l x) 0 i0 i1;generalize (cW s l x).getD i.toNat 0=z at *;unfold cW at h;have h:=(mw.1 h).1;obtain⟨j,j1,rfl⟩:=jP h;have:=@Bw s.1.2.1 (s.1.2.2.1.getD x.toNat 0) (s.2.1.2.2.1.getD x.toNat 0) j aa aa;rw[cQ,br,bU j1]at this;exact⟨this.1,this.2.1⟩
structure GoP (s:fu) (l:aA):Prop where
 p:ParP s.1 s.2.1
 n:(l.length:Int)=s.1.1.1
 w:∀y∈l,y<s.1.2.1.2.1.length
 f:s.2.2.2.2.length<=1000
 m:s.2.2.2.1<=1000
def sQ:Wt:=⟨Ut,[cy],[false],λx y=>[GoP x y.1],λx y=>goW x (goM y.1+1) y.1,[],λx y=>(()),0⟩
def NR:Ct:=g7 sQ
def wT(n:Nat):Wt:=⟨Ut,[cy],[false],λx y=>[goM y.1<n,GoP x y.1],λx y=>goW x (goM y.1+1) y.1,[],λx y=>(()),0⟩
def NQ(n:Nat):Ct:=g7 (wT n)
def NE:Ann:=(.s .n (.s (.s .n (.l [(0,(.ad 999900 [.de])),(4,(.d aC)),(5,(.d aC))] [(999900,LB)] [1] (.s .n (.s (.s .n (.j [(0,(.ad 999900 [.de])),(4,(.d aC))] [(999900,LB)] [1,5] .n)) .n)))) (.s .n (.s .n (.s .n (.l [(0,(.ad 999900 [.de])),(7,(.d aC))] [(999900,LB)] [1,4,6] .n))))))
def IA(n:Nat)(s:fu)(components:aA)(K:fu->(Unit)->Prop):Prop:=let j:=components.length;Ik ((j:Int)-1)<|aK (S:=((Unit×nu)×uh)) (λa b=>let q:=a.1.2.1;let m:=a.1.2.2.1;let l:=a.2.1;let u:=l.2.2.2;let o:=cW l components q;Iq q<|Iq m<|Of l.1<|Of l.2.1<|Iq u.1<|Om u.2<|cnd (decide (0<=m)) (Ix m j<|bK (S:=(dH×uh)) (λc=>Iq c.1.2.1<|Of c.2.1.1<|Of c.2.1.2.1<|Iq c.2.1.2.2.2.1<|Om c.2.1.2.2.2.2<|Ik (m-1)<|b (((),c.1.2.1,m-1,()),c.2.1,())) (λd=>cnd (components.getD m.toNat 0==-1) (ChcP l components m/\cnd (((cW l components m).length:Int)==0) (K l ()) (d (((),m,()),l,()))) (d (((),q,()),l,())))) (cnd (decide (q<0)) (j<=1099511627776/\bg u.2.length [components].length 24/\K (l.1,l.2.1,l.2.2.1,u.1,u.2++[components]) ()) (ChcP l components q/\aK (S:=(dH×uh)) (λe f=>let t:=e.2.1;let r:=e.1.2.1;let p:=t.2.2.2;let i:=List.set components q.toNat (o.getD r.toNat 0);Iq r<|Of t.1<|Of t.2.1<|Iq p.1<|Om p.2<|cnd (decide (r<(o.length:Int))&&decide ((p.2.length:Int)<p.1)) (j<=1099511627776/\(Ix r o.length<|Ix q j<|(List.filter (λg=>g==-1) i).length<n/\GoP t i/\(Ik (r+1)<|f (((),r+1,()),(t.1,t.2.1,t.2.2.1,p.1,goR t ((List.filter (λh=>h==-1) i).length+1) i p.2),())))) (K t ())) (((),0,()),l,())))) (((),-1,(j:Int)-1,()),s,())
theorem YN(n:Nat)(x:sQ.o.strip.den)(y:bq sQ.as)(K:fu->(Unit)->Prop):Gc tab (lkp [(139,NQ n),(143,km),(150,qj)]) (fJ [(8,9999015006),(11,14)]) Tryz.f139 (eC Tryz.f139) NE (wT (n+1)) x y K=IA n x y.1 K:=by kernel_rfl
theorem Zc(n:Nat)(s:fu)(components:aA)(hok:ab (sQ.o.strip.oks s))(hok2:ab (okL sQ.as (components,())))(hpre:ab ((wT (n+1)).pre s (components,()))):IA n s components (λz r=>z=sQ.new s (components,())/\r=sQ.res s (components,())):=by
 simp only[sQ,wT,O.strip,okL,T.oks,T.ok,ap,ab,aL,az,aW]at hok hok2 hpre
 try dsimp only[T.den]at hok
 try dsimp only[T.den]at hok2
 try dsimp only[T.den]at hpre
 delta IA Ik Iq Ix Oc Of Ol Om
 dsimp -proj -eta only;obtain⟨hmu,hP⟩:=hpre;have hmu:goM components<n+1:=hmu;have hl:=hP.n;have hob:=hP.p.F.src.ob;have hfd:=hP.f;have hmo:=hP.m;have hw:=hP.w;clear hok hok2;refine⟨aB,?_⟩;refine bt (λ(t:((Unit×nu)×uh))=>-1<=t.1.2.2.1/\t.1.2.2.1<components.length/\t.2.1=s/\goX s components components.length (-1)=goX s components (t.1.2.2.1+1).toNat t.1.2.1/\(0<=t.1.2.1->t.1.2.1<components.length/\components.getD t.1.2.1.toNat 0=-1)) (λ(t:((Unit×nu)×uh))=>(t.1.2.2.1+1).toNat) ?_ ⟨an,an,rfl,by dsimp only;rw[show ((components.length:Int)-1+1).toNat=components.length by omega],λh=>by dsimp only at h;omega⟩;rintro⟨⟨_,x,y,_⟩,t,_⟩ next ⟨y0,y1,ht,hx,hxr⟩ hnx
 intros
 try dsimp only at y0 y1 ht hx hxr hnx⊢
 subst ht;refine aE (λhy=>?_) (λhy=>?_)
 ·rw[show (y+1).toNat=y.toNat+1 by omega]at hx;refine⟨hy,y1,bZ (λ(q:(dH×uh))=>q.2.1=t/\goX t components components.length (-1)=goX t components y.toNat q.1.2.1/\(0<=q.1.2.1->q.1.2.1<components.length/\components.getD q.1.2.1.toNat 0=-1)) ?_ ?_⟩
  ·rintro⟨⟨_,x2,_⟩,t2,_⟩ ⟨p1,p2,p3⟩;intros
   try dsimp only at p1 p2 p3⊢
   subst p1;exact⟨aB,hnx _ ⟨an,an,rfl,by dsimp only;rw[show (y-1+1).toNat=y.toNat by omega];exact p2,p3⟩ an⟩
  ·intro k hk;rw[xP,G8 hy]at hx;refine aJ (λh=>?_) (λh=>?_)
   ·have h1:components.getD y.toNat 0=-1:=by simpa using h
    rw[am h1]at hx;refine⟨⟨hP.p,hl,hw,hy,aa⟩,aJ (λh2=>?_) (λh2=>?_)⟩
    ·have h2:(cW t components y).length=0:=by simpa using h2
     rw[am h2]at hx;refine⟨?_,rfl⟩;show t=goW t (goM components+1) components;unfold goW;rw[Ew hx]
    ·have h2:¬(cW t components y).length=0:=by simpa using h2
     rw[aj h2]at hx;exact hk _ ⟨rfl,hx,λ_=>⟨y1,h1⟩⟩
   ·have h1:¬components.getD y.toNat 0=-1:=by simpa using h
    rw[aj h1]at hx;exact hk _ ⟨rfl,hx,hxr⟩
 have ey:y=-1:=aa
 subst ey;have hx:goX t components components.length (-1)=some x:=hx;refine aE (λh0=>?_) (λh0=>?_)
 ·refine⟨aa,bQ (by simp only[aX,bh];omega),?_,rfl⟩;show _=goW t (goM components+1) components;unfold goW;rw[Bb hx h0]
 have hxr:=hxr aa;refine⟨⟨hP.p,hl,hw,aa,aa⟩,?_⟩;have hcl:(cW t components x).length<=40:=by have h1:=E1 hP.p.F.tgt (t.1.2.2.1.getD x.toNat 0) (t.2.1.2.2.1.getD x.toNat 0);have h2:=hP.p.F.tgt.m;have h3:(cW t components x).length<=(aF t.1.2.1 (t.1.2.2.1.getD x.toNat 0) (t.2.1.2.2.1.getD x.toNat 0)).length:=wz _ _;omega
 have hch:=λi:Int=>@adw t components x i;refine bt (λ(q:(dH×uh))=>0<=q.1.2.1/\q.1.2.1<=(cW t components x).length/\q.2.1=(t.1,t.2.1,t.2.2.1,t.2.2.2.1,((cW t components x).take q.1.2.1.toNat).foldl (goS t (goM components) components x) t.2.2.2.2)/\q.2.1.2.2.2.2.length<=1000) (λ(q:(dH×uh))=>((cW t components x).length-q.1.2.1).toNat) ?_ ⟨dB _,an,rfl,hfd⟩;rintro⟨⟨_,k,_⟩,t2,_⟩ next1 ⟨k0,k1,hq,hf2⟩ hn1;intros
 try dsimp only at k0 k1 hq hf2 hn1⊢
 refine aJ (λhc=>?_) (λhc=>?_)
 ·simp only[ao,db]at hc;have hb:=hch k k0 hc.1;have hset:=Kk (h:=(cW t components x).getD k.toNat 0) aa components x.toNat hxr.2;have e4:t2.1=t.1/\t2.2.1=t.2.1/\t2.2.2.1=t.2.2.1/\t2.2.2.2.1=t.2.2.2.1:=by rw[hq];exact⟨rfl,rfl,rfl,rfl⟩
  have hlen:=KO (s:=t2) (goM (components.set x.toNat ((cW t components x).getD k.toNat 0))+1) (components.set x.toNat ((cW t components x).getD k.toNat 0)) t2.2.2.2.2 hc.2;have hrs:=Ua (s:=t) (t:=t2) ⟨e4.1,e4.2.1,e4.2.2.1⟩ e4.2.2.2;refine⟨aa,k0,hc.1,aa,hxr.1,?_,⟨by rw[e4.1,e4.2.1];exact hP.p,by rw[gK,e4.1];exact hl,λz hz=>?_,hf2,by rw[e4.2.2.2];exact hmo⟩,aB,hn1 _ ⟨an,an,?_,Int.ofNat_le.1 (wv hlen (by rw[e4.2.2.2];exact hmo))⟩ an⟩
  ·show goM (components.set x.toNat ((cW t components x).getD k.toNat 0))<n;omega
  ·rw[e4.1];rcases CC hz with h|h
   ·exact hw z h
   ·rw[h];exact hb.2
  ·try dsimp only
   rw[gE _ 0 k0 hc.1,iO];have e5:t2.2.2.2.2=((cW t components x).take k.toNat).foldl (goS t (goM components) components x) t.2.2.2.2:=by rw[hq]
   rw[←e5,e4.1,e4.2.1,e4.2.2.1,e4.2.2.2];show _=(t.1,t.2.1,t.2.2.1,t.2.2.2.1,goS t (goM components) components x t2.2.2.2.2 ((cW t components x).getD k.toNat 0));unfold goS;have hset':(List.filter (λy=>y==-1) (components.set x.toNat ((cW t components x).getD k.toNat 0))).length+1=goM components:=hset;rw[am (by rw[←e4.2.2.2];exact hc.2),hrs,hset']
 ·refine⟨?_,rfl⟩;show t2=goW t (goM components+1) components;unfold goW;rw[AX hx h0];have e5:t2.2.2.2.2=((cW t components x).take k.toNat).foldl (goS t (goM components) components x) t.2.2.2.2:=by rw[hq]
  have hfin:(cW t components x).foldl (goS t (goM components) components x) t.2.2.2.2=t2.2.2.2.2:=by
   by_cases e:k<(cW t components x).length
   ·rw[iP e,gB,gM]at hc
    conv=>lhs;rw[←jb k.toNat (cW t components x)]
    rw[iO,←e5];have e4:t2.2.2.2.1=t.2.2.2.1:=by rw[hq]
    rw[e4]at hc;exact Qd hc _
   ·rw[e5,fU aa]
  rw[hfin,hq]
theorem YD:aN Tryz.prog 139 NR:=ade (q:=λn=>(wT n).pre) (qA (fn:=Tryz.f139) (c:=eC Tryz.f139) (by kernel_rfl) (by kernel_rfl) (by kernel_rfl)) (λx y h=>C9 _ h.1) (λx y h=>⟨_,ww _,h⟩) (λn ih=>aei (Φ:=lkp [(139,NQ n),(143,km),(150,qj)]) (au ih (au oL (au VX aR))) aS (by kernel_rfl) (fn:=Tryz.f139) (c:=eC Tryz.f139) (by kernel_rfl) (by kernel_rfl) (by kernel_rfl) (wT (n+1)) NE (fJ [(8,9999015006),(11,14)]) rfl (by kernel_rfl) (eU rfl) (by kernel_rfl) (by kernel_rfl) (eU rfl) (by kernel_rfl) (λx y h1 h2 h3=>(YN n x y _).mpr (Zc n x y.1 h1 h2 h3)))
def fpR(f:aV):List (List Int):=aG f.1.2.1.length λa=>[f.1.2.1.getD a.toNat 0,f.1.2.2.1.getD a.toNat 0]
def fcR(f:aV):List Int:=ro (mQ f.1.1 (fpR f))
def fsR(cl:aA)(x:Int):List Int:=aG cl.length λy=>if cl.getD y.toNat 0=x then -1 else -2
def foR(f g:aV)(iso:bo)(x:Int):Bool:=decide ((goR (f,g,iso,1,[]) (goM (fsR (fcR f) x)+1) (fsR (fcR f) x) []).length≠0)
def lp(f g:aV)(iso:bo)(most:Int):List (List Int):=if cu (fcR f).length (foR f g iso)=true then goR (f,g,iso,most,[]) (goM (List.replicate (fcR f).length (-1))+1) (List.replicate (fcR f).length (-1)) []else []
theorem Z5:(ro l).length=l.length:=by unfold ro;rw[cC]
theorem SO(h:0<=f.1.1):((fcR f).length:Int)=f.1.1:=by unfold fcR;rw[Z5,mQ,E8 (n:=f.1.1) _ _ (by simp[Gh,bA])];omega
theorem afe(F:FunP f):PrsP f.1.1 (fpR f):=by
 have hm:=F.src.m;refine⟨by show (aG _ _).length<=_;rw[bA];omega,λk k0 k1=>?_⟩;have k1:k<f.1.2.1.length:=by have:((fpR f).length:Int)=f.1.2.1.length:=(by unfold fpR;rw[bA]);omega
 have hg:(fpR f).getD k.toNat []=[f.1.2.1.getD k.toNat 0,f.1.2.2.1.getD k.toNat 0]:=dN k0 k1;rw[hg];have e:=F.src.frm k0 k1;exact⟨ak,⟨e.1,e.2.1⟩,⟨e.2.2.1,e.2.2.2⟩⟩
def sJ:Ct:=⟨[io,io,.bool,aC],[true,true,false,false],λx=>[ParP x.1 x.2.1,x.2.2.2.1<=1000],[(false,iU)],λx=>(lp x.1 x.2.1 x.2.2.1 x.2.2.2.1,()),false,none⟩
def Xm:Ann:=(.s .n (.s .n (.s .n (.s (.s .n (.l [(10,(.ref 800010 [])),(11,(.d aC))] [(800010,iU)] [2,3,4,5,9] .n)) (.s .n (.s .n (.s (.s .n (.l [(13,(.ref 800013 [])),(14,(.d aC))] [(800013,bS)] [2,3,4,5,12] (.s .n (.s (.s .n (.s .n (.s (.s .n (.l [(13,(.ref 800013 [])),(15,(.ref 800015 [])),(16,(.d aC))] [(800013,bS),(800015,bS)] [2,3,4,5,12,14] (.s .n (.s (.s .n (.j [(13,(.ref 800013 [])),(15,(.ref 800015 []))] [(800013,bS),(800015,bS)] [2,3,4,5,12,14,16] .n)) .n)))) .n))) .n)))) .n)))))))
def agx:FuncId->Option Ct:=lkp [(138,sG),(139,NR)]
def HS(f g:aV)(iso:bo)(most:Int)(K:Cp):Prop:=aK (S:=Gv) (λa b=>let o:=a.1.2.1;let t:=f.1.2.1.getD o.toNat 0;let r:=f.1.2.2.1.getD o.toNat 0;let n:=ro (mQ f.1.1 a.2.1);Iq o<|Om a.2.1<|cnd (decide (o<(f.1.2.1.length:Int))) (Ix o f.1.2.1.length<|Ix o f.1.2.2.1.length<|bg a.2.1.length [[t,r]].length 24/\(Ik (o+1)<|b (((),o+1,()),a.2.1++[[t,r]],()))) (0<=f.1.1/\f.1.1<=1099511627776/\PrsP f.1.1 a.2.1/\aK (S:=(dH×dV)) (λc d=>let u:=c.1.2.1;Iq u<|Ol c.2.1<|cnd (decide (u<(n.length:Int))) (bg c.2.1.length [-1].length 8/\aK (S:=(dD×pI)) (λe h=>let q:=e.2.2.1;let p:=e.1.2.2.1;Iq p<|Ol e.2.1<|Ol q<|cnd (decide (p<(n.length:Int))) (Ix p n.length<|bK (S:=(g8×pI)) (λi=>Ol i.2.1<|Ol i.2.2.1<|Ik (p+1)<|h (((),(),p+1,()),i.2.1,i.2.2.1,())) (λj=>cnd (n.getD p.toNat 0==u) (bg q.length [-1].length 8/\j (((),(),()),e.2.1,q++[-1],())) (bg q.length [-2].length 8/\j (((),(),()),e.2.1,q++[-2],())))) (GoP (f,g,iso,1,[]) q/\cnd (((goR (f,g,iso,1,[]) ((List.filter (λl=>l==-1) q).length+1) q []).length:Int)==0) (K ([],())) (Ik (u+1)<|d (((),u+1,()),e.2.1,())))) (((),(),0,()),c.2.1++[-1],[],())) (GoP (f,g,iso,most,[]) c.2.1/\K (goR (f,g,iso,most,[]) ((List.filter (λm=>m==-1) c.2.1).length+1) c.2.1 [],()))) (((),0,()),[],()))) (((),0,()),[],())
theorem Yn(f g:aV)(iso:bo)(most:Int)(hok:ab (okL sJ.args (f,g,iso,most,())))(hpre:ab (sJ.pre (f,g,iso,most,()))):HS f g iso most (λr=>r=sJ.res (f,g,iso,most,())):=by
 simp only[sJ,okL,T.oks,T.ok,ap,ab,aL,az,aW]at hok hpre
 try dsimp only[T.den]at hok hpre
 delta HS Ik Iq Ix Ol Om
 dsimp -proj -eta only;obtain⟨hP,hmost⟩:=hpre;have hob:=hP.F.src.ob;have hm:=hP.F.src.m;have hlt:=hP.F.src.lt;clear hok;refine bt (λ(s:Gv)=>0<=s.1.2.1/\s.1.2.1<=f.1.2.1.length/\s.2.1=aG s.1.2.1.toNat λa=>[f.1.2.1.getD a.toNat 0,f.1.2.2.1.getD a.toNat 0]) (λ(s:Gv)=>(f.1.2.1.length-s.1.2.1).toNat) ?_ ⟨ak,ak,rfl⟩;rintro⟨⟨_,a,_⟩,ps,_⟩ next ⟨a0,a1,hps⟩ hnx
 intros
 try dsimp only at a0 a1 hps hnx⊢
 subst hps;refine aE (λha=>⟨a0,ha,a0,aa,bQ (by rw[bA];simp only[aX,bh];omega),aB,hnx _ ⟨an,an,by dsimp only;rw[eY a0]⟩ an⟩) (λha=>?_);have ea:a.toNat=f.1.2.1.length:=aa
 rw[ea];have hfp:=afe hP.F;have hfl:=SO (f:=f) hob.1;have hfc:ro (mQ f.1.1 (aG f.1.2.1.length λa=>[f.1.2.1.getD a.toNat 0,f.1.2.2.1.getD a.toNat 0]))=fcR f:=rfl;refine⟨hob.1,aa,hfp,?_⟩;rw[hfc];have hres:(sJ).res (f,g,iso,most,())=(lp f g iso most,()):=rfl;rw[hres];have hgo:∀(m:Int)(l:aA),m<=1000->(l.length:Int)=f.1.1->(∀y∈l,y<0)->GoP (f,(g,(iso,(m,([]:List (List Int)))))) l:=λm l h1 h2 h3=>⟨hP,h2,λy hy=>by have:=h3 y hy;show y<_;omega,by show (0:Nat)<=1000;omega,h1⟩;refine bt (λ(s:l8)=>0<=s.1.2.1/\s.1.2.1<=(fcR f).length/\s.2.1=List.replicate s.1.2.1.toNat (-1)/\cu s.1.2.1.toNat (foR f g iso)=true) (λ(s:l8)=>((fcR f).length-s.1.2.1).toNat) ?_ ⟨ak,ak,rfl,rfl⟩;rintro⟨⟨_,x,_⟩,al,_⟩ next1 ⟨x0,x1,hal,hb⟩ hn1;intros
 try dsimp only at x0 x1 hal hb hn1⊢
 subst hal;refine aE (λhx=>⟨bQ (by rw[eA];simp only[aX,bh];omega),?_⟩) (λhx=>?_)
 ·refine bt (λ(s:yU)=>0<=s.1.2.2.1/\s.1.2.2.1<=(fcR f).length/\s.2.1=List.replicate (x+1).toNat (-1)/\s.2.2.1=aG s.1.2.2.1.toNat λy=>if (fcR f).getD y.toNat 0=x then -1 else -2) (λ(s:yU)=>((fcR f).length-s.1.2.2.1).toNat) ?_ ⟨ak,ak,by dsimp only;rw[show (x+1).toNat=x.toNat+1 by omega,wy],rfl⟩;rintro⟨⟨_,_,y,_⟩,al2,st,_⟩ next2 ⟨y0,y1,h1,h2⟩ hn2;intros
  try dsimp only at y0 y1 h1 h2 hn2⊢
  subst h1;subst h2;refine aE (λhy=>⟨y0,hy,bZ (λ(q:(g8×pI))=>q.2.1=List.replicate (x+1).toNat (-1)/\q.2.2.1=aG (y+1).toNat λy=>if (fcR f).getD y.toNat 0=x then -1 else -2) ?_ ?_⟩) (λhy=>?_)
  ·rintro⟨_,al3,st3,_⟩ ⟨p1,p2⟩;intros
   try dsimp only at p1 p2⊢
   exact⟨aB,hn2 _ ⟨an,an,p1,p2⟩ an⟩
  ·intro k hk;refine aJ (λh=>⟨bQ (by rw[bA];simp only[aX,bh];omega),hk _ ⟨rfl,?_⟩⟩) (λh=>⟨bQ (by rw[bA];simp only[aX,bh];omega),hk _ ⟨rfl,?_⟩⟩)
   ·have h:(fcR f).getD y.toNat 0=x:=by simpa using h
    try dsimp only
    rw[eY y0,am h]
   ·have h:¬(fcR f).getD y.toNat 0=x:=by simpa using h
    try dsimp only
    rw[eY y0,aj h]
  ·have ey:y.toNat=(fcR f).length:=aa
   rw[ey];have hs:(aG (fcR f).length λy=>if (fcR f).getD y.toNat 0=x then (-1:Int)else -2)=fsR (fcR f) x:=rfl;rw[hs];have hfo:foR f g iso x=decide ((goR (f,g,iso,1,[]) (goM (fsR (fcR f) x)+1) (fsR (fcR f) x) []).length≠0):=rfl;have hsn:∀y∈fsR (fcR f) x,y<0:=λy hy=>by obtain⟨i,_,_,rfl⟩:=fN.1 hy;split<;>decide
   have hsl:((fsR (fcR f) x).length:Int)=f.1.1:=by unfold fsR;rw[bA];exact hfl
   refine⟨hgo _ _ aH hsl hsn,aJ (λh=>?_) (λh=>?_)⟩
   ·have h:(goR (f,g,iso,1,[]) (goM (fsR (fcR f) x)+1) (fsR (fcR f) x) []).length=0:=by unfold goM;simpa using h
    have:¬cu (fcR f).length (foR f g iso)=true:=λhh=>by have:=(gX.1 hh) x x0 hx;rw[hfo,h]at this;simp at this
    show (([]:List (List Int)),())=(lp f g iso most,());unfold lp;rw[aj this]
   ·have h:¬(goR (f,g,iso,1,[]) (goM (fsR (fcR f) x)+1) (fsR (fcR f) x) []).length=0:=by unfold goM;simpa using h
    refine⟨aB,hn1 _ ⟨an,an,rfl,?_⟩ an⟩;rw[gX]at hb⊢;intro i i0 i1;by_cases e:i<x
    ·exact hb i i0 aa
    ·have:i=x:=by dsimp only at i1;omega
     subst this;rw[hfo];simpa using h
 ·have ex:x.toNat=(fcR f).length:=aa
  rw[ex]at hb⊢;refine⟨hgo _ _ hmost (by rw[eA];exact hfl) (λy hy=>by rw[w6 hy];decide),?_⟩;show _=(lp f g iso most,());unfold lp;rw[am hb];rfl
theorem Xi:aN Tryz.prog 114 sJ:=ctb (au XG (au YD aR)) aS 114 Tryz.f114 sJ Xm [(6,511)] (λx K=>HS x.1 x.2.1 x.2.2.1 x.2.2.2.1 K) (λx h1 h2=>Yn x.1 x.2.1 x.2.2.1 x.2.2.2.1 h1 h2)
theorem uX{α:Type}{p:Int->Option α}:∀(n:Nat)(i:Int),(∀j:Int,i<=j->j<i+n->p j=none)->ck p n i=none
 |0,i,_=>rfl
 |n+1,i,h=>by unfold ck;rw[h i (dB _) aa];exact uX n (i+1) λj h0 h1=>h j aa aa
theorem DO(hc:cq c=true){f:Int}(f0:0<=f)(f1:f<c.2.1.length):aq c (c.2.2.2.1.getD (c.2.1.getD f.toNat 0).toNat 0) f=f/\aq c f (c.2.2.2.1.getD (c.2.2.1.getD f.toNat 0).toNat 0)=f:=by
 simp only[cq,ao,bN]at hc;have h2:=hc.2;unfold gO at h2
 cases h3:ck (iq c) c.2.1.length 0 with
 |some v=>
  obtain⟨j,hj⟩:=xf h3;unfold iq at hj;split at hj
  ·cases hj;rw[h3]at h2;simp[orR]at h2
  ·cases hj
 |none=>
  have:=uK h3 f f0 aa;unfold iq at this;split at this
  ·cases this
  ·rename_i h;exact⟨wm λh1=>h (.inl h1),wm λh1=>h (.inr h1)⟩
theorem aew(S:ShapeP c)(hu:∀f:Int,0<=f->f<c.2.1.length->aq c (c.2.2.2.1.getD (c.2.1.getD f.toNat 0).toNat 0) f=f/\aq c f (c.2.2.2.1.getD (c.2.2.1.getD f.toNat 0).toNat 0)=f)(ha:∀f g h:Int,0<=f->f<c.2.1.length->0<=g->g<c.2.1.length->0<=h->h<c.2.1.length->c.2.2.1.getD f.toNat 0=c.2.1.getD g.toNat 0->c.2.2.1.getD g.toNat 0=c.2.1.getD h.toNat 0->aq c (aq c f g) h=aq c f (aq c g h)):cq c=true:=by
 have h1:ck (iq c) c.2.1.length 0=none:=uX _ _ λj j0 j1=>by obtain⟨u1,u2⟩:=hu j j0 aa;unfold iq;rw[aj (by intro h;rcases h with h|h;exact h u1;exact h u2)]
 have h2:ck (jD c) c.2.1.length 0=none:=uX _ _ λf f0 f1=>by
  unfold jD;refine uX _ _ λg g0 g1=>?_;unfold jC;split
  ·rename_i e;refine uX _ _ λh h0 h1=>?_;unfold kW;rw[aj (by rintro⟨e2,h2⟩;exact h2 (ha f g h f0 aa g0 aa h0 aa e e2))]
  ·rfl
 simp only[cq,ao,bN];exact⟨Kw S,by unfold gO;rw[h1,h2];rfl⟩
theorem pf(h:c9 f=true):FunP f:=adj h
theorem AO(h:c9 f=true):cq f.1=true/\cq f.2.1=true:=by simp only[c9,ao]at h;exact h.1
theorem ZW{d:ah}(C:ShapeP c)(hd:cq d=true)(x0:0<=x)(x1:x<d.1):FunP (cT c d x):=by
 have D:=gZ hd;have co:=C.ob;have ix:=D.idn x0 x1;have it:=D.idt x x0 x1;have hu:=(DO hd ix.1 ix.2.1).1;rw[it.1]at hu;have eo:∀y:Int,0<=y->y<c.1->(cT c d x).2.2.1.getD y.toNat 0=x:=λy y0 y1=>dN y0 aa;have ea:∀a:Int,0<=a->a<c.2.1.length->(cT c d x).2.2.2.getD a.toNat 0=d.2.2.2.1.getD x.toNat 0:=λa a0 a1=>dN a0 a1;refine⟨C,D,⟨by show ((aG _ _).length:Int)=c.1;rw[bA];omega,by show (aG _ _).length=c.2.1.length;rw[bA],?_,?_,λa a0 a1=>?_,λy y0 y1=>?_,λa a0 a1 b b0 b1 e=>?_⟩⟩
 ·refine fw.2 λi i0 i1=>?_;have t1:((aG c.1.toNat λ_=>x).length:Int)=c.1:=by rw[bA];omega
  have i1:i<((aG c.1.toNat λ_=>x).length:Int):=i1;rw[eo i i0 aa];exact⟨x0,x1⟩
 ·refine fw.2 λi i0 i1=>?_;have t1:(aG c.2.1.length λ_=>d.2.2.2.1.getD x.toNat 0).length=c.2.1.length:=bA _;have i1:i<((aG c.2.1.length λ_=>d.2.2.2.1.getD x.toNat 0).length:Int):=i1;rw[ea i i0 aa];exact⟨ix.1,ix.2.1⟩
 ·have a1:a<c.2.1.length:=a1;have e:=C.frm a0 a1;show d.2.1.getD ((cT c d x).2.2.2.getD a.toNat 0).toNat 0=(cT c d x).2.2.1.getD (c.2.1.getD a.toNat 0).toNat 0/\d.2.2.1.getD ((cT c d x).2.2.2.getD a.toNat 0).toNat 0=(cT c d x).2.2.1.getD (c.2.2.1.getD a.toNat 0).toNat 0;rw[ea a a0 a1,eo _ e.1 e.2.1,eo _ e.2.2.1 e.2.2.2];exact it
 ·have y1:y<c.1:=y1;have e:=C.idn y0 y1;show (cT c d x).2.2.2.getD (c.2.2.2.1.getD y.toNat 0).toNat 0=d.2.2.2.1.getD ((cT c d x).2.2.1.getD y.toNat 0).toNat 0;rw[ea _ e.1 e.2.1,eo y y0 y1]
 ·have a1:a<c.2.1.length:=a1;have b1:b<c.2.1.length:=b1;have k:=C.yes a0 a1 b0 b1 e;show (cT c d x).2.2.2.getD (aq c a b).toNat 0=aq d ((cT c d x).2.2.2.getD a.toNat 0) ((cT c d x).2.2.2.getD b.toNat 0);rw[ea a a0 a1,ea b b0 b1,ea _ k.1 k.2.1,hu]
def FZ(d:aV)(x m:Int):List cB:=(lp (cT d.1 d.2.1 x) d false m).map λl=>(x,l)
def cnS(d:aV)(l:iL)(x:Int):List cB:=if (l.length:Int)<=400 then l++FZ d x (401-l.length)else l
def fk(d:aV):List cB:=(aG d.2.1.1.toNat λx=>x).foldl (cnS d) []
theorem Sa{f g:aV}{iso:bo}{m:Int}(h:0<m):((lp f g iso m).length:Int)<=m:=by
 unfold lp;split
 ·exact KO (s:=(f,g,iso,m,[])) _ _ [] h
 ·exact Int.le_of_lt h
theorem PO{d:aV}{l:iL}(h:¬(l.length:Int)<=400):∀L:List Int,L.foldl (cnS d) l=l
 |[]=>rfl
 |y::r=>by
  rw[iA];have:cnS d l y=l:=by unfold cnS;rw[aj h]
  rw[this];exact PO h r
theorem EK{d:aV}:(fk d).length<=401:=by
 refine qJ (P:=λq:List cB=>q.length<=401) (λq y hq=>?_) _ _ ak;unfold cnS;split
 ·have h:=@Sa (cT d.1 d.2.1 y) d false (401-q.length) aa;rw[bn,FZ,cC];omega
 ·exact hq
def uA:Ct:=⟨[io],[true],λx=>[c9 x.1=true],[(false,(.sl yq))],λx=>(fk x.1,()),true,none⟩
def WN:Ann:=(.s .n (.s .n (.s (.s .n (.l FA [(800003,Fz)] [1] (.s .n (.s (.s .n (.s .n (.l [(3,(.ref 800003 [])),(6,(.d aC))] [(800003,Fz)] [1,4,5] .n))) .n)))) .n)))
def agn:FuncId->Option Ct:=lkp [(115,qb),(114,sJ)]
def HJ(d:aV)(K:(List cB)×Unit->Prop):Prop:=aK (S:=rS) (λa b=>let h:=a.2.1.length;let g:=a.1.2.1;let f:=lp (cT d.1 d.2.1 g) d false (401-(h:Int));Iq g<|Oa nT a.2.1<|cnd (decide (g<d.2.1.1)&&decide ((h:Int)<=400)) (ShapeP d.1/\ShapeP d.2.1/\0<=g/\g<d.2.1.1/\(Ik (401-(h:Int))<|ParP (cT d.1 d.2.1 g) d/\401-(h:Int)<=1000/\aK (S:=rS) (λc e=>let i:=c.1.2.1;Iq i<|Oa nT c.2.1<|cnd (decide (i<(f.length:Int))) (Ix i f.length<|bg c.2.1.length ((g,f.getD i.toNat [])::([]:List fm)).length 32/\(Ik (i+1)<|e (((),i+1,()),c.2.1++(g,f.getD i.toNat [])::([]:List fm),()))) (Ik (g+1)<|b (((),g+1,()),c.2.1,()))) (((),0,()),a.2.1,()))) (K (a.2.1,()))) (((),0,()),([]:List fm),())
theorem Xh(d:aV)(hok:ab (okL uA.args (d,())))(hpre:ab (uA.pre (d,()))):HJ d (λr=>r=uA.res (d,())):=by
 simp only[uA,okL,T.oks,T.ok,ap,ab,aL,az,aW]at hok hpre
 try dsimp only[T.den]at hok hpre
 delta HJ Ik Iq Ix Oa
 dsimp -proj -eta only;have hf:c9 d=true:=hpre;have F:=pf hf;have hd:=(AO hf).2;have tob:=F.tgt.ob;have hres:(uA).res (d,())=(fk d,()):=rfl;rw[hres];have hL:fk d=(aG d.2.1.1.toNat λx=>x).foldl (cnS d) []:=rfl;have hl:=@EK d;rw[hL]at hl⊢;generalize hX:(aG d.2.1.1.toNat λx=>x)=X at *;have hXl:(X.length:Int)=d.2.1.1:=by rw[←hX,bA];omega
 have hXg:∀y:Int,0<=y->y<d.2.1.1->X.getD y.toNat 0=y:=λy y0 y1=>by rw[←hX];exact dN y0 aa
 clear hok hX;refine bt (λ(s:rS)=>0<=s.1.2.1/\s.1.2.1<=d.2.1.1/\s.2.1=(X.take s.1.2.1.toNat).foldl (cnS d) []/\s.2.1.length<=401) (λ(s:rS)=>(d.2.1.1-s.1.2.1).toNat) ?_ ⟨ak,tob.1,rfl,ak⟩;rintro⟨⟨_,x,_⟩,l,_⟩ next ⟨x0,x1,hq,hll⟩ hnx
 intros
 try dsimp only at x0 x1 hq hll hnx⊢
 refine aJ (λh=>?_) (λh=>?_)
 ·simp only[ao,db]at h;have hm:=@Sa (cT d.1 d.2.1 x) d false (401-l.length) aa;refine⟨F.src,F.tgt,x0,h.1,aB,⟨ZW F.src hd x0 h.1,F,rfl,rfl⟩,aa,?_⟩;have hA:FZ d x (401-l.length)=(lp (cT d.1 d.2.1 x) d false (401-l.length)).map λq=>(x,q):=rfl;generalize lp (cT d.1 d.2.1 x) d false (401-l.length)=G at *;refine bt (λ(s:rS)=>0<=s.1.2.1/\s.1.2.1<=G.length/\s.2.1=l++(G.take s.1.2.1.toNat).map λq=>(x,q)) (λ(s:rS)=>(G.length-s.1.2.1).toNat) ?_ ⟨ak,ak,ak⟩;rintro⟨⟨_,i,_⟩,l2,_⟩ next1 ⟨i0,i1,hl2⟩ hn1;intros
  try dsimp only at i0 i1 hl2 hn1⊢
  subst hl2;refine aE (λhi=>⟨i0,hi,bQ (by rw[bn,cC,dW];simp only[aX,bh];omega),aB,hn1 _ ⟨an,an,by dsimp only;rw[gE G [] i0 hi,mr,dk];rfl⟩ an⟩) (λhi=>?_);refine⟨aB,hnx _ ⟨an,an,?_,?_⟩ an⟩
  ·try dsimp only
   rw[gE X 0 x0 aa,iO,←hq,hXg x x0 h.1,fU aa];show _=cnS d l x;unfold cnS;rw[am h.2,hA]
  ·try dsimp only
   rw[bn,cC,dW];omega
 ·have hfin:X.foldl (cnS d) []=l:=by
   by_cases e:x<d.2.1.1
   ·rw[iP e,gB,gM]at h
    conv=>lhs;rw[←jb x.toNat X]
    rw[iO,←hq];exact PO h _
   ·rw[hq,fU aa]
  rw[hfin]
theorem WJ:aN Tryz.prog 87 uA:=ctb (au Hk (au Xi aR)) aS 87 Tryz.f87 uA WN [(5,510)] (λx K=>HJ x.1 K) (λx h1 h2=>Xh x.1 h1 h2)
def tP(d:aV):List cB:=if (fk d).length>400 then []else fk d
def tT(d:aV):Int:=if (fk d).length>400 then 3 else 0
def qv:Ct:=⟨[io],[true],λx=>[c9 x.1=true],[(false,(.fz nT)),(false,dP)],λx=>(tP x.1,tT x.1,()),true,none⟩
def HZ(d:aV)(K:(List cB)×Int×Unit->Prop):Prop:=c9 d=true/\cnd (decide (400<((fk d).length:Int))) (K (([]:List fm),3,())) (K (fk d,0,()))
theorem X7(d:aV)(hok:ab (okL qv.args (d,())))(hpre:ab (qv.pre (d,()))):HZ d (λr=>r=qv.res (d,())):=by
 simp only[qv,okL,T.oks,T.ok,ap,ab,aL,az,aW]at hok hpre
 try dsimp only[T.den]at hok hpre
 unfold HZ;have hl:(fk d).length<=401:=EK;refine⟨hpre,aE (λh=>?_) (λh=>?_)⟩
 ·have h:(fk d).length>400:=aa
  simp only[qv,tP,tT,am h]
 ·have h:¬(fk d).length>400:=aa
  simp only[qv,tP,tT,aj h]
theorem X5:aN Tryz.prog 47 qv:=ctb (au WJ aR) aS 47 Tryz.f47 qv .n [] (λx K=>HZ x.1 K) (λx h1 h2=>X7 x.1 h1 h2)
structure ConeP (d:aV) (p:cB):Prop where
 x0:0<=p.1
 x1:p.1<d.2.1.1
 l:p.2.length=d.2.2.1.length
 w:ds p.2 d.2.1.2.1.length=true
 e:∀j:Int,0<=j->j<p.2.length->d.2.1.2.1.getD (p.2.getD j.toNat 0).toNat 0=p.1/\d.2.1.2.2.1.getD (p.2.getD j.toNat 0).toNat 0=d.2.2.1.getD j.toNat 0
 n:∀a:Int,0<=a->a<d.2.2.2.length->aq d.2.1 (p.2.getD (d.1.2.1.getD a.toNat 0).toNat 0) (d.2.2.2.getD a.toNat 0)=p.2.getD (d.1.2.2.1.getD a.toNat 0).toNat 0
structure UniP (d:aV) (l:iL) (p:cB):Prop where
 n:l.length<=1000000
 a:∀q∈l,CmpP d q p
def dU(d:aV)(l:iL)(p:cB):Bool:=l.all λq=>(jF d q p).length==1
def qa:Ct:=⟨[rj,nT,tF],[false,false,true],λx=>[UniP x.1 x.2.1 x.2.2.1],[(false,cU)],λx=>(dU x.1 x.2.1 x.2.2.1,()),false,none⟩
def VO:Ann:=(.s .n (.s (.s .n (.l [(11,(.d aC))] [] [0,5,9,10] .n)) .n))
def Ht(d:aV)(all:iL)(p:cB)(K:d9):Prop:=aK (S:=cH) (λa b=>let c:=all.getD a.1.1.toNat (0,[]);Iq a.1.1<|cnd (decide (a.1.1<(all.length:Int))) (Ix a.1.1 all.length<|CmpP d c p/\cnd (((jF d c p).length:Int) != 1) (K (false,())) (Ik (a.1.1+1)<|b ((a.1.1+1,()),()))) (K (true,()))) ((0,()),())
theorem Wg(d:aV)(all:iL)(p:cB)(hok:ab (okL qa.args (d,all,p,())))(hpre:ab (qa.pre (d,all,p,()))):Ht d all p (λr=>r=qa.res (d,all,p,())):=by
 simp only[qa,okL,T.oks,T.ok,ap,ab,aL,az,aW]at hok hpre
 try dsimp only[T.den]at hok hpre
 delta Ht Ik Iq Ix
 dsimp -proj -eta only;obtain⟨hn,ha⟩:=hpre;have hval:dU d all p=all.all λq=>(jF d q p).length==1:=rfl;have res:∀b,dU d all p=b->(b,())=qa.res (d,all,p,()):=λb h=>by simp only[qa,h]
 refine AH all ((0:Int),([]:List Int)) (λq=>(jF d q p).length==1) ?_ ?_
 ·intro i next h0 h1 hno hn1 hin
  try dsimp only
  refine aE (λ_=>⟨h0,h1,ha _ (bX all _ h0 h1),aJ (λhx=>res _ (hno ?_)) (λhx=>⟨aB,hn1 ?_⟩)⟩) (λh=>absurd h1 h)
  ·rw[mt];intro e;rw[e]at hx;exact absurd hx aH
  ·rw[bN];have h:(((jF d (all.getD i.toNat ((0:Int),([]:List Int))) p).length:Nat):Int)=1:=by simpa using hx
   omega
 ·intro next h hin
  refine aE (λh=>absurd h (dK _)) (λ_=>res _ h)
theorem VR:aN Tryz.prog 95 qa:=ctb (au W9 aR) aS 95 Tryz.f95 qa VO [] (λx K=>Ht x.1 x.2.1 x.2.2.1 K) (λx h1 h2=>Wg x.1 x.2.1 x.2.2.1 h1 h2)
def lgA(d:aV)(l:aA)(a:Int):Bool:=!decide (max (d.1.2.1.getD a.toNat 0) (d.1.2.2.1.getD a.toNat 0)=(l.length:Int)-1)||aq d.2.1 (l.getD (d.1.2.1.getD a.toNat 0).toNat 0) (d.2.2.2.getD a.toNat 0)==l.getD (d.1.2.2.1.getD a.toNat 0).toNat 0
def lgT(d:aV)(l:aA)(h:Int):Bool:=cu d.2.2.2.length (lgA d (l++[h]))
def gw(d:aV)(x:Int):Nat->List Int->List (List Int)
 |0,l=>[l]
 |n+1,l=>((aF d.2.1 x (d.2.2.1.getD l.length 0)).filter (lgT d l)).flatMap λh=>gw d x n (l++[h])
theorem FM:gw d x (n+1) l=((aF d.2.1 x (d.2.2.1.getD l.length 0)).filter (lgT d l)).flatMap λh=>gw d x n (l++[h]):=rfl
def lx(d:aV)(x:Int):List cB:=(gw d x d.1.1.toNat []).map λl=>(x,l)
def dg(d:aV):List cB:=(aG d.2.1.1.toNat λx=>x).flatMap (lx d)
def sqL(d:aV)(l:aA)(a:Int):Prop:=aq d.2.1 (l.getD (d.1.2.1.getD a.toNat 0).toNat 0) (d.2.2.2.getD a.toNat 0)=l.getD (d.1.2.2.1.getD a.toNat 0).toNat 0
structure PrP (d:aV) (x:Int) (l:aA):Prop where
 h:∀j:Int,0<=j->j<l.length->l.getD j.toNat 0∈aF d.2.1 x (d.2.2.1.getD j.toNat 0)
 s:∀a:Int,0<=a->a<d.1.2.1.length->d.1.2.1.getD a.toNat 0<l.length->d.1.2.2.1.getD a.toNat 0<l.length->sqL d l a
theorem PrP.nil(F:FunP d):PrP d x []:=⟨λj j0 j1=>by simp at j1;omega,λa a0 a1 h=>by have:=(F.src.frm a0 a1).1;have h:d.1.2.1.getD a.toNat 0<0:=h;omega⟩
theorem PrP.nn(P:PrP d x l){j:Int}(j0:0<=j)(j1:j<l.length):0<=l.getD j.toNat 0/\l.getD j.toNat 0<d.2.1.2.1.length:=by have:=cY.1 (P.h j j0 j1);exact⟨this.1,this.2.1⟩
theorem Bv{j:Int}(j0:0<=j)(j1:j<l.length):(l++[h]).getD j.toNat 0=l.getD j.toNat 0:=iw j0 j1
theorem KE:(l++[h]).getD l.length 0=h:=by rw[br,g9 (bd _),ut];rfl
theorem PrP.snoc(F:FunP d)(P:PrP d x l)(hh:h∈(aF d.2.1 x (d.2.2.1.getD l.length 0)).filter (lgT d l)):PrP d x (l++[h]):=by
 obtain⟨h1,h2⟩:=mw.1 hh;have hl:(l++[h]).length=l.length+1:=ak
 refine⟨λj j0 j1=>?_,λa a0 a1 hu hv=>?_⟩
 ·by_cases e:j<l.length
  ·rw[Bv j0 e];exact P.h j j0 e
  ·have:j=l.length:=aa
   subst this;rw[cQ,KE];exact h1
 ·have f:=F.src.frm a0 a1;have hla:=F.fit.la;rw[hl]at hu hv;by_cases e:d.1.2.1.getD a.toNat 0<l.length/\d.1.2.2.1.getD a.toNat 0<l.length
  ·have:=P.s a a0 a1 e.1 e.2;unfold sqL at this⊢;rw[Bv f.1 e.1,Bv f.2.2.1 e.2];exact this
  ·have h3:=(gX.1 h2) a a0 aa;unfold lgA at h3;rw[hl]at h3;have hmx:max (d.1.2.1.getD a.toNat 0) (d.1.2.2.1.getD a.toNat 0)=((l.length+1:Nat):Int)-1:=aa
   rw[iP hmx]at h3;simpa[sqL]using h3
theorem Fp{d:aV}{x:Int}(F:FunP d):∀(n:Nat)(l:aA),PrP d x l->∀m∈gw d x n l,PrP d x m/\m.length=l.length+n/\∃t,m=l++t
 |0,l,P,m,hm=>by rw[cA.1 hm];exact⟨P,rfl,[],(iM _).symm⟩
 |n+1,l,P,m,hm=>by rw[FM]at hm;obtain⟨h,h1,h2⟩:=sg.1 hm;obtain⟨p1,p2,t,p3⟩:=Fp F n _ (P.snoc F h1) m h2;exact⟨p1,by rw[p2,bn];simp only[aX,bh];omega,h::t,by rw[p3,dk];rfl⟩
structure GoH (d:aV) (x:Int) (s:fu):Prop where
 f:s.1=cT d.1 d.2.1 x
 g:s.2.1=d
 i:s.2.2.1=false
theorem Ug(F:FunP d)(H:GoH d x s)(y0:0<=y)(y1:y<d.1.1):cW s l y=(aF d.2.1 x (d.2.2.1.getD y.toNat 0)).filter λh=>cu d.1.2.1.length (tV (cT d.1 d.2.1 x) d (l.set y.toNat h) y):=by have ho:=F.src.ob;have e1:(cT d.1 d.2.1 x).2.2.1.getD y.toNat 0=x:=dN y0 aa;have e2:(cT d.1 d.2.1 x).2.2.2.length=d.1.2.1.length:=bA _;unfold cW;rw[H.f,H.g,H.i,e1];show List.filter (nr (cT d.1 d.2.1 x) d false l y) (aF d.2.1 x (d.2.2.1.getD y.toNat 0))=_;refine List.filter_congr λh _=>?_;unfold nr;rw[e2];simp
theorem Ub(hd:cq d.2.1=true)(x0:0<=x)(x1:x<d.2.1.1){n:aA}(a0:0<=a)(a1:a<d.1.2.1.length)(hv:n.getD (d.1.2.2.1.getD a.toNat 0).toNat 0∈aF d.2.1 x y):vN (cT d.1 d.2.1 x) d n a=(aq d.2.1 (n.getD (d.1.2.1.getD a.toNat 0).toNat 0) (d.2.2.2.getD a.toNat 0)==n.getD (d.1.2.2.1.getD a.toNat 0).toNat 0):=by have e1:(cT d.1 d.2.1 x).2.2.2.getD a.toNat 0=d.2.1.2.2.2.1.getD x.toNat 0:=dN a0 a1;have hm:=cY.1 hv;have hu:=(DO hd hm.1 hm.2.1).1;rw[hm.2.2.1]at hu;unfold vN;rw[e1];show (aq d.2.1 (d.2.1.2.2.2.1.getD x.toNat 0) (n.getD (d.1.2.2.1.getD a.toNat 0).toNat 0)==aq d.2.1 (n.getD (d.1.2.1.getD a.toNat 0).toNat 0) (d.2.2.2.getD a.toNat 0))=_;rw[hu,CD,bN,bN];exact eq_comm
theorem Jf(y0:0<=y)(y1:y<l.length):(l.set y.toNat h).getD y.toNat 0=h:=by rw[br,o9,am rfl,am aa];rfl
theorem JX{j:Int}(y0:0<=y)(j0:0<=j)(e:j≠y):(l.set y.toNat h).getD j.toNat 0=l.getD j.toNat 0:=by rw[br,o9,aj aa,←br]
theorem JU(F:FunP d)(hd:cq d.2.1=true)(x0:0<=x)(x1:x<d.2.1.1)(H:GoH d x s){m:aA}(P:PrP d x m)(hm:(m.length:Int)=d.1.1)(hl:l.length=m.length)(hk:∀j:Int,0<=j->j<l.length->l.getD j.toNat 0<0\/l.getD j.toNat 0=m.getD j.toNat 0)(y0:0<=y)(y1:y<l.length):m.getD y.toNat 0∈cW s l y:=by
 rw[Ug F H y0 aa];refine mw.2 ⟨P.h y y0 aa,gX.2 λa a0 a1=>?_⟩;have f:=F.src.frm a0 a1
 have hv:∀j:Int,0<=j->j<d.1.1->(l.set y.toNat (m.getD y.toNat 0)).getD j.toNat 0<0\/(l.set y.toNat (m.getD y.toNat 0)).getD j.toNat 0=m.getD j.toNat 0:=λj j0 j1=>by
  by_cases e:j=y
  ·subst e;exact .inr (Jf y0 y1)
  ·rw[JX y0 j0 e];exact hk j j0 aa
 unfold tV;simp only[e9,db];show ((_\/(l.set y.toNat (m.getD y.toNat 0)).getD (d.1.2.1.getD a.toNat 0).toNat 0<0)\/(l.set y.toNat (m.getD y.toNat 0)).getD (d.1.2.2.1.getD a.toNat 0).toNat 0<0)\/_;rcases hv _ f.1 f.2.1 with h1|h1
 ·exact .inl (.inl (.inr h1))
 rcases hv _ f.2.2.1 f.2.2.2 with h2|h2
 ·exact .inl (.inr h2)
 right;rw[Ub hd x0 x1 a0 a1 (by rw[h2];exact P.h _ f.2.2.1 aa),h1,h2,bN];exact P.s a a0 a1 aa aa
theorem Eo{s:fu}{l:aA}(hc:∀y:Nat,y<l.length->l.getD y 0=-1->(cW s l y).length≠0):∀(n:Nat)(x:Int),n<=l.length->∃z,goX s l n x=some z/\(z=x\/0<=z/\z<n/\l.getD z.toNat 0=-1)
 |0,x,_=>⟨x,rfl,.inl rfl⟩
 |n+1,x,h=>by
  rw[xP];by_cases e:l.getD n 0=-1
  ·rw[am e,aj (hc n aa e)];obtain⟨z,h1,h2⟩:=Eo hc n (n:Int) aa;refine⟨z,h1,.inr ?_⟩;rcases h2 with h2|h2
   ·subst h2;exact⟨aa,aa,by rw[cQ];exact e⟩
   ·exact⟨h2.1,aa,h2.2.2⟩
  ·rw[aj e];obtain⟨z,h1,h2⟩:=Eo hc n x aa;exact⟨z,h1,h2.imp id λh=>⟨h.1,aa,h.2.2⟩⟩
theorem Rd{s:fu}:∀(n:Nat)(l:aA)(fd:bW),fd.length<=(goR s n l fd).length
 |0,l,fd=>bd _
 |n+1,l,fd=>by
  cases hx:goX s l l.length (-1)with
  |none=>rw[Ew hx];exact bd _
  |some x=>
   by_cases h0:x<0
   ·rw[Bb hx h0,bn];omega
   ·rw[AX hx h0];refine qJ (P:=λq:List (List Int)=>fd.length<=q.length) (λq y hq=>?_) _ _ (bd _);unfold goS;split
    ·exact c8 hq (Rd n _ _)
    ·exact hq
theorem PZ(L:aA)(fd:bW):fd.length<=(L.foldl (goS s n l x) fd).length:=by
 refine qJ (P:=λq:List (List Int)=>fd.length<=q.length) (λq y hq=>?_) _ _ (bd _);unfold goS;split
 ·exact c8 hq (Rd n _ _)
 ·exact hq
theorem RT{d:aV}{x:Int}{s:fu}(F:FunP d)(hd:cq d.2.1=true)(x0:0<=x)(x1:x<d.2.1.1)(H:GoH d x s){m:aA}(P:PrP d x m)(hm:(m.length:Int)=d.1.1):∀(n:Nat)(l:aA)(fd:bW),l.length=m.length->goM l<n->
  (∀j:Int,0<=j->j<l.length->l.getD j.toNat 0<0\/l.getD j.toNat 0=m.getD j.toNat 0)->(fd.length:Int)<s.2.2.2.1->fd.length<(goR s n l fd).length
 |0,l,fd,_,h,_,_=>absurd h (C9 _)
 |n+1,l,fd,hl,hn,hk,hf=>by
  have hne:∀y:Nat,y<l.length->l.getD y 0=-1->(cW s l y).length≠0:=λy y1 _ h0=>by have:=JU F hd x0 x1 H P hm hl hk (y:=(y:Int)) aa aa;rw[CE]at h0;rw[h0]at this;cases this
  obtain⟨z,hz,h2⟩:=Eo hne l.length (-1) (bd _);by_cases h0:z<0
  ·rw[Bb hz h0,bn];simp only[aX,bh];omega
  ·rw[AX hz h0];have h2:0<=z/\z<l.length/\l.getD z.toNat 0=-1:=h2.resolve_left aa;have hmem:=JU F hd x0 x1 H P hm hl hk h2.1 h2.2.1;have hmz:=P.nn h2.1 aa;obtain⟨L1,L2,e⟩:=List.append_of_mem hmem;rw[e,iO,iA];refine fF ?_ (PZ L2 _);have g1:=PZ (s:=s) (n:=n) (l:=l) (x:=z) L1 fd;generalize L1.foldl (goS s n l z) fd=f1 at *;unfold goS;split
   ·rename_i hlt;have hM:=Kk (h:=m.getD z.toNat 0) aa l z.toNat h2.2.2;refine Nat.lt_of_le_of_lt g1 (RT F hd x0 x1 H P hm n (l.set z.toNat (m.getD z.toNat 0)) f1 (by rw[gK];exact hl) aa (λj j0 j1=>?_) hlt);rw[gK]at j1;by_cases e:j=z
    ·subst e;exact .inr (Jf h2.1 h2.2.1)
    ·rw[JX h2.1 j0 e];exact hk j j0 j1
   ·omega
theorem QL(M:Nat)(A B:List α):(A.take M++B).take M=(A++B).take M:=by rw[uk,uk,List.take_take,Nat.min_self,dW];congr 2;omega
theorem DM{A:List α}(B:List α)(h:A.length=M):(A++B).take M=A:=by rw[uk,fU aa,show M-A.length=0 by omega,List.take_zero,iM]
theorem K7{pre:aA}{k:Nat}{j:Int}(j0:(pre.length:Int)<=j)(j1:j<pre.length+k):(pre++List.replicate k (-1)).getD j.toNat 0=-1:=by rw[lh j0,x9 aa aa]
theorem abe{pre:aA}{k:Nat}(h:∀y∈pre,0<=y):goM (pre++List.replicate k (-1))=k:=by unfold goM;rw[zn,List.filter_eq_nil_iff.2 (λy hy=>by have:=h y hy;simp;omega),o7,List.filter_eq_self.2 (λy hy=>by rw[w6 hy];rfl),eA]
theorem abk(F:FunP d)(hd:cq d.2.1=true)(x0:0<=x)(x1:x<d.2.1.1)(H:GoH d x s)(P:PrP d x pre)(hn:(pre.length+(k+1):Nat)=d.1.1.toNat):cW s (pre++List.replicate (k+1) (-1)) pre.length=(aF d.2.1 x (d.2.2.1.getD pre.length 0)).filter (lgT d pre):=by
 have ho:=F.src.ob;rw[Ug F H aa aa,cQ];refine List.filter_congr λh hh=>?_;have hm:=cY.1 hh;have hset:(pre++List.replicate (k+1) (-1)).set pre.length h=(pre++[h])++List.replicate k (-1):=by rw[List.set_append_right _ _ (bd _),ut,uo,ur,dk];rfl
 rw[hset];have hl:(pre++[h]).length=pre.length+1:=ak
 have hla:=F.fit.la;unfold lgT;rw[hla,CD,gX,gX]
 have key:∀a:Int,0<=a->a<d.1.2.1.length->tV (cT d.1 d.2.1 x) d ((pre++[h])++List.replicate k (-1)) pre.length a=lgA d (pre++[h]) a:=λa a0 a1=>by
  have f:=F.src.frm a0 a1;have hlo:∀j:Int,0<=j->j<=pre.length->((pre++[h])++List.replicate k (-1)).getD j.toNat 0=(pre++[h]).getD j.toNat 0:=λj j0 j1=>iw j0 (by rw[hl];omega)
  have hnn:∀j:Int,0<=j->j<=pre.length->0<=(pre++[h]).getD j.toNat 0:=λj j0 j1=>by
   by_cases e:j<pre.length
   ·rw[Bv j0 e];exact (P.nn j0 e).1
   ·have:j=pre.length:=aa
    subst this;rw[cQ,KE];exact hm.1
  have hhi:∀j:Int,(pre.length:Int)<j->j<d.1.1->((pre++[h])++List.replicate k (-1)).getD j.toNat 0=-1:=λj j0 j1=>K7 (by rw[hl];omega) (by rw[hl];omega);unfold tV lgA;rw[hl];show (((((d.1.2.1.getD a.toNat 0 != (pre.length:Int))&&(d.1.2.2.1.getD a.toNat 0 != (pre.length:Int)))||decide (((pre++[h])++List.replicate k (-1)).getD (d.1.2.1.getD a.toNat 0).toNat 0<0))||decide (((pre++[h])++List.replicate k (-1)).getD (d.1.2.2.1.getD a.toNat 0).toNat 0<0))||vN (cT d.1 d.2.1 x) d ((pre++[h])++List.replicate k (-1)) a)=_;by_cases eu:(pre.length:Int)<d.1.2.1.getD a.toNat 0
  ·rw[hhi _ eu f.2.1,oz (show ¬max (d.1.2.1.getD a.toNat 0) (d.1.2.2.1.getD a.toNat 0)=((pre.length+1:Nat):Int)-1 by omega)];simp
  by_cases ev:(pre.length:Int)<d.1.2.2.1.getD a.toNat 0
  ·rw[hhi _ ev f.2.2.2,oz (show ¬max (d.1.2.1.getD a.toNat 0) (d.1.2.2.1.getD a.toNat 0)=((pre.length+1:Nat):Int)-1 by omega)];simp
  rw[hlo _ f.1 aa,hlo _ f.2.2.1 aa,oz (show ¬(pre++[h]).getD (d.1.2.1.getD a.toNat 0).toNat 0<0 from Int.not_lt.2 (hnn _ f.1 aa)),oz (show ¬(pre++[h]).getD (d.1.2.2.1.getD a.toNat 0).toNat 0<0 from Int.not_lt.2 (hnn _ f.2.2.1 aa))];by_cases e:max (d.1.2.1.getD a.toNat 0) (d.1.2.2.1.getD a.toNat 0)=((pre.length+1:Nat):Int)-1
  ·rw[iP e];have hne:((d.1.2.1.getD a.toNat 0 != (pre.length:Int))&&(d.1.2.2.1.getD a.toNat 0 != (pre.length:Int)))=false:=by rw[w7,fY,fY];omega
   have hv:((pre++[h])++List.replicate k (-1)).getD (d.1.2.2.1.getD a.toNat 0).toNat 0∈aF d.2.1 x (d.2.2.1.getD (d.1.2.2.1.getD a.toNat 0).toNat 0):=by
    rw[hlo _ f.2.2.1 aa];by_cases e2:d.1.2.2.1.getD a.toNat 0<pre.length
    ·rw[Bv f.2.2.1 e2];exact P.h _ f.2.2.1 e2
    ·have e3:d.1.2.2.1.getD a.toNat 0=pre.length:=aa
     rw[e3,cQ,KE];exact hh
   rw[hne,Ub hd x0 x1 a0 a1 hv,hlo _ f.1 aa,hlo _ f.2.2.1 aa];simp
  ·rw[oz e];have hne:((d.1.2.1.getD a.toNat 0 != (pre.length:Int))&&(d.1.2.2.1.getD a.toNat 0 != (pre.length:Int)))=true:=by rw[ao,lH,lH];omega
   rw[hne];simp
 exact⟨λq a a0 a1=>by rw[←key a a0 a1];exact q a a0 a1,λq a a0 a1=>by rw[key a a0 a1];exact q a a0 a1⟩
theorem KN{s:fu}{l:aA}:∀(n:Nat)(x:Int),n<=l.length->(∀y:Nat,y<n->l.getD y 0≠-1)->goX s l n x=some x
 |0,x,_,_=>rfl
 |n+1,x,h,hn=>by rw[xP,aj (hn n aa)];exact KN n x aa λy hy=>hn y aa
theorem RY{s:fu}{pre:aA}{k:Nat}(hp:∀y∈pre,0<=y):∀(i:Nat)(x:Int),i<=k->goX s (pre++List.replicate k (-1)) (pre.length+i) x=none\/(goX s (pre++List.replicate k (-1)) (pre.length+i) x=some (if i=0 then x else pre.length)/\∀y:Nat,pre.length<=y->y<pre.length+i->(cW s (pre++List.replicate k (-1)) y).length≠0)
 |0,x,_=>by
  right;refine⟨?_,λy h1 h2=>aa⟩;rw[am rfl];refine KN _ _ (by rw[bn];omega) λy hy e=>?_;have h1:y<pre.length:=aa
  rw[br,fT h1,bU h1]at e;have:=hp _ (zd h1);simp at e;omega
 |i+1,x,h=>by
  have e1:(pre++List.replicate k (-1)).getD (pre.length+i) 0=-1:=by
   have:=@K7 pre k ((pre.length+i:Nat):Int) aa aa
   rwa [cQ]at this
  rw[←rV,xP,am e1];by_cases hc:(cW s (pre++List.replicate k (-1)) ((pre.length+i:Nat):Int)).length=0
  ·rw[am hc];exact .inl rfl
  ·rw[aj hc];rcases RY (s:=s) (k:=k) hp i ((pre.length+i:Nat):Int) aa with h1|⟨h1,h2⟩
   ·exact .inl h1
   ·right;refine⟨?_,λy y0 y1=>?_⟩
    ·rw[h1,aj (Nat.succ_ne_zero i)];split
     ·rename_i e;subst e;rfl
     ·rfl
    ·by_cases e:y<pre.length+i
     ·exact h2 y y0 e
     ·have:y=pre.length+i:=aa
      subst this;exact hc
theorem Sx{d:aV}{x:Int}{s:fu}(F:FunP d)(hd:cq d.2.1=true)(x0:0<=x)(x1:x<d.2.1.1)(H:GoH d x s):∀(k:Nat)(pre:aA)(fd:bW),PrP d x pre->pre.length+k=d.1.1.toNat->(fd.length:Int)<s.2.2.2.1->
  goR s (k+1) (pre++List.replicate k (-1)) fd=(fd++gw d x k pre).take s.2.2.2.1.toNat
 |0,pre,fd,P,hn,hf=>by
  have hp:∀y∈pre,0<=y:=λy hy=>by
   obtain⟨i,hi,rfl⟩:=jP hy;have:=(P.nn (j:=i) aa aa).1
   rwa [cQ,br,bU hi]at this
  rw[List.replicate_zero,iM];have hx:goX s pre pre.length (-1)=some (-1):=KN _ _ (bd _) λy hy e=>by rw[br,bU hy]at e;have:=hp _ (zd hy);simp at e;omega
  rw[Bb hx aH,gw,fU (by rw[bn];simp only[aX,bh];omega)]
 |k+1,pre,fd,P,hn,hf=>by
  have hp:∀y∈pre,0<=y:=λy hy=>by
   obtain⟨i,hi,rfl⟩:=jP hy;have:=(P.nn (j:=i) aa aa).1
   rwa [cQ,br,bU hi]at this
  have ho:=F.src.ob;have hll:(pre++List.replicate (k+1) (-1)).length=pre.length+(k+1):=by rw[bn,eA]
  rcases RY (s:=s) hp (k+1) (-1) (bd _)with h1|⟨h1,h2⟩
  ·rw[←hll]at h1;rw[Ew h1]
   have he:gw d x (k+1) pre=[]:=by
    rw[List.eq_nil_iff_forall_not_mem];intro m hm;obtain⟨q1,q2,t,q3⟩:=Fp F _ _ P m hm
    have hk:∀j:Int,0<=j->j<(pre++List.replicate (k+1) (-1)).length->(pre++List.replicate (k+1) (-1)).getD j.toNat 0<0\/(pre++List.replicate (k+1) (-1)).getD j.toNat 0=m.getD j.toNat 0:=λj j0 j1=>by
     by_cases e:j<pre.length
     ·right;rw[iw j0 e,q3,iw j0 e]
     ·left;rw[K7 aa aa];decide
    have hne:∀y:Nat,y<(pre++List.replicate (k+1) (-1)).length->(pre++List.replicate (k+1) (-1)).getD y 0=-1->(cW s (pre++List.replicate (k+1) (-1)) y).length≠0:=λy y1 _ h0=>by have:=JU F hd x0 x1 H q1 aa aa hk (y:=(y:Int)) aa aa;rw[CE]at h0;rw[h0]at this;cases this
    obtain⟨z,hz,_⟩:=Eo hne _ (-1) (bd _);rw[h1]at hz;cases hz
   rw[he,iM,fU aa]
  ·rw[←hll,aj (Nat.succ_ne_zero k)]at h1;rw[AX h1 aa,abk F hd x0 x1 H P aa,FM];have hset:∀h:Int,(pre++List.replicate (k+1) (-1)).set ((pre.length:Int)).toNat h=(pre++[h])++List.replicate k (-1):=λh=>by rw[cQ,List.set_append_right _ _ (bd _),ut,uo,ur,dk];rfl
   have key:∀(L:aA)(fd:bW),(∀h∈L,h∈(aF d.2.1 x (d.2.2.1.getD pre.length 0)).filter (lgT d pre))->fd.length<=s.2.2.2.1.toNat->L.foldl (goS s (k+1) (pre++List.replicate (k+1) (-1)) pre.length) fd=(fd++L.flatMap λh=>gw d x k (pre++[h])).take s.2.2.2.1.toNat:=by
    intro L
    induction L with
    |nil=>intro fd _ h;rw[List.foldl_nil,List.flatMap_nil,iM,fU h]
    |cons y r ih=>
     intro fd hL h;rw[iA,zo];by_cases e:(fd.length:Int)<s.2.2.2.1
     ·have hg:goS s (k+1) (pre++List.replicate (k+1) (-1)) pre.length fd y=(fd++gw d x k (pre++[y])).take s.2.2.2.1.toNat:=by unfold goS;rw[am e,hset];exact Sx F hd x0 x1 H k (pre++[y]) fd (P.snoc F (hL y (gk ..))) (by rw[bn];simp only[aX,bh];omega) e
      rw[hg,ih _ (λh hh=>hL h (fp _ hh)) (by rw[dW];omega),←dk];exact QL _ _ _
     ·have hg:goS s (k+1) (pre++List.replicate (k+1) (-1)) pre.length fd y=fd:=by unfold goS;rw[aj e]
      have hM:fd.length=s.2.2.2.1.toNat:=aa
      rw[hg,ih _ (λh hh=>hL h (fp _ hh)) h,DM _ hM,DM _ hM]
   exact key _ fd (λh hh=>hh) aa
theorem abp(hf:c9 d=true)(x0:0<=x)(x1:x<d.2.1.1)(hm:0<m):lp (cT d.1 d.2.1 x) d false m=(gw d x d.1.1.toNat []).take m.toNat:=by
 have F:=pf hf;have hd:=(AO hf).2;have ho:=F.src.ob;have hl:((fcR (cT d.1 d.2.1 x)).length:Int)=d.1.1:=SO (f:=cT d.1 d.2.1 x) ho.1;have hall:=Sx F hd x0 x1 (s:=(cT d.1 d.2.1 x,d,false,m,[])) ⟨rfl,rfl,rfl⟩ d.1.1.toNat [] [] (PrP.nil F) ak hm;have hgm:goM (List.replicate (fcR (cT d.1 d.2.1 x)).length (-1))=d.1.1.toNat:=by have:=@abe [] (fcR (cT d.1 d.2.1 x)).length (λy hy=>by cases hy);rw[o7]at this;rw[this];omega
 unfold lp;rw[hgm];have hfc:(fcR (cT d.1 d.2.1 x)).length=d.1.1.toNat:=aa
 rw[hfc];rw[o7,o7]at hall;rw[hall];split
 ·rfl
 ·rename_i hb
  have he:gw d x d.1.1.toNat []=[]:=by
   rw[List.eq_nil_iff_forall_not_mem];intro q hq;apply hb;obtain⟨q1,q2,_⟩:=Fp F _ _ (PrP.nil F) q hq;have q2:q.length=d.1.1.toNat:=by rw[q2];exact jO _
   rw[gX];intro i i0 i1;unfold foR;rw[db];have hfl:(fsR (fcR (cT d.1 d.2.1 x)) i).length=d.1.1.toNat:=by unfold fsR;rw[bA];exact hfc
   have:=RT F hd x0 x1 (s:=(cT d.1 d.2.1 x,d,false,1,[])) ⟨rfl,rfl,rfl⟩ q1 aa (goM (fsR (fcR (cT d.1 d.2.1 x)) i)+1) (fsR (fcR (cT d.1 d.2.1 x)) i) [] aa (ww _) (λj j0 j1=>?_) (by show ((0:Nat):Int)<1;decide)
   ·simp only[bh]at this;omega
   ·left;have hmem:=bX (fsR (fcR (cT d.1 d.2.1 x)) i) 0 j0 j1;obtain⟨z,_,_,e⟩:=fN.1 hmem;rw[e];split<;>decide
  rw[he,List.take_nil]
theorem JN(hf:c9 d=true):fk d=(dg d).take 401:=by
 have F:=pf hf;unfold fk dg
 have key:∀(L:aA)(fd:iL),(∀x∈L,0<=x/\x<d.2.1.1)->fd.length<=401->L.foldl (cnS d) fd=(fd++L.flatMap (lx d)).take 401:=by
  intro L
  induction L with
  |nil=>intro fd _ h;rw[List.foldl_nil,List.flatMap_nil,iM,fU h]
  |cons y r ih=>
   intro fd hL h;rw[iA,zo];have hy:=hL y (gk ..);by_cases e:(fd.length:Int)<=400
   ·have hg:cnS d fd y=(fd++lx d y).take 401:=by unfold cnS;rw[am e,FZ,abp hf hy.1 hy.2 aa,lx,List.map_take,uk,fU (l:=fd) aa,show (401-(fd.length:Int)).toNat=401-fd.length by omega]
    rw[hg,ih _ (λh hh=>hL h (fp _ hh)) (by rw[dW];omega),←dk];exact QL _ _ _
   ·have hg:cnS d fd y=fd:=by unfold cnS;rw[aj e]
    have hM:fd.length=401:=aa
    rw[hg,ih _ (λh hh=>hL h (fp _ hh)) h,DM _ hM,DM _ hM]
 have:=key (aG d.2.1.1.toNat λx=>x) [] (λx hx=>by obtain⟨i,i0,i1,rfl⟩:=fN.1 hx;exact⟨i0,by have:=F.tgt.ob;omega⟩) ak;rw[this,o7]
theorem Jn(hf:c9 d=true){p:cB}(h:p∈dg d):ConeP d p:=by
 have F:=pf hf;have ho:=F.src.ob;have hlo:=F.fit.lo;have hla:=F.fit.la;obtain⟨x,hx,h⟩:=sg.1 h;obtain⟨i,i0,i1,rfl⟩:=fN.1 hx;obtain⟨l,hl,rfl⟩:=fX.1 h;obtain⟨q1,q2,_⟩:=Fp F _ _ (PrP.nil F) l hl;have hlen:(l.length:Int)=d.1.1:=by rw[q2];simp;omega
 refine⟨i0,by have:=F.tgt.ob;omega,by show l.length=_;omega,fw.2 λj j0 j1=>q1.nn j0 j1,λj j0 j1=>?_,λa a0 a1=>?_⟩
 ·have:=cY.1 (q1.h j j0 j1);exact⟨this.2.2.1,this.2.2.2⟩
 ·have f:=F.src.frm a0 aa;exact q1.s a a0 aa aa aa
theorem Qm{p q:cB}(F:FunP d)(hq:ConeP d q)(hp:ConeP d p):CmpP d q p:=by
 have ho:=F.src.ob;have hlo:=F.fit.lo;have l1:=hp.l;have l2:=hq.l
 exact⟨F.tgt,aa,aa,λf hf=>by
  obtain⟨i,hi,rfl⟩:=jP hf;have:=fw.1 hp.w i aa aa
  rwa [cQ,br,bU hi]at this⟩
theorem QG(hf:c9 d=true){p:cB}(h:p∈fk d):ConeP d p:=by rw[JN hf]at h;exact Jn hf (List.mem_of_mem_take h)
theorem abh(hf:c9 d=true){p:cB}(hp:ConeP d p):UniP d (fk d) p:=⟨by have:=@EK d;omega,λ_ hq=>Qm (pf hf) (QG hf hq) hp⟩
theorem aa2(hf:c9 d=true){p:cB}(hp:ConeP d p):UniP d (tP d) p:=by
 unfold tP;split
 ·exact⟨ak,λ_ hq=>by cases hq⟩
 ·exact abh hf hp
abbrev Gz:Type:=Int->List Int×List cB->(List Int×List cB)×Bool
def chL(step:Gz):List Int->List Int×List cB->(List Int×List cB)×Bool
 |[],s=>(s,true)
 |f::r,s=>if (step f s).2=true then chL step r (step f s).1 else ((step f s).1,false)
def chT(d:aV)(l:aA)(j a:Int):Bool:=!decide (max (d.1.2.1.getD a.toNat 0) (d.1.2.2.1.getD a.toNat 0)=j)||aq d.2.1 (l.getD (d.1.2.1.getD a.toNat 0).toNat 0) (d.2.2.2.getD a.toNat 0)==l.getD (d.1.2.2.1.getD a.toNat 0).toNat 0
def chR(d:aV)(apex x:Int):Nat->Nat->List Int×List cB->(List Int×List cB)×Bool
 |0,_,s=>((s.1,s.2++[(x,s.1)]),decide ((s.2.length:Int)+1<=400))
 |k+1,j,s=>chL (λf s=>if cu d.2.2.2.length (chT d (s.1.set j f) j)=true then chR d apex x k (j+1) (s.1.set j f,s.2)else ((s.1.set j f,s.2),true)) (aF d.2.1 apex (d.2.2.1.getD j 0)) s
theorem Uc(a b:Int):mxR a b=max a b:=by unfold mxR;split<;>omega
abbrev ui:Type:=List Int×List cB
theorem Qf{step:Gz}{P:List Int×List cB->Prop}(h:∀f s,P s->P (step f s).1):∀(L:aA)(s:ui),P s->P (chL step L s).1
 |[],s,hs=>hs
 |f::r,s,hs=>by
  unfold chL;split
  ·exact Qf h r _ (h f s hs)
  ·exact h f s hs
theorem PY{step:Gz}{P:List Int×List cB->Prop}(h:∀f s,P s->(step f s).2=true->P (step f s).1):∀(L:aA)(s:ui),P s->(chL step L s).2=true->P (chL step L s).1
 |[],s,hs,_=>hs
 |f::r,s,hs,ht=>by
  unfold chL at ht⊢;split at ht
  ·rename_i e;rw[am e];exact PY h r _ (h f s hs e) ht
  ·cases ht
def chS(d:aV)(apex x:Int)(k j:Nat)(f:Int)(s:ui):(List Int×List cB)×Bool:=if cu d.2.2.2.length (chT d (s.1.set j f) j)=true then chR d apex x k (j+1) (s.1.set j f,s.2)else ((s.1.set j f,s.2),true)
theorem FS{apex:Int}{s:ui}:chR d apex x (k+1) j s=chL (chS d apex x k j) (aF d.2.1 apex (d.2.2.1.getD j 0)) s:=rfl
theorem Kq{d:aV}{apex x:Int}(l0:aA):∀(k j:Nat)(s:ui),(s.1.length=l0.length/\∀i:Nat,i<j->s.1.getD i 0=l0.getD i 0)->((chR d apex x k j s).1.1.length=l0.length/\∀i:Nat,i<j->(chR d apex x k j s).1.1.getD i 0=l0.getD i 0)
 |0,j,s,h=>h
 |k+1,j,s,h=>by
  rw[FS];refine Qf (P:=λs=>s.1.length=l0.length/\∀i:Nat,i<j->s.1.getD i 0=l0.getD i 0) (λf s hs=>?_) _ s h;have hset:((s.1.set j f).length=l0.length/\∀i:Nat,i<j->(s.1.set j f).getD i 0=l0.getD i 0):=⟨by rw[gK];exact hs.1,λi hi=>by rw[br,o9,aj aa,←br];exact hs.2 i hi⟩;unfold chS;split
  ·have ih:=Kq (d:=d) (apex:=apex) (x:=x) (s.1.set j f) k (j+1) (s.1.set j f,s.2) ⟨rfl,λi _=>rfl⟩;exact⟨by rw[ih.1];exact hset.1,λi hi=>by rw[ih.2 i aa];exact hset.2 i hi⟩
  ·exact hset
theorem SJ{d:aV}{apex x:Int}:∀(k j:Nat)(s:ui),s.2.length<=400->(chR d apex x k j s).2=true->(chR d apex x k j s).1.2.length<=400
 |0,j,s,h,ht=>by have ht:decide ((s.2.length:Int)+1<=400)=true:=ht;rw[db]at ht;show (s.2++[(x,s.1)]).length<=400;rw[bn];simp only[aX,bh];omega
 |k+1,j,s,h,ht=>by
  rw[FS]at ht⊢;refine PY (P:=λs=>s.2.length<=400) (λf s hs hst=>?_) _ s h ht;unfold chS at hst⊢;split
  ·rename_i e;rw[am e]at hst;exact SJ k (j+1) _ hs hst
  ·exact hs
structure LgP (sh:ah) (out:iL) (list:aA) (c:ah) (d:aV) (j:Int):Prop where
 F:FunP d
 s:sh=d.1
 c:c=d.2.1
 l:(list.length:Int)=d.1.1
 j0:0<=j
 j1:j<=d.1.1
 o:out.length<=400
 r:∀i:Int,0<=i->i<j->0<=list.getD i.toNat 0/\list.getD i.toNat 0<d.2.1.2.1.length
def lgK:List V->List Nat
 |[.ad s _,.bx (.fn _ (.p (.ad o _) (.p (.ad x _) _))),.ad l _,.ad c _,.ad a _,.ad d _,_]=>[s,o,x,l,c,a,d]
 |_=>[]
def lgQ(s o x l c a d:Nat)(v:V):V:=.p (.ad s [.de]) (.p (.bx (.fn 83 (.p (.ad o [.de]) (.p (.ad x [.de]) .u)))) (.p (.ad l [.de]) (.p (.ad c [.de]) (.p (.ad a [.de]) (.p (.ad d [.de]) (.p v .u))))))
def lgS(s o x l c a d:Nat):Nat->V
 |0=>.d .any ()
 |n+1=>.fn 113 (lgQ s o x l c a d (.bx (lgS s o x l c a d n)))
def lgP(lv:Nat):List Nat->List V
 |[s,o,x,l,c,a,d]=>[.ad s [.de],.bx (.fn 83 (.p (.ad o [.de]) (.p (.ad x [.de]) .u))),.ad l [.de],.ad c [.de],.ad a [.de],.ad d [.de],.bx (lgS s o x l c a d lv)]
 |_=>[]
def tR:Nat->Sh
 |0=>.d .any
 |n+1=>.fc 113 (.pr (.ad 999900 [.de]) (.pr (.bx (.fc 83 (.pr (.ad 999901 [.de]) (.pr (.ad 999902 [.de]) .u)))) (.pr (.ad 999903 [.de]) (.pr (.ad 999904 [.de]) (.pr (.ad 999905 [.de]) (.pr (.ad 999906 [.de]) (.pr (.bx (tR n)) .u)))))))
def lgE:(n:Nat)->(tR n).den
 |0=>()
 |n+1=>((),(((),((),())),((),((),((),((),(lgE n,())))))))
def kj(lv n:Nat):Wz:=⟨false,[(.pt (.fz ir)),BM,vm,Uf,(.pt (.fz ir)),vm,(.pt (.fz rj))],[aC],lgK,lgP lv,λxs y=>[(xs.2.2.2.2.2.2.1.1.1-y.1).toNat<n,LgP xs.1 xs.2.1 xs.2.2.2.1 xs.2.2.2.2.1 xs.2.2.2.2.2.2.1 y.1],λxs y=>(xs.1,(chR xs.2.2.2.2.2.2.1 xs.2.2.2.2.2.1 xs.2.2.1 (xs.2.2.2.2.2.2.1.1.1-y.1).toNat y.1.toNat (xs.2.2.2.1,xs.2.1)).1.2,xs.2.2.1,(chR xs.2.2.2.2.2.2.1 xs.2.2.2.2.2.1 xs.2.2.1 (xs.2.2.2.2.2.2.1.1.1-y.1).toNat y.1.toNat (xs.2.2.2.1,xs.2.1)).1.1,xs.2.2.2.2.1,xs.2.2.2.2.2.1,xs.2.2.2.2.2.2.1,()),λxs y=>(chR xs.2.2.2.2.2.2.1 xs.2.2.2.2.2.1 xs.2.2.1 (xs.2.2.2.2.2.2.1.1.1-y.1).toNat y.1.toNat (xs.2.2.2.1,xs.2.1)).2⟩
def I7:Ct:=zCt (kj 9 9)
def D6(E:Type)(e:E)(n:Nat)(sh:ah)(out:iL)(x:Int)(list:aA)(c:ah)(apex:Int)(d:aV)(j:Int)(K:(ah×List cB×Int×List Int×ah×Int×aV×Unit)->Bool->Prop):Prop:=let u:=aF c apex (d.2.2.1.getD j.toNat 0);cnd (j==sh.1) (out.length<=1000/\list.length<=1000/\K (sh,out++(x,list)::([]:List fm),x,list,c,apex,d,()) (decide ((out.length:Int)+1<=400))) (Ix j d.2.2.1.length<|c.2.1.length<=40/\c.2.2.1.length=c.2.1.length/\aK (S:=((Unit×(g8×(Unit×(Unit×(Unit×(Unit×(E×(Int×Unit))))))))×uf)) (λa b=>let t:=a.1.2.2.2.2.2.2.2.1;let r:=a.2.2.2.2;let a2:=r.2.2.2.1;Iq t<|Oc a.2.1<|Oa nT a.2.2.1<|Iq a.2.2.2.1<|Ol r.1<|Oc r.2.1<|Iq r.2.2.1<|Of a2<|cnd (decide (t<(u.length:Int))) (bK (S:=((Unit×(g8×(Unit×(Unit×(Unit×(Unit×(E×Unit)))))))×uf)) (λf=>let y:=f.2.2.2.2;Oc f.2.1<|Oa nT f.2.2.1<|Iq f.2.2.2.1<|Ol y.1<|Oc y.2.1<|Iq y.2.2.1<|Of y.2.2.2.1<|Ik (t+1)<|b (((),((),(),()),(),(),(),(),f.1.2.2.2.2.2.2.1,t+1,()),f.2.1,f.2.2.1,f.2.2.2.1,y.1,y.2.1,y.2.2.1,y.2.2.2.1,())) (λg=>Ix t u.length<|Ix j r.1.length<|aK (S:=((Unit×(g8×(Unit×(Unit×(Unit×(Unit×(E×(Int×Unit))))))))×uf)) (λh i=>let a7:=h.2.2.1;let a5:=h.2.1;let a0:=h.2.2.2.1;let z:=h.1.2.2.2.2.2.2;let p:=h.2.2.2.2;let a6:=p.2.1;let a3:=p.2.2.1;let v:=p.2.2.2.1;let a4:=Int.toNat (v.1.1-(j+1));let m:=z.2.1;let a1:=a2.2.2.2.getD m.toNat 0;let q:=a5.2.2.1.getD m.toNat 0;let o:=a5.2.1.getD m.toNat 0;let w:=p.1.getD o.toNat 0;let l:=chR v a3 a0 a4 (Int.toNat (j+1)) (p.1,a7);Iq m<|Oc a5<|Oa nT a7<|Iq a0<|Ol p.1<|Oc a6<|Iq a3<|Of v<|cnd (decide (m<(a2.2.2.2.length:Int))) (Ix m a2.2.2.2.length<|Ix m a5.2.1.length<|Ix m a5.2.2.1.length<|((mxR o q==j)=true->o<(p.1.length:Int)/\0<=o)/\((mxR o q==j)=true->w<(a6.2.2.2.2.length:Int)/\(Ix a1 (a6.2.2.2.2.getD w.toNat []).length<|0<=w))/\((mxR o q==j)=true->q<(p.1.length:Int)/\0<=q)/\cnd (mxR o q==j&&aq a6 w a1 != p.1.getD q.toNat 0) (g (((),((),(),()),(),(),(),(),z.1,()),a5,a7,a0,p.1,a6,a3,v,())) (Ik (m+1)<|i (((),((),(),()),(),(),(),(),z.1,m+1,()),a5,a7,a0,p.1,a6,a3,v,()))) (Ik (j+1)<|a4<n/\LgP a5 a7 p.1 a6 v (j+1)/\cnd (!l.2) (K (a5,l.1.2,a0,l.1.1,a6,a3,v,()) false) (g (((),((),(),()),(),(),(),(),z.1,()),a5,l.1.2,a0,l.1.1,a6,a3,v,())))) (((),((),(),()),(),(),(),(),a.1.2.2.2.2.2.2.1,0,()),a.2.1,a.2.2.1,a.2.2.2.1,List.set r.1 j.toNat (u.getD t.toNat 0),r.2.1,r.2.2.1,a2,()))) (K (a.2.1,a.2.2.1,a.2.2.2.1,r.1,r.2.1,r.2.2.1,a2,()) true)) (((),((),(),()),(),(),(),(),e,0,()),sh,out,x,list,c,apex,d,()))
def N9(l:Nat):Ann:=(.s .n (.s .n (.s .n (.s (.s .n (.l [(1,(.ad 999900 [.de])),(2,(.bx (.fc 83 (.pr (.ad 999901 [.de]) (.pr (.ad 999902 [.de]) .u))))),(3,(.ad 999903 [.de])),(4,(.ad 999904 [.de])),(5,(.ad 999905 [.de])),(6,(.ad 999906 [.de])),(7,(.bx (tR l))),(36,(.d aC))] La [0,34,35] (.s .n (.s .n (.s (.j [(1,(.ad 999900 [.de])),(2,(.bx (.fc 83 (.pr (.ad 999901 [.de]) (.pr (.ad 999902 [.de]) .u))))),(3,(.ad 999903 [.de])),(4,(.ad 999904 [.de])),(5,(.ad 999905 [.de])),(6,(.ad 999906 [.de])),(7,(.bx (tR l)))] La [0,34,35,36] (.s .n (.s .n (.s (.s .n (.l [(1,(.ad 999900 [.de])),(2,(.bx (.fc 83 (.pr (.ad 999901 [.de]) (.pr (.ad 999902 [.de]) .u))))),(3,(.ad 999903 [.de])),(4,(.ad 999904 [.de])),(5,(.ad 999905 [.de])),(6,(.ad 999906 [.de])),(7,(.bx (tR l))),(49,(.d aC))] La [0,34,35,36,47,48] .n)) .n)))) .n))))) .n))))
abbrev qw(l:Nat):Wz:=kj (l+1) (l+1)
def XA(l:Nat):Prop:=(∀ρ:Nat->Nat,(qw l).pat ((da (len (qw l).os) z0).map ρ)=((qw l).pat (da (len (qw l).os) z0)).map (iW ρ))/\kY (qw l).as=(cj (len (qw l).as) (toL Tryz.f113.params)).map (λq=>(tab.τ q).agg)/\zT (qw l) Tryz.f113 (eC Tryz.f113)=true/\∀xs y K,vP tab (lkp [(113,zCt (kj l l)),(84,jy),(46,m8),(83,Hz)]) (fJ [(3,512),(10,15),(11,17)]) Tryz.f113 (eC Tryz.f113) (N9 (l+1)) (qw l) xs y K=D6 (tR (l+1)).den (lgE (l+1)) l xs.1 xs.2.1 xs.2.2.1 xs.2.2.2.1 xs.2.2.2.2.1 xs.2.2.2.2.2.1 xs.2.2.2.2.2.2.1 y.1 K
theorem Y6(E:Type)(e:E)(n:Nat)(sh:ah)(out:iL)(x:Int)(list:aA)(c:ah)(apex:Int)(d:aV)(j:Int)(hok:ab (okZ (kj 1 (n+1)).os (sh,out,x,list,c,apex,d,())))(hok2:ab (okL (kj 1 (n+1)).as (j,())))(hpre:ab ((kj 1 (n+1)).pre (sh,out,x,list,c,apex,d,()) (j,()))):D6 E e n sh out x list c apex d j (λzs b=>zs=(kj 1 (n+1)).new (sh,out,x,list,c,apex,d,()) (j,())/\b=(kj 1 (n+1)).res (sh,out,x,list,c,apex,d,()) (j,())):=by
 simp only[kj,okZ,O.strip,okL,T.oks,T.ok,ap,ab,aL,az,aW]at hok hok2 hpre
 try dsimp only[T.den]at hok
 try dsimp only[T.den]at hok2
 try dsimp only[T.den]at hpre
 delta D6 Ik Iq Ix Oa Oc Of Ol Om
 dsimp -proj -eta only;obtain⟨hmu,F,rfl,rfl,hl,j0,j1,ho,hr⟩:=hpre;have hmu:(d.1.1-j).toNat<n+1:=hmu;clear hok hok2;have S:=F.tgt;have C:=F.src;have cob:=C.ob;have cm:=C.m;have clt:=C.lt;have sm:=S.m;have slc:=S.lc;have hlo:=F.fit.lo;have hla:=F.fit.la;have haw:=fw.1 F.fit.aw;refine aJ (λhe=>?_) (λhe=>?_)
 ·have he:j=d.1.1:=by simpa using he
  have hk:(d.1.1-j).toNat=0:=aa
  refine⟨aa,aa,?_⟩;show _=(d.1,(chR d apex x (d.1.1-j).toNat j.toNat (list,out)).1.2,x,(chR d apex x (d.1.1-j).toNat j.toNat (list,out)).1.1,d.2.1,apex,d,())/\_=(chR d apex x (d.1.1-j).toNat j.toNat (list,out)).2;rw[hk];exact⟨rfl,rfl⟩
 have he:¬j=d.1.1:=by simpa using he
 obtain⟨k,hk⟩:∃k,(d.1.1-j).toNat=k+1:=⟨(d.1.1-j).toNat-1,aa⟩;refine⟨j0,aa,sm,S.lt,?_⟩;have hres:∀zs b,zs=(d.1,(chR d apex x (k+1) j.toNat (list,out)).1.2,x,(chR d apex x (k+1) j.toNat (list,out)).1.1,d.2.1,apex,d,())->b=(chR d apex x (k+1) j.toNat (list,out)).2->(zs=(kj 1 (n+1)).new (d.1,out,x,list,d.2.1,apex,d,()) (j,())/\b=(kj 1 (n+1)).res (d.1,out,x,list,d.2.1,apex,d,()) (j,())):=λzs b h1 h2=>by show zs=(d.1,(chR d apex x (d.1.1-j).toNat j.toNat (list,out)).1.2,x,(chR d apex x (d.1.1-j).toNat j.toNat (list,out)).1.1,d.2.1,apex,d,())/\b=(chR d apex x (d.1.1-j).toNat j.toNat (list,out)).2;rw[hk];exact⟨h1,h2⟩
 rw[FS]at hres;have hmem:=λi:Int=>@Bw d.2.1 apex (d.2.2.1.getD j.toNat 0) i;have hHl:=@gD (λf=>d.2.1.2.1.getD f.toNat 0==apex&&d.2.1.2.2.1.getD f.toNat 0==d.2.2.1.getD j.toNat 0) d.2.1.2.1.length;have hH0:aF d.2.1 apex (d.2.2.1.getD j.toNat 0)=dh d.2.1.2.1.length λf=>d.2.1.2.1.getD f.toNat 0==apex&&d.2.1.2.2.1.getD f.toNat 0==d.2.2.1.getD j.toNat 0:=rfl;rw[←hH0]at hHl;generalize aF d.2.1 apex (d.2.2.1.getD j.toNat 0)=H at *;refine bt (λ(s:((Unit×(g8×(Unit×(Unit×(Unit×(Unit×(E×(Int×Unit))))))))×uf))=>0<=s.1.2.2.2.2.2.2.2.1/\s.1.2.2.2.2.2.2.2.1<=H.length/\chL (chS d apex x k j.toNat) H (list,out)=chL (chS d apex x k j.toNat) (H.drop s.1.2.2.2.2.2.2.2.1.toNat) (s.2.2.2.2.1,s.2.2.1)/\(s.2.2.2.2.1.length:Int)=d.1.1/\s.2.2.1.length<=400/\(∀i:Int,0<=i->i<j->0<=s.2.2.2.2.1.getD i.toNat 0/\s.2.2.2.2.1.getD i.toNat 0<d.2.1.2.1.length)/\s.2.1=d.1/\s.2.2.2.1=x/\s.2.2.2.2.2=(d.2.1,apex,d,())) (λ(s:((Unit×(g8×(Unit×(Unit×(Unit×(Unit×(E×(Int×Unit))))))))×uf))=>(H.length-s.1.2.2.2.2.2.2.2.1).toNat) ?_ ⟨ak,ak,rfl,hl,ho,hr,rfl,rfl,rfl⟩;rintro⟨⟨_,_,_,_,_,_,e1,i,_⟩,sh1,o1,x1,l1,c1,a1,d1,_⟩ next ⟨i0,i1,hch,hl1,ho1,hr1,q1,q2,q3⟩ hnx
 intros
 try dsimp only at i0 i1 hch hl1 ho1 hr1 q1 q2 q3 hnx⊢
 simp only[bE,az]at q3;obtain⟨q3,q4,q5⟩:=q3;subst q1;subst q2;subst q3;subst q4;subst q5;refine aE (λhi=>?_) (λhi=>?_)
 ·have hf:=hmem i i0 hi;have hdrop:H.drop i.toNat=H.getD i.toNat 0::H.drop (i.toNat+1):=by rw[zf aa,br,bU aa];rfl
  rw[hdrop,chL]at hch;generalize H.getD i.toNat 0=f at *;have hle:((l1.set j.toNat f).length:Int)=d1.1.1:=by rw[gK];exact hl1
  have hset:∀u:Int,0<=u->u<=j->0<=(l1.set j.toNat f).getD u.toNat 0/\(l1.set j.toNat f).getD u.toNat 0<d1.2.1.2.1.length:=λu u0 u1=>by
   by_cases e:u=j
   ·subst e;rw[Jf u0 aa];exact⟨hf.1,hf.2.1⟩
   ·rw[JX j0 u0 e];exact hr1 u u0 aa
  refine bZ (λ(q:((Unit×(g8×(Unit×(Unit×(Unit×(Unit×(E×Unit)))))))×uf))=>chL (chS d1 a1 x1 k j.toNat) H (list,out)=chL (chS d1 a1 x1 k j.toNat) (H.drop (i+1).toNat) (q.2.2.2.2.1,q.2.2.1)/\(q.2.2.2.2.1.length:Int)=d1.1.1/\q.2.2.1.length<=400/\(∀i:Int,0<=i->i<j->0<=q.2.2.2.2.1.getD i.toNat 0/\q.2.2.2.2.1.getD i.toNat 0<d1.2.1.2.1.length)/\q.2.1=d1.1/\q.2.2.2.1=x1/\q.2.2.2.2.2=(d1.2.1,a1,d1,())) ?_ ?_
  ·rintro⟨⟨_,_,_,_,_,_,e2,_⟩,sh2,o2,x2,l2,c2,a2,d2,_⟩ hq;intros
   try dsimp only at hq⊢
   exact⟨aB,hnx _ ⟨an,an,hq.1,hq.2.1,hq.2.2.1,hq.2.2.2.1,hq.2.2.2.2.1,hq.2.2.2.2.2.1,hq.2.2.2.2.2.2⟩ an⟩
  ·intro kk hkk;have hdn:(i+1).toNat=i.toNat+1:=aa
   rw[hdn]at hkk;refine⟨i0,hi,j0,aa,?_⟩;refine bt (λ(s:((Unit×(g8×(Unit×(Unit×(Unit×(Unit×(E×(Int×Unit))))))))×uf))=>0<=s.1.2.2.2.2.2.2.2.1/\s.1.2.2.2.2.2.2.2.1<=d1.2.2.2.length/\cu s.1.2.2.2.2.2.2.2.1.toNat (chT d1 (l1.set j.toNat f) j)=true/\s.2=(d1.1,o1,x1,l1.set j.toNat f,d1.2.1,a1,d1,())) (λ(s:((Unit×(g8×(Unit×(Unit×(Unit×(Unit×(E×(Int×Unit))))))))×uf))=>(d1.2.2.2.length-s.1.2.2.2.2.2.2.2.1).toNat) ?_ ⟨ak,ak,rfl,rfl⟩;rintro⟨⟨_,_,_,_,_,_,e2,a,_⟩,sh2,o2,x2,l2,c2,a2,d2,_⟩ next1 ⟨a0,a1',hb,hq⟩ hn1;intros
   try dsimp only at a0 a1' hb hq hn1⊢
   simp only[bE,az]at hq;obtain⟨q1,q2,q3,q4,q5,q6,q7⟩:=hq;subst q1;subst q2;subst q3;subst q4;subst q5;subst q6;subst q7;refine aE (λha=>?_) (λha=>?_)
   ·have fr:=C.frm a0 aa;have hw:=haw a a0 ha;have hchT:chT d2 (l1.set j.toNat f) j a=(!(mxR (d2.1.2.1.getD a.toNat 0) (d2.1.2.2.1.getD a.toNat 0)==j)||aq d2.2.1 ((l1.set j.toNat f).getD (d2.1.2.1.getD a.toNat 0).toNat 0) (d2.2.2.2.getD a.toNat 0)==(l1.set j.toNat f).getD (d2.1.2.2.1.getD a.toNat 0).toNat 0):=by unfold chT;rw[Uc];rfl
    have bnd:(mxR (d2.1.2.1.getD a.toNat 0) (d2.1.2.2.1.getD a.toNat 0)==j)=true->d2.1.2.1.getD a.toNat 0<=j/\d2.1.2.2.1.getD a.toNat 0<=j:=λh=>by
     have h:mxR (d2.1.2.1.getD a.toNat 0) (d2.1.2.2.1.getD a.toNat 0)=j:=by simpa using h
     rw[Uc]at h;omega
    refine⟨a0,ha,a0,aa,a0,aa,λh=>⟨by have:=bnd h;omega,fr.1⟩,λh=>?_,λh=>⟨by have:=bnd h;omega,fr.2.2.1⟩,?_⟩
    ·have hu:=hset _ fr.1 (bnd h).1;refine⟨aa,hw.1,?_,hu.1⟩;rw[S.row _ hu.1 hu.2];exact hw.2
    ·refine aJ (λhx=>?_) (λhx=>⟨aB,hn1 _ ⟨an,an,?_,rfl⟩ an⟩)
     ·refine hkk _ ⟨?_,hle,ho1,λu u0 u1=>hset u u0 aa,rfl,rfl,rfl⟩;have hstep:chS d2 a2 x2 k j.toNat f (l1,o2)=((l1.set j.toNat f,o2),true):=by unfold chS;rw[aj];rw[G8 j0,gX];intro hall;have:=hall a a0 ha;rw[hchT]at this;simp only[ao]at hx;rw[hx.1,wq,yY]at this;have h2:=hx.2;rw[bne,this]at h2;cases h2
      rw[hch,hstep,am rfl]
     ·try dsimp only
      rw[xB a0,hb,gB,hchT];revert hx;generalize (mxR (d2.1.2.1.getD a.toNat 0) (d2.1.2.2.1.getD a.toNat 0)==j)=b1;intro hx
      cases b1 with
      |false=>rfl
      |true=>rw[gB,bne,oB]at hx;rw[hx];rfl
   ·have ea:a.toNat=d2.2.2.2.length:=aa
    rw[ea]at hb;have hstep:chS d2 a2 x2 k j.toNat f (l1,o2)=chR d2 a2 x2 k (j+1).toNat (l1.set j.toNat f,o2):=by unfold chS;rw[am (by rw[G8 j0];exact hb),show (j+1).toNat=j.toNat+1 by omega]
    have hk2:(d2.1.1-(j+1)).toNat=k:=aa
    rw[hstep]at hch;have hkeep:=Kq (d:=d2) (apex:=a2) (x:=x2) (l1.set j.toNat f) k (j+1).toNat (l1.set j.toNat f,o2) ⟨rfl,λ_ _=>rfl⟩;have hlen:=SJ (d:=d2) (apex:=a2) (x:=x2) k (j+1).toNat (l1.set j.toNat f,o2) ho1;rw[hk2];refine⟨aB,aa,⟨F,rfl,rfl,hle,aa,aa,ho1,λu u0 u1=>hset u u0 aa⟩,aJ (λhx=>?_) (λhx=>?_)⟩
    ·have hx:(chR d2 a2 x2 k (j+1).toNat (l1.set j.toNat f,o2)).2=false:=by simpa using hx
     rw[aj (by rw[hx];decide)]at hch;exact hres _ _ (by rw[hch]) (by rw[hch])
    ·have hx:(chR d2 a2 x2 k (j+1).toNat (l1.set j.toNat f,o2)).2=true:=by simpa using hx
     rw[am hx]at hch;refine hkk _ ⟨hch,by rw[hkeep.1];exact hle,hlen hx,λu u0 u1=>?_,rfl,rfl,rfl⟩
     try dsimp only
     rw[hkeep.2 u.toNat aa];exact hset u u0 aa
 ·have ei:i.toNat=H.length:=aa
  rw[ei,List.drop_length,chL]at hch;exact hres _ _ (by rw[hch]) (by rw[hch])
theorem WE:aN Tryz.prog 113 (zCt (kj 0 0)):=ady (qA (fn:=Tryz.f113) (c:=eC Tryz.f113) (by kernel_rfl) (by kernel_rfl) (by kernel_rfl)) (λxs y h=>C9 _ h.1)
theorem qz(l:Nat)(ih:aN Tryz.prog 113 (zCt (kj l l)))(h:XA l):aN Tryz.prog 113 (zCt (kj (l+1) (l+1))):=afd (Φ:=lkp [(113,zCt (kj l l)),(84,jy),(46,m8),(83,Hz)]) (au ih (au qd (au oD (au VU aR)))) aS (by kernel_rfl) (fn:=Tryz.f113) (c:=eC Tryz.f113) (by kernel_rfl) (by kernel_rfl) (by kernel_rfl) (qw l) (N9 (l+1)) (fJ [(3,512),(10,15),(11,17)]) h.1 h.2.1 (by kernel_rfl) h.2.2.1 (λxs y K=>D6 (tR (l+1)).den (lgE (l+1)) l xs.1 xs.2.1 xs.2.2.1 xs.2.2.2.1 xs.2.2.2.2.1 xs.2.2.2.2.2.1 xs.2.2.2.2.2.2.1 y.1 K) h.2.2.2 (λxs y h1 h2 h3=>Y6 (tR (l+1)).den (lgE (l+1)) l xs.1 xs.2.1 xs.2.2.1 xs.2.2.2.1 xs.2.2.2.2.1 xs.2.2.2.2.2.1 xs.2.2.2.2.2.2.1 y.1 h1 h2 h3)
theorem X6:aN Tryz.prog 113 I7:=qz 8 (qz 7 (qz 6 (qz 5 (qz 4 (qz 3 (qz 2 (qz 1 (qz 0 WE ⟨λρ=>by kernel_rfl,by kernel_rfl,by kernel_rfl,λxs y K=>by kernel_rfl⟩) ⟨λρ=>by kernel_rfl,by kernel_rfl,by kernel_rfl,λxs y K=>by kernel_rfl⟩) ⟨λρ=>by kernel_rfl,by kernel_rfl,by kernel_rfl,λxs y K=>by kernel_rfl⟩) ⟨λρ=>by kernel_rfl,by kernel_rfl,by kernel_rfl,λxs y K=>by kernel_rfl⟩) ⟨λρ=>by kernel_rfl,by kernel_rfl,by kernel_rfl,λxs y K=>by kernel_rfl⟩) ⟨λρ=>by kernel_rfl,by kernel_rfl,by kernel_rfl,λxs y K=>by kernel_rfl⟩) ⟨λρ=>by kernel_rfl,by kernel_rfl,by kernel_rfl,λxs y K=>by kernel_rfl⟩) ⟨λρ=>by kernel_rfl,by kernel_rfl,by kernel_rfl,λxs y K=>by kernel_rfl⟩) ⟨λρ=>by kernel_rfl,by kernel_rfl,by kernel_rfl,λxs y K=>by kernel_rfl⟩
def lfK:List V->List Nat
 |[.fn _ (.p (.ad o _) (.p (.ad x _) _))]=>[o,x]
 |_=>[]
def lfP:List Nat->List V
 |[o,x]=>[.fn 83 (.p (.ad o [.de]) (.p (.ad x [.de]) .u))]
 |_=>[]
theorem Qb(h:j<l.length)(f:Int):(l.set j f).take (j+1)=l.take j++[f]:=by rw[List.take_add_one,List.take_set_of_le (bd _),o9,am rfl,am h];rfl
theorem J_{i:Nat}(h:i<j):(l.take j).getD i 0=l.getD i 0:=by rw[br,fE,am h,←br]
theorem ad9(F:FunP d)(h:j<l.length)(f:Int):cu d.2.2.2.length (chT d (l.set j f) j)=lgT d (l.take j) f:=by
 have hla:=F.fit.la;have hset:∀u:Int,0<=u->u<=j->(l.set j f).getD u.toNat 0=(l.take j++[f]).getD u.toNat 0:=λu u0 u1=>by rw[←Qb h,J_ aa]
 have hlen:(l.take j++[f]).length=j+1:=by rw[bn,dW];simp only[aX,bh];omega
 unfold lgT;rw[CD,gX,gX]
 have key:∀a:Int,0<=a->a<d.2.2.2.length->chT d (l.set j f) j a=lgA d (l.take j++[f]) a:=λa a0 a1=>by
  have fr:=F.src.frm a0 aa;unfold chT lgA;rw[hlen,show ((j+1:Nat):Int)-1=(j:Int) by omega];by_cases e:max (d.1.2.1.getD a.toNat 0) (d.1.2.2.1.getD a.toNat 0)=(j:Int)
  ·rw[hset _ fr.1 aa,hset _ fr.2.2.1 aa]
  ·rw[oz e];rfl
 exact⟨λq a a0 a1=>by rw[←key a a0 a1];exact q a a0 a1,λq a a0 a1=>by rw[key a a0 a1];exact q a a0 a1⟩
def lgF(d:aV)(apex:Int)(k:Nat)(pre H:aA):List (List Int):=(H.filter (lgT d pre)).flatMap λh=>gw d apex k (pre++[h])
theorem a_{l0:aA}(hl:l.length=l0.length)(h:∀i:Nat,i<j->l.getD i 0=l0.getD i 0):l.take j=l0.take j:=by
 apply mo;intro i;rw[fE,fE];split
 ·rename_i hi;by_cases hk:i<l.length
  ·have:=h i hi;rw[br,br,bU hk,bU aa]at this;rw[bU hk,bU aa];simpa using this
  ·rw[ja aa,ja aa]
 ·rfl
theorem SR{d:aV}{apex x:Int}(F:FunP d):∀(k j:Nat)(s:ui),s.1.length=j+k->s.2.length<=400->
  (s.2.length+(gw d apex k (s.1.take j)).length<=400->(chR d apex x k j s).2=true/\(chR d apex x k j s).1.2=s.2++(gw d apex k (s.1.take j)).map λl=>(x,l))/\
  (¬s.2.length+(gw d apex k (s.1.take j)).length<=400->(chR d apex x k j s).2=false)
 |0,j,s,hl,ho=>by
  have hs:s.1.take j=s.1:=fU aa;rw[hs];refine⟨λh=>⟨?_,rfl⟩,λh=>?_⟩
  ·have h:s.2.length+1<=400:=h;show decide ((s.2.length:Int)+1<=400)=true;rw[db];omega
  ·have h:¬s.2.length+1<=400:=h;show decide ((s.2.length:Int)+1<=400)=false;rw[gM];omega
 |k+1,j,s,hl,ho=>by
  have hpl:(s.1.take j).length=j:=by rw[dW];omega
  have hlg:gw d apex (k+1) (s.1.take j)=lgF d apex k (s.1.take j) (aF d.2.1 apex (d.2.2.1.getD j 0)):=by rw[FM,hpl];rfl
  rw[hlg,FS];generalize aF d.2.1 apex (d.2.2.1.getD j 0)=H;generalize hpre:s.1.take j=pre at hpl;clear hlg
  induction H generalizing s with
  |nil=>
   refine⟨λ_=>⟨rfl,?_⟩,λh=>?_⟩
   ·show s.2=s.2++[];rw[iM]
   ·exact absurd ho (by simpa[lgF]using h)
  |cons f r ih=>
   have hj:j<s.1.length:=aa
   rw[chL];have ht:=ad9 F hj f;rw[hpre]at ht;have hsl:(s.1.set j f).length=j+(k+1):=by rw[gK];exact hl
   have hst:(s.1.set j f).take j=pre:=by rw[←hpre,List.take_set_of_le (bd _)]
   cases hb:lgT d pre f with
   |false=>
    have hstep:chS d apex x k j f s=((s.1.set j f,s.2),true):=by unfold chS;rw[ht,hb,aj aH]
    have hF:lgF d apex k pre (f::r)=lgF d apex k pre r:=by unfold lgF;rw[oy,hb,aj aH]
    rw[hstep,am rfl,hF];exact ih (s.1.set j f,s.2) hsl ho hst
   |true=>
    have hstep:chS d apex x k j f s=chR d apex x k (j+1) (s.1.set j f,s.2):=by unfold chS;rw[ht,hb,am rfl]
    have hF:lgF d apex k pre (f::r)=gw d apex k (pre++[f])++lgF d apex k pre r:=by unfold lgF;rw[oy,hb,am rfl,zo]
    have hlaw:=SR F (apex:=apex) (x:=x) k (j+1) (s.1.set j f,s.2) an ho;dsimp only at hlaw;rw[Qb hj,hpre]at hlaw;rw[hstep,hF];by_cases hA:s.2.length+(gw d apex k (pre++[f])).length<=400
    ·obtain⟨e1,e2⟩:=hlaw.1 hA;rw[am e1];have hkeep:=Kq (d:=d) (apex:=apex) (x:=x) (s.1.set j f) k (j+1) (s.1.set j f,s.2) ⟨rfl,λ_ _=>rfl⟩;have hlen:(chR d apex x k (j+1) (s.1.set j f,s.2)).1.2.length=s.2.length+(gw d apex k (pre++[f])).length:=by rw[e2,bn,cC]
     have:=ih (chR d apex x k (j+1) (s.1.set j f,s.2)).1 (by rw[hkeep.1];exact hsl) aa (by rw[a_ hkeep.1 λi hi=>hkeep.2 i aa];exact hst);rw[hlen]at this;rw[bn,←rV];refine⟨λh=>?_,this.2⟩;obtain⟨g1,g2⟩:=this.1 h;exact⟨g1,by rw[g2,e2,mr,dk]⟩
    ·have e:=hlaw.2 hA;rw[aj (by rw[e];decide)];exact⟨λh=>absurd h (by rw[bn];omega),λ_=>rfl⟩
def nD:Wz:=⟨false,[BM,vm],[rj,aC],lfK,lfP,λxs y=>[FunP y.1,xs.1.length<=400],λxs y=>((chR y.1 y.2.1 xs.2.1 y.1.1.1.toNat 0 (List.replicate y.1.1.1.toNat 0,xs.1)).1.2,xs.2.1,()),λxs y=>(chR y.1 y.2.1 xs.2.1 y.1.1.1.toNat 0 (List.replicate y.1.1.1.toNat 0,xs.1)).2⟩
def NU:Ct:=zCt nD
def DB(out:iL)(x:Int)(d:aV)(apex:Int)(K:Cl):Prop:=let b:=d.2.2.1.length;let a:=List.replicate (Int.toNat (b:Int)) (0:Int);let c:=chR d apex x (Int.toNat (d.1.1-0)) 0 (a,out);0<=(b:Int)/\(b:Int)<=(b:Int)/\(b:Int)<=((140737488355328:Nat):Int)/\(b:Int)*((8:Nat):Int)<=((140737488355328:Nat):Int)/\Int.toNat (d.1.1-0)<9/\LgP d.1 out a d.2.1 d 0/\K (c.1.2,x,()) c.2
theorem YT(xs:d8 nD.os)(y:bq nD.as)(K:Cl):vP tab (lkp [(113,I7)]) (fJ [(1,45008)]) Tryz.f82 (eC Tryz.f82) .n nD xs y K=DB xs.1 xs.2.1 y.1 y.2.1 K:=by kernel_rfl
theorem YY(out:iL)(x:Int)(d:aV)(apex:Int)(hok:ab (okZ nD.os (out,x,())))(hok2:ab (okL nD.as (d,apex,())))(hpre:ab (nD.pre (out,x,()) (d,apex,()))):DB out x d apex (λzs b=>zs=nD.new (out,x,()) (d,apex,())/\b=nD.res (out,x,()) (d,apex,())):=by
 simp only[nD,okZ,O.strip,okL,T.oks,T.ok,ap,ab,aL,az,aW]at hok hok2 hpre
 try dsimp only[T.den]at hok
 try dsimp only[T.den]at hok2
 try dsimp only[T.den]at hpre
 delta DB
 dsimp -proj -eta only;obtain⟨F,ho⟩:=hpre;have cob:=F.src.ob;have hlo:=F.fit.lo;refine⟨aa,aa,aa,aa,aa,⟨F,rfl,rfl,by rw[eA];omega,dB _,cob.1,ho,λi i0 i1=>aa⟩,?_⟩;rw[show (d.1.1-0).toNat=d.1.1.toNat by omega,show ((d.2.2.1.length:Nat):Int).toNat=d.1.1.toNat by omega];exact⟨rfl,rfl⟩
theorem YK:aN Tryz.prog 82 NU:=LO (Φ:=lkp [(113,I7)]) (au X6 aR) aS (by kernel_rfl) (fn:=Tryz.f82) (c:=eC Tryz.f82) (by kernel_rfl) (by kernel_rfl) (by kernel_rfl) nD .n (fJ [(1,45008)]) (λρ=>by kernel_rfl) (by kernel_rfl) (by kernel_rfl) (by kernel_rfl) (by kernel_rfl) (by kernel_rfl) (by kernel_rfl) (eU rfl) (by kernel_rfl) (λxs y K=>DB xs.1 xs.2.1 y.1 y.2.1 K) (YT) (λxs y h1 h2 h3=>YY xs.1 xs.2.1 y.1 y.2.1 h1 h2 h3)
def jL(d:aV):Bool:=decide ((dg d).length<=400)
def acR(d:aV):List cB:=if (dg d).length<=400 then dg d else []
theorem b_(L:aA)(g:Int->List α)(n:Nat):(L.flatMap g).length=((L.take n).flatMap g).length+((L.drop n).flatMap g).length:=by
 conv=>lhs;rw[←jb n L]
 rw[G7,bn]
def sA:Ct:=⟨[rj],[false],λx=>[c9 x.1=true],[(false,Uk),(false,cU)],λx=>(acR x.1,jL x.1,()),false,none⟩
def W6:Ann:=(.s .n (.s .n (.s (.s .n (.l [(4,(.ad 4 [.de])),(5,(.ad 5 [.de]))] [(4,BM),(5,vm)] [0] .n)) .n)))
def agp:FuncId->Option Ct:=lkp [(82,NU),(75,sS)]
def HV(d:aV)(K:(List cB)×Bool×Unit->Prop):Prop:=aK (S:=LS) (λa b=>let e:=a.2.2.1;let c:=chR d e e d.1.1.toNat 0 (List.replicate d.1.1.toNat (0:Int),a.2.1);Oa nT a.2.1<|Iq e<|cnd (decide (e<d.2.1.1)) (FunP d/\a.2.1.length<=400/\cnd (!c.2) (K (([]:List fm),false,())) (Ik (e+1)<|b (((),(),()),c.1.2,e+1,()))) (K (a.2.1,true,()))) (((),(),()),([]:List fm),0,())
theorem Xk(d:aV)(hok:ab (okL sA.args (d,())))(hpre:ab (sA.pre (d,()))):HV d (λr=>r=sA.res (d,())):=by
 simp only[sA,okL,T.oks,T.ok,ap,ab,aL,az,aW]at hok hpre
 try dsimp only[T.den]at hok hpre
 delta HV Ik Iq Oa
 dsimp -proj -eta only;have hf:c9 d=true:=hpre;have F:=pf hf;have tob:=F.tgt.ob;have cob:=F.src.ob;have hres:(sA).res (d,())=(acR d,jL d,()):=rfl;rw[hres];have hA:dg d=(aG d.2.1.1.toNat λx=>x).flatMap (lx d):=rfl;unfold acR jL;rw[hA];generalize hX:(aG d.2.1.1.toNat λx=>x)=X;have hXl:(X.length:Int)=d.2.1.1:=by rw[←hX,bA];omega
 have hXg:∀y:Int,0<=y->y<d.2.1.1->X.getD y.toNat 0=y:=λy y0 y1=>by rw[←hX];exact dN y0 aa
 clear hok hX;refine bt (λ(s:LS)=>0<=s.2.2.1/\s.2.2.1<=d.2.1.1/\s.2.1=(X.take s.2.2.1.toNat).flatMap (lx d)/\s.2.1.length<=400) (λ(s:LS)=>(d.2.1.1-s.2.2.1).toNat) ?_ ⟨ak,tob.1,rfl,ak⟩;rintro⟨_,out,x,_⟩ next ⟨x0,x1,hq,hl⟩ hnx
 intros
 try dsimp only at x0 x1 hq hl hnx⊢
 refine aE (λhx=>?_) (λhx=>?_)
 ·have hlaw:=SR F (apex:=x) (x:=x) d.1.1.toNat 0 (List.replicate d.1.1.toNat 0,out) (by rw[eA];omega) hl;rw[List.take_zero]at hlaw
  try dsimp only at hlaw
  have hat:(lx d x).length=(gw d x d.1.1.toNat []).length:=by unfold lx;rw[cC]
  have hnext:(X.take (x+1).toNat).flatMap (lx d)=out++lx d x:=by rw[gE X 0 x0 aa,G7,←hq,hXg x x0 hx];simp
  refine⟨F,hl,aJ (λh=>?_) (λh=>?_)⟩
  ·have h:(chR d x x d.1.1.toNat 0 (List.replicate d.1.1.toNat 0,out)).2=false:=by simpa using h
   have hb:¬out.length+(gw d x d.1.1.toNat []).length<=400:=λhb=>by rw[(hlaw.1 hb).1]at h;cases h
   have hbig:¬(X.flatMap (lx d)).length<=400:=by rw[b_ X (lx d) (x+1).toNat,hnext,bn,hat];omega
   rw[aj hbig,oz hbig]
  ·have h:(chR d x x d.1.1.toNat 0 (List.replicate d.1.1.toNat 0,out)).2=true:=by simpa using h
   have hb:out.length+(gw d x d.1.1.toNat []).length<=400:=wm λhb=>by rw[hlaw.2 hb]at h;cases h
   obtain⟨_,e2⟩:=hlaw.1 hb;refine⟨aB,hnx _ ⟨an,an,?_,?_⟩ an⟩
   ·try dsimp only
    rw[hnext,e2];rfl
   ·try dsimp only
    rw[e2,bn,cC];omega
 ·have hfull:(X.take x.toNat).flatMap (lx d)=X.flatMap (lx d):=by rw[fU aa]
  rw[hfull]at hq;subst hq;rw[am hl,iP hl]
theorem WR:aN Tryz.prog 40 sA:=ctb (au YK (au I6 aR)) aS 40 Tryz.f40 sA W6 [(3,6)] (λx K=>HV x.1 K) (λx h1 h2=>Xk x.1 h1 h2)
def lsR(d:aV)(most:Int):List cB:=((acR d).filter (dU d (acR d))).take most.toNat
theorem SA{d:aV}:(acR d).length<=400:=by unfold acR;split<;>simp_all
theorem Rx(hf:c9 d=true){p:cB}(h:p∈acR d):ConeP d p:=by
 unfold acR at h;split at h
 ·exact Jn hf h
 ·cases h
theorem adx(hf:c9 d=true){p:cB}(hp:ConeP d p):UniP d (acR d) p:=⟨by have:=@SA d;omega,λ_ hq=>Qm (pf hf) (Rx hf hq) hp⟩
def uD:Ct:=⟨[rj,aC],[false,false],λx=>[c9 x.1=true,0<=x.2.1],[(false,(.sl yq)),(false,cU)],λx=>(lsR x.1 x.2.1,jL x.1,()),true,none⟩
def Yg:Ann:=(.s .n (.s .n (.s .n (.s .n (.s (.s .n (.l [(8,(.ref 800008 [])),(21,(.d aC))] [(800008,Fz)] [0,1,6,19,20] (.s .n (.s .n (.s (.s .n (.s .n (.j [(8,(.ref 800008 []))] [(800008,Fz)] [0,1,6,19,20,21] .n))) .n))))) .n)))))
def ag4:FuncId->Option Ct:=lkp [(40,sA),(95,qa)]
def Ir(d:aV)(most:Int)(K:(List cB)×Bool×Unit->Prop):Prop:=c9 d=true/\cnd (!jL d) (K (([]:List fm),false,())) (aK (S:=rS) (λa b=>let h:=a.1.2.1;let g:=decide ((a.2.1.length:Int)<most);let f:=(acR d).getD h.toNat (0,[]);Iq h<|Oa nT a.2.1<|cnd (decide (h<((acR d).length:Int))) (Ix h (acR d).length<|(g=true->UniP d (acR d) f)/\bK (S:=((Unit×Unit)×((List fm)×Unit))) (λc=>Oa nT c.2.1<|Ik (h+1)<|b (((),h+1,()),c.2.1,())) (λe=>cnd (g&&dU d (acR d) f) (bg a.2.1.length (f::([]:List fm)).length 32/\e (((),()),a.2.1++f::([]:List fm),())) (e (((),()),a.2.1,())))) (K (a.2.1,true,()))) (((),0,()),([]:List fm),()))
theorem Yw(d:aV)(most:Int)(hok:ab (okL uD.args (d,most,())))(hpre:ab (uD.pre (d,most,()))):Ir d most (λr=>r=uD.res (d,most,())):=by
 simp only[uD,okL,T.oks,T.ok,ap,ab,aL,az,aW]at hok hpre
 try dsimp only[T.den]at hok hpre
 delta Ir Ik Iq Ix Oa
 dsimp -proj -eta only;obtain⟨hf,hm⟩:=hpre;have hl:=@SA d;have hu:=λp (hp:p∈acR d)=>adx hf (Rx hf hp);have hres:(uD).res (d,most,())=(lsR d most,jL d,()):=rfl;refine⟨hf,?_⟩;rw[hres];have hno:jL d=false->lsR d most=[]:=λh=>by have h:decide ((dg d).length<=400)=false:=h;have:¬(dg d).length<=400:=of_decide_eq_false h;unfold lsR acR;rw[aj this];simp
 have hval:lsR d most=((acR d).filter (dU d (acR d))).take most.toNat:=rfl;refine aJ (λh=>?_) (λh=>?_)
 ·have h:jL d=false:=by simpa using h
  rw[hno h,h]
 ·have h:jL d=true:=by simpa using h
  rw[hval,h];generalize acR d=L at *;refine bt (λ(s:rS)=>0<=s.1.2.1/\s.1.2.1<=L.length/\s.2.1=((L.take s.1.2.1.toNat).filter (dU d L)).take most.toNat) (λ(s:rS)=>(L.length-s.1.2.1).toNat) ?_ ⟨ak,ak,ak⟩;rintro⟨⟨_,i,_⟩,out,_⟩ next ⟨i0,i1,hq⟩ hnx
  intros
  try dsimp only at i0 i1 hq hnx⊢
  refine aE (λhi=>?_) (λhi=>?_)
  ·have hp:=bX L (0,[]) i0 hi;have htk:(L.take (i+1).toNat).filter (dU d L)=(L.take i.toNat).filter (dU d L)++(if dU d L (L.getD i.toNat (0,[]))=true then [L.getD i.toNat (0,[])]else []):=by rw[gE L (0,[]) i0 hi,zn,oy,CB]
   have hfl:((L.take i.toNat).filter (dU d L)).length<=400:=by have:=wz (dU d L) (L.take i.toNat);rw[dW]at this;omega
   have hol:out.length=min most.toNat ((L.take i.toNat).filter (dU d L)).length:=by rw[hq,dW]
   refine⟨i0,hi,λ_=>hu _ hp,bZ (λ(q:((Unit×Unit)×((List fm)×Unit)))=>q.2.1=((L.take (i+1).toNat).filter (dU d L)).take most.toNat) ?_ ?_⟩
   ·rintro⟨_,o2,_⟩ h2;intros
    try dsimp only at h2⊢
    exact⟨aB,hnx _ ⟨an,an,h2⟩ an⟩
   ·intro k hk;rw[htk]at hk;generalize (L.take i.toNat).filter (dU d L)=G at *;refine aJ (λhc=>⟨bQ (by simp only[aX,bh];omega),hk _ ?_⟩) (λhc=>hk _ ?_)
    ·simp only[ao,db]at hc;have hG:G.length<most.toNat:=aa
     try dsimp only
     rw[hq,am hc.2,fU aa,fU (by rw[bn];simp only[aX,bh];omega)]
    ·try dsimp only
     rw[hq];split
     ·rename_i hu2;rw[hu2,bC,gM]at hc;rw[Cu aa]
     ·rw[iM]
  ·have ht:L.take i.toNat=L:=fU aa;rw[ht]at hq;rw[hq]
theorem XO:aN Tryz.prog 61 uD:=ctb (au WR (au VR aR)) aS 61 Tryz.f61 uD Yg [] (λx K=>Ir x.1 x.2.1 K) (λx h1 h2=>Yw x.1 x.2.1 h1 h2)
def mO(d:aV):cB×Int:=if jL d=false then ((0,[]),3)else if (lsR d 1).length=0 then ((0,[]),4)else ((lsR d 1).getD 0 (0,[]),0)
def sR:Ct:=⟨[rj],[false],λx=>[c9 x.1=true],[(true,yq),(false,dP)],λx=>((mO x.1).1,(mO x.1).2,()),true,none⟩
abbrev Cn:Type:=cB×Int×Unit->Prop
def IC(d:aV)(K:Cn):Prop:=c9 d=true/\(0:Int)<=1/\cnd (!jL d) (K ((0,[]),3,())) (cnd (((lsR d 1).length:Int)==0) (K ((0,[]),4,())) (Ix 0 (lsR d 1).length<|K ((lsR d 1).getD 0 (0,[]),0,())))
theorem YO(d:aV)(hok:ab (okL sR.args (d,())))(hpre:ab (sR.pre (d,()))):IC d (λr=>r=sR.res (d,())):=by
 simp only[sR,okL,T.oks,T.ok,ap,ab,aL,az,aW]at hok hpre
 try dsimp only[T.den]at hok hpre
 delta IC Ix
 have hf:c9 d=true:=hpre;have hres:(sR).res (d,())=((mO d).1,(mO d).2,()):=rfl;refine⟨hf,aH,?_⟩;rw[hres];refine aJ (λh=>?_) (λh=>aJ (λh2=>?_) (λh2=>⟨aH,?_,?_⟩))
 ·have h:jL d=false:=by simpa using h
  simp only[mO,am h]
 ·have h:¬jL d=false:=by simpa using h
  have h2:(lsR d 1).length=0:=by simpa using h2
  simp only[mO,aj h,am h2]
 ·have h2:¬(lsR d 1).length=0:=by simpa using h2
  omega
 ·have h:¬jL d=false:=by simpa using h
  have h2:¬(lsR d 1).length=0:=by simpa using h2
  simp only[mO,aj h,aj h2]
theorem YC:aN Tryz.prog 34 sR:=ctb (au XO aR) aS 34 Tryz.f34 sR .n [] (λx K=>IC x.1 K) (λx h1 h2=>YO x.1 h1 h2)
def mX(d:aV):cB×Int:=if c9 d=true then mO d else ((0,[]),1)
def qy:Ct:=⟨[io],[true],λx=>[],[(true,yq),(false,dP)],λx=>((mX x.1).1,(mX x.1).2,()),true,none⟩
def agu:FuncId->Option Ct:=lkp [(33,sk),(34,sR)]
def Ia(d:aV)(K:Cn):Prop:=cnd (!c9 d) (K ((0,[]),1,())) (c9 d=true/\K ((mO d).1,(mO d).2,()))
theorem XB(d:aV)(hok:ab (okL qy.args (d,())))(hpre:ab (qy.pre (d,()))):Ia d (λr=>r=qy.res (d,())):=by
 simp only[qy,okL,T.oks,T.ok,ap,ab,aL,az,aW]at hok hpre
 try dsimp only[T.den]at hok hpre
 unfold Ia;refine aJ (λhx=>?_) (λhx=>?_)
 ·have h:¬c9 d=true:=by simpa using hx
  simp only[qy,mX,aj h]
 ·have h:c9 d=true:=by simpa using hx
  refine⟨h,?_⟩;simp only[qy,mX,am h]
theorem Xw:aN Tryz.prog 8 qy:=ctb (au UP (au YC aR)) aS 8 Tryz.f8 qy .n [] (λx K=>Ia x.1 K) (λx h1 h2=>XB x.1 h1 h2)
end
end Go.Bm
