/- What the functions that FnLimitsFromProducts reaches give: for each its contract, what it asks, and the proof. No condition. -/
import Derived.Test.YtimfdllgcnabjaaGreatFnLimitsFromProductsFnsD
set_option linter.unusedVariables false
set_option linter.unusedSimpArgs false
namespace Go.Bm
open Go.Proofs
set_option maxRecDepth 100000
set_option maxHeartbeats 1000000
abbrev zt:=@List.pairwise_map
abbrev GA:=@List.Pairwise.filter
abbrev yV:=@Prod.mk.inj
noncomputable section
variable {H:aA}{K:rT}{U:Co}{c:ah}{d:aV}{f g u v w x y z:Int}{fits:yR}{l:pJ}{p:cB}{α:Type}
def mE:Ct:=⟨[io],[true],λx=>[],[(false,cU)],λx=>(c9 x.1,()),false,none⟩
def Y1:Ann:=(.s .n (.s .n (.s .n (.s .n (.s (.s .n (.l tx [] [1,3,4] .n)) (.s (.s .n (.l [(6,(.d aC))] [] [1,3,4] .n)) (.s (.s .n (.l pa [] [1,3,4] (.s .n (.s (.s .n (.l [(8,(.d aC))] [] [1,3,4,7] .n)) .n)))) .n)))))))
def ag6:FuncId->Option Ct:=lkp [(71,sP),(70,sL)]
def IE(f:aV)(K:d9):Prop:=let a5:=f.2.1.2;let w:=f.2.2.1.length;let r:=f.1.2.1.length;let q:=f.2.2.2.length;cnd (!cq f.1||!cq f.2.1||(w:Int) != f.1.1||(q:Int) != (r:Int)) (K (false,())) (cnd (!ds f.2.2.1 f.2.1.1||!ds f.2.2.2 (a5.1.length:Int)) (K (false,())) (aK (S:=cH) (λa b=>let v:=a.1.1;let a3:=f.1.2.1.getD v.toNat 0;let t:=f.1.2.2.1.getD v.toNat 0;let k:=f.2.2.1.getD a3.toNat 0;let j:=f.2.2.2.getD v.toNat 0;let o:=a5.1.getD j.toNat 0;Iq v<|cnd (decide (v<(r:Int))) (Ix v q<|Ix j a5.1.length<|Ix v r<|Ix a3 w<|((o != k)=false->v<(q:Int)/\0<=v)/\((o != k)=false->j<(a5.2.1.length:Int)/\0<=j)/\((o != k)=false->v<(f.1.2.2.1.length:Int)/\0<=v)/\((o != k)=false->t<(w:Int)/\0<=t)/\cnd (o != k||a5.2.1.getD j.toNat 0 != f.2.2.1.getD t.toNat 0) (K (false,())) (Ik (v+1)<|b ((v+1,()),()))) (aK (S:=cH) (λc d=>let a4:=c.1.1;let a2:=f.2.2.1.getD a4.toNat 0;let z:=f.1.2.2.2.1.getD a4.toNat 0;Iq a4<|cnd (decide (a4<f.1.1)) (Ix a4 f.1.2.2.2.1.length<|Ix z q<|Ix a4 w<|Ix a2 a5.2.2.1.length<|cnd (f.2.2.2.getD z.toNat 0 != a5.2.2.1.getD a2.toNat 0) (K (false,())) (Ik (a4+1)<|d ((a4+1,()),()))) (aK (S:=cH) (λe g=>let x:=e.1.1;let a1:=f.1.2.2.2.2.getD x.toNat [];let p:=f.2.2.2.getD x.toNat 0;let a0:=a5.2.2.2.getD p.toNat [];let l:=f.1.2.2.1.getD x.toNat 0;Iq x<|cnd (decide (x<(r:Int))) (aK (S:=cH) (λh i=>let y:=h.1.1;let u:=f.2.2.2.getD y.toNat 0;let n:=a1.getD y.toNat 0;let m:=f.1.2.1.getD y.toNat 0;Iq y<|cnd (decide (y<(r:Int))) (Ix x f.1.2.2.1.length<|Ix y r<|((l==m)=true->x<(f.1.2.2.2.2.length:Int)/\0<=x)/\((l==m)=true->y<(a1.length:Int)/\0<=y)/\((l==m)=true->n<(q:Int)/\0<=n)/\((l==m)=true->x<(q:Int)/\0<=x)/\((l==m)=true->p<(a5.2.2.2.length:Int)/\0<=p)/\((l==m)=true->y<(q:Int)/\0<=y)/\((l==m)=true->u<(a0.length:Int)/\0<=u)/\cnd (l==m&&f.2.2.2.getD n.toNat 0 != a0.getD u.toNat 0) (K (false,())) (Ik (y+1)<|i ((y+1,()),()))) (Ik (x+1)<|g ((x+1,()),()))) ((0,()),())) (K (true,()))) ((0,()),()))) ((0,()),()))) ((0,()),())))
theorem YR(f:aV)(hok:ab (okL mE.args (f,())))(hpre:ab (mE.pre (f,()))):IE f (λr=>r=mE.res (f,())):=by
 simp only[mE,okL,T.oks,T.ok,ap,ab,aL,az,aW]at hok hpre
 try dsimp only[T.den]at hok hpre
 delta IE Ik Iq Ix
 dsimp -proj -eta only;have hfs:∀h:c9 f=true,FitP f:=λh=>by simp only[c9,ao]at h;exact (AI (gZ h.1.1)).1 h.2
 have bad0:¬(cq f.1=true/\cq f.2.1=true/\FitP f)->(false,())=mE.res (f,()):=λh=>by
  simp only[mE]
  cases hs:c9 f with
  |false=>rfl
  |true=>
   refine absurd ⟨?_,?_,hfs hs⟩ h
   ·simp only[c9,ao]at hs;exact hs.1.1
   ·simp only[c9,ao]at hs;exact hs.1.2
 refine aJ (λhc=>bad0 λh=>?_) (λhc=>aJ (λhd=>bad0 λh=>?_) (λhd=>?_))
 ·have h1:=h.1;have h2:=h.2.1;have h3:=h.2.2.lo;have h4:=h.2.2.la;grind[cnd,ce,cF]
 ·have h1:=h.2.2.ow;have h2:=h.2.2.aw;grind[cnd,ce,cF]
 simp only[lE,oB,fY]at hc hd;obtain⟨⟨⟨hc1,hc2⟩,hlo⟩,hla⟩:=hc;obtain⟨how,haw⟩:=hd;have S:=gZ hc1;have S2:=gZ hc2;have at1:∀i j:Int,(f.1.2.2.2.2.getD i.toNat []).getD j.toNat 0=aq f.1 i j:=λ_ _=>rfl;have at2:∀i j:Int,(f.2.1.2.2.2.2.getD i.toNat []).getD j.toNat 0=aq f.2.1 i j:=λ_ _=>rfl;have hob:=S.ob;have hlt:=S.lt;have hli:=S.li;have hlc:=S.lc;have hmm:=S.m;have tob:=S2.ob;have tlt:=S2.lt;have tli:=S2.li;have tlc:=S2.lc
 have bad:¬FitP f->(false,())=mE.res (f,()):=λh=>by
  simp only[mE]
  cases hs:c9 f with
  |false=>rfl
  |true=>exact absurd (hfs hs) h
 refine eV (n:=f.1.2.1.length) (λa=>∀a':Int,0<=a'->a'<a->f.2.1.2.1.getD (f.2.2.2.getD a'.toNat 0).toNat 0=f.2.2.1.getD (f.1.2.1.getD a'.toNat 0).toNat 0/\f.2.1.2.2.1.getD (f.2.2.2.getD a'.toNat 0).toNat 0=f.2.2.1.getD (f.1.2.2.1.getD a'.toNat 0).toNat 0) aa (by intro y h0 h1;omega) ?_ ?_
 ·intro a next a0 a1 hP hn hin
  try dsimp only
  have sa:=S.frm a0 aa;have fa:=fw.1 haw a a0 aa;refine aE (λ_=>⟨a0,aa,fa.1,aa,a0,aa,sa.1,aa,λ_=>aa,λ_=>aa,λ_=>aa,λ_=>aa,aJ (λhx=>bad λh=>?_) (λhx=>⟨aB,hn λa' b0 b1=>?_⟩)⟩) (λh=>absurd a1 h)
  ·have:=h.ends a a0 aa;rw[this.1,this.2]at hx;simp at hx
  ·by_cases e:a'=a
   ·rw[e];simpa only [lE,fY]using hx
   ·exact hP a' b0 aa
 intro next hE hin
 refine aE (λh=>absurd h an) (λ_=>?_);clear next
 refine eV (n:=f.1.1) (λx=>∀x':Int,0<=x'->x'<x->f.2.2.2.getD (f.1.2.2.2.1.getD x'.toNat 0).toNat 0=f.2.1.2.2.2.1.getD (f.2.2.1.getD x'.toNat 0).toNat 0) aa (by intro y h0 h1;omega) ?_ ?_
 ·intro x next x0 x1 hP hn hin
  try dsimp only
  have ix:=S.idn x0 x1;have ox:=fw.1 how x x0 aa;refine aE (λ_=>⟨x0,aa,ix.1,aa,x0,aa,ox.1,aa,aJ (λhx=>bad λh=>?_) (λhx=>⟨aB,hn λx' b0 b1=>?_⟩)⟩) (λh=>absurd x1 h)
  ·rw[h.ids x x0 x1]at hx;simp at hx
  ·by_cases e:x'=x
   ·rw[e];simpa only [fY]using hx
   ·exact hP x' b0 aa
 intro next hI hin
 refine aE (λh=>absurd h an) (λ_=>?_);clear next
 refine eV (n:=f.1.2.1.length) (λa=>∀a':Int,0<=a'->a'<a->∀b:Int,0<=b->b<f.1.2.1.length->f.1.2.2.1.getD a'.toNat 0=f.1.2.1.getD b.toNat 0->f.2.2.2.getD (aq f.1 a' b).toNat 0=aq f.2.1 (f.2.2.2.getD a'.toNat 0) (f.2.2.2.getD b.toNat 0)) aa (by intro y h0 h1;omega) ?_ ?_
 ·intro a next a0 a1 hP hn hin
  try dsimp only
  have ra:=S.row a a0 a1;have fa:=fw.1 haw a a0 aa;have rfa:=S2.row _ fa.1 fa.2;refine aE (λ_=>?_) (λh=>absurd a1 h);refine eV (n:=f.1.2.1.length) (λb=>∀b':Int,0<=b'->b'<b->f.1.2.2.1.getD a.toNat 0=f.1.2.1.getD b'.toNat 0->f.2.2.2.getD (aq f.1 a b').toNat 0=aq f.2.1 (f.2.2.2.getD a.toNat 0) (f.2.2.2.getD b'.toNat 0)) aa (by intro y h0 h1;omega) ?_ ?_
  ·intro b next2 b0 b1 hP2 hn2 hin2
   try dsimp only
   simp only[at1,at2];have fb:=fw.1 haw b b0 aa;have cab:=S.comp a0 a1 b0 b1;have yab:=@ShapeP.yes f.1 S a b a0 a1 b0 b1;refine aE (λ_=>⟨a0,aa,b0,b1,λ_=>aa,λ_=>aa,λhq=>?_,λ_=>aa,λ_=>aa,λ_=>aa,λ_=>aa,aJ (λhx=>bad λh=>?_) (λhx=>⟨aB,hn2 λb' c0 c1=>?_⟩)⟩) (λh=>absurd b1 h)
   ·have:=yab (by simpa using hq);omega
   ·simp only[ao,bN,lH]at hx;exact hx.2 (h.comp a a0 a1 b b0 b1 (hx.1))
   ·by_cases e:b'=b
    ·rw[e];intro eab;simp only[w7,mt,fY]at hx;rcases hx with hx|hx
     ·exact absurd eab hx
     ·exact hx
    ·exact hP2 b' c0 aa
  ·intro next2 hP2 hin2;refine aE (λh=>absurd h an) (λ_=>⟨aB,hn λa' b0 b1=>?_⟩);by_cases e:a'=a
   ·rw[e];exact hP2
   ·exact hP a' b0 aa
 ·intro next hP hin
  refine aE (λh=>absurd h an) (λ_=>?_);have key:FitP f:=⟨aa,aa,how,haw,λa a0 a1=>hE a a0 aa,hI,hP⟩;simp only[mE,c9];rw[hc1,hc2,(AI S).2 key];rfl
theorem Y0:aN Tryz.prog 35 mE:=ctb (au Ig (au YH aR)) aS 35 Tryz.f35 mE Y1 [(1,999999),(22,42),(9,40),(14,19)] (λx K=>IE x.1 K) (λx h1 h2=>YR x.1 h1 h2)
def zY:Ct:=⟨[bO,aC,aC],[true,false,false],λx=>[0<=x.2.1,x.2.1<x.1.2.2.2.2.length,0<=x.2.2.1,x.2.2.1<(x.1.2.2.2.2.getD x.2.1.toNat []).length],[(false,dP)],λx=>(aq x.1 x.2.1 x.2.2.1,()),false,none⟩
def Id(c:ah)(f g:Int)(K:vU):Prop:=let a:=c.2.2.2.2.getD f.toNat [];Ix f c.2.2.2.2.length<|Ix g a.length<|K (a.getD g.toNat 0,())
theorem Yp(c:ah)(f g:Int):Mh zY (c,f,g,()) (Id c f g):=by
 intro hok hpre;simp only[zY,okL,T.oks,T.ok,ap,ab,aL,az,aW]at hok hpre
 try dsimp only[T.den]at hok hpre
 delta Id Ix
 dsimp -proj -eta only;exact⟨hpre.1,hpre.2.1,hpre.2.2.1,hpre.2.2.2,rfl⟩
theorem Xy:aN Tryz.prog 52 zY:=ctb aR aS 52 Tryz.f52 zY .n [] (λx K=>Id x.1 x.2.1 x.2.2.1 K) (λx h1 h2=>Yp x.1 x.2.1 x.2.2.1 h1 h2)
def uC:Ct:=⟨[io,tF,tF],[true,true,true],λx=>[CmpP x.1 x.2.1 x.2.2.1],[(false,bS)],λx=>(jF x.1 x.2.1 x.2.2.1,()),false,none⟩
def Xn:Ann:=(.s .n (.s .n (.s .n (.s (.s .n (.l [(8,(.ref 800008 [])),(9,(.d aC))] xD [3,4,5,7] (.s .n (.s (.s .n (.s (.s .n (.l [(8,(.ref 800008 [])),(10,(.d .bool)),(11,(.d aC))] xD [3,4,5,7,9] .n)) (.s .n (.j [(8,(.ref 800008 []))] xD [3,4,5,7,9] .n)))) .n)))) .n))))
def ag2:FuncId->Option Ct:=lkp [(88,nC),(52,zY)]
def Ic(d:aV)(p q:cB)(K:l6):Prop:=let j:=aF d.2.1 p.1 q.1;d.2.1.2.1.length<=40/\d.2.1.2.2.1.length=d.2.1.2.1.length/\aK (S:=(dH×dV)) (λa b=>let l:=a.1.2.1;let h:=j.getD l.toNat 0;Iq l<|Ol a.2.1<|cnd (decide (l<(j.length:Int))) (aK (S:=(vR×dV)) (λc e=>let i:=c.1.2.2.1;Iq i<|Ol c.2.1<|cnd (decide (i<(p.2.length:Int))&&c.1.2.1) (Ix l j.length<|Ix i q.2.length<|Ix h d.2.1.2.2.2.2.length<|Ix (q.2.getD i.toNat 0) (d.2.1.2.2.2.2.getD h.toNat []).length<|Ix i p.2.length<|Ik (i+1)<|e (((),aq d.2.1 h (q.2.getD i.toNat 0)==p.2.getD i.toNat 0,i+1,()),c.2.1,())) (bK (S:=ly) (λf=>Ol f.2.1<|Ik (l+1)<|b (((),l+1,()),f.2.1,())) (λg=>cnd c.1.2.1 (Ix l j.length<|bg c.2.1.length [h].length 8/\g (((),()),c.2.1++[h],())) (g (((),()),c.2.1,()))))) (((),true,0,()),a.2.1,())) (K (a.2.1,()))) (((),0,()),[],())
theorem XJ(d:aV)(p q:cB)(hok:ab (okL uC.args (d,p,q,())))(hpre:ab (uC.pre (d,p,q,()))):Ic d p q (λr=>r=uC.res (d,p,q,())):=by
 simp only[uC,okL,T.oks,T.ok,ap,ab,aL,az,aW]at hok hpre
 try dsimp only[T.den]at hok hpre
 delta Ic Ik Iq Ix Ol
 dsimp -proj -eta only;obtain⟨S,hl,hn,hq⟩:=hpre;refine⟨S.m,S.lt,?_⟩;have hL:=E1 S p.1 q.1;have hmem:=λi:Int=>@Bw d.2.1 p.1 q.1 i;have hval:=@QN d p q;have hlc:=S.lc;have hm:=S.m;generalize aF d.2.1 p.1 q.1=l at *;refine iB (hV (λu=>cu q.2.length (mg d p q u)) l) (n:=l.length) aa rfl ?_ ?_
 ·intro i next h0 h1 hnx hin hok
  have hmi:=hmem i h0 h1;have hr:=S.row _ hmi.1 hmi.2.1;have hf:=@xy (λu=>cu q.2.length (mg d p q u)) l i;refine aE (λ_=>?_) (λh=>absurd h1 h)
  try dsimp only
  refine bt (λ(s:vV)=>0<=s.1.2.2.1/\s.1.2.2.1<=q.2.length/\s.2.1=hV (λu=>cu q.2.length (mg d p q u)) l i/\(s.1.2.1=true->cu s.1.2.2.1.toNat (mg d p q (l.getD i.toNat 0))=true)/\(s.1.2.1=false->cu q.2.length (mg d p q (l.getD i.toNat 0))=false)) (λ(s:vV)=>(q.2.length-s.1.2.2.1).toNat) ?_ ⟨dB _,an,rfl,λ_=>rfl,λh=>nomatch h⟩;rintro⟨⟨_,b,j,_⟩,y,_⟩ next1 ⟨j0,j1,hy,ht,hf2⟩ hn1 hin1 hok1
  try dsimp only at j0 j1 hy ht hf2 hn1⊢
  subst hy;refine aJ (λhc=>?_) (λhc=>?_)
  ·obtain⟨hc1,rfl⟩:j<(p.2.length:Int)/\b=true:=by simpa using hc
   have hP:=ht rfl;have hqj:=hq _ (bX q.2 0 j0 aa);refine⟨h0,h1,j0,aa,hmi.1,aa,hqj.1,aa,j0,aa,aB,hn1 _ ⟨an,an,rfl,λh=>?_,λh=>Ez j0 aa h⟩ an⟩
   try dsimp only
   rw[xB j0,hP,gB];exact h
  ·refine bZ (λs1=>s1.2.1=hV (λu=>cu q.2.length (mg d p q u)) l (i+1)) (λs1 hs _=>⟨aB,by rw[←hs]at hnx;exact hnx⟩) (λk hk=>?_)
   cases b with
   |true=>
    have hj:¬j<(p.2.length:Int):=by simpa using hc
    have e:j.toNat=q.2.length:=aa
    have hP:=ht rfl;rw[e]at hP;refine⟨λ_=>⟨h0,h1,?_,hk _ (ya h0 h1 hP).symm⟩,λh=>nomatch h⟩;unfold bg;rw[ce];have h3:((l.getD i.toNat 0)::([]:List Int)).length=1:=rfl;rw[h3];omega
   |false=>exact⟨(λh=>nomatch h),λ_=>hk _ (vl h0 h1 (hf2 rfl)).symm⟩
 ·intro next hin hok
  refine aE (λh=>absurd h (dK _)) (λ_=>?_);simp only[uC];rw[xO aa,hval]
theorem Xo:aN Tryz.prog 48 uC:=ctb (au Af (au Xy aR)) aS 48 Tryz.f48 uC Xn [(10,17)] (λx K=>Ic x.1 x.2.1 x.2.2.1 K) (λx h1 h2=>XJ x.1 x.2.1 x.2.2.1 h1 h2)
def qi:Ct:=⟨[io,nT,tF],[true,false,true],λx=>[UniP x.1 x.2.1 x.2.2.1],[(false,cU)],λx=>(dU x.1 x.2.1 x.2.2.1,()),false,none⟩
def V9:Ann:=(.s .n (.s (.s .n (.l pa [] [1,3,5] .n)) .n))
def Hn(d:aV)(list:iL)(p:cB)(K:d9):Prop:=aK (S:=cH) (λa b=>let c:=list.getD a.1.1.toNat (0,[]);Iq a.1.1<|cnd (decide (a.1.1<(list.length:Int))) (Ix a.1.1 list.length<|CmpP d c p/\cnd (((jF d c p).length:Int) != 1) (K (false,())) (Ik (a.1.1+1)<|b ((a.1.1+1,()),()))) (K (true,()))) ((0,()),())
theorem VI(d:aV)(list:iL)(p:cB)(hok:ab (okL qi.args (d,list,p,())))(hpre:ab (qi.pre (d,list,p,()))):Hn d list p (λr=>r=qi.res (d,list,p,())):=by
 simp only[qi,okL,T.oks,T.ok,ap,ab,aL,az,aW]at hok hpre
 try dsimp only[T.den]at hok hpre
 delta Hn Ik Iq Ix
 dsimp -proj -eta only;obtain⟨hn,ha⟩:=hpre;have hval:dU d list p=list.all λq=>(jF d q p).length==1:=rfl;have res:∀b,dU d list p=b->(b,())=qi.res (d,list,p,()):=λb h=>by simp only[qi,h]
 refine AH list ((0:Int),([]:List Int)) (λq=>(jF d q p).length==1) ?_ ?_
 ·intro i next h0 h1 hno hn1 hin
  try dsimp only
  refine aE (λ_=>⟨h0,h1,ha _ (bX list _ h0 h1),aJ (λhx=>res _ (hno ?_)) (λhx=>⟨aB,hn1 ?_⟩)⟩) (λh=>absurd h1 h)
  ·rw[mt];intro e;rw[e]at hx;exact absurd hx aH
  ·rw[bN];have h:(((jF d (list.getD i.toNat ((0:Int),([]:List Int))) p).length:Nat):Int)=1:=by simpa using hx
   omega
 ·intro next h hin
  refine aE (λh=>absurd h (dK _)) (λ_=>res _ h)
theorem V7:aN Tryz.prog 72 qi:=ctb (au Xo aR) aS 72 Tryz.f72 qi V9 [(4,506)] (λx K=>Hn x.1 x.2.1 x.2.2.1 K) (λx h1 h2=>VI x.1 x.2.1 x.2.2.1 h1 h2)
def rK(d:aV)(L:iL)(i:Int):Option cB:=if dU d L (L.getD i.toNat (0,[]))=true then some (L.getD i.toNat (0,[]))else none
def mZ(d:aV):cB×Int:=if (fk d).length>400 then ((0,[]),3)else
 match ck (rK d (fk d)) (fk d).length 0 with
 |some p=>(p,0)
 |none=>((0,[]),4)
def sE:Ct:=⟨[io],[true],λx=>[c9 x.1=true],[(true,yq),(false,dP)],λx=>((mZ x.1).1,(mZ x.1).2,()),true,none⟩
def WV:Ann:=(.s .n (.s .n (.s .n (.s (.s .n (.l [(2,(.ad 2 [.de])),(6,(.d aC))] [(2,(.pt Tv))] [1,4] .n)) .n))))
def agk:FuncId->Option Ct:=lkp [(47,qv),(72,qi)]
def HI(d:aV)(K:Cn):Prop:=let f:=tP d;c9 d=true/\cnd (tT d != 0) (K ((0,[]),tT d,())) (aK (S:=(dH×(fm×Unit))) (λa b=>let e:=a.1.2.1;let c:=f.getD e.toNat (0,[]);Iq e<|Iq a.2.1.1<|Ol a.2.1.2<|cnd (decide (e<(f.length:Int))) (Ix e f.length<|UniP d f c/\cnd (dU d f c) (Ix e f.length<|K (c,0,())) (Ik (e+1)<|b (((),e+1,()),a.2.1,()))) (K ((0,[]),4,()))) (((),0,()),(0,[]),()))
theorem Xq(d:aV)(hok:ab (okL sE.args (d,())))(hpre:ab (sE.pre (d,()))):HI d (λr=>r=sE.res (d,())):=by
 simp only[sE,okL,T.oks,T.ok,ap,ab,aL,az,aW]at hok hpre
 try dsimp only[T.den]at hok hpre
 delta HI Ik Iq Ix Ol
 dsimp -proj -eta only;have hf:c9 d=true:=hpre;have hl:(fk d).length<=401:=EK;have hres:(sE).res (d,())=((mZ d).1,(mZ d).2,()):=rfl;refine⟨hf,?_⟩;rw[hres];by_cases hb:(fk d).length>400
 ·refine aJ (λ_=>?_) (λh=>?_)
  ·simp only[mZ,tT,am hb]
  ·exfalso;unfold tT at h;rw[am hb]at h;exact absurd h aH
 refine aJ (λh=>?_) (λ_=>?_)
 ·exfalso;unfold tT at h;rw[aj hb]at h;exact absurd h aH
 have hls:tP d=fk d:=by unfold tP;rw[aj hb]
 have hu:=λp (hp:p∈fk d)=>aa2 hf (QG hf hp);rw[hls]at hu⊢
 have hlim:mZ d=match ck (rK d (fk d)) (fk d).length 0 with
  |some p=>(p,0)
  |none=>((0,[]),4):=by unfold mZ;rw[aj hb]
 generalize fk d=L at *;refine bt (λ(s:(dH×(fm×Unit)))=>0<=s.1.2.1/\s.1.2.1<=L.length/\ck (rK d L) L.length 0=ck (rK d L) (L.length-s.1.2.1.toNat) s.1.2.1) (λ(s:(dH×(fm×Unit)))=>(L.length-s.1.2.1).toNat) ?_ ⟨ak,ak,rfl⟩;rintro⟨⟨_,i,_⟩,p0,_⟩ next ⟨i0,i1,hs⟩ hnx
 intros
 try dsimp only at i0 i1 hs hnx⊢
 refine aE (λhi=>?_) (λhi=>?_)
 ·have hp:=bX L (0,[]) i0 hi;rw[show L.length-i.toNat=(L.length-(i+1).toNat)+1 by omega]at hs;refine⟨i0,hi,hu _ hp,aJ (λh=>⟨i0,hi,?_⟩) (λh=>⟨aB,hnx _ ⟨an,an,?_⟩ an⟩)⟩
  ·have hq:rK d L i=some (L.getD i.toNat (0,[])):=by unfold rK;rw[am h]
   rw[hlim,hs,ck,hq]
  ·have hq:rK d L i=none:=by unfold rK;rw[aj (by rw[h];decide)]
   try dsimp only
   rw[hs,ck,hq]
 ·have:L.length-i.toNat=0:=aa
  rw[hlim,hs,this];rfl
theorem WO:aN Tryz.prog 36 sE:=ctb (au X5 (au V7 aR)) aS 36 Tryz.f36 sE WV [(7,506)] (λx K=>HI x.1 K) (λx h1 h2=>Xq x.1 h1 h2)
def iX(d:aV):cB×Int:=if c9 d=true then mZ d else ((0,[]),1)
def qu:Ct:=⟨[io],[true],λx=>[],[(true,yq),(false,dP)],λx=>((iX x.1).1,(iX x.1).2,()),true,none⟩
def ag1:FuncId->Option Ct:=lkp [(35,mE),(36,sE)]
def HQ(d:aV)(K:Cn):Prop:=cnd (!c9 d) (K ((0,[]),1,())) (c9 d=true/\K ((mZ d).1,(mZ d).2,()))
theorem XR(d:aV)(hok:ab (okL qu.args (d,())))(hpre:ab (qu.pre (d,()))):HQ d (λr=>r=qu.res (d,())):=by
 simp only[qu,okL,T.oks,T.ok,ap,ab,aL,az,aW]at hok hpre
 try dsimp only[T.den]at hok hpre
 unfold HQ;refine aJ (λhx=>?_) (λhx=>?_)
 ·have h:¬c9 d=true:=by simpa using hx
  simp only[qu,iX,aj h]
 ·have h:c9 d=true:=by simpa using hx
  refine⟨h,?_⟩;simp only[qu,iX,am h]
theorem X4:aN Tryz.prog 9 qu:=ctb (au Y0 (au WO aR)) aS 9 Tryz.f9 qu .n [] (λx K=>HQ x.1 K) (λx h1 h2=>XR x.1 h1 h2)
theorem EA{α:Type}[BEq α][LawfulBEq α]:∀{A B:List α},A.Nodup->(∀x∈A,x∈B)->B.length<=A.length->A.Perm B
 |[],B,_,_,h=>by rw[CE.1 (Nat.le_zero.1 h)]
 |a::r,B,hn,hs,h=>by rw[lG]at hn;have ha:=hs a ak;have hp:=List.perm_cons_erase ha;have hl:=hp.length_eq;simp only[aX]at hl h;have ih:=@EA α _ _ r (B.erase a) hn.2 (λx hx=>by have hne:x≠a:=λe=>hn.1 (e▸hx);exact (List.mem_erase_of_ne hne).2 (hs x (by simp[hx]))) aa;exact (ih.cons a).trans hp.symm
theorem aas[BEq α][LawfulBEq α]{K:List α}{φ:Int->α}(hH:H.Nodup)(hK:K.Nodup)(hm:∀u∈H,φ u∈K):(H.length=K.length/\(H.map φ).Nodup)<->∀k∈K,∃u,(u∈H/\φ u=k)/\∀v,v∈H->φ v=k->v=u:=by
 have hsub:∀x∈H.map φ,x∈K:=λx hx=>by obtain⟨u,hu,rfl⟩:=fX.1 hx;exact hm u hu
 have hinj:(H.map φ).Nodup->∀u v,u∈H->v∈H->φ u=φ v->u=v:=λhn u v hu hv e=>by
  obtain⟨i,hi,rfl⟩:=jP hu;obtain⟨j,hj,rfl⟩:=jP hv;rcases Nat.lt_trichotomy i j with h|h|h
  ·exact absurd e ((List.pairwise_iff_getElem.1 (zt.1 hn)) i j hi hj h)
  ·subst h;rfl
  ·exact absurd e.symm ((List.pairwise_iff_getElem.1 (zt.1 hn)) j i hj hi h)
 constructor
 ·rintro⟨h1,h2⟩ k hk;have hp:=EA h2 hsub (by rw[cC];omega);obtain⟨u,hu,e⟩:=fX.1 (hp.mem_iff.2 hk);exact⟨u,⟨hu,e⟩,λv hv ev=>hinj h2 v u hv hu (by rw[ev,e])⟩
 ·intro h;have hn:(H.map φ).Nodup:=by refine zt.2 (List.Pairwise.imp_of_mem (λ{a b} ha hb hab e=>hab ?_) hH);obtain⟨u,_,hu⟩:=h (φ b) (hm b hb);rw[hu a ha e,hu b hb rfl]
  refine⟨?_,hn⟩
  have hp:=EA hK (B:=H.map φ) (λx hx=>by
   obtain⟨u,⟨hu,e⟩,_⟩:=h x hx;exact fX.2 ⟨u,hu,e⟩) (by
   have:=EA (A:=K) (B:=K) hK (λ_ h=>h) (bd _);clear this
   exact Nat.le_of_not_lt λhlt=>by
    have h3:(H.map φ).length<=K.length:=by
     clear hlt
     have:∀{A B:List α},A.Nodup->(∀x∈A,x∈B)->A.length<=B.length:=by
      intro A
      induction A with
      |nil=>intro B _ _;simp
      |cons a r ih=>intro B hn hs;rw[lG]at hn;have ha:=hs a ak;have:=ih (B:=B.erase a) hn.2 λx hx=>(List.mem_erase_of_ne (λe:x=a=>hn.1 (by rw[←e];exact hx))).2 (hs x (by simp[hx]));have hl:=(List.perm_cons_erase ha).length_eq;simp only[aX]at hl⊢;omega
     exact this hn hsub
    omega)
  have:=hp.length_eq;rw[cC]at this;omega
theorem Ki{p:jt}:∀m:Nat,(dh m p).Nodup
 |0=>CA
 |m+1=>by
  rw[dh];split
  ·rw[List.nodup_append];refine⟨Ki m,ak,λa ha b hb=>?_⟩;have:=kS.1 ha;simp only[cA]at hb;omega
  ·exact Ki m
theorem xC{c:ah}{x y:Int}:(aF c x y).Nodup:=Ki _
theorem Pm:∀(l:pJ) (m:List ot),(l.foldl (λm k=>dq kz .bool m k true) m).length=m.length+l.length<->l.Nodup/\∀k∈l,k∉m.map (·.1)
 |[],m=>ak
 |a::r,m=>by
  have hle:=Kt r (dq kz .bool m a true);have hl:=@PA kz .bool a true m;have ih:=Pm r (dq kz .bool m a true);simp only[iA,aX,lG,cz,forall_eq_or_imp];by_cases ha:a∈m.map (·.1)
  ·have h1:(dq kz .bool m a true).length=m.length:=RX ha;constructor
   ·intro h;omega
   ·rintro⟨_,h,_⟩;exact absurd ha h
  ·have h1:(dq kz .bool m a true).length=m.length+1:=PP ha;rw[h1]at ih;rw[show m.length+(r.length+1)=m.length+1+r.length from by omega,ih];have hmk:=λk=>@OC kz .bool a k true m;simp only[hmk,not_or];constructor
   ·rintro⟨h2,h3⟩;exact⟨⟨λh=>(h3 a h).2 rfl,h2⟩,ha,λk hk=>(h3 k hk).1⟩
   ·rintro⟨⟨h2,h3⟩,h4,h5⟩;exact⟨h3,λk hk=>⟨h5 k hk,λe=>h2 (e▸hk)⟩⟩
theorem Zn{l:pJ}:(kC l).length=l.length<->l.Nodup:=by have:=Pm l [];simpa[kC]using this
def UqP(c:ah)(K:rT)(z:Int)(p:Int×Int):Prop:=∀w:Int,0<=w->w<c.1->∀k∈K w,∃u,(u∈aF c w z/\(aq c u p.1,aq c u p.2)=k)/\∀v,v∈aF c w z->(aq c v p.1,aq c v p.2)=k->v=u
def ExP(c:ah)(K:rT):Prop:=∃z:Int,(0<=z/\z<c.1)/\∃p∈K z,UqP c K z p
theorem Ko(S:ShapeP c)(hK:∀w,(K w).Nodup)(hm:∀z,∀p∈K z,∀w,∀u∈aF c w z,(aq c u p.1,aq c u p.2)∈K w)(hU:∀z p,U z p=cu c.1.toNat λw=>xW c z p.1 p.2 w (K w).length):(fsO c.1.toNat K U).2.2=true<->ExP c K:=by
 have ho:=S.ob
 have h1:∀z,∀p∈K z,(U z p=true<->UqP c K z p):=λz p hp=>by
  rw[hU,gX];have h2:∀w,xW c z p.1 p.2 w (K w).length=true<->∀k∈K w,∃u,(u∈aF c w z/\(aq c u p.1,aq c u p.2)=k)/\∀v,v∈aF c w z->(aq c v p.1,aq c v p.2)=k->v=u:=λw=>by rw[←aas (φ:=λu=>(aq c u p.1,aq c u p.2)) xC (hK w) (hm z p hp w)];unfold xW;rw[ao,bN,bN];have:=@Zn ((aF c w z).map λu=>(aq c u p.1,aq c u p.2));rw[cC]at this;rw[this]
  exact⟨λh w w0 w1=>(h2 w).1 (h w w0 aa),λh w w0 w1=>(h2 w).2 (h w w0 aa)⟩
 have hj:∀z i:Int,fsJ K U z i=none<->U z ((K z).getD i.toNat (0,0))=false:=λz i=>by unfold fsJ;cases U z ((K z).getD i.toNat (0,0))<;>simp
 have hz:∀z,fsZ K U z=none<->∀p∈K z,U z p=false:=λz=>by
  unfold fsZ;constructor
  ·intro h p hp;have:=uK h;obtain⟨i,hi,rfl⟩:=jP hp;have:=(hj z i).1 (this i aa aa)
   rwa [cQ,br,bU hi]at this
  ·intro h;exact uX _ _ λi i0 i1=>(hj z i).2 (h _ (bX (K z) (0,0) i0 aa))
 have hs:ck (fsZ K U) c.1.toNat 0=none<->¬ExP c K:=by
  constructor
  ·rintro h ⟨z,⟨z0,z1⟩,p,hp,hu⟩;have:=(hz z).1 (uK h z z0 aa) p hp;rw[(h1 z p hp).2 hu]at this;cases this
  ·intro h;refine uX _ _ λz z0 z1=>(hz z).2 λp hp=>?_
   cases hb:U z p with
   |false=>rfl
   |true=>exact absurd ⟨z,⟨z0,aa⟩,p,hp,(h1 z p hp).1 hb⟩ h
 unfold fsO
 cases hq:ck (fsZ K U) c.1.toNat 0 with
 |none=>exact⟨λh=>absurd h aH,λh=>absurd h (hs.1 hq)⟩
 |some q=>exact⟨λ_=>wm λh=>absurd ((hs.2 h).symm.trans hq) ak,λ_=>rfl⟩
theorem hO(hc:cq c=true)(hu:u∈aF c x y)(hv:v∈aF c y z):aq c u v∈aF c x z:=by have S:=gZ hc;have h1:=cY.1 hu;have h3:=cY.1 hv;have y:=S.yes h1.1 h1.2.1 h3.1 h3.2.1 (by rw[h1.2.2.2,h3.2.2.1]);exact cY.2 ⟨y.1,y.2.1,by rw[y.2.2.1,h1.2.2.1],by rw[y.2.2.2,h3.2.2.2]⟩
theorem fI(hc:cq c=true){t:Int}(hu:u∈aF c x y)(hv:v∈aF c y z)(hw:w∈aF c z t):aq c (aq c u v) w=aq c u (aq c v w):=by have h1:=cY.1 hu;have h2:=cY.1 hv;have h3:=cY.1 hw;exact O4 hc h1.1 h1.2.1 h2.1 h2.2.1 h3.1 h3.2.1 (by rw[h1.2.2.2,h2.2.2.1]) (by rw[h2.2.2.2,h3.2.2.1])
theorem h_id(hc:cq c=true)(x0:0<=x)(x1:x<c.1):c.2.2.2.1.getD x.toNat 0∈aF c x x:=cY.2 ((gZ hc).idn x0 x1)
theorem Fv(hc:cq c=true)(hu:u∈aF c x y):aq c u (c.2.2.2.1.getD y.toNat 0)=u:=by
 have h1:=cY.1 hu;have:=(DO hc h1.1 h1.2.1).2
 rwa [h1.2.2.2]at this
theorem mR(hc:cq c=true)(hu:u∈aF c x y):(0<=x/\x<c.1)/\(0<=y/\y<c.1):=by have h1:=cY.1 hu;have:=(gZ hc).frm h1.1 h1.2.1;rw[h1.2.2.1,h1.2.2.2]at this;exact⟨⟨this.1,this.2.1⟩,this.2.2.1,this.2.2.2⟩
def tU(c:ah)(w z:Int)(P:Int->Prop):Prop:=∃u,(u∈aF c w z/\P u)/\∀v,v∈aF c w z->P v->v=u
def Gj(c:ah):Prop:=∃z:Int,(0<=z/\z<c.1)/\∀w:Int,0<=w->w<c.1->tU c w z λ_=>True
def vL(c:ah)(x y:Int):Prop:=∃z p q,p∈aF c z x/\q∈aF c z y/\∀w a b,a∈aF c w x->b∈aF c w y->tU c w z λu=>aq c u p=a/\aq c u q=b
def yH(c:ah)(x y f g:Int):Prop:=∃z e,e∈aF c z x/\aq c e f=aq c e g/\∀w a,a∈aF c w x->aq c a f=aq c a g->tU c w z λu=>aq c u e=a
def Cb(c:ah)(x y f g:Int):Prop:=∃z p q,p∈aF c z x/\q∈aF c z y/\aq c p f=aq c q g/\∀w a b,a∈aF c w x->b∈aF c w y->aq c a f=aq c b g->tU c w z λu=>aq c u p=a/\aq c u q=b
theorem adh(hc:cq c=true)(hp:∀x y,(0<=x/\x<c.1)->(0<=y/\y<c.1)->vL c x y)(he:∀x y f g,f∈aF c x y->g∈aF c x y->yH c x y f g)(hf:f∈aF c x v)(hg:g∈aF c y v):Cb c x y f g:=by obtain⟨z,p,q,hp1,hq1,hu⟩:=hp x y (mR hc hf).1 (mR hc hg).1;obtain⟨t,e,he1,he2,he3⟩:=he z v _ _ (hO hc hp1 hf) (hO hc hq1 hg);refine⟨t,aq c e p,aq c e q,hO hc he1 hp1,hO hc he1 hq1,by rw[fI hc he1 hp1 hf,fI hc he1 hq1 hg,he2],λw a b ha hb hab=>?_⟩;obtain⟨u,⟨hu1,hu2,hu3⟩,hu4⟩:=hu w a b ha hb;obtain⟨m,⟨hm1,hm2⟩,hm3⟩:=he3 w u hu1 (by rw[←fI hc hu1 hp1 hf,←fI hc hu1 hq1 hg,hu2,hu3,hab]);refine⟨m,⟨hm1,by rw[←fI hc hm1 he1 hp1,hm2,hu2],by rw[←fI hc hm1 he1 hq1,hm2,hu3]⟩,λn hn ⟨h1,h2⟩=>hm3 n hn (hu4 _ (hO hc hn he1) ⟨by rw[fI hc hn he1 hp1,h1],by rw[fI hc hn he1 hq1,h2]⟩)⟩
theorem acs(hc:cq c=true)(ht:Gj c)(hb:∀x y v f g,f∈aF c x v->g∈aF c y v->Cb c x y f g)(hx:0<=x/\x<c.1)(hy:0<=y/\y<c.1):vL c x y:=by obtain⟨t,_,ht⟩:=ht;obtain⟨f,⟨hf,_⟩,_⟩:=ht x hx.1 hx.2;obtain⟨g,⟨hg,_⟩,_⟩:=ht y hy.1 hy.2;obtain⟨z,p,q,hp1,hq1,_,hu⟩:=hb x y t f g hf hg;refine⟨z,p,q,hp1,hq1,λw a b ha hb'=>hu w a b ha hb' ?_⟩;have hw:=(mR hc ha).1;obtain⟨k,_,hk⟩:=ht w hw.1 hw.2;rw[hk _ (hO hc ha hf) trivial,hk _ (hO hc hb' hg) trivial]
theorem adu(hc:cq c=true)(hp:∀x y,(0<=x/\x<c.1)->(0<=y/\y<c.1)->vL c x y)(hb:∀x y v f g,f∈aF c x v->g∈aF c y v->Cb c x y f g)(hf:f∈aF c x y)(hg:g∈aF c x y):yH c x y f g:=by
 have hy:=(mR hc hf).2;obtain⟨z,p,q,hp1,hq1,hu⟩:=hp y y hy hy;obtain⟨m,⟨hm1,hm2,hm3⟩,hm4⟩:=hu x f g hf hg;obtain⟨d,⟨hd1,hd2,hd3⟩,_⟩:=hu y _ _ (h_id hc hy.1 hy.2) (h_id hc hy.1 hy.2);obtain⟨t,e,h,he1,hh1,heh,hv⟩:=hb x y z m d hm1 hd1;have hef:aq c e f=h:=by rw[←hm2,←fI hc he1 hm1 hp1,heh,fI hc hh1 hd1 hp1,hd2,Fv hc hh1]
 have heg:aq c e g=h:=by rw[←hm3,←fI hc he1 hm1 hq1,heh,fI hc hh1 hd1 hq1,hd3,Fv hc hh1]
 refine⟨t,e,he1,by rw[hef,heg],λw a ha hafg=>?_⟩;have haf:=hO hc ha hf;have hag:=hO hc ha hg;obtain⟨k,_,hk⟩:=hu w _ _ haf haf;have h1:aq c a m=aq c (aq c a f) d:=by rw[hk _ (hO hc ha hm1) ⟨by rw[fI hc ha hm1 hp1,hm2],by rw[fI hc ha hm1 hq1,hm3,hafg]⟩,hk _ (hO hc haf hd1) ⟨by rw[fI hc haf hd1 hp1,hd2,Fv hc haf],by rw[fI hc haf hd1 hq1,hd3,Fv hc haf]⟩]
 obtain⟨u,⟨hu1,hu2,hu3⟩,hu4⟩:=hv w a (aq c a f) ha haf h1;refine⟨u,⟨hu1,hu2⟩,λn hn hne=>hu4 n hn ⟨hne,?_⟩⟩;rw[←hef,←fI hc hn he1 hf,hne]
theorem TA{g:rT}:∀l:List Int,l.Nodup->(∀a∈l,(g a).Nodup/\∀p∈g a,p.1=a)->(l.flatMap g).Nodup
 |[],_,_=>CA
 |a::r,hn,h=>by rw[lG]at hn;have h1:=h a (gk ..);have h2:=TA r hn.2 λb hb=>h b (fp _ hb);rw[zo,List.nodup_append];refine⟨h1.1,h2,λp hp q hq e=>?_⟩;obtain⟨b,hb,hq⟩:=sg.1 hq;have e1:=h1.2 p hp;have e2:=(h b (fp _ hb)).2 q hq;refine hn.1 ?_;rw[←e1,e,e2];exact hb
theorem SX:(rP c x y w fits).Nodup:=by
 unfold rP;refine TA _ xC λa _=>⟨?_,λp hp=>?_⟩
 ·unfold lq;exact zt.2 ((GA _ xC).imp λh e=>h (congrArg Prod.snd e))
 ·unfold lq at hp;obtain⟨b,_,rfl⟩:=fX.1 hp;rfl
theorem RM(hc:cq c=true)(hf:f∈aF c x v)(hg:g∈aF c y v):(rp (c,(x,(y,((c,(f,(g,()))),false))))).2.2=true<->Cb c x y f g:=by
 have S:=gZ hc;have hk:(rp (c,(x,(y,((c,(f,(g,()))),false))))).2.2=true<->ExP c (pA c x y f g):=by refine Ko S (U:=λz p=>xS c x y f g z p.1 p.2) (λw=>SX) (λz p hp w u hu=>?_) (λz p=>rfl);obtain⟨h1,h2,h3⟩:=kU.1 hp;have h3:aq c p.1 f=aq c p.2 g:=bN.1 h3;exact kU.2 ⟨hO hc hu h1,hO hc hu h2,bN.2 (by rw[fI hc hu h1 hf,fI hc hu h2 hg,h3])⟩
 rw[hk];constructor
 ·rintro⟨z,hz,p,hp,hu⟩;obtain⟨h1,h2,h3⟩:=kU.1 hp;refine⟨z,p.1,p.2,h1,h2,bN.1 h3,λw a b ha hb hab=>?_⟩;have hw:=(mR hc ha).1;obtain⟨u,⟨u1,u2⟩,u3⟩:=hu w hw.1 hw.2 (a,b) (kU.2 ⟨ha,hb,bN.2 hab⟩);exact⟨u,⟨u1,(yV u2).1,(yV u2).2⟩,λn hn ⟨e1,e2⟩=>u3 n hn (by rw[e1,e2])⟩
 ·rintro⟨z,p,q,hp,hq,hpq,hu⟩;refine⟨z,(mR hc hp).1,(p,q),kU.2 ⟨hp,hq,bN.2 hpq⟩,λw w0 w1 k hk=>?_⟩;obtain⟨h1,h2,h3⟩:=kU.1 hk;obtain⟨u,⟨u1,u2,u3⟩,u4⟩:=hu w k.1 k.2 h1 h2 (bN.1 h3);exact⟨u,⟨u1,pN u2 u3⟩,λn hn e=>u4 n hn ⟨congrArg Prod.fst e,congrArg Prod.snd e⟩⟩
theorem RN(hc:cq c=true)(hx:0<=x/\x<c.1)(hy:0<=y/\y<c.1):(rn (Cd c x y)).2.2=true<->vL c x y:=by
 have S:=gZ hc;have hk:(rn (Cd c x y)).2.2=true<->ExP c (pB c x y):=by refine Ko S (U:=λz p=>xV c x y z p.1 p.2) (λw=>SX) (λz p hp w u hu=>?_) (λz p=>rfl);obtain⟨h1,h2,_⟩:=kU.1 hp;exact kU.2 ⟨hO hc hu h1,hO hc hu h2,rfl⟩
 rw[hk];constructor
 ·rintro⟨z,hz,p,hp,hu⟩;obtain⟨h1,h2,_⟩:=kU.1 hp;refine⟨z,p.1,p.2,h1,h2,λw a b ha hb=>?_⟩;have hw:=(mR hc ha).1;obtain⟨u,⟨u1,u2⟩,u3⟩:=hu w hw.1 hw.2 (a,b) (kU.2 ⟨ha,hb,rfl⟩);exact⟨u,⟨u1,(yV u2).1,(yV u2).2⟩,λn hn ⟨e1,e2⟩=>u3 n hn (by rw[e1,e2])⟩
 ·rintro⟨z,p,q,hp,hq,hu⟩;refine⟨z,(mR hc hp).1,(p,q),kU.2 ⟨hp,hq,rfl⟩,λw w0 w1 k hk=>?_⟩;obtain⟨h1,h2,_⟩:=kU.1 hk;obtain⟨u,⟨u1,u2,u3⟩,u4⟩:=hu w k.1 k.2 h1 h2;exact⟨u,⟨u1,pN u2 u3⟩,λn hn e=>u4 n hn ⟨congrArg Prod.fst e,congrArg Prod.snd e⟩⟩
theorem RW(hc:cq c=true)(hf:f∈aF c x y)(hg:g∈aF c x y):(rD (c,(x,(x,((c,(f,(g,()))),true))))).2.2=true<->yH c x y f g:=by
 have S:=gZ hc
 have hmem:∀{z:Int} {p:Int×Int},p∈tX c x f g z<->p.1∈aF c z x/\aq c p.1 f=aq c p.1 g/\p.2=p.1:=λ{z p}=>by
  unfold tX nY;constructor
  ·intro h;obtain⟨a,ha,rfl⟩:=fX.1 h;have:=mw.1 ha;exact⟨this.1,bN.1 this.2,rfl⟩
  ·rintro⟨h1,h2,h3⟩;exact fX.2 ⟨p.1,mw.2 ⟨h1,bN.2 h2⟩,pN rfl h3.symm⟩
 have hk:(rD (c,(x,(x,((c,(f,(g,()))),true))))).2.2=true<->ExP c (tX c x f g):=by
  refine Ko S (U:=λz p=>vg c x f g z p.1 p.2) (λw=>?_) (λz p hp w u hu=>?_) (λz p=>?_)
  ·exact zt.2 ((GA _ xC).imp λh e=>h (congrArg Prod.fst e))
  ·obtain⟨h1,h2,h3⟩:=hmem.1 hp;refine hmem.2 ⟨hO hc hu h1,?_,by rw[h3]⟩;show aq c (aq c u p.1) f=aq c (aq c u p.1) g;rw[fI hc hu h1 hf,fI hc hu h1 hg,h2]
  ·unfold vg;congr 1
   funext w
   unfold EP xW tX;rw[cC]
 rw[hk];constructor
 ·rintro⟨z,hz,p,hp,hu⟩;obtain⟨h1,h2,h3⟩:=hmem.1 hp;refine⟨z,p.1,h1,h2,λw a ha hab=>?_⟩;have hw:=(mR hc ha).1;obtain⟨u,⟨u1,u2⟩,u3⟩:=hu w hw.1 hw.2 (a,a) (hmem.2 ⟨ha,hab,rfl⟩);exact⟨u,⟨u1,(yV u2).1⟩,λn hn e1=>u3 n hn (by rw[h3,e1])⟩
 ·rintro⟨z,e,he,hfg,hu⟩;refine⟨z,(mR hc he).1,(e,e),hmem.2 ⟨he,hfg,rfl⟩,λw w0 w1 k hk=>?_⟩;obtain⟨h1,h2,h3⟩:=hmem.1 hk;obtain⟨u,⟨u1,u2⟩,u4⟩:=hu w k.1 h1 h2;exact⟨u,⟨u1,pN u2 (by rw[h3];exact u2)⟩,λn hn e=>u4 n hn (congrArg Prod.fst e)⟩
theorem Fi(hc:cq c=true):(ep c).2.1=true<->∀x y,(0<=x/\x<c.1)->(0<=y/\y<c.1)->vL c x y:=by
 have ho:=(gZ hc).ob;show ((Ga c).all λs=>(rn s).2.2)=true<->_;rw[gL];constructor
 ·intro h x y hx hy;exact (RN hc hx hy).1 (h _ (pS.2 ⟨_,fN.2 ⟨x,hx.1,aa,rfl⟩,fN.2 ⟨y,hy.1,aa,rfl⟩⟩))
 ·intro h s hs;obtain⟨l,hl,hs⟩:=pS.1 hs;obtain⟨x,x0,x1,rfl⟩:=fN.1 hl;obtain⟨y,y0,y1,rfl⟩:=fN.1 hs;have hx:0<=x/\x<c.1:=⟨x0,aa⟩;have hy:0<=y/\y<c.1:=⟨y0,aa⟩;exact (RN hc hx hy).2 (h x y hx hy)
theorem KM(hc:cq c=true):(ep c).2.2.1=true<->∀x y f g,f∈aF c x y->g∈aF c x y->yH c x y f g:=by
 show ((FO c).all λs=>(rD s).2.2)=true<->_;rw[gL];constructor
 ·intro h x y f g hf hg;have h1:=cY.1 hf;have h2:=cY.1 hg;refine (RW hc hf hg).1 ?_;have:=h (vF c f g) (pS.2 ⟨_,fN.2 ⟨f,h1.1,h1.2.1,rfl⟩,fX.2 ⟨g,kS.2 ⟨h2.1,h2.2.1,?_⟩,rfl⟩⟩)
  ·unfold vF at this
   rwa [h1.2.2.1]at this
  ·unfold tL;rw[h1.2.2.1,h1.2.2.2,h2.2.2.1,h2.2.2.2];simp
 ·intro h s hs;obtain⟨l,hl,hs⟩:=pS.1 hs;obtain⟨f,f0,f1,rfl⟩:=fN.1 hl;obtain⟨g,hg,rfl⟩:=fX.1 hs;obtain⟨g0,g1,g2⟩:=kS.1 hg;unfold tL at g2;rw[ao,bN,bN]at g2;exact (RW hc (cY.2 ⟨f0,f1,rfl,rfl⟩) (cY.2 ⟨g0,g1,g2.1.symm,g2.2.symm⟩)).2 (h _ _ _ _ (cY.2 ⟨f0,f1,rfl,rfl⟩) (cY.2 ⟨g0,g1,g2.1.symm,g2.2.symm⟩))
theorem K6(hc:cq c=true):(ep c).2.2.2=true<->∀x y v f g,f∈aF c x v->g∈aF c y v->Cb c x y f g:=by
 show ((FX c).all λs=>(rp s).2.2)=true<->_;rw[gL];constructor
 ·intro h x y v f g hf hg;have h1:=cY.1 hf;have h2:=cY.1 hg;refine (RM hc hf hg).1 ?_;have:=h (y9 c f g) (pS.2 ⟨_,fN.2 ⟨f,h1.1,h1.2.1,rfl⟩,fX.2 ⟨g,kS.2 ⟨h2.1,h2.2.1,?_⟩,rfl⟩⟩)
  ·unfold y9 at this
   rwa [h1.2.2.1,h2.2.2.1]at this
  ·unfold vD;rw[h1.2.2.2,h2.2.2.2];simp
 ·intro h s hs;obtain⟨l,hl,hs⟩:=pS.1 hs;obtain⟨f,f0,f1,rfl⟩:=fN.1 hl;obtain⟨g,hg,rfl⟩:=fX.1 hs;obtain⟨g0,g1,g2⟩:=kS.1 hg;unfold vD at g2;rw[bN]at g2;exact (RM hc (cY.2 ⟨f0,f1,rfl,rfl⟩) (cY.2 ⟨g0,g1,rfl,g2.symm⟩)).2 (h _ _ _ _ _ (cY.2 ⟨f0,f1,rfl,rfl⟩) (cY.2 ⟨g0,g1,rfl,g2.symm⟩))
theorem SI(hc:cq c=true):(ep c).1=true<->Gj c:=by
 have ho:=(gZ hc).ob;show decide (0<(BO c).length)=true<->_;rw[db,List.length_pos_iff_exists_mem]
 have h1:∀x w:Int,rG c x w=true<->tU c w x λ_=>True:=λx w=>by
  unfold rG;rw[bN,wo];constructor
  ·rintro⟨u,h⟩;have:u∈aF c w x:=by rw[h];exact gk ..
   exact⟨u,⟨this,trivial⟩,λv hv _=>by rw[h]at hv;exact cA.1 hv⟩
  ·rintro⟨u,⟨h,_⟩,hu⟩;have hn:=@xC c w x;generalize aF c w x=l at h hu hn
   cases l with
   |nil=>cases h
   |cons a r=>
    cases r with
    |nil=>exact⟨a,rfl⟩
    |cons b r=>exfalso;have e1:=hu a ak trivial;have e2:=hu b ak trivial;rw[lG]at hn;exact hn.1 (by rw[e1,←e2];simp)
 constructor
 ·rintro⟨x,hx⟩;obtain⟨x0,x1,x2⟩:=kS.1 hx;exact⟨x,⟨x0,aa⟩,λw w0 w1=>(h1 x w).1 (gX.1 x2 w w0 aa)⟩
 ·rintro⟨x,⟨x0,x1⟩,h⟩;exact⟨x,kS.2 ⟨x0,aa,gX.2 λw w0 w1=>(h1 x w).2 (h w w0 aa)⟩⟩
theorem ae8(S:ShapeP c):opR (opR c)=c:=by have hlt:=S.lt;refine pN rfl (pN rfl (pN rfl (pN rfl ?_)));show (aG c.2.2.1.length λf=>aG c.2.2.1.length λg=>aq (opR c) g f)=c.2.2.2.2;rw[hlt,←Jq [] c.2.2.2.2,S.lc];refine ge λf f0 f1=>?_;have hr:=S.row f f0 f1;rw[←Jq 0 (c.2.2.2.2.getD f.toNat []),hr];refine ge λg g0 g1=>?_;rw[rz g0 g1 f0 f1];rfl
theorem ad4(hc:cq c=true):cq (opR c)=true:=by
 have S:=gZ hc;have hlt:=S.lt;have hm:(opR c).2.1.length=c.2.1.length:=hlt;refine aew (J9 S) (λf f0 f1=>?_) (λf g h f0 f1 g0 g1 h0 h1 e1 e2=>?_)
 ·rw[hm]at f1;have fr:=S.frm f0 f1;have i1:=S.idn fr.1 fr.2.1;have i2:=S.idn fr.2.2.1 fr.2.2.2;have hu:=DO hc f0 f1;show aq (opR c) (c.2.2.2.1.getD (c.2.2.1.getD f.toNat 0).toNat 0) f=f/\aq (opR c) f (c.2.2.2.1.getD (c.2.1.getD f.toNat 0).toNat 0)=f;rw[rz i2.1 i2.2.1 f0 f1,rz f0 f1 i1.1 i1.2.1];exact⟨hu.2,hu.1⟩
 ·rw[hm]at f1 g1 h1;have e1:c.2.1.getD f.toNat 0=c.2.2.1.getD g.toNat 0:=e1;have e2:c.2.1.getD g.toNat 0=c.2.2.1.getD h.toNat 0:=e2;have y1:=S.yes g0 g1 f0 f1 e1.symm;have y2:=S.yes h0 h1 g0 g1 e2.symm;rw[rz f0 f1 g0 g1,rz g0 g1 h0 h1,rz y1.1 y1.2.1 h0 h1,rz f0 f1 y2.1 y2.2.1];exact (O4 hc h0 h1 g0 g1 f0 f1 e2.symm e1.symm).symm
theorem SY{d:aV}{x:Int}{m:aA}(F:FunP d)(P:PrP d x m)(hm:(m.length:Int)=d.1.1):∀(n:Nat)(l:aA),l.length+n=m.length->(∃t,m=l++t)->m∈gw d x n l
 |0,l,h,⟨t,e⟩=>by
  have:t=[]:=by have:=congrArg List.length e;rw[bn]at this;exact CE.1 aa
  subst this;rw[iM]at e;subst e;exact cA.2 rfl
 |n+1,l,h,⟨t,e⟩=>by
  have hla:=F.fit.la
  cases t with
  |nil=>rw[iM]at e;subst e;omega
  |cons a t=>
   have hl:(l++[a]).length=l.length+1:=ak
   have ea:m.getD l.length 0=a:=by rw[e,br,g9 (bd _),ut];rfl
   have e2:m=(l++[a])++t:=by rw[e,dk];rfl
   have hp:∀j:Int,0<=j->j<=l.length->(l++[a]).getD j.toNat 0=m.getD j.toNat 0:=λj j0 j1=>by rw[e2];exact (iw j0 (by rw[hl];omega)).symm
   rw[FM];refine sg.2 ⟨a,mw.2 ⟨?_,?_⟩,SY F P hm n (l++[a]) (by rw[hl];omega) ⟨t,e2⟩⟩
   ·have:=P.h (l.length:Int) aa aa
    rwa [cQ,ea]at this
   ·unfold lgT;refine gX.2 λk k0 k1=>?_;unfold lgA;by_cases hx:max (d.1.2.1.getD k.toNat 0) (d.1.2.2.1.getD k.toNat 0)=((l++[a]).length:Int)-1
    ·have f:=F.src.frm k0 aa;rw[hl]at hx;have:=P.s k k0 aa aa aa;unfold sqL at this;rw[hp _ f.1 aa,hp _ f.2.2.1 aa,e9,bN];exact .inr this
    ·rw[oz hx];rfl
theorem abd(hf:c9 d=true)(h:ConeP d p):p∈dg d:=by have F:=pf hf;have ho:=F.src.ob;have hto:=F.tgt.ob;have hlo:=F.fit.lo;have hla:=F.fit.la;have hl:=h.l;have P:PrP d p.1 p.2:=⟨λj j0 j1=>by have hw:=fw.1 h.w j j0 j1;have he:=h.e j j0 j1;exact cY.2 ⟨hw.1,hw.2,he.1,he.2⟩,λa a0 a1 _ _=>h.n a a0 aa⟩;refine sg.2 ⟨p.1,fN.2 ⟨p.1,h.x0,by have:=h.x1;omega,rfl⟩,fX.2 ⟨p.2,SY F P aa _ _ (by simp;omega) ⟨p.2,rfl⟩,rfl⟩⟩
def DlP(c:ah)(F:ml)(w:Int)(m:Nat)(l:aA):Prop:=l.length=m/\∀j:Int,0<=j->j<m->l.getD j.toNat 0∈aF c w (F j)
theorem RP{c:ah}(hc:cq c=true)(ht:Gj c)(hp:∀x y,(0<=x/\x<c.1)->(0<=y/\y<c.1)->vL c x y){F:ml}:∀m:Nat,(∀j:Int,0<=j->j<m->0<=F j/\F j<c.1)->
  ∃z l,(0<=z/\z<c.1)/\DlP c F z m l/\∀w k,(0<=w/\w<c.1)->DlP c F w m k->tU c w z λu=>∀j:Int,0<=j->j<m->aq c u (l.getD j.toNat 0)=k.getD j.toNat 0
 |0,_=>by obtain⟨z,hz,h⟩:=ht;refine⟨z,[],hz,⟨rfl,λj j0 j1=>aa⟩,λw k hw _=>?_⟩;obtain⟨u,⟨h1,_⟩,h2⟩:=h w hw.1 hw.2;exact⟨u,⟨h1,λj j0 j1=>aa⟩,λv hv _=>h2 v hv trivial⟩
 |m+1,hF=>by
  obtain⟨z,l,hz,⟨hl,hlj⟩,hu⟩:=RP hc ht hp m λj j0 j1=>hF j j0 aa;obtain⟨t,p,q,hp1,hq1,hv⟩:=hp z (F m) hz (hF m aa aa);have hg1:∀j:Int,0<=j->j<m->(l.map (aq c p)++[q]).getD j.toNat 0=aq c p (l.getD j.toNat 0):=λj j0 j1=>by rw[iw j0 (by rw[cC];omega),AM (d:=0) aa]
  have hg2:(l.map (aq c p)++[q]).getD m 0=q:=by rw[br,g9 (by rw[cC];omega),cC,hl,ut];rfl
  refine⟨t,l.map (aq c p)++[q],(mR hc hp1).1,⟨by simp[hl],λj j0 j1=>?_⟩,λw k hw ⟨hk,hkj⟩=>?_⟩
  ·by_cases e:j<m
   ·rw[hg1 j j0 e];exact hO hc hp1 (hlj j j0 e)
   ·have:j=m:=aa
    subst this;rw[cQ,hg2];exact hq1
  ·have hkt:∀j:Int,0<=j->j<m->(k.take m).getD j.toNat 0=k.getD j.toNat 0:=λj j0 j1=>by rw[br,br,fE,am aa]
   obtain⟨a,⟨a1,a2⟩,a3⟩:=hu w (k.take m) hw ⟨by rw[dW];omega,λj j0 j1=>by rw[hkt j j0 j1];exact hkj j j0 aa⟩;obtain⟨b,⟨b1,b2,b3⟩,b4⟩:=hv w a (k.getD m 0) a1 (by have:=hkj m aa aa;rwa [cQ]at this);refine⟨b,⟨b1,λj j0 j1=>?_⟩,λn hn hnj=>b4 n hn ⟨a3 _ (hO hc hn hp1) λj j0 j1=>?_,?_⟩⟩
   ·by_cases e:j<m
    ·rw[hg1 j j0 e,←fI hc b1 hp1 (hlj j j0 e),b2,a2 j j0 e,hkt j j0 e]
    ·have:j=m:=aa
     subst this;rw[cQ,hg2,b3]
   ·rw[fI hc hn hp1 (hlj j j0 j1),←hg1 j j0 j1,hnj j j0 aa,hkt j j0 j1]
   ·have:=hnj m aa aa
    rwa [cQ,hg2]at this
def obF(d:aV)(j:Int):Int:=d.2.2.1.getD j.toNat 0
theorem R0{d:aV}(hf:c9 d=true)(he:∀x y f g,f∈aF d.2.1 x y->g∈aF d.2.1 x y->yH d.2.1 x y f g){n:Nat}(hn:(n:Int)=d.1.1)
  (h0:∃z l,(0<=z/\z<d.2.1.1)/\DlP d.2.1 (obF d) z n l/\∀w k,(0<=w/\w<d.2.1.1)->DlP d.2.1 (obF d) w n k->tU d.2.1 w z λu=>∀j:Int,0<=j->j<n->aq d.2.1 u (l.getD j.toNat 0)=k.getD j.toNat 0):∀m:Nat,m<=d.1.2.1.length->
  ∃z l,(0<=z/\z<d.2.1.1)/\DlP d.2.1 (obF d) z n l/\(∀a:Int,0<=a->a<m->sqL d l a)/\∀w k,(0<=w/\w<d.2.1.1)->DlP d.2.1 (obF d) w n k->(∀a:Int,0<=a->a<m->sqL d k a)->tU d.2.1 w z λu=>∀j:Int,0<=j->j<n->aq d.2.1 u (l.getD j.toNat 0)=k.getD j.toNat 0
 |0,_=>by obtain⟨z,l,hz,hl,hu⟩:=h0;exact⟨z,l,hz,hl,λa a0 a1=>aa,λw k hw hk _=>hu w k hw hk⟩
 |m+1,hm=>by
  obtain⟨z,l,hz,⟨hl,hlj⟩,hsq,hu⟩:=R0 hf he hn h0 m aa;have hc:=(AO hf).2;have F:=pf hf;have fr:=λ(a:Int) (a0:0<=a) (a1:a<d.1.2.1.length)=>F.src.frm a0 a1;have hF:∀a:Int,0<=a->a<d.1.2.1.length->d.2.2.2.getD a.toNat 0∈aF d.2.1 (obF d (d.1.2.1.getD a.toNat 0)) (obF d (d.1.2.2.1.getD a.toNat 0)):=λa a0 a1=>by have hla:=F.fit.la;have hw:=fw.1 F.fit.aw a a0 aa;have:=F.fit.ends a a0 a1;exact cY.2 ⟨hw.1,hw.2,this.1,this.2⟩
  have f1:=fr m aa aa;have hm1:=hF m aa aa;obtain⟨t,e,he1,he2,he3⟩:=he z _ _ _ (hO hc (hlj _ f1.1 aa) hm1) (hlj _ f1.2.2.1 aa);have hg:∀j:Int,0<=j->j<n->(l.map (aq d.2.1 e)).getD j.toNat 0=aq d.2.1 e (l.getD j.toNat 0):=λj j0 j1=>AM aa;refine⟨t,l.map (aq d.2.1 e),(mR hc he1).1,⟨by rw[cC];exact hl,λj j0 j1=>by rw[hg j j0 j1];exact hO hc he1 (hlj j j0 j1)⟩,λa a0 a1=>?_,λw k hw hk hks=>?_⟩
  ·have f2:=fr a a0 aa;unfold sqL;rw[hg _ f2.1 aa,hg _ f2.2.2.1 aa,fI hc he1 (hlj _ f2.1 aa) (hF a a0 aa)];by_cases ea:a<m
   ·have:=hsq a a0 ea;unfold sqL at this;rw[this]
   ·have:a=m:=aa
    subst this;exact he2
  ·obtain⟨u,⟨u1,u2⟩,u3⟩:=hu w k hw hk λa a0 a1=>hks a a0 aa;obtain⟨b,⟨b1,b2⟩,b3⟩:=he3 w u u1 (by have:=hks m aa aa;unfold sqL at this;rw[←fI hc u1 (hlj _ f1.1 aa) hm1,u2 _ f1.1 aa,u2 _ f1.2.2.1 aa,this]);refine⟨b,⟨b1,λj j0 j1=>?_⟩,λv hv hvj=>b3 v hv (u3 _ (hO hc hv he1) λj j0 j1=>?_)⟩
   ·rw[hg j j0 j1,←fI hc b1 he1 (hlj j j0 j1),b2,u2 j j0 j1]
   ·rw[fI hc hv he1 (hlj j j0 j1),←hg j j0 j1,hvj j j0 j1]
theorem adp(hf:c9 d=true)(ht:Gj d.2.1)(hp:∀x y,(0<=x/\x<d.2.1.1)->(0<=y/\y<d.2.1.1)->vL d.2.1 x y)(he:∀x y f g,f∈aF d.2.1 x y->g∈aF d.2.1 x y->yH d.2.1 x y f g):∃p∈dg d,dU d (dg d) p=true:=by
 have hc:=(AO hf).2;have F:=pf hf;have ho:=F.src.ob;have hlo:=F.fit.lo;have hla:=F.fit.la;have hn:((d.1.1.toNat:Nat):Int)=d.1.1:=aa
 obtain⟨z,l,hz,⟨hl,hlj⟩,hsq,hu⟩:=R0 hf he hn (RP hc ht hp d.1.1.toNat λj j0 j1=>fw.1 F.fit.ow j j0 aa) d.1.2.1.length (bd _);have hq:∀q:cB,ConeP d q->DlP d.2.1 (obF d) q.1 d.1.1.toNat q.2:=λq hq=>⟨by have:=hq.l;omega,λj j0 j1=>by have hl:=hq.l;have hw:=fw.1 hq.w j j0 aa;have he:=hq.e j j0 aa;exact cY.2 ⟨hw.1,hw.2,he.1,he.2⟩⟩
 have C:ConeP d (z,l):=⟨hz.1,hz.2,by show l.length=_;omega,fw.2 λj j0 j1=>by
  have:=cY.1 (hlj j j0 (by have j1:j<l.length:=j1;omega));exact⟨this.1,this.2.1⟩,λj j0 j1=>by
  have:=cY.1 (hlj j j0 (by have j1:j<l.length:=j1;omega));exact this.2.2,λa a0 a1=>hsq a a0 aa⟩
 refine⟨(z,l),abd hf C,?_⟩;unfold dU;refine gL.2 λq hqm=>?_;have Q:=Jn hf hqm;obtain⟨u,⟨u1,u2⟩,u3⟩:=hu q.1 q.2 ⟨Q.x0,Q.x1⟩ (hq q Q) λa a0 a1=>Q.n a a0 aa
 have hmem:∀v,v∈jF d q (z,l)<->v=u:=λv=>by
  unfold jF;rw[mw,gX];simp only[bN];constructor
  ·rintro⟨h1,h2⟩;exact u3 v h1 λj j0 j1=>h2 j j0 aa
  ·intro e;subst e;exact⟨u1,λj j0 j1=>u2 j j0 aa⟩
 have hnd:(jF d q (z,l)).Nodup:=GA _ xC;rw[bN,wo];generalize jF d q (z,l)=L at hmem hnd
 cases L with
 |nil=>exact absurd ((hmem u).2 rfl) ak
 |cons a r=>
  cases r with
  |nil=>exact⟨a,rfl⟩
  |cons b r=>exfalso;have e1:=(hmem a).1 ak;have e2:=(hmem b).1 ak;rw[lG]at hnd;exact hnd.1 (by rw[e1,←e2];simp)
theorem OZ{d:aV}{u:cB->Bool}:∀(L:iL)(q:Int->Option cB)(i:Int),0<=i->(∀j:Int,0<=j->j<L.length->q (i+j)=if u (L.getD j.toNat (0,[]))=true then some (L.getD j.toNat (0,[]))else none)->ck q L.length i=L.find? u
 |[],q,i,_,_=>rfl
 |a::r,q,i,i0,h=>by
  have h0:=h 0 (dB _) (by simp only[aX];omega);rw[Int.add_zero]at h0;have e0:(a::r).getD (Int.toNat 0) (0,[])=a:=rfl;rw[e0]at h0;rw[aX,ck,List.find?_cons,h0]
  cases hu:u a with
  |true=>rw[am rfl]
  |false=>rw[aj aH];refine OZ (d:=d) r q (i+1) aa λj j0 j1=>?_;have:=h (j+1) aa (by simp only[aX];omega);rw[show (j+1).toNat=j.toNat+1 by omega,zp]at this;rw[←this];congr 1;omega
theorem Q5(hf:c9 d=true):mX d=iX d/\((∃p∈dg d,dU d (dg d) p=true)->(iX d).2≠4):=by
 have hl:(fk d).length=min 401 (dg d).length:=by rw[JN hf,dW]
 by_cases hb:(dg d).length<=400
 case neg=>
  have h1:iX d=((0,[]),3):=by simp only[iX,am hf,mZ,am (show (fk d).length>400 by omega)]
  have h2:mX d=((0,[]),3):=by have:jL d=false:=oz hb;simp only[mX,am hf,mO,am this]
  rw[h1,h2];exact⟨rfl,λ_=>aH⟩
 have hc:fk d=dg d:=by rw[JN hf,fU aa]
 have hac:acR d=dg d:=am hb;have hab:jL d=true:=iP hb;have hs:ck (rK d (dg d)) (dg d).length 0=(dg d).find? (dU d (dg d)):=OZ (d:=d) (dg d) _ 0 (dB _) λj _ _=>by rw[Int.zero_add];rfl
 have hlm:iX d=match (dg d).find? (dU d (dg d))with
  |some p=>(p,0)
  |none=>((0,[]),4):=by
  rw[←hs];simp only[iX,am hf,mZ,hc,aj (show ¬(dg d).length>400 by omega)]
 have hli:mX d=if (((dg d).filter (dU d (dg d))).take 1).length=0 then ((0,[]),4)else ((((dg d).filter (dU d (dg d))).take 1).getD 0 (0,[]),0):=by simp only[mX,am hf,mO,hab,lsR,hac];rfl
 have hh:((dg d).filter (dU d (dg d))).head? = (dg d).find? (dU d (dg d)):=List.head?_filter;rw[hlm,hli,←hh];have hmem:(∃p∈dg d,dU d (dg d) p=true)->(dg d).filter (dU d (dg d))≠[]:=λ⟨p,h1,h2⟩ e=>by have:p∈(dg d).filter (dU d (dg d)):=mw.2 ⟨h1,h2⟩;rw[e]at this;cases this
 generalize (dg d).filter (dU d (dg d))=G at *
 cases G with
 |nil=>exact⟨rfl,λh=>absurd rfl (hmem h)⟩
 |cons a r=>exact⟨rfl,λ_=>by show (0:Int)≠4;decide⟩
def c_laws_FnLimitsFromProducts:Ct:=⟨[cO],[false],λx=>[],[(false,cU)],λx=>(true,()),false,none⟩
def afy:FuncId->Option Ct:=lkp [(11,s9),(8,qy),(12,sr),(6,Av),(10,oJ),(7,Hq),(9,qu)]
def GD(code:aA)(K:d9):Prop:=let l:=Int.toNat 4;let i:=Int.toNat 2;let e:=Hf code;let p:=mX e;let a:=e.2.1;let m:=y8 a;let h:=uc (ocR a);let f:=(pF a).length;let d:=(pF a).getD;let o:=d (Int.toNat 5) 0;let k:=d (Int.toNat 3) 0;let j:=d (Int.toNat 6) 0;let c:=pF (ocR a);let n:=c.getD i 0;let g:=c.getD (Int.toNat 1) 0;let b:=d (Int.toNat 0) 0;cnd (decide (4096<(code.length:Int))) (K (true,())) (cnd (p.2 != (iX e).2||p.1.1 != (iX e).1.1||!xX p.1.2 (iX e).1.2) (K (false,())) (cnd (p.2==1) (K (true,())) (cnd (uc a != 0||(f:Int) != 8) (K (false,())) (Ix 0 f<|((b==1)=true->2<(f:Int)/\(0:Int)<=2)/\((b==1&&d i 0==1)=true->4<(f:Int)/\(0:Int)<=4)/\((b==1&&d i 0==1&&d l 0==1)=true/\(p.2==4)=false->6<(f:Int)/\(0:Int)<=6)/\cnd (b==1&&d i 0==1&&d l 0==1&&(p.2==4||j==0)) (K (false,())) (Ix 0 f<|((b==1)=true->6<(f:Int)/\(0:Int)<=6)/\((b==1&&j==1)=true->2<(f:Int)/\(0:Int)<=2)/\((b==1&&j==1)=true/\(d i 0==0)=false->4<(f:Int)/\(0:Int)<=4)/\cnd (b==1&&j==1&&(d i 0==0||d l 0==0)) (K (false,())) (Ik (m+h)<|((m+h==0&&(c.length:Int)==8)=true->1<(c.length:Int)/\(0:Int)<=1)/\((m+h==0&&(c.length:Int)==8)=true->0<(f:Int)/\(0:Int)<=0)/\((m+h==0&&(c.length:Int)==8&&g==b)=true->2<(c.length:Int)/\(0:Int)<=2)/\((m+h==0&&(c.length:Int)==8&&g==b)=true->3<(f:Int)/\(0:Int)<=3)/\((m+h==0&&(c.length:Int)==8&&g==b&&n==k)=true->4<(c.length:Int)/\(0:Int)<=4)/\((m+h==0&&(c.length:Int)==8&&g==b&&n==k)=true->5<(f:Int)/\(0:Int)<=5)/\((m+h==0&&(c.length:Int)==8&&g==b&&n==k&&c.getD l 0==o)=true->7<(c.length:Int)/\(0:Int)<=7)/\((m+h==0&&(c.length:Int)==8&&g==b&&n==k&&c.getD l 0==o)=true->6<(f:Int)/\(0:Int)<=6)/\K (m+h==0&&(c.length:Int)==8&&g==b&&n==k&&c.getD l 0==o&&c.getD (Int.toNat 7) 0==j,())))))))
theorem UF(code:aA)(hok:ab (okL c_laws_FnLimitsFromProducts.args (code,())))(hpre:ab (c_laws_FnLimitsFromProducts.pre (code,()))):GD code (λr=>r=c_laws_FnLimitsFromProducts.res (code,())):=by
 simp only[c_laws_FnLimitsFromProducts,okL,T.oks,T.ok,ap,ab,aL,az,aW]at hok hpre
 try dsimp only[T.den]at hok hpre
 delta GD Ik Ix
 dsimp -proj -eta only;have hres:(c_laws_FnLimitsFromProducts).res (code,())=(true,()):=rfl;rw[hres];refine aJ (λ_=>rfl) (λhbig=>?_);clear hok hpre hres;generalize Hf code=d at *
 have hsm:mX d=iX d:=by
  by_cases hf:c9 d=true
  ·exact (Q5 hf).1
  ·simp only[mX,iX,aj hf]
 rw[hsm];refine aJ (λh=>?_) (λ_=>aJ (λ_=>rfl) (λh1=>?_))
 ·exfalso;simp[xX]at h
 have hf:c9 d=true:=by
  by_cases hf:c9 d=true
  ·exact hf
  ·exfalso;simp[iX,aj hf]at h1
 have hc:=(AO hf).2;have hco:=ad4 hc;have hlim:=(Q5 hf).2;have e1:pF d.2.1=vE (ep d.2.1) (ep (opR d.2.1)):=am hc;have e2:uc d.2.1=0:=am hc;have e3:y8 d.2.1=0:=am hc;have e4:ocR d.2.1=opR d.2.1:=am hc;have e5:pF (opR d.2.1)=vE (ep (opR d.2.1)) (ep d.2.1):=by have:pF (opR d.2.1)=vE (ep (opR d.2.1)) (ep (opR (opR d.2.1))):=am hco;rw[this,ae8 (gZ hc)]
 have e6:uc (opR d.2.1)=0:=am hco;have fA:(ep d.2.1).1=true->(ep d.2.1).2.1=true->(ep d.2.1).2.2.1=true->(iX d).2≠4/\(ep d.2.1).2.2.2=true:=λh1 h2 h3=>⟨hlim (adp hf ((SI hc).1 h1) ((Fi hc).1 h2) ((KM hc).1 h3)),(K6 hc).2 λx y v f g hf hg=>adh hc ((Fi hc).1 h2) ((KM hc).1 h3) hf hg⟩;have fB:(ep d.2.1).1=true->(ep d.2.1).2.2.2=true->(ep d.2.1).2.1=true/\(ep d.2.1).2.2.1=true:=λh1 h2=>by have hp:(ep d.2.1).2.1=true:=(Fi hc).2 λx y hx hy=>acs hc ((SI hc).1 h1) ((K6 hc).1 h2) hx hy;exact⟨hp,(KM hc).2 λx y f g hf hg=>adu hc ((Fi hc).1 hp) ((K6 hc).1 h2) hf hg⟩
 rw[e4,e1,e2,e3,e5,e6];generalize (iX d).2=r at *;generalize ep d.2.1=a at *;generalize ep (opR d.2.1)=b at *;obtain⟨a1,a2,a3,a4⟩:=a;obtain⟨b1,b2,b3,b4⟩:=b;clear e1 e2 e3 e4 e5 e6 hlim hsm hc hco hf h1 hbig
 try dsimp only at fA fB
 cases a1<;>cases a2<;>cases a3<;>cases a4<;>simp_all[cnd,vE,b2i,cF]
theorem ct_laws_FnLimitsFromProducts:aN Tryz.prog 3 c_laws_FnLimitsFromProducts:=ctb (au VG (au Xw (au UZ (au YW (au WP (au VM (au X4 aR))))))) aS 3 Tryz.f3 c_laws_FnLimitsFromProducts .n [(19,43)] (λx K=>GD x.1 K) (λx h1 h2=>UF x.1 h1 h2)
end
end Go.Bm
