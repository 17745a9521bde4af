/- What the functions that FnLimitsTerminal reaches give: for each its contract, what it asks, and the proof. No condition. -/
import Derived.Test.YtimfdllgcnabjaaGreatFnLimitsTerminalFnsD
set_option linter.unusedVariables false
set_option linter.unusedSimpArgs false
namespace Go.Bm
open Go.Proofs
set_option maxRecDepth 100000
set_option maxHeartbeats 1000000
noncomputable section
def atA(A:List (Int×Int×Int))(i:Int):Int×Int×Int:=A.getD i.toNat (0,(0,0))
def ckE(d:am)(L:List bo)(s:Int):Int:=d.2.1.2.2.2.1.getD (L.getD s.toNat (0,[])).1.toNat 0
def ckC(d:am)(A:List (Int×Int×Int))(i j:Int):Int:=if (atA A i).2.1=(atA A j).1 then adv d A i j else -1
def ckK(d:am)(L:List bo)(A:List (Int×Int×Int)):aa:=((L.length:Int),A.map (fun x=>x.1),A.map (fun x=>x.2.1),(bh L.length fun s=>io A (s,(s,ckE d L s))),bh A.length fun i=>bh A.length fun j=>ckC d A i j)
theorem cbp{α:Type}{A:List α}(z:α)(h:A.Nodup){i j:Int}(i0:0<=i)(i1:i<A.length)(j0:0<=j)(j1:j<A.length)(e:A.getD i.toNat z=A.getD j.toNat z):i=j:=by
 rw[a0l,a0l,a0p (by omega),a0p (by omega)]at e;have e:A[i.toNat]'(by omega)=A[j.toNat]'(by omega):=e;rcases Int.lt_trichotomy i j with h1|h1|h1
 ·exact absurd e (List.pairwise_iff_getElem.1 h i.toNat j.toNat (by omega) (by omega) (by omega))
 ·exact h1
 ·exact absurd e.symm (List.pairwise_iff_getElem.1 h j.toNat i.toNat (by omega) (by omega) (by omega))
theorem awb{p:Int->Bool}:∀m:Nat,(mc m p).Nodup
 |0=>a46
 |m+1=>by
  rw[mc];split
  ·rw[List.nodup_append];refine⟨awb m,by simp,fun a ha b hb=>?_⟩;have:=alt.1 ha;simp only[a0s]at hb;omega
  ·exact awb m
theorem bjx{α:Type}{κ:α->Int}{g:Int->List α}:∀n:Nat,(∀s:Int,0<=s->s<n->(g s).Nodup/\∀x∈g s,κ x=s)->(bh n g).flatten.Nodup
 |0,_=>a46
 |n+1,h=>by
  have h1:=bjx n fun s s0 s1=>h s s0 (by omega);have h2:=h n (by omega) (by omega);rw[bh,List.flatten_append,List.nodup_append];refine⟨h1,by simpa using h2.1,fun a ha b hb e=>?_⟩;obtain⟨l,hl,hal⟩:=a3b.1 ha;obtain⟨s,s0,s1,rfl⟩:=lp.1 hl;have e1:=(h s s0 (by omega)).2 a hal;have hb:b∈g n:=by simpa using hb
  have e2:=h2.2 b hb;subst e;omega
theorem bdm{α β:Type}(h:α->β){f:Int->α}:∀n:Nat,(bh n f).map h=bh n fun i=>h (f i)
 |0=>rfl
 |n+1=>by rw[bh,a2m,bdm h n];rfl
theorem bef{α β:Type}[DecidableEq α][DecidableEq β]{g:α->β}(hg:∀a b,g a=g b->a=b):∀(l:List α)(x:α),io (l.map g) (g x)=io l x
 |[],x=>rfl
 |a::r,x=>by
  rw[a2h,io,io,bef hg r x];by_cases e:a=x
  ·rw[a0a e,a0a (congrArg g e)]
  ·rw[ds e,ds (fun h=>e (hg _ _ h))]
theorem anb{d:am}{p q:bo}{u:Int}:u∈kt d p q<->u∈ip d.2.1 p.1 q.1/\∀j:Int,0<=j->j<q.2.length->bi d.2.1 u (q.2.getD j.toNat 0)=p.2.getD j.toNat 0:=by unfold kt;rw[a3a,ov];simp only[a0r]
theorem bn9{d:am}{p q:bo}:(kt d p q).Nodup:=List.Pairwise.filter _ (awb _)
theorem caw{d:am}{p:bo}(hc:k9 d.2.1=true)(hp:ConeP d p):d.2.1.2.2.2.1.getD p.1.toNat 0∈kt d p p:=by
 have S:=sr hc;have h:=S.idn hp.x0 hp.x1;refine anb.2 ⟨ti.2 h,fun j j0 j1=>?_⟩;have hw:=ep.1 hp.w j j0 j1;have:=(aoe hc hw.1 hw.2).1
 rwa [(hp.e j j0 j1).1]at this
theorem bs8{d:am}{p q r:bo}{u v:Int}(hc:k9 d.2.1=true)(hq:ConeP d q)(hr:ConeP d r)(hu:u∈kt d p q)(hv:v∈kt d q r):bi d.2.1 u v∈kt d p r:=by have S:=sr hc;obtain⟨h1,h2⟩:=anb.1 hu;obtain⟨h3,h4⟩:=anb.1 hv;have h1:=ti.1 h1;have h3:=ti.1 h3;have y:=S.yes h1.1 h1.2.1 h3.1 h3.2.1 (by rw[h1.2.2.2,h3.2.2.1]);refine anb.2 ⟨ti.2 ⟨y.1,y.2.1,by rw[y.2.2.1,h1.2.2.1],by rw[y.2.2.2,h3.2.2.2]⟩,fun j j0 j1=>?_⟩;have hw:=ep.1 hr.w j j0 j1;have:=hr.l;have:=hq.l;rw[bfs hc h1.1 h1.2.1 h3.1 h3.2.1 hw.1 hw.2 (by rw[h1.2.2.2,h3.2.2.1]) (by rw[h3.2.2.2,(hr.e j j0 j1).1]),h4 j j0 j1];exact h2 j j0 (by omega)
structure CkP (d:am) (L:List bo) (A:List (Int×Int×Int)):Prop where
 hc:k9 d.2.1=true
 con:∀i:Int,0<=i->i<L.length->ConeP d (L.getD i.toNat (0,[]))
 nd:A.Nodup
 mem:∀r:Int×Int×Int,r∈A<->(0<=r.1/\r.1<L.length)/\(0<=r.2.1/\r.2.1<L.length)/\r.2.2∈kt d (L.getD r.1.toNat (0,[])) (L.getD r.2.1.toNat (0,[]))
theorem cb3{d:am}{L:List bo}(r:Int×Int×Int):r∈ae9 d L<->(0<=r.1/\r.1<L.length)/\(0<=r.2.1/\r.2.1<L.length)/\r.2.2∈kt d (L.getD r.1.toNat (0,[])) (L.getD r.2.1.toNat (0,[])):=by refine⟨brg,fun⟨h1,h2,h3⟩=>?_⟩;exact a3b.2 ⟨ash d L r.1,lp.2 ⟨r.1,h1.1,h1.2,rfl⟩,a3b.2 ⟨icH d L r.1 r.2.1,lp.2 ⟨r.2.1,h2.1,h2.2,rfl⟩,a2c.2 ⟨r.2.2,h3,rfl⟩⟩⟩
theorem cdg{d:am}{L:List bo}:(ae9 d L).Nodup:=by
 unfold ae9;refine bjx (κ:=fun x=>x.1) _ fun s _ _=>⟨?_,fun x hx=>?_⟩
 ·unfold ash;refine bjx (κ:=fun x=>x.2.1) _ fun t _ _=>⟨?_,fun x hx=>?_⟩
  ·unfold icH;refine List.pairwise_map.2 (bn9.imp fun h e=>h ?_);exact congrArg (fun x:Int×Int×Int=>x.2.2) e
  ·unfold icH at hx;obtain⟨w,_,rfl⟩:=a2c.1 hx;rfl
 ·unfold ash at hx;obtain⟨l,hl,hx⟩:=a3b.1 hx;obtain⟨t,_,_,rfl⟩:=lp.1 hl;unfold icH at hx;obtain⟨w,_,rfl⟩:=a2c.1 hx;rfl
theorem CkP.at_{d:am}{L:List bo}{A:List (Int×Int×Int)}(P:CkP d L A){i:Int}(i0:0<=i)(i1:i<A.length):(0<=(atA A i).1/\(atA A i).1<L.length)/\(0<=(atA A i).2.1/\(atA A i).2.1<L.length)/\(atA A i).2.2∈kt d (L.getD (atA A i).1.toNat (0,[])) (L.getD (atA A i).2.1.toNat (0,[])):=(P.mem _).1 (cp A (0,(0,0)) i0 i1)
theorem CkP.hom{d:am}{L:List bo}{A:List (Int×Int×Int)}(P:CkP d L A){i:Int}(i0:0<=i)(i1:i<A.length):0<=(atA A i).2.2/\(atA A i).2.2<d.2.1.2.1.length/\d.2.1.2.1.getD (atA A i).2.2.toNat 0=(L.getD (atA A i).1.toNat (0,[])).1/\d.2.1.2.2.1.getD (atA A i).2.2.toNat 0=(L.getD (atA A i).2.1.toNat (0,[])).1:=ti.1 (anb.1 (P.at_ i0 i1).2.2).1
theorem CkP.inj{d:am}{L:List bo}{A:List (Int×Int×Int)}(P:CkP d L A){i j:Int}(i0:0<=i)(i1:i<A.length)(j0:0<=j)(j1:j<A.length)(e:atA A i=atA A j):i=j:=cbp (0,(0,0)) P.nd i0 i1 j0 j1 e
theorem CkP.pos{d:am}{L:List bo}{A:List (Int×Int×Int)}(P:CkP d L A){r:Int×Int×Int}(h:(0<=r.1/\r.1<L.length)/\(0<=r.2.1/\r.2.1<L.length)/\r.2.2∈kt d (L.getD r.1.toNat (0,[])) (L.getD r.2.1.toNat (0,[]))):0<=io A r/\io A r<A.length/\atA A (io A r)=r:=by have:=(aos ((0,(0,0)):Int×Int×Int)).1 ((P.mem r).2 h);exact⟨this.1,this.2.1,this.2.2.1⟩
theorem CkP.ix{d:am}{L:List bo}{A:List (Int×Int×Int)}(P:CkP d L A){s:Int}(s0:0<=s)(s1:s<L.length):0<=io A (s,(s,ckE d L s))/\io A (s,(s,ckE d L s))<A.length/\atA A (io A (s,(s,ckE d L s)))=(s,(s,ckE d L s)):=P.pos (r:=(s,(s,ckE d L s))) ⟨⟨s0,s1⟩,⟨s0,s1⟩,caw P.hc (P.con s s0 s1)⟩
theorem CkP.cmp{d:am}{L:List bo}{A:List (Int×Int×Int)}(P:CkP d L A){i j:Int}(i0:0<=i)(i1:i<A.length)(j0:0<=j)(j1:j<A.length)(e:(atA A i).2.1=(atA A j).1) :
  0<=ckC d A i j/\ckC d A i j<A.length/\atA A (ckC d A i j)=((atA A i).1,((atA A j).2.1,bi d.2.1 (atA A i).2.2 (atA A j).2.2)):=by
 have ai:=P.at_ i0 i1;have aj:=P.at_ j0 j1;have e1:ckC d A i j=io A ((atA A i).1,((atA A j).2.1,bi d.2.1 (atA A i).2.2 (atA A j).2.2)):=by unfold ckC;rw[a0a e];rfl
 rw[e1];refine P.pos ⟨ai.1,aj.2.1,?_⟩;have h3:=aj.2.2;rw[←e]at h3;exact bs8 P.hc (P.con _ ai.2.1.1 ai.2.1.2) (P.con _ aj.2.1.1 aj.2.1.2) ai.2.2 h3
theorem aem{d:am}{L:List bo}{A:List (Int×Int×Int)}{i:Int}(i0:0<=i)(i1:i<A.length):(ckK d L A).2.1.getD i.toNat 0=(atA A i).1:=ane (f:=fun x:Int×Int×Int=>x.1) (by omega)
theorem ael{d:am}{L:List bo}{A:List (Int×Int×Int)}{i:Int}(i0:0<=i)(i1:i<A.length):(ckK d L A).2.2.1.getD i.toNat 0=(atA A i).2.1:=ane (f:=fun x:Int×Int×Int=>x.2.1) (by omega)
theorem bbp{d:am}{L:List bo}{A:List (Int×Int×Int)}{s:Int}(s0:0<=s)(s1:s<L.length):(ckK d L A).2.2.2.1.getD s.toNat 0=io A (s,(s,ckE d L s)):=d6 s0 s1
theorem aii{d:am}{L:List bo}{A:List (Int×Int×Int)}{i j:Int}(i0:0<=i)(i1:i<A.length)(j0:0<=j)(j1:j<A.length):bi (ckK d L A) i j=ckC d A i j:=by have e:(ckK d L A).2.2.2.2.getD i.toNat []=bh A.length fun j=>ckC d A i j:=d6 i0 i1;unfold bi;rw[e];exact d6 j0 j1
theorem bku{d:am}{L:List bo}{A:List (Int×Int×Int)}:(ckK d L A).2.1.length=A.length:=a00 _
theorem bwx{d:am}{L:List bo}{A:List (Int×Int×Int)}(P:CkP d L A)(hL:L.length<=8)(hA:A.length<=40):ShapeP (ckK d L A):=by
 have hn:=@bku d L A;have ht:(ckK d L A).2.2.1.length=A.length:=a00 _;have hi:(ckK d L A).2.2.2.1.length=L.length:=bj _;have hc:(ckK d L A).2.2.2.2.length=A.length:=bj _;have ho:(ckK d L A).1=L.length:=rfl;refine⟨by omega,by omega,by omega,ep.2 fun i i0 i1=>?_,ep.2 fun i i0 i1=>?_,by omega,ep.2 fun i i0 i1=>?_,by omega,fun x x0 x1=>?_,fun f f0 f1=>?_,fun f g f0 f1 g0 g1=>?_⟩
 ·rw[aem i0 (by omega)];exact (P.at_ i0 (by omega)).1
 ·rw[ael i0 (by omega)];exact (P.at_ i0 (by omega)).2.1
 ·rw[bbp i0 (by omega),hn];have:=P.ix i0 (by omega);exact⟨this.1,this.2.1⟩
 ·have h:=P.ix x0 (by omega);rw[bbp x0 (by omega),aem h.1 h.2.1,ael h.1 h.2.1,h.2.2];exact⟨rfl,rfl⟩
 ·have e:(ckK d L A).2.2.2.2.getD f.toNat []=bh A.length fun j=>ckC d A f j:=d6 f0 (by omega);rw[e,bj,hn]
 ·rw[hn]at f1 g1;unfold vu yi;rw[aii f0 f1 g0 g1,ael f0 f1,aem g0 g1];split
  ·rename_i e;have h:=P.cmp f0 f1 g0 g1 e;rw[a0w,hn,aem h.1 h.2.1,ael h.1 h.2.1,h.2.2,aem f0 f1,ael g0 g1];exact⟨h.1,h.2.1,rfl,rfl⟩
  ·rename_i e;rw[a0w];unfold ckC;rw[ds e]
theorem cby{d:am}{L:List bo}{A:List (Int×Int×Int)}(P:CkP d L A)(hL:L.length<=8)(hA:A.length<=40):k9 (ckK d L A)=true:=by
 have hn:=@bku d L A;refine cc7 (bwx P hL hA) (fun f f0 f1=>?_) (fun f g h f0 f1 g0 g1 h0 h1 e1 e2=>?_)
 ·rw[hn]at f1;have af:=P.at_ f0 f1;have hf:=P.hom f0 f1;have hu:=aoe P.hc hf.1 hf.2.1;have i1:=P.ix af.1.1 af.1.2;have i2:=P.ix af.2.1.1 af.2.1.2;rw[aem f0 f1,ael f0 f1,bbp af.1.1 af.1.2,bbp af.2.1.1 af.2.1.2,aii i1.1 i1.2.1 f0 f1,aii f0 f1 i2.1 i2.2.1];have c1:=P.cmp i1.1 i1.2.1 f0 f1 (by rw[i1.2.2]);have c2:=P.cmp f0 f1 i2.1 i2.2.1 (by rw[i2.2.2]);refine⟨P.inj c1.1 c1.2.1 f0 f1 ?_,P.inj c2.1 c2.2.1 f0 f1 ?_⟩
  ·rw[c1.2.2,i1.2.2];refine a1h rfl (a1h rfl ?_);have:=hu.1;rw[hf.2.2.1]at this;exact this
  ·rw[c2.2.2,i2.2.2];refine a1h rfl (a1h rfl ?_);have:=hu.2;rw[hf.2.2.2]at this;exact this
 ·rw[hn]at f1 g1 h1;rw[ael f0 f1,aem g0 g1]at e1;rw[ael g0 g1,aem h0 h1]at e2;have c1:=P.cmp f0 f1 g0 g1 e1;have c2:=P.cmp g0 g1 h0 h1 e2;have af:=P.hom f0 f1;have ag:=P.hom g0 g1;have ah:=P.hom h0 h1;have d1:=P.cmp c1.1 c1.2.1 h0 h1 (by rw[c1.2.2];exact e2);have d2:=P.cmp f0 f1 c2.1 c2.2.1 (by rw[c2.2.2];exact e1);rw[aii f0 f1 g0 g1,aii g0 g1 h0 h1,aii c1.1 c1.2.1 h0 h1,aii f0 f1 c2.1 c2.2.1];refine P.inj d1.1 d1.2.1 d2.1 d2.2.1 ?_;rw[d1.2.2,d2.2.2,c1.2.2,c2.2.2];refine a1h rfl (a1h rfl ?_);exact bfs P.hc af.1 af.2.1 ag.1 ag.2.1 ah.1 ah.2.1 (by rw[af.2.2.2,ag.2.2.1,e1]) (by rw[ag.2.2.2,ah.2.2.1,e2])
theorem bta{d:am}{L:List bo}{A:List (Int×Int×Int)}(P:CkP d L A){y x:Int}(y0:0<=y)(y1:y<L.length)(x0:0<=x)(x1:x<L.length):(ip (ckK d L A) y x).length=(kt d (L.getD y.toNat (0,[])) (L.getD x.toNat (0,[]))).length:=by
 have hn:=@bku d L A
 have hm:∀f:Int,f∈ip (ckK d L A) y x<->0<=f/\f<A.length/\(atA A f).1=y/\(atA A f).2.1=x:=fun f=>by
  rw[ti,hn];constructor
  ·rintro⟨f0,f1,h1,h2⟩;rw[aem f0 f1]at h1;rw[ael f0 f1]at h2;exact⟨f0,f1,h1,h2⟩
  ·rintro⟨f0,f1,h1,h2⟩;exact⟨f0,f1,by rw[aem f0 f1];exact h1,by rw[ael f0 f1];exact h2⟩
 have hnd:(ip (ckK d L A) y x).Nodup:=awb _;have h1:((ip (ckK d L A) y x).map fun f=>(atA A f).2.2).Nodup:=by refine List.pairwise_map.2 (List.Pairwise.imp_of_mem (fun {a b} ha hb hab e=>hab ?_) hnd);have ha:=(hm a).1 ha;have hb:=(hm b).1 hb;exact P.inj ha.1 ha.2.1 hb.1 hb.2.1 (a1h (by rw[ha.2.2.1,hb.2.2.1]) (a1h (by rw[ha.2.2.2,hb.2.2.2]) e))
 have h2:=(List.perm_ext_iff_of_nodup h1 (bn9 (d:=d) (p:=L.getD y.toNat (0,[])) (q:=L.getD x.toNat (0,[])))).2 fun w=>by
  rw[a2c];constructor
  ·rintro⟨f,hf,rfl⟩;have hf:=(hm f).1 hf;have:=(P.at_ hf.1 hf.2.1).2.2
   rwa [hf.2.2.1,hf.2.2.2]at this
  ·intro hw;have h:=P.pos (r:=(y,(x,w))) ⟨⟨y0,y1⟩,⟨x0,x1⟩,hw⟩;exact⟨_,(hm _).2 ⟨h.1,h.2.1,by rw[h.2.2],by rw[h.2.2]⟩,by rw[h.2.2]⟩
 have h3:=h2.length_eq
 rwa [a00]at h3
theorem bz5{d:am}{L:List bo}{A:List (Int×Int×Int)}(P:CkP d L A):aa0 (ckK d L A)=mc L.length fun i=>t5 d L (L.getD i.toNat (0,[])):=by
 have e:(ckK d L A).1.toNat=L.length:=a0y _;unfold aa0;rw[e];refine bfx fun x x0 x1=>?_;rw[a3j,ov];unfold t5;rw[a1y];constructor
 ·intro h q hq;obtain⟨k,hk,rfl⟩:=a2d hq;have:=h k (by omega) (by omega);unfold arv at this;rw[bta P (by omega) (by omega) x0 x1,a0y,a0l,a0p hk]at this;exact this
 ·intro h y y0 y1;unfold arv;rw[bta P y0 y1 x0 x1];exact h _ (cp L (0,[]) y0 y1)
def ckG(x:Int×Int×Int):List Int:=[x.1,x.2.1,x.2.2]
theorem bov(a b:Int×Int×Int)(h:ckG a=ckG b):a=b:=by obtain⟨a1,a2,a3⟩:=a;obtain⟨b1,b2,b3⟩:=b;simpa[ckG]using h
theorem blq{d:am}{L:List bo}:arh d L=(ae9 d L).map ckG:=by unfold arh ae9;rw[List.map_flatten,bdm];refine congrArg List.flatten (fw fun s _ _=>?_);unfold bie ash;rw[List.map_flatten,bdm];refine congrArg List.flatten (fw fun t _ _=>?_);unfold ccH icH;rw[List.map_map];rfl
theorem bxx{d:am}{L:List bo}{A:List (Int×Int×Int)}:ccK d L (A.map ckG)=ckK d L A:=by
 have hget:∀i:Int,0<=i->i<A.length->(A.map ckG).getD i.toNat []=ckG (atA A i):=fun i i0 i1=>ane (by omega);unfold ccK ckK;refine a1h rfl (a1h ?_ (a1h ?_ (a1h ?_ ?_)))
 ·show sw _ _=_;unfold sw;rw[List.map_map];rfl
 ·show sw _ _=_;unfold sw;rw[List.map_map];rfl
 ·exact fw fun s _ _=>bef bov A (s,(s,ckE d L s))
 ·dsimp only;rw[a00];refine fw fun i i0 i1=>fw fun j j0 j1=>?_;unfold ccC ckC;rw[hget i i0 i1,hget j j0 j1];show (if (atA A i).2.1=(atA A j).1 then _ else _)=_;by_cases e:(atA A i).2.1=(atA A j).1
  ·rw[a0a e,a0a e];exact bef bov A ((atA A i).1,((atA A j).2.1,bi d.2.1 (atA A i).2.2 (atA A j).2.2))
  ·rw[ds e,ds e]
theorem btf{d:am}{L:List bo}{A:List (Int×Int×Int)}(P:CkP d L A):∀k:Nat,k<=A.length->∀s:Int,0<=s->s<L.length->(icI d L.length (A.take k)).getD s.toNat 0=if io A (s,(s,ckE d L s))<k then io A (s,(s,ckE d L s))else 0
 |0,_,s,s0,s1=>by have:=P.ix s0 s1;rw[ds (by omega),a4s];show (List.replicate L.length 0).getD s.toNat 0=0;rw[a0l,a4v];split<;>rfl
 |k+1,hk,s,s0,s1=>by
  have ih:=btf P k (by omega) s s0 s1;have hx:=P.ix s0 s1;have ha:=P.at_ (i:=(k:Int)) (by omega) (by omega);have hh:=P.hom (i:=(k:Int)) (by omega) (by omega);have ht:A.take (k+1)=A.take k++[atA A k]:=mm A (0,(0,0)) (i:=(k:Int)) (by omega) (by omega);have hid:∀t:Int,idR d.2.1 t=true<->d.2.1.2.2.2.1.getD (d.2.1.2.1.getD t.toNat 0).toNat 0=t:=fun t=>by unfold idR;rw[a0r]
  rw[ht,bpk,a03,a39 (by omega)];split
  ·rename_i h;have hj:io A ((atA A k).1,((atA A k).1,ckE d L (atA A k).1))=k:=by have hy:=P.ix ha.1.1 ha.1.2;refine P.inj hy.1 hy.2.1 (by omega) (by omega) ?_;rw[hy.2.2];refine a1h rfl (a1h h.1 ?_);have:=(hid _).1 h.2;rw[hh.2.2.1]at this;exact this
   rw[aza _ _ _ _ _ (by rw[show (icI d L.length (A.take k)).length=L.length from (bhl _).2];omega)];split
   ·have:s=(atA A k).1:=by omega
    rw[this,hj,a0a (by omega)]
   ·rename_i hne;rw[ih];have:io A (s,(s,ckE d L s))≠k:=fun e=>by have e2:=hx.2.2;rw[e]at e2;rw[e2]at hne;exact hne rfl
    by_cases e:io A (s,(s,ckE d L s))<k
    ·rw[a0a e,a0a (by omega)]
    ·rw[ds e,ds (by omega)]
  ·rename_i h;rw[ih];have:io A (s,(s,ckE d L s))≠k:=fun e=>by have e2:=hx.2.2;rw[e]at e2;rw[e2]at h hh;refine h ⟨rfl,(hid _).2 ?_⟩;dsimp only at hh⊢;rw[hh.2.2.1];rfl
   by_cases e:io A (s,(s,ckE d L s))<k
   ·rw[a0a e,a0a (by omega)]
   ·rw[ds e,ds (by omega)]
theorem cd3{d:am}{L:List bo}{A:List (Int×Int×Int)}(P:CkP d L A):icK d L A=ckK d L A:=by
 refine a1h rfl (a1h rfl (a1h rfl (a1h ?_ ?_)))
 ·show icI d L.length A=bh L.length fun s=>io A (s,(s,ckE d L s));have hl:(icI d L.length A).length=L.length:=(bhl A).2;rw[←bix 0 (icI d L.length A),hl];refine fw fun s s0 s1=>?_;have:=btf P A.length (a0k _) s s0 s1;rw[List.take_length]at this;rw[this,a0a (P.ix s0 s1).2.1]
 ·show ajp (icB d L A) (adv d A)=bh A.length fun i=>bh A.length fun j=>ckC d A i j;have h:(icB d L A).2.1.length=A.length:=a00 _;unfold ajp;rw[h];refine fw fun i i0 i1=>fw fun j j0 j1=>?_;have e1:(icB d L A).2.2.1.getD i.toNat 0=(atA A i).2.1:=ane (f:=fun x:Int×Int×Int=>x.2.1) (by omega);have e2:(icB d L A).2.1.getD j.toNat 0=(atA A j).1:=ane (f:=fun x:Int×Int×Int=>x.1) (by omega);unfold av1 ckC;rw[e1,e2]
theorem ic_P{d:am}(hf:d5 d=true):CkP d (jb d) (ae9 d (jb d)):=⟨(azn hf).2,fun _ i0 i1=>ao1 hf (cp _ _ i0 i1),cdg,cb3⟩
theorem ccw{d:am}:ad2 d=ccR d:=by
 by_cases hf:d5 d=true
 case neg=>
  have h:d5 d=false:=by simpa using hf
  simp only[ad2,ccR,a0a h]
 have hf':¬d5 d=false:=by rw[hf];decide
 have hl:(kj d).length=min 401 (jb d).length:=by rw[apw hf,a03]
 by_cases h8:(jb d).length>8
 ·simp only[ad2,ccR,ds hf',a0a h8,a0a (show (kj d).length>8 by omega)]
 have hc:kj d=jb d:=by rw[apw hf,a1c (by omega)]
 simp only[ad2,ccR,ds hf',hc,ds h8,blq,a00,bxx,cd3 (ic_P hf)]
theorem bfw{p:Int->Bool}:∀n:Nat,(mc n p=[]/\∀i:Int,0<=i->i<n->p i=false)\/∃j:Int,0<=j/\j<n/\p j=true/\(∀i:Int,0<=i->i<j->p i=false)/\∃t,mc n p=j::t
 |0=>.inl ⟨rfl,fun i i0 i1=>by omega⟩
 |n+1=>by
  rcases bfw (p:=p) n with⟨h1,h2⟩|⟨j,j0,j1,h1,h2,t,h3⟩
  ·cases hp:p n with
   |true=>exact .inr ⟨n,by omega,by omega,hp,h2,[],by rw[mc,a0a hp,h1];rfl⟩
   |false=>
    refine .inl ⟨by rw[mc,ds (by rw[hp];decide),h1],fun i i0 i1=>?_⟩;by_cases e:i=n
    ·rw[e];exact hp
    ·exact h2 i i0 (by omega)
  ·refine .inr ⟨j,j0,by omega,h1,h2,?_⟩;rw[mc,h3];split
   ·exact⟨t++[(n:Int)],rfl⟩
   ·exact⟨t,rfl⟩
theorem bbt{α:Type}{q:Int->Option α}{j:Int}{r:α}(h:q j=some r):∀(k:Nat)(i:Int),i<=j->j<i+k->(∀t:Int,i<=t->t<j->q t=none)->gp q k i=some r
 |0,i,h0,h1,_=>by omega
 |k+1,i,h0,h1,hn=>by
  unfold gp;by_cases e:i=j
  ·subst e;rw[h]
  ·rw[hn i (a02 _) (by omega)];exact bbt h k (i+1) (by omega) (by omega) fun t t0 t1=>hn t (by omega) t1
theorem bru{α:Type}{z:α}{L:List α}{u:α->Bool}{j:Int}(j0:0<=j)(j1:j<L.length)(h:u (L.getD j.toNat z)=true)(hn:∀i:Int,0<=i->i<j->u (L.getD i.toNat z)=false):∃t,L.filter u=L.getD j.toNat z::t:=by
 have e:L=L.take j.toNat++(L.getD j.toNat z::L.drop (j.toNat+1)):=by
  have hj:j.toNat<L.length:=by omega
  conv=>lhs;rw[←a1x j.toNat L,a3y hj]
  rw[a0l,a0p hj];rfl
 have h1:(L.take j.toNat).filter u=[]:=by rw[a5g];intro a ha;obtain⟨k,hk,rfl⟩:=a2d ha;rw[a03]at hk;have:=hn k (by omega) (by omega);rw[a0y,a0l,a0p (by omega)]at this;have this:u (L[k]'(by omega))=false:=this;rw[List.getElem_take,this];decide
 refine⟨(L.drop (j.toNat+1)).filter u,?_⟩
 conv=>lhs;rw[e]
 rw[a33,h1,a2s,a2r,a0a h]
theorem bvb{α:Type}{z:α}{L:List α}{u:α->Bool}(hn:∀i:Int,0<=i->i<L.length->u (L.getD i.toNat z)=false):L.filter u=[]:=by rw[a5g];intro a ha;obtain⟨k,hk,rfl⟩:=a2d ha;have:=hn k (by omega) (by omega);rw[a0y,a0l,a0p hk]at this;have this:u L[k]=false:=this;rw[this];decide
structure ConesP (d:am):Prop where
 len:(jb d).length<=8
 cat:k9 (ccR d).1=true
 all:aes d=(jb d,0)
 als:avh d=jb d
 lim:adx d=aeb d
 no:aa0 (ccR d).1=[]->(aeb d).2=4
 yes:¬aa0 (ccR d).1=[]->(aeb d).2=0/\0<=(aa0 (ccR d).1).getD 0 0/\(aa0 (ccR d).1).getD 0 0<(jb d).length/\(jb d).getD ((aa0 (ccR d).1).getD 0 0).toNat (0,[])=(aeb d).1
theorem bzm{d:am}(h:(ccR d).2=0):ConesP d:=by
 have hf:d5 d=true:=by
  cases hf:d5 d with
  |true=>rfl
  |false=>exfalso;simp only[ccR,a0a hf]at h;exact absurd h (by decide)
 have hf':¬d5 d=false:=by rw[hf];decide
 have hl:(kj d).length=min 401 (jb d).length:=by rw[apw hf,a03]
 have h8:¬(kj d).length>8:=fun h8=>by simp only[ccR,ds hf',a0a h8]at h;exact absurd h (by decide)
 have hc:kj d=jb d:=by rw[apw hf,a1c (by omega)]
 have h40:¬(ae9 d (jb d)).length>40:=fun h40=>by simp only[ccR,ds hf',hc,ds (show ¬(jb d).length>8 by omega),blq,a00,a0a h40]at h;exact absurd h (by decide)
 have e:(ccR d).1=ckK d (jb d) (ae9 d (jb d)):=by simp only[ccR,ds hf',ds h8];rw[hc,blq,a00,ds h40,bxx]
 have P:=ic_P hf;have hac:acR d=jb d:=a0a (by omega);have hab:wx d=true:=a1p (by omega);have hlst:ad4 d=jb d:=by unfold ad4;rw[ds (by omega),hc]
 have hlm:aeb d=match gp (ag0 d (jb d)) (jb d).length 0 with
  |some p=>(p,0)
  |none=>((0,[]),4):=by
  simp only[aeb,a0a hf,amw,hc,ds (show ¬(jb d).length>400 by omega)];rfl
 have hli:adx d=if (((jb d).filter (t5 d (jb d))).take 1).length=0 then ((0,[]),4)else ((((jb d).filter (t5 d (jb d))).take 1).getD 0 (0,[]),0):=by simp only[adx,a0a hf,agi,hab,lsR,hac];rfl
 have ht:=bz5 P;rw[←e]at ht
 have hk:(adx d=((0,[]),4)/\aeb d=((0,[]),4)/\aa0 (ccR d).1=[])\/∃j:Int,(0<=j/\j<(jb d).length)/\(∃t,aa0 (ccR d).1=j::t)/\adx d=((jb d).getD j.toNat (0,[]),0)/\aeb d=((jb d).getD j.toNat (0,[]),0):=by
  rw[hli,hlm,ht];generalize jb d=L;rcases bfw (p:=fun i=>t5 d L (L.getD i.toNat (0,[]))) L.length with⟨h1,h2⟩|⟨j,j0,j1,h1,h2,t,h3⟩
  ·left;have f:=bvb (u:=t5 d L) h2;have s:gp (ag0 d L) L.length 0=none:=alp _ _ fun i i0 i1=>by unfold ag0;rw[ds (by rw[h2 i i0 (by omega)];decide)]
   rw[f,s];exact⟨rfl,rfl,h1⟩
  ·right;obtain⟨t2,f⟩:=bru (u:=t5 d L) j0 j1 h1 h2;have s:gp (ag0 d L) L.length 0=some (L.getD j.toNat (0,[])):=bbt (j:=j) (by unfold ag0;rw[a0a h1]) _ _ j0 (by omega) fun i i0 i1=>by unfold ag0;rw[ds (by rw[h2 i i0 i1];decide)]
   refine⟨j,⟨j0,j1⟩,⟨t,h3⟩,?_,?_⟩
   ·rw[f];rfl
   ·rw[s]
 refine⟨by omega,by rw[e];exact cby P (by omega) (by omega),by simp only[aes,a0a hf,apl,hab,hac,a04],by simp only[avh,a0a hf,hlst],?_,fun hz=>?_,fun hz=>?_⟩
 ·rcases hk with h|⟨j,_,_,h1,h2⟩
  ·rw[h.1,h.2.1]
  ·rw[h1,h2]
 ·rcases hk with h|⟨j,_,⟨t,h1⟩,_⟩
  ·rw[h.2.1]
  ·rw[h1]at hz;cases hz
 ·rcases hk with h|⟨j,hj,⟨t,h1⟩,_,h2⟩
  ·exact absurd h.2.2 hz
  ·rw[h1,h2];exact⟨rfl,hj.1,hj.2,rfl⟩
def c_laws_FnLimitsTerminal:Ct:=⟨[iq],[false],fun x=>[],[(false,kf)],fun x=>(true,()),false,none⟩
def ani:Ann:=(.s .n (.s .n (.s .n (.s .n (.s .n (.s .n (.s .n (.s .n (.s .n (.s .n (.s .n (.s .n (.s .n (.s (.s .n (.l [(18,(.d bc))] [] [8,10,13,14,16] .n)) .n))))))))))))))
def bi3:FuncId->Option Ct:=lkp [(17,ur),(14,tf),(20,vg),(8,pf),(19,jf),(6,af1),(16,jz),(21,nk),(18,nv),(15,s9),(13,wt),(9,pc)]
def wu(code:List Int)(K:Bool×Unit->Prop):Prop:=let c:=vn code;let h:=(ccR c).1;let f:=(avh c).length;let e:=(ayp h).length;let d:=(ayp h).getD (Int.toNat 0) 0;let i:=decide (d<(f:Int));let g:=decide (0<=d);cnd (decide (4096<(code.length:Int))) (K (true,())) (cnd ((ad2 c).2 != (ccR c).2||!eqR bp (ad2 c).1 h) (K (false,())) (cnd ((ad2 c).2 != 0) (K (true,())) (cnd (!k9 h||(aes c).2 != 0||((aes c).1.length:Int) != (f:Int)||(adx c).2 != (aeb c).2||!eqR yg (adx c).1 (aeb c).1||bkk h != 0) (K (false,())) (bn (S:=ce7) (fun a b=>let j:=a.1.1;Iq j<|cnd (decide (j<(f:Int))) (Ix j (aes c).1.length<|Ix j f<|cnd (!eqR yg ((aes c).1.getD j.toNat (0,[])) ((avh c).getD j.toNat (0,[]))) (K (false,())) (Ik (j+1)<|b ((j+1,()),()))) (cnd (decide (0<(e:Int)) != ((adx c).2==0)) (K (false,())) (cnd ((e:Int)==0) (K ((adx c).2==4,())) (Ix 0 e<|(g=true->0<(e:Int)/\(0:Int)<=0)/\((g&&i)=true->0<(e:Int)/\(0:Int)<=0)/\((g&&i)=true->d<(f:Int)/\0<=d)/\K (g&&i&&eqR yg ((avh c).getD ((ayp h).getD 0 0).toNat (0,[])) (aeb c).1,()))))) ((0,()),())))))
theorem ann(code:List Int)(hok:ab (okL c_laws_FnLimitsTerminal.args (code,())))(hpre:ab (c_laws_FnLimitsTerminal.pre (code,()))):wu code (fun r=>r=c_laws_FnLimitsTerminal.res (code,())):=by
 simp only[c_laws_FnLimitsTerminal,okL,T.oks,T.ok,ap,ab,a0f,a0c,a0g]at hok hpre
 try dsimp only[T.den]at hok hpre
 delta wu Ik Iq Ix
 dsimp -proj -eta only;have hres:(c_laws_FnLimitsTerminal).res (code,())=(true,()):=rfl;rw[hres];have hne0:∀i:Int,(i != i)=false:=fun i=>by simp
 refine ba (fun _=>rfl) (fun hbig=>?_);clear hok hpre hres;generalize vn code=d at *;have hrfl:eqR bp (ccR d).1 (ccR d).1=true:=abf.2 rfl;have hrfp:∀p:bo,eqR yg p p=true:=fun p=>abf.2 rfl;rw[ccw];refine ba (fun h=>?_) (fun _=>ba (fun _=>rfl) (fun h0=>?_))
 ·exfalso;simp[hrfl]at h
 have h0:(ccR d).2=0:=by simpa using h0
 have C:=bzm h0;have ht:ayp (ccR d).1=aa0 (ccR d).1:=a0a C.cat;have hc:bkk (ccR d).1=0:=a0a C.cat;rw[C.all,C.als,C.lim,ht,hc,C.cat]
 try dsimp only
 refine ba (fun h=>?_) (fun _=>?_)
 ·exfalso;simp[hrfp]at h
 have hno:=C.no;have h8:=C.len;have hye:=C.yes;clear C ht hc h0 hrfl;generalize aa0 (ccR d).1=T at *;generalize jb d=L at *;generalize aeb d=m at *;refine bq (fun (s:ce7)=>0<=s.1.1/\s.1.1<=L.length) (fun (s:ce7)=>(L.length-s.1.1).toNat) ?_ ⟨by simp,by simp⟩;rintro⟨⟨i,_⟩,_⟩ next ⟨i0,i1⟩ hnx hin
 try dsimp only at i0 i1 hnx hin⊢
 refine bd (fun hi=>⟨i0,hi,i0,hi,ba (fun h=>?_) (fun _=>⟨by rw[au]at hin⊢;omega,hnx _ ⟨by dsimp only;omega,by dsimp only;omega⟩ (by dsimp only;omega)⟩)⟩) (fun hi=>?_)
 ·exfalso;rw[hrfp]at h;exact absurd h (by decide)
 by_cases hT:T=[]
 ·have:=hno hT;subst hT;rw[this];exact ba (fun h=>absurd h (by decide)) (fun _=>ba (fun _=>rfl) (fun h=>absurd h (by decide)))
 ·obtain⟨y1,y2,y3,y4⟩:=hye hT;have hl:0<T.length:=List.length_pos_iff.2 hT;rw[y1,y4,hrfp];refine ba (fun h=>?_) (fun _=>ba (fun h=>?_) (fun _=>⟨a02 _,by omega,fun _=>⟨by omega,a02 _⟩,fun _=>⟨by omega,a02 _⟩,fun _=>⟨y3,y2⟩,?_⟩))
  ·exfalso;rw[a1p (show (0:Int)<T.length by omega)]at h;exact absurd h (by decide)
  ·exfalso;rw[a0r]at h;omega
  ·have y2':(0:Int)<=T.getD (Int.toNat 0) 0:=y2;have y3':T.getD (Int.toNat 0) 0<(L.length:Int):=y3;simp only[y2,y3,y2',y3',decide_true,a0o]
theorem ct_laws_FnLimitsTerminal:bw Tryz.prog 4 c_laws_FnLimitsTerminal:=ctb (ae axn (ae asm (ae aum (ae bbn (ae ank (ae bmj (ae anm (ae auc (ae ay7 (ae aq8 (ae ana (ae bbu az)))))))))))) bg 4 Tryz.f4 c_laws_FnLimitsTerminal ani [(20,508),(26,20)] (fun x K=>wu x.1 K) (fun x h1 h2=>ann x.1 h1 h2)
end
end Go.Bm
