/- What the functions that FnLimitsTerminal reaches give: for each its contract, what it asks, and the proof. No condition. -/
import Derived.Test.YtimfdllgcnabjaaGreatFnLimitsTerminalFnsA
set_option linter.unusedVariables false
set_option linter.unusedSimpArgs false
namespace Go.Bm
open Go.Proofs
set_option maxRecDepth 100000
set_option maxHeartbeats 1000000
abbrev a35:=@beq_eq_false_iff_ne
abbrev a5a:=@List.mem_flatMap
abbrev a5g:=@List.filter_eq_nil_iff
abbrev a21:=@decide_eq_false
abbrev a3k:=@Bool.and_eq_false_iff
abbrev a1h:=@Prod.ext
abbrev a3b:=@List.mem_flatten
noncomputable section
def ad4(d:am):List bo:=if (kj d).length>400 then []else kj d
def ae8(d:am):Int:=if (kj d).length>400 then 3 else 0
def l6:Ct:=⟨[jq],[true],fun x=>[d5 x.1=true],[(false,(.fz adh)),(false,kg)],fun x=>(ad4 x.1,ae8 x.1,()),true,none⟩
def ahm(d:am)(K:(List bo)×Int×Unit->Prop):Prop:=d5 d=true/\cnd (decide (400<((kj d).length:Int))) (K (([]:List ce5),3,())) (K (kj d,0,()))
theorem bc2(d:am)(hok:ab (okL l6.args (d,())))(hpre:ab (l6.pre (d,()))):ahm d (fun r=>r=l6.res (d,())):=by
 simp only[l6,okL,T.oks,T.ok,ap,ab,a0f,a0c,a0g]at hok hpre
 try dsimp only[T.den]at hok hpre
 unfold ahm;have hl:(kj d).length<=401:=aqx;refine⟨hpre,bd (fun h=>?_) (fun h=>?_)⟩
 ·have h:(kj d).length>400:=by omega
  simp only[l6,ad4,ae8,a0a h]
 ·have h:¬(kj d).length>400:=by omega
  simp only[l6,ad4,ae8,ds h]
theorem ag2:bw Tryz.prog 47 l6:=ctb (ae ayl az) bg 47 Tryz.f47 l6 .n [] (fun x K=>ahm x.1 K) (fun x h1 h2=>bc2 x.1 h1 h2)
structure ConeP (d:am) (p:bo):Prop where
 x0:0<=p.1
 x1:p.1<d.2.1.1
 l:p.2.length=d.2.2.1.length
 w:e9 p.2 d.2.1.2.1.length=true
 e:∀j:Int,0<=j->j<p.2.length->d.2.1.2.1.getD (p.2.getD j.toNat 0).toNat 0=p.1/\d.2.1.2.2.1.getD (p.2.getD j.toNat 0).toNat 0=d.2.2.1.getD j.toNat 0
 n:∀a:Int,0<=a->a<d.2.2.2.length->bi d.2.1 (p.2.getD (d.1.2.1.getD a.toNat 0).toNat 0) (d.2.2.2.getD a.toNat 0)=p.2.getD (d.1.2.2.1.getD a.toNat 0).toNat 0
structure UniP (d:am) (l:List bo) (p:bo):Prop where
 n:l.length<=1000000
 a:∀q∈l,CmpP d q p
def t5(d:am)(l:List bo)(p:bo):Bool:=l.all fun q=>(kt d q p).length==1
def ld:Ct:=⟨[aao,adh,yg],[false,false,true],fun x=>[UniP x.1 x.2.1 x.2.2.1],[(false,kf)],fun x=>(t5 x.1 x.2.1 x.2.2.1,()),false,none⟩
def ate:Ann:=(.s .n (.s (.s .n (.l [(11,(.d bc))] [] [0,5,9,10] .n)) .n))
def aca(d:am)(all:List bo)(p:bo)(K:Bool×Unit->Prop):Prop:=bn (S:=ce7) (fun a b=>let c:=all.getD a.1.1.toNat (0,[]);Iq a.1.1<|cnd (decide (a.1.1<(all.length:Int))) (Ix a.1.1 all.length<|CmpP d c p/\cnd (((kt d c p).length:Int) != 1) (K (false,())) (Ik (a.1.1+1)<|b ((a.1.1+1,()),()))) (K (true,()))) ((0,()),())
theorem au5(d:am)(all:List bo)(p:bo)(hok:ab (okL ld.args (d,all,p,())))(hpre:ab (ld.pre (d,all,p,()))):aca d all p (fun r=>r=ld.res (d,all,p,())):=by
 simp only[ld,okL,T.oks,T.ok,ap,ab,a0f,a0c,a0g]at hok hpre
 try dsimp only[T.den]at hok hpre
 delta aca Ik Iq Ix
 dsimp -proj -eta only;obtain⟨hn,ha⟩:=hpre;have hval:t5 d all p=all.all fun q=>(kt d q p).length==1:=rfl;have res:∀b,t5 d all p=b->(b,())=ld.res (d,all,p,()):=fun b h=>by simp only[ld,h]
 refine bki all ((0:Int),([]:List Int)) (fun q=>(kt d q p).length==1) ?_ ?_
 ·intro i next h0 h1 hno hn1 hin
  try dsimp only
  refine bd (fun _=>⟨h0,h1,ha _ (cp all _ h0 h1),ba (fun hx=>res _ (hno ?_)) (fun hx=>⟨by rw[au];(try dsimp only);omega,hn1 ?_⟩)⟩) (fun h=>absurd h1 h)
  ·rw[a35];intro e;rw[e]at hx;exact absurd hx (by decide)
  ·rw[a0r];have h:(((kt d (all.getD i.toNat ((0:Int),([]:List Int))) p).length:Nat):Int)=1:=by simpa using hx
   omega
 ·intro next h hin
  refine bd (fun h=>absurd h (a1b _)) (fun _=>res _ h)
theorem ati:bw Tryz.prog 95 ld:=ctb (ae al8 az) bg 95 Tryz.f95 ld ate [] (fun x K=>aca x.1 x.2.1 x.2.2.1 K) (fun x h1 h2=>au5 x.1 x.2.1 x.2.2.1 h1 h2)
def lgA(d:am)(l:List Int)(a:Int):Bool:=!decide (max (d.1.2.1.getD a.toNat 0) (d.1.2.2.1.getD a.toNat 0)=(l.length:Int)-1)||bi d.2.1 (l.getD (d.1.2.1.getD a.toNat 0).toNat 0) (d.2.2.2.getD a.toNat 0)==l.getD (d.1.2.2.1.getD a.toNat 0).toNat 0
def lgT(d:am)(l:List Int)(h:Int):Bool:=jv d.2.2.2.length (lgA d (l++[h]))
def v7(d:am)(x:Int):Nat->List Int->List (List Int)
 |0,l=>[l]
 |n+1,l=>((ip d.2.1 x (d.2.2.1.getD l.length 0)).filter (lgT d l)).flatMap fun h=>v7 d x n (l++[h])
theorem bqh{d:am}{x:Int}{n:Nat}{l:List Int}:v7 d x (n+1) l=((ip d.2.1 x (d.2.2.1.getD l.length 0)).filter (lgT d l)).flatMap fun h=>v7 d x n (l++[h]):=rfl
def ag3(d:am)(x:Int):List bo:=(v7 d x d.1.1.toNat []).map fun l=>(x,l)
def jb(d:am):List bo:=(bh d.2.1.1.toNat fun x=>x).flatMap (ag3 d)
def sqL(d:am)(l:List Int)(a:Int):Prop:=bi d.2.1 (l.getD (d.1.2.1.getD a.toNat 0).toNat 0) (d.2.2.2.getD a.toNat 0)=l.getD (d.1.2.2.1.getD a.toNat 0).toNat 0
structure PrP (d:am) (x:Int) (l:List Int):Prop where
 h:∀j:Int,0<=j->j<l.length->l.getD j.toNat 0∈ip d.2.1 x (d.2.2.1.getD j.toNat 0)
 s:∀a:Int,0<=a->a<d.1.2.1.length->d.1.2.1.getD a.toNat 0<l.length->d.1.2.2.1.getD a.toNat 0<l.length->sqL d l a
theorem PrP.nil{d:am}{x:Int}(F:FunP d):PrP d x []:=⟨fun j j0 j1=>by simp at j1;omega,fun a a0 a1 h=>by have:=(F.src.frm a0 a1).1;have h:d.1.2.1.getD a.toNat 0<0:=h;omega⟩
theorem PrP.nn{d:am}{x:Int}{l:List Int}(P:PrP d x l){j:Int}(j0:0<=j)(j1:j<l.length):0<=l.getD j.toNat 0/\l.getD j.toNat 0<d.2.1.2.1.length:=by have:=ti.1 (P.h j j0 j1);exact⟨this.1,this.2.1⟩
theorem avk{l:List Int}{h j:Int}(j0:0<=j)(j1:j<l.length):(l++[h]).getD j.toNat 0=l.getD j.toNat 0:=wq j0 j1
theorem bkj{l:List Int}{h:Int}:(l++[h]).getD l.length 0=h:=by rw[a0l,a1s (a0k _),a4d];rfl
theorem PrP.snoc{d:am}{x:Int}{l:List Int}{h:Int}(F:FunP d)(P:PrP d x l)(hh:h∈(ip d.2.1 x (d.2.2.1.getD l.length 0)).filter (lgT d l)):PrP d x (l++[h]):=by
 obtain⟨h1,h2⟩:=a3a.1 hh;have hl:(l++[h]).length=l.length+1:=by simp
 refine⟨fun j j0 j1=>?_,fun a a0 a1 hu hv=>?_⟩
 ·by_cases e:j<l.length
  ·rw[avk j0 e];exact P.h j j0 e
  ·have:j=l.length:=by omega
   subst this;rw[a0y,bkj];exact h1
 ·have f:=F.src.frm a0 a1;have hla:=F.fit.la;rw[hl]at hu hv;by_cases e:d.1.2.1.getD a.toNat 0<l.length/\d.1.2.2.1.getD a.toNat 0<l.length
  ·have:=P.s a a0 a1 e.1 e.2;unfold sqL at this⊢;rw[avk f.1 e.1,avk f.2.2.1 e.2];exact this
  ·have h3:=(ov.1 h2) a a0 (by omega);unfold lgA at h3;rw[hl]at h3;have hmx:max (d.1.2.1.getD a.toNat 0) (d.1.2.2.1.getD a.toNat 0)=((l.length+1:Nat):Int)-1:=by omega
   rw[a1p hmx]at h3;simpa[sqL]using h3
theorem bho{d:am}{x:Int}(F:FunP d):∀(n:Nat)(l:List Int),PrP d x l->∀m∈v7 d x n l,PrP d x m/\m.length=l.length+n/\∃t,m=l++t
 |0,l,P,m,hm=>by rw[a0s.1 hm];exact⟨P,rfl,[],(a2e _).symm⟩
 |n+1,l,P,m,hm=>by rw[bqh]at hm;obtain⟨h,h1,h2⟩:=a5a.1 hm;obtain⟨p1,p2,t,p3⟩:=bho F n _ (P.snoc F h1) m h2;exact⟨p1,by rw[p2,a0m];simp only[a0h,a0i];omega,h::t,by rw[p3,a01];rfl⟩
structure GoH (d:am) (x:Int) (s:cj):Prop where
 f:s.1=fm d.1 d.2.1 x
 g:s.2.1=d
 i:s.2.2.1=false
theorem byi{d:am}{x:Int}{s:cj}(F:FunP d)(H:GoH d x s){l:List Int}{y:Int}(y0:0<=y)(y1:y<d.1.1):ky s l y=(ip d.2.1 x (d.2.2.1.getD y.toNat 0)).filter fun h=>jv d.1.2.1.length (avi (fm d.1 d.2.1 x) d (l.set y.toNat h) y):=by have ho:=F.src.ob;have e1:(fm d.1 d.2.1 x).2.2.1.getD y.toNat 0=x:=d6 y0 (by omega);have e2:(fm d.1 d.2.1 x).2.2.2.length=d.1.2.1.length:=bj _;unfold ky;rw[H.f,H.g,H.i,e1];show List.filter (akp (fm d.1 d.2.1 x) d false l y) (ip d.2.1 x (d.2.2.1.getD y.toNat 0))=_;refine List.filter_congr fun h _=>?_;unfold akp;rw[e2];simp
theorem bx6{d:am}{x:Int}(hd:k9 d.2.1=true)(x0:0<=x)(x1:x<d.2.1.1){n:List Int}{a:Int}(a0:0<=a)(a1:a<d.1.2.1.length){y:Int}(hv:n.getD (d.1.2.2.1.getD a.toNat 0).toNat 0∈ip d.2.1 x y):azp (fm d.1 d.2.1 x) d n a=(bi d.2.1 (n.getD (d.1.2.1.getD a.toNat 0).toNat 0) (d.2.2.2.getD a.toNat 0)==n.getD (d.1.2.2.1.getD a.toNat 0).toNat 0):=by have e1:(fm d.1 d.2.1 x).2.2.2.getD a.toNat 0=d.2.1.2.2.2.1.getD x.toNat 0:=d6 a0 a1;have hm:=ti.1 hv;have hu:=(aoe hd hm.1 hm.2.1).1;rw[hm.2.2.1]at hu;unfold azp;rw[e1];show (bi d.2.1 (d.2.1.2.2.2.1.getD x.toNat 0) (n.getD (d.1.2.2.1.getD a.toNat 0).toNat 0)==bi d.2.1 (n.getD (d.1.2.1.getD a.toNat 0).toNat 0) (d.2.2.2.getD a.toNat 0))=_;rw[hu,a3j,a0r,a0r];exact eq_comm
theorem auk{l:List Int}{y h:Int}(y0:0<=y)(y1:y<l.length):(l.set y.toNat h).getD y.toNat 0=h:=by rw[a0l,a2v,a0a rfl,a0a (by omega)];rfl
theorem bd7{l:List Int}{y j h:Int}(y0:0<=y)(j0:0<=j)(e:j≠y):(l.set y.toNat h).getD j.toNat 0=l.getD j.toNat 0:=by rw[a0l,a2v,ds (by omega),←a0l]
theorem bd2{d:am}{x:Int}{s:cj}(F:FunP d)(hd:k9 d.2.1=true)(x0:0<=x)(x1:x<d.2.1.1)(H:GoH d x s){m l:List Int}(P:PrP d x m)(hm:(m.length:Int)=d.1.1)(hl:l.length=m.length)
  (hk:∀j:Int,0<=j->j<l.length->l.getD j.toNat 0<0\/l.getD j.toNat 0=m.getD j.toNat 0) {y:Int} (y0:0<=y) (y1:y<l.length):m.getD y.toNat 0∈ky s l y:=by
 rw[byi F H y0 (by omega)];refine a3a.2 ⟨P.h y y0 (by omega),ov.2 fun a a0 a1=>?_⟩;have f:=F.src.frm a0 a1
 have hv:∀j:Int,0<=j->j<d.1.1->(l.set y.toNat (m.getD y.toNat 0)).getD j.toNat 0<0\/(l.set y.toNat (m.getD y.toNat 0)).getD j.toNat 0=m.getD j.toNat 0:=fun j j0 j1=>by
  by_cases e:j=y
  ·subst e;exact .inr (auk y0 y1)
  ·rw[bd7 y0 j0 e];exact hk j j0 (by omega)
 unfold avi;simp only[a09,a0w];show ((_\/(l.set y.toNat (m.getD y.toNat 0)).getD (d.1.2.1.getD a.toNat 0).toNat 0<0)\/(l.set y.toNat (m.getD y.toNat 0)).getD (d.1.2.2.1.getD a.toNat 0).toNat 0<0)\/_;rcases hv _ f.1 f.2.1 with h1|h1
 ·exact .inl (.inl (.inr h1))
 rcases hv _ f.2.2.1 f.2.2.2 with h2|h2
 ·exact .inl (.inr h2)
 right;rw[bx6 hd x0 x1 a0 a1 (by rw[h2];exact P.h _ f.2.2.1 (by omega)),h1,h2,a0r];exact P.s a a0 a1 (by omega) (by omega)
theorem ass{s:cj}{l:List Int}(hc:∀y:Nat,y<l.length->l.getD y 0=-1->(ky s l y).length≠0):∀(n:Nat)(x:Int),n<=l.length->∃z,goX s l n x=some z/\(z=x\/0<=z/\z<n/\l.getD z.toNat 0=-1)
 |0,x,_=>⟨x,rfl,.inl rfl⟩
 |n+1,x,h=>by
  rw[avp];by_cases e:l.getD n 0=-1
  ·rw[a0a e,ds (hc n (by omega) e)];obtain⟨z,h1,h2⟩:=ass hc n (n:Int) (by omega);refine⟨z,h1,.inr ?_⟩;rcases h2 with h2|h2
   ·subst h2;exact⟨by omega,by omega,by rw[a0y];exact e⟩
   ·exact⟨h2.1,by omega,h2.2.2⟩
  ·rw[ds e];obtain⟨z,h1,h2⟩:=ass hc n x (by omega);exact⟨z,h1,h2.imp id fun h=>⟨h.1,by omega,h.2.2⟩⟩
theorem bmz{s:cj}:∀(n:Nat)(l:List Int)(fd:List (List Int)),fd.length<=(goR s n l fd).length
 |0,l,fd=>a0k _
 |n+1,l,fd=>by
  cases hx:goX s l l.length (-1)with
  |none=>rw[av8 hx];exact a0k _
  |some x=>
   by_cases h0:x<0
   ·rw[aqq hx h0,a0m];omega
   ·rw[aqd hx h0];refine aay (P:=fun q:List (List Int)=>fd.length<=q.length) (fun q y hq=>?_) _ _ (a0k _);unfold goS;split
    ·exact a0z hq (bmz n _ _)
    ·exact hq
theorem bj3{s:cj}{n:Nat}{l:List Int}{x:Int}(L:List Int)(fd:List (List Int)):fd.length<=(L.foldl (goS s n l x) fd).length:=by
 refine aay (P:=fun q:List (List Int)=>fd.length<=q.length) (fun q y hq=>?_) _ _ (a0k _);unfold goS;split
 ·exact a0z hq (bmz n _ _)
 ·exact hq
theorem boh{d:am}{x:Int}{s:cj}(F:FunP d)(hd:k9 d.2.1=true)(x0:0<=x)(x1:x<d.2.1.1)(H:GoH d x s){m:List Int}(P:PrP d x m)(hm:(m.length:Int)=d.1.1):∀(n:Nat)(l:List Int)(fd:List (List Int)),l.length=m.length->goM l<n->
  (∀j:Int,0<=j->j<l.length->l.getD j.toNat 0<0\/l.getD j.toNat 0=m.getD j.toNat 0)->(fd.length:Int)<s.2.2.2.1->fd.length<(goR s n l fd).length
 |0,l,fd,_,h,_,_=>absurd h (a45 _)
 |n+1,l,fd,hl,hn,hk,hf=>by
  have hne:∀y:Nat,y<l.length->l.getD y 0=-1->(ky s l y).length≠0:=fun y y1 _ h0=>by have:=bd2 F hd x0 x1 H P hm hl hk (y:=(y:Int)) (by omega) (by omega);rw[List.length_eq_zero_iff]at h0;rw[h0]at this;cases this
  obtain⟨z,hz,h2⟩:=ass hne l.length (-1) (a0k _);by_cases h0:z<0
  ·rw[aqq hz h0,a0m];simp only[a0h,a0i];omega
  ·rw[aqd hz h0];have h2:0<=z/\z<l.length/\l.getD z.toNat 0=-1:=h2.resolve_left (by omega);have hmem:=bd2 F hd x0 x1 H P hm hl hk h2.1 h2.2.1;have hmz:=P.nn h2.1 (by omega);obtain⟨L1,L2,e⟩:=List.append_of_mem hmem;rw[e,a11,a10];refine a1a ?_ (bj3 L2 _);have g1:=bj3 (s:=s) (n:=n) (l:=l) (x:=z) L1 fd;generalize L1.foldl (goS s n l z) fd=f1 at *;unfold goS;split
   ·rename_i hlt;have hM:=be4 (h:=m.getD z.toNat 0) (by omega) l z.toNat h2.2.2;refine Nat.lt_of_le_of_lt g1 (boh F hd x0 x1 H P hm n (l.set z.toNat (m.getD z.toNat 0)) f1 (by rw[a1m];exact hl) (by omega) (fun j j0 j1=>?_) hlt);rw[a1m]at j1;by_cases e:j=z
    ·subst e;exact .inr (auk h2.1 h2.2.1)
    ·rw[bd7 h2.1 j0 e];exact hk j j0 j1
   ·omega
theorem bng{α:Type}(M:Nat)(A B:List α):(A.take M++B).take M=(A++B).take M:=by rw[a3d,a3d,List.take_take,Nat.min_self,a03];congr 2;omega
theorem ant{α:Type}{M:Nat}{A:List α}(B:List α)(h:A.length=M):(A++B).take M=A:=by rw[a3d,a1c (by omega),show M-A.length=0 by omega,a4s,a2e]
theorem bi1{pre:List Int}{k:Nat}{j:Int}(j0:(pre.length:Int)<=j)(j1:j<pre.length+k):(pre++List.replicate k (-1)).getD j.toNat 0=-1:=by rw[aby j0,al1 (by omega) (by omega)]
theorem by8{pre:List Int}{k:Nat}(h:∀y∈pre,0<=y):goM (pre++List.replicate k (-1))=k:=by unfold goM;rw[a33,a5g.2 (fun y hy=>by have:=h y hy;simp;omega),a2s,List.filter_eq_self.2 (fun y hy=>by rw[a34 hy];rfl),a05]
theorem bzd{d:am}{x:Int}{s:cj}(F:FunP d)(hd:k9 d.2.1=true)(x0:0<=x)(x1:x<d.2.1.1)(H:GoH d x s){pre:List Int}{k:Nat}(P:PrP d x pre)(hn:(pre.length+(k+1):Nat)=d.1.1.toNat):ky s (pre++List.replicate (k+1) (-1)) pre.length=(ip d.2.1 x (d.2.2.1.getD pre.length 0)).filter (lgT d pre):=by
 have ho:=F.src.ob;rw[byi F H (by omega) (by omega),a0y];refine List.filter_congr fun h hh=>?_;have hm:=ti.1 hh;have hset:(pre++List.replicate (k+1) (-1)).set pre.length h=(pre++[h])++List.replicate k (-1):=by rw[List.set_append_right _ _ (a0k _),a4d,a3f,a4j,a01];rfl
 rw[hset];have hl:(pre++[h]).length=pre.length+1:=by simp
 have hla:=F.fit.la;unfold lgT;rw[hla,a3j,ov,ov]
 have key:∀a:Int,0<=a->a<d.1.2.1.length->avi (fm d.1 d.2.1 x) d ((pre++[h])++List.replicate k (-1)) pre.length a=lgA d (pre++[h]) a:=fun a a0 a1=>by
  have f:=F.src.frm a0 a1;have hlo:∀j:Int,0<=j->j<=pre.length->((pre++[h])++List.replicate k (-1)).getD j.toNat 0=(pre++[h]).getD j.toNat 0:=fun j j0 j1=>wq j0 (by rw[hl];omega)
  have hnn:∀j:Int,0<=j->j<=pre.length->0<=(pre++[h]).getD j.toNat 0:=fun j j0 j1=>by
   by_cases e:j<pre.length
   ·rw[avk j0 e];exact (P.nn j0 e).1
   ·have:j=pre.length:=by omega
    subst this;rw[a0y,bkj];exact hm.1
  have hhi:∀j:Int,(pre.length:Int)<j->j<d.1.1->((pre++[h])++List.replicate k (-1)).getD j.toNat 0=-1:=fun j j0 j1=>bi1 (by rw[hl];omega) (by rw[hl];omega);unfold avi lgA;rw[hl];show (((((d.1.2.1.getD a.toNat 0 != (pre.length:Int))&&(d.1.2.2.1.getD a.toNat 0 != (pre.length:Int)))||decide (((pre++[h])++List.replicate k (-1)).getD (d.1.2.1.getD a.toNat 0).toNat 0<0))||decide (((pre++[h])++List.replicate k (-1)).getD (d.1.2.2.1.getD a.toNat 0).toNat 0<0))||azp (fm d.1 d.2.1 x) d ((pre++[h])++List.replicate k (-1)) a)=_;by_cases eu:(pre.length:Int)<d.1.2.1.getD a.toNat 0
  ·rw[hhi _ eu f.2.1,a21 (show ¬max (d.1.2.1.getD a.toNat 0) (d.1.2.2.1.getD a.toNat 0)=((pre.length+1:Nat):Int)-1 by omega)];simp
  by_cases ev:(pre.length:Int)<d.1.2.2.1.getD a.toNat 0
  ·rw[hhi _ ev f.2.2.2,a21 (show ¬max (d.1.2.1.getD a.toNat 0) (d.1.2.2.1.getD a.toNat 0)=((pre.length+1:Nat):Int)-1 by omega)];simp
  rw[hlo _ f.1 (by omega),hlo _ f.2.2.1 (by omega),a21 (show ¬(pre++[h]).getD (d.1.2.1.getD a.toNat 0).toNat 0<0 from Int.not_lt.2 (hnn _ f.1 (by omega))),a21 (show ¬(pre++[h]).getD (d.1.2.2.1.getD a.toNat 0).toNat 0<0 from Int.not_lt.2 (hnn _ f.2.2.1 (by omega)))];by_cases e:max (d.1.2.1.getD a.toNat 0) (d.1.2.2.1.getD a.toNat 0)=((pre.length+1:Nat):Int)-1
  ·rw[a1p e];have hne:((d.1.2.1.getD a.toNat 0 != (pre.length:Int))&&(d.1.2.2.1.getD a.toNat 0 != (pre.length:Int)))=false:=by rw[a3k,a1w,a1w];omega
   have hv:((pre++[h])++List.replicate k (-1)).getD (d.1.2.2.1.getD a.toNat 0).toNat 0∈ip d.2.1 x (d.2.2.1.getD (d.1.2.2.1.getD a.toNat 0).toNat 0):=by
    rw[hlo _ f.2.2.1 (by omega)];by_cases e2:d.1.2.2.1.getD a.toNat 0<pre.length
    ·rw[avk f.2.2.1 e2];exact P.h _ f.2.2.1 e2
    ·have e3:d.1.2.2.1.getD a.toNat 0=pre.length:=by omega
     rw[e3,a0y,bkj];exact hh
   rw[hne,bx6 hd x0 x1 a0 a1 hv,hlo _ f.1 (by omega),hlo _ f.2.2.1 (by omega)];simp
  ·rw[a21 e];have hne:((d.1.2.1.getD a.toNat 0 != (pre.length:Int))&&(d.1.2.2.1.getD a.toNat 0 != (pre.length:Int)))=true:=by rw[a0b,a3i,a3i];omega
   rw[hne];simp
 exact⟨fun q a a0 a1=>by rw[←key a a0 a1];exact q a a0 a1,fun q a a0 a1=>by rw[key a a0 a1];exact q a a0 a1⟩
theorem bkh{s:cj}{l:List Int}:∀(n:Nat)(x:Int),n<=l.length->(∀y:Nat,y<n->l.getD y 0≠-1)->goX s l n x=some x
 |0,x,_,_=>rfl
 |n+1,x,h,hn=>by rw[avp,ds (hn n (by omega))];exact bkh n x (by omega) fun y hy=>hn y (by omega)
theorem bok{s:cj}{pre:List Int}{k:Nat}(hp:∀y∈pre,0<=y):∀(i:Nat)(x:Int),i<=k->goX s (pre++List.replicate k (-1)) (pre.length+i) x=none\/(goX s (pre++List.replicate k (-1)) (pre.length+i) x=some (if i=0 then x else pre.length)/\∀y:Nat,pre.length<=y->y<pre.length+i->(ky s (pre++List.replicate k (-1)) y).length≠0)
 |0,x,_=>by
  right;refine⟨?_,fun y h1 h2=>by omega⟩;rw[a0a rfl];refine bkh _ _ (by rw[a0m];omega) fun y hy e=>?_;have h1:y<pre.length:=by omega
  rw[a0l,a1f h1,a0p h1]at e;have:=hp _ (a44 h1);simp at e;omega
 |i+1,x,h=>by
  have e1:(pre++List.replicate k (-1)).getD (pre.length+i) 0=-1:=by
   have:=@bi1 pre k ((pre.length+i:Nat):Int) (by omega) (by omega)
   rwa [a0y]at this
  rw[←a22,avp,a0a e1];by_cases hc:(ky s (pre++List.replicate k (-1)) ((pre.length+i:Nat):Int)).length=0
  ·rw[a0a hc];exact .inl rfl
  ·rw[ds hc];rcases bok (s:=s) (k:=k) hp i ((pre.length+i:Nat):Int) (by omega)with h1|⟨h1,h2⟩
   ·exact .inl h1
   ·right;refine⟨?_,fun y y0 y1=>?_⟩
    ·rw[h1,ds (Nat.succ_ne_zero i)];split
     ·rename_i e;subst e;rfl
     ·rfl
    ·by_cases e:y<pre.length+i
     ·exact h2 y y0 e
     ·have:y=pre.length+i:=by omega
      subst this;exact hc
theorem brj{d:am}{x:Int}{s:cj}(F:FunP d)(hd:k9 d.2.1=true)(x0:0<=x)(x1:x<d.2.1.1)(H:GoH d x s):∀(k:Nat)(pre:List Int)(fd:List (List Int)),PrP d x pre->pre.length+k=d.1.1.toNat->(fd.length:Int)<s.2.2.2.1->
  goR s (k+1) (pre++List.replicate k (-1)) fd=(fd++v7 d x k pre).take s.2.2.2.1.toNat
 |0,pre,fd,P,hn,hf=>by
  have hp:∀y∈pre,0<=y:=fun y hy=>by
   obtain⟨i,hi,rfl⟩:=a2d hy;have:=(P.nn (j:=i) (by omega) (by omega)).1
   rwa [a0y,a0l,a0p hi]at this
  rw[List.replicate_zero,a2e];have hx:goX s pre pre.length (-1)=some (-1):=bkh _ _ (a0k _) fun y hy e=>by rw[a0l,a0p hy]at e;have:=hp _ (a44 hy);simp at e;omega
  rw[aqq hx (by decide),v7,a1c (by rw[a0m];simp only[a0h,a0i];omega)]
 |k+1,pre,fd,P,hn,hf=>by
  have hp:∀y∈pre,0<=y:=fun y hy=>by
   obtain⟨i,hi,rfl⟩:=a2d hy;have:=(P.nn (j:=i) (by omega) (by omega)).1
   rwa [a0y,a0l,a0p hi]at this
  have ho:=F.src.ob;have hll:(pre++List.replicate (k+1) (-1)).length=pre.length+(k+1):=by rw[a0m,a05]
  rcases bok (s:=s) hp (k+1) (-1) (a0k _)with h1|⟨h1,h2⟩
  ·rw[←hll]at h1;rw[av8 h1]
   have he:v7 d x (k+1) pre=[]:=by
    rw[List.eq_nil_iff_forall_not_mem];intro m hm;obtain⟨q1,q2,t,q3⟩:=bho F _ _ P m hm
    have hk:∀j:Int,0<=j->j<(pre++List.replicate (k+1) (-1)).length->(pre++List.replicate (k+1) (-1)).getD j.toNat 0<0\/(pre++List.replicate (k+1) (-1)).getD j.toNat 0=m.getD j.toNat 0:=fun j j0 j1=>by
     by_cases e:j<pre.length
     ·right;rw[wq j0 e,q3,wq j0 e]
     ·left;rw[bi1 (by omega) (by omega)];decide
    have hne:∀y:Nat,y<(pre++List.replicate (k+1) (-1)).length->(pre++List.replicate (k+1) (-1)).getD y 0=-1->(ky s (pre++List.replicate (k+1) (-1)) y).length≠0:=fun y y1 _ h0=>by have:=bd2 F hd x0 x1 H q1 (by omega) (by omega) hk (y:=(y:Int)) (by omega) (by omega);rw[List.length_eq_zero_iff]at h0;rw[h0]at this;cases this
    obtain⟨z,hz,_⟩:=ass hne _ (-1) (a0k _);rw[h1]at hz;cases hz
   rw[he,a2e,a1c (by omega)]
  ·rw[←hll,ds (Nat.succ_ne_zero k)]at h1;rw[aqd h1 (by omega),bzd F hd x0 x1 H P (by omega),bqh];have hset:∀h:Int,(pre++List.replicate (k+1) (-1)).set ((pre.length:Int)).toNat h=(pre++[h])++List.replicate k (-1):=fun h=>by rw[a0y,List.set_append_right _ _ (a0k _),a4d,a3f,a4j,a01];rfl
   have key:∀(L:List Int)(fd:List (List Int)),(∀h∈L,h∈(ip d.2.1 x (d.2.2.1.getD pre.length 0)).filter (lgT d pre))->fd.length<=s.2.2.2.1.toNat->L.foldl (goS s (k+1) (pre++List.replicate (k+1) (-1)) pre.length) fd=(fd++L.flatMap fun h=>v7 d x k (pre++[h])).take s.2.2.2.1.toNat:=by
    intro L
    induction L with
    |nil=>intro fd _ h;rw[List.foldl_nil,List.flatMap_nil,a2e,a1c h]
    |cons y r ih=>
     intro fd hL h;rw[a10,List.flatMap_cons];by_cases e:(fd.length:Int)<s.2.2.2.1
     ·have hg:goS s (k+1) (pre++List.replicate (k+1) (-1)) pre.length fd y=(fd++v7 d x k (pre++[y])).take s.2.2.2.1.toNat:=by unfold goS;rw[a0a e,hset];exact brj F hd x0 x1 H k (pre++[y]) fd (P.snoc F (hL y (a1t ..))) (by rw[a0m];simp only[a0h,a0i];omega) e
      rw[hg,ih _ (fun h hh=>hL h (a1k _ hh)) (by rw[a03];omega),←a01];exact bng _ _ _
     ·have hg:goS s (k+1) (pre++List.replicate (k+1) (-1)) pre.length fd y=fd:=by unfold goS;rw[ds e]
      have hM:fd.length=s.2.2.2.1.toNat:=by omega
      rw[hg,ih _ (fun h hh=>hL h (a1k _ hh)) h,ant _ hM,ant _ hM]
   exact key _ fd (fun h hh=>hh) (by omega)
theorem bzi{d:am}{x m:Int}(hf:d5 d=true)(x0:0<=x)(x1:x<d.2.1.1)(hm:0<m):agv (fm d.1 d.2.1 x) d false m=(v7 d x d.1.1.toNat []).take m.toNat:=by
 have F:=alc hf;have hd:=(azn hf).2;have ho:=F.src.ob;have hl:((fcR (fm d.1 d.2.1 x)).length:Int)=d.1.1:=btw (f:=fm d.1 d.2.1 x) ho.1;have hall:=brj F hd x0 x1 (s:=(fm d.1 d.2.1 x,d,false,m,[])) ⟨rfl,rfl,rfl⟩ d.1.1.toNat [] [] (PrP.nil F) (by simp) hm;have hgm:goM (List.replicate (fcR (fm d.1 d.2.1 x)).length (-1))=d.1.1.toNat:=by have:=@by8 [] (fcR (fm d.1 d.2.1 x)).length (fun y hy=>by cases hy);rw[a2s]at this;rw[this];omega
 unfold agv;rw[hgm];have hfc:(fcR (fm d.1 d.2.1 x)).length=d.1.1.toNat:=by omega
 rw[hfc];rw[a2s,a2s]at hall;rw[hall];split
 ·rfl
 ·rename_i hb
  have he:v7 d x d.1.1.toNat []=[]:=by
   rw[List.eq_nil_iff_forall_not_mem];intro q hq;apply hb;obtain⟨q1,q2,_⟩:=bho F _ _ (PrP.nil F) q hq;have q2:q.length=d.1.1.toNat:=by rw[q2];exact a16 _
   rw[ov];intro i i0 i1;unfold foR;rw[a0w];have hfl:(fsR (fcR (fm d.1 d.2.1 x)) i).length=d.1.1.toNat:=by unfold fsR;rw[bj];exact hfc
   have:=boh F hd x0 x1 (s:=(fm d.1 d.2.1 x,d,false,1,[])) ⟨rfl,rfl,rfl⟩ q1 (by omega) (goM (fsR (fcR (fm d.1 d.2.1 x)) i)+1) (fsR (fcR (fm d.1 d.2.1 x)) i) [] (by omega) (a3r _) (fun j j0 j1=>?_) (by show ((0:Nat):Int)<1;decide)
   ·simp only[a0i]at this;omega
   ·left;have hmem:=cp (fsR (fcR (fm d.1 d.2.1 x)) i) 0 j0 j1;obtain⟨z,_,_,e⟩:=lp.1 hmem;rw[e];split<;>decide
  rw[he,List.take_nil]
theorem apw{d:am}(hf:d5 d=true):kj d=(jb d).take 401:=by
 have F:=alc hf;unfold kj jb
 have key:∀(L:List Int)(fd:List bo),(∀x∈L,0<=x/\x<d.2.1.1)->fd.length<=401->L.foldl (cnS d) fd=(fd++L.flatMap (ag3 d)).take 401:=by
  intro L
  induction L with
  |nil=>intro fd _ h;rw[List.foldl_nil,List.flatMap_nil,a2e,a1c h]
  |cons y r ih=>
   intro fd hL h;rw[a10,List.flatMap_cons];have hy:=hL y (a1t ..);by_cases e:(fd.length:Int)<=400
   ·have hg:cnS d fd y=(fd++ag3 d y).take 401:=by unfold cnS;rw[a0a e,bpv,bzi hf hy.1 hy.2 (by omega),ag3,List.map_take,a3d,a1c (l:=fd) (by omega),show (401-(fd.length:Int)).toNat=401-fd.length by omega]
    rw[hg,ih _ (fun h hh=>hL h (a1k _ hh)) (by rw[a03];omega),←a01];exact bng _ _ _
   ·have hg:cnS d fd y=fd:=by unfold cnS;rw[ds e]
    have hM:fd.length=401:=by omega
    rw[hg,ih _ (fun h hh=>hL h (a1k _ hh)) h,ant _ hM,ant _ hM]
 have:=key (bh d.2.1.1.toNat fun x=>x) [] (fun x hx=>by obtain⟨i,i0,i1,rfl⟩:=lp.1 hx;exact⟨i0,by have:=F.tgt.ob;omega⟩) (by simp);rw[this,a2s]
theorem ao1{d:am}(hf:d5 d=true){p:bo}(h:p∈jb d):ConeP d p:=by
 have F:=alc hf;have ho:=F.src.ob;have hlo:=F.fit.lo;have hla:=F.fit.la;obtain⟨x,hx,h⟩:=a5a.1 h;obtain⟨i,i0,i1,rfl⟩:=lp.1 hx;obtain⟨l,hl,rfl⟩:=a2c.1 h;obtain⟨q1,q2,_⟩:=bho F _ _ (PrP.nil F) l hl;have hlen:(l.length:Int)=d.1.1:=by rw[q2];simp;omega
 refine⟨i0,by have:=F.tgt.ob;omega,by show l.length=_;omega,ep.2 fun j j0 j1=>q1.nn j0 j1,fun j j0 j1=>?_,fun a a0 a1=>?_⟩
 ·have:=ti.1 (q1.h j j0 j1);exact⟨this.2.2.1,this.2.2.2⟩
 ·have f:=F.src.frm a0 (by omega);exact q1.s a a0 (by omega) (by omega) (by omega)
theorem aso{d:am}{p q:bo}(F:FunP d)(hq:ConeP d q)(hp:ConeP d p):CmpP d q p:=by
 have ho:=F.src.ob;have hlo:=F.fit.lo;have l1:=hp.l;have l2:=hq.l
 exact⟨F.tgt,by omega,by omega,fun f hf=>by
  obtain⟨i,hi,rfl⟩:=a2d hf;have:=ep.1 hp.w i (by omega) (by omega)
  rwa [a0y,a0l,a0p hi]at this⟩
theorem azr{d:am}(hf:d5 d=true){p:bo}(h:p∈kj d):ConeP d p:=by rw[apw hf]at h;exact ao1 hf (List.mem_of_mem_take h)
theorem bza{d:am}(hf:d5 d=true){p:bo}(hp:ConeP d p):UniP d (kj d) p:=⟨by have:=@aqx d;omega,fun _ hq=>aso (alc hf) (azr hf hq) hp⟩
theorem bzw{d:am}(hf:d5 d=true){p:bo}(hp:ConeP d p):UniP d (ad4 d) p:=by
 unfold ad4;split
 ·exact⟨by simp,fun _ hq=>by cases hq⟩
 ·exact bza hf hp
def chL(step:Int->List Int×List bo->(List Int×List bo)×Bool):List Int->List Int×List bo->(List Int×List bo)×Bool
 |[],s=>(s,true)
 |f::r,s=>if (step f s).2=true then chL step r (step f s).1 else ((step f s).1,false)
def chT(d:am)(l:List Int)(j a:Int):Bool:=!decide (max (d.1.2.1.getD a.toNat 0) (d.1.2.2.1.getD a.toNat 0)=j)||bi d.2.1 (l.getD (d.1.2.1.getD a.toNat 0).toNat 0) (d.2.2.2.getD a.toNat 0)==l.getD (d.1.2.2.1.getD a.toNat 0).toNat 0
def chR(d:am)(apex x:Int):Nat->Nat->List Int×List bo->(List Int×List bo)×Bool
 |0,_,s=>((s.1,s.2++[(x,s.1)]),decide ((s.2.length:Int)+1<=400))
 |k+1,j,s=>chL (fun f s=>if jv d.2.2.2.length (chT d (s.1.set j f) j)=true then chR d apex x k (j+1) (s.1.set j f,s.2)else ((s.1.set j f,s.2),true)) (ip d.2.1 apex (d.2.2.1.getD j 0)) s
theorem byb(a b:Int):mxR a b=max a b:=by unfold mxR;split<;>omega
theorem bkb{step:Int->List Int×List bo->(List Int×List bo)×Bool}{P:List Int×List bo->Prop}(h:∀f s,P s->P (step f s).1):∀(L:List Int)(s:List Int×List bo),P s->P (chL step L s).1
 |[],s,hs=>hs
 |f::r,s,hs=>by
  unfold chL;split
  ·exact bkb h r _ (h f s hs)
  ·exact h f s hs
theorem bj1{step:Int->List Int×List bo->(List Int×List bo)×Bool}{P:List Int×List bo->Prop}(h:∀f s,P s->(step f s).2=true->P (step f s).1):∀(L:List Int)(s:List Int×List bo),P s->(chL step L s).2=true->P (chL step L s).1
 |[],s,hs,_=>hs
 |f::r,s,hs,ht=>by
  unfold chL at ht⊢;split at ht
  ·rename_i e;rw[a0a e];exact bj1 h r _ (h f s hs e) ht
  ·cases ht
def chS(d:am)(apex x:Int)(k j:Nat)(f:Int)(s:List Int×List bo):(List Int×List bo)×Bool:=if jv d.2.2.2.length (chT d (s.1.set j f) j)=true then chR d apex x k (j+1) (s.1.set j f,s.2)else ((s.1.set j f,s.2),true)
theorem bp5{d:am}{apex x:Int}{k j:Nat}{s:List Int×List bo}:chR d apex x (k+1) j s=chL (chS d apex x k j) (ip d.2.1 apex (d.2.2.1.getD j 0)) s:=rfl
theorem ber{d:am}{apex x:Int}(l0:List Int):∀(k j:Nat)(s:List Int×List bo),(s.1.length=l0.length/\∀i:Nat,i<j->s.1.getD i 0=l0.getD i 0)->((chR d apex x k j s).1.1.length=l0.length/\∀i:Nat,i<j->(chR d apex x k j s).1.1.getD i 0=l0.getD i 0)
 |0,j,s,h=>h
 |k+1,j,s,h=>by
  rw[bp5];refine bkb (P:=fun s=>s.1.length=l0.length/\∀i:Nat,i<j->s.1.getD i 0=l0.getD i 0) (fun f s hs=>?_) _ s h;have hset:((s.1.set j f).length=l0.length/\∀i:Nat,i<j->(s.1.set j f).getD i 0=l0.getD i 0):=⟨by rw[a1m];exact hs.1,fun i hi=>by rw[a0l,a2v,ds (by omega),←a0l];exact hs.2 i hi⟩;unfold chS;split
  ·have ih:=ber (d:=d) (apex:=apex) (x:=x) (s.1.set j f) k (j+1) (s.1.set j f,s.2) ⟨rfl,fun i _=>rfl⟩;exact⟨by rw[ih.1];exact hset.1,fun i hi=>by rw[ih.2 i (by omega)];exact hset.2 i hi⟩
  ·exact hset
theorem bsk{d:am}{apex x:Int}:∀(k j:Nat)(s:List Int×List bo),s.2.length<=400->(chR d apex x k j s).2=true->(chR d apex x k j s).1.2.length<=400
 |0,j,s,h,ht=>by have ht:decide ((s.2.length:Int)+1<=400)=true:=ht;rw[a0w]at ht;show (s.2++[(x,s.1)]).length<=400;rw[a0m];simp only[a0h,a0i];omega
 |k+1,j,s,h,ht=>by
  rw[bp5]at ht⊢;refine bj1 (P:=fun s=>s.2.length<=400) (fun f s hs hst=>?_) _ s h ht;unfold chS at hst⊢;split
  ·rename_i e;rw[a0a e]at hst;exact bsk k (j+1) _ hs hst
  ·exact hs
structure LgP (sh:aa) (out:List bo) (list:List Int) (c:aa) (d:am) (j:Int):Prop where
 F:FunP d
 s:sh=d.1
 c:c=d.2.1
 l:(list.length:Int)=d.1.1
 j0:0<=j
 j1:j<=d.1.1
 o:out.length<=400
 r:∀i:Int,0<=i->i<j->0<=list.getD i.toNat 0/\list.getD i.toNat 0<d.2.1.2.1.length
def lgK:List V->List Nat
 |[.ad s _,.bx (.fn _ (.p (.ad o _) (.p (.ad x _) _))),.ad l _,.ad c _,.ad a _,.ad d _,_]=>[s,o,x,l,c,a,d]
 |_=>[]
def lgQ(s o x l c a d:Nat)(v:V):V:=.p (.ad s [.de]) (.p (.bx (.fn 83 (.p (.ad o [.de]) (.p (.ad x [.de]) .u)))) (.p (.ad l [.de]) (.p (.ad c [.de]) (.p (.ad a [.de]) (.p (.ad d [.de]) (.p v .u))))))
def lgS(s o x l c a d:Nat):Nat->V
 |0=>.d .any ()
 |n+1=>.fn 113 (lgQ s o x l c a d (.bx (lgS s o x l c a d n)))
def lgP(lv:Nat):List Nat->List V
 |[s,o,x,l,c,a,d]=>[.ad s [.de],.bx (.fn 83 (.p (.ad o [.de]) (.p (.ad x [.de]) .u))),.ad l [.de],.ad c [.de],.ad a [.de],.ad d [.de],.bx (lgS s o x l c a d lv)]
 |_=>[]
def auf:Nat->Sh
 |0=>.d .any
 |n+1=>.fc 113 (.pr (.ad 999900 [.de]) (.pr (.bx (.fc 83 (.pr (.ad 999901 [.de]) (.pr (.ad 999902 [.de]) .u)))) (.pr (.ad 999903 [.de]) (.pr (.ad 999904 [.de]) (.pr (.ad 999905 [.de]) (.pr (.ad 999906 [.de]) (.pr (.bx (auf n)) .u)))))))
def lgE:(n:Nat)->(auf n).den
 |0=>()
 |n+1=>((),(((),((),())),((),((),((),((),(lgE n,())))))))
def jd(lv n:Nat):Wz:=⟨false,[(.pt (.fz aeo)),bb8,as1,bxz,(.pt (.fz aeo)),as1,(.pt (.fz aao))],[bc],lgK,lgP lv,fun xs y=>[(xs.2.2.2.2.2.2.1.1.1-y.1).toNat<n,LgP xs.1 xs.2.1 xs.2.2.2.1 xs.2.2.2.2.1 xs.2.2.2.2.2.2.1 y.1],fun xs y=>(xs.1,(chR xs.2.2.2.2.2.2.1 xs.2.2.2.2.2.1 xs.2.2.1 (xs.2.2.2.2.2.2.1.1.1-y.1).toNat y.1.toNat (xs.2.2.2.1,xs.2.1)).1.2,xs.2.2.1,(chR xs.2.2.2.2.2.2.1 xs.2.2.2.2.2.1 xs.2.2.1 (xs.2.2.2.2.2.2.1.1.1-y.1).toNat y.1.toNat (xs.2.2.2.1,xs.2.1)).1.1,xs.2.2.2.2.1,xs.2.2.2.2.2.1,xs.2.2.2.2.2.2.1,()),fun xs y=>(chR xs.2.2.2.2.2.2.1 xs.2.2.2.2.2.1 xs.2.2.1 (xs.2.2.2.2.2.2.1.1.1-y.1).toNat y.1.toNat (xs.2.2.2.1,xs.2.1)).2⟩
def akn:Ct:=zCt (jd 9 9)
def aew(E:Type)(e:E)(n:Nat)(sh:aa)(out:List bo)(x:Int)(list:List Int)(c:aa)(apex:Int)(d:am)(j:Int)(K:(aa×List bo×Int×List Int×aa×Int×am×Unit)->Bool->Prop):Prop:=let u:=ip c apex (d.2.2.1.getD j.toNat 0);cnd (j==sh.1) (out.length<=1000/\list.length<=1000/\K (sh,out++(x,list)::([]:List ce5),x,list,c,apex,d,()) (decide ((out.length:Int)+1<=400))) (Ix j d.2.2.1.length<|c.2.1.length<=40/\c.2.2.1.length=c.2.1.length/\bn (S:=((Unit×(ce6×(Unit×(Unit×(Unit×(Unit×(E×(Int×Unit))))))))×cfb)) (fun a b=>let t:=a.1.2.2.2.2.2.2.2.1;let r:=a.2.2.2.2;let a2:=r.2.2.2.1;Iq t<|Oc a.2.1<|Oa adh a.2.2.1<|Iq a.2.2.2.1<|Ol r.1<|Oc r.2.1<|Iq r.2.2.1<|Of a2<|cnd (decide (t<(u.length:Int))) (dk (S:=((Unit×(ce6×(Unit×(Unit×(Unit×(Unit×(E×Unit)))))))×cfb)) (fun f=>let y:=f.2.2.2.2;Oc f.2.1<|Oa adh f.2.2.1<|Iq f.2.2.2.1<|Ol y.1<|Oc y.2.1<|Iq y.2.2.1<|Of y.2.2.2.1<|Ik (t+1)<|b (((),((),(),()),(),(),(),(),f.1.2.2.2.2.2.2.1,t+1,()),f.2.1,f.2.2.1,f.2.2.2.1,y.1,y.2.1,y.2.2.1,y.2.2.2.1,())) (fun g=>Ix t u.length<|Ix j r.1.length<|bn (S:=((Unit×(ce6×(Unit×(Unit×(Unit×(Unit×(E×(Int×Unit))))))))×cfb)) (fun h i=>let a7:=h.2.2.1;let a5:=h.2.1;let a0:=h.2.2.2.1;let z:=h.1.2.2.2.2.2.2;let p:=h.2.2.2.2;let a6:=p.2.1;let a3:=p.2.2.1;let v:=p.2.2.2.1;let a4:=Int.toNat (v.1.1-(j+1));let m:=z.2.1;let a1:=a2.2.2.2.getD m.toNat 0;let q:=a5.2.2.1.getD m.toNat 0;let o:=a5.2.1.getD m.toNat 0;let w:=p.1.getD o.toNat 0;let l:=chR v a3 a0 a4 (Int.toNat (j+1)) (p.1,a7);Iq m<|Oc a5<|Oa adh a7<|Iq a0<|Ol p.1<|Oc a6<|Iq a3<|Of v<|cnd (decide (m<(a2.2.2.2.length:Int))) (Ix m a2.2.2.2.length<|Ix m a5.2.1.length<|Ix m a5.2.2.1.length<|((mxR o q==j)=true->o<(p.1.length:Int)/\0<=o)/\((mxR o q==j)=true->w<(a6.2.2.2.2.length:Int)/\(Ix a1 (a6.2.2.2.2.getD w.toNat []).length<|0<=w))/\((mxR o q==j)=true->q<(p.1.length:Int)/\0<=q)/\cnd (mxR o q==j&&bi a6 w a1 != p.1.getD q.toNat 0) (g (((),((),(),()),(),(),(),(),z.1,()),a5,a7,a0,p.1,a6,a3,v,())) (Ik (m+1)<|i (((),((),(),()),(),(),(),(),z.1,m+1,()),a5,a7,a0,p.1,a6,a3,v,()))) (Ik (j+1)<|a4<n/\LgP a5 a7 p.1 a6 v (j+1)/\cnd (!l.2) (K (a5,l.1.2,a0,l.1.1,a6,a3,v,()) false) (g (((),((),(),()),(),(),(),(),z.1,()),a5,l.1.2,a0,l.1.1,a6,a3,v,())))) (((),((),(),()),(),(),(),(),a.1.2.2.2.2.2.2.1,0,()),a.2.1,a.2.2.1,a.2.2.2.1,List.set r.1 j.toNat (u.getD t.toNat 0),r.2.1,r.2.2.1,a2,()))) (K (a.2.1,a.2.2.1,a.2.2.2.1,r.1,r.2.1,r.2.2.1,a2,()) true)) (((),((),(),()),(),(),(),(),e,0,()),sh,out,x,list,c,apex,d,()))
def aqa(l:Nat):Ann:=(.s .n (.s .n (.s .n (.s (.s .n (.l [(1,(.ad 999900 [.de])),(2,(.bx (.fc 83 (.pr (.ad 999901 [.de]) (.pr (.ad 999902 [.de]) .u))))),(3,(.ad 999903 [.de])),(4,(.ad 999904 [.de])),(5,(.ad 999905 [.de])),(6,(.ad 999906 [.de])),(7,(.bx (auf l))),(36,(.d bc))] bqd [0,34,35] (.s .n (.s .n (.s (.j [(1,(.ad 999900 [.de])),(2,(.bx (.fc 83 (.pr (.ad 999901 [.de]) (.pr (.ad 999902 [.de]) .u))))),(3,(.ad 999903 [.de])),(4,(.ad 999904 [.de])),(5,(.ad 999905 [.de])),(6,(.ad 999906 [.de])),(7,(.bx (auf l)))] bqd [0,34,35,36] (.s .n (.s .n (.s (.s .n (.l [(1,(.ad 999900 [.de])),(2,(.bx (.fc 83 (.pr (.ad 999901 [.de]) (.pr (.ad 999902 [.de]) .u))))),(3,(.ad 999903 [.de])),(4,(.ad 999904 [.de])),(5,(.ad 999905 [.de])),(6,(.ad 999906 [.de])),(7,(.bx (auf l))),(49,(.d bc))] bqd [0,34,35,36,47,48] .n)) .n)))) .n))))) .n))))
abbrev pe(l:Nat):Wz:=jd (l+1) (l+1)
def bc5(l:Nat):Prop:=(∀ρ:Nat->Nat,(pe l).pat ((ln (len (pe l).os) z0).map ρ)=((pe l).pat (ln (len (pe l).os) z0)).map (aag ρ))/\x4 (pe l).as=(eq (len (pe l).as) (toL Tryz.f113.params)).map (fun q=>(tab.τ q).agg)/\zT (pe l) Tryz.f113 (kh Tryz.f113)=true/\∀xs y K,azw tab (lkp [(113,zCt (jd l l)),(84,jo),(46,je),(83,ad6)]) (tq [(3,512),(10,15),(11,17)]) Tryz.f113 (kh Tryz.f113) (aqa (l+1)) (pe l) xs y K=aew (auf (l+1)).den (lgE (l+1)) l xs.1 xs.2.1 xs.2.2.1 xs.2.2.2.1 xs.2.2.2.2.1 xs.2.2.2.2.2.1 xs.2.2.2.2.2.2.1 y.1 K
theorem bg6(E:Type)(e:E)(n:Nat)(sh:aa)(out:List bo)(x:Int)(list:List Int)(c:aa)(apex:Int)(d:am)(j:Int)(hok:ab (okZ (jd 1 (n+1)).os (sh,out,x,list,c,apex,d,())))(hok2:ab (okL (jd 1 (n+1)).as (j,())))(hpre:ab ((jd 1 (n+1)).pre (sh,out,x,list,c,apex,d,()) (j,()))):aew E e n sh out x list c apex d j (fun zs b=>zs=(jd 1 (n+1)).new (sh,out,x,list,c,apex,d,()) (j,())/\b=(jd 1 (n+1)).res (sh,out,x,list,c,apex,d,()) (j,())):=by
 simp only[jd,okZ,O.strip,okL,T.oks,T.ok,ap,ab,a0f,a0c,a0g]at hok hok2 hpre
 try dsimp only[T.den]at hok
 try dsimp only[T.den]at hok2
 try dsimp only[T.den]at hpre
 delta aew Ik Iq Ix Oa Oc Of Ol Om
 dsimp -proj -eta only;obtain⟨hmu,F,rfl,rfl,hl,j0,j1,ho,hr⟩:=hpre;have hmu:(d.1.1-j).toNat<n+1:=hmu;clear hok hok2;have S:=F.tgt;have C:=F.src;have cob:=C.ob;have cm:=C.m;have clt:=C.lt;have sm:=S.m;have slc:=S.lc;have hlo:=F.fit.lo;have hla:=F.fit.la;have haw:=ep.1 F.fit.aw;refine ba (fun he=>?_) (fun he=>?_)
 ·have he:j=d.1.1:=by simpa using he
  have hk:(d.1.1-j).toNat=0:=by omega
  refine⟨by omega,by omega,?_⟩;show _=(d.1,(chR d apex x (d.1.1-j).toNat j.toNat (list,out)).1.2,x,(chR d apex x (d.1.1-j).toNat j.toNat (list,out)).1.1,d.2.1,apex,d,())/\_=(chR d apex x (d.1.1-j).toNat j.toNat (list,out)).2;rw[hk];exact⟨rfl,rfl⟩
 have he:¬j=d.1.1:=by simpa using he
 obtain⟨k,hk⟩:∃k,(d.1.1-j).toNat=k+1:=⟨(d.1.1-j).toNat-1,by omega⟩;refine⟨j0,by omega,sm,S.lt,?_⟩;have hres:∀zs b,zs=(d.1,(chR d apex x (k+1) j.toNat (list,out)).1.2,x,(chR d apex x (k+1) j.toNat (list,out)).1.1,d.2.1,apex,d,())->b=(chR d apex x (k+1) j.toNat (list,out)).2->(zs=(jd 1 (n+1)).new (d.1,out,x,list,d.2.1,apex,d,()) (j,())/\b=(jd 1 (n+1)).res (d.1,out,x,list,d.2.1,apex,d,()) (j,())):=fun zs b h1 h2=>by show zs=(d.1,(chR d apex x (d.1.1-j).toNat j.toNat (list,out)).1.2,x,(chR d apex x (d.1.1-j).toNat j.toNat (list,out)).1.1,d.2.1,apex,d,())/\b=(chR d apex x (d.1.1-j).toNat j.toNat (list,out)).2;rw[hk];exact⟨h1,h2⟩
 rw[bp5]at hres;have hmem:=fun i:Int=>@avl d.2.1 apex (d.2.2.1.getD j.toNat 0) i;have hHl:=@abg (fun f=>d.2.1.2.1.getD f.toNat 0==apex&&d.2.1.2.2.1.getD f.toNat 0==d.2.2.1.getD j.toNat 0) d.2.1.2.1.length;have hH0:ip d.2.1 apex (d.2.2.1.getD j.toNat 0)=mc d.2.1.2.1.length fun f=>d.2.1.2.1.getD f.toNat 0==apex&&d.2.1.2.2.1.getD f.toNat 0==d.2.2.1.getD j.toNat 0:=rfl;rw[←hH0]at hHl;generalize ip d.2.1 apex (d.2.2.1.getD j.toNat 0)=H at *;refine bq (fun (s:((Unit×(ce6×(Unit×(Unit×(Unit×(Unit×(E×(Int×Unit))))))))×cfb))=>0<=s.1.2.2.2.2.2.2.2.1/\s.1.2.2.2.2.2.2.2.1<=H.length/\chL (chS d apex x k j.toNat) H (list,out)=chL (chS d apex x k j.toNat) (H.drop s.1.2.2.2.2.2.2.2.1.toNat) (s.2.2.2.2.1,s.2.2.1)/\(s.2.2.2.2.1.length:Int)=d.1.1/\s.2.2.1.length<=400/\(∀i:Int,0<=i->i<j->0<=s.2.2.2.2.1.getD i.toNat 0/\s.2.2.2.2.1.getD i.toNat 0<d.2.1.2.1.length)/\s.2.1=d.1/\s.2.2.2.1=x/\s.2.2.2.2.2=(d.2.1,apex,d,())) (fun (s:((Unit×(ce6×(Unit×(Unit×(Unit×(Unit×(E×(Int×Unit))))))))×cfb))=>(H.length-s.1.2.2.2.2.2.2.2.1).toNat) ?_ ⟨by simp,by simp,rfl,hl,ho,hr,rfl,rfl,rfl⟩;rintro⟨⟨_,_,_,_,_,_,e1,i,_⟩,sh1,o1,x1,l1,c1,a1,d1,_⟩ next ⟨i0,i1,hch,hl1,ho1,hr1,q1,q2,q3⟩ hnx
 intros
 try dsimp only at i0 i1 hch hl1 ho1 hr1 q1 q2 q3 hnx⊢
 simp only[a0n,a0c]at q3;obtain⟨q3,q4,q5⟩:=q3;subst q1;subst q2;subst q3;subst q4;subst q5;refine bd (fun hi=>?_) (fun hi=>?_)
 ·have hf:=hmem i i0 hi;have hdrop:H.drop i.toNat=H.getD i.toNat 0::H.drop (i.toNat+1):=by rw[a3y (by omega),a0l,a0p (by omega)];rfl
  rw[hdrop,chL]at hch;generalize H.getD i.toNat 0=f at *;have hle:((l1.set j.toNat f).length:Int)=d1.1.1:=by rw[a1m];exact hl1
  have hset:∀u:Int,0<=u->u<=j->0<=(l1.set j.toNat f).getD u.toNat 0/\(l1.set j.toNat f).getD u.toNat 0<d1.2.1.2.1.length:=fun u u0 u1=>by
   by_cases e:u=j
   ·subst e;rw[auk u0 (by omega)];exact⟨hf.1,hf.2.1⟩
   ·rw[bd7 j0 u0 e];exact hr1 u u0 (by omega)
  refine cz (fun (q:((Unit×(ce6×(Unit×(Unit×(Unit×(Unit×(E×Unit)))))))×cfb))=>chL (chS d1 a1 x1 k j.toNat) H (list,out)=chL (chS d1 a1 x1 k j.toNat) (H.drop (i+1).toNat) (q.2.2.2.2.1,q.2.2.1)/\(q.2.2.2.2.1.length:Int)=d1.1.1/\q.2.2.1.length<=400/\(∀i:Int,0<=i->i<j->0<=q.2.2.2.2.1.getD i.toNat 0/\q.2.2.2.2.1.getD i.toNat 0<d1.2.1.2.1.length)/\q.2.1=d1.1/\q.2.2.2.1=x1/\q.2.2.2.2.2=(d1.2.1,a1,d1,())) ?_ ?_
  ·rintro⟨⟨_,_,_,_,_,_,e2,_⟩,sh2,o2,x2,l2,c2,a2,d2,_⟩ hq;intros
   try dsimp only at hq⊢
   exact⟨by rw[au];(try dsimp only);omega,hnx _ ⟨by dsimp only;omega,by dsimp only;omega,hq.1,hq.2.1,hq.2.2.1,hq.2.2.2.1,hq.2.2.2.2.1,hq.2.2.2.2.2.1,hq.2.2.2.2.2.2⟩ (by dsimp only;omega)⟩
  ·intro kk hkk;have hdn:(i+1).toNat=i.toNat+1:=by omega
   rw[hdn]at hkk;refine⟨i0,hi,j0,by omega,?_⟩;refine bq (fun (s:((Unit×(ce6×(Unit×(Unit×(Unit×(Unit×(E×(Int×Unit))))))))×cfb))=>0<=s.1.2.2.2.2.2.2.2.1/\s.1.2.2.2.2.2.2.2.1<=d1.2.2.2.length/\jv s.1.2.2.2.2.2.2.2.1.toNat (chT d1 (l1.set j.toNat f) j)=true/\s.2=(d1.1,o1,x1,l1.set j.toNat f,d1.2.1,a1,d1,())) (fun (s:((Unit×(ce6×(Unit×(Unit×(Unit×(Unit×(E×(Int×Unit))))))))×cfb))=>(d1.2.2.2.length-s.1.2.2.2.2.2.2.2.1).toNat) ?_ ⟨by simp,by simp,rfl,rfl⟩;rintro⟨⟨_,_,_,_,_,_,e2,a,_⟩,sh2,o2,x2,l2,c2,a2,d2,_⟩ next1 ⟨a0,a1',hb,hq⟩ hn1;intros
   try dsimp only at a0 a1' hb hq hn1⊢
   simp only[a0n,a0c]at hq;obtain⟨q1,q2,q3,q4,q5,q6,q7⟩:=hq;subst q1;subst q2;subst q3;subst q4;subst q5;subst q6;subst q7;refine bd (fun ha=>?_) (fun ha=>?_)
   ·have fr:=C.frm a0 (by omega);have hw:=haw a a0 ha;have hchT:chT d2 (l1.set j.toNat f) j a=(!(mxR (d2.1.2.1.getD a.toNat 0) (d2.1.2.2.1.getD a.toNat 0)==j)||bi d2.2.1 ((l1.set j.toNat f).getD (d2.1.2.1.getD a.toNat 0).toNat 0) (d2.2.2.2.getD a.toNat 0)==(l1.set j.toNat f).getD (d2.1.2.2.1.getD a.toNat 0).toNat 0):=by unfold chT;rw[byb];rfl
    have bnd:(mxR (d2.1.2.1.getD a.toNat 0) (d2.1.2.2.1.getD a.toNat 0)==j)=true->d2.1.2.1.getD a.toNat 0<=j/\d2.1.2.2.1.getD a.toNat 0<=j:=fun h=>by
     have h:mxR (d2.1.2.1.getD a.toNat 0) (d2.1.2.2.1.getD a.toNat 0)=j:=by simpa using h
     rw[byb]at h;omega
    refine⟨a0,ha,a0,by omega,a0,by omega,fun h=>⟨by have:=bnd h;omega,fr.1⟩,fun h=>?_,fun h=>⟨by have:=bnd h;omega,fr.2.2.1⟩,?_⟩
    ·have hu:=hset _ fr.1 (bnd h).1;refine⟨by omega,hw.1,?_,hu.1⟩;rw[S.row _ hu.1 hu.2];exact hw.2
    ·refine ba (fun hx=>?_) (fun hx=>⟨by rw[au];(try dsimp only);omega,hn1 _ ⟨by dsimp only;omega,by dsimp only;omega,?_,rfl⟩ (by dsimp only;omega)⟩)
     ·refine hkk _ ⟨?_,hle,ho1,fun u u0 u1=>hset u u0 (by omega),rfl,rfl,rfl⟩;have hstep:chS d2 a2 x2 k j.toNat f (l1,o2)=((l1.set j.toNat f,o2),true):=by unfold chS;rw[ds];rw[a5f j0,ov];intro hall;have:=hall a a0 ha;rw[hchT]at this;simp only[a0b]at hx;rw[hx.1,a3n,a37]at this;have h2:=hx.2;rw[bne,this]at h2;cases h2
      rw[hch,hstep,a0a rfl]
     ·try dsimp only
      rw[atl a0,hb,a1v,hchT];revert hx;generalize (mxR (d2.1.2.1.getD a.toNat 0) (d2.1.2.2.1.getD a.toNat 0)==j)=b1;intro hx
      cases b1 with
      |false=>rfl
      |true=>rw[a1v,bne,a2t]at hx;rw[hx];rfl
   ·have ea:a.toNat=d2.2.2.2.length:=by omega
    rw[ea]at hb;have hstep:chS d2 a2 x2 k j.toNat f (l1,o2)=chR d2 a2 x2 k (j+1).toNat (l1.set j.toNat f,o2):=by unfold chS;rw[a0a (by rw[a5f j0];exact hb),show (j+1).toNat=j.toNat+1 by omega]
    have hk2:(d2.1.1-(j+1)).toNat=k:=by omega
    rw[hstep]at hch;have hkeep:=ber (d:=d2) (apex:=a2) (x:=x2) (l1.set j.toNat f) k (j+1).toNat (l1.set j.toNat f,o2) ⟨rfl,fun _ _=>rfl⟩;have hlen:=bsk (d:=d2) (apex:=a2) (x:=x2) k (j+1).toNat (l1.set j.toNat f,o2) ho1;rw[hk2];refine⟨by rw[au];(try dsimp only);omega,by omega,⟨F,rfl,rfl,hle,by omega,by omega,ho1,fun u u0 u1=>hset u u0 (by omega)⟩,ba (fun hx=>?_) (fun hx=>?_)⟩
    ·have hx:(chR d2 a2 x2 k (j+1).toNat (l1.set j.toNat f,o2)).2=false:=by simpa using hx
     rw[ds (by rw[hx];decide)]at hch;exact hres _ _ (by rw[hch]) (by rw[hch])
    ·have hx:(chR d2 a2 x2 k (j+1).toNat (l1.set j.toNat f,o2)).2=true:=by simpa using hx
     rw[a0a hx]at hch;refine hkk _ ⟨hch,by rw[hkeep.1];exact hle,hlen hx,fun u u0 u1=>?_,rfl,rfl,rfl⟩
     try dsimp only
     rw[hkeep.2 u.toNat (by omega)];exact hset u u0 (by omega)
 ·have ei:i.toNat=H.length:=by omega
  rw[ei,List.drop_length,chL]at hch;exact hres _ _ (by rw[hch]) (by rw[hch])
theorem ay0:bw Tryz.prog 113 (zCt (jd 0 0)):=cb1 (t6 (fn:=Tryz.f113) (c:=kh Tryz.f113) (by kernel_rfl) (by kernel_rfl) (by kernel_rfl)) (fun xs y h=>a45 _ h.1)
theorem pk(l:Nat)(ih:bw Tryz.prog 113 (zCt (jd l l)))(h:bc5 l):bw Tryz.prog 113 (zCt (jd (l+1) (l+1))):=cd0 (Φ:=lkp [(113,zCt (jd l l)),(84,jo),(46,je),(83,ad6)]) (ae ih (ae zx (ae qk (ae aus az)))) bg (by kernel_rfl) (fn:=Tryz.f113) (c:=kh Tryz.f113) (by kernel_rfl) (by kernel_rfl) (by kernel_rfl) (pe l) (aqa (l+1)) (tq [(3,512),(10,15),(11,17)]) h.1 h.2.1 (by kernel_rfl) h.2.2.1 (fun xs y K=>aew (auf (l+1)).den (lgE (l+1)) l xs.1 xs.2.1 xs.2.2.1 xs.2.2.2.1 xs.2.2.2.2.1 xs.2.2.2.2.2.1 xs.2.2.2.2.2.2.1 y.1 K) h.2.2.2 (fun xs y h1 h2 h3=>bg6 (auf (l+1)).den (lgE (l+1)) l xs.1 xs.2.1 xs.2.2.1 xs.2.2.2.1 xs.2.2.2.2.1 xs.2.2.2.2.2.1 xs.2.2.2.2.2.2.1 y.1 h1 h2 h3)
theorem bcw:bw Tryz.prog 113 akn:=pk 8 (pk 7 (pk 6 (pk 5 (pk 4 (pk 3 (pk 2 (pk 1 (pk 0 ay0 ⟨fun ρ=>by kernel_rfl,by kernel_rfl,by kernel_rfl,fun xs y K=>by kernel_rfl⟩) ⟨fun ρ=>by kernel_rfl,by kernel_rfl,by kernel_rfl,fun xs y K=>by kernel_rfl⟩) ⟨fun ρ=>by kernel_rfl,by kernel_rfl,by kernel_rfl,fun xs y K=>by kernel_rfl⟩) ⟨fun ρ=>by kernel_rfl,by kernel_rfl,by kernel_rfl,fun xs y K=>by kernel_rfl⟩) ⟨fun ρ=>by kernel_rfl,by kernel_rfl,by kernel_rfl,fun xs y K=>by kernel_rfl⟩) ⟨fun ρ=>by kernel_rfl,by kernel_rfl,by kernel_rfl,fun xs y K=>by kernel_rfl⟩) ⟨fun ρ=>by kernel_rfl,by kernel_rfl,by kernel_rfl,fun xs y K=>by kernel_rfl⟩) ⟨fun ρ=>by kernel_rfl,by kernel_rfl,by kernel_rfl,fun xs y K=>by kernel_rfl⟩) ⟨fun ρ=>by kernel_rfl,by kernel_rfl,by kernel_rfl,fun xs y K=>by kernel_rfl⟩
def lfK:List V->List Nat
 |[.fn _ (.p (.ad o _) (.p (.ad x _) _))]=>[o,x]
 |_=>[]
def lfP:List Nat->List V
 |[o,x]=>[.fn 83 (.p (.ad o [.de]) (.p (.ad x [.de]) .u))]
 |_=>[]
theorem bj5{l:List Int}{j:Nat}(h:j<l.length)(f:Int):(l.set j f).take (j+1)=l.take j++[f]:=by rw[List.take_add_one,List.take_set_of_le (a0k _),a2v,a0a rfl,a0a h];rfl
theorem bvx{l:List Int}{j i:Nat}(h:i<j):(l.take j).getD i 0=l.getD i 0:=by rw[a0l,a1d,a0a h,←a0l]
theorem ccg{d:am}(F:FunP d){l:List Int}{j:Nat}(h:j<l.length)(f:Int):jv d.2.2.2.length (chT d (l.set j f) j)=lgT d (l.take j) f:=by
 have hla:=F.fit.la;have hset:∀u:Int,0<=u->u<=j->(l.set j f).getD u.toNat 0=(l.take j++[f]).getD u.toNat 0:=fun u u0 u1=>by rw[←bj5 h,bvx (by omega)]
 have hlen:(l.take j++[f]).length=j+1:=by rw[a0m,a03];simp only[a0h,a0i];omega
 unfold lgT;rw[a3j,ov,ov]
 have key:∀a:Int,0<=a->a<d.2.2.2.length->chT d (l.set j f) j a=lgA d (l.take j++[f]) a:=fun a a0 a1=>by
  have fr:=F.src.frm a0 (by omega);unfold chT lgA;rw[hlen,show ((j+1:Nat):Int)-1=(j:Int) by omega];by_cases e:max (d.1.2.1.getD a.toNat 0) (d.1.2.2.1.getD a.toNat 0)=(j:Int)
  ·rw[hset _ fr.1 (by omega),hset _ fr.2.2.1 (by omega)]
  ·rw[a21 e];rfl
 exact⟨fun q a a0 a1=>by rw[←key a a0 a1];exact q a a0 a1,fun q a a0 a1=>by rw[key a a0 a1];exact q a a0 a1⟩
def lgF(d:am)(apex:Int)(k:Nat)(pre H:List Int):List (List Int):=(H.filter (lgT d pre)).flatMap fun h=>v7 d apex k (pre++[h])
theorem bsq{l0 l:List Int}{j:Nat}(hl:l.length=l0.length)(h:∀i:Nat,i<j->l.getD i 0=l0.getD i 0):l.take j=l0.take j:=by
 apply a2o;intro i;rw[a1d,a1d];split
 ·rename_i hi;by_cases hk:i<l.length
  ·have:=h i hi;rw[a0l,a0l,a0p hk,a0p (by omega)]at this;rw[a0p hk,a0p (by omega)];simpa using this
  ·rw[a12 (by omega),a12 (by omega)]
 ·rfl
theorem bt1{d:am}{apex x:Int}(F:FunP d):∀(k j:Nat)(s:List Int×List bo),s.1.length=j+k->s.2.length<=400->
  (s.2.length+(v7 d apex k (s.1.take j)).length<=400->(chR d apex x k j s).2=true/\(chR d apex x k j s).1.2=s.2++(v7 d apex k (s.1.take j)).map fun l=>(x,l))/\
  (¬s.2.length+(v7 d apex k (s.1.take j)).length<=400->(chR d apex x k j s).2=false)
 |0,j,s,hl,ho=>by
  have hs:s.1.take j=s.1:=a1c (by omega);rw[hs];refine⟨fun h=>⟨?_,rfl⟩,fun h=>?_⟩
  ·have h:s.2.length+1<=400:=h;show decide ((s.2.length:Int)+1<=400)=true;rw[a0w];omega
  ·have h:¬s.2.length+1<=400:=h;show decide ((s.2.length:Int)+1<=400)=false;rw[a1o];omega
 |k+1,j,s,hl,ho=>by
  have hpl:(s.1.take j).length=j:=by rw[a03];omega
  have hlg:v7 d apex (k+1) (s.1.take j)=lgF d apex k (s.1.take j) (ip d.2.1 apex (d.2.2.1.getD j 0)):=by rw[bqh,hpl];rfl
  rw[hlg,bp5];generalize ip d.2.1 apex (d.2.2.1.getD j 0)=H;generalize hpre:s.1.take j=pre at hpl;clear hlg
  induction H generalizing s with
  |nil=>
   refine⟨fun _=>⟨rfl,?_⟩,fun h=>?_⟩
   ·show s.2=s.2++[];rw[a2e]
   ·exact absurd ho (by simpa[lgF]using h)
  |cons f r ih=>
   have hj:j<s.1.length:=by omega
   rw[chL];have ht:=ccg F hj f;rw[hpre]at ht;have hsl:(s.1.set j f).length=j+(k+1):=by rw[a1m];exact hl
   have hst:(s.1.set j f).take j=pre:=by rw[←hpre,List.take_set_of_le (a0k _)]
   cases hb:lgT d pre f with
   |false=>
    have hstep:chS d apex x k j f s=((s.1.set j f,s.2),true):=by unfold chS;rw[ht,hb,ds (by decide)]
    have hF:lgF d apex k pre (f::r)=lgF d apex k pre r:=by unfold lgF;rw[a2r,hb,ds (by decide)]
    rw[hstep,a0a rfl,hF];exact ih (s.1.set j f,s.2) hsl ho hst
   |true=>
    have hstep:chS d apex x k j f s=chR d apex x k (j+1) (s.1.set j f,s.2):=by unfold chS;rw[ht,hb,a0a rfl]
    have hF:lgF d apex k pre (f::r)=v7 d apex k (pre++[f])++lgF d apex k pre r:=by unfold lgF;rw[a2r,hb,a0a rfl,List.flatMap_cons]
    have hlaw:=bt1 F (apex:=apex) (x:=x) k (j+1) (s.1.set j f,s.2) (by dsimp only;omega) ho;dsimp only at hlaw;rw[bj5 hj,hpre]at hlaw;rw[hstep,hF];by_cases hA:s.2.length+(v7 d apex k (pre++[f])).length<=400
    ·obtain⟨e1,e2⟩:=hlaw.1 hA;rw[a0a e1];have hkeep:=ber (d:=d) (apex:=apex) (x:=x) (s.1.set j f) k (j+1) (s.1.set j f,s.2) ⟨rfl,fun _ _=>rfl⟩;have hlen:(chR d apex x k (j+1) (s.1.set j f,s.2)).1.2.length=s.2.length+(v7 d apex k (pre++[f])).length:=by rw[e2,a0m,a00]
     have:=ih (chR d apex x k (j+1) (s.1.set j f,s.2)).1 (by rw[hkeep.1];exact hsl) (by omega) (by rw[bsq hkeep.1 fun i hi=>hkeep.2 i (by omega)];exact hst);rw[hlen]at this;rw[a0m,←a22];refine⟨fun h=>?_,this.2⟩;obtain⟨g1,g2⟩:=this.1 h;exact⟨g1,by rw[g2,e2,a2m,a01]⟩
    ·have e:=hlaw.2 hA;rw[ds (by rw[e];decide)];exact⟨fun h=>absurd h (by rw[a0m];omega),fun _=>rfl⟩
def oi:Wz:=⟨false,[bb8,as1],[aao,bc],lfK,lfP,fun xs y=>[FunP y.1,xs.1.length<=400],fun xs y=>((chR y.1 y.2.1 xs.2.1 y.1.1.1.toNat 0 (List.replicate y.1.1.1.toNat 0,xs.1)).1.2,xs.2.1,()),fun xs y=>(chR y.1 y.2.1 xs.2.1 y.1.1.1.toNat 0 (List.replicate y.1.1.1.toNat 0,xs.1)).2⟩
def axf:Ct:=zCt oi
def ai0(out:List bo)(x:Int)(d:am)(apex:Int)(K:(List bo×Int×Unit)->Bool->Prop):Prop:=let b:=d.2.2.1.length;let a:=List.replicate (Int.toNat (b:Int)) (0:Int);let c:=chR d apex x (Int.toNat (d.1.1-0)) 0 (a,out);0<=(b:Int)/\(b:Int)<=(b:Int)/\(b:Int)<=((140737488355328:Nat):Int)/\(b:Int)*((8:Nat):Int)<=((140737488355328:Nat):Int)/\Int.toNat (d.1.1-0)<9/\LgP d.1 out a d.2.1 d 0/\K (c.1.2,x,()) c.2
theorem bmf(xs:nr oi.os)(y:db oi.as)(K:(List bo×Int×Unit)->Bool->Prop):azw tab (lkp [(113,akn)]) (tq [(1,45008)]) Tryz.f82 (kh Tryz.f82) .n oi xs y K=ai0 xs.1 xs.2.1 y.1 y.2.1 K:=by kernel_rfl
theorem bml(out:List bo)(x:Int)(d:am)(apex:Int)(hok:ab (okZ oi.os (out,x,())))(hok2:ab (okL oi.as (d,apex,())))(hpre:ab (oi.pre (out,x,()) (d,apex,()))):ai0 out x d apex (fun zs b=>zs=oi.new (out,x,()) (d,apex,())/\b=oi.res (out,x,()) (d,apex,())):=by
 simp only[oi,okZ,O.strip,okL,T.oks,T.ok,ap,ab,a0f,a0c,a0g]at hok hok2 hpre
 try dsimp only[T.den]at hok
 try dsimp only[T.den]at hok2
 try dsimp only[T.den]at hpre
 delta ai0
 dsimp -proj -eta only;obtain⟨F,ho⟩:=hpre;have cob:=F.src.ob;have hlo:=F.fit.lo;refine⟨by omega,by omega,by omega,by omega,by omega,⟨F,rfl,rfl,by rw[a05];omega,a02 _,cob.1,ho,fun i i0 i1=>by omega⟩,?_⟩;rw[show (d.1.1-0).toNat=d.1.1.toNat by omega,show ((d.2.2.1.length:Nat):Int).toNat=d.1.1.toNat by omega];exact⟨rfl,rfl⟩
theorem biw:bw Tryz.prog 82 axf:=bwo (Φ:=lkp [(113,akn)]) (ae bcw az) bg (by kernel_rfl) (fn:=Tryz.f82) (c:=kh Tryz.f82) (by kernel_rfl) (by kernel_rfl) (by kernel_rfl) oi .n (tq [(1,45008)]) (fun ρ=>by kernel_rfl) (by kernel_rfl) (by kernel_rfl) (by kernel_rfl) (by kernel_rfl) (by kernel_rfl) (by kernel_rfl) (a08 rfl) (by kernel_rfl) (fun xs y K=>ai0 xs.1 xs.2.1 y.1 y.2.1 K) (bmf) (fun xs y h1 h2 h3=>bml xs.1 xs.2.1 y.1 y.2.1 h1 h2 h3)
def wx(d:am):Bool:=decide ((jb d).length<=400)
def acR(d:am):List bo:=if (jb d).length<=400 then jb d else []
theorem bss{α:Type}(L:List Int)(g:Int->List α)(n:Nat):(L.flatMap g).length=((L.take n).flatMap g).length+((L.drop n).flatMap g).length:=by
 conv=>lhs;rw[←a1x n L]
 rw[List.flatMap_append,a0m]
def py:Ct:=⟨[aao],[false],fun x=>[d5 x.1=true],[(false,bql),(false,kf)],fun x=>(acR x.1,wx x.1,()),false,none⟩
def ayd:Ann:=(.s .n (.s .n (.s (.s .n (.l [(4,(.ad 4 [.de])),(5,(.ad 5 [.de]))] [(4,bb8),(5,as1)] [0] .n)) .n)))
def bw1:FuncId->Option Ct:=lkp [(82,axf),(75,wj)]
def ag7(d:am)(K:(List bo)×Bool×Unit->Prop):Prop:=bn (S:=cf6) (fun a b=>let e:=a.2.2.1;let c:=chR d e e d.1.1.toNat 0 (List.replicate d.1.1.toNat (0:Int),a.2.1);Oa adh a.2.1<|Iq e<|cnd (decide (e<d.2.1.1)) (FunP d/\a.2.1.length<=400/\cnd (!c.2) (K (([]:List ce5),false,())) (Ik (e+1)<|b (((),(),()),c.1.2,e+1,()))) (K (a.2.1,true,()))) (((),(),()),([]:List ce5),0,())
theorem bab(d:am)(hok:ab (okL py.args (d,())))(hpre:ab (py.pre (d,()))):ag7 d (fun r=>r=py.res (d,())):=by
 simp only[py,okL,T.oks,T.ok,ap,ab,a0f,a0c,a0g]at hok hpre
 try dsimp only[T.den]at hok hpre
 delta ag7 Ik Iq Oa
 dsimp -proj -eta only;have hf:d5 d=true:=hpre;have F:=alc hf;have tob:=F.tgt.ob;have cob:=F.src.ob;have hres:(py).res (d,())=(acR d,wx d,()):=rfl;rw[hres];have hA:jb d=(bh d.2.1.1.toNat fun x=>x).flatMap (ag3 d):=rfl;unfold acR wx;rw[hA];generalize hX:(bh d.2.1.1.toNat fun x=>x)=X;have hXl:(X.length:Int)=d.2.1.1:=by rw[←hX,bj];omega
 have hXg:∀y:Int,0<=y->y<d.2.1.1->X.getD y.toNat 0=y:=fun y y0 y1=>by rw[←hX];exact d6 y0 (by omega)
 clear hok hX;refine bq (fun (s:cf6)=>0<=s.2.2.1/\s.2.2.1<=d.2.1.1/\s.2.1=(X.take s.2.2.1.toNat).flatMap (ag3 d)/\s.2.1.length<=400) (fun (s:cf6)=>(d.2.1.1-s.2.2.1).toNat) ?_ ⟨by simp,tob.1,rfl,by simp⟩;rintro⟨_,out,x,_⟩ next ⟨x0,x1,hq,hl⟩ hnx
 intros
 try dsimp only at x0 x1 hq hl hnx⊢
 refine bd (fun hx=>?_) (fun hx=>?_)
 ·have hlaw:=bt1 F (apex:=x) (x:=x) d.1.1.toNat 0 (List.replicate d.1.1.toNat 0,out) (by rw[a05];omega) hl;rw[a4s]at hlaw
  try dsimp only at hlaw
  have hat:(ag3 d x).length=(v7 d x d.1.1.toNat []).length:=by unfold ag3;rw[a00]
  have hnext:(X.take (x+1).toNat).flatMap (ag3 d)=out++ag3 d x:=by rw[mm X 0 x0 (by omega),List.flatMap_append,←hq,hXg x x0 hx];simp
  refine⟨F,hl,ba (fun h=>?_) (fun h=>?_)⟩
  ·have h:(chR d x x d.1.1.toNat 0 (List.replicate d.1.1.toNat 0,out)).2=false:=by simpa using h
   have hb:¬out.length+(v7 d x d.1.1.toNat []).length<=400:=fun hb=>by rw[(hlaw.1 hb).1]at h;cases h
   have hbig:¬(X.flatMap (ag3 d)).length<=400:=by rw[bss X (ag3 d) (x+1).toNat,hnext,a0m,hat];omega
   rw[ds hbig,a21 hbig]
  ·have h:(chR d x x d.1.1.toNat 0 (List.replicate d.1.1.toNat 0,out)).2=true:=by simpa using h
   have hb:out.length+(v7 d x d.1.1.toNat []).length<=400:=a4c fun hb=>by rw[hlaw.2 hb]at h;cases h
   obtain⟨_,e2⟩:=hlaw.1 hb;refine⟨by rw[au];(try dsimp only);omega,hnx _ ⟨by dsimp only;omega,by dsimp only;omega,?_,?_⟩ (by dsimp only;omega)⟩
   ·try dsimp only
    rw[hnext,e2];rfl
   ·try dsimp only
    rw[e2,a0m,a00];omega
 ·have hfull:(X.take x.toNat).flatMap (ag3 d)=X.flatMap (ag3 d):=by rw[a1c (by omega)]
  rw[hfull]at hq;subst hq;rw[a0a hl,a1p hl]
theorem afd:bw Tryz.prog 40 py:=ctb (ae biw (ae as5 az)) bg 40 Tryz.f40 py ayd [(3,6)] (fun x K=>ag7 x.1 K) (fun x h1 h2=>bab x.1 h1 h2)
def sc:Ct:=⟨[bji],[true],fun x=>[],[(false,(.fz aao))],fun x=>(x.1,()),true,none⟩
def zz(s:T.den bji)(K:am×Unit->Prop):Prop:=K (s,())
theorem aro(s:T.den bji)(hok:ab (okL sc.args (s,())))(hpre:ab (sc.pre (s,()))):zz s (fun r=>r=sc.res (s,())):=by
 simp only[sc,okL,T.oks,T.ok,ap,ab,a0f,a0c,a0g]at hok hpre
 try dsimp only[T.den]at hok hpre
 unfold zz;rfl
theorem aqi:bw Tryz.prog 176 sc:=ctb az bg 176 Tryz.f176 sc .n [] (fun x K=>zz x.1 K) (fun x h1 h2=>aro x.1 h1 h2)
def apl(d:am):List bo×Int:=if wx d=true then (acR d,0)else ([],3)
def vy:Ct:=⟨[(.ib 122 aao)],[false],fun x=>[d5 x.1=true],[(false,bql),(false,kg)],fun x=>((apl x.1).1,(apl x.1).2,()),false,none⟩
def byr:FuncId->Option Ct:=lkp [(40,py),(176,sc)]
def ahf(s:am)(K:(List bo)×Int×Unit->Prop):Prop:=d5 s=true/\cnd (!wx s) (K (([]:List ce5),3,())) (K (acR s,0,()))
theorem bdt(s:am)(hok:ab (okL vy.args (s,())))(hpre:ab (vy.pre (s,()))):ahf s (fun r=>r=vy.res (s,())):=by
 simp only[vy,okL,T.oks,T.ok,ap,ab,a0f,a0c,a0g]at hok hpre
 try dsimp only[T.den]at hok hpre
 unfold ahf;have hf:d5 s=true:=hpre;have hres:(vy).res (s,())=((apl s).1,(apl s).2,()):=rfl;rw[hres];refine⟨hf,ba (fun h=>?_) (fun h=>?_)⟩
 ·have h:¬wx s=true:=by simpa using h
  simp only[apl,ds h]
 ·have h:wx s=true:=by simpa using h
  simp only[apl,a0a h]
theorem bci:bw Tryz.prog 54 vy:=ctb (ae afd (ae aqi az)) bg 54 Tryz.f54 vy .n [] (fun x K=>ahf x.1 K) (fun x h1 h2=>bdt x.1 h1 h2)
def zk:Ct:=⟨[aao],[false],fun x=>[],[(false,(.fz (.ib 122 aao)))],fun x=>(x.1,()),true,none⟩
def ah3(d:am)(K:am×Unit->Prop):Prop:=K (d,())
theorem bdg(d:am)(hok:ab (okL zk.args (d,())))(hpre:ab (zk.pre (d,()))):ah3 d (fun r=>r=zk.res (d,())):=by
 simp only[zk,okL,T.oks,T.ok,ap,ab,a0f,a0c,a0g]at hok hpre
 try dsimp only[T.den]at hok hpre
 unfold ah3;rfl
theorem bbv:bw Tryz.prog 55 zk:=ctb az bg 55 Tryz.f55 zk .n [] (fun x K=>ah3 x.1 K) (fun x h1 h2=>bdg x.1 h1 h2)
def aes(d:am):List bo×Int:=if d5 d=true then apl d else ([],1)
def ur:Ct:=⟨[jq],[true],fun x=>[],[(false,(.fz adh)),(false,kg)],fun x=>((aes x.1).1,(aes x.1).2,()),true,none⟩
def bwz:FuncId->Option Ct:=lkp [(54,vy),(55,zk),(33,fy)]
def ag1(d:am)(K:(List bo)×Int×Unit->Prop):Prop:=cnd (!d5 d) (K (([]:List ce5),1,())) (d5 d=true/\K ((apl d).1,(apl d).2,()))
theorem ba4(d:am)(hok:ab (okL ur.args (d,())))(hpre:ab (ur.pre (d,()))):ag1 d (fun r=>r=ur.res (d,())):=by
 simp only[ur,okL,T.oks,T.ok,ap,ab,a0f,a0c,a0g]at hok hpre
 try dsimp only[T.den]at hok hpre
 unfold ag1;have hres:(ur).res (d,())=((aes d).1,(aes d).2,()):=rfl;rw[hres];refine ba (fun h=>?_) (fun h=>⟨by simpa using h,?_⟩)
 ·have h:¬d5 d=true:=by simpa using h
  simp only[aes,ds h]
 ·have h:d5 d=true:=by simpa using h
  simp only[aes,a0a h]
theorem axn:bw Tryz.prog 17 ur:=ctb (ae bci (ae bbv (ae vo az))) bg 17 Tryz.f17 ur .n [] (fun x K=>ag1 x.1 K) (fun x h1 h2=>ba4 x.1 h1 h2)
def asl(s:List (Int×Int×Int))(v:Int×Int×Int):Int:=io s v
def d8:Ct:=⟨[bq6,bh5],[false,true],fun x=>[],[(false,kg)],fun x=>(asl x.1 x.2.1,()),false,none⟩
def af0:Ann:=(.s .n (.s (.s .n (.l [(8,(.d bc))] [] [0,3,7] .n)) .n))
def rp(s:List cfq)(v:Int×(Int×Int))(K:Int×Unit->Prop):Prop:=bn (S:=ce7) (fun a b=>let c:=s.getD a.1.1.toNat (0,0,0);Iq a.1.1<|cnd (decide (a.1.1<(s.length:Int))) (Ix a.1.1 s.length<|cnd (v.1==c.1&&(v.2.1==c.2.1&&v.2.2==c.2.2)) (K (a.1.1,())) (Ik (a.1.1+1)<|b ((a.1.1+1,()),()))) (K (-1,()))) ((0,()),())
theorem agm(s:List cfq)(v:Int×(Int×Int))(hok:ab (okL d8.args (s,v,())))(hpre:ab (d8.pre (s,v,()))):rp s v (fun r=>r=d8.res (s,v,())):=by
 simp only[d8,okL,T.oks,T.ok,ap,ab,a0f,a0c,a0g]at hok hpre
 try dsimp only[T.den]at hok hpre
 delta rp Ik Iq Ix
 dsimp -proj -eta only;have hl:s.length<=140737488355328:=by simp only[eh]at hok;omega
 clear hok;refine jc (n:=s.length) (fun i=>∀k:Int,0<=k->k<i->s.getD k.toNat (0,(0,0))≠v) (by omega) (by intro k h0 h1;omega) ?_ ?_
 ·intro i next i0 i1 hP hn _
  try dsimp only
  refine bd (fun _=>⟨i0,i1,ba (fun hx=>?_) (fun hx=>⟨by rw[au];(try dsimp only);omega,hn fun k k0 k1=>?_⟩)⟩) (fun h=>absurd i1 h)
  ·simp only[a0b,a0r]at hx;have:asl s v=i:=aui (z:=((0,(0,0)):Int×Int×Int)) i0 i1 (a1h hx.1.symm (a1h hx.2.1.symm hx.2.2.symm)) hP;simp only[d8,this]
  ·by_cases hk:k=i
   ·subst hk;intro e;rw[e]at hx;simp at hx
   ·exact hP k k0 (by omega)
 ·intro next hP _
  refine bd (fun h=>absurd h (a1b _)) (fun _=>?_);have:asl s v=-1:=bio (z:=((0,(0,0)):Int×Int×Int)) hP;simp only[d8,this]
theorem afz:bw Tryz.prog 86 d8:=ctb az bg 86 Tryz.f86 d8 af0 [(4,5)] (fun x K=>rp x.1 x.2.1 K) (fun x h1 h2=>agm x.1 x.2.1 h1 h2)
def mf:Ct:=⟨[bq6,bh5],[false,true],fun x=>[],[(false,kg)],fun x=>(asl x.1 x.2.1,()),false,none⟩
def bnv:FuncId->Option Ct:=lkp [(86,d8)]
def aaq(list:List cfq)(x:Int×(Int×Int))(K:Int×Unit->Prop):Prop:=K (asl list x,())
theorem arm(list:List cfq)(x:Int×(Int×Int))(hok:ab (okL mf.args (list,x,())))(hpre:ab (mf.pre (list,x,()))):aaq list x (fun r=>r=mf.res (list,x,())):=by
 simp only[mf,okL,T.oks,T.ok,ap,ab,a0f,a0c,a0g]at hok hpre
 try dsimp only[T.den]at hok hpre
 unfold aaq;rfl
theorem ap5:bw Tryz.prog 45 mf:=ctb (ae afz az) bg 45 Tryz.f45 mf .n [] (fun x K=>aaq x.1 x.2.1 K) (fun x h1 h2=>arm x.1 x.2.1 h1 h2)
structure AroP (c:aa) (l:List (Int×Int×Int)):Prop where
 at_:∀i:Int,0<=i->i<l.length->0<=(l.getD i.toNat (0,(0,0))).2.2/\(l.getD i.toNat (0,(0,0))).2.2<c.2.1.length
 len:l.length<=40
def adv(d:am)(l:List (Int×Int×Int))(a b:Int):Int:=asl l ((l.getD a.toNat (0,(0,0))).1,(l.getD b.toNat (0,(0,0))).2.1,bi d.2.1 (l.getD a.toNat (0,(0,0))).2.2 (l.getD b.toNat (0,(0,0))).2.2)
def ly:Ct:=⟨[bc,bc,bxh,aao],[false,false,false,false],fun x=>[ShapeP x.2.2.2.1.2.1,AroP x.2.2.2.1.2.1 x.2.2.1,0<=x.1,x.1<x.2.2.1.length,0<=x.2.1,x.2.1<x.2.2.1.length],[(false,kg)],fun x=>(adv x.2.2.2.1 x.2.2.1 x.1 x.2.1,()),false,none⟩
def bmn:FuncId->Option Ct:=lkp [(46,je),(45,mf)]
def zn(a b:Int)(arrows:List cfq)(d:am)(K:Int×Unit->Prop):Prop:=let e:=arrows.getD b.toNat (0,0,0);let c:=arrows.getD a.toNat (0,0,0);Ix a arrows.length<|Ix b arrows.length<|(0:Int)<=0/\0<((3:Nat):Int)/\(0:Int)<=1/\1<((3:Nat):Int)/\(0:Int)<=2/\2<((3:Nat):Int)/\(0:Int)<=2/\2<((3:Nat):Int)/\(Ix c.2.2 d.2.1.2.2.2.2.length<|Ix e.2.2 (d.2.1.2.2.2.2.getD c.2.2.toNat []).length<|K (asl arrows (c.1,e.2.1,bi d.2.1 c.2.2 e.2.2),()))
theorem ap3(a b:Int)(arrows:List cfq)(d:am)(hok:ab (okL ly.args (a,b,arrows,d,())))(hpre:ab (ly.pre (a,b,arrows,d,()))):zn a b arrows d (fun r=>r=ly.res (a,b,arrows,d,())):=by
 simp only[ly,okL,T.oks,T.ok,ap,ab,a0f,a0c,a0g]at hok hpre
 try dsimp only[T.den]at hok hpre
 delta zn Ix
 dsimp -proj -eta only;obtain⟨S,A,a0,a1,b0,b1⟩:=hpre;clear hok;have ha:=A.at_ a a0 a1;have hb:=A.at_ b b0 b1;have hr:=S.row _ ha.1 ha.2;have hlc:=S.lc;exact⟨a0,a1,b0,b1,by decide,by decide,by decide,by decide,by decide,by decide,by decide,by decide,ha.1,by omega,hb.1,by rw[hr];exact hb.2,rfl⟩
theorem apo:bw Tryz.prog 44 ly:=ctb (ae qk (ae ap5 az)) bg 44 Tryz.f44 ly .n [(1,2010),(2,512)] (fun x K=>zn x.1 x.2.1 x.2.2.1 x.2.2.2.1 K) (fun x h1 h2=>ap3 x.1 x.2.1 x.2.2.1 x.2.2.2.1 h1 h2)
structure TabRP (o:aa) (a:List Int) (c:aa) (b:List Int):Prop where
 sh:ShapeP c
 lb:b.length=c.2.1.length
 wb:e9 b c.2.1.length=true
 la:a.length=c.2.1.length
 lo:o.2.1.length=c.2.1.length
 lt:o.2.2.1.length=c.2.1.length
 co:∀f g:Int,0<=f->f<c.2.1.length->0<=g->g<c.2.1.length->o.2.2.1.getD f.toNat 0=o.2.1.getD g.toNat 0->c.2.2.1.getD (b.getD f.toNat 0).toNat 0=c.2.1.getD (b.getD g.toNat 0).toNat 0
def av1(o:aa)(F:Int->Int->Int)(f g:Int):Int:=if o.2.2.1.getD f.toNat 0=o.2.1.getD g.toNat 0 then F f g else -1
def ajp(o:aa)(F:Int->Int->Int):List (List Int):=bh o.2.1.length fun f=>bh o.2.1.length fun g=>av1 o F f g
def tbT(F:Int->Int->Int)(n:Nat)(i j:Int):List (List Int):=bh n fun e=>if e=i then (bh n fun g=>if g<j then F i g else 0)else if e<i then bh n (F e)else []
theorem bd0{F:Int->Int->Int}{n:Nat}{i j:Int}:(tbT F n i j).length=n:=bj _
theorem bds{F:Int->Int->Int}{n:Nat}{i j:Int}(i0:0<=i)(i1:i<n):(tbT F n i j).getD i.toNat []=bh n fun g=>if g<j then F i g else 0:=by unfold tbT;rw[d6 i0 i1,a0a rfl]
theorem cdi{F:Int->Int->Int}{n:Nat}{i j:Int}(i0:0<=i)(i1:i<n)(j0:0<=j)(j1:j<n):(tbT F n i j).set i.toNat (((tbT F n i j).getD i.toNat []).set j.toNat (F i j))=tbT F n i (j+1):=by
 rw[bds i0 i1,alr j0 j1];unfold tbT;rw[alr i0 i1];refine fw fun e _ _=>?_;by_cases h:e=i
 ·rw[a0a h,a0a h];refine fw fun g _ _=>?_;by_cases hg:g=j
  ·rw[a0a hg,a0a (by omega),hg]
  ·rw[ds hg];by_cases h2:g<j
   ·rw[a0a h2,a0a (by omega)]
   ·rw[ds h2,ds (by omega)]
 ·rw[ds h,ds h,ds h]
theorem bs3{A:List (List Int)}{i j:Nat}{w v:Int}(h:i<A.length):(A.set i ((A.getD i []).set j w)).set i (((A.set i ((A.getD i []).set j w)).getD i []).set j v)=A.set i ((A.getD i []).set j v):=by rw[aza _ _ _ _ _ h,a0a rfl,List.set_set,List.set_set]
theorem cec{F:Int->Int->Int}{n:Nat}{i:Int}(i0:0<=i)(i1:i<n):(bh n fun e=>if e<i then bh n (F e)else []).set i.toNat (bh n fun _=>0)=tbT F n i 0:=by
 rw[alr i0 i1];unfold tbT;refine fw fun e _ _=>?_;by_cases h:e=i
 ·rw[a0a h,a0a h];exact fw fun g g0 _=>by rw[ds (by omega)]
 ·rw[ds h,ds h]
theorem cdl{F:Int->Int->Int}{n:Nat}{i:Int}:tbT F n i n=bh n fun e=>if e<i+1 then bh n (F e)else []:=by
 unfold tbT;refine fw fun e _ _=>?_;by_cases h:e=i
 ·rw[a0a h,a0a (by omega),h];exact fw fun g _ g1=>by rw[a0a g1]
 ·rw[ds h];by_cases h2:e<i
  ·rw[a0a h2,a0a (by omega)]
  ·rw[ds h2,ds (by omega)]
structure CnP (c:aa) (l:List (Int×Int×Int)) (d:am):Prop where
 sh:ShapeP d.2.1
 ar:AroP d.2.1 l
 le:c.2.1.length=l.length
 lt:c.2.2.1.length=l.length
def gy:Wt:=⟨(.pt iw),[(.fn 44 (.p bxh (.p aao .u)))],[false],fun x y=>[CnP x y.1.1 y.1.2.1],fun x y=>(x.1,x.2.1,x.2.2.1,x.2.2.2.1,ajp x (adv y.1.2.1 y.1.1)),[],fun x y=>(()),0⟩
def aa4:Ct:=vr gy
def ajn:Ann:=(.s .n (.s .n (.s .n (.l [(0,(.ad 1000000 [.de])),(19,(.d bc))] [(1000000,gh)] [1,4,18] (.s .n (.s .n (.s (.s .n (.s .n (.s .n (.l [(0,(.ad 1000000 [.de])),(38,(.d bc))] [(1000000,gh)] [1,4,5,18,19,37] (.s .n (.s .n (.s (.s .n (.s .n (.s .n (.j [(0,(.ad 1000000 [.de]))] [(1000000,gh)] [1,4,5,18,19,37,38] .n)))) .n))))))) .n)))))))
def bf8:FuncId->Option Ct:=lkp [(44,ly),(85,j8)]
def aba(c:aa)(composite:(List cfq)×(am×Unit))(K:aa->(Unit)->Prop):Prop:=let r:=composite.2.1;let q:=composite.1;let j:=c.2.1.length;let n:=List.replicate (Int.toNat (j:Int)) ([]:List Int);0<=(j:Int)/\(j:Int)<=(j:Int)/\(j:Int)<=((140737488355328:Nat):Int)/\(j:Int)*((24:Nat):Int)<=((140737488355328:Nat):Int)/\bn (S:=(ce4×(cew×Unit))) (fun a b=>let t:=a.2.1;let l:=a.1.2.1;let p:=l.toNat;let i:=List.set t.2.2.2.2 p (List.replicate (Int.toNat (j:Int)) (0:Int));Iq l<|Oc t<|cnd (decide (l<(n.length:Int))) (0<=(j:Int)/\(j:Int)<=(j:Int)/\(j:Int)<=((140737488355328:Nat):Int)/\(j:Int)*((8:Nat):Int)<=((140737488355328:Nat):Int)/\(Ix l t.2.2.2.2.length<|Ix l i.length<|bn (S:=(ce4×(cew×Unit))) (fun d e=>let o:=d.2.1.2;let m:=d.1.2.1;let h:=List.set o.2.2.2 p (List.set (o.2.2.2.getD p []) m.toNat (-1));Iq m<|Oc d.2.1<|cnd (decide (m<((i.getD p []).length:Int))) (Ix l o.2.2.2.length<|Ix m (o.2.2.2.getD p []).length<|Ix l o.2.1.length<|Ix m o.1.length<|dk (S:=((Unit×Unit)×(cew×Unit))) (fun f=>Oc f.2.1<|Ik (m+1)<|e (((),m+1,()),f.2.1,())) (fun g=>cnd (o.2.1.getD p 0==o.1.getD m.toNat 0) (Ix l h.length<|ShapeP r.2.1/\AroP r.2.1 q/\(Ix l q.length<|Ix m q.length<|Ix m (h.getD p []).length<|g (((),()),(d.2.1.1,o.1,o.2.1,o.2.2.1,List.set h p (List.set (h.getD p []) m.toNat (adv r q l m))),()))) (g (((),()),(d.2.1.1,o.1,o.2.1,o.2.2.1,h),())))) (Ik (l+1)<|b (((),l+1,()),d.2.1,()))) (((),0,()),(t.1,t.2.1,t.2.2.1,t.2.2.2.1,i),()))) (K t ())) (((),0,()),(c.1,c.2.1,c.2.2.1,c.2.2.2.1,n),())
theorem aj4(c:aa)(composite:(List cfq)×(am×Unit))(hok:ab (gy.o.strip.oks c))(hok2:ab (okL gy.as (composite,())))(hpre:ab (gy.pre c (composite,()))):aba c composite (fun z r=>z=gy.new c (composite,())/\r=gy.res c (composite,())):=by
 simp only[gy,O.strip,okL,T.oks,T.ok,ap,ab,a0f,a0c,a0g]at hok hok2 hpre
 try dsimp only[T.den]at hok
 try dsimp only[T.den]at hok2
 try dsimp only[T.den]at hpre
 delta aba Ik Iq Ix Oc Ol Om
 dsimp -proj -eta only;obtain⟨l,d,u⟩:=composite;have P:CnP c l d:=hpre;have S:=P.sh;have A:=P.ar;have hmm:=A.len;have hle:=P.le;have hlt:=P.lt;have hnew:∀z,z=ajp c (adv d l)->(c.1,c.2.1,c.2.2.1,c.2.2.2.1,z)=(c.1,c.2.1,c.2.2.1,c.2.2.2.1,ajp c (adv d l)):=fun z h=>by rw[h]
 clear hok hpre
 try dsimp only
 have hR:ajp c (adv d l)=bh c.2.1.length fun e=>bh c.2.1.length (av1 c (adv d l) e):=rfl;refine⟨by omega,by omega,by omega,by omega,?_⟩;simp only[a0y,bnn,bj];generalize hn:c.2.1.length=n at *;generalize hF:av1 c (adv d l)=F at *;refine uz (fun i=>(c.1,c.2.1,c.2.2.1,c.2.2.2.1,bh n fun e=>if e<i then bh n (F e)else [])) (n:=n) (by omega) (congrArg (fun z=>(c.1,c.2.1,c.2.2.1,c.2.2.2.1,z)) (fw fun e h0 _=>by rw[ds (by omega)])) ?_ ?_
 ·intro i next i0 i1 hnx _ _ _ _ _ _
  try dsimp only
  refine bd (fun _=>⟨by omega,by omega,by omega,by omega,i0,by rw[bj];exact i1,i0,by rw[a1m,bj];exact i1,?_⟩) (fun h=>absurd i1 h);rw[cec i0 i1,bds i0 i1,bj];refine uz (fun j=>(c.1,c.2.1,c.2.2.1,c.2.2.2.1,tbT F n i j)) (n:=n) (by omega) rfl ?_ ?_
  ·intro j next2 j0 j1 hn2 _ _ _ _ _ _
   try dsimp only
   have hr:((tbT F n i j).getD i.toNat []).length=n:=by rw[bds i0 i1,bj]
   have hA:i.toNat<(tbT F n i j).length:=by rw[bd0];omega
   have hs2:=@bs3 (tbT F n i j) i.toNat j.toNat (-1) (F i j) hA;have hs1:=@cdi F n i j i0 i1 j0 j1;have hrow:(((tbT F n i j).set i.toNat (((tbT F n i j).getD i.toNat []).set j.toNat (-1))).getD i.toNat []).length=n:=by rw[aza _ _ _ _ _ hA,a0a rfl,a1m,hr]
   refine bd (fun _=>⟨i0,by rw[bd0];exact i1,j0,by rw[hr];exact j1,i0,by omega,j0,by omega,?_⟩) (fun h=>absurd j1 h);refine cz (fun s2=>s2.2.1=(c.1,c.2.1,c.2.2.1,c.2.2.2.1,tbT F n i (j+1))) (fun s2 hs _ _ _ _ _=>⟨by rw[au];(try dsimp only);omega,by rw[hs];exact hn2⟩) (fun k hk=>ba (fun he=>?_) (fun he=>hk _ ?_))
   ·rw[a0r]at he;have hv:adv d l i j=F i j:=by rw[←hF];unfold av1;rw[a0a he]
    refine⟨i0,by rw[a1m,bd0];exact i1,S,A,i0,by omega,j0,by omega,j0,by rw[hrow];exact j1,hk _ ?_⟩
    try dsimp only
    rw[hv,hs2,hs1]
   ·have hv:F i j=-1:=by rw[←hF];unfold av1;rw[ds (by intro h;rw[h]at he;simp at he)]
    try dsimp only
    rw[←hv,hs1]
  ·intro next2 _ _ _ _ _ _
   try dsimp only
   refine bd (fun h=>absurd h (a1b _)) (fun _=>⟨by rw[au];(try dsimp only);omega,?_⟩);rw[cdl];exact hnx
 ·intro next _ _ _ _ _ _
  try dsimp only
  refine bd (fun h=>absurd h (a1b _)) (fun _=>⟨hnew _ ?_,rfl⟩);rw[hR];exact fw fun e _ e1=>by rw[a0a e1]
theorem ai8:bw Tryz.prog 43 aa4:=wtb (ae apo (ae sy az)) bg 43 Tryz.f43 gy ajn [(5,507),(10,14),(11,512)] (fun x y h1 h2 h3=>Eq.mp (by kernel_rfl) (aj4 x y.1 h1 h2 h3))
def tj:Ct:=⟨[bp],[true],fun x=>[],[(false,kf)],fun x=>((decide (x.1.1<=8)&&decide ((x.1.2.1.length:Int)<=40)),()),false,none⟩
def ahn(c:aa)(K:Bool×Unit->Prop):Prop:=K (decide (c.1<=8)&&decide ((c.2.1.length:Int)<=40),())
theorem bdy(c:aa)(hok:ab (okL tj.args (c,())))(hpre:ab (tj.pre (c,()))):ahn c (fun r=>r=tj.res (c,())):=by
 simp only[tj,okL,T.oks,T.ok,ap,ab,a0f,a0c,a0g]at hok hpre
 try dsimp only[T.den]at hok hpre
 unfold ahn;rfl
theorem abz:bw Tryz.prog 50 tj:=ctb az bg 50 Tryz.f50 tj .n [] (fun x K=>ahn x.1 K) (fun x h1 h2=>bdy x.1 h1 h2)
def vz:Ct:=⟨[bp,bc,bc],[true,false,false],fun x=>[0<=x.2.1,x.2.1<x.1.2.2.2.2.length,0<=x.2.2.1,x.2.2.1<(x.1.2.2.2.2.getD x.2.1.toNat []).length],[(false,kg)],fun x=>(bi x.1 x.2.1 x.2.2.1,()),false,none⟩
def aio(c:aa)(f g:Int)(K:Int×Unit->Prop):Prop:=let a:=c.2.2.2.2.getD f.toNat [];Ix f c.2.2.2.2.length<|Ix g a.length<|K (a.getD g.toNat 0,())
theorem be8(c:aa)(f g:Int)(hok:ab (okL vz.args (c,f,g,())))(hpre:ab (vz.pre (c,f,g,()))):aio c f g (fun r=>r=vz.res (c,f,g,())):=by
 simp only[vz,okL,T.oks,T.ok,ap,ab,a0f,a0c,a0g]at hok hpre
 try dsimp only[T.den]at hok hpre
 delta aio Ix
 dsimp -proj -eta only;exact⟨hpre.1,hpre.2.1,hpre.2.2.1,hpre.2.2.2,rfl⟩
theorem aop:bw Tryz.prog 52 vz:=ctb az bg 52 Tryz.f52 vz .n [] (fun x K=>aio x.1 x.2.1 x.2.2.1 K) (fun x h1 h2=>be8 x.1 x.2.1 x.2.2.1 h1 h2)
def su:Ct:=⟨[bc,ed],[false,false],fun x=>[],[(false,kf)],fun x=>(e9 x.2.1 x.1,()),false,none⟩
def bdf:Ann:=(.s .n (.s (.s .n (.l ais [] [0,1] .n)) .n))
def aj5(n:Int)(f:List Int)(K:Bool×Unit->Prop):Prop:=bn (S:=ce7) (fun a b=>let d:=a.1.1;let c:=f.getD d.toNat 0;Iq d<|cnd (decide (d<(f.length:Int))) (Ix d f.length<|(decide (c<0)=false->d<(f.length:Int)/\0<=d)/\cnd (decide (c<0)||decide (n<=c)) (K (false,())) (Ik (d+1)<|b ((d+1,()),()))) (K (true,()))) ((0,()),())
theorem bg4(n:Int)(f:List Int)(hok:ab (okL su.args (n,f,())))(hpre:ab (su.pre (n,f,()))):aj5 n f (fun r=>r=su.res (n,f,())):=by
 simp only[su,okL,T.oks,T.ok,ap,ab,a0f,a0c,a0g]at hok hpre
 try dsimp only[T.den]at hok hpre
 delta aj5 Ik Iq Ix
 dsimp -proj -eta only;refine bq (fun (s:ce7)=>0<=s.1.1/\s.1.1<=f.length/\e9 f n=e9 (f.drop s.1.1.toNat) n) (fun (s:ce7)=>(f.length-s.1.1).toNat) ?_ (by simp);rintro⟨⟨i,_⟩,_⟩ next ⟨h0,h1,h2⟩ hn hin
 simp only at h0 h1 h2 hn⊢;refine bd (fun hc=>?_) (fun hc=>?_)
 ·rw[aj2 f 0 h0 hc]at h2;simp only[e9,a4i]at h2
  grind[cnd,eh,au,su,e9,inR]
 ·rw[al9 f (by omega)]at h2
  grind[cnd,eh,au,su,e9]
theorem ah2:bw Tryz.prog 71 su:=ctb az bg 71 Tryz.f71 su bdf [] (fun x K=>aj5 x.1 x.2.1 K) (fun x h1 h2=>bg4 x.1 x.2.1 h1 h2)
def zo:Ct:=⟨[bc,bc,bc],[false,false,false],fun x=>[],[(false,kf)],fun x=>(inR x.1 x.2.1 x.2.2.1,()),false,none⟩
def amb(n low high:Int)(K:Bool×Unit->Prop):Prop:=K (decide (low<=n)&&decide (n<=high),())
theorem bit(n low high:Int)(hok:ab (okL zo.args (n,low,high,())))(hpre:ab (zo.pre (n,low,high,()))):amb n low high (fun r=>r=zo.res (n,low,high,())):=by
 simp only[zo,okL,T.oks,T.ok,ap,ab,a0f,a0c,a0g]at hok hpre
 try dsimp only[T.den]at hok hpre
 unfold amb
 grind[cnd,eh,au,zo,inR]
theorem bg2:bw Tryz.prog 134 zo:=ctb az bg 134 Tryz.f134 zo .n [] (fun x K=>amb x.1 x.2.1 x.2.2.1 K) (fun x h1 h2=>bit x.1 x.2.1 x.2.2.1 h1 h2)
def qw:Ct:=⟨[ed,bc,bc],[false,false,false],fun x=>[],[(false,kf)],fun x=>((decide ((x.1.length:Int)=x.2.1)&&e9 x.1 x.2.2.1),()),false,none⟩
def ahu(list:List Int)(length objects:Int)(K:Bool×Unit->Prop):Prop:=K ((list.length:Int)==length&&e9 list objects,())
theorem be7(list:List Int)(length objects:Int)(hok:ab (okL qw.args (list,length,objects,())))(hpre:ab (qw.pre (list,length,objects,()))):ahu list length objects (fun r=>r=qw.res (list,length,objects,())):=by
 simp only[qw,okL,T.oks,T.ok,ap,ab,a0f,a0c,a0g]at hok hpre
 try dsimp only[T.den]at hok hpre
 unfold ahu;have:((list.length:Int)==length)=decide ((list.length:Int)=length):=rfl;simp only[qw,this]
theorem bar:bw Tryz.prog 135 qw:=ctb (ae ah2 az) bg 135 Tryz.f135 qw .n [] (fun x K=>ahu x.1 x.2.1 x.2.2.1 K) (fun x h1 h2=>be7 x.1 x.2.1 x.2.2.1 h1 h2)
def m7:Ct:=⟨[bp],[true],fun x=>[],[(false,kf)],fun x=>(yy x.1,()),false,none⟩
def bbl:Ann:=(.s .n (.s .n (.s .n (.s .n (.s (.s .n (.l [(4,(.d bc))] [] [1,3] .n)) (.s (.s .n (.l ais [] [1,3] (.s .n (.s (.s .n (.s .n (.l [(6,(.d bc))] [] [1,3,5] (.s .n (.s (.j [] [] [1,3,5,6] .n) .n))))) .n)))) .n))))))
def bxo:FuncId->Option Ct:=lkp [(134,zo),(71,su),(135,qw)]
def aib(c:aa)(K:Bool×Unit->Prop):Prop:=let x:=c.2.2.2;let p:=c.2.2.1.length;let l:=c.2.1.length;cnd (!inR c.1 0 8||decide (40<(l:Int))||!(decide ((l:Int)=(l:Int))&&e9 c.2.1 c.1)||!(decide ((p:Int)=(l:Int))&&e9 c.2.2.1 c.1)||(x.2.length:Int) != (l:Int)) (K (false,())) (cnd ((x.1.length:Int) != c.1||!e9 x.1 (l:Int)) (K (false,())) (bn (S:=ce7) (fun a b=>let v:=a.1.1;let m:=x.1.getD v.toNat 0;let t:=c.2.1.getD m.toNat 0;Iq v<|cnd (decide (v<c.1)) (Ix v x.1.length<|Ix m l<|((t != v)=false->v<(x.1.length:Int)/\0<=v)/\((t != v)=false->m<(p:Int)/\0<=m)/\cnd (t != v||c.2.2.1.getD m.toNat 0 != v) (K (false,())) (Ik (v+1)<|b ((v+1,()),()))) (bn (S:=ce7) (fun d e=>let w:=d.1.1;let q:=c.2.1.getD w.toNat 0;let o:=x.2.getD w.toNat [];Iq w<|cnd (decide (w<(l:Int))) (Ix w x.2.length<|cnd ((o.length:Int) != (l:Int)) (K (false,())) (bn (S:=ce7) (fun f g=>let y:=f.1.1;let j:=o.getD y.toNat 0;let u:=c.2.1.getD j.toNat 0;let r:=decide (j<0);let n:=decide ((l:Int)<=j);Iq y<|cnd (decide (y<(l:Int))) (dk (S:=(Unit×Unit)) (fun h=>Ik (y+1)<|g ((y+1,()),())) (fun i=>Ix w x.2.length<|Ix y o.length<|Ix w p<|Ix y l<|cnd (c.2.2.1.getD w.toNat 0 != c.2.1.getD y.toNat 0) (cnd (j != -1) (K (false,())) (i ((),()))) (((r||n)=false->j<(l:Int)/\0<=j)/\((r||n)=false->w<(l:Int)/\0<=w)/\((r||n||u != q)=false->j<(p:Int)/\0<=j)/\((r||n||u != q)=false->y<(p:Int)/\0<=y)/\cnd (r||n||u != q||c.2.2.1.getD j.toNat 0 != c.2.2.1.getD y.toNat 0) (K (false,())) (i ((),()))))) (Ik (w+1)<|e ((w+1,()),()))) ((0,()),()))) (K (true,()))) ((0,()),()))) ((0,()),())))
theorem bdn(c:aa)(hok:ab (okL m7.args (c,())))(hpre:ab (m7.pre (c,()))):aib c (fun r=>r=m7.res (c,())):=by
 simp only[m7,okL,T.oks,T.ok,ap,ab,a0f,a0c,a0g]at hok hpre
 try dsimp only[T.den]at hok hpre
 delta aib Ik Iq Ix
 dsimp -proj -eta only;have bad:¬ShapeP c->(false,())=m7.res (c,()):=fun h=>by simp only[m7];rw[avt h]
 refine ba (fun hc=>bad fun h=>?_) (fun hc=>ba (fun hd=>bad fun h=>?_) (fun hd=>?_))
 ·have h1:=h.ob;have h2:=h.m;have h3:=h.lt;have h4:=h.fr;have h5:=h.to;have h6:=h.lc;simp only[inR]at hc;grind[cnd,eh,au]
 ·have h1:=h.li;have h2:=h.ids;grind[cnd,eh,au]
 simp only[inR,a2j,a2t,a0b,a0w,a1o,a1w]at hc hd;obtain⟨⟨⟨⟨hob,hm⟩,_,hfr⟩,hlt,hto⟩,hlc⟩:=hc;obtain⟨hli,hids⟩:=hd;refine jc (n:=c.1) (fun x=>∀y:Int,0<=y->y<x->c.2.1.getD (c.2.2.2.1.getD y.toNat 0).toNat 0=y/\c.2.2.1.getD (c.2.2.2.1.getD y.toNat 0).toNat 0=y) (by omega) (by intro y h0 h1;omega) ?_ ?_
 ·intro x next h0 h1 hP hn hin
  have hb:=ep.1 hids x h0 (by omega)
  try dsimp only
  refine bd (fun _=>⟨h0,by omega,hb.1,hb.2,fun _=>by omega,fun _=>by omega,ba (fun hx=>bad fun h=>?_) (fun hx=>?_)⟩) (fun h=>absurd h1 h)
  ·have:=h.idt x h0 (by omega);rw[this.1,this.2]at hx;simp at hx
  ·simp only[a2j,a1w]at hx;refine⟨by rw[au];(try dsimp only);omega,hn fun y y0 y1=>?_⟩;by_cases e:y=x
   ·rw[e];exact hx
   ·exact hP y y0 (by omega)
 intro next hidt hin
 refine bd (fun h=>absurd h (by dsimp only;omega)) (fun _=>?_);refine jc (n:=c.2.1.length) (fun f=>∀f':Int,0<=f'->f'<f->(c.2.2.2.2.getD f'.toNat []).length=c.2.1.length/\∀g:Int,0<=g->g<c.2.1.length->vu c f' g=true) (by omega) (by intro y h0 h1;omega) ?_ ?_
 ·intro f next h0 h1 hP hn hin
  try dsimp only
  refine bd (fun _=>⟨h0,by omega,ba (fun hx=>bad fun h=>?_) (fun hx=>?_)⟩) (fun h=>absurd h1 h)
  ·have:=h.row f h0 (by omega);rw[this]at hx;simp at hx
  simp only[a1w]at hx;refine jc (n:=c.2.1.length) (fun g=>∀g':Int,0<=g'->g'<g->vu c f g'=true) (by omega) (by intro y h0 h1;omega) ?_ ?_
  ·intro g next3 g0 g1 hP3 hn3 hin3
   try dsimp only
   refine bd (fun _=>?_) (fun h=>absurd g1 h);refine cz (fun _=>vu c f g=true) (fun _ hcell=>⟨by rw[au];(try dsimp only);omega,hn3 fun g' y0 y1=>?_⟩) (fun k hk=>?_)
   ·by_cases e:g'=g
    ·rw[e];exact hcell
    ·exact hP3 g' y0 (by omega)
   have hcell:∀b,vu c f g=b->b=false->¬ShapeP c:=fun b h1 h2 h=>by have:=h.cell f g h0 (by omega) g0 (by omega);rw[h1,h2]at this;cases this
   have hk':=hk ((),());obtain⟨v,hv⟩:∃v,(c.2.2.2.2.getD f.toNat []).getD g.toNat 0=v:=⟨_,rfl⟩;have hR:vu c f g=yi c f g v:=by unfold vu bi;rw[hv]
   rw[hR]at hk';rw[hR]at hcell;rw[hv];clear hP3 hn3 hP hn hk hR hv hidt hok;refine⟨h0,by omega,g0,by omega,h0,by omega,g0,by omega,ba (fun ha=>ba (fun hb=>bad ?_) (fun hb=>hk' ?_)) (fun ha=>⟨fun hv=>?_,fun _=>⟨by omega,h0⟩,fun hv=>?_,fun _=>⟨by omega,g0⟩,ba (fun hb=>bad ?_) (fun hb=>hk' ?_)⟩)⟩
   ·exact hcell _ rfl (by grind[cnd,eh,au,yi])
   ·grind[cnd,eh,au,yi]
   ·simp only[a2j,a1o]at hv;omega
   ·simp only[a2j,a1o]at hv;omega
   ·exact hcell _ rfl (by grind[cnd,eh,au,yi])
   ·grind[cnd,eh,au,yi]
  ·intro next3 hP3 hin3;refine bd (fun h=>absurd h (by dsimp only;omega)) (fun _=>⟨by rw[au];(try dsimp only);omega,hn fun f' y0 y1=>?_⟩);by_cases e:f'=f
   ·rw[e];exact⟨by omega,fun g g0 g1=>hP3 g g0 (by omega)⟩
   ·exact hP f' y0 (by omega)
 ·intro next2 hP2 hin2;refine bd (fun h=>absurd h (by dsimp only;omega)) (fun _=>?_);simp only[m7];rw[be6 ⟨hob,by omega,by omega,hfr,hto,by omega,hids,by omega,fun x a b=>hidt x a (by omega),fun f a b=>(hP2 f a (by omega)).1,fun f g a b d e=>(hP2 f a (by omega)).2 g d e⟩]
theorem bch:bw Tryz.prog 106 m7:=ctb (ae bg2 (ae ah2 (ae bar az))) bg 106 Tryz.f106 m7 bbl [(20,11),(23,33),(9,24)] (fun x K=>aib x.1 K) (fun x h1 h2=>bdn x.1 h1 h2)
def nu:Ct:=⟨[bp],[true],fun x=>[ShapeP x.1],[(false,kg),(false,kg),(false,kg),(false,kg)],fun x=>((pn x.1).1,(pn x.1).2.1,(pn x.1).2.2.1,(pn x.1).2.2.2,()),false,none⟩
def axx:Ann:=(.s .n (.s .n (.s (.s .n (.l arw [] [1,6] .n)) (.s (.s .n (.l [(8,(.d bc))] [] [1,6] (.s .n (.s (.s .n (.l [(9,(.d bc))] [] [1,6,8] (.s .n (.s (.j [] [] [1,6,8,9] (.s .n (.s .n (.l [(10,(.d bc))] [] [1,6,8,9] .n)))) .n)))) .n)))) .n))))
def ag8(c:aa)(K:Int×Int×Int×Int×Unit->Prop):Prop:=let a5:=c.2.2.1.length;let x:=c.2.1.length;let u:=c.2.2.2.2.length;bn (S:=ce7) (fun a b=>let v:=a.1.1;let a3:=v.toNat;let a6:=c.2.2.2.2.getD a3 [];let t:=c.2.2.2.1.getD (c.2.1.getD a3 0).toNat 0;let a4:=c.2.2.2.2.getD t.toNat [];let q:=c.2.2.1.getD a3 0;let y:=c.2.2.2.1.getD q.toNat 0;let m:=a4.getD a3 0;Iq v<|cnd (decide (v<(x:Int))) (Ix v x<|Ix (c.2.1.getD a3 0) c.2.2.2.1.length<|Ix t u<|Ix v a4.length<|((m != v)=false->v<(u:Int)/\0<=v)/\((m != v)=false->v<(a5:Int)/\0<=v)/\((m != v)=false->q<(c.2.2.2.1.length:Int)/\0<=q)/\((m != v)=false->y<(a6.length:Int)/\0<=y)/\cnd (m != v||a6.getD y.toNat 0 != v) (K (1,v,0,0,())) (Ik (v+1)<|b ((v+1,()),()))) (bn (S:=ce7) (fun d e=>let a1:=d.1.1;let p:=c.2.2.2.2.getD a1.toNat [];Iq a1<|cnd (decide (a1<(x:Int))) (bn (S:=ce7) (fun f g=>let a2:=f.1.1;let w:=a2.toNat;let a0:=c.2.2.2.2.getD (p.getD w 0).toNat [];let n:=c.2.2.1.getD w 0;Iq a2<|cnd (decide (a2<(x:Int))) (dk (S:=(Unit×Unit)) (fun h=>Ik (a2+1)<|g ((a2+1,()),())) (fun i=>Ix a1 a5<|Ix a2 x<|cnd (c.2.2.1.getD a1.toNat 0 != c.2.1.getD w 0) (i ((),())) (bn (S:=ce7) (fun j l=>let z:=j.1.1;let r:=(c.2.2.2.2.getD w []).getD z.toNat 0;let o:=c.2.1.getD z.toNat 0;Iq z<|cnd (decide (z<(x:Int))) (Ix a2 a5<|Ix z x<|((n==o)=true->a1<(u:Int)/\0<=a1)/\((n==o)=true->a2<(p.length:Int)/\0<=a2)/\((n==o)=true->p.getD w 0<(u:Int)/\0<=p.getD w 0)/\((n==o)=true->z<(a0.length:Int)/\0<=z)/\((n==o)=true->a1<(u:Int)/\0<=a1)/\((n==o)=true->a2<(u:Int)/\0<=a2)/\((n==o)=true->z<((c.2.2.2.2.getD w []).length:Int)/\0<=z)/\((n==o)=true->r<(p.length:Int)/\0<=r)/\cnd (n==o&&a0.getD z.toNat 0 != p.getD r.toNat 0) (K (2,a1,a2,z,())) (Ik (z+1)<|l ((z+1,()),()))) (i ((),()))) ((0,()),())))) (Ik (a1+1)<|e ((a1+1,()),()))) ((0,()),())) (K (0,0,0,0,()))) ((0,()),()))) ((0,()),())
theorem bbs(c:aa)(hok:ab (okL nu.args (c,())))(hpre:ab (nu.pre (c,()))):ag8 c (fun r=>r=nu.res (c,())):=by
 simp only[nu,okL,T.oks,T.ok,ap,ab,a0f,a0c,a0g]at hok hpre
 try dsimp only[T.den]at hok hpre
 delta ag8 Ik Iq Ix
 dsimp -proj -eta only;have S:ShapeP c:=hpre;have hlt:=S.lt;have hli:=S.li;have hlc:=S.lc;have hmm:=S.m;have resq:∀a b d e,pn c=(a,b,d,e)->(a,b,d,e,())=nu.res (c,()):=fun a b d e h=>by simp only[nu,h]
 have hcr:∀f g:Int,(c.2.2.2.2.getD f.toNat []).getD g.toNat 0=bi c f g:=fun _ _=>rfl;simp only[hcr];refine jc (n:=c.2.1.length) (fun f=>gp (qm c) c.2.1.length 0=gp (qm c) ((c.2.1.length:Int)-f).toNat f) (by omega) ajt ?_ ?_
 ·intro f next h0 h1 hP hn hin
  try dsimp only
  obtain⟨a1,a2,a3,a4⟩:=S.frm h0 h1;obtain⟨b1,b2,_,_⟩:=S.idn a1 a2;obtain⟨d1,d2,_,_⟩:=S.idn a3 a4;have r1:=S.row _ b1 b2;have r2:=S.row f h0 h1;refine bd (fun _=>⟨h0,h1,by omega,by omega,by omega,by omega,h0,by omega,fun _=>by omega,fun _=>by omega,fun _=>by omega,fun _=>by omega,ba (fun hx=>resq _ _ _ _ ?_) (fun hx=>⟨by rw[au];(try dsimp only);omega,hn ?_⟩)⟩) (fun h=>absurd h1 h)
  ·have:qm c f=some (1,f,0,0):=by unfold qm;rw[a0a];simpa using hx
   unfold pn;rw[hP,aju h1 this];rfl
  ·have:qm c f=none:=by unfold qm;rw[ds];simpa using hx
   rw[hP,ajh h1 this]
 intro next hI hin
 rw[aja]at hI;refine bd (fun h=>absurd h (by dsimp only;omega)) (fun _=>?_);have hF:pn c=orR (gp (vl c) c.2.1.length 0) (0,0,0,0):=by unfold pn;rw[hI];rfl
 refine jc (n:=c.2.1.length) (fun f=>gp (vl c) c.2.1.length 0=gp (vl c) ((c.2.1.length:Int)-f).toNat f) (by omega) ajt ?_ ?_
 ·intro f next h0 h1 hP hn hin
  try dsimp only
  refine bd (fun _=>?_) (fun h=>absurd h1 h);have r1:=S.row f h0 h1;refine jc (n:=c.2.1.length) (fun g=>vl c f=gp (vk c f) ((c.2.1.length:Int)-g).toNat g) (by omega) ajt ?_ ?_
  ·intro g next3 g0 g1 hP3 hn3 hin3
   try dsimp only
   refine bd (fun _=>?_) (fun h=>absurd g1 h);have r2:=S.row g g0 g1;refine cz (fun _=>vk c f g=none) (fun _ hG=>⟨by rw[au];(try dsimp only);omega,hn3 (by rw[hP3,ajh g1 hG])⟩) (fun k hk=>?_);have hk':=hk ((),());refine⟨by omega,by omega,by omega,by omega,ba (fun hx=>hk' ?_) (fun hx=>?_)⟩
   ·unfold vk;rw[ds];simpa using hx
   have hfg:c.2.2.1.getD f.toNat 0=c.2.1.getD g.toNat 0:=by rw[a1w]at hx;exact hx
   obtain⟨y1,y2,_,_⟩:=S.yes h0 h1 g0 g1 hfg;refine jc (n:=c.2.1.length) (fun h=>vk c f g=gp (xg c f g) ((c.2.1.length:Int)-h).toNat h) (by omega) (by unfold vk;rw[a0a hfg];exact ajt) ?_ ?_
   ·intro h next4 i0 i1 hP4 hn4 hin4
    try dsimp only
    refine bd (fun _=>?_) (fun h=>absurd i1 h);have r3:=S.row _ y1 y2;have cgh:=S.comp g0 g1 i0 i1;have ygh:=@ShapeP.yes c S g h g0 g1 i0 i1;refine⟨by omega,by omega,by omega,by omega,fun _=>by omega,fun _=>by omega,fun _=>by omega,fun _=>by omega,fun _=>by omega,fun _=>by omega,fun _=>by omega,fun he=>?_,ba (fun hx=>resq _ _ _ _ ?_) (fun hx=>⟨by rw[au];(try dsimp only);omega,hn4 ?_⟩)⟩
    ·have:=ygh (by simpa only [a0r]using he);omega
    ·have:xg c f g h=some (2,f,g,h):=by unfold xg;rw[a0a];simpa using hx
     have e1:vk c f g=some (2,f,g,h):=by rw[hP4,aju i1 this]
     have e2:vl c f=some (2,f,g,h):=by rw[hP3,aju g1 e1]
     rw[hF,hP,aju h1 e2];rfl
    ·have:xg c f g h=none:=by unfold xg;rw[ds];simpa using hx
     rw[hP4,ajh i1 this]
   ·intro next4 hP4 hin4;rw[aja]at hP4;exact bd (fun h=>absurd h (by dsimp only;omega)) (fun _=>hk' hP4)
  ·intro next3 hP3 hin3;rw[aja]at hP3;exact bd (fun h=>absurd h (by dsimp only;omega)) (fun _=>⟨by rw[au];(try dsimp only);omega,hn (by rw[hP,ajh h1 hP3])⟩)
 ·intro next2 hP2 hin2;rw[aja]at hP2;refine bd (fun h=>absurd h (by dsimp only;omega)) (fun _=>resq _ _ _ _ ?_);rw[hF,hP2];rfl
theorem ax1:bw Tryz.prog 107 nu:=ctb az bg 107 Tryz.f107 nu axx [(17,44),(5,38),(13,11)] (fun x K=>ag8 x.1 K) (fun x h1 h2=>bbs x.1 h1 h2)
def uc:Ct:=⟨[bp],[true],fun x=>[],[(false,kf)],fun x=>(k9 x.1,()),false,none⟩
def cbe:FuncId->Option Ct:=lkp [(106,m7),(107,nu)]
def am7(c:aa)(K:Bool×Unit->Prop):Prop:=cnd (!yy c) (K (false,())) (ShapeP c/\K ((pn c).1==0,()))
theorem bk8(c:aa)(hok:ab (okL uc.args (c,())))(hpre:ab (uc.pre (c,()))):am7 c (fun r=>r=uc.res (c,())):=by
 simp only[uc,okL,T.oks,T.ok,ap,ab,a0f,a0c,a0g]at hok hpre
 try dsimp only[T.den]at hok hpre
 unfold am7;simp only[uc,k9];have:=@acn c
 grind[cnd,eh,au]
theorem bhg:bw Tryz.prog 70 uc:=ctb (ae bch (ae ax1 az)) bg 70 Tryz.f70 uc .n [] (fun x K=>am7 x.1 K) (fun x h1 h2=>bk8 x.1 h1 h2)
def kz:Ct:=⟨[jq],[true],fun x=>[],[(false,kf)],fun x=>(d5 x.1,()),false,none⟩
def bg1:Ann:=(.s .n (.s .n (.s .n (.s .n (.s (.s .n (.l ais [] [1,3,4] .n)) (.s (.s .n (.l [(6,(.d bc))] [] [1,3,4] .n)) (.s (.s .n (.l arw [] [1,3,4] (.s .n (.s (.s .n (.l [(8,(.d bc))] [] [1,3,4,7] .n)) .n)))) .n)))))))
def cbd:FuncId->Option Ct:=lkp [(71,su),(70,uc)]
def amn(f:am)(K:Bool×Unit->Prop):Prop:=let a5:=f.2.1.2;let w:=f.2.2.1.length;let r:=f.1.2.1.length;let q:=f.2.2.2.length;cnd (!k9 f.1||!k9 f.2.1||(w:Int) != f.1.1||(q:Int) != (r:Int)) (K (false,())) (cnd (!e9 f.2.2.1 f.2.1.1||!e9 f.2.2.2 (a5.1.length:Int)) (K (false,())) (bn (S:=ce7) (fun a b=>let v:=a.1.1;let a3:=f.1.2.1.getD v.toNat 0;let t:=f.1.2.2.1.getD v.toNat 0;let k:=f.2.2.1.getD a3.toNat 0;let j:=f.2.2.2.getD v.toNat 0;let o:=a5.1.getD j.toNat 0;Iq v<|cnd (decide (v<(r:Int))) (Ix v q<|Ix j a5.1.length<|Ix v r<|Ix a3 w<|((o != k)=false->v<(q:Int)/\0<=v)/\((o != k)=false->j<(a5.2.1.length:Int)/\0<=j)/\((o != k)=false->v<(f.1.2.2.1.length:Int)/\0<=v)/\((o != k)=false->t<(w:Int)/\0<=t)/\cnd (o != k||a5.2.1.getD j.toNat 0 != f.2.2.1.getD t.toNat 0) (K (false,())) (Ik (v+1)<|b ((v+1,()),()))) (bn (S:=ce7) (fun c d=>let a4:=c.1.1;let a2:=f.2.2.1.getD a4.toNat 0;let z:=f.1.2.2.2.1.getD a4.toNat 0;Iq a4<|cnd (decide (a4<f.1.1)) (Ix a4 f.1.2.2.2.1.length<|Ix z q<|Ix a4 w<|Ix a2 a5.2.2.1.length<|cnd (f.2.2.2.getD z.toNat 0 != a5.2.2.1.getD a2.toNat 0) (K (false,())) (Ik (a4+1)<|d ((a4+1,()),()))) (bn (S:=ce7) (fun e g=>let x:=e.1.1;let a1:=f.1.2.2.2.2.getD x.toNat [];let p:=f.2.2.2.getD x.toNat 0;let a0:=a5.2.2.2.getD p.toNat [];let l:=f.1.2.2.1.getD x.toNat 0;Iq x<|cnd (decide (x<(r:Int))) (bn (S:=ce7) (fun h i=>let y:=h.1.1;let u:=f.2.2.2.getD y.toNat 0;let n:=a1.getD y.toNat 0;let m:=f.1.2.1.getD y.toNat 0;Iq y<|cnd (decide (y<(r:Int))) (Ix x f.1.2.2.1.length<|Ix y r<|((l==m)=true->x<(f.1.2.2.2.2.length:Int)/\0<=x)/\((l==m)=true->y<(a1.length:Int)/\0<=y)/\((l==m)=true->n<(q:Int)/\0<=n)/\((l==m)=true->x<(q:Int)/\0<=x)/\((l==m)=true->p<(a5.2.2.2.length:Int)/\0<=p)/\((l==m)=true->y<(q:Int)/\0<=y)/\((l==m)=true->u<(a0.length:Int)/\0<=u)/\cnd (l==m&&f.2.2.2.getD n.toNat 0 != a0.getD u.toNat 0) (K (false,())) (Ik (y+1)<|i ((y+1,()),()))) (Ik (x+1)<|g ((x+1,()),()))) ((0,()),())) (K (true,()))) ((0,()),()))) ((0,()),()))) ((0,()),())))
theorem bk7(f:am)(hok:ab (okL kz.args (f,())))(hpre:ab (kz.pre (f,()))):amn f (fun r=>r=kz.res (f,())):=by
 simp only[kz,okL,T.oks,T.ok,ap,ab,a0f,a0c,a0g]at hok hpre
 try dsimp only[T.den]at hok hpre
 delta amn Ik Iq Ix
 dsimp -proj -eta only;have hfs:∀h:d5 f=true,FitP f:=fun h=>by simp only[d5,a0b]at h;exact (amr (sr h.1.1)).1 h.2
 have bad0:¬(k9 f.1=true/\k9 f.2.1=true/\FitP f)->(false,())=kz.res (f,()):=fun h=>by
  simp only[kz]
  cases hs:d5 f with
  |false=>rfl
  |true=>
   refine absurd ⟨?_,?_,hfs hs⟩ h
   ·simp only[d5,a0b]at hs;exact hs.1.1
   ·simp only[d5,a0b]at hs;exact hs.1.2
 refine ba (fun hc=>bad0 fun h=>?_) (fun hc=>ba (fun hd=>bad0 fun h=>?_) (fun hd=>?_))
 ·have h1:=h.1;have h2:=h.2.1;have h3:=h.2.2.lo;have h4:=h.2.2.la;grind[cnd,eh,au]
 ·have h1:=h.2.2.ow;have h2:=h.2.2.aw;grind[cnd,eh,au]
 simp only[a2j,a2t,a1w]at hc hd;obtain⟨⟨⟨hc1,hc2⟩,hlo⟩,hla⟩:=hc;obtain⟨how,haw⟩:=hd;have S:=sr hc1;have S2:=sr hc2;have at1:∀i j:Int,(f.1.2.2.2.2.getD i.toNat []).getD j.toNat 0=bi f.1 i j:=fun _ _=>rfl;have at2:∀i j:Int,(f.2.1.2.2.2.2.getD i.toNat []).getD j.toNat 0=bi f.2.1 i j:=fun _ _=>rfl;have hob:=S.ob;have hlt:=S.lt;have hli:=S.li;have hlc:=S.lc;have hmm:=S.m;have tob:=S2.ob;have tlt:=S2.lt;have tli:=S2.li;have tlc:=S2.lc
 have bad:¬FitP f->(false,())=kz.res (f,()):=fun h=>by
  simp only[kz]
  cases hs:d5 f with
  |false=>rfl
  |true=>exact absurd (hfs hs) h
 refine jc (n:=f.1.2.1.length) (fun a=>∀a':Int,0<=a'->a'<a->f.2.1.2.1.getD (f.2.2.2.getD a'.toNat 0).toNat 0=f.2.2.1.getD (f.1.2.1.getD a'.toNat 0).toNat 0/\f.2.1.2.2.1.getD (f.2.2.2.getD a'.toNat 0).toNat 0=f.2.2.1.getD (f.1.2.2.1.getD a'.toNat 0).toNat 0) (by omega) (by intro y h0 h1;omega) ?_ ?_
 ·intro a next a0 a1 hP hn hin
  try dsimp only
  have sa:=S.frm a0 (by omega);have fa:=ep.1 haw a a0 (by omega);refine bd (fun _=>⟨a0,by omega,fa.1,by omega,a0,by omega,sa.1,by omega,fun _=>by omega,fun _=>by omega,fun _=>by omega,fun _=>by omega,ba (fun hx=>bad fun h=>?_) (fun hx=>⟨by rw[au];(try dsimp only);omega,hn fun a' b0 b1=>?_⟩)⟩) (fun h=>absurd a1 h)
  ·have:=h.ends a a0 (by omega);rw[this.1,this.2]at hx;simp at hx
  ·by_cases e:a'=a
   ·rw[e];simpa only [a2j,a1w]using hx
   ·exact hP a' b0 (by omega)
 intro next hE hin
 refine bd (fun h=>absurd h (by dsimp only;omega)) (fun _=>?_);clear next
 refine jc (n:=f.1.1) (fun x=>∀x':Int,0<=x'->x'<x->f.2.2.2.getD (f.1.2.2.2.1.getD x'.toNat 0).toNat 0=f.2.1.2.2.2.1.getD (f.2.2.1.getD x'.toNat 0).toNat 0) (by omega) (by intro y h0 h1;omega) ?_ ?_
 ·intro x next x0 x1 hP hn hin
  try dsimp only
  have ix:=S.idn x0 x1;have ox:=ep.1 how x x0 (by omega);refine bd (fun _=>⟨x0,by omega,ix.1,by omega,x0,by omega,ox.1,by omega,ba (fun hx=>bad fun h=>?_) (fun hx=>⟨by rw[au];(try dsimp only);omega,hn fun x' b0 b1=>?_⟩)⟩) (fun h=>absurd x1 h)
  ·rw[h.ids x x0 x1]at hx;simp at hx
  ·by_cases e:x'=x
   ·rw[e];simpa only [a1w]using hx
   ·exact hP x' b0 (by omega)
 intro next hI hin
 refine bd (fun h=>absurd h (by dsimp only;omega)) (fun _=>?_);clear next
 refine jc (n:=f.1.2.1.length) (fun a=>∀a':Int,0<=a'->a'<a->∀b:Int,0<=b->b<f.1.2.1.length->f.1.2.2.1.getD a'.toNat 0=f.1.2.1.getD b.toNat 0->f.2.2.2.getD (bi f.1 a' b).toNat 0=bi f.2.1 (f.2.2.2.getD a'.toNat 0) (f.2.2.2.getD b.toNat 0)) (by omega) (by intro y h0 h1;omega) ?_ ?_
 ·intro a next a0 a1 hP hn hin
  try dsimp only
  have ra:=S.row a a0 a1;have fa:=ep.1 haw a a0 (by omega);have rfa:=S2.row _ fa.1 fa.2;refine bd (fun _=>?_) (fun h=>absurd a1 h);refine jc (n:=f.1.2.1.length) (fun b=>∀b':Int,0<=b'->b'<b->f.1.2.2.1.getD a.toNat 0=f.1.2.1.getD b'.toNat 0->f.2.2.2.getD (bi f.1 a b').toNat 0=bi f.2.1 (f.2.2.2.getD a.toNat 0) (f.2.2.2.getD b'.toNat 0)) (by omega) (by intro y h0 h1;omega) ?_ ?_
  ·intro b next2 b0 b1 hP2 hn2 hin2
   try dsimp only
   simp only[at1,at2];have fb:=ep.1 haw b b0 (by omega);have cab:=S.comp a0 a1 b0 b1;have yab:=@ShapeP.yes f.1 S a b a0 a1 b0 b1;refine bd (fun _=>⟨a0,by omega,b0,b1,fun _=>by omega,fun _=>by omega,fun hq=>?_,fun _=>by omega,fun _=>by omega,fun _=>by omega,fun _=>by omega,ba (fun hx=>bad fun h=>?_) (fun hx=>⟨by rw[au];(try dsimp only);omega,hn2 fun b' c0 c1=>?_⟩)⟩) (fun h=>absurd b1 h)
   ·have:=yab (by simpa using hq);omega
   ·simp only[a0b,a0r,a3i]at hx;exact hx.2 (h.comp a a0 a1 b b0 b1 (hx.1))
   ·by_cases e:b'=b
    ·rw[e];intro eab;simp only[a3k,a35,a1w]at hx;rcases hx with hx|hx
     ·exact absurd eab hx
     ·exact hx
    ·exact hP2 b' c0 (by omega)
  ·intro next2 hP2 hin2;refine bd (fun h=>absurd h (by dsimp only;omega)) (fun _=>⟨by rw[au];(try dsimp only);omega,hn fun a' b0 b1=>?_⟩);by_cases e:a'=a
   ·rw[e];exact hP2
   ·exact hP a' b0 (by omega)
 ·intro next hP hin
  refine bd (fun h=>absurd h (by dsimp only;omega)) (fun _=>?_);have key:FitP f:=⟨by omega,by omega,how,haw,fun a a0 a1=>hE a a0 (by omega),hI,hP⟩;simp only[kz,d5];rw[hc1,hc2,(amr S).2 key];rfl
theorem aj9:bw Tryz.prog 35 kz:=ctb (ae ah2 (ae bhg az)) bg 35 Tryz.f35 kz bg1 [(1,999999),(22,42),(9,40),(14,19)] (fun x K=>amn x.1 K) (fun x h1 h2=>bk7 x.1 h1 h2)
structure ColP (l:List (List Int)) (k:Int):Prop where
 k0:0<=k
 len:l.length<=1099511627776
 row:∀r∈l,k<r.length
def sw(l:List (List Int))(k:Int):List Int:=l.map fun r=>r.getD k.toNat 0
def og:Ct:=⟨[wm,bc],[false,false],fun x=>[ColP x.1 x.2.1],[(false,dq)],fun x=>(sw x.1 x.2.1,()),false,none⟩
def aw2:Ann:=(.s .n (.s .n (.s (.s .n (.l bij ak5 [0,1] .n)) .n)))
def ae6(lists:List (List Int))(k:Int)(K:(List Int)×Unit->Prop):Prop:=bn (S:=(ce4×cez)) (fun a b=>let d:=a.1.2.1;let c:=lists.getD d.toNat [];Iq d<|Ol a.2.1<|cnd (decide (d<(lists.length:Int))) (Ix d lists.length<|Ix k c.length<|c9 a.2.1.length [c.getD k.toNat 0].length 8/\(Ik (d+1)<|b (((),d+1,()),a.2.1++[c.getD k.toNat 0],()))) (K (a.2.1,()))) (((),0,()),[],())
theorem axw(lists:List (List Int))(k:Int)(hok:ab (okL og.args (lists,k,())))(hpre:ab (og.pre (lists,k,()))):ae6 lists k (fun r=>r=og.res (lists,k,())):=by
 simp only[og,okL,T.oks,T.ok,ap,ab,a0f,a0c,a0g]at hok hpre
 try dsimp only[T.den]at hok hpre
 delta ae6 Ik Iq Ix Ol
 dsimp -proj -eta only;obtain⟨k0,hl,hr⟩:=hpre;clear hok;refine uz (fun i=>sw (lists.take i.toNat) k) (n:=lists.length) (by omega) rfl ?_ ?_
 ·intro i next i0 i1 hn _ _
  try dsimp only at hn⊢
  have hk:=hr _ (cp lists [] i0 i1);have hc:(sw (lists.take i.toNat) k).length<=lists.length:=by unfold sw;rw[a00,a03];omega
  have hs:sw (lists.take (i+1).toNat) k=sw (lists.take i.toNat) k++[(lists.getD i.toNat []).getD k.toNat 0]:=by unfold sw;rw[mm lists [] i0 i1,a2m];rfl
  rw[hs]at hn;exact bd (fun _=>⟨i0,i1,k0,hk,ck (by simp only[a0h,a0i];omega),by rw[au];(try dsimp only);omega,hn⟩) (fun h=>absurd i1 h)
 ·intro next _ _
  refine bd (fun h=>absurd h (a1b _)) (fun _=>?_);simp only[og];rw[acf _ (a02 _)]
theorem aw4:bw Tryz.prog 49 og:=ctb az bg 49 Tryz.f49 og aw2 [] (fun x K=>ae6 x.1 x.2.1 K) (fun x h1 h2=>axw x.1 x.2.1 h1 h2)
def m9:Ct:=⟨[ed,ed],[false,false],fun x=>[],[(false,kf)],fun x=>(eqR ed x.1 x.2.1,()),false,none⟩
def bbi:Ann:=(.s .n (.s .n (.s (.s .n (.l ais [] [0,1] .n)) .n)))
def ahr(a b:List Int)(K:Bool×Unit->Prop):Prop:=cnd ((a.length:Int) != (b.length:Int)) (K (false,())) (bn (S:=ce7) (fun c d=>let e:=c.1.1;Iq e<|cnd (decide (e<(a.length:Int))) (Ix e a.length<|Ix e b.length<|cnd (a.getD e.toNat 0 != b.getD e.toNat 0) (K (false,())) (Ik (e+1)<|d ((e+1,()),()))) (K (true,()))) ((0,()),()))
theorem bdl(a b:List Int)(hok:ab (okL m9.args (a,b,())))(hpre:ab (m9.pre (a,b,()))):ahr a b (fun r=>r=m9.res (a,b,())):=by
 simp only[m9,okL,T.oks,T.ok,ap,ab,a0f,a0c,a0g]at hok hpre
 try dsimp only[T.den]at hok hpre
 delta ahr Ik Iq Ix
 dsimp -proj -eta only;have ha:a.length<=140737488355328:=by simp only[eh]at hok;omega
 clear hok;refine ba (fun h=>?_) (fun h=>?_)
 ·simp only[m9];rw[bxw];rintro rfl;simp at h
 have hl:a.length=b.length:=by rw[a1w]at h;omega
 refine jc (n:=a.length) (fun i=>a.take i.toNat=b.take i.toNat) (by omega) (by simp) ?_ ?_
 ·intro i next i0 i1 hP hn hin
  have hta:=mm a 0 i0 i1;have htb:=mm b 0 i0 (by omega);refine bd (fun _=>⟨i0,i1,i0,by omega,ba (fun h1=>?_) (fun h1=>⟨by rw[au];(try dsimp only);omega,hn ?_⟩)⟩) (fun h=>absurd i1 h)
  ·simp only[m9];rw[bxw];rintro rfl;simp at h1
  ·rw[a1w]at h1;rw[hta,htb,hP,h1]
 ·intro next hP hin
  refine bd (fun h=>absurd h (by dsimp only;omega)) (fun _=>?_);rw[acf _ (a02 _),acf _ (by omega)]at hP;simp only[m9,hP,bjz]
theorem anr:bw Tryz.prog 89 m9:=ctb az bg 89 Tryz.f89 m9 bbi [(6,9)] (fun x K=>ahr x.1 x.2.1 K) (fun x h1 h2=>bdl x.1 x.2.1 h1 h2)
def ai4(l:List (List Int))(x:List Int):Int:=io l x
def pj:Ct:=⟨[wm,ed],[false,false],fun x=>[x.1.length<=1099511627776],[(false,kg)],fun x=>(ai4 x.1 x.2.1,()),false,none⟩
def ba7:Ann:=(.s .n (.s (.s .n (.l ais [] [0,1] .n)) .n))
def ahq(lists:List (List Int))(list:List Int)(K:Int×Unit->Prop):Prop:=bn (S:=ce7) (fun a b=>Iq a.1.1<|cnd (decide (a.1.1<(lists.length:Int))) (Ix a.1.1 lists.length<|cnd (eqR ed (lists.getD a.1.1.toNat []) list) (K (a.1.1,())) (Ik (a.1.1+1)<|b ((a.1.1+1,()),()))) (K (-1,()))) ((0,()),())
theorem bcp(lists:List (List Int))(list:List Int)(hok:ab (okL pj.args (lists,list,())))(hpre:ab (pj.pre (lists,list,()))):ahq lists list (fun r=>r=pj.res (lists,list,())):=by
 simp only[pj,okL,T.oks,T.ok,ap,ab,a0f,a0c,a0g]at hok hpre
 try dsimp only[T.den]at hok hpre
 delta ahq Ik Iq Ix
 have hl:lists.length<=1099511627776:=hpre;clear hok;refine jc (n:=lists.length) (fun i=>∀k:Int,0<=k->k<i->lists.getD k.toNat []≠list) (by omega) (by intro k h0 h1;omega) ?_ ?_
 ·intro i next i0 i1 hP hn _
  try dsimp only
  refine bd (fun _=>⟨i0,i1,ba (fun hx=>?_) (fun hx=>⟨by rw[au];(try dsimp only);omega,hn fun k k0 k1=>?_⟩)⟩) (fun h=>absurd i1 h)
  ·have:ai4 lists list=i:=aui (z:=([]:List Int)) i0 i1 (abf.1 hx) hP;simp only[pj,this]
  ·by_cases hk:k=i
   ·subst hk;intro e;rw[abf.2 e]at hx;cases hx
   ·exact hP k k0 (by omega)
 ·intro next hP _
  refine bd (fun h=>absurd h (a1b _)) (fun _=>?_);have:ai4 lists list=-1:=bio (z:=([]:List Int)) hP;simp only[pj,this]
theorem bax:bw Tryz.prog 51 pj:=ctb (ae anr az) bg 51 Tryz.f51 pj ba7 [] (fun x K=>ahq x.1 x.2.1 K) (fun x h1 h2=>bcp x.1 x.2.1 h1 h2)
def qz:Ct:=⟨[jq,yg,yg],[true,true,true],fun x=>[CmpP x.1 x.2.1 x.2.2.1],[(false,dq)],fun x=>(kt x.1 x.2.1 x.2.2.1,()),false,none⟩
def bal:Ann:=(.s .n (.s .n (.s .n (.s (.s .n (.l [(8,(.ref 800008 [])),(9,(.d bc))] awd [3,4,5,7] (.s .n (.s (.s .n (.s (.s .n (.l [(8,(.ref 800008 [])),(10,(.d .bool)),(11,(.d bc))] awd [3,4,5,7,9] .n)) (.s .n (.j [(8,(.ref 800008 []))] awd [3,4,5,7,9] .n)))) .n)))) .n))))
def byj:FuncId->Option Ct:=lkp [(88,mo),(52,vz)]
def aim(d:am)(p q:bo)(K:(List Int)×Unit->Prop):Prop:=let j:=ip d.2.1 p.1 q.1;d.2.1.2.1.length<=40/\d.2.1.2.2.1.length=d.2.1.2.1.length/\bn (S:=(ce4×cez)) (fun a b=>let l:=a.1.2.1;let h:=j.getD l.toNat 0;Iq l<|Ol a.2.1<|cnd (decide (l<(j.length:Int))) (bn (S:=(cfh×cez)) (fun c e=>let i:=c.1.2.2.1;Iq i<|Ol c.2.1<|cnd (decide (i<(p.2.length:Int))&&c.1.2.1) (Ix l j.length<|Ix i q.2.length<|Ix h d.2.1.2.2.2.2.length<|Ix (q.2.getD i.toNat 0) (d.2.1.2.2.2.2.getD h.toNat []).length<|Ix i p.2.length<|Ik (i+1)<|e (((),bi d.2.1 h (q.2.getD i.toNat 0)==p.2.getD i.toNat 0,i+1,()),c.2.1,())) (dk (S:=cfo) (fun f=>Ol f.2.1<|Ik (l+1)<|b (((),l+1,()),f.2.1,())) (fun g=>cnd c.1.2.1 (Ix l j.length<|c9 c.2.1.length [h].length 8/\g (((),()),c.2.1++[h],())) (g (((),()),c.2.1,()))))) (((),true,0,()),a.2.1,())) (K (a.2.1,()))) (((),0,()),[],())
theorem bcv(d:am)(p q:bo)(hok:ab (okL qz.args (d,p,q,())))(hpre:ab (qz.pre (d,p,q,()))):aim d p q (fun r=>r=qz.res (d,p,q,())):=by
 simp only[qz,okL,T.oks,T.ok,ap,ab,a0f,a0c,a0g]at hok hpre
 try dsimp only[T.den]at hok hpre
 delta aim Ik Iq Ix Ol
 dsimp -proj -eta only;obtain⟨S,hl,hn,hq⟩:=hpre;refine⟨S.m,S.lt,?_⟩;have hL:=avq S p.1 q.1;have hmem:=fun i:Int=>@avl d.2.1 p.1 q.1 i;have hval:=@bnh d p q;have hlc:=S.lc;have hm:=S.m;generalize ip d.2.1 p.1 q.1=l at *;refine uz (abo (fun u=>jv q.2.length (ah5 d p q u)) l) (n:=l.length) (by omega) rfl ?_ ?_
 ·intro i next h0 h1 hnx hin hok
  have hmi:=hmem i h0 h1;have hr:=S.row _ hmi.1 hmi.2.1;have hf:=@bc0 (fun u=>jv q.2.length (ah5 d p q u)) l i;refine bd (fun _=>?_) (fun h=>absurd h1 h)
  try dsimp only
  refine bq (fun (s:(cfh×cez))=>0<=s.1.2.2.1/\s.1.2.2.1<=q.2.length/\s.2.1=abo (fun u=>jv q.2.length (ah5 d p q u)) l i/\(s.1.2.1=true->jv s.1.2.2.1.toNat (ah5 d p q (l.getD i.toNat 0))=true)/\(s.1.2.1=false->jv q.2.length (ah5 d p q (l.getD i.toNat 0))=false)) (fun (s:(cfh×cez))=>(q.2.length-s.1.2.2.1).toNat) ?_ ⟨a02 _,by dsimp only;omega,rfl,fun _=>rfl,fun h=>nomatch h⟩;rintro⟨⟨_,b,j,_⟩,y,_⟩ next1 ⟨j0,j1,hy,ht,hf2⟩ hn1 hin1 hok1
  try dsimp only at j0 j1 hy ht hf2 hn1⊢
  subst hy;refine ba (fun hc=>?_) (fun hc=>?_)
  ·obtain⟨hc1,rfl⟩:j<(p.2.length:Int)/\b=true:=by simpa using hc
   have hP:=ht rfl;have hqj:=hq _ (cp q.2 0 j0 (by omega));refine⟨h0,h1,j0,by omega,hmi.1,by omega,hqj.1,by omega,j0,by omega,by rw[au];(try dsimp only);omega,hn1 _ ⟨by dsimp only;omega,by dsimp only;omega,rfl,fun h=>?_,fun h=>awc j0 (by omega) h⟩ (by dsimp only;omega)⟩
   try dsimp only
   rw[atl j0,hP,a1v];exact h
  ·refine cz (fun s1=>s1.2.1=abo (fun u=>jv q.2.length (ah5 d p q u)) l (i+1)) (fun s1 hs _=>⟨by rw[au];(try dsimp only);omega,by rw[←hs]at hnx;exact hnx⟩) (fun k hk=>?_)
   cases b with
   |true=>
    have hj:¬j<(p.2.length:Int):=by simpa using hc
    have e:j.toNat=q.2.length:=by omega
    have hP:=ht rfl;rw[e]at hP;refine⟨fun _=>⟨h0,h1,?_,hk _ (bpg h0 h1 hP).symm⟩,fun h=>nomatch h⟩;unfold c9;rw[eh];have h3:((l.getD i.toNat 0)::([]:List Int)).length=1:=rfl;rw[h3];omega
   |false=>exact⟨(fun h=>nomatch h),fun _=>hk _ (bh6 h0 h1 (hf2 rfl)).symm⟩
 ·intro next hin hok
  refine bd (fun h=>absurd h (a1b _)) (fun _=>?_);simp only[qz];rw[bo2 (by omega),hval]
theorem an7:bw Tryz.prog 48 qz:=ctb (ae y5 (ae aop az)) bg 48 Tryz.f48 qz bal [(10,17)] (fun x K=>aim x.1 x.2.1 x.2.2.1 K) (fun x h1 h2=>bcv x.1 x.2.1 x.2.2.1 h1 h2)
def ccH(d:am)(L:List bo)(s t:Int):List (List Int):=(kt d (L.getD s.toNat (0,[])) (L.getD t.toNat (0,[]))).map fun u=>[s,t,u]
def bie(d:am)(L:List bo)(s:Int):List (List Int):=(bh L.length (ccH d L s)).flatten
def arh(d:am)(L:List bo):List (List Int):=(bh L.length (bie d L)).flatten
def ccC(d:am)(A:List (List Int))(i j:Int):Int:=if (A.getD i.toNat []).getD 1 0=(A.getD j.toNat []).getD 0 0 then ai4 A [(A.getD i.toNat []).getD 0 0,(A.getD j.toNat []).getD 1 0,bi d.2.1 ((A.getD i.toNat []).getD 2 0) ((A.getD j.toNat []).getD 2 0)]else -1
def ccK(d:am)(L:List bo)(A:List (List Int)):aa:=((L.length:Int),sw A 0,sw A 1,bh L.length (fun s=>ai4 A [s,s,d.2.1.2.2.2.1.getD (L.getD s.toNat (0,[])).1.toNat 0]),bh A.length fun i=>bh A.length fun j=>ccC d A i j)
def ccN:aa:=(0,[],[],[],[])
def ccR(d:am):aa×Int:=if d5 d=false then (ccN,1)else if (kj d).length>8 then (ccN,3)else if (arh d (kj d)).length>40 then (ccN,3)else (ccK d (kj d) (arh d (kj d)),0)
theorem bns{d:am}(S:ShapeP d.2.1){p q:bo}:(kt d p q).length<=40:=by have h1:=@abg (fun f=>d.2.1.2.1.getD f.toNat 0==p.1&&d.2.1.2.2.1.getD f.toNat 0==q.1) d.2.1.2.1.length;have h2:=S.m;have h3:(kt d p q).length<=(ip d.2.1 p.1 q.1).length:=a4k _ _;unfold ip at h3;omega
theorem cbh{d:am}{L:List bo}{r:List Int}(h:r∈arh d L):∃s t u:Int,r=[s,t,u]/\(0<=s/\s<L.length)/\(0<=t/\t<L.length)/\u∈kt d (L.getD s.toNat (0,[])) (L.getD t.toNat (0,[])):=by unfold arh at h;obtain⟨l1,h1,h2⟩:=a3b.1 h;obtain⟨s,s0,s1,rfl⟩:=lp.1 h1;unfold bie at h2;obtain⟨l2,h3,h4⟩:=a3b.1 h2;obtain⟨t,t0,t1,rfl⟩:=lp.1 h3;unfold ccH at h4;obtain⟨u,hu,rfl⟩:=a2c.1 h4;exact⟨s,t,u,rfl,⟨s0,s1⟩,⟨t0,t1⟩,hu⟩
theorem bam{α:Type}{f:Int->List α}{i:Int}(h:0<=i):(bh (i+1).toNat f).flatten=(bh i.toNat f).flatten++f i:=by rw[kq h,List.flatten_append];simp
def s9:Ct:=⟨[jq],[true],fun x=>[],[(true,awj),(false,kg)],fun x=>((ccR x.1).1,(ccR x.1).2,()),true,none⟩
def arp:Ann:=(.s .n (.s .n (.s .n (.s .n (.s .n (.s .n (.s (.s .n (.l [(2,(.ad 2 [.de])),(6,(.ref 800006 [])),(7,(.d bc))] bpo [1,4] (.s .n (.s (.s .n (.l [(2,(.ad 2 [.de])),(6,(.ref 800006 [])),(8,(.d bc))] bpo [1,4,7] (.s .n (.s (.s .n (.s .n (.l [(2,(.ad 2 [.de])),(6,(.ref 800006 [])),(10,(.d bc))] bpo [1,4,7,8,9] .n))) .n)))) .n)))) (.s .n (.s .n (.s (.s .n (.l [(2,(.ad 2 [.de])),(11,(.ad 11 [.de])),(12,(.d bc))] [(2,gh),(11,gh)] [1,4,6] .n)) (.s (.s .n (.l [(2,(.ad 2 [.de])),(11,(.ad 11 [.de])),(13,(.d bc))] [(2,gh),(11,gh)] [1,6] (.s .n (.s (.s .n (.s (.s .n (.l [(2,(.ad 2 [.de])),(11,(.ad 11 [.de])),(14,(.ref 800014 [])),(15,(.d bc))] [(2,gh),(11,gh),(800014,dq)] [1,6,13] (.s .n (.s (.s .n (.s (.s .n (.j [(2,(.ad 2 [.de])),(11,(.ad 11 [.de])),(14,(.ref 800014 [])),(16,(.d bc))] [(2,gh),(11,gh),(800014,dq)] [1,6,13,15] .n)) .n)) .n)))) .n)) .n)))) .n)))))))))))
def bpe:FuncId->Option Ct:=lkp [(50,tj),(52,vz),(35,kz),(49,og),(51,pj),(47,l6),(48,qz)]
def abm(d:am)(K:aa×Int×Unit->Prop):Prop:=let a1:=(ad4 d).getD;let w:=(ad4 d).length;cnd (!d5 d) (K ((0,[],[],[],[]),1,())) (d5 d=true/\cnd (ae8 d != 0) (K ((0,[],[],[],[]),ae8 d,())) (cnd (decide (8<(w:Int))) (K ((0,[],[],[],[]),3,())) (bn (S:=(cex×cfj)) (fun a b=>let a3:=a.2.2.1;let y:=a.1.2.2.1;let v:=a3.length;Iq y<|Oc a.2.1<|Om a3<|cnd (decide (y<(w:Int))) (bn (S:=(cex×cfj)) (fun c e=>let z:=c.1.2.2.1;let q:=kt d (a1 y.toNat (0,[])) (a1 z.toNat (0,[]));Iq z<|Oc c.2.1<|Om c.2.2.1<|cnd (decide (z<(w:Int))) (Ix y w<|Ix z w<|CmpP d (a1 y.toNat (0,[])) (a1 z.toNat (0,[]))/\bn (S:=(cex×cfj)) (fun f g=>let a5:=f.1.2.2.1;Iq a5<|Oc f.2.1<|Om f.2.2.1<|cnd (decide (a5<(q.length:Int))) (Ix a5 q.length<|c9 f.2.2.1.length [[y,z,q.getD a5.toNat 0]].length 24/\(Ik (a5+1)<|g (((),(),a5+1,()),f.2.1,f.2.2.1++[[y,z,q.getD a5.toNat 0]],()))) (Ik (z+1)<|e (((),(),z+1,()),f.2.1,f.2.2.1,()))) (((),(),0,()),c.2.1,c.2.2.1,())) (Ik (y+1)<|b (((),(),y+1,()),c.2.1,c.2.2.1,()))) (((),(),0,()),a.2.1,a3,())) (ColP a3 0/\ColP a3 1/\cnd (!(decide ((w:Int)<=8)&&decide (((sw a3 0).length:Int)<=40))) (K ((0,[],[],[],[]),3,())) (bn (S:=(cex×ce1)) (fun h i=>let a7:=h.2.2.1;let a0:=h.1.2.2.1;let b0:=(a1 a0.toNat (0,[])).1;let u:=ai4 a3 [a0,a0,d.2.1.2.2.2.1.getD b0.toNat 0];Iq a0<|Oc h.2.1<|Oc a7<|cnd (decide (a0<(w:Int))) (Ix a0 w<|Ix b0 d.2.1.2.2.2.1.length<|v<=1099511627776/\c9 a7.2.2.2.1.length [u].length 8/\(Ik (a0+1)<|i (((),(),a0+1,()),h.2.1,(a7.1,a7.2.1,a7.2.2.1,a7.2.2.2.1++[u],a7.2.2.2.2),()))) (bn (S:=(cex×ce1)) (fun j l=>let a2:=j.1.2.2.1;let r:=a3.getD a2.toNat [];let a4:=r.getD (Int.toNat 2) 0;Iq a2<|Oc j.2.1<|Oc j.2.2.1<|cnd (decide (a2<(v:Int))) (bn (S:=ce3) (fun m n=>let a8:=m.2.2.2.1;let a6:=m.2.2.1;let x:=m.1.2.2.2.1;let t:=a3.getD x.toNat [];let a9:=t.getD (Int.toNat 2) 0;Iq x<|Oc m.2.1<|Oc a6<|Ol a8<|cnd (decide (x<(v:Int))) (Ix a2 v<|Ix 1 r.length<|Ix x v<|Ix 0 t.length<|dk (S:=ce3) (fun o=>Iq o.1.2.2.2.1<|Oc o.2.1<|Oc o.2.2.1<|Ol o.2.2.2.1<|c9 o.2.2.2.1.length [o.1.2.2.2.1].length 8/\(Ik (x+1)<|n (((),(),(),x+1,()),o.2.1,o.2.2.1,o.2.2.2.1++[o.1.2.2.2.1],()))) (fun p=>cnd (r.getD (Int.toNat 1) 0==t.getD (Int.toNat 0) 0) (Ix a2 v<|Ix 0 r.length<|Ix x v<|Ix 1 t.length<|Ix a2 v<|Ix 2 r.length<|Ix x v<|Ix 2 t.length<|Ix a4 d.2.1.2.2.2.2.length<|Ix a9 (d.2.1.2.2.2.2.getD a4.toNat []).length<|v<=1099511627776/\p (((),(),(),ai4 a3 [r.getD (Int.toNat 0) 0,t.getD (Int.toNat 1) 0,bi d.2.1 a4 a9],()),m.2.1,a6,a8,())) (p (((),(),(),-1,()),m.2.1,a6,a8,())))) (c9 a6.2.2.2.2.length [a8].length 24/\(Ik (a2+1)<|l (((),(),a2+1,()),m.2.1,(a6.1,a6.2.1,a6.2.2.1,a6.2.2.2.1,a6.2.2.2.2++[a8]),())))) (((),(),(),0,()),j.2.1,j.2.2.1,[],())) (K (j.2.2.1,0,()))) (((),(),0,()),h.2.1,a7,()))) (((),(),0,()),a.2.1,((w:Int),sw a3 0,sw a3 1,[],[]),())))) (((),(),0,()),(0,[],[],[],[]),[],()))))
theorem ath(d:am):Mh s9 (d,()) (abm d):=by
 intro hok hpre
 delta abm Ik Iq Ix Oc Ol Om
 dsimp -proj -eta only;clear hok hpre;have hres:(s9).res (d,())=((ccR d).1,(ccR d).2,()):=rfl;rw[hres];refine ba (fun h=>?_) (fun h=>?_)
 ·have h:d5 d=false:=by simpa using h
  simp only[ccR,a0a h];rfl
 have hf:d5 d=true:=by simpa using h
 have hf':¬d5 d=false:=by rw[hf];decide
 have F:=alc hf;have S:=F.tgt;have sm:=S.m;have slc:=S.lc;have sli:=S.li;refine⟨hf,?_⟩;have hcl:=@aqx d;by_cases hb:(kj d).length>400
 ·refine ba (fun _=>?_) (fun h=>?_)
  ·have:(kj d).length>8:=by omega
   simp only[ccR,ds hf',a0a this,ae8,a0a hb];rfl
  ·exfalso;unfold ae8 at h;rw[a0a hb]at h;exact absurd h (by decide)
 refine ba (fun h=>?_) (fun _=>?_)
 ·exfalso;unfold ae8 at h;rw[ds hb]at h;exact absurd h (by decide)
 have hls:ad4 d=kj d:=by unfold ad4;rw[ds hb]
 rw[hls];have hcone:∀i:Int,0<=i->i<(kj d).length->ConeP d ((kj d).getD i.toNat (0,[])):=fun i i0 i1=>azr hf (cp _ _ i0 i1);have hcc:¬(kj d).length>8->ccR d=if (arh d (kj d)).length>40 then (ccN,3)else (ccK d (kj d) (arh d (kj d)),0):=fun h8=>by simp only[ccR,ds hf',ds h8]
 refine bd (fun h8=>?_) (fun h8=>?_)
 ·have:(kj d).length>8:=by omega
  simp only[ccR,ds hf',a0a this];rfl
 have hcc:=hcc (by omega);rw[hcc];generalize kj d=L at *;clear hcc hcl hb hls hres;refine bq (fun (s:(cex×cfj))=>0<=s.1.2.2.1/\s.1.2.2.1<=L.length/\s.2.2.1=(bh s.1.2.2.1.toNat (bie d L)).flatten/\(s.2.2.1.length:Int)<=320*s.1.2.2.1) (fun (s:(cex×cfj))=>(L.length-s.1.2.2.1).toNat) ?_ ⟨by simp,by simp,rfl,by simp⟩;rintro⟨⟨_,_,i,_⟩,z1,A,_⟩ next ⟨i0,i1,hA,hAl⟩ hnx
 intros
 try dsimp only at i0 i1 hA hAl hnx⊢
 refine bd (fun hi=>?_) (fun hi=>?_)
 ·refine bq (fun (s:(cex×cfj))=>0<=s.1.2.2.1/\s.1.2.2.1<=L.length/\s.2.2.1=A++(bh s.1.2.2.1.toNat (ccH d L i)).flatten/\(s.2.2.1.length:Int)<=320*i+40*s.1.2.2.1) (fun (s:(cex×cfj))=>(L.length-s.1.2.2.1).toNat) ?_ ⟨by simp,by simp,by simp[bh],by dsimp only;omega⟩;rintro⟨⟨_,_,t,_⟩,z2,A2,_⟩ next1 ⟨t0,t1,hA2,hAl2⟩ hn1;intros
  try dsimp only at t0 t1 hA2 hAl2 hn1⊢
  refine bd (fun ht=>?_) (fun ht=>?_)
  ·have hml:=bns S (p:=L.getD i.toNat (0,[])) (q:=L.getD t.toNat (0,[]));have hH:ccH d L i t=(kt d (L.getD i.toNat (0,[])) (L.getD t.toNat (0,[]))).map fun u=>[i,t,u]:=rfl;refine⟨i0,hi,t0,ht,aso F (hcone i i0 hi) (hcone t t0 ht),?_⟩;generalize kt d (L.getD i.toNat (0,[])) (L.getD t.toNat (0,[]))=G at *;refine bq (fun (s:(cex×cfj))=>0<=s.1.2.2.1/\s.1.2.2.1<=G.length/\s.2.2.1=A2++(G.take s.1.2.2.1.toNat).map fun u=>[i,t,u]) (fun (s:(cex×cfj))=>(G.length-s.1.2.2.1).toNat) ?_ ⟨by simp,by simp,by simp⟩;rintro⟨⟨_,_,k,_⟩,z3,A3,_⟩ next2 ⟨k0,k1,hA3⟩ hn2;intros
   try dsimp only at k0 k1 hA3 hn2⊢
   have hAl3:A3.length=A2.length+k.toNat:=by rw[hA3,a0m,a00,a03];omega
   refine bd (fun hk=>⟨k0,hk,ck (by simp only[a0h,a0i];omega),by rw[au];(try dsimp only);omega,hn2 _ ⟨by dsimp only;omega,by dsimp only;omega,by dsimp only;rw[hA3,mm G 0 k0 hk,a2m,a01];rfl⟩ (by dsimp only;omega)⟩) (fun hk=>?_);refine⟨by rw[au];(try dsimp only);omega,hn1 _ ⟨by dsimp only;omega,by dsimp only;omega,?_,by dsimp only;omega⟩ (by dsimp only;omega)⟩
   try dsimp only
   rw[hA3,a1c (by omega),hA2,a01,bam t0,hH]
  ·have et:t.toNat=L.length:=by omega
   refine⟨by rw[au];(try dsimp only);omega,hnx _ ⟨by dsimp only;omega,by dsimp only;omega,?_,by dsimp only;omega⟩ (by dsimp only;omega)⟩
   try dsimp only
   rw[hA2,hA,et,bam i0];rfl
 have ei:i.toNat=L.length:=by omega
 have hAA:A=arh d L:=by rw[hA,ei];rfl
 rw[←hAA];have hrow:∀r∈A,∃s t u:Int,r=[s,t,u]/\(0<=s/\s<L.length)/\(0<=t/\t<L.length)/\0<=u/\u<d.2.1.2.1.length:=fun r hr=>by rw[hAA]at hr;obtain⟨s,t,u,e,hs,ht,hu⟩:=cbh hr;have:=ti.1 (a3a.1 hu).1;exact⟨s,t,u,e,hs,ht,this.1,this.2.1⟩
 have hlen3:∀r∈A,r.length=3:=fun r hr=>by obtain⟨s,t,u,rfl,_⟩:=hrow r hr;rfl
 have hat:∀k:Int,0<=k->k<A.length->(A.getD k.toNat []).length=3/\0<=(A.getD k.toNat []).getD 2 0/\(A.getD k.toNat []).getD 2 0<d.2.1.2.1.length:=fun k k0 k1=>by obtain⟨s,t,u,e,_,_,u0,u1⟩:=hrow _ (cp A [] k0 k1);rw[e];exact⟨rfl,u0,u1⟩
 clear hA hAA;have hcolP:∀k:Int,0<=k->k<3->ColP A k:=fun k k0 k1=>⟨k0,by omega,fun r hr=>by rw[hlen3 r hr];omega⟩;have hcl:(sw A 0).length=A.length:=by unfold sw;rw[a00]
 refine⟨hcolP 0 (by decide) (by decide),hcolP 1 (by decide) (by decide),ba (fun h=>?_) (fun h=>?_)⟩
 ·have:A.length>40:=by
   rw[hcl,a1p (show (L.length:Int)<=8 by omega),a1v]at h;have:¬(A.length:Int)<=40:=by simpa using h
   omega
  rw[a0a this];rfl
 have h40:¬A.length>40:=by
  rw[hcl,a1p (show (L.length:Int)<=8 by omega),a1v]at h;have:(A.length:Int)<=40:=by simpa using h
  omega
 rw[ds h40];refine bq (fun (s:(cex×ce1))=>0<=s.1.2.2.1/\s.1.2.2.1<=L.length/\s.2.2.1=((L.length:Int),sw A 0,sw A 1,(bh s.1.2.2.1.toNat fun s=>ai4 A [s,s,d.2.1.2.2.2.1.getD (L.getD s.toNat (0,[])).1.toNat 0]),[])) (fun (s:(cex×ce1))=>(L.length-s.1.2.2.1).toNat) ?_ ⟨by simp,by simp,rfl⟩;rintro⟨⟨_,_,x,_⟩,z2,K,_⟩ next1 ⟨x0,x1,hK⟩ hn1;intros
 try dsimp only at x0 x1 hK hn1⊢
 subst hK;refine bd (fun hx=>?_) (fun hx=>?_)
 ·have hc:=hcone x x0 hx;exact⟨x0,hx,hc.x0,by have:=hc.x1;omega,by omega,ck (by rw[bj];simp only[a0h,a0i];omega),by rw[au];(try dsimp only);omega,hn1 _ ⟨by dsimp only;omega,by dsimp only;omega,by dsimp only;rw[kq x0]⟩ (by dsimp only;omega)⟩
 have ex:x.toNat=L.length:=by omega
 rw[ex];have hfin:(ccK d L A)=((L.length:Int),sw A 0,sw A 1,(bh L.length fun s=>ai4 A [s,s,d.2.1.2.2.2.1.getD (L.getD s.toNat (0,[])).1.toNat 0]),bh A.length fun i=>bh A.length fun j=>ccC d A i j):=rfl;rw[hfin];generalize (bh L.length fun s=>ai4 A [s,s,d.2.1.2.2.2.1.getD (L.getD s.toNat (0,[])).1.toNat 0])=I at *;refine bq (fun (s:(cex×ce1))=>0<=s.1.2.2.1/\s.1.2.2.1<=A.length/\s.2.2.1=((L.length:Int),sw A 0,sw A 1,I,bh s.1.2.2.1.toNat fun i=>bh A.length fun j=>ccC d A i j)) (fun (s:(cex×ce1))=>(A.length-s.1.2.2.1).toNat) ?_ ⟨by simp,by simp,rfl⟩;rintro⟨⟨_,_,a,_⟩,z3,K,_⟩ next2 ⟨a0,a1,hK⟩ hn2;intros
 try dsimp only at a0 a1 hK hn2⊢
 subst hK;refine bd (fun ha=>?_) (fun ha=>?_)
 ·refine bq (fun (s:ce3)=>0<=s.1.2.2.2.1/\s.1.2.2.2.1<=A.length/\s.2.2.1=((L.length:Int),sw A 0,sw A 1,I,bh a.toNat fun i=>bh A.length fun j=>ccC d A i j)/\s.2.2.2.1=bh s.1.2.2.2.1.toNat fun j=>ccC d A a j) (fun (s:ce3)=>(A.length-s.1.2.2.2.1).toNat) ?_ ⟨by simp,by simp,rfl,rfl⟩;rintro⟨⟨_,_,_,b,_⟩,z4,K,row,_⟩ next3 ⟨b0,b1,hK,hr⟩ hn3;intros
  try dsimp only at b0 b1 hK hr hn3⊢
  subst hK;subst hr;refine bd (fun hb=>?_) (fun hb=>?_)
  ·have pa:=hat a a0 ha;have pb:=hat b b0 hb;refine⟨a0,ha,by decide,by omega,b0,hb,by decide,by omega,cz (fun (q:ce3)=>q.1.2.2.2.1=ccC d A a b/\q.2.2.1=((L.length:Int),sw A 0,sw A 1,I,bh a.toNat fun i=>bh A.length fun j=>ccC d A i j)/\q.2.2.2.1=bh b.toNat fun j=>ccC d A a j) ?_ ?_⟩
   ·rintro⟨⟨_,_,_,h,_⟩,z5,K,row,_⟩ ⟨q1,q2,q3⟩;intros
    try dsimp only at q1 q2 q3⊢
    subst q1;subst q2;subst q3;exact⟨ck (by rw[bj];simp only[a0h,a0i];omega),by rw[au];(try dsimp only);omega,hn3 _ ⟨by dsimp only;omega,by dsimp only;omega,rfl,by dsimp only;rw[kq b0]⟩ (by dsimp only;omega)⟩
   ·intro k hk;refine ba (fun h=>?_) (fun h=>hk _ ⟨?_,rfl,rfl⟩)
    ·have h:(A.getD a.toNat []).getD 1 0=(A.getD b.toNat []).getD 0 0:=by simpa using h
     refine⟨a0,ha,by decide,by omega,b0,hb,by decide,by omega,a0,ha,by decide,by omega,b0,hb,by decide,by omega,pa.2.1,?_,pb.2.1,?_,by omega,hk _ ⟨?_,rfl,rfl⟩⟩
     ·have:=pa.2.2;show (A.getD a.toNat []).getD 2 0<(d.2.1.2.2.2.2.length:Int);omega
     ·show (A.getD b.toNat []).getD 2 0<((d.2.1.2.2.2.2.getD ((A.getD a.toNat []).getD 2 0).toNat []).length:Int);rw[S.row _ pa.2.1 pa.2.2];exact pb.2.2
     ·try dsimp only;unfold ccC;rw[a0a h];rfl
    ·have h:¬(A.getD a.toNat []).getD 1 0=(A.getD b.toNat []).getD 0 0:=by simpa using h
     try dsimp only;unfold ccC;rw[ds h]
  ·have eb:b.toNat=A.length:=by omega
   rw[eb];exact⟨ck (by rw[bj];simp only[a0h,a0i];omega),by rw[au];(try dsimp only);omega,hn2 _ ⟨by dsimp only;omega,by dsimp only;omega,by dsimp only;rw[kq a0]⟩ (by dsimp only;omega)⟩
 ·have ea:a.toNat=A.length:=by omega
  rw[ea]
theorem aq8:bw Tryz.prog 15 s9:=ctb (ae abz (ae aop (ae aj9 (ae aw4 (ae bax (ae ag2 (ae an7 az))))))) bg 15 Tryz.f15 s9 arp [(35,12),(36,528),(26,518),(15,509)] (fun x K=>abm x.1 K) (fun x h1 h2=>ath x.1 h1 h2)
def icH(d:am)(L:List bo)(s t:Int):List (Int×Int×Int):=(kt d (L.getD s.toNat (0,[])) (L.getD t.toNat (0,[]))).map fun u=>(s,t,u)
def ash(d:am)(L:List bo)(s:Int):List (Int×Int×Int):=(bh L.length (icH d L s)).flatten
def ae9(d:am)(L:List bo):List (Int×Int×Int):=(bh L.length (ash d L)).flatten
def icS(d:am)(n:Nat)(A:List (Int×Int×Int)):Int×List Int:=A.foldl (fun a x=>(a.1+1,if x.1=x.2.1/\idR d.2.1 x.2.2=true then a.2.set x.1.toNat a.1 else a.2)) (0,List.replicate n 0)
def icI(d:am)(n:Nat)(A:List (Int×Int×Int)):List Int:=(icS d n A).2
theorem ced{d:am}{n:Nat}{A:List (Int×Int×Int)}{x:Int×Int×Int}:icS d n (A++[x])=((icS d n A).1+1,if x.1=x.2.1/\idR d.2.1 x.2.2=true then (icS d n A).2.set x.1.toNat (icS d n A).1 else (icS d n A).2):=by unfold icS;rw[a11];rfl
theorem bhl{d:am}{n:Nat}(A:List (Int×Int×Int)):(icS d n A).1=A.length/\(icS d n A).2.length=n:=by
 have g:∀(A:List (Int×Int×Int)) (a:Int×List Int),(A.foldl (fun a x=>(a.1+1,if x.1=x.2.1/\idR d.2.1 x.2.2=true then a.2.set x.1.toNat a.1 else a.2)) a).1=a.1+A.length/\(A.foldl (fun a x=>(a.1+1,if x.1=x.2.1/\idR d.2.1 x.2.2=true then a.2.set x.1.toNat a.1 else a.2)) a).2.length=a.2.length:=by
  intro A
  induction A with
  |nil=>intro a;simp
  |cons x A ih=>
   intro a;rw[a10];obtain⟨h1,h2⟩:=ih (a.1+1,if x.1=x.2.1/\idR d.2.1 x.2.2=true then a.2.set x.1.toNat a.1 else a.2);refine⟨by rw[h1];simp only[a0h];omega,?_⟩;rw[h2];dsimp only;split
   ·rw[a1m]
   ·rfl
 have h:=g A (0,List.replicate n 0);unfold icS;exact⟨by rw[h.1];simp,by rw[h.2];simp⟩
theorem bpk{d:am}{n:Nat}{A:List (Int×Int×Int)}{x:Int×Int×Int}:icI d n (A++[x])=if x.1=x.2.1/\idR d.2.1 x.2.2=true then (icI d n A).set x.1.toNat A.length else icI d n A:=by unfold icI;rw[ced,(bhl A).1]
def icB(d:am)(L:List bo)(A:List (Int×Int×Int)):aa:=((L.length:Int),A.map (·.1),A.map (·.2.1),icI d L.length A,[])
def icK(d:am)(L:List bo)(A:List (Int×Int×Int)):aa:=((L.length:Int),A.map (·.1),A.map (·.2.1),icI d L.length A,ajp (icB d L A) (adv d A))
def ad2(d:am):aa×Int:=if d5 d=false then (ccN,1)else if (jb d).length>8 then (ccN,3)else if (ae9 d (jb d)).length>40 then (ccN,3)else (icK d (jb d) (ae9 d (jb d)),0)
theorem brg{d:am}{L:List bo}{r:Int×Int×Int}(h:r∈ae9 d L):(0<=r.1/\r.1<L.length)/\(0<=r.2.1/\r.2.1<L.length)/\r.2.2∈kt d (L.getD r.1.toNat (0,[])) (L.getD r.2.1.toNat (0,[])):=by unfold ae9 at h;obtain⟨l1,h1,h2⟩:=a3b.1 h;obtain⟨s,s0,s1,rfl⟩:=lp.1 h1;unfold ash at h2;obtain⟨l2,h3,h4⟩:=a3b.1 h2;obtain⟨t,t0,t1,rfl⟩:=lp.1 h3;unfold icH at h4;obtain⟨u,hu,rfl⟩:=a2c.1 h4;exact⟨⟨s0,s1⟩,⟨t0,t1⟩,hu⟩
def tf:Ct:=⟨[jq],[true],fun x=>[],[(true,awj),(false,kg)],fun x=>((ad2 x.1).1,(ad2 x.1).2,()),true,none⟩
def ari:Ann:=(.s .n (.s .n (.s .n (.s .n (.s .n (.s .n (.s (.s .n (.l [(1,(.ad 1 [.de])),(2,(.ad 2 [.de])),(6,(.ad 6 [.de])),(7,(.ad 7 [.de])),(38,(.d bc))] [(1,tyN6),(2,gh),(6,gh),(7,byu)] [4,36,37] (.s .n (.s .n (.s (.s .n (.s .n (.l [(1,(.ad 1 [.de])),(2,(.ad 2 [.de])),(6,(.ad 6 [.de])),(7,(.ad 7 [.de])),(9,(.ad 9 [.de])),(45,(.d bc))] bqu [4,8,36,37,38,43,44] (.s .n (.s .n (.s (.s .n (.s .n (.l [(1,(.ad 1 [.de])),(2,(.ad 2 [.de])),(6,(.ad 6 [.de])),(7,(.ad 7 [.de])),(9,(.ad 9 [.de])),(54,(.d bc))] bqu [4,8,10,36,37,38,43,44,45,52,53] (.s .n (.s .n (.s (.s .n (.s (.s .n (.j [(1,(.ad 1 [.de])),(2,(.ad 2 [.de])),(6,(.ad 6 [.de])),(7,(.ad 7 [.de])),(9,(.ad 9 [.de]))] bqu [4,8,10,13,36,37,38,43,44,45,52,53,54] .n)) .n)) .n)))))) .n)))))) .n))))) .n)))))))
def bpa:FuncId->Option Ct:=lkp [(33,fy),(40,py),(41,pw),(42,mq),(43,aa4)]
def abn(d:am)(K:aa×Int×Unit->Prop):Prop:=let n:=(acR d).length;cnd (!d5 d) (K ((0,[],[],[],[]),1,())) (d5 d=true/\cnd (!wx d||decide (8<(n:Int))) (K ((0,[],[],[],[]),3,())) (0<=(n:Int)/\(n:Int)<=(n:Int)/\(n:Int)<=((140737488355328:Nat):Int)/\(n:Int)*((8:Nat):Int)<=((140737488355328:Nat):Int)/\bn (S:=cfu) (fun a b=>let q:=a.2.2.2;let m:=a.1.2.2.2.2.1;Iq m<|Of a.2.1<|Oc a.2.2.1<|Oc q.1<|T.ok (.sl avz) q.2.1->cnd (decide (m<(n:Int))) (Ix m n<|bn (S:=cfx) (fun c e=>let t:=c.2.2.2;let w:=t.2.2.1;let l:=c.1.2.2.2.2.2.1;let v:=(acR d).getD l.toNat (0,[]);let j:=kt c.2.1 w v;Iq l<|Of c.2.1<|Oc c.2.2.1<|Oc t.1<|T.ok (.sl avz) t.2.1->(Iq w.1<|Ol w.2<|cnd (decide (l<(n:Int))) (Ix l n<|CmpP c.2.1 w v/\bn (S:=cfx) (fun f g=>let p:=f.2.2.2;let x:=p.2.2.1;let o:=f.1.2.2.2.2.2.1;let u:=j.getD o.toNat 0;Iq o<|Of f.2.1<|Oc f.2.2.1<|Oc p.1<|T.ok (.sl avz) p.2.1->(Iq x.1<|Ol x.2<|cnd (decide (o<(j.length:Int))) (Ix o j.length<|((m==l)=true->(Ix u f.2.1.2.1.2.1.length<|ShapeP f.2.1.2.1))/\dk (S:=((Unit×cf8)×cfc)) (fun h=>let r:=h.2.2.2;Of h.2.1<|Oc h.2.2.1<|Oc r.1<|T.ok (.sl avz) r.2.1->(Iq r.2.2.1.1<|Ol r.2.2.1.2<|c9 r.2.1.length ((m,l,u)::([]:List cfq)).length 24/\c9 r.1.2.1.length [m].length 8/\c9 r.1.2.2.1.length [l].length 8/\(Ik (o+1)<|g (((),(),(),(),(),o+1,()),h.2.1,h.2.2.1,(r.1.1,r.1.2.1++[m],r.1.2.2.1++[l],r.1.2.2.2),r.2.1++(m,l,u)::([]:List cfq),r.2.2.1,())))) (fun i=>cnd (m==l&&idR f.2.1.2.1 u) (Ix m p.1.2.2.2.1.length<|i (((),(),(),(),(),()),f.2.1,f.2.2.1,(p.1.1,p.1.2.1,p.1.2.2.1,List.set p.1.2.2.2.1 m.toNat (p.2.1.length:Int),p.1.2.2.2.2),p.2.1,x,())) (i (((),(),(),(),(),()),f.2.1,f.2.2.1,p.1,p.2.1,x,())))) (Ik (l+1)<|e (((),(),(),(),(),l+1,()),f.2.1,f.2.2.1,p.1,p.2.1,x,())))) (((),(),(),(),(),0,()),c.2.1,c.2.2.1,t.1,t.2.1,w,())) (Ik (m+1)<|b (((),(),(),(),m+1,()),c.2.1,c.2.2.1,t.1,t.2.1,())))) (((),(),(),(),(),0,()),a.2.1,a.2.2.1,q.1,q.2.1,(acR d).getD m.toNat (0,[]),())) (cnd (decide (40<(q.2.1.length:Int))) (K ((0,[],[],[],[]),3,())) (CnP q.1 q.2.1 a.2.1/\K ((q.1.1,q.1.2.1,q.1.2.2.1,q.1.2.2.2.1,ajp q.1 (adv a.2.1 q.2.1)),0,())))) (((),(),(),(),0,()),d,(0,[],[],[],[]),((n:Int),[],[],List.replicate (Int.toNat (n:Int)) (0:Int),[]),([]:List cfq),())))
theorem atg(d:am):Mh tf (d,()) (abn d):=by
 intro hok hpre
 delta abn Ik Iq Ix Oc Of Ol Om
 dsimp -proj -eta only;clear hok hpre;have hres:(tf).res (d,())=((ad2 d).1,(ad2 d).2,()):=rfl;rw[hres];refine ba (fun h=>?_) (fun h=>?_)
 ·have h:d5 d=false:=by simpa using h
  simp only[ad2,a0a h];rfl
 have hf:d5 d=true:=by simpa using h
 have hf':¬d5 d=false:=by rw[hf];decide
 have F:=alc hf;have S:=F.tgt;have sm:=S.m;refine⟨hf,?_⟩;by_cases hb:(jb d).length<=400
 case neg=>
  have h0:wx d=false:=a21 hb;have:(jb d).length>8:=by omega
  refine ba (fun _=>?_) (fun h=>?_)
  ·simp only[ad2,ds hf',a0a this];rfl
  ·rw[h0]at h;simp at h
 have h0:wx d=true:=a1p hb;have h1:acR d=jb d:=a0a hb;rw[h0,h1];refine ba (fun h8=>?_) (fun h8=>?_)
 ·have:(jb d).length>8:=by simp at h8;omega
  simp only[ad2,ds hf',a0a this];rfl
 have h8:(jb d).length<=8:=by simp at h8;omega
 have hcone:∀i:Int,0<=i->i<(jb d).length->ConeP d ((jb d).getD i.toNat (0,[])):=fun i i0 i1=>ao1 hf (cp _ _ i0 i1);have hcc:ad2 d=if (ae9 d (jb d)).length>40 then (ccN,3)else (icK d (jb d) (ae9 d (jb d)),0):=by simp only[ad2,ds hf',ds (show ¬(jb d).length>8 by omega)]
 rw[hcc];generalize jb d=L at *;clear hcc hres h0 h1 hb;refine⟨by omega,a02 _,by omega,by omega,?_⟩;refine bq (fun (s:cfu)=>0<=s.1.2.2.2.2.1/\s.1.2.2.2.2.1<=L.length/\s.2.1=d/\s.2.2.2.1=icB d L s.2.2.2.2.1/\s.2.2.2.2.1=(bh s.1.2.2.2.2.1.toNat (ash d L)).flatten/\(s.2.2.2.2.1.length:Int)<=320*s.1.2.2.2.2.1) (fun (s:cfu)=>(L.length-s.1.2.2.2.2.1).toNat) ?_ ⟨by simp,by simp,rfl,rfl,rfl,by simp⟩;rintro⟨⟨_,_,_,_,i,_⟩,d1,z1,c1,A,_⟩ next ⟨i0,i1,hd1,hc1,hA,hAl⟩ hnx
 intros
 try dsimp only at i0 i1 hd1 hc1 hA hAl hnx⊢
 subst hd1;subst hc1;refine bd (fun hi=>?_) (fun hi=>?_)
 ·refine⟨i0,hi,?_⟩;refine bq (fun (s:cfx)=>0<=s.1.2.2.2.2.2.1/\s.1.2.2.2.2.2.1<=L.length/\s.2.1=d1/\s.2.2.2.1=icB d1 L s.2.2.2.2.1/\s.2.2.2.2.2.1=L.getD i.toNat (0,[])/\s.2.2.2.2.1=A++(bh s.1.2.2.2.2.2.1.toNat (icH d1 L i)).flatten/\(s.2.2.2.2.1.length:Int)<=320*i+40*s.1.2.2.2.2.2.1) (fun (s:cfx)=>(L.length-s.1.2.2.2.2.2.1).toNat) ?_ ⟨by simp,by simp,rfl,rfl,rfl,by simp[bh],by dsimp only;omega⟩;rintro⟨⟨_,_,_,_,_,t,_⟩,d2,z2,c2,A2,p2,_⟩ next1 ⟨t0,t1,hd2,hc2,hp2,hA2,hAl2⟩ hn1;intros
  try dsimp only at t0 t1 hd2 hc2 hp2 hA2 hAl2 hn1⊢
  subst hd2;subst hc2;subst hp2;refine bd (fun ht=>?_) (fun ht=>?_)
  ·have hml:=bns S (p:=L.getD i.toNat (0,[])) (q:=L.getD t.toNat (0,[]));have hH:icH d2 L i t=(kt d2 (L.getD i.toNat (0,[])) (L.getD t.toNat (0,[]))).map fun u=>(i,t,u):=rfl;have hG:∀u∈kt d2 (L.getD i.toNat (0,[])) (L.getD t.toNat (0,[])),0<=u/\u<d2.2.1.2.1.length:=fun u hu=>by have:=ti.1 (a3a.1 hu).1;exact⟨this.1,this.2.1⟩
   refine⟨t0,ht,aso F (hcone i i0 hi) (hcone t t0 ht),?_⟩;generalize kt d2 (L.getD i.toNat (0,[])) (L.getD t.toNat (0,[]))=G at *;refine bq (fun (s:cfx)=>0<=s.1.2.2.2.2.2.1/\s.1.2.2.2.2.2.1<=G.length/\s.2.1=d2/\s.2.2.2.1=icB d2 L s.2.2.2.2.1/\s.2.2.2.2.2.1=L.getD i.toNat (0,[])/\s.2.2.2.2.1=A2++(G.take s.1.2.2.2.2.2.1.toNat).map fun u=>(i,t,u)) (fun (s:cfx)=>(G.length-s.1.2.2.2.2.2.1).toNat) ?_ ⟨by simp,by simp,rfl,rfl,rfl,by simp⟩;rintro⟨⟨_,_,_,_,_,k,_⟩,d3,z3,c3,A3,p3,_⟩ next2 ⟨k0,k1,hd3,hc3,hp3,hA3⟩ hn2;intros
   try dsimp only at k0 k1 hd3 hc3 hp3 hA3 hn2⊢
   subst hd3;subst hc3;subst hp3;have hAl3:A3.length=A2.length+k.toNat:=by rw[hA3,a0m,a00,a03];omega
   refine bd (fun hk=>?_) (fun hk=>?_)
   ·have hu:=hG _ (cp G 0 k0 hk);refine⟨k0,hk,fun _=>⟨hu.1,hu.2,S⟩,cz (fun (q:((Unit×cf8)×cfc))=>q.2.1=d3/\q.2.2.2.1=((L.length:Int),A3.map (·.1),A3.map (·.2.1),icI d3 L.length (A3++[(i,t,G.getD k.toNat 0)]),[])/\q.2.2.2.2.1=A3/\q.2.2.2.2.2.1=L.getD i.toNat (0,[])) ?_ ?_⟩
    ·rintro⟨_,d4,z4,c4,A4,p4,_⟩ ⟨q1,q2,q3,q4⟩;intros
     try dsimp only at q1 q2 q3 q4⊢
     subst q1;subst q2;subst q3;subst q4;refine⟨ck (by simp only[a0h,a0i];omega),ck (by rw[a00];simp only[a0h,a0i];omega),ck (by rw[a00];simp only[a0h,a0i];omega),by rw[au];(try dsimp only);omega,hn2 _ ⟨by dsimp only;omega,by dsimp only;omega,rfl,?_,rfl,?_⟩ (by dsimp only;omega)⟩
     ·try dsimp only;unfold icB;rw[a2m,a2m];rfl
     ·try dsimp only;rw[hA3,mm G 0 k0 hk,a2m,a01];rfl
    ·intro k' hk';refine ba (fun h=>⟨i0,?_,hk' _ ⟨rfl,?_,rfl,rfl⟩⟩) (fun h=>hk' _ ⟨rfl,?_,rfl,rfl⟩)
     ·show i<((icI d3 L.length A3).length:Int);unfold icI;rw[(bhl A3).2];exact hi
     ·rw[a0b,a0r]at h
      try dsimp only;rw[bpk,a0a h];rfl
     ·try dsimp only;rw[bpk,ds (by intro hh;rw[a3k]at h;rcases h with h|h<;>simp_all)];rfl
   ·refine⟨by rw[au];(try dsimp only);omega,hn1 _ ⟨by dsimp only;omega,by dsimp only;omega,rfl,rfl,rfl,?_,by dsimp only;omega⟩ (by dsimp only;omega)⟩
    try dsimp only
    rw[hA3,a1c (by omega),hA2,a01,bam t0,hH]
  ·have et:t.toNat=L.length:=by omega
   refine⟨by rw[au];(try dsimp only);omega,hnx _ ⟨by dsimp only;omega,by dsimp only;omega,rfl,rfl,?_,by dsimp only;omega⟩ (by dsimp only;omega)⟩
   try dsimp only
   rw[hA2,hA,et,bam i0];rfl
 have ei:i.toNat=L.length:=by omega
 have hAA:A=ae9 d1 L:=by rw[hA,ei];rfl
 refine bd (fun h=>?_) (fun h=>?_)
 ·rw[a0a (by rw[←hAA];omega)];rfl
 rw[ds (by rw[←hAA];omega),←hAA];refine⟨⟨S,⟨fun k k0 k1=>?_,by omega⟩,?_,?_⟩,rfl⟩
 ·have h:=cp A (0,(0,0)) k0 k1;rw[hAA]at h;have:=ti.1 (a3a.1 (brg h).2.2).1;rw[hAA];exact⟨this.1,this.2.1⟩
 ·show (A.map (·.1)).length=A.length;rw[a00]
 ·show (A.map (·.2.1)).length=A.length;rw[a00]
theorem asm:bw Tryz.prog 14 tf:=ctb (ae vo (ae afd (ae al8 (ae aji (ae ai8 az))))) bg 14 Tryz.f14 tf ari [] (fun x K=>abn x.1 K) (fun x h1 h2=>atg x.1 h1 h2)
def vg:Ct:=⟨[bp],[true],fun x=>[],[(false,kf)],fun x=>(k9 x.1,()),false,none⟩
def aec(c:aa)(K:Bool×Unit->Prop):Prop:=K (k9 c,())
theorem aw3(c:aa)(hok:ab (okL vg.args (c,())))(hpre:ab (vg.pre (c,()))):aec c (fun r=>r=vg.res (c,())):=by
 simp only[vg,okL,T.oks,T.ok,ap,ab,a0f,a0c,a0g]at hok hpre
 try dsimp only[T.den]at hok hpre
 unfold aec;rfl
theorem aum:bw Tryz.prog 20 vg:=ctb (ae t9 az) bg 20 Tryz.f20 vg .n [] (fun x K=>aec x.1 K) (fun x h1 h2=>aw3 x.1 h1 h2)
def lsR(d:am)(most:Int):List bo:=((acR d).filter (t5 d (acR d))).take most.toNat
theorem bsz{d:am}:(acR d).length<=400:=by unfold acR;split<;>simp_all
theorem bod{d:am}(hf:d5 d=true){p:bo}(h:p∈acR d):ConeP d p:=by
 unfold acR at h;split at h
 ·exact ao1 hf h
 ·cases h
theorem cb0{d:am}(hf:d5 d=true){p:bo}(hp:ConeP d p):UniP d (acR d) p:=⟨by have:=@bsz d;omega,fun _ hq=>aso (alc hf) (bod hf hq) hp⟩
def abc:Ct:=⟨[aao,bc],[false,false],fun x=>[d5 x.1=true,0<=x.2.1],[(false,(.sl awu)),(false,kf)],fun x=>(lsR x.1 x.2.1,wx x.1,()),true,none⟩
def bee:Ann:=(.s .n (.s .n (.s .n (.s .n (.s (.s .n (.l [(8,(.ref 800008 [])),(21,(.d bc))] [(800008,bhs)] [0,1,6,19,20] (.s .n (.s .n (.s (.s .n (.s .n (.j [(8,(.ref 800008 []))] [(800008,bhs)] [0,1,6,19,20,21] .n))) .n))))) .n)))))
def bz3:FuncId->Option Ct:=lkp [(40,py),(95,ld)]
def akd(d:am)(most:Int)(K:(List bo)×Bool×Unit->Prop):Prop:=d5 d=true/\cnd (!wx d) (K (([]:List ce5),false,())) (bn (S:=cfn) (fun a b=>let h:=a.1.2.1;let g:=decide ((a.2.1.length:Int)<most);let f:=(acR d).getD h.toNat (0,[]);Iq h<|Oa adh a.2.1<|cnd (decide (h<((acR d).length:Int))) (Ix h (acR d).length<|(g=true->UniP d (acR d) f)/\dk (S:=((Unit×Unit)×((List ce5)×Unit))) (fun c=>Oa adh c.2.1<|Ik (h+1)<|b (((),h+1,()),c.2.1,())) (fun e=>cnd (g&&t5 d (acR d) f) (c9 a.2.1.length (f::([]:List ce5)).length 32/\e (((),()),a.2.1++f::([]:List ce5),())) (e (((),()),a.2.1,())))) (K (a.2.1,true,()))) (((),0,()),([]:List ce5),()))
theorem bgx(d:am)(most:Int)(hok:ab (okL abc.args (d,most,())))(hpre:ab (abc.pre (d,most,()))):akd d most (fun r=>r=abc.res (d,most,())):=by
 simp only[abc,okL,T.oks,T.ok,ap,ab,a0f,a0c,a0g]at hok hpre
 try dsimp only[T.den]at hok hpre
 delta akd Ik Iq Ix Oa
 dsimp -proj -eta only;obtain⟨hf,hm⟩:=hpre;have hl:=@bsz d;have hu:=fun p (hp:p∈acR d)=>cb0 hf (bod hf hp);have hres:(abc).res (d,most,())=(lsR d most,wx d,()):=rfl;refine⟨hf,?_⟩;rw[hres];have hno:wx d=false->lsR d most=[]:=fun h=>by have h:decide ((jb d).length<=400)=false:=h;have:¬(jb d).length<=400:=of_decide_eq_false h;unfold lsR acR;rw[ds this];simp
 have hval:lsR d most=((acR d).filter (t5 d (acR d))).take most.toNat:=rfl;refine ba (fun h=>?_) (fun h=>?_)
 ·have h:wx d=false:=by simpa using h
  rw[hno h,h]
 ·have h:wx d=true:=by simpa using h
  rw[hval,h];generalize acR d=L at *;refine bq (fun (s:cfn)=>0<=s.1.2.1/\s.1.2.1<=L.length/\s.2.1=((L.take s.1.2.1.toNat).filter (t5 d L)).take most.toNat) (fun (s:cfn)=>(L.length-s.1.2.1).toNat) ?_ ⟨by simp,by simp,by simp⟩;rintro⟨⟨_,i,_⟩,out,_⟩ next ⟨i0,i1,hq⟩ hnx
  intros
  try dsimp only at i0 i1 hq hnx⊢
  refine bd (fun hi=>?_) (fun hi=>?_)
  ·have hp:=cp L (0,[]) i0 hi;have htk:(L.take (i+1).toNat).filter (t5 d L)=(L.take i.toNat).filter (t5 d L)++(if t5 d L (L.getD i.toNat (0,[]))=true then [L.getD i.toNat (0,[])]else []):=by rw[mm L (0,[]) i0 hi,a33,a2r,a47]
   have hfl:((L.take i.toNat).filter (t5 d L)).length<=400:=by have:=a4k (t5 d L) (L.take i.toNat);rw[a03]at this;omega
   have hol:out.length=min most.toNat ((L.take i.toNat).filter (t5 d L)).length:=by rw[hq,a03]
   refine⟨i0,hi,fun _=>hu _ hp,cz (fun (q:((Unit×Unit)×((List ce5)×Unit)))=>q.2.1=((L.take (i+1).toNat).filter (t5 d L)).take most.toNat) ?_ ?_⟩
   ·rintro⟨_,o2,_⟩ h2;intros
    try dsimp only at h2⊢
    exact⟨by rw[au];(try dsimp only);omega,hnx _ ⟨by dsimp only;omega,by dsimp only;omega,h2⟩ (by dsimp only;omega)⟩
   ·intro k hk;rw[htk]at hk;generalize (L.take i.toNat).filter (t5 d L)=G at *;refine ba (fun hc=>⟨ck (by simp only[a0h,a0i];omega),hk _ ?_⟩) (fun hc=>hk _ ?_)
    ·simp only[a0b,a0w]at hc;have hG:G.length<most.toNat:=by omega
     try dsimp only
     rw[hq,a0a hc.2,a1c (by omega),a1c (by rw[a0m];simp only[a0h,a0i];omega)]
    ·try dsimp only
     rw[hq];split
     ·rename_i hu2;rw[hu2,a0o,a1o]at hc;rw[a4o (by omega)]
     ·rw[a2e]
  ·have ht:L.take i.toNat=L:=a1c (by omega);rw[ht]at hq;rw[hq]
theorem bc9:bw Tryz.prog 61 abc:=ctb (ae afd (ae ati az)) bg 61 Tryz.f61 abc bee [] (fun x K=>akd x.1 x.2.1 K) (fun x h1 h2=>bgx x.1 x.2.1 h1 h2)
def agi(d:am):bo×Int:=if wx d=false then ((0,[]),3)else if (lsR d 1).length=0 then ((0,[]),4)else ((lsR d 1).getD 0 (0,[]),0)
def zq:Ct:=⟨[aao],[false],fun x=>[d5 x.1=true],[(true,awu),(false,kg)],fun x=>((agi x.1).1,(agi x.1).2,()),true,none⟩
def am3(d:am)(K:bo×Int×Unit->Prop):Prop:=d5 d=true/\(0:Int)<=1/\cnd (!wx d) (K ((0,[]),3,())) (cnd (((lsR d 1).length:Int)==0) (K ((0,[]),4,())) (Ix 0 (lsR d 1).length<|K ((lsR d 1).getD 0 (0,[]),0,())))
theorem blo(d:am)(hok:ab (okL zq.args (d,())))(hpre:ab (zq.pre (d,()))):am3 d (fun r=>r=zq.res (d,())):=by
 simp only[zq,okL,T.oks,T.ok,ap,ab,a0f,a0c,a0g]at hok hpre
 try dsimp only[T.den]at hok hpre
 delta am3 Ix
 have hf:d5 d=true:=hpre;have hres:(zq).res (d,())=((agi d).1,(agi d).2,()):=rfl;refine⟨hf,by decide,?_⟩;rw[hres];refine ba (fun h=>?_) (fun h=>ba (fun h2=>?_) (fun h2=>⟨by decide,?_,?_⟩))
 ·have h:wx d=false:=by simpa using h
  simp only[agi,a0a h]
 ·have h:¬wx d=false:=by simpa using h
  have h2:(lsR d 1).length=0:=by simpa using h2
  simp only[agi,ds h,a0a h2]
 ·have h2:¬(lsR d 1).length=0:=by simpa using h2
  omega
 ·have h:¬wx d=false:=by simpa using h
  have h2:¬(lsR d 1).length=0:=by simpa using h2
  simp only[agi,ds h,ds h2]
theorem bhc:bw Tryz.prog 34 zq:=ctb (ae bc9 az) bg 34 Tryz.f34 zq .n [] (fun x K=>am3 x.1 K) (fun x h1 h2=>blo x.1 h1 h2)
def adx(d:am):bo×Int:=if d5 d=true then agi d else ((0,[]),1)
def pf:Ct:=⟨[jq],[true],fun x=>[],[(true,awu),(false,kg)],fun x=>((adx x.1).1,(adx x.1).2,()),true,none⟩
def bxk:FuncId->Option Ct:=lkp [(33,fy),(34,zq)]
def aik(d:am)(K:bo×Int×Unit->Prop):Prop:=cnd (!d5 d) (K ((0,[]),1,())) (d5 d=true/\K ((agi d).1,(agi d).2,()))
theorem bc6(d:am)(hok:ab (okL pf.args (d,())))(hpre:ab (pf.pre (d,()))):aik d (fun r=>r=pf.res (d,())):=by
 simp only[pf,okL,T.oks,T.ok,ap,ab,a0f,a0c,a0g]at hok hpre
 try dsimp only[T.den]at hok hpre
 unfold aik;refine ba (fun hx=>?_) (fun hx=>?_)
 ·have h:¬d5 d=true:=by simpa using hx
  simp only[pf,adx,ds h]
 ·have h:d5 d=true:=by simpa using hx
  refine⟨h,?_⟩;simp only[pf,adx,a0a h]
theorem bbn:bw Tryz.prog 8 pf:=ctb (ae vo (ae bhc az)) bg 8 Tryz.f8 pf .n [] (fun x K=>aik x.1 K) (fun x h1 h2=>bc6 x.1 h1 h2)
def arv(c:aa)(x y:Int):Bool:=(ip c y x).length==1
def aa0(c:aa):List Int:=mc c.1.toNat fun x=>jv c.1.toNat (arv c x)
def jh:Ct:=⟨[aeo],[false],fun x=>[ShapeP x.1],[(false,dq)],fun x=>(aa0 x.1,()),false,none⟩
def ak8:Ann:=(.s .n (.s .n (.s .n (.s (.s .n (.l bhk baw [0] (.s .n (.s (.j [(3,(.ref 800003 []))] baw [0,4] (.s (.s .n (.l [(3,(.ref 800003 [])),(5,(.d bc))] baw [0,4] .n)) .n)) .n)))) .n))))
def v8(c:aa)(K:(List Int)×Unit->Prop):Prop:=bn (S:=(ce4×cez)) (fun a b=>let h:=a.1.2.1;Iq h<|Ol a.2.1<|cnd (decide (h<c.1)) (dk (S:=cfo) (fun d=>Ol d.2.1<|Ik (h+1)<|b (((),h+1,()),d.2.1,())) (fun e=>bn (S:=(ce4×cez)) (fun f g=>let i:=f.1.2.1;Iq i<|Ol f.2.1<|cnd (decide (i<c.1)) (c.2.1.length<=40/\c.2.2.1.length=c.2.1.length/\cnd (((ip c i h).length:Int) != 1) (e (((),()),f.2.1,())) (Ik (i+1)<|g (((),i+1,()),f.2.1,()))) (c9 f.2.1.length [h].length 8/\e (((),()),f.2.1++[h],()))) (((),0,()),a.2.1,()))) (K (a.2.1,()))) (((),0,()),[],())
theorem ams(c:aa)(hok:ab (okL jh.args (c,())))(hpre:ab (jh.pre (c,()))):v8 c (fun r=>r=jh.res (c,())):=by
 simp only[jh,okL,T.oks,T.ok,ap,ab,a0f,a0c,a0g]at hok hpre
 try dsimp only[T.den]at hok hpre
 delta v8 Ik Iq Ol
 dsimp -proj -eta only;have S:ShapeP c:=hpre;have ob:=S.ob;have e:((c.1.toNat:Nat):Int)=c.1:=by omega
 refine uz (fun i=>mc i.toNat fun x=>jv c.1.toNat (arv c x)) (n:=c.1) (by omega) rfl ?_ ?_
 ·intro i next i0 i1 hnx hin hok
  have hf:=abg (p:=fun x=>jv c.1.toNat (arv c x)) i.toNat;refine bd (fun _=>?_) (fun h=>absurd i1 h)
  try dsimp only
  refine cz (fun s1=>s1.2.1=mc (i+1).toNat fun x=>jv c.1.toNat (arv c x)) (fun s1 hs _=>⟨by rw[au];(try dsimp only);omega,by rw[←hs]at hnx;exact hnx⟩) (fun k hk=>?_);refine bi8 (n:=c.1) (fun j=>jv j.toNat (arv c i)=true) (by omega) rfl ?_ ?_
  ·intro j next1 j0 j1 hP hn1 hin1 hok1
   try dsimp only
   refine bd (fun _=>⟨S.m,S.lt,ba (fun hx=>hk _ (bh2 i0 (awc j0 (by omega) ?_)).symm) (fun hx=>⟨by rw[au];(try dsimp only);omega,hn1 ?_⟩)⟩) (fun h=>absurd j1 h)
   ·unfold arv;rw[a35];intro h;rw[h]at hx;exact absurd hx (by decide)
   ·rw[atl j0,hP,a1v];unfold arv;rw[a0r];have h:(((ip c j i).length:Nat):Int)=1:=by simpa using hx
    omega
  ·intro next1 hP hin1 hok1;refine bd (fun h=>absurd h (a1b _)) (fun _=>⟨?_,hk _ (bid i0 hP).symm⟩);unfold c9;rw[eh];have h3:(i::([]:List Int)).length=1:=rfl;rw[h3]
   try dsimp only
   omega
 ·intro next hin hok
  refine bd (fun h=>absurd h (a1b _)) (fun _=>?_);simp only[jh,aa0]
theorem alk:bw Tryz.prog 56 jh:=ctb (ae zx az) bg 56 Tryz.f56 jh ak8 [] (fun x K=>v8 x.1 K) (fun x h1 h2=>ams x.1 h1 h2)
def ayp(c:aa):List Int:=if k9 c=true then aa0 c else []
def bkk(c:aa):Int:=if k9 c=true then 0 else 1
def jf:Ct:=⟨[bp],[true],fun x=>[],[(false,dq),(false,kg)],fun x=>(ayp x.1,bkk x.1,()),false,none⟩
def bme:FuncId->Option Ct:=lkp [(37,ir),(56,jh)]
def yd(c:aa)(K:(List Int)×Int×Unit->Prop):Prop:=cnd (!k9 c) (K ([],1,())) (ShapeP c/\K (aa0 c,0,()))
theorem api(c:aa)(hok:ab (okL jf.args (c,())))(hpre:ab (jf.pre (c,()))):yd c (fun r=>r=jf.res (c,())):=by
 simp only[jf,okL,T.oks,T.ok,ap,ab,a0f,a0c,a0g]at hok hpre
 try dsimp only[T.den]at hok hpre
 unfold yd;refine ba (fun hx=>?_) (fun hx=>?_)
 ·have h:¬k9 c=true:=by simpa using hx
  simp only[jf,ayp,bkk];rw[ds h,ds h]
 ·have h:k9 c=true:=by simpa using hx
  refine⟨sr h,?_⟩;simp only[jf,ayp,bkk];rw[a0a h,a0a h]
theorem ank:bw Tryz.prog 19 jf:=ctb (ae t9 (ae alk az)) bg 19 Tryz.f19 jf .n [] (fun x K=>yd x.1 K) (fun x h1 h2=>api x.1 h1 h2)
def af1:Ct:=⟨[iq],[false],fun x=>[],[(false,kf)],fun x=>(decide ((4096:Int)<x.1.length),()),false,none⟩
def aq4(code:List Int)(K:Bool×Unit->Prop):Prop:=K (decide (4096<(code.length:Int)),())
theorem bp8(code:List Int)(hok:ab (okL af1.args (code,())))(hpre:ab (af1.pre (code,()))):aq4 code (fun r=>r=af1.res (code,())):=by
 simp only[af1,okL,T.oks,T.ok,ap,ab,a0f,a0c,a0g]at hok hpre
 try dsimp only[T.den]at hok hpre
 unfold aq4;rfl
theorem bmj:bw Tryz.prog 6 af1:=ctb az bg 6 Tryz.f6 af1 .n [] (fun x K=>aq4 x.1 K) (fun x h1 h2=>bp8 x.1 h1 h2)
def xc(a b:List Int):Bool:=decide (a=b)
def l9:Ct:=⟨[ed,ed],[false,false],fun x=>[],[(false,kf)],fun x=>(xc x.1 x.2.1,()),false,none⟩
def azm:Ann:=(.s .n (.s .n (.s (.s .n (.l ais [] [0,1] .n)) .n)))
def agy(a b:List Int)(K:Bool×Unit->Prop):Prop:=cnd ((a.length:Int) != (b.length:Int)) (K (false,())) (bn (S:=ce7) (fun c d=>let e:=c.1.1;Iq e<|cnd (decide (e<(a.length:Int))) (Ix e a.length<|Ix e b.length<|cnd (a.getD e.toNat 0 != b.getD e.toNat 0) (K (false,())) (Ik (e+1)<|d ((e+1,()),()))) (K (true,()))) ((0,()),()))
theorem bcc(a b:List Int)(hok:ab (okL l9.args (a,b,())))(hpre:ab (l9.pre (a,b,()))):agy a b (fun r=>r=l9.res (a,b,())):=by
 simp only[l9,okL,T.oks,T.ok,ap,ab,a0f,a0c,a0g]at hok hpre
 try dsimp only[T.den]at hok hpre
 delta agy Ik Iq Ix
 dsimp -proj -eta only;have hla:a.length<=140737488355328:=by have:=hok.1.1;rw[eh]at this;omega
 clear hok;refine ba (fun hc=>?_) (fun hc=>?_)
 ·simp only[l9,xc,a0n,a0c,a1o];rw[eq_comm,a1o];rintro rfl;simp at hc
 have hl:a.length=b.length:=by simp at hc;omega
 refine bq (fun (s:ce7)=>0<=s.1.1/\s.1.1<=a.length/\a.take s.1.1.toNat=b.take s.1.1.toNat) (fun (s:ce7)=>(a.length-s.1.1).toNat) ?_ (by simp);rintro⟨⟨i,_⟩,_⟩ next ⟨h0,h1,h2⟩ hn hin
 simp only at h0 h1 h2 hn⊢;refine bd (fun hc=>?_) (fun hc=>?_)
 ·have ha:=mm a 0 h0 hc;have hb:=mm b 0 h0 (by omega);refine⟨by omega,by omega,by omega,by omega,ba (fun hd=>?_) (fun hd=>?_)⟩
  ·simp only[l9,xc,a0n,a0c];rw[eq_comm,a1o];rintro rfl;simp at hd
  ·refine⟨by rw[au];(try dsimp only);omega,hn _ ⟨(by first|omega|(dsimp only;omega)),(by first|omega|(dsimp only;omega)),?_⟩ (by first|omega|(dsimp only;omega))⟩;rw[a1w]at hd;simp only[ha,hb,h2,hd]
 ·rw[acf a (by omega),acf b (by omega)]at h2;simp[h2,l9,xc]
theorem afb:bw Tryz.prog 10 l9:=ctb az bg 10 Tryz.f10 l9 azm [(6,8)] (fun x K=>agy x.1 x.2.1 K) (fun x h1 h2=>bcc x.1 x.2.1 h1 h2)
end
end Go.Bm
