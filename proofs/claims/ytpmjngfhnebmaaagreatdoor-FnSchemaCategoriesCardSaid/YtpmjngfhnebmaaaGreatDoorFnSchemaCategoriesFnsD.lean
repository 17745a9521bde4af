/- What the functions that FnSchemaCategories reaches give: for each its contract, what it asks, and the proof. No condition. -/
import Derived.Test.YtpmjngfhnebmaaaGreatDoorFnSchemaCategoriesFnsC
set_option linter.unusedVariables false
set_option linter.unusedSimpArgs false
namespace Go.Bm
open Go.Proofs
set_option maxRecDepth 100000
set_option maxHeartbeats 1000000
abbrev Cq:=@Int.tdiv_eq_ediv_of_nonneg
noncomputable section
abbrev rP:Type:=List mH
variable {a b e i k k' n x y:Int}{c d:aF}{fr r w:aw}{l:rP}{p q:rO}{rel t:df}{s:ByteArray}{α:Type}
def kR(fr to:aw)(p:rO)(n:Nat):List mH:=((be n λe=>e).filter λe=>fr.getD e.toNat 0==p.2.1).map λe=>(p.1,to.getD e.toNat 0,p.2.2++[e])
def BT(fr to:aw)(p:rO):List mH:=kR fr to p fr.length
def kL(fr to:aw):Nat->Nat->List mH->List mH
 |0,_,l=>l
 |u+1,k,l=>if k<l.length/\l.length<=40 then kL fr to u (k+1) (l++BT fr to (l.getD k (0,0,[])))else l
def oC(n:Int):List mH:=be n.toNat λx=>(x,x,[])
def kU(x:rO):List mH->List mH
 |[]=>[x]
 |y::r=>if BJ x y then y::kU x r else x::y::r
def oH(l:rP):List mH:=l.foldl (λa x=>kU x a) []
def B1(l:rP):List mH:=(oH l).reverse
def rz(n:Int)(fr to:aw):List mH:=B1 (kL fr to 42 0 (oC n))
theorem af7{fr to:aw}{p:rO}{e:Int}(h:0<=e):kR fr to p (e+1).toNat=kR fr to p e.toNat++(if (fr.getD e.toNat 0==p.2.1)=true then [(p.1,to.getD e.toNat 0,p.2.2++[e])]else []):=by unfold kR;rw[gC h,List.filter_append,mN];split<;>rename_i h1<;>simp only[List.filter_cons,h1,eX,ul,List.filter_nil,gO,nP,eE]
theorem Qu{fr to:aw}{p:rO}{n:Nat}:(kR fr to p n).length<=n:=by unfold kR;rw[d5];exact eu (List.length_filter_le _ _) (Nat.le_of_eq (bG n))
theorem Qs{to:aw}{n:Nat}(h:q∈kR fr to p n):q.2.2.length=p.2.2.length+1:=by unfold kR at h;obtain⟨e,_,rfl⟩:=jJ.1 h;simp only[bj,aH,aM]
theorem af1{to:aw}{u k:Nat}(h:¬(k<l.length/\l.length<=40)):kL fr to u k l=l:=by cases u<;>simp only[kL,ai h]
theorem Kn{l m:List α}{d:α}{k:Nat}(h:k<l.length):(l++m).getD k d=l.getD k d:=by rw[bN,bN,g9 h]
theorem PM{x:rO}:∀l:List mH,(kU x l).length=l.length+1
 |[]=>rfl
 |y::r=>by unfold kU;split<;>simp only[aH,PM r]
theorem aej(h0:0<=i)(h1:i<l.length):oH (l.take (i+1).toNat)=kU (l.getD i.toNat (0,(0,[]))) (oH (l.take i.toNat)):=by unfold oH;rw[fY l (0,(0,[])) h0 h1,oY];rfl
theorem Q7:∀(l a:rP),(l.foldl (λa x=>kU x a) a).length=a.length+l.length
 |[],a=>rfl
 |x::l,a=>by rw[jF,Q7 l,PM,aH];omega
theorem PX(l:rP):(oH l).length=l.length:=by unfold oH;rw[Q7];exact jC _
def pZ(l:rP)(i:Int):List mH:=(oH (l.take i.toNat)).reverse++l.drop i.toNat
theorem adh(l:rP)(i:Int):(pZ l i).length=l.length:=by unfold pZ;rw[bj,wg,PX,ez,iz];omega
theorem agt(l:rP):pZ l 1=l:=by cases l<;>rfl
theorem agd(h:(l.length:Int)<=i):pZ l i=B1 l:=by unfold pZ B1;rw[jv l h,yS aa,lS]
theorem Kt{d x:α}{t:List α}:∀p:List α,(p++x::t).getD p.length d=x
 |[]=>rfl
 |_::p=>ak
theorem abn{d x y:α}{t:List α}:∀p:List α,(p++y::x::t).getD (p.length+1) d=x
 |[]=>rfl
 |_::p=>ak
theorem T_{x y:α}{t:List α}:∀p:List α,((p++y::x::t).set (p.length+1) y).set p.length x=p++x::y::t
 |[]=>rfl
 |a::p=>ak
def sL:Ct:=⟨[aq,bd,bd],[false,false,false],λx=>[0<=x.1,x.1<=8,x.2.2.1.length=x.2.1.length,x.2.1.length<=1000000000],[(false,(.fz (.sl TV)))],λx=>(rz x.1 x.2.1 x.2.2.1,()),true,none⟩
def Yx:Ann:=(.s .n (.j [(7,(.ref 800007 []))] vx [0,1,2] (.s .n (.s (.s .n (.l [(7,(.ref 800007 [])),(8,(.d aq))] vx [0,1,2] .n)) (.s (.s .n (.l [(7,(.ref 800007 [])),(9,(.d aq))] vx [1,2] (.s .n (.s (.s .n (.l [(7,(.ref 800007 [])),(10,(.d aq))] vx [1,2,9] (.s .n (.s (.s .n (.j [(7,(.ref 800007 []))] vx [1,2,9,10] .n)) .n)))) .n)))) (.s (.s .n (.l [(7,(.ref 800007 [])),(11,(.d aq))] vx [] (.s .n (.s (.s .n (.l [(7,(.ref 800007 [])),(12,(.d aq))] vx [11] .n)) .n)))) .n))))))
def ah8:FuncId->Option Ct:=lkp [(46,lu),(139,sC)]
def Iy(n:Int)(from_ to:aw)(K:(List JF)×Unit->Prop):Prop:=bZ (S:=FW) (λa=>Oa vz a.2.1<|aI (S:=kY) (λb c=>let w:=b.1.2.1;Iq w<|Oa vz b.2.1<|cnd (decide (w<n)) (aX b.2.1.length ((w,w,[])::([]:List (Int×aS))).length 40/\(Ik (w+1)<|c (((),w+1,()),b.2.1++(w,w,[])::([]:List (Int×aS)),()))) (aI (S:=kY) (λd e=>let x:=d.1.2.1;Iq x<|Oa vz d.2.1<|cnd (decide (x<(d.2.1.length:Int))&&decide ((d.2.1.length:Int)<=40)) (aI (S:=kY) (λf g=>let z:=f.2.1.length;let u:=f.1.2.1;let q:=f.2.1.getD x.toNat (0,0,[]);Iq u<|Oa vz f.2.1<|cnd (decide (u<(from_.length:Int))) (Ix u from_.length<|Ix x z<|bZ (S:=FW) (λh=>Oa vz h.2.1<|Ik (u+1)<|g (((),u+1,()),h.2.1,())) (λi=>cnd (from_.getD u.toNat 0==q.2.1) (Ix x z<|Ix u to.length<|Ix x z<|q.2.2.length<=1099511627776/\aX q.2.2.length [u].length 8/\aX z ((q.1,to.getD u.toNat 0,q.2.2++[u])::([]:List (Int×aS))).length 40/\i (((),()),f.2.1++(q.1,to.getD u.toNat 0,q.2.2++[u])::([]:List (Int×aS)),())) (i (((),()),f.2.1,())))) (Ik (x+1)<|e (((),x+1,()),f.2.1,()))) (((),0,()),d.2.1,())) (aI (S:=kY) (λj l=>let a2:=j.1.2.1;Iq a2<|Oa vz j.2.1<|cnd (decide (a2<(j.2.1.length:Int))) (aI (S:=kY) (λm o=>let v:=m.2.1.length;let r:=m.1.2.1;let a0:=m.2.1.getD r.toNat (0,0,[]);let y:=decide (0<r);let t:=m.2.1.getD (Int.toNat (r-1)) (0,0,[]);let a1:=List.set m.2.1 r.toNat t;Iq r<|Oa vz m.2.1<|(y=true->r<(v:Int)/\0<=r)/\(y=true->inK .i64 (r-1))/\(y=true->r-1<(v:Int)/\0<=r-1)/\cnd (y&&BJ a0 t) (Ix r v<|Ik (r-1)<|Ix (r-1) v<|Ix r v<|Ik (r-1)<|Ix (r-1) a1.length<|Ik (r-1)<|o (((),r-1,()),List.set a1 (Int.toNat (r-1)) a0,())) (Ik (a2+1)<|l (((),a2+1,()),m.2.1,()))) (((),a2,()),j.2.1,())) (K (j.2.1,()))) (((),1,()),d.2.1,()))) (((),0,()),b.2.1,()))) (((),0,()),a.2.1,())) (λp=>p (((),()),([]:List (Int×aS)),()))
theorem YQ(n:Int)(from_ to:aw)(hok:ab (okL sL.args (n,from_,to,())))(hpre:ab (sL.pre (n,from_,to,()))):Iy n from_ to (λr=>r=sL.res (n,from_,to,())):=by
 simp only[sL,okL,T.oks,T.ok,ap,ab,aL,aA,bf]at hok hpre
 try dsimp only[T.den]at hok hpre
 delta Iy Ik Iq Ix Oa
 dsimp -proj -eta only;obtain⟨n0,n8,ht,hf⟩:=hpre;refine cp (λ(s:FW)=>s.2.1=[]) ?_ (λk hk=>hk _ rfl);rintro⟨_,l0,_⟩ e0;intros
 try dsimp only at e0⊢
 subst e0;refine aY (λ(s:kY)=>0<=s.1.2.1/\s.1.2.1<=n/\s.2.1=oC s.1.2.1) (λ(s:kY)=>(n-s.1.2.1).toNat) ?_ ⟨ak,n0,rfl⟩;rintro⟨⟨_,x,_⟩,l,_⟩ next ⟨x0,x1,q⟩ hnx
 intros
 try dsimp only at x0 x1 q hnx⊢
 subst q;have zl:(oC x).length=x.toNat:=bG _;refine aE (λhx=>?_) (λhx=>?_)
 ·refine⟨bh (by rw[zl];simp only[aH,aM];omega),az,hnx _ ⟨ae,ae,?_⟩ ae⟩
  try dsimp only
  unfold oC;rw[gC x0]
 have ex:x=n:=aa
 subst ex;clear hnx
 have hz0:∀p∈oC x,(p.2.2.length:Int)<=0:=by
  intro p hp;unfold oC at hp
  have hz:∀(k:Nat),p∈be k (λx=>((x,x,[]):Int×Int×List Int))->p.2.2=[]:=by
   intro k
   induction k with
   |zero=>intro h;cases h
   |succ k ih=>
    intro h;rcases dN.1 h with h|h
    ·exact ih h
    ·rw[cP.1 h]
  rw[hz _ hp];simp
 refine aY (λ(s:kY)=>0<=s.1.2.1/\s.1.2.1<=41/\kL from_ to 42 0 (oC x)=kL from_ to (42-s.1.2.1).toNat s.1.2.1.toNat s.2.1/\(∀p∈s.2.1,(p.2.2.length:Int)<=s.1.2.1)/\s.2.1.length<=40+from_.length) (λ(s:kY)=>(41-s.1.2.1).toNat) ?_ ⟨ak,ak,rfl,hz0,ae⟩;rintro⟨⟨_,k,_⟩,L,_⟩ next ⟨k0,k41,hg,hp,hL⟩ hnx
 intros
 try dsimp only at k0 k41 hg hp hL hnx⊢
 refine aC (λhc=>?_) (λhc=>?_)
 ·simp only[ao,cj]at hc;obtain⟨hc1,hc2⟩:=hc;have hpk:=hp _ (cC L (0,(0,[])) k0 hc1);have hgk:kL from_ to 42 0 (oC x)=kL from_ to (42-(k+1)).toNat (k+1).toNat (L++BT from_ to (L.getD k.toNat (0,0,[]))):=by rw[hg,show (42-k).toNat=(42-(k+1)).toNat+1 from by omega,show (k+1).toNat=k.toNat+1 from by omega];simp only[kL];rw[am ⟨aa,aa⟩]
  generalize hP:L.getD k.toNat (0,(0,[]))=P at *;refine aY (λ(s:kY)=>0<=s.1.2.1/\s.1.2.1<=from_.length/\s.2.1=L++kR from_ to P s.1.2.1.toNat) (λ(s:kY)=>(from_.length-s.1.2.1).toNat) ?_ ⟨ak,ak,by simp[kR,be]⟩;rintro⟨⟨_,e,_⟩,M,_⟩ next1 ⟨e0,e1,q⟩ hn1;intros
  try dsimp only at e0 e1 q hn1⊢
  subst q;have hM:(L++kR from_ to P e.toNat).length<=40+from_.length:=by rw[bj];have:=@Qu from_ to P e.toNat;omega
  have hMk:k<(L++kR from_ to P e.toNat).length:=by rw[bj];omega
  have hG:(L++kR from_ to P e.toNat).getD k.toNat (0,(0,[]))=P:=by rw[Kn aa,hP]
  have hE:=@af7 from_ to P e e0;rw[hG];refine aE (λhe=>?_) (λhe=>?_)
  ·refine⟨e0,aa,k0,hMk,cp (λ(q:FW)=>q.2.1=L++kR from_ to P (e+1).toNat) ?_ ?_⟩
   ·rintro⟨_,M2,_⟩ q2;intros
    try dsimp only at q2⊢
    subst q2;exact⟨az,hn1 _ ⟨ae,ae,rfl⟩ ae⟩
   ·intro k1 hk1;rw[hE]at hk1;refine aC (λhb=>?_) (λhb=>?_)
    ·rw[am hb]at hk1;exact⟨k0,hMk,e0,aa,k0,hMk,aa,bh (by simp only[aH,aM];omega),bh (by simp only[aH,aM];omega),hk1 _ (eP _ _ _)⟩
    ·rw[ai (by rw[hb];decide),lS]at hk1;exact hk1 _ rfl
  ·have ee:e=from_.length:=aa
   subst ee;refine⟨az,hnx _ ⟨ae,ae,hgk,?_,hM⟩ ae⟩;intro p hp'
   try dsimp only at hp'⊢
   rcases dN.1 hp' with h|h
   ·have:=hp p h;omega
   ·have:=Qs h;omega
 ·simp only[yZ,fS]at hc;replace hg:=hg.trans (af1 aa);clear hnx;have hres:rz x from_ to=B1 L:=by unfold rz;rw[hg]
  simp only[sL];rw[hres];refine aY (λ(s:kY)=>1<=s.1.2.1/\s.2.1=pZ L s.1.2.1) (λ(s:kY)=>(L.length-s.1.2.1).toNat) ?_ ⟨ak,(agt L).symm⟩;rintro⟨⟨_,i,_⟩,A,_⟩ next1 ⟨i0,q⟩ hn1;intros
  try dsimp only at i0 q hn1⊢
  subst q;rw[adh];refine aE (λhi=>?_) (λhi=>?_)
  ·have hs:=aej (l:=L) (i:=i) aa hi;have hd:L.drop i.toNat=L.getD i.toNat (0,(0,[]))::L.drop (i+1).toNat:=by rw[show (i+1).toNat=i.toNat+1 from by omega,bN,bX aa];exact yT aa
   have ha:pZ L (i+1)=(kU (L.getD i.toNat (0,(0,[]))) (oH (L.take i.toNat))).reverse++L.drop (i+1).toNat:=by unfold pZ;rw[hs]
   have hl:(oH (L.take i.toNat)).length=i.toNat:=by rw[PX,ez];omega
   have hA:pZ L i=(oH (L.take i.toNat)).reverse++L.getD i.toNat (0,(0,[]))::L.drop (i+1).toNat:=by unfold pZ;rw[hd]
   rw[hA];generalize L.getD i.toNat (0,(0,[]))=X at *;generalize oH (L.take i.toNat)=R at *;generalize L.drop (i+1).toNat=Q at *;refine aY (λ(s:kY)=>∃R1 R2,R=R1++R2/\(R2.length:Int)=s.1.2.1/\kU X R=R1++kU X R2/\s.2.1=R2.reverse++X::(R1.reverse++Q)) (λ(s:kY)=>s.1.2.1.toNat) ?_ ⟨[],R,rfl,ae,rfl,rfl⟩;rintro⟨⟨_,k,_⟩,B,_⟩ next2 ⟨R1,R2,r1,r2,r3,r4⟩ hn2;intros
   try dsimp only at r1 r2 r3 r4 hn2⊢
   subst r4
   cases R2 with
   |nil=>
    have ek:k=0:=by simpa using r2.symm
    subst ek;refine⟨λh=>by simp at h,λh=>by simp at h,λh=>by simp at h,aC (λh=>by simp at h) (λ_=>⟨az,hn1 _ ⟨ae,?_⟩ ae⟩)⟩
    try dsimp only
    rw[ha,r3];simp[kU]
   |cons Y R2=>
    simp only[aH]at r2;have hr:R1.length+(R2.length+1)=i.toNat:=by rw[←hl,r1];simp
    have e1:(Y::R2).reverse++X::(R1.reverse++Q)=R2.reverse++Y::X::(R1.reverse++Q):=ak
    rw[e1];have hk:k.toNat=R2.reverse.length+1:=by rw[wg];omega
    have hk1:(k-1).toNat=R2.reverse.length:=by rw[wg];omega
    rw[hk,hk1,Kt,abn,T_];have hlen:((R2.reverse++Y::X::(R1.reverse++Q)).length:Int)=R2.length+2+R1.length+Q.length:=by simp;omega
    have hlen2:(((R2.reverse++Y::X::(R1.reverse++Q)).set (R2.reverse.length+1) Y).length:Int)=R2.length+2+R1.length+Q.length:=by rw[fx];exact hlen
    have hk63:inK .i64 (k-1):=az
    refine⟨λ_=>⟨aa,aa⟩,λ_=>hk63,λ_=>⟨aa,aa⟩,aC (λh=>?_) (λh=>?_)⟩
    ·simp only[ao,cj]at h;refine⟨aa,aa,hk63,aa,aa,aa,aa,hk63,aa,aa,hk63,hn2 _ ⟨R1++[Y],R2,by simp[r1],ae,?_,?_⟩ ae⟩
     ·rw[r3];simp[kU,h.2]
     ·simp
    ·have hb:BJ X Y=false:=by
      rcases yZ.1 h with h|h
      ·simp only[fS]at h;omega
      ·exact h
     refine⟨az,hn1 _ ⟨ae,?_⟩ ae⟩
     try dsimp only
     rw[ha,r3];simp[kU,hb]
  ·rw[agd aa]
theorem Yy:aN Tryz.prog 127 sL:=ctb (au jo (au W5 aQ)) aR 127 Tryz.f127 sL Yx [(18,12),(12,9),(13,8000085018)] (λx K=>Iy x.1 x.2.1 x.2.2.1 K) (λx h1 h2=>YQ x.1 x.2.1 x.2.2.1 h1 h2)
abbrev PtT:=Int×Int×List Int
def pAt(l:List PtT)(i:Int):PtT:=l.getD i.toNat (0,(0,[]))
def v8(n:Nat)(p:rN):Int:=(be n λk=>k).foldl (λh k=>if p k then k else h) (-1)
def xE(l:List PtT)(i j k:Int):Bool:=(pAt l k).1==(pAt l i).1&&eqR bd (pAt l k).2.2 ((pAt l i).2.2++(pAt l j).2.2)
def ku(l:List PtT)(i j:Int):Int:=if (pAt l i).2.1=(pAt l j).1 then v8 l.length (xE l i j)else -1
def oJ(l:List PtT)(n:Int)(i:Nat):List Int:=(be i λk=>k).foldl (λa k=>if (pAt l k).2.2.length=0 then a.set (pAt l k).1.toNat k else a) (List.replicate n.toNat 0)
def vM(n:Int)(l:List PtT)(t:df):aF:=(n,(l.map (·.1),(l.map (·.2.1),(oJ l n l.length,t))))
def FI(n:Int)(l:List PtT):aF:=vM n l (if l.length<=40 then be l.length (λi=>be l.length (ku l i))else [])
def tu(n:Int)(fr to:aw):aF:=FI n (rz n fr to)
theorem PK{x:PtT}:∀l:List PtT,(kU x l).Perm (x::l)
 |[]=>List.Perm.refl _
 |y::r=>by
  unfold kU;split
  ·exact ((PK r).cons y).trans (List.Perm.swap x y r)
  ·exact List.Perm.refl _
theorem Pw:∀(l a:List PtT),(l.foldl (λa x=>kU x a) a).Perm (a++l)
 |[],a=>by rw[List.foldl_nil,lS]
 |x::l,a=>by rw[jF];refine (Pw l _).trans (((PK a).append_right l).trans ?_);rw[oT];exact List.perm_middle.symm
theorem OA(l:List PtT):(B1 l).Perm l:=(List.reverse_perm _).trans (Pw l [])
theorem Qj{fr to:aw}(Q:PtT->Prop)(hQ:∀p e,Q p->0<=e->e<(fr.length:Int)->fr.getD e.toNat 0=p.2.1->Q (p.1,to.getD e.toNat 0,p.2.2++[e])):∀(u k:Nat)(l:List PtT),(∀p∈l,Q p)->∀p∈kL fr to u k l,Q p
 |0,_,_,h=>h
 |u+1,k,l,h=>by
  unfold kL;split
  ·rename_i hc;refine Qj Q hQ u (k+1) _ λp hp=>?_;rcases dN.1 hp with hp|hp
   ·exact h p hp
   ·unfold BT kR at hp;obtain⟨e,he,rfl⟩:=jJ.1 hp;obtain⟨he,hf⟩:=we.1 he;obtain⟨e2,e0,e1,rfl⟩:=ij.1 he;have hk:l.getD k (0,(0,[]))∈l:=by have:=cC l (0,(0,[])) (i:=k) aa aa;simpa using this
    exact hQ _ _ (h _ hk) e0 e1 (by simpa using hf)
  ·exact h
theorem PT{fr to:aw}:∀(u k:Nat)(l:List PtT),(∀p∈l,p.2.2.length<=k)->∀p∈kL fr to u k l,p.2.2.length<=k+u
 |0,_,_,h=>h
 |u+1,k,l,h=>by
  unfold kL;split
  ·rename_i hc;have:=PT (fr:=fr) (to:=to) u (k+1) (l++BT fr to (l.getD k (0,0,[]))) λp hp=>?_
   ·intro p hp;have:=this p hp;omega
   ·rcases dN.1 hp with hp|hp
    ·have:=h p hp;omega
    ·have hk:l.getD k (0,(0,[]))∈l:=by have:=cC l (0,(0,[])) (i:=k) aa aa;simpa using this
     have h1:=h _ hk;have h2:=Qs hp;omega
  ·intro p hp;have:=h p hp;omega
theorem Q8{fr to:aw}:∀(u k:Nat)(l:List PtT),l.length<=40+fr.length->(kL fr to u k l).length<=40+fr.length
 |0,_,_,h=>h
 |u+1,k,l,h=>by
  unfold kL;split
  ·rename_i hc;refine Q8 u (k+1) _ ?_;rw[bj];have:=@Qu fr to (l.getD k (0,0,[])) fr.length;unfold BT;omega
  ·exact h
theorem QR{p:PtT}(h:p∈oC n):0<=p.1/\p.1<n/\p.2.1=p.1/\p.2.2=[]:=by unfold oC at h;obtain⟨e,h0,h1,rfl⟩:=ij.1 h;exact⟨h0,ae,rfl,rfl⟩
theorem ado{n:Int}{fr to:aw}{p:PtT}(h:p∈rz n fr to):(0<=p.1/\p.1<n)/\p.2.2.length<=42:=by
 have h1:=(OA _).mem_iff.1 h;refine⟨Qj (λp=>0<=p.1/\p.1<n) (λp e hp _ _ _=>hp) 42 0 _ (λp hp=>?_) p h1,?_⟩
 ·have:=QR hp;exact⟨this.1,this.2.1⟩
 ·have:=PT 42 0 _ (λp hp=>by rw[(QR hp).2.2.2];simp) p h1;omega
theorem aci{n:Int}{fr to:aw}(h:n<=8):(rz n fr to).length<=40+fr.length:=by unfold rz;rw[(OA _).length_eq];refine Q8 42 0 _ ?_;unfold oC;rw[bG];omega
theorem TB{l:List PtT}{n i:Int}(h:0<=i):oJ l n (i+1).toNat=if (pAt l i).2.2.length=0 then (oJ l n i.toNat).set (pAt l i).1.toNat i else oJ l n i.toNat:=by unfold oJ;rw[gC h,oY];rfl
theorem J7{l:List PtT}{n:Int}:∀i:Nat,(oJ l n i).length=n.toNat
 |0=>by simp[oJ,be]
 |i+1=>by
  have:=@TB l n i aa;rw[show ((i:Int)+1).toNat=i+1 from rfl,bB]at this;rw[this];split
  ·rw[fx,J7 i]
  ·exact J7 i
theorem aeu{p:rN}(h:0<=i):v8 (i+1).toNat p=if p i then i else v8 i.toNat p:=by unfold v8;rw[gC h,oY];rfl
def sv:Ct:=⟨[aq,bd,bd],[false,false,false],λx=>[0<=x.1,x.1<=8,x.2.2.1.length=x.2.1.length,x.2.1.length<=1000000000],[(true,iI)],λx=>(tu x.1 x.2.1 x.2.2.1,()),false,none⟩
def WS:Ann:=(.s .n (.s .n (.s .n (.s (.s .n (.l [(6,(.ad 6 [.de])),(8,(.ad 8 [.de])),(9,(.d aq))] [(6,d7),(8,d7)] [7] (.s .n (.s (.s .n (.s .n (.s .n (.j [(6,(.ad 6 [.de])),(8,(.ad 8 [.de]))] [(6,d7),(8,d7)] [7,9] .n)))) .n)))) (.s .n (.s (.s .n (.l [(6,(.ad 6 [.de])),(8,(.ad 8 [.de])),(10,(.d aq))] [(6,d7),(8,d7)] [7] (.s .n (.s (.s .n (.s (.s .n (.l [(6,(.ad 6 [.de])),(8,(.ad 8 [.de])),(11,(.ref 800011 [])),(12,(.d aq))] Fo [7,10] (.s .n (.s (.s .n (.s (.s .n (.j TR Fo [7,10,12] (.s (.s .n (.s .n (.l [(6,(.ad 6 [.de])),(8,(.ad 8 [.de])),(11,(.ref 800011 [])),(13,(.d aq)),(15,(.d aq))] Fo [7,10,12,14] (.s .n (.s (.s .n (.j TR Fo [7,10,12,14,15] .n)) .n))))) .n))) .n)) .n)))) .n)) .n)))) .n))))))
def ahv:FuncId->Option Ct:=lkp [(46,lu),(72,mX),(79,wU),(127,sL)]
def HC(n:Int)(from_ to:aw)(K:qh):Prop:=let q:=rz n from_ to;0<=n/\n<=8/\to.length=from_.length/\from_.length<=1000000000/\0<=n/\n<=n/\n<=((140737488355328:Nat):Int)/\n*((8:Nat):Int)<=((140737488355328:Nat):Int)/\aI (S:=dz) (λa b=>let x:=a.1.2.2.1;let v:=a.2.2.1;let r:=q.getD x.toNat (0,0,[]);Iq x<|Oc a.2.1<|Oc v<|cnd (decide (x<(q.length:Int))) (Ix x q.length<|aX v.2.1.length [r.1].length 8/\(Ix x q.length<|aX v.2.2.1.length [r.2.1].length 8/\(Ix x q.length<|bZ (S:=(iw×(gn×(gn×Unit)))) (λc=>Oc c.2.1<|Oc c.2.2.1<|Ik (x+1)<|b (((),(),x+1,()),c.2.1,c.2.2.1,())) (λd=>cnd ((r.2.2.length:Int)==0) (Ix x q.length<|Ix r.1 v.2.2.2.1.length<|d (((),(),()),a.2.1,(v.1,v.2.1++[r.1],v.2.2.1++[r.2.1],List.set v.2.2.2.1 r.1.toNat x,v.2.2.2.2),())) (d (((),(),()),a.2.1,(v.1,v.2.1++[r.1],v.2.2.1++[r.2.1],v.2.2.2),())))))) (cnd (!(decide (v.1<=8)&&decide ((v.2.1.length:Int)<=40))) (K (v,())) (aI (S:=dz) (λe f=>let y:=e.1.2.2.1;let t:=q.getD y.toNat (0,0,[]);Iq y<|Oc e.2.1<|Oc e.2.2.1<|cnd (decide (y<(q.length:Int))) (aI (S:=ff) (λg h=>let a2:=g.2.2.2.1;let a1:=g.2.2.1;let w:=g.1.2.2.2.1;let z:=q.getD w.toNat (0,0,[]);Iq w<|Oc g.2.1<|Oc a1<|Ol a2<|cnd (decide (w<(q.length:Int))) (Ix y q.length<|Ix w q.length<|bZ (S:=ff) (λi=>Iq i.1.2.2.2.1<|Oc i.2.1<|Oc i.2.2.1<|Ol i.2.2.2.1<|aX i.2.2.2.1.length [i.1.2.2.2.1].length 8/\(Ik (w+1)<|h (((),(),(),w+1,()),i.2.1,i.2.2.1,i.2.2.2.1++[i.1.2.2.2.1],()))) (λj=>cnd (t.2.1==z.1) (Ix y q.length<|t.2.2.length<=1099511627776/\(Ix w q.length<|aX t.2.2.length z.2.2.length 8/\aI (S:=LS) (λl m=>let a4:=l.2.2;let a3:=l.1.2.2.2;let u:=a3.2.1;let a0:=q.getD u.toNat (0,0,[]);Iq a3.1<|Iq u<|Oc l.2.1<|Oc a4.1<|Ol a4.2.1<|cnd (decide (u<(q.length:Int))) (Ix u q.length<|Ix y q.length<|((a0.1==t.1)=true->u<(q.length:Int)/\0<=u)/\bZ (S:=ff) (λo=>Iq o.1.2.2.2.1<|Oc o.2.1<|Oc o.2.2.1<|Ol o.2.2.2.1<|Ik (u+1)<|m (((),(),(),o.1.2.2.2.1,u+1,()),o.2.1,o.2.2.1,o.2.2.2.1,())) (λp=>cnd (a0.1==t.1&&eqR bd a0.2.2 (t.2.2++z.2.2)) (p (((),(),(),u,()),l.2.1,a4.1,a4.2.1,())) (p (((),(),(),a3.1,()),l.2.1,a4.1,a4.2.1,())))) (j (((),(),(),a3.1,()),l.2.1,a4.1,a4.2.1,()))) (((),(),(),-1,0,()),g.2.1,a1,a2,()))) (j (((),(),(),-1,()),g.2.1,a1,a2,())))) (aX a1.2.2.2.2.length [a2].length 24/\(Ik (y+1)<|f (((),(),y+1,()),g.2.1,(a1.1,a1.2.1,a1.2.2.1,a1.2.2.2.1,a1.2.2.2.2++[a2]),())))) (((),(),(),0,()),e.2.1,e.2.2.1,[],())) (K (e.2.2.1,()))) (((),(),0,()),a.2.1,v,())))) (((),(),0,()),(0,[],[],[],[]),(n,[],[],List.replicate n.toNat (0:Int),[]),())
theorem Xh(n:Int)(from_ to:aw)(hok:ab (okL sv.args (n,from_,to,())))(hpre:ab (sv.pre (n,from_,to,()))):HC n from_ to (λr=>r=sv.res (n,from_,to,())):=by
 simp only[sv,okL,T.oks,T.ok,ap,ab,aL,aA,bf]at hok hpre
 try dsimp only[T.den]at hok hpre
 delta HC Ik Iq Ix Oc Ol Om
 dsimp -proj -eta only;obtain⟨n0,n8,ht,hf⟩:=hpre;have hm:=@ado n from_ to;have hx:=@aci n from_ to n8;refine⟨n0,n8,ht,hf,n0,cB _,aa,aa,?_⟩;simp only[sv,tu];generalize rz n from_ to=l at *;have hg:∀{i:Int},0<=i->i<l.length->(0<=(pAt l i).1/\(pAt l i).1<n)/\(pAt l i).2.2.length<=42:=λh0 h1=>hm (cC l _ h0 h1);refine aY (λ(s:dz)=>0<=s.1.2.2.1/\s.1.2.2.1<=l.length/\s.2.2.1=(n,((l.take s.1.2.2.1.toNat).map (·.1),((l.take s.1.2.2.1.toNat).map (·.2.1),(oJ l n s.1.2.2.1.toNat,[]))))) (λ(s:dz)=>(l.length-s.1.2.2.1).toNat) ?_ ⟨ak,ak,rfl⟩;rintro⟨⟨_,_,i,_⟩,o1,c,_⟩ next ⟨i0,i1,q⟩ hnx
 intros
 try dsimp only at i0 i1 q hnx⊢
 subst q;refine aE (λhi=>?_) (λhi=>?_)
 ·have hp:=hg i0 hi;have ht:=fY l (0,(0,[])) i0 hi;have hs:=TB (l:=l) (n:=n) i0;have hl:((l.take i.toNat).map (·.1)).length=i.toNat:=by rw[d5,ez];omega
  have hl2:((l.take i.toNat).map (·.2.1)).length=i.toNat:=by rw[d5,ez];omega
  have hil:=@J7 l n i.toNat;have hc:(n,((l.take (i+1).toNat).map (·.1),((l.take (i+1).toNat).map (·.2.1),(oJ l n (i+1).toNat,([]:List (List Int))))))=(n,((l.take i.toNat).map (·.1)++[(pAt l i).1],((l.take i.toNat).map (·.2.1)++[(pAt l i).2.1],(oJ l n (i+1).toNat,[])))):=by rw[ht,mN,mN];rfl
  refine⟨i0,hi,bh (by rw[hl];simp only[aH,aM];omega),i0,hi,bh (by rw[hl2];simp only[aH,aM];omega),i0,hi,cp (λ(q:(iw×(gn×(gn×Unit))))=>q.2.2.1=(n,((l.take (i+1).toNat).map (·.1),((l.take (i+1).toNat).map (·.2.1),(oJ l n (i+1).toNat,([]:List (List Int))))))) ?_ ?_⟩
  ·rintro⟨_,o2,c2,_⟩ q2;intros
   try dsimp only at q2⊢
   subst q2;exact⟨az,hnx _ ⟨ae,ae,rfl⟩ ae⟩
  ·intro k hk;rw[hc,hs]at hk;refine aC (λh=>?_) (λh=>?_)
   ·have h0:(pAt l i).2.2.length=0:=(by have:(((pAt l i).2.2.length:Nat):Int)=0:=iT h;omega);rw[am h0]at hk;exact⟨i0,hi,hp.1.1,by rw[hil];show (pAt l i).1<_;omega,hk _ rfl⟩
   ·have h0:¬(pAt l i).2.2.length=0:=(by have:¬(((pAt l i).2.2.length:Nat):Int)=0:=iH.1 h;omega);rw[ai h0]at hk;exact hk _ rfl
 have ei:i=l.length:=aa
 subst ei;clear hnx;rw[bB,wh];simp only[d5];refine aC (λh=>?_) (λh=>?_)
 ·have h40:¬l.length<=40:=by simp only[fy,yZ,fS]at h;omega
  unfold FI;rw[ai h40];rfl
 have h40:l.length<=40:=by simp only[jK,ao,cj]at h;omega
 have hcat:FI n l=vM n l (be l.length (λi=>be l.length (ku l i))):=by unfold FI;rw[am h40]
 rw[hcat];refine aY (λ(s:dz)=>0<=s.1.2.2.1/\s.1.2.2.1<=l.length/\s.2.2.1=vM n l (be s.1.2.2.1.toNat (λi=>be l.length (ku l i)))) (λ(s:dz)=>(l.length-s.1.2.2.1).toNat) ?_ ⟨ak,ak,rfl⟩;rintro⟨⟨_,_,i,_⟩,o1,c,_⟩ next ⟨i0,i1,q⟩ hnx
 intros
 try dsimp only at i0 i1 q hnx⊢
 subst q;refine aE (λhi=>?_) (λhi=>?_)
 ·have hp:=hg i0 hi;refine aY (λ(s:ff)=>0<=s.1.2.2.2.1/\s.1.2.2.2.1<=l.length/\s.2.2.1=vM n l (be i.toNat (λi=>be l.length (ku l i)))/\s.2.2.2.1=be s.1.2.2.2.1.toNat (ku l i)) (λ(s:ff)=>(l.length-s.1.2.2.2.1).toNat) ?_ ⟨ak,ak,rfl,rfl⟩;rintro⟨⟨_,_,_,j,_⟩,o2,c,r,_⟩ next1 ⟨j0,j1,q,qr⟩ hn1;intros
  try dsimp only at j0 j1 q qr hn1⊢
  subst q;subst qr;refine aE (λhj=>?_) (λhj=>?_)
  ·have hq:=hg j0 hj;refine⟨i0,hi,j0,hj,cp (λ(q:ff)=>q.1.2.2.2.1=ku l i j/\q.2.2.1=vM n l (be i.toNat (λi=>be l.length (ku l i)))/\q.2.2.2.1=be j.toNat (ku l i)) ?_ ?_⟩
   ·rintro⟨⟨_,_,_,h,_⟩,o3,c3,r3,_⟩ ⟨e1,e2,e3⟩;intros
    try dsimp only at e1 e2 e3⊢
    subst e1;subst e2;subst e3;exact⟨bh (by rw[bG];simp only[aH,aM];omega),az,hn1 _ ⟨ae,ae,rfl,(gC j0).symm⟩ ae⟩
   ·intro k hk;refine aC (λh=>?_) (λh=>?_)
    ·have he:(pAt l i).2.1=(pAt l j).1:=iT h;refine⟨i0,hi,by have:=hp.2;unfold pAt at this;omega,j0,hj,bh (by have:=hp.2;have:=hq.2;unfold pAt at *;omega),?_⟩;have hcm:ku l i j=v8 l.length (xE l i j):=by unfold ku;rw[am he]
     rw[hcm]at hk;refine aY (λ(s:LS)=>0<=s.1.2.2.2.2.1/\s.1.2.2.2.2.1<=l.length/\s.1.2.2.2.1=v8 s.1.2.2.2.2.1.toNat (xE l i j)/\s.2.2.1=vM n l (be i.toNat (λi=>be l.length (ku l i)))/\s.2.2.2.1=be j.toNat (ku l i)) (λ(s:LS)=>(l.length-s.1.2.2.2.2.1).toNat) ?_ ⟨ak,ak,rfl,rfl,rfl⟩;rintro⟨⟨_,_,_,h,m,_⟩,o3,c3,r3,_⟩ next3 ⟨m0,m1,e1,e2,e3⟩ hn3;intros
     try dsimp only at m0 m1 e1 e2 e3 hn3⊢
     subst e1;subst e2;subst e3;refine aE (λhm=>?_) (λhm=>?_)
     ·refine⟨m0,hm,i0,hi,λ_=>⟨hm,m0⟩,cp (λ(q:ff)=>q.1.2.2.2.1=v8 (m+1).toNat (xE l i j)/\q.2.2.1=vM n l (be i.toNat (λi=>be l.length (ku l i)))/\q.2.2.2.1=be j.toNat (ku l i)) ?_ ?_⟩
      ·rintro⟨⟨_,_,_,h,_⟩,o4,c4,r4,_⟩ ⟨e1,e2,e3⟩;intros
       try dsimp only at e1 e2 e3⊢
       subst e1;subst e2;subst e3;exact⟨az,hn3 _ ⟨ae,ae,rfl,rfl,rfl⟩ ae⟩
      ·intro k1 hk1;rw[aeu m0]at hk1;refine aC (λhb=>?_) (λhb=>?_)
       ·exact hk1 _ ⟨(am hb).symm,rfl,rfl⟩
       ·exact hk1 _ ⟨(ai (by show ¬xE l i j m=true;exactλh=>by rw[show xE l i j m=false from hb]at h;cases h)).symm,rfl,rfl⟩
     ·have em:m=l.length:=aa
      subst em;exact hk _ ⟨rfl,rfl,rfl⟩
    ·have he:¬(pAt l i).2.1=(pAt l j).1:=iH.1 h;have hcm:ku l i j=-1:=by unfold ku;rw[ai he]
     rw[hcm]at hk;exact hk _ ⟨rfl,rfl,rfl⟩
  ·have ej:j=l.length:=aa
   subst ej;refine⟨bh (by show ((be i.toNat _).length+_)*24<=_;rw[bG];simp only[aH,aM];omega),by rw[cf];(try dsimp only);omega,hnx _ ⟨ae,ae,?_⟩ ae⟩
   try dsimp only
   rw[gC i0];rfl
 ·have ei:i=l.length:=aa
  subst ei;rfl
theorem Ng:aN Tryz.prog 111 sv:=ctb (au jo (au CB (au Hx (au Yy aQ)))) aR 111 Tryz.f111 sv WS [(20,10),(21,511),(6,508),(7,508),(25,18),(9,508)] (λx K=>HC x.1 x.2.1 x.2.2.1 K) (λx h1 h2=>Xh x.1 x.2.1 x.2.2.1 h1 h2)
structure PoC (n b:Int) (c:aF):Prop where
 ob:c.1=n
 lt:c.2.2.1.length=c.2.1.length
 m:(c.2.1.length:Int)<=b
 fr:∀x∈c.2.1,0<=x/\x<n
 to:∀x∈c.2.2.1,0<=x/\x<n
theorem PoC.le(h:PoC n a c)(hb:a<=b):PoC n b c:=⟨h.ob,h.lt,by have:=h.m;omega,h.fr,h.to⟩
structure NumL (k b:Int) (w:aw):Prop where
 l:(w.length:Int)=k
 e:∀x∈w,-b<=x/\x<=64
theorem NumL.push{l:aw}(h:NumL k b l)(h0:-b<=x)(h1:x<=64):NumL (k+1) b (l++[x]):=
 ⟨by rw[bj];have:=h.l;simp only[aH,aM];omega,λy hy=>by
  rcases dN.1 hy with hy|hy
  ·exact h.e y hy
  ·rw[cP.1 hy];exact⟨h0,h1⟩⟩
theorem NumL.at{l:aw}(h:NumL k b l)(h0:0<=i)(h1:i<k):-b<=l.getD i.toNat 0/\l.getD i.toNat 0<=64:=h.e _ (cC l 0 h0 (by have:=h.l;omega))
structure NumT (k n b:Int) (t:df):Prop where
 l:(t.length:Int)=k
 e:∀r∈t,NumL n b r
theorem NumT.push(h:NumT k n b t)(hr:NumL n b r):NumT (k+1) n b (t++[r]):=
 ⟨by rw[bj];have:=h.l;simp only[aH,aM];omega,λy hy=>by
  rcases dN.1 hy with hy|hy
  ·exact h.e y hy
  ·rw[cP.1 hy];exact hr⟩
theorem NumT.at(h:NumT k n b t)(h0:0<=i)(h1:i<k):NumL n b (t.getD i.toNat []):=h.e _ (cC t [] h0 (by have:=h.l;omega))
def nS:Ct:=⟨[nz],[false],λx=>[RowP x.1.length x.1,x.1.length<=8],[(true,iI)],λ_=>dfR _,false,none⟩
def zB(rel:df)(r0:aF):Prop:=CgR 64 r0/\r0.1=(rel.length:Int)/\(r0.2.1.length:Int)<=8*rel.length
def Na:Ann:=(.s .n (.s .n (.s .n (.s .n (.s (.s .n (.l [(2,(.ad 2 [.de])),(4,(.ref 800004 [])),(5,(.ad 5 [.de])),(6,(.d aq))] [(2,d7),(800004,iL),(5,d7)] [0,3] (.s .n (.s (.s .n (.s (.s .n (.l [(2,(.ad 2 [.de])),(4,(.ref 800004 [])),(5,(.ad 5 [.de])),(7,(.ref 800007 [])),(8,(.d aq))] UD [0,3,6] (.s .n (.s (.s .n (.s .n (.j [(2,(.ad 2 [.de])),(4,(.ref 800004 [])),(5,(.ad 5 [.de])),(7,(.ref 800007 []))] UD [0,3,6,8] .n))) .n)))) .n)) .n)))) (.s (.s .n (.l [(2,(.ad 2 [.de])),(5,(.ad 5 [.de])),(9,(.d aq))] [(2,d7),(5,d7)] [3,4] .n)) (.s (.s .n (.l [(2,(.ad 2 [.de])),(5,(.ad 5 [.de])),(10,(.d aq))] [(2,d7),(5,d7)] [4] (.s .n (.s (.s .n (.s (.s .n (.l [(2,(.ad 2 [.de])),(5,(.ad 5 [.de])),(11,(.ref 800011 [])),(12,(.d aq))] [(2,d7),(5,d7),(800011,cd)] [4,10] (.s .n (.s (.s .n (.s (.s .n (.j [(2,(.ad 2 [.de])),(5,(.ad 5 [.de])),(11,(.ref 800011 [])),(13,(.d aq))] [(2,d7),(5,d7),(800011,cd)] [4,10,12] .n)) .n)) .n)))) .n)) .n)))) .n)))))))
def z7(rel:df)(K:qh):Prop:=let a1:=rel.length;aI (S:=LL) (λa b=>let r:=a.1.2.2.2.1;Iq r<|Oc a.2.1<|Om a.2.2.1<|Oc a.2.2.2.1<|cnd (decide (r<(a1:Int))) (aI (S:=(nG×BZ)) (λc d=>let a5:=c.2.2.1;let q:=c.1.2.2.2.2.1;let p:=c.2.2.2;let z:=p.1.2.1.length;Iq q<|Oc c.2.1<|Om a5<|Oc p.1<|Ol p.2.1<|cnd (decide (q<(a1:Int))) (aX p.2.1.length [(z:Int)].length 8/\(Ix r a1<|Ix q (rel.getD r.toNat []).length<|bZ (S:=((Unit×(Unit×iw))×BZ)) (λe=>Oc e.2.1<|Om e.2.2.1<|Oc e.2.2.2.1<|Ol e.2.2.2.2.1<|Ik (q+1)<|d (((),(),(),(),q+1,()),e.2.1,e.2.2.1,e.2.2.2.1,e.2.2.2.2.1,())) (λf=>cnd ((rel.getD r.toNat []).getD q.toNat 0==1) (aX z [r].length 8/\aX p.1.2.2.1.length [q].length 8/\f (((),(),(),(),()),c.2.1,a5,(p.1.1,p.1.2.1++[r],p.1.2.2.1++[q],p.1.2.2.2),p.2.1++[(z:Int)],())) (f (((),(),(),(),()),c.2.1,a5,p.1,p.2.1++[(z:Int)],()))))) (aX a5.length [p.2.1].length 24/\(Ik (r+1)<|b (((),(),(),r+1,()),c.2.1,a5++[p.2.1],p.1,())))) (((),(),(),(),0,()),a.2.1,a.2.2.1,a.2.2.2.1,[],())) (aI (S:=dz) (λg h=>let a0:=g.2.2.1;let u:=g.1.2.2.1;let y:=a.2.2.1.getD u.toNat [];Iq u<|Oc g.2.1<|Oc a0<|cnd (decide (u<(a1:Int))) (Ix u a.2.2.1.length<|Ix u y.length<|aX a0.2.2.2.1.length [y.getD u.toNat 0].length 8/\(Ik (u+1)<|h (((),(),u+1,()),g.2.1,(a0.1,a0.2.1,a0.2.2.1,a0.2.2.2.1++[y.getD u.toNat 0],a0.2.2.2.2),()))) (aI (S:=dz) (λi j=>let x:=i.1.2.2.1;Iq x<|Oc i.2.1<|Oc i.2.2.1<|cnd (decide (x<(i.2.2.1.2.1.length:Int))) (aI (S:=ff) (λl m=>let a2:=l.2.2.2.1;let w:=l.2.2.1;let a6:=w.2.1.length;let v:=w.2.1.getD x.toNat 0;let a3:=a.2.2.1.getD v.toNat [];let t:=l.1.2.2.2.1;let a4:=w.2.2.1.getD t.toNat 0;Iq t<|Oc l.2.1<|Oc w<|Ol a2<|cnd (decide (t<(a6:Int))) (Ix x w.2.2.1.length<|Ix t a6<|bZ (S:=ff) (λn=>Iq n.1.2.2.2.1<|Oc n.2.1<|Oc n.2.2.1<|Ol n.2.2.2.1<|aX n.2.2.2.1.length [n.1.2.2.2.1].length 8/\(Ik (t+1)<|m (((),(),(),t+1,()),n.2.1,n.2.2.1,n.2.2.2.1++[n.1.2.2.2.1],()))) (λo=>cnd (w.2.2.1.getD x.toNat 0==w.2.1.getD t.toNat 0) (Ix x a6<|Ix v a.2.2.1.length<|Ix t w.2.2.1.length<|Ix a4 a3.length<|o (((),(),(),a3.getD a4.toNat 0,()),l.2.1,w,a2,())) (o (((),(),(),-1,()),l.2.1,w,a2,())))) (aX w.2.2.2.2.length [a2].length 24/\(Ik (x+1)<|j (((),(),x+1,()),l.2.1,(w.1,w.2.1,w.2.2.1,w.2.2.2.1,w.2.2.2.2++[a2]),())))) (((),(),(),0,()),i.2.1,i.2.2.1,[],())) (K (i.2.2.1,()))) (((),(),0,()),g.2.1,a0,()))) (((),(),0,()),a.2.1,a.2.2.2.1,()))) (((),(),(),0,()),(0,[],[],[],[]),[],((a1:Int),[],[],[],[]),())
theorem Xf(rel:df)(hok:ab (okL nS.args (rel,())))(hpre:ab (nS.pre (rel,()))):z7 rel (λr=>zB rel r.1):=by
 simp only[nS,okL,T.oks,T.ok,ap,ab,aL,aA,bf]at hok hpre
 try dsimp only[T.den]at hok hpre
 delta z7 zB Ik Iq Ix Oc Ol Om
 dsimp -proj -eta only;obtain⟨hR,h8⟩:=hpre;clear hok;generalize hn:rel.length=n0 at *;obtain⟨n,hnn⟩:∃n:Int,n=(n0:Int):=⟨_,rfl⟩;rw[←hnn]at hR⊢;have n0':0<=n:=aa
 have n8:n<=8:=aa
 have rl:(rel.length:Int)=n:=aa
 refine aY (λ(s:LL)=>0<=s.1.2.2.2.1/\s.1.2.2.2.1<=n/\NumT s.1.2.2.2.1 n 0 s.2.2.1/\PoC n (8*s.1.2.2.2.1) s.2.2.2.1/\s.2.2.2.1.2.2.2=([],[])) (λ(s:LL)=>(n-s.1.2.2.2.1).toNat) ?_ ⟨ak,by simpa using n0',⟨rfl,ak⟩,⟨rfl,rfl,ak,ak,ak⟩,rfl⟩;rintro⟨⟨_,_,_,i,_⟩,o1,num,c,_⟩ next ⟨i0,i1,hN,hP,hz⟩ hnx
 intros
 try dsimp only at i0 i1 hN hP hz hnx⊢
 refine aE (λhi=>?_) (λhi=>?_)
 ·refine aY (λ(s:(nG×BZ))=>0<=s.1.2.2.2.2.1/\s.1.2.2.2.2.1<=n/\s.2.2.1=num/\PoC n (8*i+s.1.2.2.2.2.1) s.2.2.2.1/\s.2.2.2.1.2.2.2=([],[])/\NumL s.1.2.2.2.2.1 0 s.2.2.2.2.1) (λ(s:(nG×BZ))=>(n-s.1.2.2.2.2.1).toNat) ?_ ⟨ak,by simpa using n0',rfl,hP.le (by (try dsimp only);omega),hz,⟨rfl,ak⟩⟩;rintro⟨⟨_,_,_,_,j,_⟩,o2,num2,c2,row,_⟩ next2 ⟨j0,j1,q1,hP2,hz2,hL⟩ hn2;intros
  try dsimp only at j0 j1 q1 hP2 hz2 hL hn2⊢
  subst q1;have m2:=hP2.m;have l2:=hP2.lt;have ll:=hL.l;refine aE (λhj=>?_) (λhj=>?_)
  ·have hr:=hR.row (i:=i) i0 aa;refine⟨bh (by simp only[aH,aM];omega),i0,aa,j0,aa,cp (λ(q:((Unit×(Unit×iw))×BZ))=>q.2.2.1=num2/\PoC n (8*i+(j+1)) q.2.2.2.1/\q.2.2.2.1.2.2.2=([],[])/\NumL (j+1) 0 q.2.2.2.2.1) ?_ (λk hk=>aC (λ_=>⟨bh (by simp only[aH,aM];omega),bh (by simp only[aH,aM];omega),hk _ ⟨rfl,⟨hP2.ob,?_,?_,?_,?_⟩,hz2,hL.push aa aa⟩⟩) (λ_=>hk _ ⟨rfl,hP2.le aa,hz2,hL.push aa aa⟩))⟩
   ·rintro⟨_,o3,num3,c3,row3,_⟩ ⟨q1,q2,q3,q4⟩;intros
    try dsimp only at q1 q2 q3 q4⊢
    exact⟨az,hn2 _ ⟨ae,ae,q1,q2,q3,q4⟩ cO⟩
   ·try dsimp only;simp only[bj,aH,aM];omega
   ·try dsimp only;simp only[bj,aH,aM];omega
   ·try dsimp only;intro x hx
    rcases dN.1 hx with hx|hx
    ·exact hP2.fr x hx
    ·rw[cP.1 hx];omega
   ·try dsimp only;intro x hx
    rcases dN.1 hx with hx|hx
    ·exact hP2.to x hx
    ·rw[cP.1 hx];omega
  ·have e:j=n:=aa
   rw[e]at hL hP2;have:=hN.l;exact⟨bh (by simp only[aH,aM];omega),az,hnx _ ⟨ae,ae,hN.push hL,hP2.le ae,hz2⟩ cO⟩
 have ei:i=n:=aa
 rw[ei]at hN hP;replace hP:=hP.le (b:=8*n) aa;have nl:=hN.l;refine aY (λ(s:dz)=>0<=s.1.2.2.1/\s.1.2.2.1<=n/\PoC n (8*n) s.2.2.1/\s.2.2.1.2.2.2.2=[]/\NumL s.1.2.2.1 0 s.2.2.1.2.2.2.1) (λ(s:dz)=>(n-s.1.2.2.1).toNat) ?_ ⟨ak,by simpa using n0',hP,by dsimp only;rw[hz],by dsimp only;rw[hz];exact⟨rfl,ak⟩⟩;rintro⟨⟨_,_,y,_⟩,o2,c2,_⟩ next1 ⟨y0,y1,hP2,hz2,hL⟩ hn1;intros
 try dsimp only at y0 y1 hP2 hz2 hL hn1⊢
 have ll:=hL.l;refine aE (λhy=>?_) (λhy=>?_)
 ·have hr:=hN.at y0 aa;have hrl:=hr.l;have hv:=hr.at y0 aa;exact⟨y0,aa,y0,aa,bh (by simp only[aH,aM];omega),az,hn1 _ ⟨ae,ae,⟨hP2.ob,hP2.lt,hP2.m,hP2.fr,hP2.to⟩,hz2,hL.push hv.1 hv.2⟩ cO⟩
 have ey:y=n:=aa
 rw[ey]at hL;have m2:=hP2.m;have l2:=hP2.lt;refine aY (λ(s:dz)=>0<=s.1.2.2.1/\s.1.2.2.1<=c2.2.1.length/\s.2.2.1.1=c2.1/\s.2.2.1.2.1=c2.2.1/\s.2.2.1.2.2.1=c2.2.2.1/\s.2.2.1.2.2.2.1=c2.2.2.2.1/\NumT s.1.2.2.1 c2.2.1.length 64 s.2.2.1.2.2.2.2) (λ(s:dz)=>(c2.2.1.length-s.1.2.2.1).toNat) ?_ ⟨ak,ak,rfl,rfl,rfl,rfl,by dsimp only;rw[hz2];exact⟨rfl,ak⟩⟩;rintro⟨⟨_,_,f,_⟩,o3,⟨c31,c32,c33,c34,c35⟩,_⟩ next2 ⟨f0,f1,q1,q2,q3,q4,hT⟩ hn2;intros
 try dsimp only at f0 f1 q1 q2 q3 q4 hT hn2⊢
 subst q1;subst q2;subst q3;subst q4;have tl:=hT.l;refine aE (λhf=>?_) (λhf=>?_)
 ·refine aY (λ(s:ff)=>0<=s.1.2.2.2.1/\s.1.2.2.2.1<=c2.2.1.length/\s.2.2.1=(c2.1,c2.2.1,c2.2.2.1,c2.2.2.2.1,c35)/\NumL s.1.2.2.2.1 64 s.2.2.2.1) (λ(s:ff)=>(c2.2.1.length-s.1.2.2.2.1).toNat) ?_ ⟨ak,ak,rfl,⟨rfl,ak⟩⟩;rintro⟨⟨_,_,_,g,_⟩,o4,c4,row,_⟩ next3 ⟨g0,g1,q1,hL3⟩ hn3;intros
  try dsimp only at g0 g1 q1 hL3 hn3⊢
  subst q1
  try dsimp only
  have ll3:=hL3.l;refine aE (λhg=>?_) (λhg=>?_)
  ·have a1:=hP2.fr _ (cC c2.2.1 0 f0 hf);have a2:=hP2.to _ (cC c2.2.2.1 0 g0 aa);have hr:=hN.at a1.1 a1.2;have hrl:=hr.l;have hv:=hr.at a2.1 a2.2;refine⟨f0,aa,g0,hg,cp (λ(q:ff)=>-64<=q.1.2.2.2.1/\q.1.2.2.2.1<=64/\q.2.2.1=(c2.1,c2.2.1,c2.2.2.1,c2.2.2.2.1,c35)/\q.2.2.2.1=row) ?_ (λk hk=>aC (λ_=>⟨f0,hf,a1.1,aa,g0,aa,a2.1,aa,hk _ ⟨ae,ae,rfl,rfl⟩⟩) (λ_=>hk _ ⟨ae,ae,rfl,rfl⟩))⟩;rintro⟨⟨_,_,_,h,_⟩,o5,c5,row5,_⟩ ⟨q1,q2,q3,q4⟩;intros
   try dsimp only at q1 q2 q3 q4⊢
   subst q3;subst q4;exact⟨bh (by simp only[aH,aM];omega),az,hn3 _ ⟨ae,ae,rfl,hL3.push q1 q2⟩ cO⟩
  ·have e:g=c2.2.1.length:=aa
   rw[e]at hL3;exact⟨bh (by simp only[aH,aM];omega),az,hn2 _ ⟨ae,ae,rfl,rfl,rfl,rfl,hT.push hL3⟩ cO⟩
 have ef:f=c2.2.1.length:=aa
 rw[ef]at hT;have hob:=hP2.ob;have tl:=hT.l;have ll:=hL.l;refine⟨⟨aa,by (try dsimp only);omega,by (try dsimp only);omega,by (try dsimp only);omega,l2,by (try dsimp only);omega,by (try dsimp only);omega,λx hx=>by have:=hP2.fr x hx;omega,λx hx=>by have:=hP2.to x hx;omega,λx hx=>by have:=hL.e x hx;omega,λr hr=>?_⟩,by (try dsimp only);omega,by (try dsimp only);omega⟩;have h:=hT.e r hr;exact⟨by have:=h.l;(try dsimp only);omega,h.e⟩
theorem H4(rel:df):∃q:aF×Unit,ab (okL nS.args (rel,()))->ab (nS.pre (rel,()))->z7 rel (λr=>r=q)/\ab (okR nS.rt q)/\zB rel q.1:=pkb aQ aR 80 Tryz.f80 nS Na [(19,510),(28,10),(29,13)] (λx K=>z7 x.1 K) (λx r=>zB x.1 r.1) (λx h1 h2=>Xf x.1 h1 h2) (rel,())
def jO(rel:df):aF:=(H4 rel).choose.1
theorem Xt(rel:df)(hok:ab (okL nS.args (rel,())))(hpre:ab (nS.pre (rel,()))):ab (okR nS.rt (jO rel,()))/\zB rel (jO rel):=((H4 rel).choose_spec hok hpre).2
def CI:Ct:=⟨[nz],[false],λx=>[RowP x.1.length x.1,x.1.length<=8],[(true,iI)],λx=>((jO x.1),()),false,none⟩
theorem C4:aN Tryz.prog 80 CI:=ctb aQ aR 80 Tryz.f80 CI Na [(19,510),(28,10),(29,13)] (λx K=>z7 x.1 K) (λx h1 h2=>((H4 x.1).choose_spec h1 h2).1)
theorem yf(h:CgR b c)(hb:b<=1000000000000):ab (T.oks cS c):=by
 have h1:=h.m;have h2:=h.lt;have h3:=h.li;have h4:=h.ob;have h5:=h.ob0;have h6:=h.lc;refine afg (by rw[cf];omega) ⟨by rw[bO];omega,λx hx=>?_⟩ ⟨by rw[bO];omega,λx hx=>?_⟩ ⟨by rw[bO];omega,λx hx=>?_⟩ ⟨by rw[bO];omega,λr hr=>⟨by have:=(h.row r hr).1;rw[bO];omega,λx hx=>?_⟩⟩
 ·have:=h.fr x hx;show inK .i64 x;rw[cf];omega
 ·have:=h.to x hx;show inK .i64 x;rw[cf];omega
 ·have:=h.id x hx;show inK .i64 x;rw[cf];omega
 ·have:=(h.row r hr).2 x hx;show inK .i64 x;rw[cf];omega
theorem R9(hok:(T.sl bd).ok rel)(h:RowP rel.length rel)(h8:rel.length<=8):CgR 64 (jO rel)/\(jO rel).1=(rel.length:Int)/\((jO rel).2.1.length:Int)<=8*rel.length:=(Xt rel (by simp only[nS,okL,fW,ab,aA];exact kA _ _ hok) ⟨h,h8,trivial⟩).2
theorem vg(hok:(T.sl bd).ok rel)(h:RowP rel.length rel)(h8:rel.length<=8):CgR 64 (jO rel):=(R9 hok h h8).1
def Tw(t:df):Bool:=decide (t.length<=8)&&t.all λr=>decide (r.length<=8)&&r.all λx=>decide (0<=x/\x<=8)
theorem AW(h:Tw t=true):(T.sl bd).ok t:=by simp only[Tw,ao,cj,eU]at h;exact⟨by rw[bO];omega,λr hr=>⟨by have:=(h.2 r hr).1;rw[bO];omega,λx hx=>by have:=(h.2 r hr).2 x hx;show inK .i64 x;rw[cf];omega⟩⟩
theorem T4(h:CgR 64 c)(g:CgR 64 d):CgR 10000 (zv c d):=(Ym c d (by simp only[nV,okL,fW,ab,aA];exact⟨yf h aa,yf g aa⟩) ⟨h,g,trivial⟩).2
theorem KL(h:TblR t):CgR 8 (tK t):=ac2 h.lo h.hi h.rw_ h.en
def cgB(b:Int)(c:aF):Bool:=
 decide (1<=b)&&decide (0<=c.1)&&decide (c.1<=b)&&decide ((c.2.1.length:Int)<=b)&&decide (c.2.2.1.length=c.2.1.length)&&decide ((c.2.2.2.1.length:Int)=c.1)&&decide (c.2.2.2.2.length=c.2.1.length)
  && c.2.1.all (λx=>decide (0<=x/\x<=b))&&c.2.2.1.all (λx=>decide (0<=x/\x<=b))&&c.2.2.2.1.all (λx=>decide (0<=x/\x<=b))&&c.2.2.2.2.all (λr=>decide (r.length=c.2.1.length)&&r.all (λx=>decide (-b<=x/\x<=b)))
theorem Ta(h:cgB b c=true):CgR b c:=by simp only[cgB,ao,cj,eU]at h;obtain⟨⟨⟨⟨⟨⟨⟨⟨⟨⟨h1,h2⟩,h3⟩,h4⟩,h5⟩,h6⟩,h7⟩,h8⟩,h9⟩,h10⟩,h11⟩:=h;exact⟨h1,h2,h3,h4,h5,h6,h7,h8,h9,h10,h11⟩
def xI(n:Nat):Nat->List (List Int×List Int)
 |0=>[([],[])]
 |k+1=>([],[])::((xI n k).flatMap λq=>(List.range n).flatMap λ(y:Nat)=>(List.range y).map λ(x:Nat)=>(Int.ofNat x::q.1,Int.ofNat y::q.2))
theorem adn:((xI 2 3).all λq=>cgB 10000 (tu 2 q.1 q.2))=true:=by decide+kernel
theorem ach:((xI 3 3).all λq=>cgB 10000 (tu 3 q.1 q.2))=true:=by decide+kernel
theorem Jm{n:Nat}:∀(k:Nat)(fr to:aw),fr.length<=k->to.length=fr.length->(∀i:Nat,i<fr.length->0<=fr.getD i 0/\fr.getD i 0<to.getD i 0/\to.getD i 0<n)->(fr,to)∈xI n k
 |0,fr,to,h,hl,_=>by have h1:fr=[]:=iS aa;have h2:to=[]:=iS aa;subst h1;subst h2;exact cP.2 rfl
 |k+1,[],to,_,hl,_=>by have h2:to=[]:=iS hl;subst h2;exact cQ.2 (.inl rfl)
 |k+1,x::fr,[],_,hl,_=>by cases hl
 |k+1,x::fr,y::to,h,hl,he=>by
  have h0:=he 0 ak;simp only[wd]at h0;have hi:=Jm k fr to (by simpa using h) (by simpa using hl) (λi hi=>by have:=he (i+1) (by simpa using hi);simpa using this);refine cQ.2 (.inr (List.mem_flatMap.2 ⟨_,hi,List.mem_flatMap.2 ⟨y.toNat,yW.2 aa,jJ.2 ⟨x.toNat,yW.2 aa,?_⟩⟩⟩));have hx:Int.ofNat x.toNat=x:=by rw[Int.ofNat_eq_natCast];omega
  have hy:Int.ofNat y.toNat=y:=by rw[Int.ofNat_eq_natCast];omega
  dsimp only;rw[hx,hy]
theorem JQ{to:aw}(h2:2<=n)(h3:n<=3)(hk:fr.length<=3)(hl:to.length=fr.length)(he:∀i:Nat,i<fr.length->0<=fr.getD i 0/\fr.getD i 0<to.getD i 0/\to.getD i 0<n):CgR 10000 (tu n fr to):=by
 rcases (show n=2\/n=3 by omega)with e|e
 ·have hm:(fr,to)∈xI 2 3:=Jm (n:=2) 3 fr to hk hl (λi hi=>by have:=he i hi;omega);have h:=eU.1 adn (fr,to) hm;rw[e];exact Ta h
 ·have hm:(fr,to)∈xI 3 3:=Jm (n:=3) 3 fr to hk hl (λi hi=>by have:=he i hi;omega);have h:=eU.1 ach (fr,to) hm;rw[e];exact Ta h
structure EdP (n:Int) (fr to:aw):Prop where
 l:to.length=fr.length
 e:∀i:Nat,i<fr.length->0<=fr.getD i 0/\fr.getD i 0<to.getD i 0/\to.getD i 0<n
theorem EdP.push{to:aw}(h:EdP n fr to)(h0:0<=x)(h1:x<y)(h2:y<n):EdP n (fr++[x]) (to++[y]):=
 ⟨by rw[bj,bj,h.l];rfl,λi hi=>by
  have hl:=h.l;rw[bj]at hi;simp only[aH,aM]at hi;by_cases hc:i<fr.length
  ·rw[Kn hc,Kn aa];exact h.e i hc
  ·have e1:i=fr.length:=aa
   have e2:(to++[y]).getD fr.length 0=y:=by rw[←hl];exact Kt to
   rw[e1,e2,Kt fr];exact⟨h0,h1,h2⟩⟩
structure OnP (n k:Int) (t:df):Prop where
 l:(t.length:Int)=k
 e:∀r∈t,(r.length:Int)=n
theorem OnP.push(h:OnP n k t)(hr:(r.length:Int)=n):OnP n (k+1) (t++[r]):=
 ⟨by rw[bj];have:=h.l;simp only[aH,aM];omega,λy hy=>by
  rcases dN.1 hy with hy|hy
  ·exact h.e y hy
  ·rw[cP.1 hy];exact hr⟩
def kz:Wt:=⟨gE,[],[],λx y=>[bt x],λx _=>x,[(true,iI)],λ_ _=>dfR _,0⟩
def zx(s z:ba)(r0:aF):Prop:=bt z/\CgR 10000 r0
def MO:Ann:=(.s .n (.s (.s .n (.s .n (.s .n (.s .n (.s .n (.s .n (.s .n (.s .n (.s .n (.s .n (.s .n (.s .n (.s (.s .n (.s .n (.s (.s .n (.l [(0,(.ad 1000000 [.de])),(2,(.ad 2 [.de])),(4,(.ref 800004 [])),(5,(.d aq))] [(1000000,nw),(2,d7),(800004,iL)] [3] (.s .n (.s (.s .n (.s (.s .n (.l [(0,(.ad 1000000 [.de])),(2,(.ad 2 [.de])),(4,(.ref 800004 [])),(6,(.ref 800006 [])),(7,(.d aq))] [(1000000,nw),(2,d7),(800004,iL),(800006,cd)] [3,5] .n)) .n)) .n)))) .n))) .n))))))))))))) (.s .n (.s .n (.s (.s .n (.l [(0,(.ad 1000000 [.de])),(2,(.ad 2 [.de])),(9,(.ref 800009 [])),(10,(.ref 800010 [])),(11,(.d aq))] [(1000000,nw),(2,d7),(800009,cd),(800010,cd)] [8] .n)) .n)))))
def ahs:FuncId->Option Ct:=lkp [(31,sH),(113,Nx),(110,MF),(114,H3),(116,HS),(112,sA),(115,sP),(111,sv),(80,CI)]
def C8(s:ba)(K:ba->(aF×Unit)->Prop):Prop:=let a2:=RowP ([[1]].length:Int) [[1]];let u:=jO [[1]];let j:=cL s 12;let g:=dq s 12;let y:=zm g;let x:=dq g 5;let w:=cL g 3;let q:=cL g 5;let m:=dq g 2;let l:=wK g;let o:=zv (tK l) u;let k:=nR x q;let h:=cL g 2;let p:=nR m (2+h);0<=s.2.1/\cnd (j==0) (0<=g.2.1/\bt x/\0<=q/\q<=8/\RowP (k.length:Int) k/\k.length<=8/\K (wD x q) (jO k,())) (cnd (j==1) (RowP ([[1,1],[0,1]].length:Int) [[1,1],[0,1]]/\[[1,1],[0,1]].length<=8/\K g (jO [[1,1],[0,1]],())) (cnd (j==2) (RowP ([[1,1,1],[0,1,0],[0,0,1]].length:Int) [[1,1,1],[0,1,0],[0,0,1]]/\[[1,1,1],[0,1,0],[0,0,1]].length<=8/\K g (jO [[1,1,1],[0,1,0],[0,0,1]],())) (cnd (j==3) ((0:Int)<=2/\(2:Int)<=8/\[1,1].length=[0,0].length/\[0,0].length<=1000000000/\K g (tu 2 [0,0] [1,1],())) (cnd (j==4) (bt g/\OwnP l/\K y (tK l,())) (cnd (j==5) (0<=g.2.1/\(Ik (1+w)<|aI (S:=LT) (λa b=>let a3:=a.1.2.2.2.1;let z:=a.2.2.2.1;Iq a3<|Oa dK a.2.1.1<|Iq a.2.1.2.1<|inK .u64 a.2.1.2.2->(Oc a.2.2.1<|Om z<|cnd (decide (a3<1+w)) (aI (S:=LN) (λc d=>let a0:=c.1.2.2.2.2.1;let v:=c.2.2.2;Iq a0<|Oa dK c.2.1.1<|Iq c.2.1.2.1<|inK .u64 c.2.1.2.2->(Oc c.2.2.1<|Om v.1<|Ol v.2.1<|cnd (decide (a0<1+w)) (aX v.2.1.length [1].length 8/\(Ik (a0+1)<|d (((),(),(),(),a0+1,()),c.2.1,c.2.2.1,v.1,v.2.1++[1],()))) (aX v.1.length [v.2.1].length 24/\(Ik (a3+1)<|b (((),(),(),a3+1,()),c.2.1,c.2.2.1,v.1++[v.2.1],()))))) (((),(),(),(),0,()),a.2.1,a.2.2.1,z,[],())) (RowP (z.length:Int) z/\z.length<=8/\K a.2.1 (jO z,())))) (((),(),(),0,()),dq g 3,(0,[],[],[],[]),[],()))) (cnd (j==6) ((0:Int)<=3/\(3:Int)<=8/\[1,2,2].length=[0,1,0].length/\[0,1,0].length<=1000000000/\K g (tu 3 [0,1,0] [1,2,2],())) (cnd (j==7) (K g (C2,())) (cnd (j==8) (bt g/\OwnP l/\a2/\[[1]].length<=8/\CgR 64 (tK l)/\CgR 64 u/\SqR o/\K y (opR o,())) (cnd (j==9) (bt g/\OwnP l/\a2/\[[1]].length<=8/\CgR 64 (tK l)/\CgR 64 u/\K y (o,())) (cnd (j==10) (0<=g.2.1/\(Ik (2+h)<|bt m/\0<=2+h/\2+h<=8/\RowP (p.length:Int) p/\p.length<=8/\K (wD m (2+h)) (jO p,()))) (0<=g.2.1/\(Ik (2+h)<|0<=m.2.1/\aI (S:=LM) (λe f=>let a1:=e.1.2.2.2.2.1;let t:=e.2.2.2;let r:=dq e.2.1 (2+h-1);let i:=cL e.2.1 (2+h-1);let n:=cL r (2+h-1-i);Iq a1<|Oa dK e.2.1.1<|Iq e.2.1.2.1<|inK .u64 e.2.1.2.2->(Oc e.2.2.1<|Ol t.1<|Ol t.2.1<|cnd (decide (0<a1)) (Ik (2+h-1)<|0<=e.2.1.2.1/\aX t.1.length [i].length 8/\(Ik (i+1)<|Ik (2+h-1)<|Ik (2+h-1-i)<|0<=r.2.1/\(Ik (i+1+n)<|aX t.2.1.length [i+1+n].length 8/\(Ik (a1-1)<|f (((),(),(),(),a1-1,()),dq r (2+h-1-i),e.2.2.1,t.1++[i],t.2.1++[i+1+n],()))))) (0<=2+h/\2+h<=8/\t.2.1.length=t.1.length/\t.1.length<=1000000000/\K e.2.1 (tu (2+h) t.1 t.2.1,())))) (((),(),(),(),cL m 4,()),dq m 4,(0,[],[],[],[]),[],[],())))))))))))))
theorem WX(s:ba)(hok:ab (kz.o.strip.oks s))(hok2:ab (okL kz.as (())))(hpre:ab (kz.pre s (()))):C8 s (λz r=>zx s z r.1):=by
 simp only[kz,O.strip,okL,T.oks,T.ok,ap,ab,aL,aA,bf]at hok hok2 hpre
 try dsimp only[T.den]at hok
 try dsimp only[T.den]at hok2
 try dsimp only[T.den]at hpre
 delta C8 zx Ik Iq Oa Oc Ol Om
 dsimp -proj -eta only;have h1:=fI (n:=12) hpre az;refine⟨hpre.2,?_⟩;clear hok hok2 hpre;generalize cL s 12=w at *;generalize dq s 12=z at *;have hZ:=h1.1;clear h1;refine aC (λ_=>?_) (λ_=>aC (λ_=>?_) (λ_=>aC (λ_=>?_) (λ_=>aC (λ_=>?_) (λ_=>aC (λ_=>?_) (λ_=>aC (λ_=>?_) (λ_=>aC (λ_=>?_) (λ_=>aC (λ_=>?_) (λ_=>aC (λ_=>?_) (λ_=>aC (λ_=>?_) (λ_=>aC (λ_=>?_) (λ_=>?_)))))))))))
 ·have h2:=fI (n:=5) hZ az;have h5:=h2.2.2.1 aa;have h3:=OE (s:=dq z 5) (n:=cL z 5) h2.1 h2.2.1 aa;have hl:=h3.2.1.l;have hR:RowP ((nR (dq z 5) (cL z 5)).length:Int) (nR (dq z 5) (cL z 5)):=by rw[hl];exact h3.2.1
  exact⟨hZ.2,h2.1,h2.2.1,aa,hR,aa,h3.1,(vg h3.2.2 hR aa).le aa⟩
 ·have hR:RowP (([[1,1],[0,1]]:List (List Int)).length:Int) [[1,1],[0,1]]:=⟨rfl,bz⟩;exact⟨hR,bz,hZ,(vg (AW bz) hR bz).le aa⟩
 ·have hR:RowP (([[1,1,1],[0,1,0],[0,0,1]]:List (List Int)).length:Int) [[1,1,1],[0,1,0],[0,0,1]]:=⟨rfl,bz⟩;exact⟨hR,bz,hZ,(vg (AW bz) hR bz).le aa⟩
 ·exact⟨bz,bz,rfl,bz,hZ,JQ bz bz bz rfl bz⟩
 ·have h2:=J5 hZ;exact⟨hZ,h2.2.1.own,h2.1,(KL h2.2.1).le aa⟩
 ·have h2:=fI (n:=3) hZ az;have h3:=h2.2.2.1 aa;have h4:=h2.2.1;refine⟨hZ.2,az,?_⟩;have hn:1<=1+cL z 3/\1+cL z 3<=3:=aa
  generalize 1+cL z 3=n at *;refine aY (λ(s:LT)=>0<=s.1.2.2.2.1/\s.1.2.2.2.1<=n/\bt s.2.1/\OnP n s.1.2.2.2.1 s.2.2.2.1) (λ(s:LT)=>(n-s.1.2.2.2.1).toNat) ?_ ⟨ak,ae,h2.1,rfl,ak⟩;rintro⟨⟨_,_,_,i,_⟩,s1,o1,rel,_⟩ next ⟨i0,i1,hS,hR⟩ hnx
  intros
  try dsimp only at *
  refine aE (λhi=>?_) (λhi=>?_)
  ·refine aY (λ(s:LN)=>0<=s.1.2.2.2.2.1/\s.1.2.2.2.2.1<=n/\bt s.2.1/\s.2.2.2.1=rel/\(s.2.2.2.2.1.length:Int)=s.1.2.2.2.2.1) (λ(s:LN)=>(n-s.1.2.2.2.2.1).toNat) ?_ ⟨ak,ae,hS,rfl,rfl⟩;rintro⟨⟨_,_,_,_,j,_⟩,s2,o2,rel2,row,_⟩ next1 ⟨j0,j1,hS2,q,hj⟩ hn1;intros
   try dsimp only at j0 j1 hS2 q hj hn1⊢
   subst q;have hl:=hR.l;refine aE (λhc=>?_) (λhc=>?_)
   ·exact⟨bh (by simp only[aH,aM];omega),az,hn1 _ ⟨ae,ae,hS2,rfl,by dsimp only;rw[bj];simp only[aH,aM];omega⟩ ae⟩
   ·exact⟨bh (by simp only[aH,aM];omega),az,hnx _ ⟨ae,ae,hS2,hR.push aa⟩ ae⟩
  ·have ei:i=n:=aa
   subst ei;have hl:=hR.l;have hP:RowP (rel.length:Int) rel:=⟨rfl,λr hr=>by rw[hl];exact hR.e r hr⟩;exact⟨hP,aa,hS,(vg (by assumption) hP aa).le aa⟩
 ·exact⟨bz,bz,rfl,bz,hZ,JQ bz bz bz rfl bz⟩
 ·exact⟨hZ,(Xr trivial trivial).2.le aa⟩
 ·have h2:=J5 hZ;have hR:RowP (([[1]]:List (List Int)).length:Int) [[1]]:=⟨rfl,bz⟩;have hp:=vg (AW bz) hR bz;have hm:=(KL h2.2.1).le (b:=64) aa;have hj:=T4 hm hp;exact⟨hZ,h2.2.1.own,hR,bz,hm,hp,agk hj aa,h2.1,afm hj⟩
 ·have h2:=J5 hZ;have hR:RowP (([[1]]:List (List Int)).length:Int) [[1]]:=⟨rfl,bz⟩;have hp:=vg (AW bz) hR bz;have hm:=(KL h2.2.1).le (b:=64) aa;have hj:=T4 hm hp;exact⟨hZ,h2.2.1.own,hR,bz,hm,hp,h2.1,hj⟩
 ·have h2:=fI (n:=2) hZ az;have h5:=h2.2.2.1 aa;have h6:=h2.2.1;have h3:=OE (s:=dq z 2) (n:=2+cL z 2) h2.1 aa aa;have hl:=h3.2.1.l;have hR:RowP ((nR (dq z 2) (2+cL z 2)).length:Int) (nR (dq z 2) (2+cL z 2)):=by rw[hl];exact h3.2.1
  exact⟨hZ.2,az,h2.1,aa,aa,hR,aa,h3.1,(vg h3.2.2 hR aa).le aa⟩
 ·have h2:=fI (n:=2) hZ az;have h5:=h2.2.2.1 aa;have h6:=h2.2.1;have h3:=fI (n:=4) h2.1 az;have h7:=h3.2.2.1 aa;refine⟨hZ.2,az,h2.1.2,?_⟩;have hn:2<=2+cL z 2/\2+cL z 2<=3:=aa
  generalize 2+cL z 2=n at *;refine aY (λ(s:LM)=>0<=s.1.2.2.2.2.1/\(s.2.2.2.1.length:Int)+s.1.2.2.2.2.1<=3/\bt s.2.1/\EdP n s.2.2.2.1 s.2.2.2.2.1) (λ(s:LM)=>s.1.2.2.2.2.1.toNat) ?_ ⟨h3.2.1,by dsimp only;simp only[aM];omega,h3.1,rfl,ak⟩;rintro⟨⟨_,_,_,_,k,_⟩,s1,o1,fr,to,_⟩ next ⟨k0,k1,hS,hE⟩ hnx
  intros
  try dsimp only at k0 k1 hS hE hnx⊢
  have hl:=hE.l;refine aE (λhc=>?_) (λhc=>?_)
  ·have g1:=fI (n:=n-1) hS az;have g2:=g1.2.2.1 aa;have g3:=g1.2.1;generalize cL s1 (n-1)=x at *;generalize dq s1 (n-1)=s2 at *;have g4:=fI (n:=n-1-x) g1.1 az;have g5:=g4.2.2.1 aa;have g6:=g4.2.1;exact⟨az,hS.2,bh (by simp only[aH,aM];omega),az,az,az,g1.1.2,az,bh (by simp only[aH,aM];omega),az,hnx _ ⟨ae,by dsimp only;rw[bj];simp only[aH,aM];omega,g4.1,hE.push g3 aa aa⟩ ae⟩
  ·exact⟨aa,aa,hl,aa,hS,JQ hn.1 hn.2 aa hl hE.e⟩
theorem CF(s:ba):∃q:ba×(aF×Unit),ab (kz.o.strip.oks s)->ab (okL kz.as (()))->ab (kz.pre s (()))->C8 s (λz r=>z=q.1/\r=q.2)/\ab (kz.o.strip.oks q.1)/\ab (okR kz.rt q.2)/\zx s q.1 q.2.1:=pkw (au iB (au MN (au MB (au Nm (au N6 (au MS (au Of (au Ng (au C4 aQ))))))))) aR 76 Tryz.f76 kz MO [] lU (λx y K=>C8 x K) (λx y z r=>zx x z r.1) (λx y h1 h2 h3=>WX x h1 h2 h3) s (())
def u9(s:ba):ba:=(CF s).choose.1
def u7(s:ba):aF:=(CF s).choose.2.1
theorem Xb(s:ba)(hok:ab (kz.o.strip.oks s))(hok2:ab (okL kz.as (())))(hpre:ab (kz.pre s (()))):ab (kz.o.strip.oks (u9 s))/\ab (okR kz.rt (u7 s,()))/\zx s (u9 s) (u7 s):=((CF s).choose_spec hok hok2 hpre).2
def MW:Wt:=⟨gE,[],[],λx y=>[bt x],λx y=>(u9 x),[(true,iI)],λx y=>((u7 x),()),0⟩
def Nw:Ct:=iO MW
theorem MT:aN Tryz.prog 76 Nw:=wtb (au iB (au MN (au MB (au Nm (au N6 (au MS (au Of (au Ng (au C4 aQ))))))))) aR 76 Tryz.f76 MW MO [] (λx y h1 h2 h3=>Eq.mp (by kernel_rfl) ((CF x).choose_spec h1 h2 h3).1)
theorem Jn{s:ba}(h:bt s):bt (u9 s)/\CgR 10000 (u7 s):=(Xb s h.1 trivial ⟨h,trivial⟩).2.2
structure LiB (k:Int) (w:aw):Prop where
 l:(w.length:Int)=k
 e:∀x∈w,0<=x/\x<=1000000000
theorem LiB.push(h:LiB k w)(h0:0<=x)(h1:x<=1000000000):LiB (k+1) (w++[x]):=⟨by rw[bj];have:=h.l;simp only[aH,aM];omega,JV h.e ⟨h0,h1⟩⟩
theorem LiB.to(h:LiB k w)(e:k=k'):LiB k' w:=e▸h
theorem RwB.to(h:RwB k b w)(e:k=k'):RwB k' b w:=e▸h
theorem TbB.to{w:df}(h:TbB k n b w)(e:k=k'):TbB k' n b w:=e▸h
theorem Bk:(x+1)*y=x*y+y:=by rw[Int.add_mul,Int.one_mul]
def nQ:Ct:=⟨[cS,cS],[true,true],λx=>[CgR 20000 x.1,CgR 10000 x.2.1],[(true,iI)],λ_=>dfR _,false,none⟩
def zp(c d r0:aF):Prop:=CgR 1000000000 r0
def MJ:Ann:=(.s .n (.s .n (.s .n (.s (.s .n (.l U8 tR [2,3,5,6] (.s .n (.s (.s .n (.l Uy tR [2,3,5,6,8] .n)) .n)))) (.s (.s .n (.l Ur tR [2,3,5,6] (.s .n (.s (.s .n (.l Ud tR [2,3,5,6,10] (.s .n (.s (.s .n (.s .n (.s .n (.s (.s .n (.l UI ya [2,3,5,6,10,11] (.s .n (.s (.s .n (.l UB ya [2,3,5,6,10,11,13] (.s .n (.s (.s .n (.s (.s .n (.j TU ya [2,3,5,6,10,11,13,14] .n)) .n)) .n)))) .n)))) .n)))) .n)))) .n)))) .n)))))
def zn(c d:aF)(K:qh):Prop:=let b6:=c.2.1.length;let x:=d.2.1.length;Ik (c.1*d.1)<|aI (S:=dz) (λa b=>let a8:=a.1.2.2.1;let w:=c.2.2.2.1.getD a8.toNat 0;Iq a8<|Oc a.2.1<|Oc a.2.2.1<|cnd (decide (a8<c.1)) (aI (S:=dz) (λe f=>let b0:=e.2.2.1;let a9:=e.1.2.2.1;let y:=d.2.2.2.1.getD a9.toNat 0;Iq a9<|Oc e.2.1<|Oc b0<|cnd (decide (a9<d.1)) (Ix a8 c.2.2.2.1.length<|Ik (w*(x:Int))<|Ix a9 d.2.2.2.1.length<|Ik (w*(x:Int)+y)<|aX b0.2.2.2.1.length [w*(x:Int)+y].length 8/\(Ik (a9+1)<|f (((),(),a9+1,()),e.2.1,(b0.1,b0.2.1,b0.2.2.1,b0.2.2.2.1++[w*(x:Int)+y],b0.2.2.2.2),()))) (Ik (a8+1)<|b (((),(),a8+1,()),e.2.1,b0,()))) (((),(),0,()),a.2.1,a.2.2.1,())) (aI (S:=dz) (λg h=>let a0:=g.1.2.2.1;let u:=a0.toNat;let a7:=c.2.2.2.2.getD u [];let a5:=c.2.1.getD u 0;let a3:=c.2.2.1.getD u 0;Iq a0<|Oc g.2.1<|Oc g.2.2.1<|cnd (decide (a0<(b6:Int))) (aI (S:=dz) (λi j=>let b1:=i.2.2.1;let t:=i.1.2.2.1;let a6:=d.2.1.getD t.toNat 0;let a4:=d.2.2.1.getD t.toNat 0;let a2:=d.2.2.2.2.getD t.toNat [];Iq t<|Oc i.2.1<|Oc b1<|cnd (decide (t<(x:Int))) (Ix a0 b6<|Ik (a5*d.1)<|Ix t x<|Ik (a5*d.1+a6)<|aX b1.2.1.length [a5*d.1+a6].length 8/\(Ix a0 c.2.2.1.length<|Ik (a3*d.1)<|Ix t d.2.2.1.length<|Ik (a3*d.1+a4)<|aX b1.2.2.1.length [a3*d.1+a4].length 8/\aI (S:=ff) (λl m=>let b4:=l.2.2.2.1;let b2:=l.2.2.1;let a1:=l.1.2.2.2.1;let r:=a7.getD a1.toNat 0;let b3:=decide (0<=r);Iq a1<|Oc l.2.1<|Oc b2<|Ol b4<|cnd (decide (a1<(b6:Int))) (aI (S:=ff) (λn o=>let b5:=n.2.2;let z:=n.1.2.2.2.1;let v:=a2.getD z.toNat 0;Iq z<|Oc n.2.1<|Oc b5.1<|Ol b5.2.1<|cnd (decide (z<(x:Int))) (Ix a0 c.2.2.2.2.length<|Ix a1 a7.length<|(b3=true->t<(d.2.2.2.2.length:Int)/\0<=t)/\(b3=true->z<(a2.length:Int)/\0<=z)/\bZ (S:=ff) (λp=>Iq p.1.2.2.2.1<|Oc p.2.1<|Oc p.2.2.1<|Ol p.2.2.2.1<|aX p.2.2.2.1.length [p.1.2.2.2.1].length 8/\(Ik (z+1)<|o (((),(),(),z+1,()),p.2.1,p.2.2.1,p.2.2.2.1++[p.1.2.2.2.1],()))) (λq=>cnd (b3&&decide (0<=v)) (Ix a0 c.2.2.2.2.length<|Ix a1 a7.length<|Ik (r*(x:Int))<|Ix t d.2.2.2.2.length<|Ix z a2.length<|Ik (r*(x:Int)+v)<|q (((),(),(),r*(x:Int)+v,()),n.2.1,b5.1,b5.2.1,())) (q (((),(),(),-1,()),n.2.1,b5.1,b5.2.1,())))) (Ik (a1+1)<|m (((),(),(),a1+1,()),n.2.1,b5.1,b5.2.1,()))) (((),(),(),0,()),l.2.1,b2,b4,())) (aX b2.2.2.2.2.length [b4].length 24/\(Ik (t+1)<|j (((),(),t+1,()),l.2.1,(b2.1,b2.2.1,b2.2.2.1,b2.2.2.2.1,b2.2.2.2.2++[b4]),())))) (((),(),(),0,()),i.2.1,(b1.1,b1.2.1++[a5*d.1+a6],b1.2.2.1++[a3*d.1+a4],b1.2.2.2),[],()))) (Ik (a0+1)<|h (((),(),a0+1,()),i.2.1,b1,()))) (((),(),0,()),g.2.1,g.2.2.1,())) (K (g.2.2.1,()))) (((),(),0,()),a.2.1,a.2.2.1,()))) (((),(),0,()),(0,[],[],[],[]),(c.1*d.1,[],[],[],[]),())
theorem W3(c d:aF)(hok:ab (okL nQ.args (c,d,())))(hpre:ab (nQ.pre (c,d,()))):zn c d (λr=>zp c d r.1):=by
 simp only[nQ,okL,T.oks,T.ok,ap,ab,aL,aA,bf]at hok hpre
 try dsimp only[T.den]at hok hpre
 delta zn zp Ik Iq Ix Oc Ol Om
 dsimp -proj -eta only;obtain⟨Hc,Hd⟩:=hpre;clear hok;have c0:=Hc.ob0;have c1:=Hc.ob;have d0:=Hd.ob0;have d1:=Hd.ob;have cm:=Hc.m;have cl:=Hc.lt;have cc:=Hc.lc;have ci:=Hc.li;have dm:=Hd.m;have dl:=Hd.lt;have dc:=Hd.lc;have di:=Hd.li;have hob:=p9 c0 c1 d0 d1;have hmk:=p9 (x:=c.2.1.length) (y:=d.2.1.length) aa cm aa dm;refine⟨az,?_⟩;refine aY (λ(s:dz)=>0<=s.1.2.2.1/\s.1.2.2.1<=c.1/\s.2.2.1.1=c.1*d.1/\s.2.2.1.2.1=[]/\s.2.2.1.2.2.1=[]/\s.2.2.1.2.2.2.2=[]/\LiB (s.1.2.2.1*d.1) s.2.2.1.2.2.2.1) (λ(s:dz)=>(c.1-s.1.2.2.1).toNat) ?_ ⟨ak,c0,rfl,rfl,rfl,rfl,⟨ak,ak⟩⟩;rintro⟨⟨_,_,x,_⟩,o1,⟨u1,u2,u3,u4,u5⟩,_⟩ next ⟨x0,x1,q1,q2,q3,q5,hL⟩ hnx
 intros
 try dsimp only at x0 x1 q1 q2 q3 q5 hL hnx⊢
 subst q1;subst q2;subst q3;subst q5;refine aE (λhx=>?_) (λhx=>?_)
 ·refine aY (λ(s:dz)=>0<=s.1.2.2.1/\s.1.2.2.1<=d.1/\s.2.2.1.1=c.1*d.1/\s.2.2.1.2.1=[]/\s.2.2.1.2.2.1=[]/\s.2.2.1.2.2.2.2=[]/\LiB (x*d.1+s.1.2.2.1) s.2.2.1.2.2.2.1) (λ(s:dz)=>(d.1-s.1.2.2.1).toNat) ?_ ⟨ak,d0,rfl,rfl,rfl,rfl,hL.to ae⟩;rintro⟨⟨_,_,y,_⟩,o2,⟨v1,v2,v3,v4,v5⟩,_⟩ next1 ⟨y0,y1,q1,q2,q3,q5,hL2⟩ hn1;intros
  try dsimp only at y0 y1 q1 q2 q3 q5 hL2 hn1⊢
  have hxb:=p9 x0 (b:=10000) (a:=20000) aa d0 d1;have ll:=hL2.l;refine aE (λhy=>?_) (λhy=>?_)
  ·have ic:=Hc.idG x0 hx;have id:=Hd.idG y0 hy;have hp:=p9 ic.1 ic.2 (y:=d.2.1.length) aa dm;exact⟨x0,aa,az,y0,aa,az,bh (by simp only[aH,aM];omega),az,hn1 _ ⟨ae,ae,q1,q2,q3,q5,(hL2.push aa aa).to ae⟩ cO⟩
  ·have e:y=d.1:=aa
   rw[e]at hL2;exact⟨az,hnx _ ⟨ae,ae,q1,q2,q3,q5,hL2.to (by dsimp only;rw[Bk])⟩ cO⟩
 have ex:x=c.1:=aa
 rw[ex]at hL;clear hnx;refine aY (λ(s:dz)=>0<=s.1.2.2.1/\s.1.2.2.1<=c.2.1.length/\s.2.2.1.1=c.1*d.1/\LiB (s.1.2.2.1*d.2.1.length) s.2.2.1.2.1/\LiB (s.1.2.2.1*d.2.1.length) s.2.2.1.2.2.1/\s.2.2.1.2.2.2.1=u4/\TbB (s.1.2.2.1*d.2.1.length) (c.2.1.length*d.2.1.length) 1000000000 s.2.2.1.2.2.2.2) (λ(s:dz)=>(c.2.1.length-s.1.2.2.1).toNat) ?_ ⟨ak,ak,rfl,⟨ak,ak⟩,⟨ak,ak⟩,rfl,⟨ak,ak⟩⟩;rintro⟨⟨_,_,a,_⟩,o2,⟨v1,v2,v3,v4,v5⟩,_⟩ next1 ⟨a0,a1,q1,hF,hT,q4,hR⟩ hn1;intros
 try dsimp only at a0 a1 q1 hF hT q4 hR hn1⊢
 refine aE (λha=>?_) (λha=>?_)
 ·have hab:=p9 a0 (a:=20000) (y:=d.2.1.length) aa aa dm;have fc:=Hc.frG a0 ha;have tc:=Hc.toG a0 ha;have rc:=Hc.rowG a0 ha;have hp1:=p9 fc.1 fc.2 d0 d1;have hp2:=p9 tc.1 tc.2 d0 d1;refine aY (λ(s:dz)=>0<=s.1.2.2.1/\s.1.2.2.1<=d.2.1.length/\s.2.2.1.1=c.1*d.1/\LiB (a*d.2.1.length+s.1.2.2.1) s.2.2.1.2.1/\LiB (a*d.2.1.length+s.1.2.2.1) s.2.2.1.2.2.1/\s.2.2.1.2.2.2.1=u4/\TbB (a*d.2.1.length+s.1.2.2.1) (c.2.1.length*d.2.1.length) 1000000000 s.2.2.1.2.2.2.2) (λ(s:dz)=>(d.2.1.length-s.1.2.2.1).toNat) ?_ ⟨ak,ak,q1,hF.to ae,hT.to ae,q4,hR.to ae⟩;rintro⟨⟨_,_,b,_⟩,o3,⟨w1,w2,w3,w4,w5⟩,_⟩ next2 ⟨b0,b1,p1,hF2,hT2,p4,hR2⟩ hn2;intros
  try dsimp only at b0 b1 p1 hF2 hT2 p4 hR2 hn2⊢
  have fl:=hF2.l;have tl:=hT2.l;have rl:=hR2.l;refine aE (λhb=>?_) (λhb=>?_)
  ·have fd:=Hd.frG b0 hb;have td:=Hd.toG b0 hb;have rd:=Hd.rowG b0 hb;refine⟨a0,ha,az,b0,hb,az,bh (by simp only[aH,aM];omega),a0,aa,az,b0,aa,az,bh (by simp only[aH,aM];omega),?_⟩;have hF3:=(hF2.push (x:=c.2.1.getD a.toNat 0*d.1+d.2.1.getD b.toNat 0) aa aa).to (k':=a*d.2.1.length+(b+1)) aa;have hT3:=(hT2.push (x:=c.2.2.1.getD a.toNat 0*d.1+d.2.2.1.getD b.toNat 0) aa aa).to (k':=a*d.2.1.length+(b+1)) aa;generalize w2++[c.2.1.getD a.toNat 0*d.1+d.2.1.getD b.toNat 0]=w2' at *;generalize w3++[c.2.2.1.getD a.toNat 0*d.1+d.2.2.1.getD b.toNat 0]=w3' at *;refine aY (λ(s:ff)=>0<=s.1.2.2.2.1/\s.1.2.2.2.1<=c.2.1.length/\s.2.2.1=(w1,w2',w3',w4,w5)/\RwB (s.1.2.2.2.1*d.2.1.length) 1000000000 s.2.2.2.1) (λ(s:ff)=>(c.2.1.length-s.1.2.2.2.1).toNat) ?_ ⟨ak,ak,rfl,⟨ak,ak⟩⟩;rintro⟨⟨_,_,_,f,_⟩,o4,out4,row,_⟩ next3 ⟨f0,f1,p5,hW⟩ hn3;intros
   try dsimp only at f0 f1 p5 hW hn3⊢
   subst p5;refine aE (λhf=>?_) (λhf=>?_)
   ·have hfb:=p9 f0 (a:=20000) (y:=d.2.1.length) aa aa dm;refine aY (λ(s:ff)=>0<=s.1.2.2.2.1/\s.1.2.2.2.1<=d.2.1.length/\s.2.2.1=(w1,w2',w3',w4,w5)/\RwB (f*d.2.1.length+s.1.2.2.2.1) 1000000000 s.2.2.2.1) (λ(s:ff)=>(d.2.1.length-s.1.2.2.2.1).toNat) ?_ ⟨ak,ak,rfl,hW.to ae⟩;rintro⟨⟨_,_,_,g,_⟩,o5,out5,row5,_⟩ next4 ⟨g0,g1,p6,hW2⟩ hn4;intros
    try dsimp only at g0 g1 p6 hW2 hn4⊢
    subst p6;have wl:=hW2.l;refine aE (λhg=>?_) (λhg=>?_)
    ·have vc:=Hc.cel a0 ha f0 hf;have vd:=Hd.cel b0 hb g0 hg;refine⟨a0,aa,f0,aa,λ_=>⟨aa,b0⟩,λ_=>⟨aa,g0⟩,cp (λ(q:ff)=>-1000000000<=q.1.2.2.2.1/\q.1.2.2.2.1<=1000000000/\q.2.2.1=(w1,w2',w3',w4,w5)/\q.2.2.2.1=row5) ?_ (λk hk=>aC (λhz=>?_) (λ_=>hk _ ⟨ae,ae,rfl,rfl⟩))⟩
     ·rintro⟨⟨_,_,_,h,_⟩,o6,out6,row6,_⟩ ⟨q1,q2,q3,q4⟩;intros
      try dsimp only at q1 q2 q3 q4⊢
      subst q3;subst q4;exact⟨bh (by simp only[aH,aM];omega),az,hn4 _ ⟨ae,ae,rfl,(hW2.push q1 q2).to ae⟩ cO⟩
     ·simp only[ao,cj]at hz;have hp:=p9 hz.1 vc.2 (y:=d.2.1.length) aa dm;exact⟨a0,aa,f0,aa,az,b0,aa,g0,aa,az,hk _ ⟨ae,ae,rfl,rfl⟩⟩
    ·have e:g=d.2.1.length:=aa
     rw[e]at hW2;exact⟨az,hn3 _ ⟨ae,ae,rfl,hW2.to (by dsimp only;rw[Bk])⟩ cO⟩
   ·have e:f=c.2.1.length:=aa
    rw[e]at hW;exact⟨bh (by simp only[aH,aM];omega),az,hn2 _ ⟨ae,ae,p1,hF3,hT3,p4,(hR2.push hW).to ae⟩ cO⟩
  ·have e:b=d.2.1.length:=aa
   rw[e]at hF2 hT2 hR2;exact⟨az,hn1 _ ⟨ae,ae,p1,hF2.to (by dsimp only;rw[Bk]),hT2.to (by dsimp only;rw[Bk]),p4,hR2.to (by dsimp only;rw[Bk])⟩ cO⟩
 have ea:a=c.2.1.length:=aa
 rw[ea]at hF hT hR;have fl:=hF.l;have tl:=hT.l;have rl:=hR.l;have ll:=hL.l;subst q4;refine⟨aa,ae,ae,ae,ae,ae,ae,hF.e,hT.e,hL.e,λw hw=>?_⟩;have h:=hR.e w hw;exact⟨by have:=h.l;dsimp only;omega,h.e⟩
theorem He(c d:aF):∃q:aF×Unit,ab (okL nQ.args (c,d,()))->ab (nQ.pre (c,d,()))->zn c d (λr=>r=q)/\ab (okR nQ.rt q)/\zp c d q.1:=pkb aQ aR 78 Tryz.f78 nQ MJ [(16,516),(17,516),(1,6),(9,516),(27,18)] (λx K=>zn x.1 x.2.1 K) (λx r=>zp x.1 x.2.1 r.1) (λx h1 h2=>W3 x.1 x.2.1 h1 h2) (c,d,())
def zd(c d:aF):aF:=(He c d).choose.1
theorem WE(c d:aF)(hok:ab (okL nQ.args (c,d,())))(hpre:ab (nQ.pre (c,d,()))):ab (okR nQ.rt (zd c d,()))/\zp c d (zd c d):=((He c d).choose_spec hok hpre).2
def Hi:Ct:=⟨[cS,cS],[true,true],λx=>[CgR 20000 x.1,CgR 10000 x.2.1],[(true,iI)],λx=>((zd x.1 x.2.1),()),false,none⟩
theorem MM:aN Tryz.prog 78 Hi:=ctb aQ aR 78 Tryz.f78 Hi MJ [(16,516),(17,516),(1,6),(9,516),(27,18)] (λx K=>zn x.1 x.2.1 K) (λx h1 h2=>((He x.1 x.2.1).choose_spec h1 h2).1)
theorem ae7(h:CgR a c)(g:CgR b d)(ha:a<=1000000000000)(hb:b<=1000000000000):CgR (a+b) (qE c d):=TO (by simp only[lV,okL,fW,ab,aA];exact⟨yf h ha,yf g hb⟩) h g ha hb
theorem D_(h:CgR 20000 c)(g:CgR 10000 d):CgR 1000000000 (zd c d):=(WE c d (by simp only[nQ,okL,fW,ab,aA];exact⟨yf h aa,yf g aa⟩) ⟨h,g,trivial⟩).2
def jQ:Wt:=⟨gE,[aq,aq],[false,false],λx y=>[bt x,1<=y.1,y.1<=8,1<=y.2.1,y.2.1<=40],λx _=>x,[(true,iI)],λ_ _=>dfR _,0⟩
def zS(s:ba)(objects arrows:Int)(z:ba)(r0:aF):Prop:=bt z/\CgR 1000000000 r0/\r0.1<=objects/\(r0.2.1.length:Int)<=40/\(8<=arrows->(r0.2.1.length:Int)<=arrows)
def Nu:Ann:=(.s .n (.s (.s .n (.l [(0,(.ad 1000000 [.de])),(6,(.ad 6 [.de])),(7,(.d aq))] [(1000000,nw),(6,d7)] [1,2] (.s .n (.s (.s .n (.s (.s .n (.j TQ [(1000000,nw),(6,d7),(8,d7)] [1,2,7] .n)) (.s (.s .n (.j TQ [(1000000,nw),(6,d7),(8,d7)] [1,2,7] .n)) .n))) .n)))) .n))
def ah5:FuncId->Option Ct:=lkp [(31,sH),(76,Nw),(79,wU),(80,CI),(78,Hi),(77,It)]
def CQ(s:ba)(objects arrows:Int)(K:ba->(aF×Unit)->Prop):Prop:=aI (S:=LV) (λa b=>let m:=a.1.2.2.1;let j:=u9 a.2.1;let i:=u7 a.2.1;let g:=dq j 5;let p:=u7 g;Iq m<|Oa dK a.2.1.1<|Iq a.2.1.2.1<|inK .u64 a.2.1.2.2->(Oc a.2.2.1<|cnd (decide (m<12)) (bt a.2.1/\0<=j.2.1/\bZ (S:=FV) (λc=>let n:=c.2.2.2.1;let h:=dq c.2.1 8;let o:=u7 h;Oa dK c.2.1.1<|Iq c.2.1.2.1<|inK .u64 c.2.1.2.2->(Oc c.2.2.1<|Oc n<|0<=c.2.1.2.1/\bZ (S:=FV) (λd=>let l:=d.2.2.2.1;Oa dK d.2.1.1<|Iq d.2.1.2.1<|inK .u64 d.2.1.2.2->(Oc d.2.2.1<|Oc l<|cnd (decide (l.1<=objects)&&decide ((l.2.1.length:Int)<=arrows)&&(decide (l.1<=8)&&decide ((l.2.1.length:Int)<=40))) (K d.2.1 (l,())) (Ik (m+1)<|b (((),(),m+1,()),d.2.1,d.2.2.1,())))) (λe=>cnd (cL c.2.1 8==0) (bt h/\CgR 20000 n/\CgR 10000 o/\e (((),(),(),()),u9 h,c.2.2.1,zd n o,())) (e (((),(),(),()),h,c.2.2.1,n,()))))) (λf=>cnd (cL j 5==0) (bt g/\CgR 1000000000000 i/\CgR 1000000000000 p/\f (((),(),(),()),u9 g,a.2.2.1,qE i p,())) (f (((),(),(),()),g,a.2.2.1,i,())))) (RowP ([[1]].length:Int) [[1]]/\[[1]].length<=8/\K a.2.1 (jO [[1]],())))) (((),(),0,()),s,(0,[],[],[],[]),())
theorem Yn(s:ba)(objects arrows:Int)(hok:ab (jQ.o.strip.oks s))(hok2:ab (okL jQ.as (objects,arrows,())))(hpre:ab (jQ.pre s (objects,arrows,()))):CQ s objects arrows (λz r=>zS s objects arrows z r.1):=by
 simp only[jQ,O.strip,okL,T.oks,T.ok,ap,ab,aL,aA,bf]at hok hok2 hpre
 try dsimp only[T.den]at hok
 try dsimp only[T.den]at hok2
 try dsimp only[T.den]at hpre
 delta CQ zS Ik Iq Oa Oc Ol Om
 dsimp -proj -eta only;obtain⟨hS,o1,o8,a1,a40⟩:=hpre;refine aY (λ(s:LV)=>0<=s.1.2.2.1/\s.1.2.2.1<=12/\bt s.2.1) (λ(s:LV)=>(12-s.1.2.2.1).toNat) ?_ ⟨ak,ak,hS⟩;rintro⟨⟨_,_,t,_⟩,s1,o1',_⟩ next ⟨t0,t1,h1⟩ hnx
 intros
 try dsimp only at t0 t1 h1 hnx⊢
 refine aE (λhc=>?_) (λhc=>?_)
 ·have f1:=Jn h1;have g1:=fI (n:=5) f1.1 az;refine⟨h1,f1.1.2,cp (λ(q:FV)=>bt q.2.1/\CgR 20000 q.2.2.2.1) ?_ ?_⟩
  ·rintro⟨_,s2,o2,c2,_⟩ ⟨p1,p2⟩;intros
   try dsimp only at p1 p2⊢
   have g2:=fI (n:=8) p1 az;refine⟨p1.2,cp (λ(q:FV)=>bt q.2.1/\CgR 1000000000 q.2.2.2.1) ?_ ?_⟩
   ·rintro⟨_,s3,o3,c3,_⟩ ⟨r1,r2⟩;intros
    try dsimp only at r1 r2⊢
    refine aC (λh=>?_) (λ_=>?_)
    ·simp only[ao,cj]at h;exact⟨r1,r2,h.1.1,h.2.2,λ_=>h.1.2⟩
    ·exact⟨az,hnx _ ⟨ae,ae,r1⟩ ae⟩
   ·intro k hk;have f2:=Jn g2.1;exact aC (λ_=>⟨g2.1,p2,f2.2,hk _ ⟨f2.1,D_ p2 f2.2⟩⟩) (λ_=>hk _ ⟨g2.1,p2.le aa⟩)
  ·intro k hk;have f2:=Jn g1.1;exact aC (λ_=>⟨g1.1,f1.2.le aa,f2.2.le aa,hk _ ⟨f2.1,(ae7 f1.2 f2.2 aa aa).le aa⟩⟩) (λ_=>hk _ ⟨g1.1,f1.2.le aa⟩)
 ·have hR:RowP (([[1]]:List (List Int)).length:Int) [[1]]:=⟨rfl,bz⟩;have hp:=R9 (AW bz) hR bz;have h3:((jO [[1]]).2.1.length:Int)<=8:=hp.2.2;have h4:(jO [[1]]).1=1:=hp.2.1;exact⟨hR,bz,h1,hp.1.le aa,by (try dsimp only);omega,by (try dsimp only);omega,λ_=>by (try dsimp only);omega⟩
theorem CY(s:ba)(objects arrows:Int):∃q:ba×(aF×Unit),ab (jQ.o.strip.oks s)->ab (okL jQ.as (objects,arrows,()))->ab (jQ.pre s (objects,arrows,()))->CQ s objects arrows (λz r=>z=q.1/\r=q.2)/\ab (jQ.o.strip.oks q.1)/\ab (okR jQ.rt q.2)/\zS s objects arrows q.1 q.2.1:=pkw (au iB (au MT (au Hx (au C4 (au MM (au CW aQ)))))) aR 54 Tryz.f54 jQ Nu [(6,90002),(8,90002)] lU (λx y K=>CQ x y.1 y.2.1 K) (λx y z r=>zS x y.1 y.2.1 z r.1) (λx y h1 h2 h3=>Yn x y.1 y.2.1 h1 h2 h3) s (objects,arrows,())
def zH(s:ba)(objects arrows:Int):ba:=(CY s objects arrows).choose.1
def sx(s:ba)(objects arrows:Int):aF:=(CY s objects arrows).choose.2.1
theorem Y1(s:ba)(objects arrows:Int)(hok:ab (jQ.o.strip.oks s))(hok2:ab (okL jQ.as (objects,arrows,())))(hpre:ab (jQ.pre s (objects,arrows,()))):ab (jQ.o.strip.oks (zH s objects arrows))/\ab (okR jQ.rt (sx s objects arrows,()))/\zS s objects arrows (zH s objects arrows) (sx s objects arrows):=((CY s objects arrows).choose_spec hok hok2 hpre).2
def NL:Wt:=⟨gE,[aq,aq],[false,false],λx y=>[bt x,1<=y.1,y.1<=8,1<=y.2.1,y.2.1<=40],λx y=>(zH x y.1 y.2.1),[(true,iI)],λx y=>((sx x y.1 y.2.1),()),0⟩
def NY:Ct:=iO NL
theorem NG:aN Tryz.prog 54 NY:=wtb (au iB (au MT (au Hx (au C4 (au MM (au CW aQ)))))) aR 54 Tryz.f54 NL Nu [(6,90002),(8,90002)] (λx y h1 h2 h3=>Eq.mp (by kernel_rfl) ((CY x y.1 y.2.1).choose_spec h1 h2 h3).1)
theorem afb{s:ba}(h:bt s)(a1:1<=a)(a8:a<=8)(b1:1<=b)(b40:b<=40):bt (zH s a b)/\CgR 1000000000 (sx s a b)/\(sx s a b).1<=a/\((sx s a b).2.1.length:Int)<=40/\(8<=b->((sx s a b).2.1.length:Int)<=b):=(Y1 s a b h.1 (by simp only[jQ,okL,T.oks,ap,ab,aA,cf];omega) ⟨h,a1,a8,b1,b40,trivial⟩).2.2
theorem adt(s:ByteArray)(a b:Nat):(s.extract a b).size<=s.size:=by rw[Gi];omega
theorem DL{l:List ByteArray}(h:∀x∈l,x.size<=s.size)(a b:Nat):∀x∈l++[s.extract a b],x.size<=s.size:=λx hx=>by
 rcases dN.1 hx with hx|hx
 ·exact h x hx
 ·rw[cP]at hx;subst hx;exact adt ..
def nU:Ct:=⟨[.str,(.int .u8)],[false,false],λx=>[x.1.size<=1000000],[(false,(.fz (.sl .str)))],λ_=>dfR _,true,none⟩
def zE(s:ByteArray)(by_:Int)(r0:List ByteArray):Prop:=r0.length<=s.size+1/\∀x∈r0,x.size<=s.size
def Nn:Ann:=(.s .n (.s .n (.s .n (.s (.s .n (.l [(5,(.ref 800005 [])),(6,(.d aq)),(7,(.d aq))] [(800005,(.sl nx))] [0,1] (.s .n (.s (.s .n (.j Lj [(800005,(.sl nx))] [0,1,7] .n)) .n)))) .n))))
def z8(s:ByteArray)(by_:Int)(K:(List ByteArray)×Unit->Prop):Prop:=let f:=ByteArray.size s;aI (S:=((Unit×jf)×((List ByteArray)×Unit))) (λa b=>let g:=a.1.2.1;let i:=ByteArray.extract s g.toNat f;let e:=a.1.2.2.1;let h:=ByteArray.extract s g.toNat e.toNat;Iq g<|Iq e<|T.ok (.sl T.str) a.2.1->cnd (decide (e<((f:Nat):Int))) (0<=e/\e<((f:Nat):Int)/\bZ (S:=(dW×((List ByteArray)×Unit))) (λc=>Iq c.1.2.1<|T.ok (.sl T.str) c.2.1->(Ik (e+1)<|b (((),c.1.2.1,e+1,()),c.2.1,()))) (λd=>cnd (((UInt8.toNat ((s.data).toList.getD e.toNat (0:UInt8)):Nat):Int)==by_) (0<=g/\g<=e/\e<=((f:Nat):Int)/\aX a.2.1.length (h::([]:List ByteArray)).length 16/\(Ik (e+1)<|d (((),e+1,()),a.2.1++h::([]:List ByteArray),()))) (d (((),g,()),a.2.1,())))) (0<=g/\g<=((f:Nat):Int)/\aX a.2.1.length (i::([]:List ByteArray)).length 16/\K (a.2.1++i::([]:List ByteArray),()))) (((),0,0,()),([]:List ByteArray),())
theorem XS(s:ByteArray)(by_:Int)(hok:ab (okL nU.args (s,by_,())))(hpre:ab (nU.pre (s,by_,()))):z8 s by_ (λr=>zE s by_ r.1):=by
 simp only[nU,okL,T.oks,T.ok,ap,ab,aL,aA,bf]at hok hpre
 try dsimp only[T.den]at hok hpre
 delta z8 zE Ik Iq
 dsimp -proj -eta only;have hl:s.size<=1000000:=hpre;clear hok hpre;refine aY (λ(q:((Unit×jf)×((List ByteArray)×Unit)))=>0<=q.1.2.2.1/\q.1.2.2.1<=s.size/\0<=q.1.2.1/\q.1.2.1<=q.1.2.2.1/\(q.2.1.length:Int)<=q.1.2.2.1/\∀x∈q.2.1,x.size<=s.size) (λ(q:((Unit×jf)×((List ByteArray)×Unit)))=>(s.size-q.1.2.2.1).toNat) ?_ ⟨ak,ak,ak,ak,ak,ak⟩;rintro⟨⟨_,a,i,_⟩,out,_⟩ next ⟨i0,i1,a0,a1,ln,al⟩ hn ka ki hout
 try dsimp only at i0 i1 a0 a1 ln al hn ka ki hout⊢
 refine aC (λhx=>?_) (λhx=>?_)
 ·rw[cj]at hx;refine⟨i0,hx,cp (λ(q:(dW×((List ByteArray)×Unit)))=>0<=q.1.2.1/\q.1.2.1<=i+1/\(q.2.1.length:Int)<=i+1/\∀x∈q.2.1,x.size<=s.size) (λq hq _ _=>⟨az,hn _ ⟨ae,ae,hq.1,hq.2.1,hq.2.2.1,hq.2.2.2⟩ ae⟩) (λk hk=>aC (λ_=>⟨a0,a1,aa,bh (by simp only[aH,aM];omega),az,hk _ ⟨ae,ae,by simp only[bj,aH,aM];omega,DL al _ _⟩⟩) (λ_=>hk _ ⟨a0,ae,ae,al⟩))⟩
 ·rw[fS]at hx;exact⟨a0,aa,bh (by simp only[aH,aM];omega),by simp only[bj,aH,aM];omega,DL al _ _⟩
theorem H9(s:ByteArray)(by_:Int):∃q:(List ByteArray)×Unit,ab (okL nU.args (s,by_,()))->ab (nU.pre (s,by_,()))->z8 s by_ (λr=>r=q)/\ab (okR nU.rt q)/\zE s by_ q.1:=pkb aQ aR 107 Tryz.f107 nU Nn [] (λx K=>z8 x.1 x.2.1 K) (λx r=>zE x.1 x.2.1 r.1) (λx h1 h2=>XS x.1 x.2.1 h1 h2) (s,by_,())
def mR(s:ByteArray)(by_:Int):List ByteArray:=(H9 s by_).choose.1
theorem Xs(s:ByteArray)(by_:Int)(hok:ab (okL nU.args (s,by_,())))(hpre:ab (nU.pre (s,by_,()))):ab (okR nU.rt (mR s by_,()))/\zE s by_ (mR s by_):=((H9 s by_).choose_spec hok hpre).2
def CH:Ct:=⟨[.str,(.int .u8)],[false,false],λx=>[x.1.size<=1000000],[(false,(.fz (.sl .str)))],λx=>((mR x.1 x.2.1),()),true,none⟩
theorem C5:aN Tryz.prog 107 CH:=ctb aQ aR 107 Tryz.f107 CH Nn [] (λx K=>z8 x.1 x.2.1 K) (λx h1 h2=>((H9 x.1 x.2.1).choose_spec h1 h2).1)
theorem JI(h:s.size<=nb)(hs:s.size<=1000000)(hb:inK .u8 b):(mR s b).length<=s.size+1/\∀x∈mR s b,x.size<=s.size:=(Xs s b (by simp only[nU,okL,T.oks,T.ok,ap,ab,aA];exact⟨h,hb⟩) ⟨hs,trivial⟩).2
def uA:Ct:=⟨[.str],[false],λx=>[],[(false,cA)],λ_=>dfR _,false,none⟩
def CA(s:ByteArray)(r0:Int):Prop:=inK .i64 r0
def Nq:Ann:=(.s .n (.s .n (.s .n (.s (.s .n (.l [(3,(.d aq)),(4,(.d aq))] [] [0] .n)) .n))))
def zM(s:ByteArray)(K:jB):Prop:=let d:=ByteArray.size s;let i:=decide (1<((d:Nat):Int));let h:=decide (9<((d:Nat):Int));((((d:Nat):Int)==0||h)=false/\i=true->0<((d:Nat):Int)/\(0:Int)<=0)/\cnd (((d:Nat):Int)==0||h||i&&((UInt8.toNat ((s.data).toList.getD (Int.toNat 0) (0:UInt8)):Nat):Int)==48) (K (-1,())) (aI (S:=(jf×Unit)) (λa b=>let f:=a.1.2.1;let c:=UInt8.toNat ((s.data).toList.getD f.toNat (0:UInt8));let g:=decide (((c:Nat):Int)<48);let e:=IntKind.wrap .i64 (IntKind.wrap .u8 (((c:Nat):Int)-48));Iq a.1.1<|Iq f<|cnd (decide (f<((d:Nat):Int))) (0<=f/\f<((d:Nat):Int)/\(g=false->f<((d:Nat):Int)/\0<=f)/\cnd (g||decide (57<((c:Nat):Int))) (K (-1,())) (Ik (a.1.1*10)<|0<=f/\f<((d:Nat):Int)/\(Ik (a.1.1*10+e)<|Ik (f+1)<|b ((a.1.1*10+e,f+1,()),())))) (K (a.1.1,()))) ((0,0,()),()))
theorem Xy(s:ByteArray)(hok:ab (okL uA.args (s,())))(hpre:ab (uA.pre (s,()))):zM s (λr=>CA s r.1):=by
 simp only[uA,okL,T.oks,T.ok,ap,ab,aL,aA,bf]at hok hpre
 try dsimp only[T.den]at hok hpre
 delta zM CA Ik Iq
 dsimp -proj -eta only;have hl:=hok;clear hok;have hz:inK .i64 0:=az
 have hm:inK .i64 (-1):=az
 refine⟨λh=>⟨by have:=h.2;simp only[cj]at this;omega,cB _⟩,aC (λ_=>hm) (λhc=>?_)⟩;have h9:s.size<=9:=by simp only[gV,fS]at hc;have:=hc.1.2;omega
 refine aY (λ(q:kZ)=>0<=q.1.2.1/\q.1.2.1<=s.size/\0<=q.1.1/\q.1.1<10 ^ q.1.2.1.toNat) (λ(q:kZ)=>(s.size-q.1.2.1).toNat) ?_ ⟨ak,ak,ak,ak⟩;rintro⟨⟨n,i,_⟩,_⟩ next ⟨i0,i1,n0,n1⟩ hn hin _
 try dsimp only at i0 i1 n0 n1 hn hin⊢
 refine aC (λhx=>?_) (λ_=>hin);rw[cj]at hx
 have hp:(10:Int) ^ i.toNat<=10 ^ 8:=by
  have:(10:Nat) ^ i.toNat<=10 ^ 8:=Nat.pow_le_pow_right bz aa
  exact_mod_cast this
 generalize hb:(((List.getD (s).data.toList i.toNat (0:UInt8)).toNat:Nat):Int)=b at *;refine⟨i0,hx,λ_=>⟨hx,i0⟩,aC (λ_=>hm) (λhd=>?_)⟩;simp only[gV,fS]at hd;have w1:IntKind.wrap .u8 (b-48)=b-48:=tj (show (0:Int)<=b-48/\b-48<=255 by omega);have w2:IntKind.wrap .i64 (b-48)=b-48:=tj az;rw[w1,w2];have e:(i+1).toNat=i.toNat+1:=by omega
 refine⟨az,i0,hx,az,az,hn _ ⟨ae,ae,ae,?_⟩ ae⟩
 try dsimp only
 rw[e,Int.pow_succ];omega
theorem NR(s:ByteArray):∃q:Int×Unit,ab (okL uA.args (s,()))->ab (uA.pre (s,()))->zM s (λr=>r=q)/\ab (okR uA.rt q)/\CA s q.1:=pkb aQ aR 106 Tryz.f106 uA Nq [] (λx K=>zM x.1 K) (λx r=>CA x.1 r.1) (λx h1 h2=>Xy x.1 h1 h2) (s,())
def C3(s:ByteArray):Int:=(NR s).choose.1
def CL:Ct:=⟨[.str],[false],λx=>[],[(false,cA)],λx=>((C3 x.1),()),false,none⟩
theorem CE:aN Tryz.prog 106 CL:=ctb aQ aR 106 Tryz.f106 CL Nq [] (λx K=>zM x.1 K) (λx h1 h2=>((NR x.1).choose_spec h1 h2).1)
def uH:Ct:=⟨[.str],[false],λx=>[x.1.size<=1000000],[(false,ru),(false,ru),(false,dS)],λ_=>dfR _,true,none⟩
def CP(part:ByteArray)(r0 r1:aw)(r2:bC):Prop:=r0.length<=40/\r1.length<=40
def NK:Ann:=(.s .n (.s .n (.s .n (.s .n (.s .n (.s (.s .n (.l [(5,(.ref 800005 [])),(6,(.ref 800006 [])),(8,(.d aq))] [(800005,cd),(800006,cd)] [7] .n)) .n))))))
def ah3:FuncId->Option Ct:=lkp [(107,CH),(106,CL)]
def Aa(part:ByteArray)(K:(List Int)×(List Int)×Bool×Unit->Prop):Prop:=let f:=mR part 32;cnd (ByteArray.toList part==ByteArray.toList (ByteArray.mk (Array.mk ((45:UInt8)::([]:List UInt8))))) (K ([],[],true,())) (ByteArray.size part<=1000000/\cnd (decide (40<(f.length:Int))) (K ([],[],false,())) (aI (S:=oN) (λa b=>let g:=a.1.2.2.1;let h:=f.getD g.toNat ByteArray.empty;let c:=mR h 62;let e:=C3 (c.getD (Int.toNat 1) ByteArray.empty);let d:=C3 (c.getD (Int.toNat 0) ByteArray.empty);Iq g<|Ol a.2.1<|Ol a.2.2.1<|cnd (decide (g<(f.length:Int))) (Ix g f.length<|ByteArray.size h<=1000000/\(((c.length:Int) != 2)=false->0<(c.length:Int)/\(0:Int)<=0)/\(((c.length:Int) != 2||decide (d<0))=false->1<(c.length:Int)/\(0:Int)<=1)/\cnd ((c.length:Int) != 2||decide (d<0)||decide (e<0)) (K ([],[],false,())) (Ix 0 c.length<|aX a.2.1.length [d].length 8/\(Ix 1 c.length<|aX a.2.2.1.length [e].length 8/\(Ik (g+1)<|b (((),(),g+1,()),a.2.1++[d],a.2.2.1++[e],()))))) (K (a.2.1,a.2.2.1,true,()))) (((),(),0,()),[],[],())))
theorem Ys(part:ByteArray)(hok:ab (okL uH.args (part,())))(hpre:ab (uH.pre (part,()))):Aa part (λr=>CP part r.1 r.2.1 r.2.2.1):=by
 simp only[uH,okL,T.oks,T.ok,ap,ab,aL,aA,bf]at hok hpre
 try dsimp only[T.den]at hok hpre
 delta Aa CP Ik Iq Ix Ol
 dsimp -proj -eta only;have hl:part.size<=1000000:=hpre;clear hpre;refine aC (λ_=>⟨ak,ak⟩) (λ_=>⟨hl,aC (λ_=>⟨ak,ak⟩) (λh40=>?_)⟩);rw[fS]at h40;obtain⟨_,hws⟩:=JI (s:=part) (b:=32) hok hl (show (0:Int)<=32/\(32:Int)<=255 by omega);generalize mR part 32=ws at *;refine aY (λ(q:oN)=>0<=q.1.2.2.1/\q.1.2.2.1<=ws.length/\(q.2.1.length:Int)<=q.1.2.2.1/\(q.2.2.1.length:Int)<=q.1.2.2.1) (λ(q:oN)=>(ws.length-q.1.2.2.1).toNat) ?_ ⟨ak,ak,ak,ak⟩;rintro⟨⟨_,_,i,_⟩,fr,to,_⟩ next ⟨i0,i1,f1,t1⟩ hn ki kf kt
 try dsimp only at i0 i1 f1 t1 hn ki kf kt⊢
 refine aC (λhx=>?_) (λhx=>⟨aa,aa⟩);rw[cj]at hx;have hw:=hws _ (cC ws ByteArray.empty i0 hx);generalize ws.getD i.toNat ByteArray.empty=x at *;generalize mR x 62=es at *;refine⟨i0,hx,aa,λh=>?_,λh=>?_,aC (λ_=>⟨ak,ak⟩) (λh=>?_)⟩
 ·simp only[fT]at h;omega
 ·simp only[gV,fT]at h;omega
 ·simp only[gV,fT]at h;have h2:=h.1.1;exact⟨aa,aa,bh (by simp only[aH,aM];omega),aa,aa,bh (by simp only[aH,aM];omega),az,hn _ ⟨ae,ae,by simp only[bj,aH,aM];omega,by simp only[bj,aH,aM];omega⟩ ae⟩
theorem CT(part:ByteArray):∃q:(List Int)×(List Int)×Bool×Unit,ab (okL uH.args (part,()))->ab (uH.pre (part,()))->Aa part (λr=>r=q)/\ab (okR uH.rt q)/\CP part q.1 q.2.1 q.2.2.1:=pkb (au C5 (au CE aQ)) aR 105 Tryz.f105 uH NK [] (λx K=>Aa x.1 K) (λx r=>CP x.1 r.1 r.2.1 r.2.2.1) (λx h1 h2=>Ys x.1 h1 h2) (part,())
def No(part:ByteArray):List Int:=(CT part).choose.1
def N3(part:ByteArray):List Int:=(CT part).choose.2.1
def Nb(part:ByteArray):Bool:=(CT part).choose.2.2.1
def HO:Ct:=⟨[.str],[false],λx=>[x.1.size<=1000000],[(false,ru),(false,ru),(false,dS)],λx=>((No x.1),(N3 x.1),(Nb x.1),()),true,none⟩
theorem NB:aN Tryz.prog 105 HO:=ctb (au C5 (au CE aQ)) aR 105 Tryz.f105 HO NK [] (λx K=>Aa x.1 K) (λx h1 h2=>((CT x.1).choose_spec h1 h2).1)
def nT:Ct:=⟨[.str],[false],λx=>[x.1.size<=1000000],[(false,(.fz (.sl .str)))],λ_=>dfR _,true,none⟩
def zK(text:ByteArray)(r0:List ByteArray):Prop:=r0.length<=text.size+1/\∀x∈r0,x.size<=text.size
def Nz:Ann:=(.s .n (.s .n (.s (.s .n (.l [(3,(.ref 800003 [])),(4,(.d aq)),(5,(.d aq))] [(800003,(.sl nx))] [0] (.s .n (.s (.s .n (.j Lz [(800003,(.sl nx))] [0,5] .n)) .n)))) .n)))
def zA(text:ByteArray)(K:(List ByteArray)×Unit->Prop):Prop:=let f:=ByteArray.size text;aI (S:=((Unit×jf)×((List ByteArray)×Unit))) (λa b=>let g:=a.1.2.1;let i:=ByteArray.extract text g.toNat f;let e:=a.1.2.2.1;let h:=ByteArray.extract text g.toNat e.toNat;Iq g<|Iq e<|T.ok (.sl T.str) a.2.1->(Ik (e+3)<|cnd (decide (e+3<=((f:Nat):Int))) (Ik (e+3)<|0<=e/\e<=e+3/\e+3<=((f:Nat):Int)/\bZ (S:=(dW×((List ByteArray)×Unit))) (λc=>Iq c.1.2.1<|T.ok (.sl T.str) c.2.1->(Ik (e+1)<|b (((),c.1.2.1,e+1,()),c.2.1,()))) (λd=>cnd (ByteArray.toList (ByteArray.extract text e.toNat (Int.toNat (e+3)))==ByteArray.toList (ByteArray.mk (Array.mk ((32:UInt8)::(124:UInt8)::(32:UInt8)::([]:List UInt8))))&&decide (g<=e)) (0<=g/\g<=e/\e<=((f:Nat):Int)/\aX a.2.1.length (h::([]:List ByteArray)).length 16/\(Ik (e+3)<|d (((),e+3,()),a.2.1++h::([]:List ByteArray),()))) (d (((),g,()),a.2.1,())))) (0<=g/\g<=((f:Nat):Int)/\aX a.2.1.length (i::([]:List ByteArray)).length 16/\K (a.2.1++i::([]:List ByteArray),())))) (((),0,0,()),([]:List ByteArray),())
theorem XJ(text:ByteArray)(hok:ab (okL nT.args (text,())))(hpre:ab (nT.pre (text,()))):zA text (λr=>zK text r.1):=by
 simp only[nT,okL,T.oks,T.ok,ap,ab,aL,aA,bf]at hok hpre
 try dsimp only[T.den]at hok hpre
 delta zA zK Ik Iq
 dsimp -proj -eta only;have hl:text.size<=1000000:=hpre;clear hok hpre;refine aY (λ(q:((Unit×jf)×((List ByteArray)×Unit)))=>0<=q.1.2.2.1/\q.1.2.2.1<=text.size/\0<=q.1.2.1/\q.1.2.1<=text.size/\(q.2.1.length:Int)<=q.1.2.2.1/\∀x∈q.2.1,x.size<=text.size) (λ(q:((Unit×jf)×((List ByteArray)×Unit)))=>(text.size-q.1.2.2.1).toNat) ?_ ⟨ak,ak,ak,ak,ak,ak⟩;rintro⟨⟨_,a,i,_⟩,out,_⟩ next ⟨i0,i1,a0,a1,ln,al⟩ hn ka ki hout
 try dsimp only at i0 i1 a0 a1 ln al hn ka ki hout⊢
 refine⟨az,aC (λhx=>?_) (λhx=>?_)⟩
 ·rw[cj]at hx;refine⟨az,i0,aa,hx,cp (λ(q:(dW×((List ByteArray)×Unit)))=>0<=q.1.2.1/\q.1.2.1<=text.size/\(q.2.1.length:Int)<=i+1/\∀x∈q.2.1,x.size<=text.size) (λq hq _ _=>⟨az,hn _ ⟨ae,ae,hq.1,hq.2.1,hq.2.2.1,hq.2.2.2⟩ ae⟩) (λk hk=>aC (λhc=>?_) (λ_=>hk _ ⟨a0,ae,ae,al⟩))⟩;have ha:a<=i:=by rw[ao,cj]at hc;exact hc.2
  exact⟨a0,ha,aa,bh (by simp only[aH,aM];omega),az,hk _ ⟨ae,ae,by simp only[bj,aH,aM];omega,DL al _ _⟩⟩
 ·exact⟨a0,aa,bh (by simp only[aH,aM];omega),by simp only[bj,aH,aM];omega,DL al _ _⟩
theorem Hy(text:ByteArray):∃q:(List ByteArray)×Unit,ab (okL nT.args (text,()))->ab (nT.pre (text,()))->zA text (λr=>r=q)/\ab (okR nT.rt q)/\zK text q.1:=pkb aQ aR 104 Tryz.f104 nT Nz [] (λx K=>zA x.1 K) (λx r=>zK x.1 r.1) (λx h1 h2=>XJ x.1 h1 h2) (text,())
def uz(text:ByteArray):List ByteArray:=(Hy text).choose.1
theorem X8(text:ByteArray)(hok:ab (okL nT.args (text,())))(hpre:ab (nT.pre (text,()))):ab (okR nT.rt (uz text,()))/\zK text (uz text):=((Hy text).choose_spec hok hpre).2
def H1:Ct:=⟨[.str],[false],λx=>[x.1.size<=1000000],[(false,(.fz (.sl .str)))],λx=>((uz x.1),()),true,none⟩
theorem Ny:aN Tryz.prog 104 H1:=ctb aQ aR 104 Tryz.f104 H1 Nz [] (λx K=>zA x.1 K) (λx h1 h2=>((Hy x.1).choose_spec h1 h2).1)
theorem acm(h:s.size<=nb)(hs:s.size<=1000000):(uz s).length<=s.size+1/\∀x∈uz s,x.size<=s.size:=(X8 s (by simp only[nT,okL,T.oks,T.ok,ap,ab,aA];exact h) ⟨hs,trivial⟩).2
theorem byt(b:UInt8):0<=((b.toNat:Nat):Int)/\((b.toNat:Nat):Int)<=255:=by have:=b.toNat_lt;omega
theorem afo(b:UInt8):IntKind.wrap .i64 ((b.toNat:Nat):Int)=((b.toNat:Nat):Int):=tj (by have:=byt b;rw[cf];omega)
def uJ:Ct:=⟨[.str],[false],λx=>[x.1.size<=1000000],[(true,(.fz eH)),(false,dS)],λ_=>dfR _,true,none⟩
def CU(text:ByteArray)(r0:aO)(r1:bC):Prop:=r0.2.length<=6
def N7:Ann:=(.s .n (.s .n (.s .n (.s (.s .n (.l [(2,(.ad 2 [.de])),(4,(.ad 4 [.de])),(5,(.d aq))] [(2,Ff),(4,Ff)] [0] .n)) .n))))
def zV(text:ByteArray)(K:aO×Bool×Unit->Prop):Prop:=let f:=(text.data).toList.getD;let e:=IntKind.wrap .i64 ((UInt8.toNat (f (Int.toNat 1) (0:UInt8)):Nat):Int);let d:=ByteArray.size text;let i:=decide (((d:Nat):Int)<2);(i=false->0<((d:Nat):Int)/\(0:Int)<=0)/\cnd (i||((UInt8.toNat (f (Int.toNat 0) (0:UInt8)):Nat):Int) != 64) (K ((0,[]),false,())) ((0:Int)<=1/\1<((d:Nat):Int)/\(Ik (e-48)<|aI (S:=(dy×mG)) (λa b=>let h:=a.2.2.1;let g:=a.1.2.2.1;let c:=IntKind.wrap .i64 ((UInt8.toNat (f g.toNat (0:UInt8)):Nat):Int);Iq g<|Iq a.2.1.1<|Ol a.2.1.2<|Iq h.1<|Ol h.2<|cnd (decide (g<((d:Nat):Int))) (cnd (decide (6<=(h.2.length:Int))) (K ((0,[]),false,())) (h.2.length<=1099511627776/\0<=g/\g<((d:Nat):Int)/\(Ik (c-97)<|aX h.2.length [c-97].length 8/\(Ik (g+1)<|b (((),(),g+1,()),a.2.1,(h.1,h.2++[c-97]),()))))) (K (h,true,()))) (((),(),2,()),(0,[]),(e-48,[]),())))
theorem Yt(text:ByteArray)(hok:ab (okL uJ.args (text,())))(hpre:ab (uJ.pre (text,()))):zV text (λr=>CU text r.1 r.2.1):=by
 simp only[uJ,okL,T.oks,T.ok,ap,ab,aL,aA,bf]at hok hpre
 try dsimp only[T.den]at hok hpre
 delta zV CU Ik Iq Ol
 dsimp -proj -eta only;have hl:text.size<=1000000:=hpre;clear hok hpre;have b1:=byt ((text).data.toList.getD (Int.toNat 1) 0);simp only[afo];refine⟨λh=>?_,aC (λ_=>ak) (λh=>?_)⟩
 ·rw[fS]at h;omega
 have h2:¬(text.size:Int)<2:=by rw[gV,fS]at h;exact h.1
 refine⟨aa,aa,az,?_⟩;refine aY (λ(q:(dy×mG))=>0<=q.1.2.2.1/\q.1.2.2.1<=text.size/\q.2.2.1.2.length<=6) (λ(q:(dy×mG))=>(text.size-q.1.2.2.1).toNat) ?_ ⟨ak,ae,ak⟩;rintro⟨⟨_,_,i,_⟩,p0,p,_⟩ next ⟨i0,i1,p6⟩ hn ki k1 k2 k3 k4
 try dsimp only at i0 i1 p6 hn ki k1 k2 k3 k4⊢
 refine aC (λhx=>?_) (λhx=>p6);rw[cj]at hx;have b2:=byt ((text).data.toList.getD i.toNat 0);refine aC (λ_=>ak) (λh6=>?_);rw[fS]at h6;exact⟨aa,i0,hx,az,bh (by simp only[aH,aM];omega),az,hn _ ⟨ae,ae,by simp only[bj,aH,aM];omega⟩ ae⟩
theorem HM(text:ByteArray):∃q:aO×Bool×Unit,ab (okL uJ.args (text,()))->ab (uJ.pre (text,()))->zV text (λr=>r=q)/\ab (okR uJ.rt q)/\CU text q.1 q.2.1:=pkb (au jo aQ) aR 108 Tryz.f108 uJ N7 [(9,509)] (λx K=>zV x.1 K) (λx r=>CU x.1 r.1 r.2.1) (λx h1 h2=>Yt x.1 h1 h2) (text,())
def Hk(text:ByteArray):aO:=(HM text).choose.1
def Hw(text:ByteArray):Bool:=(HM text).choose.2.1
def Ij:Ct:=⟨[.str],[false],λx=>[x.1.size<=1000000],[(true,(.fz eH)),(false,dS)],λx=>((Hk x.1),(Hw x.1),()),true,none⟩
theorem NN:aN Tryz.prog 108 Ij:=ctb (au jo aQ) aR 108 Tryz.f108 Ij N7 [(9,509)] (λx K=>zV x.1 K) (λx h1 h2=>((HM x.1).choose_spec h1 h2).1)
def jc(n:Int):ByteArray:=if h:n<10 then nh [IntKind.wrap .u8 (48+n)]else jc (Int.tdiv n 10)++nh [IntKind.wrap .u8 (48+Int.tmod n 10)]
termination_by n.toNat
decreasing_by rw[Cq aa];omega
theorem DT(l:Int):(nh [l]).size=1:=rfl
theorem P8:∀(k:Nat)(n:Int),n<10 ^ (k+1)->(jc n).size<=k+1
 |0,n,h=>by rw[jc.eq_1,dif_pos aa,DT];omega
 |k+1,n,h=>by
  rw[jc.eq_1];split
  ·rw[DT];omega
  ·rw[lT,DT];have:=P8 k (Int.tdiv n 10) (by rw[Cq aa];rw[Int.pow_succ]at h;omega);omega
theorem AP(h:inK .i64 n):(jc n).size<=20:=by rw[cf]at h;exact P8 19 n aa
def uN:Ct:=⟨[aq],[false],λx=>[],[(false,nx)],λx=>(jc x.1,()),false,none⟩
def uO(n:Nat):Ct:=⟨[aq],[false],λx=>[x.1.toNat<n],[(false,nx)],λx=>(jc x.1,()),false,none⟩
def De(n:Nat)(n_:Int)(K:ByteArray×Unit->Prop):Prop:=let c:=Int.tmod n_ 10;let b:=Int.tdiv n_ 10;let a:=nh [IntKind.wrap .u8 (48+c)];cnd (decide (n_<10)) (Ik (48+n_)<|K (nh [IntKind.wrap .u8 (48+n_)],())) ((10:Int)≠0/\(Ik b<|b.toNat<n/\(10:Int)≠0/\(Ik c<|Ik (48+c)<|ByteArray.size (jc b)+ByteArray.size a<=140737488355328/\K (jc b++a,()))))
theorem YC(n:Nat)(x:bo uN.args)(K:ByteArray×Unit->Prop):evF tab (lkp [(125,uO n)]) (fN [(3,509)]) Tryz.f125 (fa Tryz.f125) .n (uO (n+1)) x K=De n x.1 K:=by kernel_rfl
theorem YI(n:Nat)(n_:Int)(hok:ab (okL uN.args (n_,())))(hpre:ab ((uO (n+1)).pre (n_,()))):De n n_ (λr=>r=uN.res (n_,())):=by
 simp only[uN,uO,okL,T.oks,T.ok,ap,ab,aL,aA,bf]at hok hpre
 try dsimp only[T.den]at hok hpre
 delta De Ik
 dsimp -proj -eta only;simp only[uN];have h0:=cf.1 hok;have hu:=jc.eq_1 n_;refine aC (λh=>?_) (λh=>?_)
 ·have h:n_<10:=by simpa using h
  refine⟨az,?_⟩;rw[hu,dif_pos h]
 ·have h:¬n_<10:=by simpa using h
  have e1:Int.tdiv n_ 10=n_ / 10:=Cq aa;have e2:Int.tmod n_ 10=n_%10:=Int.tmod_eq_emod_of_nonneg aa;have k1:inK .i64 (Int.tdiv n_ 10):=az
  have:=AP k1;rw[hu,dif_neg h];exact⟨bz,k1,aa,bz,az,az,by rw[DT];omega,rfl⟩
theorem CV:aN Tryz.prog 125 uN:=by
 refine aeb (q:=λn=>(uO n).pre) (sS (fn:=Tryz.f125) (c:=fa Tryz.f125) (by kernel_rfl) (by kernel_rfl) (by kernel_rfl)) (λx h=>Nat.not_lt_zero _ h.1) (λx h=>?_) (λn ih=>?_)
 ·exact⟨_,Cp _,h⟩
 ·exact Uq (Φ:=lkp [(125,uO n)]) (au ih aQ) aR (by kernel_rfl) (fn:=Tryz.f125) (c:=fa Tryz.f125) (by kernel_rfl) (by kernel_rfl) (by kernel_rfl) (uO (n+1)) rfl .n (fN [(3,509)]) (by kernel_rfl) (by kernel_rfl) (by kernel_rfl) (ia rfl) (λx K=>De n x.1 K) (YC n) (λx h1 h2=>YI n x.1 h1 h2)
def nW:Ct:=⟨[eH],[true],λx=>[bD x.1.2 8=true,x.1.2.length<=100],[(false,nx)],λ_=>dfR _,false,none⟩
def zW(p:aO)(r0:ByteArray):Prop:=r0.size<=200
def NH:Ann:=(.s .n (.s .n (.s (.s .n (.l [(3,(.d .str)),(4,(.d aq))] [] [1] .n)) .n)))
def zZ(p:aO)(K:ByteArray×Unit->Prop):Prop:=let e:=ByteArray.mk (Array.mk ((64:UInt8)::([]:List UInt8)));let c:=ByteArray.mk (Array.mk ((97:UInt8)::(98:UInt8)::(99:UInt8)::(100:UInt8)::(101:UInt8)::(102:UInt8)::(103:UInt8)::(104:UInt8)::([]:List UInt8)));ByteArray.size e+ByteArray.size (jc p.1)<=140737488355328/\aI (S:=((ByteArray×(Int×Unit))×Unit)) (λa b=>let h:=ByteArray.size a.1.1;let g:=a.1.2.1;let d:=p.2.getD g.toNat 0;let f:=ByteArray.extract c d.toNat (Int.toNat (d+1));h<=140737488355328->(Iq g<|cnd (decide (g<(p.2.length:Int))) (Ix g p.2.length<|Ix g p.2.length<|Ik (d+1)<|0<=d/\d<=d+1/\d+1<=((ByteArray.size c:Nat):Int)/\h+ByteArray.size f<=140737488355328/\(Ik (g+1)<|b ((a.1.1++f,g+1,()),()))) (K (a.1.1,())))) ((e++jc p.1,0,()),())
theorem Yz(p:aO)(hok:ab (okL nW.args (p,())))(hpre:ab (nW.pre (p,()))):zZ p (λr=>zW p r.1):=by
 simp only[nW,okL,T.oks,T.ok,ap,ab,aL,aA,bf]at hok hpre
 try dsimp only[T.den]at hok hpre
 delta zZ zW Ik Iq Ix
 dsimp -proj -eta only;obtain⟨hw,hl⟩:=hpre;have hd:=AP hok.1;have h1:(ByteArray.mk (Array.mk [(64:UInt8)])).size=1:=rfl;have h8:(ByteArray.mk (Array.mk [(97:UInt8),98,99,100,101,102,103,104])).size=8:=rfl;clear hok;refine⟨aa,?_⟩;refine aY (λ(q:((ByteArray×(Int×Unit))×Unit))=>0<=q.1.2.1/\q.1.2.1<=p.2.length/\(q.1.1.size:Int)<=21+q.1.2.1) (λ(q:((ByteArray×(Int×Unit))×Unit))=>(p.2.length-q.1.2.1).toNat) ?_ ⟨ak,ak,by show ((_++jc p.1).size:Int)<=21+0;rw[lT];omega⟩;rintro⟨⟨out,i,_⟩,_⟩ next ⟨i0,i1,o1⟩ hn ko ki
 try dsimp only at i0 i1 o1 hn ko ki⊢
 refine aC (λhx=>?_) (λhx=>aa);rw[cj]at hx;obtain⟨e0,e1⟩:=fF.1 hw i i0 hx;generalize p.2.getD i.toNat 0=e at *;have hs:(ByteArray.extract (ByteArray.mk (Array.mk [(97:UInt8),98,99,100,101,102,103,104])) e.toNat (e+1).toNat).size<=1:=by rw[Gi];omega
 exact⟨i0,hx,i0,hx,az,e0,aa,aa,aa,az,hn _ ⟨ae,ae,by show ((out++_).size:Int)<=21+(i+1);rw[lT];omega⟩ ae⟩
theorem HW(p:aO):∃q:ByteArray×Unit,ab (okL nW.args (p,()))->ab (nW.pre (p,()))->zZ p (λr=>r=q)/\ab (okR nW.rt q)/\zW p q.1:=pkb (au CV aQ) aR 126 Tryz.f126 nW NH [(5,13)] (λx K=>zZ x.1 K) (λx r=>zW x.1 r.1) (λx h1 h2=>Yz x.1 h1 h2) (p,())
def uB(p:aO):ByteArray:=(HW p).choose.1
theorem Yu(p:aO)(hok:ab (okL nW.args (p,())))(hpre:ab (nW.pre (p,()))):ab (okR nW.rt (uB p,()))/\zW p (uB p):=((HW p).choose_spec hok hpre).2
def HQ:Ct:=⟨[eH],[true],λx=>[bD x.1.2 8=true,x.1.2.length<=100],[(false,nx)],λx=>((uB x.1),()),false,none⟩
theorem Nt:aN Tryz.prog 126 HQ:=ctb (au CV aQ) aR 126 Tryz.f126 HQ NH [(5,13)] (λx K=>zZ x.1 K) (λx h1 h2=>((HW x.1).choose_spec h1 h2).1)
theorem SZ{p:aO}(h:ab (T.oks eH p))(hw:bD p.2 8=true)(hl:p.2.length<=100):(uB p).size<=200:=(Yu p (by simp only[nW,okL,fW,ab,aA];exact h) ⟨hw,hl,trivial⟩).2
theorem Rg{s:aB}(hS:bE s=true){p:aO}(h:(aV s p).2=true):bD p.2 8=true/\p.2.length<=6:=by obtain⟨_,h6,he⟩:=iU h;rw[he]at h;obtain⟨_,_,f8,_⟩:=fH hS;have hw:=fF.1 (I0 s _ _ h);exact⟨fF.2 λi i0 i1=>by have:=hw i i0 i1;omega,h6⟩
def uC:Ct:=⟨[fV],[true],λx=>[bE x.1=true],[(false,nx)],λ_=>dfR _,false,none⟩
def CO(s:aB)(r0:ByteArray):Prop:=0<=r0.size
def Nj:Ann:=(.s .n (.s .n (.s (.s .n (.l [(3,(.d .str)),(5,(.d aq))] [] [1,4] .n)) (.s (.s .n (.l [(4,(.d .str)),(6,(.d aq))] [] [1,3] .n)) (.s (.s .n (.j [(3,(.d .str))] [] [1,4] .n)) (.s (.s .n (.j [(4,(.d .str))] [] [1,3] .n)) .n))))))
def ahy:FuncId->Option Ct:=lkp [(125,uN),(126,HQ)]
def zJ(s:aB)(K:ByteArray×Unit->Prop):Prop:=let x:=jc s.1;let r:=ByteArray.mk (Array.mk ((32:UInt8)::(45:UInt8)::([]:List UInt8)));let o:=ByteArray.mk (Array.mk ((61:UInt8)::([]:List UInt8)));let n:=ByteArray.mk (Array.mk ((62:UInt8)::([]:List UInt8)));let m:=ByteArray.mk (Array.mk ([]:List UInt8));let j:=ByteArray.mk (Array.mk ((32:UInt8)::(124:UInt8)::([]:List UInt8)));let i:=ByteArray.mk (Array.mk ((32:UInt8)::([]:List UInt8)));aI (S:=((ByteArray×(Int×Unit))×Unit)) (λa b=>let y:=a.1.1;let u:=a.1.2.1;let w:=jc (s.2.2.1.getD u.toNat 0);let q:=jc (s.2.1.getD u.toNat 0);ByteArray.size y<=140737488355328->(Iq u<|cnd (decide (u<(s.2.1.length:Int))) (ByteArray.size y+ByteArray.size i<=140737488355328/\(Ix u s.2.1.length<|ByteArray.size (y++i)+ByteArray.size q<=140737488355328/\ByteArray.size (y++i++q)+ByteArray.size n<=140737488355328/\(Ix u s.2.2.1.length<|ByteArray.size (y++i++q++n)+ByteArray.size w<=140737488355328/\(Ik (u+1)<|b ((y++i++q++n++w,u+1,()),()))))) (aI (S:=((ByteArray×(Int×Unit))×Unit)) (λc d=>let z:=c.1.1;let v:=c.1.2.1;let p:=s.2.2.2.2.getD v.toNat (0,[]);let l:=s.2.2.2.1.getD v.toNat (0,[]);let t:=uB l;ByteArray.size z<=140737488355328->(Iq v<|cnd (decide (v<(s.2.2.2.1.length:Int))) (ByteArray.size z+ByteArray.size i<=140737488355328/\(Ix v s.2.2.2.1.length<|bD l.2 8=true/\l.2.length<=100/\ByteArray.size (z++i)+ByteArray.size t<=140737488355328/\ByteArray.size (z++i++t)+ByteArray.size o<=140737488355328/\(Ix v s.2.2.2.2.length<|bD p.2 8=true/\p.2.length<=100/\ByteArray.size (z++i++t++o)+ByteArray.size (uB p)<=140737488355328/\(Ik (v+1)<|d ((z++i++t++o++uB p,v+1,()),()))))) (bZ (S:=((ByteArray×Unit)×Unit)) (λe=>let a0:=ByteArray.size e.1.1;a0<=140737488355328->bZ (S:=((ByteArray×Unit)×Unit)) (λf=>let a1:=ByteArray.size f.1.1;a1<=140737488355328->ByteArray.size x+ByteArray.size j<=140737488355328/\ByteArray.size (x++j)+a0<=140737488355328/\ByteArray.size (x++j++e.1.1)+ByteArray.size j<=140737488355328/\ByteArray.size (x++j++e.1.1++j)+a1<=140737488355328/\K (x++j++e.1.1++j++f.1.1,())) (λg=>cnd (ByteArray.toList z==ByteArray.toList m) (g ((r,()),())) (g ((z,()),())))) (λh=>cnd (ByteArray.toList y==ByteArray.toList m) (h ((r,()),())) (h ((y,()),())))))) ((m,0,()),())))) ((m,0,()),())
theorem XC(s:aB)(hok:ab (okL uC.args (s,())))(hpre:ab (uC.pre (s,()))):zJ s (λr=>CO s r.1):=by
 simp only[uC,okL,T.oks,T.ok,ap,ab,aL,aA,bf]at hok hpre
 try dsimp only[T.den]at hok hpre
 delta zJ CO Ik Iq Ix
 dsimp -proj -eta only;have hS:bE s=true:=hpre;obtain⟨_,_,f8,tf,_,_,e8,re,heq⟩:=fH hS;have hdf:∀i:Int,0<=i->i<s.2.1.length->(jc (s.2.1.getD i.toNat 0)).size<=20:=λi i0 i1=>AP (hok.2.1.2 _ (cC _ 0 i0 i1));have hdt:∀i:Int,0<=i->i<s.2.2.1.length->(jc (s.2.2.1.getD i.toNat 0)).size<=20:=λi i0 i1=>AP (hok.2.2.1.2 _ (cC _ 0 i0 i1));have hl:∀i:Int,0<=i->i<s.2.2.2.1.length->ab (T.oks eH (s.2.2.2.1.getD i.toNat (0,[]))):=λi i0 i1=>by have:=hok.2.2.2.1.2 _ (cC _ (0,[]) i0 i1);simpa only [T.oks,T.ok,ap,ab,aA]using this
 have hr:∀i:Int,0<=i->i<s.2.2.2.2.length->ab (T.oks eH (s.2.2.2.2.getD i.toNat (0,[]))):=λi i0 i1=>by have:=hok.2.2.2.2.2 _ (cC _ (0,[]) i0 i1);simpa only [T.oks,T.ok,ap,ab,aA]using this
 have hd0:=AP hok.1;have z0:(ByteArray.mk (Array.mk ([]:List UInt8))).size=0:=rfl;have z1:(ByteArray.mk (Array.mk [(32:UInt8)])).size=1:=rfl;have z2:(ByteArray.mk (Array.mk [(62:UInt8)])).size=1:=rfl;have z3:(ByteArray.mk (Array.mk [(61:UInt8)])).size=1:=rfl;have z4:(ByteArray.mk (Array.mk [(32:UInt8),124])).size=2:=rfl;have z5:(ByteArray.mk (Array.mk [(32:UInt8),45])).size=2:=rfl;clear hok hpre;refine aY (λ(q:((ByteArray×(Int×Unit))×Unit))=>0<=q.1.2.1/\q.1.2.1<=s.2.1.length/\(q.1.1.size:Int)<=42*q.1.2.1) (λ(q:((ByteArray×(Int×Unit))×Unit))=>(s.2.1.length-q.1.2.1).toNat) ?_ ⟨ak,ak,by simp[z0]⟩;rintro⟨⟨out,i,_⟩,_⟩ next ⟨i0,i1,o1⟩ hn ko ki
 try dsimp only at i0 i1 o1 hn ko ki⊢
 refine aC (λhx=>?_) (λhx=>?_)
 ·rw[cj]at hx;have d1:=hdf i i0 hx;have d2:=hdt i i0 aa;refine⟨aa,i0,hx,?_,?_,i0,aa,?_,az,hn _ ⟨ae,ae,?_⟩ ae⟩
  ·simp only[lT];omega
  ·simp only[lT];omega
  ·simp only[lT];omega
  ·try dsimp only;simp only[lT];omega
 clear hx hn hdf hdt;refine aY (λ(q:((ByteArray×(Int×Unit))×Unit))=>0<=q.1.2.1/\q.1.2.1<=s.2.2.2.1.length/\(q.1.1.size:Int)<=402*q.1.2.1) (λ(q:((ByteArray×(Int×Unit))×Unit))=>(s.2.2.2.1.length-q.1.2.1).toNat) ?_ ⟨ak,ak,by simp[z0]⟩;rintro⟨⟨eqs,j,_⟩,_⟩ next ⟨j0,j1,p1⟩ hn kp kj
 try dsimp only at j0 j1 p1 hn kp kj⊢
 refine aC (λhx=>?_) (λhx=>?_)
 ·rw[cj]at hx;have E:=nf heq j0 hx aa;have pl:=Rg hS E.l2;have pr:=Rg hS E.r2;have tl:=SZ (hl j j0 hx) pl.1 aa;have tr:=SZ (hr j j0 aa) pr.1 aa;refine⟨aa,j0,hx,pl.1,aa,?_,?_,j0,aa,pr.1,aa,?_,az,hn _ ⟨ae,ae,?_⟩ ae⟩
  ·simp only[lT];omega
  ·simp only[lT];omega
  ·simp only[lT];omega
  ·try dsimp only;simp only[lT];omega
 clear hx hn;refine cp (λ(q:((ByteArray×Unit)×Unit))=>q.1.1.size<=10000) (λq hq _=>cp (λ(r:((ByteArray×Unit)×Unit))=>r.1.1.size<=10000) (λr h _=>?_) (λk hk=>aC (λ_=>hk _ ae) (λ_=>hk _ ae))) (λk hk=>aC (λ_=>hk _ ae) (λ_=>hk _ ae));simp only[lT];exact⟨aa,aa,aa,aa,dO _⟩
theorem ND(s:aB):∃q:ByteArray×Unit,ab (okL uC.args (s,()))->ab (uC.pre (s,()))->zJ s (λr=>r=q)/\ab (okR uC.rt q)/\CO s q.1:=pkb (au CV (au Nt aQ)) aR 109 Tryz.f109 uC Nj [(5,16),(9,16)] (λx K=>zJ x.1 K) (λx r=>CO x.1 r.1) (λx h1 h2=>XC x.1 h1 h2) (s,())
def MY(s:aB):ByteArray:=(ND s).choose.1
def HI:Ct:=⟨[fV],[true],λx=>[bE x.1=true],[(false,nx)],λx=>((MY x.1),()),false,none⟩
theorem Nc:aN Tryz.prog 109 HI:=ctb (au CV (au Nt aQ)) aR 109 Tryz.f109 HI Nj [(5,16),(9,16)] (λx K=>zJ x.1 K) (λx h1 h2=>((ND x.1).choose_spec h1 h2).1)
def SmS(s:aB):Prop:=s.2.1.length<=1000/\s.2.2.1.length<=1000/\s.2.2.2.1.length<=1000/\s.2.2.2.2.length<=1000
theorem Bo:SmS (0,([],([],([],[])))):=⟨ak,ak,ak,ak⟩
theorem Ua{s:aB}(h:bE s=true):SmS s:=by obtain⟨_,_,f8,tf,_,_,e8,re,_⟩:=fH h;exact⟨aa,aa,aa,aa⟩
def mO:Ct:=⟨[.str],[false],λx=>[x.1.size<=1000],[(true,Lm),(false,cA)],λ_=>dfR _,true,none⟩
def zg(text:ByteArray)(r0:aB)(r1:Int):Prop:=SmS r0
def MD:Ann:=(.s .n (.s .n (.s .n (.s .n (.j [(2,(.ad 2 [.de])),(8,(.ad 8 [.de]))] [(2,pU),(8,LF)] [0,4,7] (.s .n (.s .n (.s (.s .n (.j [(2,(.ad 2 [.de])),(8,(.ad 8 [.de])),(9,(.d (.sl .str)))] [(2,pU),(8,LF)] [0,7] .n)) (.s .n (.s (.s .n (.l U3 [(2,pU),(8,LF)] [0,9] .n)) .n))))))))))
def ahm:FuncId->Option Ct:=lkp [(19,mT),(107,CH),(106,CL),(105,HO),(104,H1),(108,Ij),(109,HI)]
def zj(text:ByteArray)(K:aB×Int×Unit->Prop):Prop:=let h:=uz text;let l:=h.getD (Int.toNat 2) ByteArray.empty;let i:=h.getD (Int.toNat 1) ByteArray.empty;ByteArray.size text<=1000000/\cnd ((h.length:Int) != 3) (K ((0,[],[],([]:List aS),([]:List aS)),6,())) (Ix 1 h.length<|ByteArray.size i<=1000000/\bZ (S:=(iw×lN)) (λa=>let u:=a.2.2.1;Iq a.2.1.1<|Ol a.2.1.2.1<|Ol a.2.1.2.2.1<|Oa aW a.2.1.2.2.2.1<|Oa aW a.2.1.2.2.2.2<|Iq u.1<|Ol u.2.1<|Ol u.2.2.1<|Oa aW u.2.2.2.1<|Oa aW u.2.2.2.2<|Ix 2 h.length<|bZ (S:=((Unit×(Unit×((List ByteArray)×Unit)))×lN)) (λb=>let w:=b.2.2.1;let v:=b.1.2.2.1.length;T.ok (.sl T.str) b.1.2.2.1->(Iq b.2.1.1<|Ol b.2.1.2.1<|Ol b.2.1.2.2.1<|Oa aW b.2.1.2.2.2.1<|Oa aW b.2.1.2.2.2.2<|Iq w.1<|Ol w.2.1<|Ol w.2.2.1<|Oa aW w.2.2.2.1<|Oa aW w.2.2.2.2<|cnd (!Nb i||decide (8<(v:Int))) (K ((0,[],[],([]:List aS),([]:List aS)),6,())) (aI (S:=(dy×lN)) (λc d=>let r:=c.1.2.2.1;let m:=b.1.2.2.1.getD r.toNat ByteArray.empty;let j:=c.2.2.1;let x:=bE j;let t:=j.2.2.2;let g:=mR m 61;let q:=g.getD (Int.toNat 1) ByteArray.empty;let p:=g.getD (Int.toNat 0) ByteArray.empty;let o:=Hk (g.getD 1 ByteArray.empty);let n:=Hk (g.getD 0 ByteArray.empty);Iq r<|Iq c.2.1.1<|Ol c.2.1.2.1<|Ol c.2.1.2.2.1<|Oa aW c.2.1.2.2.2.1<|Oa aW c.2.1.2.2.2.2<|Iq j.1<|Ol j.2.1<|Ol j.2.2.1<|Oa aW t.1<|Oa aW t.2<|cnd (decide (r<(v:Int))) (Ix r v<|ByteArray.size m<=1000000/\cnd ((g.length:Int) != 2) (K ((0,[],[],([]:List aS),([]:List aS)),6,())) (Ix 0 g.length<|ByteArray.size p<=1000000/\(Ix 1 g.length<|ByteArray.size q<=1000000/\cnd (!Hw p||!Hw q) (K ((0,[],[],([]:List aS),([]:List aS)),6,())) (aX 0 t.1.length 32/\aX t.1.length (n::([]:List aS)).length 32/\aX 0 t.2.length 32/\aX t.2.length (o::([]:List aS)).length 32/\(Ik (r+1)<|d (((),(),r+1,()),c.2.1,(j.1,j.2.1,j.2.2.1,t.1++n::([]:List aS),t.2++o::([]:List aS)),())))))) (((!x)=false->x=true)/\cnd (!x||!(ByteArray.toList (MY j)==ByteArray.toList text)) (K ((0,[],[],([]:List aS),([]:List aS)),6,())) (K (j,0,())))) (((),(),0,()),b.2.1,w,())))) (λe=>cnd (!(ByteArray.toList l==ByteArray.toList (ByteArray.mk (Array.mk ((45:UInt8)::([]:List UInt8)))))) (Ix 2 h.length<|ByteArray.size l<=1000000/\e (((),(),mR l 32,()),a.2.1,u,())) (e (((),(),([]:List ByteArray),()),a.2.1,u,())))) (λf=>Ix 0 h.length<|f (((),(),()),(0,[],[],([]:List aS),([]:List aS)),(C3 (h.getD (Int.toNat 0) ByteArray.empty),No i,N3 i,([]:List aS),([]:List aS)),())))
theorem Wo(text:ByteArray)(hok:ab (okL mO.args (text,())))(hpre:ab (mO.pre (text,()))):zj text (λr=>zg text r.1 r.2.1):=by
 simp only[mO,okL,T.oks,T.ok,ap,ab,aL,aA,bf]at hok hpre
 try dsimp only[T.den]at hok hpre
 delta zj zg Ik Iq Ix Oa Ol
 dsimp -proj -eta only;have hl:text.size<=1000:=hpre;have hP:=acm (s:=text) (by simpa only [T.oks,T.ok,ap,ab,aL,aA]using hok) aa;clear hok hpre;generalize uz text=ps at *;obtain⟨_,hps⟩:=hP;refine⟨aa,aC (λ_=>Bo) (λh3=>?_)⟩;have h3:ps.length=3:=by have:=fT.1 h3;omega
 have hsz:∀i:Int,0<=i->i<3->(ps.getD i.toNat ByteArray.empty).size<=1000:=λi i0 i1=>by have:=hps _ (cC ps ByteArray.empty i0 aa);omega
 have s1:=hsz 1 aa aa;have s2:=hsz 2 aa aa;refine⟨aa,aa,aa,cp (λ(q:(iw×lN))=>q.2.2.1.2.2.2.1=[]/\q.2.2.1.2.2.2.2=[]) (λq hq=>?_) (λk hk=>⟨aa,aa,hk _ ⟨rfl,rfl⟩⟩)⟩;intros;refine⟨aa,aa,cp (λ(q:((Unit×(Unit×((List ByteArray)×Unit)))×lN))=>(∀x∈q.1.2.2.1,x.size<=1000)/\q.2.2.1.2.2.2.1=[]/\q.2.2.1.2.2.2.2=[]) (λq hq=>?_) (λk hk=>aC (λ_=>⟨aa,aa,aa,hk _ ⟨λx hx=>?_,hq.1,hq.2⟩⟩) (λ_=>hk _ ⟨λx hx=>(by cases hx),hq.1,hq.2⟩))⟩;rotate_left
 ·have:=(JI (b:=32) (eu s2 (by rw[bO];omega)) aa (show (0:Int)<=32/\(32:Int)<=255 by omega)).2 x hx;omega
 rename_i q0 hq0;obtain⟨hw,hL,hR⟩:=hq;intros;refine aC (λ_=>Bo) (λh8=>?_);rw[gV,fS]at h8;have h8:=h8.2;generalize q.1.2.2.1=ws at *;refine aY (λ(r:rM)=>0<=r.1.2.2.1/\r.1.2.2.1<=ws.length/\(r.2.2.1.2.2.2.1.length:Int)<=r.1.2.2.1/\(r.2.2.1.2.2.2.2.length:Int)<=r.1.2.2.1) (λ(r:rM)=>(ws.length-r.1.2.2.1).toNat) ?_ ⟨ak,ak,by simp[hL],by simp[hR]⟩;rintro⟨⟨_,_,i,_⟩,r0,r,_⟩ next ⟨i0,i1,l1,l2⟩ hn
 intros
 try dsimp only at i0 i1 l1 l2 hn⊢
 refine aC (λhx=>?_) (λhx=>⟨λh=>by simpa using h,aC (λ_=>Bo) (λh=>Ua (by simp only[gV]at h;simpa using h.1))⟩);rw[cj]at hx;have hwx:=hw _ (cC ws ByteArray.empty i0 hx);generalize ws.getD i.toNat ByteArray.empty=x at *;refine⟨i0,hx,aa,aC (λ_=>Bo) (λh2=>?_)⟩;obtain⟨_,hsp⟩:=JI (s:=x) (b:=61) (eu hwx (by rw[bO];omega)) aa (show (0:Int)<=61/\(61:Int)<=255 by omega);generalize mR x 61=sd at *;have h2:=fT.1 h2;have a0:=hsp _ (cC sd ByteArray.empty (i:=0) aa aa);have a1:=hsp _ (cC sd ByteArray.empty (i:=1) aa aa);refine⟨aa,aa,aa,aa,aa,aa,aC (λ_=>Bo) (λ_=>?_)⟩;exact⟨bh aa,bh (by simp only[aH,aM];omega),bh aa,bh (by simp only[aH,aM];omega),az,hn _ ⟨ae,ae,by simp only[bj,aH,aM];omega,by simp only[bj,aH,aM];omega⟩ ae⟩
theorem Cy(text:ByteArray):∃q:aB×Int×Unit,ab (okL mO.args (text,()))->ab (mO.pre (text,()))->zj text (λr=>r=q)/\ab (okR mO.rt q)/\zg text q.1 q.2.1:=pkb (au wN (au C5 (au CE (au NB (au Ny (au NN (au Nc aQ))))))) aR 75 Tryz.f75 mO MD [(21,506),(22,506)] (λx K=>zj x.1 K) (λx r=>zg x.1 r.1 r.2.1) (λx h1 h2=>Wo x.1 h1 h2) (text,())
def wH(text:ByteArray):aB:=(Cy text).choose.1
def GM(text:ByteArray):Int:=(Cy text).choose.2.1
theorem W0(text:ByteArray)(hok:ab (okL mO.args (text,())))(hpre:ab (mO.pre (text,()))):ab (okR mO.rt (wH text,GM text,()))/\zg text (wH text) (GM text):=((Cy text).choose_spec hok hpre).2
def GY:Ct:=⟨[.str],[false],λx=>[x.1.size<=1000],[(true,Lm),(false,cA)],λx=>((wH x.1),(GM x.1),()),true,none⟩
theorem M7:aN Tryz.prog 75 GY:=ctb (au wN (au C5 (au CE (au NB (au Ny (au NN (au Nc aQ))))))) aR 75 Tryz.f75 GY MD [(21,506),(22,506)] (λx K=>zj x.1 K) (λx h1 h2=>((Cy x.1).choose_spec h1 h2).1)
theorem abv{t:ByteArray}(h:t.size<=1000):ab (T.oks fV (wH t))/\SmS (wH t):=by have h1:=W0 t (by simp only[mO,okL,T.oks,T.ok,ap,ab,aA];rw[bO];omega) ⟨h,trivial⟩;refine⟨?_,h1.2⟩;have:=h1.1;simp only[mO,okR,O.strip,T.oks,T.ok,ap,fW,ab,aA,and_assoc]at this⊢;obtain⟨a1,a2,a3,a4,a5,a6,a7,a8,a9,_⟩:=this;exact⟨a1,a2,a3,a4,a5,a6,a7,a8,a9⟩
def xM:List ByteArray:=[⟨#[49,32,124,32,48,62,48,32,124,32,64,48,97,97,61,64,48]⟩,⟨#[49,32,124,32,48,62,48,32,124,32,64,48,97,97,61,64,48,97]⟩,⟨#[50,32,124,32,48,62,49,32,124,32,45]⟩,⟨#[51,32,124,32,48,62,49,32,49,62,50,32,124,32,45]⟩,⟨#[51,32,124,32,48,62,49,32,49,62,50,32,48,62,50,32,124,32,64,48,97,98,61,64,48,99]⟩,⟨#[50,32,124,32,48,62,49,32,49,62,48,32,124,32,64,48,97,98,61,64,48]⟩,⟨#[50,32,124,32,48,62,49,32,49,62,48,32,124,32,64,48,97,98,61,64,48,32,64,49,98,97,61,64,49]⟩,⟨#[50,32,124,32,48,62,49,32,48,62,49,32,124,32,45]⟩,⟨#[49,32,124,32,48,62,48,32,124,32,64,48,97,97,97,61,64,48]⟩,⟨#[49,32,124,32,48,62,48,32,48,62,48,32,124,32,64,48,97,97,61,64,48,97,32,64,48,98,98,61,64,48,98,32,64,48,97,98,61,64,48,97,32,64,48,98,97,61,64,48,98]⟩,⟨#[50,32,124,32,48,62,49,32,49,62,49,32,124,32,64,49,98,98,61,64,49,98]⟩,⟨#[48,32,124,32,45,32,124,32,45]⟩,⟨#[50,32,124,32,45,32,124,32,45]⟩,⟨#[52,32,124,32,48,62,49,32,48,62,50,32,49,62,51,32,50,62,51,32,124,32,64,48,97,99,61,64,48,98,100]⟩,⟨#[49,32,124,32,48,62,48,32,124,32,64,48,97,97,97,97,61,64,48,97,97]⟩,⟨#[50,32,124,32,48,62,48,32,48,62,49,32,124,32,64,48,97,97,61,64,48,32,64,48,97,98,61,64,48,98]⟩,⟨#[49,32,124,32,48,62,48,32,124,32,45]⟩,⟨#[50,32,124,32,48,62,49,32,49,62,48,32,124,32,45]⟩,⟨#[49,32,124,32,48,62,48,32,48,62,48,32,124,32,64,48,97,98,61,64,48,98,97,32,64,48,97,97,61,64,48,32,64,48,98,98,61,64,48]⟩,⟨#[51,32,124,32,48,62,49,32,50,62,49,32,124,32,45]⟩]
theorem aax:xM.all (λt=>decide (t.size<=1000))=true:=bz
def jP:Wt:=⟨gE,[],[],λx y=>[bt x],λx _=>x,[(true,tM)],λ_ _=>dfR _,0⟩
def zC(s z:ba)(r0:aB):Prop:=bt z/\ab (T.oks fV r0)/\SmS r0
def Nk:FuncId->Option Ct:=lkp [(75,GY),(31,sH)]
abbrev vZ:Type:=ba->(aB×Unit)->Prop
def wV(s:ba)(K:vZ):Prop:=let b:=cL s 20;let a:=xM.getD b.toNat ByteArray.empty;0<=s.2.1/\(Ix b xM.length<|ByteArray.size a<=1000/\K (dq s 20) (wH a,()))
theorem XG(s:ba)(hok:ab (jP.o.strip.oks s))(hok2:ab (okL jP.as (())))(hpre:ab (jP.pre s (()))):wV s (λz r=>zC s z r.1):=by
 simp only[jP,O.strip,okL,T.oks,T.ok,ap,ab,aL,aA,bf]at hok hok2 hpre
 try dsimp only[T.den]at hok
 try dsimp only[T.den]at hok2
 try dsimp only[T.den]at hpre
 delta wV zC Ix
 dsimp -proj -eta only;have h1:=fI (n:=20) hpre az;have hl:((xM.length:Nat):Int)=20:=rfl;have h2:=h1.2.2.1 aa;have h3:(xM.getD (cL s 20).toNat ByteArray.empty).size<=1000:=w6 (eU.1 aax _ (cC xM ByteArray.empty h1.2.1 aa));exact⟨hpre.2,h1.2.1,aa,h3,h1.1,abv h3⟩
theorem CK(s:ba):∃q:ba×(aB×Unit),ab (jP.o.strip.oks s)->ab (okL jP.as (()))->ab (jP.pre s (()))->wV s (λz r=>z=q.1/\r=q.2)/\ab (jP.o.strip.oks q.1)/\ab (okR jP.rt q.2)/\zC s q.1 q.2.1:=pkw (au M7 (au iB aQ)) aR 53 Tryz.f53 jP .n [] lU (λx y K=>wV x K) (λx y z r=>zC x z r.1) (λx y h1 h2 h3=>XG x h1 h2 h3) s (())
def wQ(s:ba):ba:=(CK s).choose.1
def ux(s:ba):aB:=(CK s).choose.2.1
theorem Xe(s:ba)(hok:ab (jP.o.strip.oks s))(hok2:ab (okL jP.as (())))(hpre:ab (jP.pre s (()))):ab (jP.o.strip.oks (wQ s))/\ab (okR jP.rt (ux s,()))/\zC s (wQ s) (ux s):=((CK s).choose_spec hok hok2 hpre).2
def zy:Wt:=⟨gE,[],[],λx y=>[bt x],λx y=>(wQ x),[(true,tM)],λx y=>((ux x),()),0⟩
def NF:Ct:=iO zy
theorem WK(x:zy.o.strip.den)(y:bo zy.as)(K:vZ):kP tab Nk (fN []) Tryz.f53 (fa Tryz.f53) .n zy x y K=wV x K:=by kernel_rfl
theorem Nf:aN Tryz.prog 53 NF:=Fp (Φ:=Nk) (au M7 (au iB aQ)) aR (by kernel_rfl) (fn:=Tryz.f53) (c:=fa Tryz.f53) (by kernel_rfl) (by kernel_rfl) (by kernel_rfl) zy .n (fN []) (by kernel_rfl) bz (by kernel_rfl) (by kernel_rfl) bz (by kernel_rfl) (λx y K=>wV x K) (WK) (λx y h1 h2 h3=>((CK x).choose_spec h1 h2 h3).1)
theorem ab1{s:ba}(h:bt s):bt (wQ s)/\ab (T.oks fV (ux s))/\SmS (ux s):=(Xe s h.1 (by simp only[jP,okL,ab]) ⟨h,trivial⟩).2.2
theorem aem(c:aF):SmS (soR c).1:=by
 unfold soR;split
 ·split
  ·split
   ·rename_i h;exact Ua h
   ·exact⟨dO _,dO _,dO _,dO _⟩
  ·exact⟨dO _,dO _,dO _,dO _⟩
 ·exact⟨dO _,dO _,dO _,dO _⟩
def jp:Wt:=⟨gE,[],[],λx y=>[bt x],λx _=>x,[(true,tM)],λ_ _=>dfR _,0⟩
def zY(s z:ba)(r0:aB):Prop:=bt z/\r0.2.2.2.1.length<=2000
def HL:Ann:=(.s .n (.s .n (.s (.s .n (.j yc xT [] (.s (.s .n (.s .n (.s .n (.j yc xT [] .n)))) .n))) (.s (.s .n (.s .n (.j yc xT [] (.s .n (.s .n (.j yc xT [] (.s .n (.s .n (.j yc xT [] .n))))))))) .n))))
def NC:FuncId->Option Ct:=lkp [(55,mU),(31,sH),(46,lu),(56,Il),(54,NY),(53,NF)]
def xc(s:ba)(K:vZ):Prop:=let r:=wQ s;let m:=dq r 4;let a3:=zH m 4 9;let x:=soR (sx m 4 9);bt s/\0<=r.2.1/\bZ (S:=nH) (λa=>let p:=a.2.2.1;let o:=cL a.2.1 40;let n:=a.2.2.2.1;let y:=n.2.2.2;let l:=dq a.2.1 40;let q:=cL l 3;Oa dK a.2.1.1<|Iq a.2.1.2.1<|inK .u64 a.2.1.2.2->(Iq p.1<|Ol p.2.1<|Ol p.2.2.1<|Oa aW p.2.2.2.1<|Oa aW p.2.2.2.2<|Iq n.1<|Ol n.2.1<|Ol n.2.2.1<|Oa aW y.1<|Oa aW y.2<|0<=a.2.1.2.1/\bZ (S:=nH) (λb=>let a2:=b.2.2.1.2;let t:=b.2.2.2.1;Oa dK b.2.1.1<|Iq b.2.1.2.1<|inK .u64 b.2.1.2.2->(Iq b.2.2.1.1<|Ol a2.1<|Ol a2.2.1<|Oa aW a2.2.2.1<|Oa aW a2.2.2.2<|Iq t.1<|Ol t.2.1<|Ol t.2.2.1<|Oa aW t.2.2.2.1<|Oa aW t.2.2.2.2<|K b.2.1 (t,()))) (λc=>cnd (o==0) (bt l/\1<=[-1,9,0].length/\c (((),(),(),()),wS l [-1,9,0],p,(wP l [-1,9,0],n.2),())) (bZ (S:=nH) (λd=>let z:=d.2.2.1;let u:=d.2.2.2.1;Oa dK d.2.1.1<|Iq d.2.1.2.1<|inK .u64 d.2.1.2.2->(Iq z.1<|Ol z.2.1<|Ol z.2.2.1<|Oa aW z.2.2.2.1<|Oa aW z.2.2.2.2<|Iq u.1<|Ol u.2.1<|Ol u.2.2.1<|Oa aW u.2.2.2.1<|Oa aW u.2.2.2.2<|c (((),(),(),()),d.2.1,z,u,()))) (λe=>cnd (o==1) (n.2.1.length<=1099511627776/\aX n.2.1.length [0].length 8/\e (((),(),(),()),l,p,(n.1,n.2.1++[0],n.2.2),())) (bZ (S:=nH) (λf=>let a0:=f.2.2.1;let v:=f.2.2.2.1;Oa dK f.2.1.1<|Iq f.2.1.2.1<|inK .u64 f.2.1.2.2->(Iq a0.1<|Ol a0.2.1<|Ol a0.2.2.1<|Oa aW a0.2.2.2.1<|Oa aW a0.2.2.2.2<|Iq v.1<|Ol v.2.1<|Ol v.2.2.1<|Oa aW v.2.2.2.1<|Oa aW v.2.2.2.2<|e (((),(),(),()),f.2.1,a0,v,()))) (λg=>cnd (o==2) (aX 0 y.1.length 32/\0<=l.2.1/\(Ik (q-1)<|aX y.1.length ((q-1,[])::([]:List aS)).length 32/\g (((),(),(),()),dq l 3,p,(n.1,n.2.1,n.2.2.1,y.1++(q-1,[])::([]:List aS),y.2),()))) (g (((),(),(),()),l,p,n,()))))))))) (λh=>cnd (cL r 4==0) (bt m/\(1:Int)<=4/\(4:Int)<=8/\(1:Int)<=9/\(9:Int)<=40/\bZ (S:=nH) (λi=>let a1:=i.2.2.1;let w:=i.2.2.2.1;Oa dK i.2.1.1<|Iq i.2.1.2.1<|inK .u64 i.2.1.2.2->(Iq a1.1<|Ol a1.2.1<|Ol a1.2.2.1<|Oa aW a1.2.2.2.1<|Oa aW a1.2.2.2.2<|Iq w.1<|Ol w.2.1<|Ol w.2.2.1<|Oa aW w.2.2.2.1<|Oa aW w.2.2.2.2<|h (((),(),(),()),i.2.1,a1,w,()))) (λj=>cnd (x.2==0) (j (((),(),(),()),a3,(0,[],[],([]:List aS),([]:List aS)),x.1,())) (j (((),(),(),()),a3,(0,[],[],([]:List aS),([]:List aS)),ux s,())))) (h (((),(),(),()),m,(0,[],[],([]:List aS),([]:List aS)),ux s,())))
theorem XV(s:ba)(hok:ab (jp.o.strip.oks s))(hok2:ab (okL jp.as (())))(hpre:ab (jp.pre s (()))):xc s (λz r=>zY s z r.1):=by
 simp only[jp,O.strip,okL,T.oks,T.ok,ap,ab,aL,aA,bf]at hok hok2 hpre
 try dsimp only[T.den]at hok
 try dsimp only[T.den]at hok2
 try dsimp only[T.den]at hpre
 delta xc zY Ik Iq Oa Ol
 dsimp -proj -eta only;have hS:bt s:=hpre;obtain⟨k1,k2,k3⟩:=ab1 hS;have n4:=fI (n:=4) k1 az;refine⟨hS,k1.2,cp (λ(q:nH)=>bt q.2.1/\SmS q.2.2.2.1) (λq hq=>?_) (λk hk=>aC (λ_=>?_) (λ_=>hk _ ⟨n4.1,k3⟩))⟩
 ·obtain⟨⟨_,_,_,_⟩,src,z0,out,_⟩:=q;obtain⟨hs,hm⟩:=hq;intros
  try dsimp only at hs hm⊢
  have n40:=fI (n:=40) hs az;have n3:=fI (n:=3) n40.1 az;have n3':=n3.2.2.1 aa;have n30:=n3.2.1;obtain⟨m1,m2,m3,m4⟩:=hm;refine⟨hs.2,cp (λ(q:nH)=>bt q.2.1/\q.2.2.2.1.2.2.2.1.length<=2000) (λq hq=>by intros;exact hq) (λk hk=>?_)⟩;refine aC (λ_=>⟨n40.1,ak,hk _ ⟨?_,ae⟩⟩) (λ_=>cp (λ(q:nH)=>bt q.2.1/\q.2.2.2.1.2.2.2.1.length<=2000) (λq hq=>by intros;exact hk _ hq) (λk1 hk1=>aC (λ_=>⟨aa,bh (by simp only[aH,aM];omega),hk1 _ ⟨n40.1,ae⟩⟩) (λ_=>cp (λ(q:nH)=>bt q.2.1/\q.2.2.2.1.2.2.2.1.length<=2000) (λq hq=>by intros;exact hk1 _ hq) (λk2 hk2=>aC (λ_=>⟨bh aa,n40.1.2,az,bh (by simp only[aH,aM];omega),hk2 _ ⟨n3.1,by simp only[bj,aH,aM];omega⟩⟩) (λ_=>hk2 _ ⟨n40.1,ae⟩)))));exact (Tg n40.1 (by simp[T.oks,T.ok,ab,cf,bO]) ak).1
 ·have hs:=(afb (s:=dq (wQ s) 4) (a:=4) (b:=9) n4.1 aa aa aa aa).1;exact⟨n4.1,aa,aa,aa,aa,cp (λ(q:nH)=>bt q.2.1/\SmS q.2.2.2.1) (λq hq=>by intros;exact hk _ hq) (λk1 hk1=>aC (λ_=>hk1 _ ⟨hs,aem _⟩) (λ_=>hk1 _ ⟨hs,k3⟩))⟩
theorem Dc(s:ba):∃q:ba×(aB×Unit),ab (jp.o.strip.oks s)->ab (okL jp.as (()))->ab (jp.pre s (()))->xc s (λz r=>z=q.1/\r=q.2)/\ab (jp.o.strip.oks q.1)/\ab (okR jp.rt q.2)/\zY s q.1 q.2.1:=pkw (au Nd (au iB (au jo (au CM (au NG (au Nf aQ)))))) aR 30 Tryz.f30 jp HL [] lU (λx y K=>xc x K) (λx y z r=>zY x z r.1) (λx y h1 h2 h3=>XV x h1 h2 h3) s (())
def wR(s:ba):ba:=(Dc s).choose.1
def uD(s:ba):aB:=(Dc s).choose.2.1
theorem Yb(s:ba)(hok:ab (jp.o.strip.oks s))(hok2:ab (okL jp.as (())))(hpre:ab (jp.pre s (()))):ab (jp.o.strip.oks (wR s))/\ab (okR jp.rt (uD s,()))/\zY s (wR s) (uD s):=((Dc s).choose_spec hok hok2 hpre).2
def zD:Wt:=⟨gE,[],[],λx y=>[bt x],λx y=>(wR x),[(true,tM)],λx y=>((uD x),()),0⟩
def NT:Ct:=iO zD
theorem Xv(x:zD.o.strip.den)(y:bo zD.as)(K:vZ):kP tab NC (fN []) Tryz.f30 (fa Tryz.f30) HL zD x y K=xc x K:=by kernel_rfl
theorem NM:aN Tryz.prog 30 NT:=Fp (Φ:=NC) (au Nd (au iB (au jo (au CM (au NG (au Nf aQ)))))) aR (by kernel_rfl) (fn:=Tryz.f30) (c:=fa Tryz.f30) (by kernel_rfl) (by kernel_rfl) (by kernel_rfl) zD HL (fN []) (by kernel_rfl) bz (by kernel_rfl) (by kernel_rfl) bz (by kernel_rfl) (λx y K=>xc x K) (Xv) (λx y h1 h2 h3=>((Dc x).choose_spec h1 h2 h3).1)
theorem abm{s:ba}(h:bt s):bt (wR s)/\ab (T.oks fV (uD s))/\(uD s).2.2.2.1.length<=2000:=by have h1:=Yb s h.1 (by simp only[jp,okL,ab]) ⟨h,trivial⟩;refine⟨h1.2.2.1,?_,h1.2.2.2⟩;have:=h1.2.1;simp only[jp,okR,O.strip,fW,ab,aA]at this;exact this
def ph:Wt:=⟨gE,[],[],λx y=>[bt x],λx _=>x,[(true,tM)],λ_ _=>dfR _,0⟩
def CD(s z:ba)(r0:aB):Prop:=bt z
def Hj:Ann:=(.s .n (.s .n (.s (.s .n (.j yc xT [] .n)) .n)))
def MX:FuncId->Option Ct:=lkp [(31,sH),(32,NZ),(30,NT)]
def wO(s:ba)(K:vZ):Prop:=let m:=wR s;let f:=dq m 3;let d:=uD s;let h:=cL f (d.2.2.2.1.length:Int);let c:=dq f (d.2.2.2.1.length:Int);let j:=dq c 3;let i:=cL c 3;let g:=dq j 8;let e:=Int.tdiv (cL j 8) 7;bt s/\0<=m.2.1/\bZ (S:=nH) (λa=>let n:=a.2.2.1.2;let l:=a.2.2.2.1;Oa dK a.2.1.1<|Iq a.2.1.2.1<|inK .u64 a.2.1.2.2->(Iq a.2.2.1.1<|Ol n.1<|Ol n.2.1<|Oa aW n.2.2.1<|Oa aW n.2.2.2<|Iq l.1<|Ol l.2.1<|Ol l.2.2.1<|Oa aW l.2.2.2.1<|Oa aW l.2.2.2.2<|K a.2.1 (l,()))) (λb=>cnd (cL m 3==0&&decide (0<(d.2.2.2.1.length:Int))&&decide (0<(d.2.2.2.2.length:Int))) (aX 0 d.2.2.2.1.length 32/\0<=f.2.1/\0<=c.2.1/\0<=j.2.1/\(7:Int)≠0/\(Ik e<|Ik (i-e)<|bt g/\(Ix h d.2.2.2.1.length<|b (((),(),(),()),zR g d (i-e),(0,[],[],([]:List aS),([]:List aS)),(d.1,d.2.1,d.2.2.1,List.set d.2.2.2.1 h.toNat (CJ g d (i-e)),d.2.2.2.2),())))) (b (((),(),(),()),f,(0,[],[],([]:List aS),([]:List aS)),d,())))
theorem W8(s:ba)(hok:ab (ph.o.strip.oks s))(hok2:ab (okL ph.as (())))(hpre:ab (ph.pre s (()))):wO s (λz r=>CD s z r.1):=by
 simp only[ph,O.strip,okL,T.oks,T.ok,ap,ab,aL,aA,bf]at hok hok2 hpre
 try dsimp only[T.den]at hok
 try dsimp only[T.den]at hok2
 try dsimp only[T.den]at hpre
 delta wO CD Ik Iq Ix Oa Ol
 dsimp -proj -eta only;have hS:bt s:=hpre;obtain⟨d1,d2,d3⟩:=abm hS;generalize wR s=z1 at *;generalize uD s=out at *;have n3:=fI (n:=3) d1 az;generalize dq z1 3=z2 at *;generalize cL z1 3=r2 at *;have nL:=fI (n:=out.2.2.2.1.length) n3.1 az;generalize dq z2 ((out.2.2.2.1.length:Nat):Int)=z3 at *;generalize cL z2 ((out.2.2.2.1.length:Nat):Int)=r3 at *;have m3:=fI (n:=3) nL.1 az;generalize dq z3 3=z4 at *;generalize cL z3 3=r4 at *;have m8:=fI (n:=8) m3.1 az;generalize dq z4 8=z5 at *;generalize cL z4 8=r5 at *;have a1:=m3.2.1;have a2:=m3.2.2.1 aa;have b1:=m8.2.1;have b2:=m8.2.2.1 aa;have ht:Int.tdiv r5 7=r5 / 7:=Cq b1;rw[ht];have hx:inK .i64 (r4-r5 / 7):=az
 refine⟨hS,d1.2,cp (λ(q:nH)=>bt q.2.1) (λq hq=>by intros;exact hq) (λk hk=>aC (λhc=>?_) (λ_=>hk _ n3.1))⟩;rw[ao,ao,cj,cj]at hc;have l1:=nL.2.2.1 aa;exact⟨bh aa,n3.1.2,nL.1.2,m3.1.2,aa,az,hx,m8.1,nL.2.1,l1,hk _ (afj m8.1 d2 hx)⟩
theorem Hn(s:ba):∃q:ba×(aB×Unit),ab (ph.o.strip.oks s)->ab (okL ph.as (()))->ab (ph.pre s (()))->wO s (λz r=>z=q.1/\r=q.2)/\ab (ph.o.strip.oks q.1)/\ab (okR ph.rt q.2)/\CD s q.1 q.2.1:=pkw (au iB (au NW (au NM aQ))) aR 14 Tryz.f14 ph Hj [(5,40006)] lU (λx y K=>wO x K) (λx y z r=>CD x z r.1) (λx y h1 h2 h3=>W8 x h1 h2 h3) s (())
def WG(s:ba):ba:=(Hn s).choose.1
def MI(s:ba):aB:=(Hn s).choose.2.1
def zt:Wt:=⟨gE,[],[],λx y=>[bt x],λx y=>(WG x),[(true,tM)],λx y=>((MI x),()),0⟩
def Ni:Ct:=iO zt
theorem WI(x:zt.o.strip.den)(y:bo zt.as)(K:vZ):kP tab MX (fN [(5,40006)]) Tryz.f14 (fa Tryz.f14) Hj zt x y K=wO x K:=by kernel_rfl
theorem MZ:aN Tryz.prog 14 Ni:=Fp (Φ:=MX) (au iB (au NW (au NM aQ))) aR (by kernel_rfl) (fn:=Tryz.f14) (c:=fa Tryz.f14) (by kernel_rfl) (by kernel_rfl) (by kernel_rfl) zt Hj (fN [(5,40006)]) (by kernel_rfl) bz (by kernel_rfl) (by kernel_rfl) bz (by kernel_rfl) (λx y K=>wO x K) (WI) (λx y h1 h2 h3=>((Hn x).choose_spec h1 h2 h3).1)
def ur:Ct:=⟨[dK],[false],λx=>[],[(true,tM)],λ_=>dfR _,true,none⟩
def Cr(code:aw)(r0:aB):Prop:=0<=r0.2.1.length
def ag5:FuncId->Option Ct:=lkp [(15,Ip),(14,Ni)]
def zc(code:aw)(K:aB×Unit->Prop):Prop:=let a:=zz code;bt a/\K (MI a,())
theorem Vb(code:aw)(hok:ab (okL ur.args (code,())))(hpre:ab (ur.pre (code,()))):zc code (λr=>Cr code r.1):=by
 simp only[ur,okL,T.oks,T.ok,ap,ab,aL,aA,bf]at hok hpre
 try dsimp only[T.den]at hok hpre
 delta zc Cr
 dsimp -proj -eta only;exact⟨aer (code:=code) (by simpa only [T.oks,T.ok,ap,ab,aL,aA,bf]using hok),dO _⟩
theorem Mj(code:aw):∃q:aB×Unit,ab (okL ur.args (code,()))->ab (ur.pre (code,()))->zc code (λr=>r=q)/\ab (okR ur.rt q)/\Cr code q.1:=pkb (au NJ (au MZ aQ)) aR 5 Tryz.f5 ur .n [] (λx K=>zc x.1 K) (λx r=>Cr x.1 r.1) (λx h1 h2=>Vb x.1 h1 h2) (code,())
def Gv(code:aw):aB:=(Mj code).choose.1
def Gy:Ct:=⟨[dK],[false],λx=>[],[(true,tM)],λx=>((Gv x.1),()),true,none⟩
theorem UV:aN Tryz.prog 5 Gy:=ctb (au NJ (au MZ aQ)) aR 5 Tryz.f5 Gy .n [] (λx K=>zc x.1 K) (λx h1 h2=>((Mj x.1).choose_spec h1 h2).1)
end
end Go.Bm
