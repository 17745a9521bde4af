/- What the functions that FnSchemaCategories reaches give: for each its contract, what it asks, and the proof. No condition. -/
import Derived.Test.YtpmjngfhnebmaaaGreatDoorFnSchemaCategoriesFnsA
set_option linter.unusedVariables false
set_option linter.unusedSimpArgs false
namespace Go.Bm
open Go.Proofs
set_option maxRecDepth 100000
set_option maxHeartbeats 1000000
abbrev Gn:=@List.pairwise_append
abbrev Gp:=@List.pairwise_singleton
abbrev wh:=@List.take_length
abbrev Ch:=@Array.size_push
noncomputable section
abbrev yA:Type:=Int->Int->Int
variable {A:aT}{F:yA}{K k:cF}{L l:bg}{W w:aK}{a b e f i nd x y:Int}{c code es j:aw}{n:Nat}{o:Obj}{old u:bm}{p q r:aO}{s:aB}{t:uK}{ta:Addr}{us:aJ}
theorem pm(s:aB):∀(nd:Int)(a b:aw),ca s nd (a++b)=if (ca s nd a).2=true then ca s (ca s nd a).1 b else (0,false)
 |nd,[],b=>by simp only[rQ,ca,eX]
 |nd,e::r,b=>by
  simp only[oT,ca];split
  ·exact pm s _ r b
  ·simp
theorem ZD{a m m' b:aw}(h:(ca s nd (a++m++b)).2=true)(hm:(ca s (ca s nd a).1 m').2=true)(he:(ca s (ca s nd a).1 m').1=(ca s (ca s nd a).1 m).1):
  ca s nd (a++m'++b)=ca s nd (a++m++b):=by
 rw[pm,pm]at h⊢;rw[pm s nd (a++m) b,pm s nd a m];by_cases h1:(ca s nd a).2=true
 ·rw[am h1]at h⊢;rw[am h1];by_cases h2:(ca s (ca s nd a).1 m).2=true
  ·rw[am h2,am hm,he]
  ·rw[ai h2]at h;cases h
 ·rw[ai h1]at h;rw[ai ak]at h;cases h
theorem iU(h:(aV s p).2=true):inR p.1 0 (s.1-1)=true/\p.2.length<=6/\aV s p=ca s p.1 p.2:=by
 unfold aV at h⊢;split at h
 ·rename_i hc;rw[am hc];exact⟨hc.1,hc.2,rfl⟩
 ·cases h
theorem xJ(h1:inR p.1 0 (s.1-1)=true)(h2:p.2.length<=6):aV s p=ca s p.1 p.2:=by unfold aV;rw[am ⟨h1,h2⟩]
structure EqnP (s:aB) (l r:aO):Prop where
 l2:(aV s l).2=true
 r2:(aV s r).2=true
 st:l.1=r.1
 en:(aV s l).1=(aV s r).1
theorem nf{s:aB}:∀{a b:bg},kI s a b=true->∀{i:Int},0<=i->i<a.length->i<b.length->EqnP s (a.getD i.toNat (0,[])) (b.getD i.toNat (0,[]))
 |[],_,_,i,h0,h1,_|_::_,[],_,i,h0,_,h1=>by simp at h1;omega
 |p::l,q::r,h,i,h0,h1,h2=>by
  simp only[kI,F3,ao,cj]at h;obtain⟨⟨⟨⟨a1,a2⟩,a3⟩,a4⟩,hr⟩:=h;by_cases e:i=0
  ·subst e;exact⟨a1,a2,a3,a4⟩
  ·have e1:i.toNat=(i-1).toNat+1:=aa
   simp only[aH]at h1 h2;have:=nf hr (i:=i-1) aa aa aa;rw[e1];simpa using this
theorem fH(h:bE s=true):0<=s.1/\s.1<=8/\s.2.1.length<=8/\s.2.2.1.length=s.2.1.length/\bD s.2.1 s.1=true/\bD s.2.2.1 s.1=true/\s.2.2.2.1.length<=8/\s.2.2.2.2.length=s.2.2.2.1.length/\kI s s.2.2.2.1 s.2.2.2.2=true:=by unfold bE at h;simp only[ao,cj]at h;obtain⟨⟨⟨⟨⟨⟨⟨h1,h2⟩,h3⟩,h4⟩,h5⟩,h6⟩,h7⟩,h8⟩:=h;obtain⟨h1,h1'⟩:=iD.1 h1;exact⟨h1,h1',h2,h3,h4,h5,h6,h7,h8⟩
theorem Zr(h:(ca s p.1 p.2).2=true)(i0:0<=i)(i1:i<=p.2.length):(ca s p.1 (p.2.take i.toNat)).2=true/\oF s p i=(ca s p.1 (p.2.take i.toNat)).1:=by
 have h2:(ca s p.1 (p.2.take i.toNat)).2=true:=by
  have e:=kx i.toNat p.2;rw[←e,pm]at h;by_cases hh:(ca s p.1 (p.2.take i.toNat)).2=true
  ·exact hh
  ·rw[ai hh]at h;cases h
 refine⟨h2,?_⟩;rw[IF s _ _ h2,ez];unfold oF;by_cases e:i=0
 ·subst e;simp
 ·rw[ai e,ai aa];have:(p.2.take i.toNat).getD (min i.toNat p.2.length-1) 0=p.2.getD (i-1).toNat 0:=by rw[show min i.toNat p.2.length-1=(i-1).toNat from by omega];simp only[bN];rw[rU aa]
  rw[this]
theorem xN{l:aO}(hp:(aV s p).2=true)(E:EqnP s l r)(i0:0<=i)(i1:i<=p.2.length)(hh:kO s p l i=true)(h6:(gl p l r i).length<=6):
  (aV s (p.1,gl p l r i)).2=true/\(aV s (p.1,gl p l r i)).1=(aV s p).1:=by
 obtain⟨a1,a2,a3⟩:=iU hp;rw[a3]at hp;unfold kO at hh;simp only[ao,cj,cR,gi]at hh;obtain⟨⟨h1,h2⟩,h3⟩:=hh;obtain⟨n1,n2⟩:=Zr hp i0 i1;obtain⟨_,_,l3⟩:=iU E.l2;obtain⟨_,_,r3⟩:=iU E.r2
 have hsplit:p.2=p.2.take i.toNat++l.2++p.2.drop (i+l.2.length).toNat:=by
  have e1:p.2.take (i+l.2.length).toNat=p.2.take i.toNat++l.2:=by have:=kx i.toNat (p.2.take (i+l.2.length).toNat);rw[h3,List.take_take,yM aa]at this;exact this.symm
  rw[←e1,kx]
 have hl2:=E.l2;have hr2:=E.r2;have hen:=E.en;rw[l3]at hl2 hen;rw[r3]at hr2 hen;rw[←E.st,←h1,n2]at hr2 hen;rw[←h1,n2]at hl2;have key:ca s p.1 (gl p l r i)=ca s p.1 p.2:=by have:=ZD (s:=s) (nd:=p.1) (a:=p.2.take i.toNat) (m:=l.2) (m':=r.2) (b:=p.2.drop (i+l.2.length).toNat) (by rw[←hsplit];exact hp) hr2 hen.symm;rw[←hsplit]at this;exact this
 rw[xJ (p:=(p.1,gl p l r i)) a1 h6,a3];dsimp only;rw[key];exact⟨hp,rfl⟩
theorem EG{α:Type}{f:Int->α}{R:α->α->Prop}:∀{n:Nat},(∀i j:Int,0<=i->i<j->j<n->R (f i) (f j))->(be n f).Pairwise R
 |0,_=>by simp only[be];exact List.Pairwise.nil
 |n+1,h=>by unfold be;rw[Gn];refine⟨EG λi j h0 h1 h2=>h i j h0 h1 aa,Gp _ _,λa ha b hb=>?_⟩;rw[cP]at hb;obtain⟨i,i0,i1,rfl⟩:=ij.1 ha;rw[hb];exact h i n i0 i1 aa
structure GroP (s:aB) (k:Nat) (l:bg):Prop where
 nd:l.Nodup
 le:l.length<=400
 cl:∀j,j<k->(l.getD j (0,[])).2.length≠6->∀q∈dx s (l.getD j (0,[])) s.2.1.length,q∈l
 pa:∀q∈l,q.2≠[]->∃j,j<k/\l.getD j (0,[])=(q.1,q.2.dropLast)
 ok:∀q∈l,(aV s q).2=true
theorem ZT:(dx s p n).Nodup:=by unfold dx List.Nodup;rw[Cf];refine List.Pairwise.filter _ (EG λi j _ h _ e=>?_);have:=congrArg Prod.snd e;simp only[List.append_cancel_left_eq,bH,aA]at this;omega
theorem xD{r:bg}{j:Nat}(h:j<l.length):(l++r).getD j (0,[])=l.getD j (0,[]):=by simp only[bN];rw[g9 h]
theorem xC(h:l.Nodup){i j:Nat}(hi:i<l.length)(hj:j<l.length)(e:l.getD i (0,[])=l.getD j (0,[])):i=j:=by simp only[bN,bX hi,bX hj,dY]at e;exact (List.getElem_inj h).1 e
theorem kC(h:p∈l):∃i,i<l.length/\l.getD i (0,[])=p:=by obtain⟨i,hi,e⟩:=mL h;exact⟨i,hi,by simp only[bN,bX hi,dY];exact e⟩
theorem gA{i:Nat}(h:i<l.length):l.getD i (0,[])∈l:=by simp only[bN,bX h,dY];exact rS h
theorem afh{k:Nat}(G:GroP s k l)(h6:(l.getD k (0,[])).2.length=6):GroP s (k+1) l:={
 nd:=G.nd
 le:=G.le
 cl:=λj hj h q hq=>by
  by_cases e:j=k
  ·subst e;exact absurd h6 h
  ·exact G.cl j aa h q hq
 pa:=λq hq h=>by obtain⟨j,h1,h2⟩:=G.pa q hq h;exact⟨j,aa,h2⟩
 ok:=G.ok }
theorem Kw:q∈dx s p n<->∃e:Int,0<=e/\e<n/\s.2.1.getD e.toNat 0=dF s p/\q=(p.1,p.2++[e]):=by
 unfold dx;rw[jJ];constructor
 ·rintro⟨e,he,rfl⟩;obtain⟨he,hb⟩:=we.1 he;obtain⟨_,h0,h1,rfl⟩:=ij.1 he;exact⟨_,h0,h1,iT hb,rfl⟩
 ·rintro⟨e,h0,h1,h2,rfl⟩;exact⟨e,we.2 ⟨ij.2 ⟨e,h0,h1,rfl⟩,cR.2 h2⟩,rfl⟩
theorem af8{k:Nat}(G:GroP s k l)(hk:k<l.length)(h6:(l.getD k (0,[])).2.length≠6)(hl:(l++dx s (l.getD k (0,[])) s.2.1.length).length<=400):GroP s (k+1) (l++dx s (l.getD k (0,[])) s.2.1.length):={
 nd:=by unfold List.Nodup;rw[Gn];refine⟨G.nd,ZT,λa ha b hb e=>?_⟩;subst e;obtain⟨e,_,_,_,rfl⟩:=Kw.1 hb;obtain⟨j,h1,h2⟩:=G.pa _ ha ak;simp only[List.dropLast_concat]at h2;have:=xC G.nd aa hk h2;omega
 le:=hl
 cl:=λj hj h q hq=>by
  by_cases e:j=k
  ·subst e;rw[xD hk]at hq;exact oU _ hq
  ·rw[xD aa]at h hq;exact jH _ (G.cl j aa h q hq)
 pa:=λq hq h=>by
  rcases dN.1 hq with hq|hq
  ·obtain⟨j,h1,h2⟩:=G.pa q hq h;exact⟨j,aa,by rw[xD aa];exact h2⟩
  ·obtain⟨e,_,_,_,rfl⟩:=Kw.1 hq;refine⟨k,aa,?_⟩;rw[xD hk,List.dropLast_concat]
 ok:=λq hq=>by
  rcases dN.1 hq with hq|hq
  ·exact G.ok q hq
  ·exact JP (G.ok _ (gA hk)) h6 (aZ _) hq }
theorem Ku{s:aB}:∀(u k:Nat)(l:bg),402<=u+k->k<=l.length->GroP s k l->(dC s u k l).2=true->GroP s (dC s u k l).1.length (dC s u k l).1/\∃r,(dC s u k l).1=l++r
 |0,k,l,h,hk,G,_=>by have:=G.le;omega
 |u+1,k,l,h,hk,G,hg=>by
  rw[dC]at hg⊢;by_cases hl:k<l.length
  ·rw[am hl]at hg⊢;by_cases h6:(l.getD k (0,[])).2.length=6
   ·rw[am h6]at hg⊢;exact Ku u (k+1) l aa aa (afh G h6) hg
   ·rw[ai h6]at hg⊢;by_cases h4:400<(l++dx s (l.getD k (0,[])) s.2.1.length).length
    ·rw[am h4]at hg;cases hg
    ·rw[ai h4]at hg⊢;obtain⟨a,r,b⟩:=Ku u (k+1) _ aa (by rw[bj];omega) (af8 G hl h6 aa) hg;exact⟨a,_,by rw[b,eP]⟩
  ·rw[ai hl];have:k=l.length:=aa
   subst this;exact⟨G,[],ak⟩
theorem af9(h0:0<=s.1)(h4:s.1<=400):GroP s 0 (dE s.1):={
 nd:=by unfold dE List.Nodup;refine EG λi j _ h _ e=>?_;have:=congrArg Prod.fst e;simp only at this;omega
 le:=by unfold dE;rw[bG];omega
 cl:=λj hj=>aa
 pa:=λq hq h=>by unfold dE at hq;obtain⟨e,_,_,rfl⟩:=ij.1 hq;exact absurd rfl h
 ok:=λq hq=>by unfold dE at hq;obtain⟨e,e0,e1,rfl⟩:=ij.1 hq;exact Az e0 aa }
structure ShrtP (s:aB) (L:bg):Prop where
 nd:L.Nodup
 le:L.length<=400
 ok:∀q∈L,(aV s q).2=true
 all:∀q,(aV s q).2=true->q∈L
 st:∀i:Nat,i<s.1.toNat->L.getD i (0,[])=((i:Int),[])
 ne:s.1.toNat<=L.length
theorem abu(h:(aV s (x,es++[e])).2=true):(aV s (x,es)).2=true/\es.length≠6/\0<=e/\e<s.2.1.length/\s.2.1.getD e.toNat 0=(aV s (x,es)).1:=by
 obtain⟨a1,a2,a3⟩:=iU h;rw[a3]at h;simp only[bj,aH,aM]at a2;have e1:=xJ (s:=s) (p:=(x,es)) a1 ae;rw[e1];dsimp only at h a1 e1⊢;rw[pm]at h;by_cases h1:(ca s x es).2=true
 ·rw[am h1]at h;simp only[ca]at h;split at h
  ·rename_i hc;obtain⟨q1,q2⟩:=iD.1 hc.1;exact⟨h1,aa,q1,aa,hc.2⟩
  ·cases h
 ·rw[ai h1]at h;cases h
theorem vh(h0:0<=s.1)(h4:s.1<=400)(h:(bI s).2=true):ShrtP s (bI s).1:=by
 unfold bI at h⊢;obtain⟨G,r,hr⟩:=Ku 402 0 (dE s.1) aa aa (af9 h0 h4) h;generalize (dC s 402 0 (dE s.1)).1=L at *;have hsl:(dE s.1).length=s.1.toNat:=bG _;refine⟨G.nd,G.le,G.ok,?_,λi hi=>?_,by rw[hr,bj];omega⟩
 ·rintro⟨x,es⟩ hq
  have key:∀(n:Nat)(es:aw),es.length=n->(aV s (x,es)).2=true->(x,es)∈L:=by
   intro n
   induction n with
   |zero=>intro es hn hq;have:=iS hn;subst this;obtain⟨a1,_,_⟩:=iU hq;obtain⟨b1,b2⟩:=iD.1 a1;rw[hr];refine jH _ ?_;unfold dE;dsimp only at b1 b2;exact ij.2 ⟨x,b1,aa,rfl⟩
   |succ n ih=>
    intro es hn hq;have hne:es≠[]:=λe=>by subst e;simp at hn
    have hsp:=List.dropLast_concat_getLast hne;generalize es.getLast hne=e at hsp;generalize es.dropLast=fs at hsp;subst hsp;simp only[bj,aH,aM]at hn;obtain⟨c1,c2,c3,c4,c5⟩:=abu hq;obtain⟨j,j1,j2⟩:=kC (ih fs aa c1);refine G.cl j j1 (by rw[j2];exact c2) _ ?_;rw[j2];exact Kw.2 ⟨e,c3,c4,by rw[c5,(gX c1).1],rfl⟩
  exact key es.length es rfl hq
 ·rw[hr,xD aa];unfold dE;have:=iJ (f:=λx:Int=>(x,([]:List Int))) (n:=s.1.toNat) (i:=(i:Int)) (d:=((0:Int),([]:List Int))) aa aa;rw[bB]at this;exact this
theorem U5{n:Int}(h0:0<=n)(h1:n<256):IntKind.wrap .u8 n=n:=by simp[IntKind.wrap,IntKind.bits,IntKind.signed];omega
theorem OV:∀{a b:aw},(∀x∈a,0<=x/\x<256)->(∀x∈b,0<=x/\x<256)->(a.map λn=>UInt8.ofNat n.toNat)=(b.map λn=>UInt8.ofNat n.toNat)->a=b
 |[],[],_,_,_=>rfl
 |[],_::_,_,_,h|_::_,[],_,_,h=>by simp at h
 |x::a,y::b,ha,hb,h=>by simp only[gO,bH]at h;have hx:=ha x ak;have hy:=hb y ak;have e:=congrArg UInt8.toNat h.1;simp only[UInt8.toNat_ofNat']at e;rw[Nat.mod_eq_of_lt aa,Nat.mod_eq_of_lt aa]at e;rw[show x=y from by omega,OV (λz hz=>ha z (by simp[hz])) (λz hz=>hb z (by simp[hz])) h.2]
def tZ(x:Int)(es:aw):Prop:=(0<=x/\x<9)/\∀e∈es,0<=e/\e<8
theorem Uk(h:tZ x es):kbR [[x],es]=x::255::(es++[255]):=by
 unfold kbR;simp only[List.flatMap_cons,List.flatMap_nil,gO,nP,lS,oT,rQ];rw[U5 h.1.1 (by have:=h.1.2;omega)]
 have:es.map (λn=>IntKind.wrap .u8 n)=es:=by
  have key:∀l:List Int,(∀e∈l,0<=e/\e<8)->l.map (λn=>IntKind.wrap .u8 n)=l:=λl=>by
   induction l with
   |nil=>intro _;rfl
   |cons a l ih=>intro hl;have ha:=hl a ak;rw[gO,U5 ha.1 aa,ih λe he=>hl e (by simp[he])]
  exact key es h.2
 rw[this]
theorem ac3{fs:aw}(h:tZ x es)(g:tZ y fs)(e:mD [[x],es]=mD [[y],fs]):x=y/\es=fs:=by
 unfold mD nh at e;have e1:=congrArg (λb:ByteArray=>b.data.toList) e;simp only[List.toList_toArray]at e1;rw[Uk h,Uk g]at e1
 have rng:∀{z:Int} {l:aw},tZ z l->∀n∈(z::255::(l++[255])),0<=n/\n<256:=λhz n hn=>by
  simp only[cQ,dN,w8,or_false]at hn;rcases hn with rfl|rfl|hn|rfl
  ·have:=hz.1;omega
  ·omega
  ·have:=hz.2 n hn;omega
  ·omega
 have e2:=OV (rng h) (rng g) e1;simp only[bH,aL]at e2;exact⟨e2.1,List.append_cancel_right e2.2⟩
theorem abw(h1:s.1<=8)(h2:s.2.1.length<=8)(h:(aV s p).2=true):tZ p.1 p.2:=by obtain⟨a1,_,_⟩:=iU h;obtain⟨b1,b2⟩:=iD.1 a1;obtain⟨_,w⟩:=gX h;refine⟨aa,λe he=>?_⟩;unfold bD at w;rw[eU]at w;obtain⟨c1,c2⟩:=iD.1 (w e he);omega
def cI(L:bg):Nat->List (ByteArray×Int)
 |0=>[]
 |n+1=>eI .str aq (cI L n) (mD [[(L.getD n (0,[])).1],(L.getD n (0,[])).2]) n
theorem Jq(L:bg):∀n,(cI L n).length<=n
 |0=>aZ _
 |n+1=>eu X_ (Nat.succ_le_succ (Jq L n))
theorem QS{L:bg}(hnd:L.Nodup)(hs:∀p∈L,tZ p.1 p.2):∀{n i:Nat},n<=L.length->i<n->jw .str aq (cI L n) (mD [[(L.getD i (0,[])).1],(L.getD i (0,[])).2])=i
 |0,i,_,h=>aa
 |n+1,i,hn,h=>by
  unfold cI;rw[Q9];by_cases e:i=n
  ·subst e;rw[am (gi.2 rfl)]
  ·rw[ai,QS hnd hs aa aa];intro hk;obtain⟨k1,k2⟩:=ac3 (hs _ (gA aa)) (hs _ (gA aa)) (gi.1 hk);exact e (xC hnd aa aa (Prod.ext k1 k2))
theorem aez(hnd:L.Nodup)(hs:∀p∈L,tZ p.1 p.2)(hk:k.1=cI L L.length)(hp:p∈L):0<=da k p.1 p.2/\da k p.1 p.2<L.length/\L.getD (da k p.1 p.2).toNat (0,[])=p:=by obtain⟨i,i1,rfl⟩:=kC hp;unfold da;rw[hk,QS hnd hs (aZ _) i1];exact⟨aa,aa,by rw[bB]⟩
def nB(s:aB)(p q:aO):Prop:=p.1=q.1/\(aV s p).1=(aV s q).1
theorem nB.trans(h:nB s p q)(g:nB s q r):nB s p r:=⟨h.1.trans g.1,h.2.trans g.2⟩
theorem nB.symm(h:nB s p q):nB s q p:=⟨h.1.symm,h.2.symm⟩
structure LabP (s:aB) (L:bg) (j:aw):Prop where
 U:UfP j
 n:j.length=L.length
 st:∀x y:Int,0<=x->x<L.length->0<=y->y<L.length->cE j x=cE j y->nB s (L.getD x.toNat (0,[])) (L.getD y.toNat (0,[]))
theorem abp(P:LabP s L j)(x0:0<=x)(x1:x<L.length)(y0:0<=y)(y1:y<L.length)(hs:nB s (L.getD x.toNat (0,[])) (L.getD y.toNat (0,[]))):LabP s L (lC j x y).1:=by
 have hn:=P.n;obtain⟨u1,u2,u3⟩:=IQ P.U x0 aa y0 aa;refine⟨u1,u2.trans hn,λa b a0 a1 b0 b1 h=>?_⟩;rcases u3 with u3|u3
 ·rw[u3 a a0 aa,u3 b b0 aa]at h;split at h<;>split at h<;>rename_i h1 h2
  ·exact (P.st a x a0 a1 x0 x1 h1).trans (P.st x b x0 x1 b0 b1 h2.symm)
  ·exact ((P.st a x a0 a1 x0 x1 h1).trans hs).trans (P.st y b y0 y1 b0 b1 h)
  ·exact ((P.st a y a0 a1 y0 y1 h).trans hs.symm).trans (P.st x b x0 x1 b0 b1 h2.symm)
  ·exact P.st a b a0 a1 b0 b1 h
 ·rw[u3 a a0 aa,u3 b b0 aa]at h;split at h<;>split at h<;>rename_i h1 h2
  ·exact (P.st a y a0 a1 y0 y1 h1).trans (P.st y b y0 y1 b0 b1 h2.symm)
  ·exact ((P.st a y a0 a1 y0 y1 h1).trans hs.symm).trans (P.st x b x0 x1 b0 b1 h)
  ·exact ((P.st a x a0 a1 x0 x1 h).trans hs).trans (P.st y b y0 y1 b0 b1 h2.symm)
  ·exact P.st a b a0 a1 b0 b1 h
structure SetP (s:aB) (L:bg) (k:cF):Prop where
 S:bE s=true
 H:ShrtP s L
 k:k.1=cI L L.length
theorem SetP.sml(P:SetP s L k):∀p∈L,tZ p.1 p.2:=λp hp=>by obtain⟨_,h1,h2,_⟩:=fH P.S;exact abw h1 h2 (P.H.ok p hp)
theorem SetP.at(P:SetP s L k)(hp:(aV s p).2=true):0<=da k p.1 p.2/\da k p.1 p.2<L.length/\L.getD (da k p.1 p.2).toNat (0,[])=p:=aez P.H.nd P.sml P.k (P.H.all p hp)
theorem T8(P:SetP s L k)(Q:LabP s L j){w:Int}(w0:0<=w)(w1:w<L.length)(e0:0<=e)(e1:e<s.2.2.2.1.length):
  VisP s (L.getD w.toNat (0,[])) (s.2.2.2.1.getD e.toNat (0,[])) (s.2.2.2.2.getD e.toNat (0,[])) w k (L.getD w.toNat (0,[])) j:=by
 obtain⟨h1,h2,h3,h4,h5,h6,h7,h8,h9⟩:=fH P.S;have E:=nf h9 e0 e1 aa;have hp:=P.H.ok _ (gA (l:=L) (i:=w.toNat) aa);have hlp:=(iU hp).2.1;have hll:=(iU E.l2).2.1;have hlr:=(iU E.r2).2.1;refine⟨Q.U,w0,by rw[Q.n];exact w1,aa,aa,aa,by rw[h4];exact (gX hp).2,λn n0 n1 hh h6=>?_⟩;obtain⟨o1,o2⟩:=xN hp E n0 n1 hh h6;obtain⟨a1,a2,_⟩:=P.at o1;exact⟨a1,by rw[Q.n];exact a2⟩
theorem Sj{s:aB}{L:bg}{k:cF}(P:SetP s L k){j:aw}(Q:LabP s L j){w:Int}(w0:0<=w)(w1:w<L.length){e:Int}(e0:0<=e)(e1:e<s.2.2.2.1.length) :
  ∀n:Nat,n<=(L.getD w.toNat (0,[])).2.length+1->LabP s L (gR s (L.getD w.toNat (0,[])) (s.2.2.2.1.getD e.toNat (0,[])) (s.2.2.2.2.getD e.toNat (0,[])) w k (L.getD w.toNat (0,[])) n j)
 |0,_=>Q
 |n+1,hn=>by
  have ih:=Sj P Q w0 w1 e0 e1 n aa;simp only[gR];split
  ·rename_i hc;obtain⟨h1,h2,h3,h4,h5,h6,h7,h8,h9⟩:=fH P.S;have E:=nf h9 e0 e1 aa;have hp:=P.H.ok _ (gA (l:=L) (i:=w.toNat) aa);obtain⟨o1,o2⟩:=xN hp E (i:=(n:Int)) aa aa hc.1 hc.2;obtain⟨a1,a2,a3⟩:=P.at o1;exact abp ih w0 w1 a1 a2 (by rw[a3];exact⟨rfl,o2.symm⟩)
  ·exact ih
def jE(s:aB)(k:cF)(p:aO)(w:Int):Nat->List Int->List Int
 |0,j=>j
 |e+1,j=>gR s p (s.2.2.2.1.getD e (0,[])) (s.2.2.2.2.getD e (0,[])) w k p (p.2.length+1) (jE s k p w e j)
def jW(s:aB)(k:cF)(L:bg):Nat->List Int
 |0=>cJ L.length
 |w+1=>jE s k (L.getD w (0,[])) w s.2.2.2.1.length (jW s k L w)
theorem Ul(s:aB)(L:bg):LabP s L (cJ L.length):=by
 have hl:(cJ L.length).length=L.length:=by unfold cJ;rw[bG];omega
 have hg:∀x:Int,0<=x->x<L.length->(cJ L.length).getD x.toNat 0=x:=λx x0 x1=>by unfold cJ;rw[iJ x0 aa]
 have U:UfP (cJ L.length):=⟨λx x0 x1=>by rw[hg x x0 aa];omega⟩;refine⟨U,hl,λx y x0 x1 y0 y1 h=>?_⟩;rw[pp U x0 aa (hg x x0 x1),pp U y0 aa (hg y y0 y1)]at h;rw[h];exact⟨rfl,rfl⟩
theorem EQ{s:aB}{L:bg}{k:cF}(P:SetP s L k){j:aw}(Q:LabP s L j){w:Nat}(w1:w<L.length):∀e:Nat,e<=s.2.2.2.1.length->LabP s L (jE s k (L.getD w (0,[])) w e j)
 |0,_=>Q
 |e+1,he=>by have:=Sj P (EQ P Q w1 e aa) (w:=(w:Int)) aa aa (e:=(e:Int)) aa aa _ (aZ _);simp only[bB]at this;exact this
theorem Bi{s:aB}{L:bg}{k:cF}(P:SetP s L k):∀w:Nat,w<=L.length->LabP s L (jW s k L w)
 |0,_=>Ul s L
 |w+1,hw=>EQ P (Bi P w aa) aa _ (aZ _)
theorem aea{p:aw}(h:x∈p):x+1<=eA p:=by
 have key:∀(l:aw)(a:Int),a<=l.foldl (λn k=>mxR n (k+1)) a/\∀x∈l,x+1<=l.foldl (λn k=>mxR n (k+1)) a:=λl=>by
  induction l with
  |nil=>intro a;exact⟨cB _,λx hx=>by cases hx⟩
  |cons y l ih=>
   intro a;obtain⟨h1,h2⟩:=ih (mxR a (y+1));have hm:a<=mxR a (y+1)/\y+1<=mxR a (y+1):=by unfold mxR;split<;>omega
   rw[jF];refine⟨aa,λx hx=>?_⟩;rcases cQ.1 hx with rfl|hx
   ·omega
   ·exact h2 x hx
 exact (key p 0).2 x h
theorem TE{p:aw}{n:Int}(h0:0<=n)(h:∀x∈p,x<n):0<=eA p/\eA p<=n:=by
 have key:∀(l:aw)(a:Int),0<=a->a<=n->(∀x∈l,x<n)->0<=l.foldl (λn k=>mxR n (k+1)) a/\l.foldl (λn k=>mxR n (k+1)) a<=n:=λl=>by
  induction l with
  |nil=>intro a h0 h1 _;exact⟨h0,h1⟩
  |cons y l ih=>
   intro a h0 h1 hl;rw[jF];have hy:=hl y ak;have hm:0<=mxR a (y+1)/\mxR a (y+1)<=n:=by unfold mxR;split<;>omega
   exact ih _ hm.1 hm.2 λx hx=>hl x (by simp[hx])
 exact key p 0 (cB _) h0 h
theorem xP{y:Int}:∀{l s:aw},(y∈s\/y∈l)->y∈l.foldl fJ s
 |[],s,h=>by simpa using h
 |k::l,s,h=>by
  rw[jF];refine xP ?_;unfold fJ;rcases h with h|h
  ·left;split
   ·exact jH _ h
   ·exact h
  ·rcases cQ.1 h with rfl|h
   ·left;split
    ·exact oU _ (cP.2 rfl)
    ·rename_i hn;exact wc λhh=>hn (by have:=(iE (0:Int)).2 hh;omega)
   ·exact .inr h
theorem AZ{l:aw}{i:Nat}(h:i<l.length):(cq l).getD i 0=cT (cX l) (l.getD i 0):=by unfold cq;simp only[bN,fQ,bX h,dX,dY]
theorem ab9{l:aw}:∀x∈cq l,0<=x/\x<l.length:=by intro x hx;unfold cq at hx;obtain⟨y,hy,rfl⟩:=jJ.1 hx;obtain⟨h0,h1,_⟩:=(iE (0:Int)).1 (xP (l:=l) (s:=[]) (.inr hy));have:=E4 l [];simp only[aM,jC]at this;exact⟨h0,Int.lt_of_lt_of_le h1 aa⟩
theorem La{l:aw}{i j:Nat}(hi:i<l.length)(hj:j<l.length):(cq l).getD i 0=(cq l).getD j 0<->l.getD i 0=l.getD j 0:=by
 rw[AZ hi,AZ hj];constructor
 ·intro h;have m1:l.getD i 0∈cX l:=xP (.inr (by simp only[bN,bX hi,dY];exact rS hi));have m2:l.getD j 0∈cX l:=xP (.inr (by simp only[bN,bX hj,dY];exact rS hj));obtain⟨_,_,e1,_⟩:=(iE (0:Int)).1 m1;obtain⟨_,_,e2,_⟩:=(iE (0:Int)).1 m2;rw[←e1,←e2,h]
 ·intro h;rw[h]
def fb(s:aB)(L:bg):List Int:=cq (dn (jW s (cI L L.length,([],[])) L L.length))
structure ClaP (s:aB) (L:bg) (c:aw):Prop where
 n:c.length=L.length
 r:∀i:Int,0<=i->i<L.length->0<=c.getD i.toNat 0/\c.getD i.toNat 0<eA c
 st:∀i j:Int,0<=i->i<L.length->0<=j->j<L.length->c.getD i.toNat 0=c.getD j.toNat 0->nB s (L.getD i.toNat (0,[])) (L.getD j.toNat (0,[]))
 le:0<=eA c/\eA c<=L.length
theorem Eu(x0:0<=x)(x1:x<j.length):(dn j).getD x.toNat 0=cE j x:=by unfold dn;rw[iJ x0 aa]
theorem EB(Q:LabP s L j):ClaP s L (cq (dn j)):=by
 have hn:(dn j).length=L.length:=by unfold dn;rw[bG,Q.n]
 have hm:(cq (dn j)).length=L.length:=by unfold cq;rw[d5,hn]
 have hg:=ab9 (l:=dn j);have mem:∀i:Int,0<=i->i<L.length->(cq (dn j)).getD i.toNat 0∈cq (dn j):=λi i0 i1=>cC _ 0 i0 aa;refine⟨hm,λi i0 i1=>⟨(hg _ (mem i i0 i1)).1,?_⟩,λa b a0 a1 b0 b1 h=>?_,TE aa λx hx=>by have:=(hg x hx).2;omega⟩
 ·have:=aea (mem i i0 i1);omega
 ·rw[La aa aa,Eu a0 (by rw[Q.n];omega),Eu b0 (by rw[Q.n];omega)]at h;exact Q.st a b a0 a1 b0 b1 h
abbrev ug:Type:=List (Int×Option (List Int))
def lsS(c:aw)(L:bg)(i:Nat)(l:ug):List (Int×Option (List Int)):=if ((l.getD (c.getD i 0).toNat (0,none)).2.isNone||decide (iY (L.getD i (0,[])) ((l.getD (c.getD i 0).toNat (0,none)).1,(l.getD (c.getD i 0).toNat (0,none)).2.getD [])<0))=true then l.set (c.getD i 0).toNat ((L.getD i (0,[])).1,some (L.getD i (0,[])).2)else l
def lsD(c:aw)(L:bg):Nat->List (Int×Option (List Int))
 |0=>List.replicate (eA c).toNat (0,none)
 |m+1=>lsS c L (L.length-1-m) (lsD c L m)
structure LstP (c:aw) (L:bg) (i:Int) (l:ug):Prop where
 n:l.length=(eA c).toNat
 v:∀(k:Nat)(x:Int)(es:aw),l.getD k (0,none)=(x,some es)->∃a:Int,i<=a/\0<=a/\a<L.length/\c.getD a.toNat 0=k/\L.getD a.toNat (0,[])=(x,es)
theorem agc:LstP c L L.length (lsD c L 0):=by refine⟨by unfold lsD;rw[lk],λk x es h=>?_⟩;exfalso;unfold lsD at h;simp only[bN,yN]at h;split at h<;>simp at h
theorem ags(C:ClaP s L c){l:ug}(P:LstP c L (i+1) l)(i0:0<=i)(i1:i<L.length):LstP c L i (lsS c L i.toNat l):=by
 have hr:=C.r i i0 i1;unfold lsS;split
 ·refine⟨by rw[fx];exact P.n,λk x es h=>?_⟩;have hlt:(c.getD i.toNat 0).toNat<l.length:=by rw[P.n];omega
  rw[ly _ _ _ _ _ hlt]at h;split at h
  ·rename_i e;simp only[bS,aG]at h;exact⟨i,cB _,i0,i1,aa,Prod.ext h.1 h.2⟩
  ·obtain⟨a,h1,h2⟩:=P.v k x es h;exact⟨a,aa,h2⟩
 ·refine⟨P.n,λk x es h=>?_⟩;obtain⟨a,h1,h2⟩:=P.v k x es h;exact⟨a,aa,h2⟩
theorem Qa(H:ShrtP s L)(C:ClaP s L c){l:ug}(P:LstP c L (i+1) l)(i0:0<=i)(i1:i<L.length):vF (l.getD (c.getD i.toNat 0).toNat (0,none)).2=true:=by
 generalize hq:l.getD (c.getD i.toNat 0).toNat (0,none)=q;obtain⟨x,o⟩:=q
 cases o with
 |none=>rfl
 |some es=>
  obtain⟨a,h1,h2,h3,h4,h5⟩:=P.v _ x es hq
  cases es with
  |cons _ _=>rfl
  |nil=>
   exfalso;have hr:=C.r i i0 i1;have hst:=(C.st a i h2 h3 i0 i1 aa).1;rw[h5]at hst
   -- an empty path of number a begins at a
   have hmem:=gA (l:=L) (i:=a.toNat) aa;rw[h5]at hmem;obtain⟨b1,b2⟩:=iD.1 (iU (H.ok _ hmem)).1;dsimp only at b1 b2 hst;have e1:=H.st x.toNat aa;rw[show ((x.toNat:Nat):Int)=x from by omega]at e1;have e2:x.toNat=a.toNat:=xC H.nd (by have:=H.ne;omega) aa (by rw[e1,h5]);have e3:=H.st i.toNat aa;rw[e3]at hst;dsimp only at hst;omega
def lsA(s:aB)(L:bg):List (Int×Option (List Int)):=lsD (fb s L) L L.length
def Bu(l:ug):Bool:=l.all λq=>(q.2.getD []).length != 6
def io(s:aB):Bool:=(bI s).2&&Bu (lsA s (bI s).1)
def pcR(s:aB):cF:=(cI (bI s).1 (bI s).1.length,(fb s (bI s).1,fp (lsA s (bI s).1)))
theorem v7{s:aB}{c:aw}{L:bg}(C:ClaP s L c):∀m:Nat,m<=L.length->LstP c L ((L.length:Int)-m) (lsD c L m)
 |0,_=>by simpa using (agc (c:=c) (L:=L))
 |m+1,hm=>by
  have ih:=v7 C m aa;have e:((L.length:Int)-((m+1:Nat):Int)).toNat=L.length-1-m:=aa
  have:=ags C (i:=(L.length:Int)-((m+1:Nat):Int)) (l:=lsD c L m) (by rw[show (L.length:Int)-((m+1:Nat):Int)+1=(L.length:Int)-m from by omega];exact ih) aa aa;rw[e]at this;exact this
theorem KZ{l:ug}:Bu l=true<->∀b:Int,0<=b->b<l.length->((l.getD b.toNat (0,none)).2.getD []).length≠6:=by
 unfold Bu;rw[eU];constructor
 ·intro h b b0 b1;have:=h _ (cC l (0,none) b0 b1);simpa using this
 ·intro h x hx;obtain⟨i,hi,rfl⟩:=mL hx;have:=h i aa aa;rw[bB]at this;simp only[bN,bX hi,dY]at this;simpa using this
def wA:Sp:=⟨[kH],[false],true,λx=>io x.1,λx=>[bE x.1=true],[(false,(.fz B3)),(false,ym)],λx=>(pcR x.1,false,()),[(false,(.fz .any)),(false,ym)],λx=>((),true,())⟩
def qy:Ct:=fO wA true
def rW:Ct:=fO wA false
def Mg:Ct:=spC wA
def Ma:Ann:=(.s .n (.s .n (.s .n (.s .n (.s (.s .n (.l [(6,(.bx (.ad 27 [.de]))),(30,(.d aq))] Fi [0,4,28,29] .n)) (.s .n (.s (.s .n (.l [(6,(.bx (.ad 27 [.de]))),(9,(.ad 9 [.de])),(51,(.d aq))] [(27,(.pt (.p (.mp .str aq) (.p cd (.sl (.fz (.p aq (.ns bd)))))))),(9,xZ)] [0,4,49,50] (.s .n (.s .n (.s (.s .n (.s .n (.l [(6,(.bx (.ad 27 [.de]))),(9,(.ad 9 [.de])),(10,(.ad 10 [.de])),(11,(.ad 11 [.de])),(61,(.d aq))] [(27,(.pt (.p (.mp .str aq) (.p cd (.sl (.fz (.p aq (.ns bd)))))))),(9,xZ),(10,(.pt cA)),(11,ER)] [0,4,49,50,51,60] .n))) .n))))) (.s .n (.s .n (.s (.s .n (.l [(6,(.bx (.ad 27 [.de]))),(13,(.d aq))] Fi [4] (.s .n (.s (.s .n (.s .n (.j [(6,(.bx (.ad 27 [.de])))] Fi [4,13] .n))) .n)))) (.s (.s .n (.l [(6,(.bx (.ad 27 [.de]))),(159,(.d aq)),(157,(.ref 27 [.de,.r,.r]))] Fi [158] .n)) .n)))))))))))
def ag4:FuncId->Option Ct:=lkp [(88,Mx),(85,M6),(91,Mv),(92,rY),(37,sO),(93,qB),(87,zI),(86,wY),(89,Gt)]
abbrev hV:Type:=Option (List Int)
def Cs(s:aB)(A:bV qy.rt->Prop)(B:bV rW.rt->Prop):Prop:=cnd (bI s).2 ((bI s).2=true/\0<=s.1/\s.1<=400/\s.2.1.length<=1000000/\s.2.2.1.length=s.2.1.length/\cnd false (B ((),false,())) (aI (S:=(dW×(((List (ByteArray×Int))×((List Int)×(List (Int×(Option (List Int))))))×Unit))) (λs1 next=>inK .i64 s1.1.2.1->T.ok (T.mp T.str aq) s1.2.1.1->T.ok bd s1.2.1.2.1->T.ok (.sl (T.p aq (T.ns bd))) s1.2.1.2.2->cnd (decide (s1.1.2.1<((bI s).1.length:Int))) (0<=s1.1.2.1/\s1.1.2.1<((bI s).1.length:Int)/\((bI s).1.getD s1.1.2.1.toNat (0,[])).2.length<=1000000/\aX s1.2.1.1.length 1 1/\inK .i64 (s1.1.2.1+1)/\next (((),s1.1.2.1+1,()),(eI T.str aq s1.2.1.1 (mD [[((bI s).1.getD s1.1.2.1.toNat (0,[])).1],((bI s).1.getD s1.1.2.1.toNat (0,[])).2]) s1.1.2.1,s1.2.1.2),())) (0<=((bI s).1.length:Int)/\((bI s).1.length:Int)<=1099511627776/\aI (S:=(dy×(((List (ByteArray×Int))×((List Int)×(List (Int×(Option (List Int))))))×cV))) (λs2 next1=>inK .i64 s2.1.2.2.1->T.ok (T.mp T.str aq) s2.2.1.1->T.ok bd s2.2.1.2.1->T.ok (.sl (T.p aq (T.ns bd))) s2.2.1.2.2->T.ok bd s2.2.2.1->cnd (decide (s2.1.2.2.1<((bI s).1.length:Int))) (0<=s2.1.2.2.1/\s2.1.2.2.1<((bI s).1.length:Int)/\aI (S:=(nG×(((List (ByteArray×Int))×((List Int)×(List (Int×(Option (List Int))))))×y7))) (λs3 next2=>inK .i64 s3.1.2.2.2.2.1->T.ok (T.mp T.str aq) s3.2.1.1->T.ok bd s3.2.1.2.1->T.ok (.sl (T.p aq (T.ns bd))) s3.2.1.2.2->T.ok bd s3.2.2.1->inK .i64 s3.2.2.2.1->inK .i64 s3.2.2.2.2.1.1->T.ok bd s3.2.2.2.2.1.2->cnd (decide (s3.1.2.2.2.2.1<(s.2.2.2.1.length:Int))) (0<=s3.1.2.2.2.2.1/\s3.1.2.2.2.2.1<(s.2.2.2.1.length:Int)/\0<=s3.1.2.2.2.2.1/\s3.1.2.2.2.2.1<(s.2.2.2.2.length:Int)/\VisP s s3.2.2.2.2.1 (s.2.2.2.1.getD s3.1.2.2.2.2.1.toNat (0,[])) (s.2.2.2.2.getD s3.1.2.2.2.2.1.toNat (0,[])) s3.2.2.2.1 (s3.2.1.1,s3.2.1.2.1,fp s3.2.1.2.2) s3.2.2.2.2.1 s3.2.2.1/\inK .i64 (s3.1.2.2.2.2.1+1)/\next2 (((),(),(),(),s3.1.2.2.2.2.1+1,()),s3.2.1,gR s s3.2.2.2.2.1 (s.2.2.2.1.getD s3.1.2.2.2.2.1.toNat (0,[])) (s.2.2.2.2.getD s3.1.2.2.2.2.1.toNat (0,[])) s3.2.2.2.1 (s3.2.1.1,s3.2.1.2.1,fp s3.2.1.2.2) s3.2.2.2.2.1 (s3.2.2.2.2.1.2.length+1) s3.2.2.1,s3.2.2.2.1,s3.2.2.2.2.1,())) (inK .i64 (s2.1.2.2.1+1)/\next1 (((),(),s2.1.2.2.1+1,()),s3.2.1,s3.2.2.1,()))) (((),(),(),(),0,()),s2.2.1,s2.2.2.1,s2.1.2.2.1,(bI s).1.getD s2.1.2.2.1.toNat (0,[]),())) (UfP s2.2.2.1/\s2.2.2.1.length<=1099511627776/\(cq (dn s2.2.2.1)).length<=1099511627776/\bD (cq (dn s2.2.2.1)) 1099511627776=true/\0<=eA (cq (dn s2.2.2.1))/\eA (cq (dn s2.2.2.1))<=eA (cq (dn s2.2.2.1))/\eA (cq (dn s2.2.2.1))<=((140737488355328:Nat):Int)/\eA (cq (dn s2.2.2.1))*((32:Nat):Int)<=((140737488355328:Nat):Int)/\inK .i64 (((bI s).1.length:Int)-1)/\aI (S:=(dW×(((List (ByteArray×Int))×((List Int)×(List (Int×(Option (List Int))))))×Unit))) (λs3 next2=>inK .i64 s3.1.2.1->T.ok (T.mp T.str aq) s3.2.1.1->T.ok bd s3.2.1.2.1->T.ok (.sl (T.p aq (T.ns bd))) s3.2.1.2.2->cnd (decide (0<=s3.1.2.1)) (0<=s3.1.2.1/\s3.1.2.1<(s3.2.1.2.1.length:Int)/\0<=s3.2.1.2.1.getD s3.1.2.1.toNat 0/\s3.2.1.2.1.getD s3.1.2.1.toNat 0<(s3.2.1.2.2.length:Int)/\vF (s3.2.1.2.2.getD (s3.2.1.2.1.getD s3.1.2.1.toNat 0).toNat (0,(none:hV))).2=true/\(Option.isNone (s3.2.1.2.2.getD (s3.2.1.2.1.getD s3.1.2.1.toNat 0).toNat (0,(none:hV))).2=false->s3.1.2.1<((bI s).1.length:Int)/\0<=s3.1.2.1)/\(Option.isNone (s3.2.1.2.2.getD (s3.2.1.2.1.getD s3.1.2.1.toNat 0).toNat (0,(none:hV))).2=false->s3.2.1.2.1.getD s3.1.2.1.toNat 0<(s3.2.1.2.2.length:Int)/\0<=s3.2.1.2.1.getD s3.1.2.1.toNat 0)/\(Option.isNone (s3.2.1.2.2.getD (s3.2.1.2.1.getD s3.1.2.1.toNat 0).toNat (0,(none:hV))).2=false->(Option.getD (s3.2.1.2.2.getD (s3.2.1.2.1.getD s3.1.2.1.toNat 0).toNat (0,(none:hV))).2 []).length<=1000000/\((bI s).1.getD s3.1.2.1.toNat (0,[])).2.length<=1000000)/\bZ (S:=((Unit×Unit)×(((List (ByteArray×Int))×((List Int)×(List (Int×(Option (List Int))))))×Unit))) (λs4=>T.ok (T.mp T.str aq) s4.2.1.1->T.ok bd s4.2.1.2.1->T.ok (.sl (T.p aq (T.ns bd))) s4.2.1.2.2->inK .i64 (s3.1.2.1-1)/\next2 (((),s3.1.2.1-1,()),s4.2.1,())) (λk=>cnd (Option.isNone (s3.2.1.2.2.getD (s3.2.1.2.1.getD s3.1.2.1.toNat 0).toNat (0,(none:hV))).2||decide (iY ((bI s).1.getD s3.1.2.1.toNat (0,[])) ((s3.2.1.2.2.getD (s3.2.1.2.1.getD s3.1.2.1.toNat 0).toNat (0,(none:hV))).1,Option.getD (s3.2.1.2.2.getD (s3.2.1.2.1.getD s3.1.2.1.toNat 0).toNat (0,(none:hV))).2 [])<0)) (0<=s3.1.2.1/\s3.1.2.1<((bI s).1.length:Int)/\0<=s3.1.2.1/\s3.1.2.1<((bI s).1.length:Int)/\((bI s).1.getD s3.1.2.1.toNat (0,[])).2.length<=1099511627776/\0<=s3.2.1.2.1.getD s3.1.2.1.toNat 0/\s3.2.1.2.1.getD s3.1.2.1.toNat 0<(s3.2.1.2.2.length:Int)/\k (((),()),(s3.2.1.1,s3.2.1.2.1,List.set s3.2.1.2.2 (s3.2.1.2.1.getD s3.1.2.1.toNat 0).toNat (((bI s).1.getD s3.1.2.1.toNat (0,[])).1,Option.some ((bI s).1.getD s3.1.2.1.toNat (0,[])).2)),())) (k (((),()),s3.2.1,())))) (aI (S:=(y8×(((List (ByteArray×Int))×((List Int)×(List (Int×(Option (List Int))))))×Unit))) (λs4 next3=>inK .i64 s4.1.2.1->T.ok (T.mp T.str aq) s4.2.1.1->T.ok bd s4.2.1.2.1->T.ok (.sl (T.p aq (T.ns bd))) s4.2.1.2.2->cnd (decide (s4.1.2.1<(s3.2.1.2.2.length:Int))) (0<=s4.1.2.1/\s4.1.2.1<(s4.2.1.2.2.length:Int)/\cnd (((Option.getD (s4.2.1.2.2.getD s4.1.2.1.toNat (0,(none:hV))).2 []).length:Int)==6) (B ((),true,())) (inK .i64 (s4.1.2.1+1)/\next3 (((),s4.1.2.1+1,(),()),s4.2.1,()))) (A ((s4.2.1.1,s4.2.1.2.1,fp s4.2.1.2.2),false,()))) (((),0,(),()),s3.2.1,()))) (((),((bI s).1.length:Int)-1,()),(s2.2.1.1,cq (dn s2.2.2.1),List.replicate (eA (cq (dn s2.2.2.1))).toNat (0,(none:hV))),()))) (((),(),0,()),s1.2.1,cJ ((bI s).1.length:Int),()))) (((),0,()),(([]:List (ByteArray×Int)),[],([]:List (Int×(Option (List Int))))),()))) ((bI s).2=false/\0<=s.1/\s.1<=400/\s.2.1.length<=1000000/\s.2.2.1.length=s.2.1.length/\cnd true (B ((),true,())) (aI (S:=(dW×(((List (ByteArray×Int))×((List Int)×(List (Int×(Option (List Int))))))×Unit))) (λs1 next=>inK .i64 s1.1.2.1->T.ok (T.mp T.str aq) s1.2.1.1->T.ok bd s1.2.1.2.1->T.ok (.sl (T.p aq (T.ns bd))) s1.2.1.2.2->cnd (decide (s1.1.2.1<(([]:List aS).length:Int))) (0<=s1.1.2.1/\s1.1.2.1<(([]:List aS).length:Int)/\(List.getD ([]:List aS) s1.1.2.1.toNat (0,[])).2.length<=1000000/\aX s1.2.1.1.length 1 1/\inK .i64 (s1.1.2.1+1)/\next (((),s1.1.2.1+1,()),(eI T.str aq s1.2.1.1 (mD [[(List.getD ([]:List aS) s1.1.2.1.toNat (0,[])).1],(List.getD ([]:List aS) s1.1.2.1.toNat (0,[])).2]) s1.1.2.1,s1.2.1.2),())) (0<=(([]:List aS).length:Int)/\(([]:List aS).length:Int)<=1099511627776/\aI (S:=(dy×(((List (ByteArray×Int))×((List Int)×(List (Int×(Option (List Int))))))×cV))) (λs2 next1=>inK .i64 s2.1.2.2.1->T.ok (T.mp T.str aq) s2.2.1.1->T.ok bd s2.2.1.2.1->T.ok (.sl (T.p aq (T.ns bd))) s2.2.1.2.2->T.ok bd s2.2.2.1->cnd (decide (s2.1.2.2.1<(([]:List aS).length:Int))) (0<=s2.1.2.2.1/\s2.1.2.2.1<(([]:List aS).length:Int)/\aI (S:=(nG×(((List (ByteArray×Int))×((List Int)×(List (Int×(Option (List Int))))))×y7))) (λs3 next2=>inK .i64 s3.1.2.2.2.2.1->T.ok (T.mp T.str aq) s3.2.1.1->T.ok bd s3.2.1.2.1->T.ok (.sl (T.p aq (T.ns bd))) s3.2.1.2.2->T.ok bd s3.2.2.1->inK .i64 s3.2.2.2.1->inK .i64 s3.2.2.2.2.1.1->T.ok bd s3.2.2.2.2.1.2->cnd (decide (s3.1.2.2.2.2.1<(s.2.2.2.1.length:Int))) (0<=s3.1.2.2.2.2.1/\s3.1.2.2.2.2.1<(s.2.2.2.1.length:Int)/\0<=s3.1.2.2.2.2.1/\s3.1.2.2.2.2.1<(s.2.2.2.2.length:Int)/\VisP s s3.2.2.2.2.1 (s.2.2.2.1.getD s3.1.2.2.2.2.1.toNat (0,[])) (s.2.2.2.2.getD s3.1.2.2.2.2.1.toNat (0,[])) s3.2.2.2.1 (s3.2.1.1,s3.2.1.2.1,fp s3.2.1.2.2) s3.2.2.2.2.1 s3.2.2.1/\inK .i64 (s3.1.2.2.2.2.1+1)/\next2 (((),(),(),(),s3.1.2.2.2.2.1+1,()),s3.2.1,gR s s3.2.2.2.2.1 (s.2.2.2.1.getD s3.1.2.2.2.2.1.toNat (0,[])) (s.2.2.2.2.getD s3.1.2.2.2.2.1.toNat (0,[])) s3.2.2.2.1 (s3.2.1.1,s3.2.1.2.1,fp s3.2.1.2.2) s3.2.2.2.2.1 (s3.2.2.2.2.1.2.length+1) s3.2.2.1,s3.2.2.2.1,s3.2.2.2.2.1,())) (inK .i64 (s2.1.2.2.1+1)/\next1 (((),(),s2.1.2.2.1+1,()),s3.2.1,s3.2.2.1,()))) (((),(),(),(),0,()),s2.2.1,s2.2.2.1,s2.1.2.2.1,List.getD ([]:List aS) s2.1.2.2.1.toNat (0,[]),())) (UfP s2.2.2.1/\s2.2.2.1.length<=1099511627776/\(cq (dn s2.2.2.1)).length<=1099511627776/\bD (cq (dn s2.2.2.1)) 1099511627776=true/\0<=eA (cq (dn s2.2.2.1))/\eA (cq (dn s2.2.2.1))<=eA (cq (dn s2.2.2.1))/\eA (cq (dn s2.2.2.1))<=((140737488355328:Nat):Int)/\eA (cq (dn s2.2.2.1))*((32:Nat):Int)<=((140737488355328:Nat):Int)/\inK .i64 ((([]:List aS).length:Int)-1)/\aI (S:=(dW×(((List (ByteArray×Int))×((List Int)×(List (Int×(Option (List Int))))))×Unit))) (λs3 next2=>inK .i64 s3.1.2.1->T.ok (T.mp T.str aq) s3.2.1.1->T.ok bd s3.2.1.2.1->T.ok (.sl (T.p aq (T.ns bd))) s3.2.1.2.2->cnd (decide (0<=s3.1.2.1)) (0<=s3.1.2.1/\s3.1.2.1<(s3.2.1.2.1.length:Int)/\0<=s3.2.1.2.1.getD s3.1.2.1.toNat 0/\s3.2.1.2.1.getD s3.1.2.1.toNat 0<(s3.2.1.2.2.length:Int)/\vF (s3.2.1.2.2.getD (s3.2.1.2.1.getD s3.1.2.1.toNat 0).toNat (0,(none:hV))).2=true/\(Option.isNone (s3.2.1.2.2.getD (s3.2.1.2.1.getD s3.1.2.1.toNat 0).toNat (0,(none:hV))).2=false->s3.1.2.1<(([]:List aS).length:Int)/\0<=s3.1.2.1)/\(Option.isNone (s3.2.1.2.2.getD (s3.2.1.2.1.getD s3.1.2.1.toNat 0).toNat (0,(none:hV))).2=false->s3.2.1.2.1.getD s3.1.2.1.toNat 0<(s3.2.1.2.2.length:Int)/\0<=s3.2.1.2.1.getD s3.1.2.1.toNat 0)/\(Option.isNone (s3.2.1.2.2.getD (s3.2.1.2.1.getD s3.1.2.1.toNat 0).toNat (0,(none:hV))).2=false->(Option.getD (s3.2.1.2.2.getD (s3.2.1.2.1.getD s3.1.2.1.toNat 0).toNat (0,(none:hV))).2 []).length<=1000000/\(List.getD ([]:List aS) s3.1.2.1.toNat (0,[])).2.length<=1000000)/\bZ (S:=((Unit×Unit)×(((List (ByteArray×Int))×((List Int)×(List (Int×(Option (List Int))))))×Unit))) (λs4=>T.ok (T.mp T.str aq) s4.2.1.1->T.ok bd s4.2.1.2.1->T.ok (.sl (T.p aq (T.ns bd))) s4.2.1.2.2->inK .i64 (s3.1.2.1-1)/\next2 (((),s3.1.2.1-1,()),s4.2.1,())) (λk=>cnd (Option.isNone (s3.2.1.2.2.getD (s3.2.1.2.1.getD s3.1.2.1.toNat 0).toNat (0,(none:hV))).2||decide (iY (List.getD ([]:List aS) s3.1.2.1.toNat (0,[])) ((s3.2.1.2.2.getD (s3.2.1.2.1.getD s3.1.2.1.toNat 0).toNat (0,(none:hV))).1,Option.getD (s3.2.1.2.2.getD (s3.2.1.2.1.getD s3.1.2.1.toNat 0).toNat (0,(none:hV))).2 [])<0)) (0<=s3.1.2.1/\s3.1.2.1<(([]:List aS).length:Int)/\0<=s3.1.2.1/\s3.1.2.1<(([]:List aS).length:Int)/\(List.getD ([]:List aS) s3.1.2.1.toNat (0,[])).2.length<=1099511627776/\0<=s3.2.1.2.1.getD s3.1.2.1.toNat 0/\s3.2.1.2.1.getD s3.1.2.1.toNat 0<(s3.2.1.2.2.length:Int)/\k (((),()),(s3.2.1.1,s3.2.1.2.1,List.set s3.2.1.2.2 (s3.2.1.2.1.getD s3.1.2.1.toNat 0).toNat ((List.getD ([]:List aS) s3.1.2.1.toNat (0,[])).1,Option.some (List.getD ([]:List aS) s3.1.2.1.toNat (0,[])).2)),())) (k (((),()),s3.2.1,())))) (aI (S:=(y8×(((List (ByteArray×Int))×((List Int)×(List (Int×(Option (List Int))))))×Unit))) (λs4 next3=>inK .i64 s4.1.2.1->T.ok (T.mp T.str aq) s4.2.1.1->T.ok bd s4.2.1.2.1->T.ok (.sl (T.p aq (T.ns bd))) s4.2.1.2.2->cnd (decide (s4.1.2.1<(s3.2.1.2.2.length:Int))) (0<=s4.1.2.1/\s4.1.2.1<(s4.2.1.2.2.length:Int)/\cnd (((Option.getD (s4.2.1.2.2.getD s4.1.2.1.toNat (0,(none:hV))).2 []).length:Int)==6) (B ((),true,())) (inK .i64 (s4.1.2.1+1)/\next3 (((),s4.1.2.1+1,(),()),s4.2.1,()))) (A ((s4.2.1.1,s4.2.1.2.1,fp s4.2.1.2.2),false,()))) (((),0,(),()),s3.2.1,()))) (((),(([]:List aS).length:Int)-1,()),(s2.2.1.1,cq (dn s2.2.2.1),List.replicate (eA (cq (dn s2.2.2.1))).toNat (0,(none:hV))),()))) (((),(),0,()),s1.2.1,cJ (([]:List aS).length:Int),()))) (((),0,()),(([]:List (ByteArray×Int)),[],([]:List (Int×(Option (List Int))))),())))
def Gr(s:aB)(K:bV qy.rt->Prop):Prop:=Cs s K (λ_=>False)
theorem UU(s:aB)(hok:ab (okL qy.args (s,())))(hpre:ab (qy.pre (s,()))):Gr s (λr=>r=qy.res (s,())):=by
 simp only[qy,fO,wA,okL,T.oks,T.ok,ap,ab,aL,aA,bf]at hok hpre
 try dsimp only[T.den]at hok hpre
 unfold Gr Cs;obtain⟨hs,hS⟩:=hpre;clear hok;obtain⟨s0,s8,f8,tf,_,_,e8,re,_⟩:=fH hS;unfold io at hs;rw[ao]at hs;obtain⟨hg,hs⟩:=hs;simp only[qy,fO,wA,pcR,lsA,fb];refine aC (λ_=>⟨hg,s0,aa,aa,tf,aC (λh=>by cases h) (λ_=>?_)⟩) (λh=>by rw[hg]at h;cases h);have H:=vh s0 aa hg;have hlA:lsA s (bI s).1=lsD (fb s (bI s).1) (bI s).1 (bI s).1.length:=rfl;have hcA:fb s (bI s).1=cq (dn (jW s (cI (bI s).1 (bI s).1.length,([],[])) (bI s).1 (bI s).1.length)):=rfl;rw[hlA,hcA]at hs;clear hlA hcA;generalize (bI s).1=L at *;have hl4:=H.le;have hpl:∀i:Int,0<=i->i<L.length->(L.getD i.toNat (0,[])).2.length<=6:=λi i0 i1=>(iU (H.ok _ (gA (i:=i.toNat) aa))).2.1;refine aY (λ(q:(dW×(((List (ByteArray×Int))×((List Int)×(List (Int×(Option (List Int))))))×Unit)))=>0<=q.1.2.1/\q.1.2.1<=L.length/\q.2.1=(cI L q.1.2.1.toNat,([],[]))) (λ(q:(dW×(((List (ByteArray×Int))×((List Int)×(List (Int×(Option (List Int))))))×Unit)))=>(L.length-q.1.2.1).toNat) ?_ ⟨cB _,ae,rfl⟩;rintro⟨⟨_,i,_⟩,k,_⟩ next ⟨i0,i1,q⟩ hnx
 intros
 try dsimp only at i0 i1 q hnx⊢
 subst q
 try dsimp only
 refine aE (λhi=>?_) (λhi=>?_)
 ·have hp:=hpl i i0 hi;refine⟨i0,hi,aa,bh (by have:=Jq L i.toNat;omega),az,hnx _ ⟨ae,ae,?_⟩ ae⟩
  try dsimp only
  rw[show (i+1).toNat=i.toNat+1 from by omega];simp only[cI];rw[jI i0]
 clear hnx;have e:i=L.length:=aa
 subst e;rw[bB];refine⟨aa,aa,?_⟩;have P:SetP s L (cI L L.length,([],[])):=⟨hS,H,rfl⟩;refine aY (λ(q:(dy×(((List (ByteArray×Int))×((List Int)×(List (Int×(Option (List Int))))))×cV)))=>0<=q.1.2.2.1/\q.1.2.2.1<=L.length/\q.2.1=(cI L L.length,([],[]))/\q.2.2.1=jW s (cI L L.length,([],[])) L q.1.2.2.1.toNat) (λ(q:(dy×(((List (ByteArray×Int))×((List Int)×(List (Int×(Option (List Int))))))×cV)))=>(L.length-q.1.2.2.1).toNat) ?_ ⟨cB _,ae,rfl,rfl⟩;rintro⟨⟨_,_,w,_⟩,k,j,_⟩ next1 ⟨w0,w1,q1,q2⟩ hn1;intros
 try dsimp only at w0 w1 q1 q2 hn1⊢
 subst q1;subst q2;have Q:=Bi P w.toNat aa;refine aE (λhw=>?_) (λhw=>?_)
 ·refine⟨w0,hw,?_⟩;refine aY (λ(q:(nG×(((List (ByteArray×Int))×((List Int)×(List (Int×(Option (List Int))))))×y7)))=>0<=q.1.2.2.2.2.1/\q.1.2.2.2.2.1<=s.2.2.2.1.length/\q.2.1=(cI L L.length,([],[]))/\q.2.2.1=jE s (cI L L.length,([],[])) (L.getD w.toNat (0,[])) w q.1.2.2.2.2.1.toNat (jW s (cI L L.length,([],[])) L w.toNat)/\q.2.2.2.1=w/\q.2.2.2.2.1=L.getD w.toNat (0,[])) (λ(q:(nG×(((List (ByteArray×Int))×((List Int)×(List (Int×(Option (List Int))))))×y7)))=>(s.2.2.2.1.length-q.1.2.2.2.2.1).toNat) ?_ ⟨cB _,ae,rfl,rfl,rfl,rfl⟩;rintro⟨⟨_,_,_,_,e,_⟩,k,j,w',p,_⟩ next2 ⟨e0,e1,q1,q2,q3,q4⟩ hn2;intros
  try dsimp only at e0 e1 q1 q2 q3 q4 hn2⊢
  subst q1;subst q2;subst q3;subst q4;refine aE (λhe=>?_) (λhe=>?_)
  ·have Qe:=EQ P Q (w:=w'.toNat) aa e.toNat aa;rw[jI w0]at Qe;refine⟨e0,he,e0,aa,T8 P Qe w0 hw e0 he,az,hn2 _ ⟨ae,ae,rfl,?_,rfl,rfl⟩ ae⟩
   try dsimp only
   rw[show (e+1).toNat=e.toNat+1 from by omega];rfl
  ·have ee:e=s.2.2.2.1.length:=aa
   subst ee;refine⟨az,hn1 _ ⟨ae,ae,rfl,?_⟩ ae⟩
   try dsimp only
   rw[show (w'+1).toNat=w'.toNat+1 from by omega];simp only[jW];rw[jI w0,bB]
 clear hn1;have e:w=L.length:=aa
 subst e;rw[bB]at Q⊢;have C:=EB Q;have hjl:=Q.n;generalize hc:cq (dn (jW s (cI L L.length,([],[])) L L.length))=c at *;have hcn:=C.n;obtain⟨cl0,cl1⟩:=C.le;refine⟨Q.U,aa,aa,fF.2 λi i0 i1=>?_,cl0,cB _,aa,aa,az,?_⟩
 ·have:=C.r i i0 aa;exact⟨this.1,aa⟩
 refine aY (λ(q:(dW×(((List (ByteArray×Int))×((List Int)×(List (Int×(Option (List Int))))))×Unit)))=>-1<=q.1.2.1/\q.1.2.1<=(L.length:Int)-1/\q.2.1=(cI L L.length,(c,lsD c L ((L.length:Int)-1-q.1.2.1).toNat))) (λ(q:(dW×(((List (ByteArray×Int))×((List Int)×(List (Int×(Option (List Int))))))×Unit)))=>(q.1.2.1+1).toNat) ?_ ⟨ae,cB _,by dsimp only;rw[show ((L.length:Int)-1-((L.length:Int)-1)).toNat=0 from by omega];rfl⟩;rintro⟨⟨_,i,_⟩,k,_⟩ next2 ⟨i0,i1,q⟩ hn2;intros
 try dsimp only at i0 i1 q hn2⊢
 subst q
 try dsimp only
 have P4:=v7 C ((L.length:Int)-1-i).toNat aa;rw[show (L.length:Int)-(((L.length:Int)-1-i).toNat:Int)=i+1 from by omega]at P4;have hln:=P4.n;refine aE (λhi=>?_) (λhi=>?_)
 ·have hi1:i<L.length:=aa
  have hr:=C.r i hi hi1;have hT:=Qa H C P4 hi hi1;have hs4:lsD c L ((L.length:Int)-1-(i-1)).toNat=lsS c L i.toNat (lsD c L ((L.length:Int)-1-i).toNat):=by rw[show ((L.length:Int)-1-(i-1)).toNat=((L.length:Int)-1-i).toNat+1 from by omega,lsD,show L.length-1-((L.length:Int)-1-i).toNat=i.toNat from by omega]
  have hes:(((lsD c L ((L.length:Int)-1-i).toNat).getD (c.getD i.toNat 0).toNat (0,none)).2.getD []).length<=6:=by
   generalize hq:(lsD c L ((L.length:Int)-1-i).toNat).getD (c.getD i.toNat 0).toNat (0,none)=q;obtain⟨x,o⟩:=q
   cases o with
   |none=>simp
   |some es=>obtain⟨a,_,a0,a1,_,h5⟩:=P4.v _ x es hq;have:=hpl a a0 a1;rw[h5]at this;exact this
  generalize lsD c L ((L.length:Int)-1-i).toNat=l at *;refine⟨hi,aa,hr.1,aa,hT,λ_=>⟨aa,hi⟩,λ_=>⟨aa,hr.1⟩,λ_=>⟨aa,by have:=hpl i hi hi1;omega⟩,cp (λ(q:((Unit×Unit)×(((List (ByteArray×Int))×((List Int)×(List (Int×(Option (List Int))))))×Unit)))=>q.2.1=(cI L L.length,(c,lsS c L i.toNat l))) ?_ ?_⟩
  ·rintro⟨_,k,_⟩ q;intros
   try dsimp only at q⊢
   subst q;exact⟨az,hn2 _ ⟨ae,ae,by dsimp only;rw[hs4]⟩ ae⟩
  ·intro kk hk;refine aC (λhb=>?_) (λhb=>?_)
   ·refine⟨hi,hi1,hi,hi1,by have:=hpl i hi hi1;omega,hr.1,aa,hk _ ?_⟩
    try dsimp only
    unfold lsS;rw[am hb]
   ·refine hk _ ?_
    try dsimp only
    unfold lsS;rw[ai (by rw[hb];decide)]
 clear hn2;have e:i=-1:=aa
 subst e;have e:((L.length:Int)-1-(-1)).toNat=L.length:=aa
 rw[e]at P4 hln⊢;generalize hl:lsD c L L.length=l at *;refine aY (λ(q:(y8×(((List (ByteArray×Int))×((List Int)×(List (Int×(Option (List Int))))))×Unit)))=>0<=q.1.2.1/\q.1.2.1<=l.length/\q.2.1=(cI L L.length,(c,l))/\∀b:Int,0<=b->b<q.1.2.1->((l.getD b.toNat (0,none)).2.getD []).length≠6) (λ(q:(y8×(((List (ByteArray×Int))×((List Int)×(List (Int×(Option (List Int))))))×Unit)))=>(l.length-q.1.2.1).toNat) ?_ ⟨cB _,ae,rfl,λb b0 b1=>by dsimp only at b1;omega⟩;rintro⟨⟨_,a,_⟩,k,_⟩ next3 ⟨a0,a1,q,hno⟩ hn3;intros
 try dsimp only at a0 a1 q hno hn3⊢
 subst q
 try dsimp only
 refine aE (λha=>?_) (λha=>?_)
 ·refine⟨a0,ha,aC (λh6=>?_) (λh6=>?_)⟩
  ·have h6:=iT h6;have h6:((l.getD a.toNat (0,none)).2.getD []).length=6:=aa
   exact absurd h6 (KZ.1 hs a a0 ha)
  ·have h6:=iH.1 h6;refine⟨az,hn3 _ ⟨ae,ae,rfl,λb b0 b1=>?_⟩ ae⟩
   try dsimp only at b1
   by_cases e:b=a
   ·subst e;omega
   ·exact hno b b0 aa
 ·have ea:a=l.length:=aa
  subst ea;subst hl;rfl
theorem US:aN Tryz.prog 59 qy:=ctb (au Ms (au ME (au Mm (au Mi (au uM (au GL (au Nl (au CN (au Gq aQ))))))))) Qn 59 Tryz.f59 qy Ma [(17,17),(1,1500),(20,280002),(21,507),(8,10),(26,21),(27,517)] (λx K=>Gr x.1 K) (λx h1 h2=>UU x.1 h1 h2)
def Gu(s:aB)(K:bV rW.rt->Prop):Prop:=Cs s (λ_=>False) K
theorem UX(s:aB)(hok:ab (okL rW.args (s,())))(hpre:ab (rW.pre (s,()))):Gu s (λr=>r=rW.res (s,())):=by
 simp only[rW,fO,wA,okL,T.oks,T.ok,ap,ab,aL,aA,bf]at hok hpre
 try dsimp only[T.den]at hok hpre
 unfold Gu Cs;obtain⟨hs,hS⟩:=hpre;clear hok;obtain⟨s0,s8,f8,tf,_,_,e8,re,_⟩:=fH hS;unfold io at hs;refine aC (λhg=>⟨hg,s0,aa,aa,tf,aC (λh=>by cases h) (λ_=>?_)⟩) (λhg=>⟨hg,s0,aa,aa,tf,aC (λ_=>rfl) (λh=>by cases h)⟩);rw[hg,ji]at hs;have H:=vh s0 aa hg;have hlA:lsA s (bI s).1=lsD (fb s (bI s).1) (bI s).1 (bI s).1.length:=rfl;have hcA:fb s (bI s).1=cq (dn (jW s (cI (bI s).1 (bI s).1.length,([],[])) (bI s).1 (bI s).1.length)):=rfl;rw[hlA,hcA]at hs;clear hlA hcA;generalize (bI s).1=L at *;have hl4:=H.le;have hpl:∀i:Int,0<=i->i<L.length->(L.getD i.toNat (0,[])).2.length<=6:=λi i0 i1=>(iU (H.ok _ (gA (i:=i.toNat) aa))).2.1;refine aY (λ(q:(dW×(((List (ByteArray×Int))×((List Int)×(List (Int×(Option (List Int))))))×Unit)))=>0<=q.1.2.1/\q.1.2.1<=L.length/\q.2.1=(cI L q.1.2.1.toNat,([],[]))) (λ(q:(dW×(((List (ByteArray×Int))×((List Int)×(List (Int×(Option (List Int))))))×Unit)))=>(L.length-q.1.2.1).toNat) ?_ ⟨cB _,ae,rfl⟩;rintro⟨⟨_,i,_⟩,k,_⟩ next ⟨i0,i1,q⟩ hnx
 intros
 try dsimp only at i0 i1 q hnx⊢
 subst q
 try dsimp only
 refine aE (λhi=>?_) (λhi=>?_)
 ·have hp:=hpl i i0 hi;refine⟨i0,hi,aa,bh (by have:=Jq L i.toNat;omega),az,hnx _ ⟨ae,ae,?_⟩ ae⟩
  try dsimp only
  rw[show (i+1).toNat=i.toNat+1 from by omega];simp only[cI];rw[jI i0]
 clear hnx;have e:i=L.length:=aa
 subst e;rw[bB];refine⟨aa,aa,?_⟩;have P:SetP s L (cI L L.length,([],[])):=⟨hS,H,rfl⟩;refine aY (λ(q:(dy×(((List (ByteArray×Int))×((List Int)×(List (Int×(Option (List Int))))))×cV)))=>0<=q.1.2.2.1/\q.1.2.2.1<=L.length/\q.2.1=(cI L L.length,([],[]))/\q.2.2.1=jW s (cI L L.length,([],[])) L q.1.2.2.1.toNat) (λ(q:(dy×(((List (ByteArray×Int))×((List Int)×(List (Int×(Option (List Int))))))×cV)))=>(L.length-q.1.2.2.1).toNat) ?_ ⟨cB _,ae,rfl,rfl⟩;rintro⟨⟨_,_,w,_⟩,k,j,_⟩ next1 ⟨w0,w1,q1,q2⟩ hn1;intros
 try dsimp only at w0 w1 q1 q2 hn1⊢
 subst q1;subst q2;have Q:=Bi P w.toNat aa;refine aE (λhw=>?_) (λhw=>?_)
 ·refine⟨w0,hw,?_⟩;refine aY (λ(q:(nG×(((List (ByteArray×Int))×((List Int)×(List (Int×(Option (List Int))))))×y7)))=>0<=q.1.2.2.2.2.1/\q.1.2.2.2.2.1<=s.2.2.2.1.length/\q.2.1=(cI L L.length,([],[]))/\q.2.2.1=jE s (cI L L.length,([],[])) (L.getD w.toNat (0,[])) w q.1.2.2.2.2.1.toNat (jW s (cI L L.length,([],[])) L w.toNat)/\q.2.2.2.1=w/\q.2.2.2.2.1=L.getD w.toNat (0,[])) (λ(q:(nG×(((List (ByteArray×Int))×((List Int)×(List (Int×(Option (List Int))))))×y7)))=>(s.2.2.2.1.length-q.1.2.2.2.2.1).toNat) ?_ ⟨cB _,ae,rfl,rfl,rfl,rfl⟩;rintro⟨⟨_,_,_,_,e,_⟩,k,j,w',p,_⟩ next2 ⟨e0,e1,q1,q2,q3,q4⟩ hn2;intros
  try dsimp only at e0 e1 q1 q2 q3 q4 hn2⊢
  subst q1;subst q2;subst q3;subst q4;refine aE (λhe=>?_) (λhe=>?_)
  ·have Qe:=EQ P Q (w:=w'.toNat) aa e.toNat aa;rw[jI w0]at Qe;refine⟨e0,he,e0,aa,T8 P Qe w0 hw e0 he,az,hn2 _ ⟨ae,ae,rfl,?_,rfl,rfl⟩ ae⟩
   try dsimp only
   rw[show (e+1).toNat=e.toNat+1 from by omega];rfl
  ·have ee:e=s.2.2.2.1.length:=aa
   subst ee;refine⟨az,hn1 _ ⟨ae,ae,rfl,?_⟩ ae⟩
   try dsimp only
   rw[show (w'+1).toNat=w'.toNat+1 from by omega];simp only[jW];rw[jI w0,bB]
 clear hn1;have e:w=L.length:=aa
 subst e;rw[bB]at Q⊢;have C:=EB Q;have hjl:=Q.n;generalize hc:cq (dn (jW s (cI L L.length,([],[])) L L.length))=c at *;have hcn:=C.n;obtain⟨cl0,cl1⟩:=C.le;refine⟨Q.U,aa,aa,fF.2 λi i0 i1=>?_,cl0,cB _,aa,aa,az,?_⟩
 ·have:=C.r i i0 aa;exact⟨this.1,aa⟩
 refine aY (λ(q:(dW×(((List (ByteArray×Int))×((List Int)×(List (Int×(Option (List Int))))))×Unit)))=>-1<=q.1.2.1/\q.1.2.1<=(L.length:Int)-1/\q.2.1=(cI L L.length,(c,lsD c L ((L.length:Int)-1-q.1.2.1).toNat))) (λ(q:(dW×(((List (ByteArray×Int))×((List Int)×(List (Int×(Option (List Int))))))×Unit)))=>(q.1.2.1+1).toNat) ?_ ⟨ae,cB _,by dsimp only;rw[show ((L.length:Int)-1-((L.length:Int)-1)).toNat=0 from by omega];rfl⟩;rintro⟨⟨_,i,_⟩,k,_⟩ next2 ⟨i0,i1,q⟩ hn2;intros
 try dsimp only at i0 i1 q hn2⊢
 subst q
 try dsimp only
 have P4:=v7 C ((L.length:Int)-1-i).toNat aa;rw[show (L.length:Int)-(((L.length:Int)-1-i).toNat:Int)=i+1 from by omega]at P4;have hln:=P4.n;refine aE (λhi=>?_) (λhi=>?_)
 ·have hi1:i<L.length:=aa
  have hr:=C.r i hi hi1;have hT:=Qa H C P4 hi hi1;have hs4:lsD c L ((L.length:Int)-1-(i-1)).toNat=lsS c L i.toNat (lsD c L ((L.length:Int)-1-i).toNat):=by rw[show ((L.length:Int)-1-(i-1)).toNat=((L.length:Int)-1-i).toNat+1 from by omega,lsD,show L.length-1-((L.length:Int)-1-i).toNat=i.toNat from by omega]
  have hes:(((lsD c L ((L.length:Int)-1-i).toNat).getD (c.getD i.toNat 0).toNat (0,none)).2.getD []).length<=6:=by
   generalize hq:(lsD c L ((L.length:Int)-1-i).toNat).getD (c.getD i.toNat 0).toNat (0,none)=q;obtain⟨x,o⟩:=q
   cases o with
   |none=>simp
   |some es=>obtain⟨a,_,a0,a1,_,h5⟩:=P4.v _ x es hq;have:=hpl a a0 a1;rw[h5]at this;exact this
  generalize lsD c L ((L.length:Int)-1-i).toNat=l at *;refine⟨hi,aa,hr.1,aa,hT,λ_=>⟨aa,hi⟩,λ_=>⟨aa,hr.1⟩,λ_=>⟨aa,by have:=hpl i hi hi1;omega⟩,cp (λ(q:((Unit×Unit)×(((List (ByteArray×Int))×((List Int)×(List (Int×(Option (List Int))))))×Unit)))=>q.2.1=(cI L L.length,(c,lsS c L i.toNat l))) ?_ ?_⟩
  ·rintro⟨_,k,_⟩ q;intros
   try dsimp only at q⊢
   subst q;exact⟨az,hn2 _ ⟨ae,ae,by dsimp only;rw[hs4]⟩ ae⟩
  ·intro kk hk;refine aC (λhb=>?_) (λhb=>?_)
   ·refine⟨hi,hi1,hi,hi1,by have:=hpl i hi hi1;omega,hr.1,aa,hk _ ?_⟩
    try dsimp only
    unfold lsS;rw[am hb]
   ·refine hk _ ?_
    try dsimp only
    unfold lsS;rw[ai (by rw[hb];decide)]
 clear hn2;have e:i=-1:=aa
 subst e;have e:((L.length:Int)-1-(-1)).toNat=L.length:=aa
 rw[e]at P4 hln⊢;generalize hl:lsD c L L.length=l at *;refine aY (λ(q:(y8×(((List (ByteArray×Int))×((List Int)×(List (Int×(Option (List Int))))))×Unit)))=>0<=q.1.2.1/\q.1.2.1<=l.length/\q.2.1=(cI L L.length,(c,l))/\∀b:Int,0<=b->b<q.1.2.1->((l.getD b.toNat (0,none)).2.getD []).length≠6) (λ(q:(y8×(((List (ByteArray×Int))×((List Int)×(List (Int×(Option (List Int))))))×Unit)))=>(l.length-q.1.2.1).toNat) ?_ ⟨cB _,ae,rfl,λb b0 b1=>by dsimp only at b1;omega⟩;rintro⟨⟨_,a,_⟩,k,_⟩ next3 ⟨a0,a1,q,hno⟩ hn3;intros
 try dsimp only at a0 a1 q hno hn3⊢
 subst q
 try dsimp only
 refine aE (λha=>?_) (λha=>?_)
 ·refine⟨a0,ha,aC (λh6=>?_) (λh6=>?_)⟩
  ·have h6:=iT h6;have h6:((l.getD a.toNat (0,none)).2.getD []).length=6:=aa
   rfl
  ·have h6:=iH.1 h6;refine⟨az,hn3 _ ⟨ae,ae,rfl,λb b0 b1=>?_⟩ ae⟩
   try dsimp only at b1
   by_cases e:b=a
   ·subst e;omega
   ·exact hno b b0 aa
 ·have ea:a=l.length:=aa
  subst ea;have:=KZ.2 hno;rw[this]at hs;cases hs
theorem UT:aN Tryz.prog 59 rW:=ctb (au Ms (au ME (au Mm (au Mi (au uM (au GL (au Nl (au CN (au Gq aQ))))))))) Qn 59 Tryz.f59 rW Ma [(17,17),(1,1500),(20,280002),(21,507),(8,10),(26,21),(27,517)] (λx K=>Gu x.1 K) (λx h1 h2=>UX x.1 h1 h2)
theorem Me:aN Tryz.prog 59 Mg:=B9 US UT
def j8(k:cF)(s:aB)(a b:Int):Int:=if dU [(k.2.2.getD a.toNat (0,[])).1,(aV s (k.2.2.getD a.toNat (0,[]))).1] [(k.2.2.getD b.toNat (0,[])).1,(aV s (k.2.2.getD b.toNat (0,[]))).1]≠0 then dU [(k.2.2.getD a.toNat (0,[])).1,(aV s (k.2.2.getD a.toNat (0,[]))).1] [(k.2.2.getD b.toNat (0,[])).1,(aV s (k.2.2.getD b.toNat (0,[]))).1]else iY (k.2.2.getD a.toNat (0,[])) (k.2.2.getD b.toNat (0,[]))
def pe:Ct:=⟨[aq,aq,yg,(.pt kH)],[false,false,false,false],λx=>[0<=x.1,x.1<x.2.2.1.2.2.length,0<=x.2.1,x.2.1<x.2.2.1.2.2.length,x.2.2.2.1.2.1.length<=x.2.2.2.1.2.2.1.length,inK .i64 (x.2.2.2.1.1-1),PthsR x.2.2.1.2.2],[(false,cA)],λx=>(j8 x.2.2.1 x.2.2.2.1 x.1 x.2.1,()),false,none⟩
def aha:FuncId->Option Ct:=lkp [(34,mS),(97,mW),(93,qB)]
def GI(a b:Int)(k:cF)(s:aB)(K:jB):Prop:=let e:=k.2.2.getD b.toNat (0,[]);let d:=k.2.2.getD a.toNat (0,[]);let c:=dU [d.1,(aV s d).1] [e.1,(aV s e).1];Ix a k.2.2.length<|Ix b k.2.2.length<|s.2.1.length<=s.2.2.1.length/\(Ik (s.1-1)<|s.2.1.length<=s.2.2.1.length/\(Ik (s.1-1)<|cnd (c != 0) (K (c,())) (d.2.length<=1000000/\e.2.length<=1000000/\K (iY d e,()))))
theorem VI(a b:Int)(k:cF)(s:aB)(hok:ab (okL pe.args (a,b,k,s,())))(hpre:ab (pe.pre (a,b,k,s,()))):GI a b k s (λr=>r=pe.res (a,b,k,s,())):=by
 simp only[pe,okL,T.oks,T.ok,ap,ab,aL,aA,bf]at hok hpre
 try dsimp only[T.den]at hok hpre
 delta GI Ik Ix
 dsimp -proj -eta only;obtain⟨a0,a1,b0,b1,h1,h2,hP⟩:=hpre;have ea:=hP.e _ (cC k.2.2 (0,[]) a0 a1);have eb:=hP.e _ (cC k.2.2 (0,[]) b0 b1);simp only[pe,j8];refine⟨a0,a1,b0,b1,h1,h2,h1,h2,aC (λh=>?_) (λh=>?_)⟩
 ·rw[qu]at h;rw[am h]
 ·have h:=fT.1 h;rw[ai (λhh=>hh h)];exact⟨ea,eb,rfl⟩
theorem Mo:aN Tryz.prog 96 pe:=ctb (au u6 (au H7 (au GL aQ))) aR 96 Tryz.f96 pe .n [(1,2016)] (λx K=>GI x.1 x.2.1 x.2.2.1 x.2.2.2.1 K) (λx h1 h2=>VI x.1 x.2.1 x.2.2.1 x.2.2.2.1 h1 h2)
structure OrdP (k:cF) (s:aB) (x:aw):Prop where
 h1:s.2.1.length<=s.2.2.1.length
 h2:inK .i64 (s.1-1)
 hP:PthsR k.2.2
 e:∀a∈x,0<=a/\a<k.2.2.length
def gP(k:cF)(s:aB)(x:aw):List Int:=pL (j8 k s) x
def UQ:Wt:=⟨cd,[(.fn 96 (.p yg (.p (.pt kH) .u)))],[false],λx y=>[OrdP y.1.1 y.1.2.1 x],λx y=>gP y.1.1 y.1.2.1 x,[],λx y=>(()),0⟩
def LZ:Ct:=iO UQ
def Px:Go.Shelf.Ren:=⟨λ|6=>95|15=>123|14=>122|28=>137|29=>138|20=>129|21=>130|22=>131|23=>132|24=>133|25=>134|26=>135|27=>136|46=>140|47=>141|48=>142|49=>143|50=>144|57=>145|n=>n,λ|22=>24|24=>2|25=>153|3=>3|39=>104|0=>0|53=>206|55=>72|4=>4|46=>199|45=>198|50=>203|5=>5|9=>9|66=>209|70=>213|76=>215|77=>216|n=>n,λ|n=>n⟩
theorem agw:Go.Proofs.SlLaysF.n6 Tryz.prog Px:={
 mixed:=by kernel_rfl
 f6:=⟨Tryz.f95.name,bz,Tryz.func95.trans (congrArg some (by kernel_rfl))⟩
 f14:=⟨Tryz.f122.name,bz,Tryz.func122.trans (congrArg some (by kernel_rfl))⟩
 f15:=Tryz.func123.trans (congrArg some (by kernel_rfl))
 f20:=⟨Tryz.f129.name,bz,Tryz.func129.trans (congrArg some (by kernel_rfl))⟩
 f21:=⟨Tryz.f130.name,bz,Tryz.func130.trans (congrArg some (by kernel_rfl))⟩
 f22:=⟨Tryz.f131.name,bz,Tryz.func131.trans (congrArg some (by kernel_rfl))⟩
 f23:=⟨Tryz.f132.name,bz,Tryz.func132.trans (congrArg some (by kernel_rfl))⟩
 f24:=⟨Tryz.f133.name,bz,Tryz.func133.trans (congrArg some (by kernel_rfl))⟩
 f25:=⟨Tryz.f134.name,bz,Tryz.func134.trans (congrArg some (by kernel_rfl))⟩
 f26:=⟨Tryz.f135.name,bz,Tryz.func135.trans (congrArg some (by kernel_rfl))⟩
 f27:=⟨Tryz.f136.name,bz,Tryz.func136.trans (congrArg some (by kernel_rfl))⟩
 f28:=Tryz.func137.trans (congrArg some (by kernel_rfl))
 f29:=Tryz.func138.trans (congrArg some (by kernel_rfl))
 f46:=⟨Tryz.f140.name,bz,Tryz.func140.trans (congrArg some (by kernel_rfl))⟩
 f47:=Tryz.func141.trans (congrArg some (by kernel_rfl))
 f48:=Tryz.func142.trans (congrArg some (by kernel_rfl))
 f49:=⟨Tryz.f143.name,bz,Tryz.func143.trans (congrArg some (by kernel_rfl))⟩
 f50:=⟨Tryz.f144.name,bz,Tryz.func144.trans (congrArg some (by kernel_rfl))⟩
 f57:=⟨Tryz.f145.name,bz,Tryz.func145.trans (congrArg some (by kernel_rfl))⟩
 t0:=Tryz.underlying0
 a0:=Tryz.isAgg0
 z0:=Tryz.sizeOf0
 v0:=Tryz.zeroValue0
 t3:=Tryz.underlying3
 a3:=Tryz.isAgg3
 z3:=Tryz.sizeOf3
 v3:=Tryz.zeroValue3
 t4:=Tryz.underlying4
 a4:=Tryz.isAgg4
 z4:=Tryz.sizeOf4
 v4:=Tryz.zeroValue4
 t5:=Tryz.underlying5
 a5:=Tryz.isAgg5
 z5:=Tryz.sizeOf5
 v5:=Tryz.zeroValue5
 t9:=Tryz.underlying9
 a9:=Tryz.isAgg9
 z9:=Tryz.sizeOf9
 v9:=Tryz.zeroValue9
 t22:=Tryz.underlying24
 a22:=Tryz.isAgg24
 z22:=Tryz.sizeOf24
 v22:=Tryz.zeroValue24
 a24:=Tryz.isAgg2
 z24:=Tryz.sizeOf2
 t25:=Tryz.underlying153
 a25:=Tryz.isAgg153
 z25:=Tryz.sizeOf153
 v25:=Tryz.zeroValue153
 t39:=Tryz.underlying104
 a39:=Tryz.isAgg104
 z39:=Tryz.sizeOf104
 v39:=Tryz.zeroValue104
 t45:=Tryz.underlying198
 a45:=Tryz.isAgg198
 z45:=Tryz.sizeOf198
 v45:=Tryz.zeroValue198
 t46:=Tryz.underlying199
 a46:=Tryz.isAgg199
 z46:=Tryz.sizeOf199
 v46:=Tryz.zeroValue199
 t50:=Tryz.underlying203
 a50:=Tryz.isAgg203
 z50:=Tryz.sizeOf203
 v50:=Tryz.zeroValue203
 t53:=Tryz.underlying206
 a53:=Tryz.isAgg206
 z53:=Tryz.sizeOf206
 v53:=Tryz.zeroValue206
 t55:=Tryz.underlying72
 a55:=Tryz.isAgg72
 z55:=Tryz.sizeOf72
 v55:=Tryz.zeroValue72
 t66:=Tryz.underlying209
 a66:=Tryz.isAgg209
 z66:=Tryz.sizeOf209
 v66:=Tryz.zeroValue209
 t70:=Tryz.underlying213
 a70:=Tryz.isAgg213
 z70:=Tryz.sizeOf213
 v70:=Tryz.zeroValue213
 t76:=Tryz.underlying215
 a76:=Tryz.isAgg215
 z76:=Tryz.sizeOf215
 v76:=Tryz.zeroValue215
 t77:=Tryz.underlying216
 a77:=Tryz.isAgg216
 z77:=Tryz.sizeOf216
 v77:=Tryz.zeroValue216 }
theorem Jz:∀a b:List Int,dU b a=- dU a b
 |[],[]|[],_::_|_::_,[]=>rfl
 |x::a,y::b=>by
  have ih:=Jz a b;simp only[dU];by_cases h:x=y
  ·rw[am h,am h.symm];exact ih
  ·rw[ai h,ai (dg h)];by_cases h2:x<y
   ·rw[am h2,ai aa];rfl
   ·rw[ai h2,am aa]
theorem DW:∀a b c:List Int,dU a b<0->dU b c<0->dU a c<0
 |[],[],_,h,_|[],_::_,[],_,h=>by simp[dU]at h
 |[],_::_,_::_,_,_=>by simp[dU]
 |_::_,[],_,h,_|_::_,_::_,[],_,h=>by simp[dU]at h
 |x::a,y::b,z::c,h,g=>by
  have ih:=DW a b c;simp only[dU]at h g⊢;by_cases h1:x=y
  ·by_cases h2:y=z
   ·rw[am h1]at h;rw[am h2]at g;rw[am (h1.trans h2)];exact ih h g
   ·rw[ai h2]at g;rw[h1,ai h2];exact g
  ·rw[ai h1]at h;have hxy:x<y:=by by_cases h3:x<y;exact h3;rw[ai h3]at h;omega
   by_cases h2:y=z
   ·rw[←h2,ai h1,am hxy];omega
   ·rw[ai h2]at g;have hyz:y<z:=by by_cases h3:y<z;exact h3;rw[ai h3]at g;omega
    rw[ai aa,am aa];omega
theorem cmp2:dU [x,e] [y,f]=if x=y then (if e=f then 0 else if e<f then -1 else 1)else if x<y then -1 else 1:=by simp only[dU]
def y3(k:cF)(s:aB)(a b:Int):Prop:=(k.2.2.getD a.toNat (0,[])).1<(k.2.2.getD b.toNat (0,[])).1\/((k.2.2.getD a.toNat (0,[])).1=(k.2.2.getD b.toNat (0,[])).1/\((aV s (k.2.2.getD a.toNat (0,[]))).1<(aV s (k.2.2.getD b.toNat (0,[]))).1\/((aV s (k.2.2.getD a.toNat (0,[]))).1=(aV s (k.2.2.getD b.toNat (0,[]))).1/\((k.2.2.getD a.toNat (0,[])).2.length<(k.2.2.getD b.toNat (0,[])).2.length\/((k.2.2.getD a.toNat (0,[])).2.length=(k.2.2.getD b.toNat (0,[])).2.length/\dU (k.2.2.getD a.toNat (0,[])).2 (k.2.2.getD b.toNat (0,[])).2<0)))))
theorem FA:j8 k s a b<0<->y3 k s a b:=by
 unfold j8 y3 iY;rw[cmp2];generalize k.2.2.getD a.toNat (0,[])=p;generalize k.2.2.getD b.toNat (0,[])=q;generalize (aV s p).1=e;generalize (aV s q).1=f;by_cases h1:p.1=q.1
 ·rw[am h1];by_cases h2:e=f
  ·rw[am h2,ai ak];split<;>omega
  ·rw[ai h2];by_cases h3:e<f
   ·rw[am h3,am bz];omega
   ·rw[ai h3,am bz];omega
 ·rw[ai h1];by_cases h3:p.1<q.1
  ·rw[am h3,am bz];omega
  ·rw[ai h3,am bz];omega
theorem agu(a:Int):¬j8 k s a a<0:=by rw[FA];unfold y3;rw[xF.2 rfl];omega
theorem o_tr{c:Int}(h:j8 k s a b<0)(g:j8 k s b c<0):j8 k s a c<0:=by rw[FA]at h g⊢;unfold y3 at h g⊢;have:=DW (k.2.2.getD a.toNat (0,[])).2 (k.2.2.getD b.toNat (0,[])).2 (k.2.2.getD c.toNat (0,[])).2;omega
theorem agf(h:¬j8 k s a b<0)(g:¬j8 k s b a<0):k.2.2.getD a.toNat (0,[])=k.2.2.getD b.toNat (0,[]):=by
 rw[FA]at h g;unfold y3 at h g;have h1:=Jz (k.2.2.getD a.toNat (0,[])).2 (k.2.2.getD b.toNat (0,[])).2;have h2:dU (k.2.2.getD a.toNat (0,[])).2 (k.2.2.getD b.toNat (0,[])).2=0:=aa
 have h3:=xF.1 h2;exact Prod.ext aa h3
theorem afz{c:Int}(e:k.2.2.getD a.toNat (0,[])=k.2.2.getD b.toNat (0,[])):j8 k s a c=j8 k s b c:=by unfold j8;rw[e]
theorem Lq(k:cF)(s:aB)(x:aw):SwoR (j8 k s) x:={
 irrefl:=λa _=>agu a
 trans:=λa _ b _ c _ h g=>o_tr h g
 ntrans:=λa _ b _ c _ h g hh=>by
  by_cases h1:j8 k s b a<0
  ·exact g (o_tr h1 hh)
  ·rw[afz (agf h h1)]at hh;exact g hh }
theorem Zu(k:cF)(s:aB)(x:aw):(gP k s x).Perm x:=J' (Lq k s x)
theorem YX(k:cF)(s:aB)(x:aw):(gP k s x).Pairwise λa b=>¬j8 k s b a<0:=Zg (Lq k s x)
theorem UP:aN Tryz.prog 95 LZ:=by have h:=aau (P:=Tryz.prog) (ρ:=Px) agw cA rfl (sS (fn:=Tryz.f95) (c:=fa Tryz.f95) (by kernel_rfl) (by kernel_rfl) (by kernel_rfl)) (g:=96) (cs:=[.pt B3,.pt kH]) (pre:=pe.pre) (res:=pe.res) (λc hc=>by simp only[cQ,w8,or_false]at hc;rcases hc with rfl|rfl<;>rfl) Mo;refine⟨h.1,λA w u x us y S z a b c d e=>h.2 A w u x us y S z a b c d ?_⟩;have e:OrdP y.1.1 y.1.2.1 x:=e.1;exact⟨λp hp q hq=>⟨(e.e p hp).1,(e.e p hp).2,(e.e q hq).1,(e.e q hq).2,e.h1,e.h2,e.hP,trivial⟩,Lq _ _ x,trivial⟩
def ze:Ct:=⟨[kH,B3],[false,false],λx=>[x.2.1.2.2.length<=1000000,OrdP x.2.1 x.1 (cJ x.2.1.2.2.length)],[(false,cd)],λx=>(gP x.2.1 x.1 (cJ x.2.1.2.2.length),()),false,none⟩
def ahl:FuncId->Option Ct:=lkp [(94,sE),(95,LZ),(96,pe)]
def GQ(s:aB)(k:cF)(K:oO):Prop:=let a:=k.2.2.length;0<=(a:Int)/\(a:Int)<=1099511627776/\OrdP k s (cJ (a:Int))/\K (gP k s (cJ (a:Int)),())
theorem Wg(s:aB)(k:cF):Mh ze (s,k,()) (GQ s k):=by
 intro hok hpre;simp only[ze,okL,T.oks,T.ok,ap,ab,aL,aA,bf]at hok hpre
 try dsimp only[T.den]at hok hpre
 delta GQ
 dsimp -proj -eta only;obtain⟨h1,h2⟩:=hpre;refine⟨aa,aa,h2,rfl⟩
theorem M5:aN Tryz.prog 60 ze:=ctb (au NA (au UP (au Mo aQ))) aR 60 Tryz.f60 ze .n [] (λx K=>GQ x.1 x.2.1 K) (λx h1 h2=>Wg x.1 x.2.1 h1 h2)
def ofR(k:cF)(x:Int)(es:aw):Int:=k.2.1.getD (da k x es).toNat 0
def Br(k:cF)(p:aO)(e:Int):aO:=k.2.2.getD (ofR k p.1 (p.2++[e])).toNat (0,[])
def iQ(k:cF)(l:bg)(f:Int)(es:aw):aO:=es.foldl (Br k) (l.getD f.toNat (0,[]))
def j7(k:cF)(number:aw)(l:bg)(f g:Int):Int:=number.getD (ofR k (iQ k l f (l.getD g.toNat (0,[])).2).1 (iQ k l f (l.getD g.toNat (0,[])).2).2).toNat 0
structure OfP (k:cF) (x:Int) (es:aw) (n:Int):Prop where
 le:es.length<=1000000
 a0:0<=da k x es
 a1:da k x es<k.2.1.length
 o0:0<=ofR k x es
 o1:ofR k x es<n
structure PrvP (k:cF) (number:aw) (l:bg) (f g:Int):Prop where
 f0:0<=f
 f1:f<l.length
 g0:0<=g
 g1:g<l.length
 lg:(l.getD g.toNat (0,[])).2.length<=1000000
 st:∀i:Int,0<=i->i<(l.getD g.toNat (0,[])).2.length->OfP k (iQ k l f ((l.getD g.toNat (0,[])).2.take i.toNat)).1 ((iQ k l f ((l.getD g.toNat (0,[])).2.take i.toNat)).2++[(l.getD g.toNat (0,[])).2.getD i.toNat 0]) k.2.2.length
 en:OfP k (iQ k l f (l.getD g.toNat (0,[])).2).1 (iQ k l f (l.getD g.toNat (0,[])).2).2 number.length
def q9:Ct:=⟨[aq,aq,(.pt (.pt lw)),yg,By],[false,false,false,false,false],λx=>[PrvP x.2.2.2.1 x.2.2.2.2.1 x.2.2.1.2.2.2 x.1 x.2.1],[(false,cA)],λx=>(j7 x.2.2.2.1 x.2.2.2.2.1 x.2.2.1.2.2.2 x.1 x.2.1,()),false,none⟩
def Vk:Ann:=(.s .n (.s .n (.s (.s .n (.l [(8,(.ad 8 [.de])),(27,(.d aq))] [(8,ER)] [3,4,25,26] .n)) .n)))
def ag7:FuncId->Option Ct:=lkp [(62,wC),(37,sO)]
def G7(f g:Int)(out:T.den lw)(k:cF)(number:aw)(K:jB):Prop:=let e:=out.2.2.2.getD g.toNat (0,[]);Ix f out.2.2.2.length<|Ix g out.2.2.2.length<|aI (S:=(dW×(aS×Unit))) (λa b=>let j:=a.1.2.1;let i:=a.2.1.2;let h:=da k a.2.1.1 i;let m:=k.2.1.getD h.toNat 0;let c:=e.2.getD j.toNat 0;let d:=da k a.2.1.1 (i++[c]);let l:=k.2.1.getD d.toNat 0;Iq j<|Iq a.2.1.1<|Ol i<|cnd (decide (j<(e.2.length:Int))) (Ix j e.2.length<|i.length<=1099511627776/\aX i.length [c].length 8/\(i++[c]).length<=1000000/\(Ix d k.2.1.length<|Ix l k.2.2.length<|Ik (j+1)<|b (((),j+1,()),k.2.2.getD l.toNat (0,[]),()))) (i.length<=1000000/\(Ix h k.2.1.length<|Ix m number.length<|K (number.getD m.toNat 0,())))) (((),0,()),out.2.2.2.getD f.toNat (0,[]),())
theorem Vx(f g:Int)(out:T.den lw)(k:cF)(number:aw)(hok:ab (okL q9.args (f,g,out,k,number,())))(hpre:ab (q9.pre (f,g,out,k,number,()))):G7 f g out k number (λr=>r=q9.res (f,g,out,k,number,())):=by
 simp only[q9,okL,T.oks,T.ok,ap,ab,aL,aA,bf]at hok hpre
 try dsimp only[T.den]at hok hpre
 delta G7 Ik Iq Ix Ol
 dsimp -proj -eta only;have P:=hpre;clear hpre hok;refine⟨P.f0,P.f1,P.g0,P.g1,?_⟩;generalize hes:(out.2.2.2.getD g.toNat (0,[])).2=es;have st:=P.st;have lg:=P.lg;have en:=P.en;rw[hes]at st en lg;refine aY (λ(q:(dW×(aS×Unit)))=>0<=q.1.2.1/\q.1.2.1<=es.length/\q.2.1=iQ k out.2.2.2 f (es.take q.1.2.1.toNat)) (λ(q:(dW×(aS×Unit)))=>(es.length-q.1.2.1).toNat) ?_ ⟨cB _,ae,rfl⟩;rintro⟨⟨_,i,_⟩,p,_⟩ next ⟨i0,i1,q⟩ hnx
 intros
 try dsimp only at i0 i1 q hnx⊢
 subst q;refine aE (λhi=>?_) (λhi=>?_)
 ·have O:=st i i0 hi;have le:=O.le;rw[bj]at le;simp only[aH,aM]at le;refine⟨i0,hi,aa,bh (by simp only[aH,aM];omega),O.le,O.a0,O.a1,O.o0,O.o1,az,hnx _ ⟨ae,ae,?_⟩ ae⟩
  try dsimp only
  unfold iQ;rw[fY es 0 i0 hi,oY];rfl
 ·have e:i=es.length:=aa
  subst e;rw[jv _ (cB _)];refine⟨en.le,en.a0,en.a1,en.o0,en.o1,?_⟩;simp only[q9,j7];rw[hes];rfl
theorem G4:aN Tryz.prog 64 q9:=ctb (au G9 (au uM aQ)) aR 64 Tryz.f64 q9 Vk [(5,95012),(7,7)] (λx K=>G7 x.1 x.2.1 x.2.2.1 x.2.2.2.1 x.2.2.2.2.1 K) (λx h1 h2=>Vx x.1 x.2.1 x.2.2.1 x.2.2.2.1 x.2.2.2.2.1 h1 h2)
structure TabRP (o:aF) (a:aw) (c:aF) (b:aw):Prop where
 sh:ShapeP c
 lb:b.length=c.2.1.length
 wb:bD b c.2.1.length=true
 la:a.length=c.2.1.length
 lo:o.2.1.length=c.2.1.length
 lt:o.2.2.1.length=c.2.1.length
 co:∀f g:Int,0<=f->f<c.2.1.length->0<=g->g<c.2.1.length->o.2.2.1.getD f.toNat 0=o.2.1.getD g.toNat 0->c.2.2.1.getD (b.getD f.toNat 0).toNat 0=c.2.1.getD (b.getD g.toNat 0).toNat 0
def vr(o:aF)(F:yA)(f g:Int):Int:=if o.2.2.1.getD f.toNat 0=o.2.1.getD g.toNat 0 then F f g else -1
def pz(o:aF)(F:yA):List (List Int):=be o.2.1.length λf=>be o.2.1.length λg=>vr o F f g
def tbT(F:yA)(n:Nat)(i j:Int):List (List Int):=be n λe=>if e=i then (be n λg=>if g<j then F i g else 0)else if e<i then be n (F e)else []
theorem Kg{j:Int}:(tbT F n i j).length=n:=bG _
theorem JL{j:Int}(i0:0<=i)(i1:i<n):(tbT F n i j).getD i.toNat []=be n λg=>if g<j then F i g else 0:=by unfold tbT;rw[iJ i0 i1,am rfl]
theorem afk{F:yA}{n:Nat}{i j:Int}(i0:0<=i)(i1:i<n)(j0:0<=j)(j1:j<n):(tbT F n i j).set i.toNat (((tbT F n i j).getD i.toNat []).set j.toNat (F i j))=tbT F n i (j+1):=by
 rw[JL i0 i1,mb j0 j1];unfold tbT;rw[mb i0 i1];refine dJ λe _ _=>?_;by_cases h:e=i
 ·rw[am h,am h];refine dJ λg _ _=>?_;by_cases hg:g=j
  ·rw[am hg,am aa,hg]
  ·rw[ai hg];by_cases h2:g<j
   ·rw[am h2,am aa]
   ·rw[ai h2,ai aa]
 ·rw[ai h,ai h,ai h]
theorem w_{A:df}{i j:Nat}{w v:Int}(h:i<A.length):(A.set i ((A.getD i []).set j w)).set i (((A.set i ((A.getD i []).set j w)).getD i []).set j v)=A.set i ((A.getD i []).set j v):=by rw[ly _ _ _ _ _ h,am rfl,List.set_set,List.set_set]
theorem ag0(i0:0<=i)(i1:i<n):(be n λe=>if e<i then be n (F e)else []).set i.toNat (be n λ_=>0)=tbT F n i 0:=by
 rw[mb i0 i1];unfold tbT;refine dJ λe _ _=>?_;by_cases h:e=i
 ·rw[am h,am h];exact dJ λg g0 _=>by rw[ai aa]
 ·rw[ai h,ai h]
theorem afn:tbT F n i n=be n λe=>if e<i+1 then be n (F e)else []:=by
 unfold tbT;refine dJ λe _ _=>?_;by_cases h:e=i
 ·rw[am h,am aa,h];exact dJ λg _ g1=>by rw[am g1]
 ·rw[ai h];by_cases h2:e<i
  ·rw[am h2,am aa]
  ·rw[ai h2,ai aa]
abbrev Um:Type:=aB×(aF×((List Int)×(List aO)))
structure PrtP (o:Um) (k:cF) (number:aw):Prop where
 lf:o.2.1.2.1.length=o.2.2.2.length
 lt:o.2.1.2.2.1.length=o.2.2.2.length
 le:o.2.2.2.length<=40
 pv:∀f g:Int,0<=f->f<o.2.2.2.length->0<=g->g<o.2.2.2.length->o.2.1.2.2.1.getD f.toNat 0=o.2.1.2.1.getD g.toNat 0->PrvP k number o.2.2.2 f g
theorem Pf{Z Z2 Y:Type}{n:Int}(z:Z)(z2:Z2)(y:Int->Y){y0:Y}{body:(Unit×((Unit×(Z×(Z2×Unit)))×(Int×Unit)))×(Y×Unit)->((Unit×((Unit×(Z×(Z2×Unit)))×(Int×Unit)))×(Y×Unit)->Prop)->Prop}(hn0:0<=n)(h0:y0=y 0)(hs:∀i next,0<=i->i<n->next (((),(((),(z,(z2,()))),(i+1,()))),(y (i+1),()))->body (((),(((),(z,(z2,()))),(i,()))),(y i,())) next)(he:∀next,body (((),(((),(z,(z2,()))),(n,()))),(y n,())) next):aI body (((),(((),(z,(z2,()))),(0,()))),(y0,())):=by
 refine aY (λs=>s.1.2.1.2.1=z/\s.1.2.1.2.2.1=z2/\s.2.1=y s.1.2.2.1/\0<=s.1.2.2.1/\s.1.2.2.1<=n) (λs=>(n-s.1.2.2.1).toNat) ?_ ⟨rfl,rfl,h0,cB _,hn0⟩;rintro⟨⟨_,⟨_,q,q2,_⟩,i,_⟩,t,_⟩ next ⟨hz,hz2,hy,h1,h2⟩ hnx
 dsimp only at hz hz2 hy h1 h2 hnx;subst hz;subst hz2;subst hy;by_cases e:i=n
 ·subst e;exact he next
 ·exact hs i next h1 aa (hnx _ ⟨rfl,rfl,rfl,ae,ae⟩ ae)
def uo:Wa:=⟨BS,[.de,.r,.l],[(.fn 64 (.p (.pt .any) (.p yg (.p By .u))))],λx y=>[PrtP x y.1.2.1 y.1.2.2.1],λx y=>(x.1,((x.2.1.1,x.2.1.2.1,x.2.1.2.2.1,x.2.1.2.2.2.1,pz x.2.1 (j7 y.1.2.1 y.1.2.2.1 x.2.2.2)),x.2.2))⟩
def Md:Ct:=waCt uo
def UY:Ann:=(.s .n (.s .n (.s .n (.l [(0,(.ad 1000000 [.de,.r,.l])),(1,(.fc 64 (.pr (.bx (.ad 1000000 [.de])) (.pr (.d (.pt (.pt (.p (.mp .str aq) vB)))) (.pr (.d By) .u))))),(19,(.d aq))] [(1000000,F4)] [4,18] (.s .n (.s .n (.s (.s .n (.s .n (.s .n (.l [(0,(.ad 1000000 [.de,.r,.l])),(1,(.fc 64 (.pr (.bx (.ad 1000000 [.de])) (.pr (.d (.pt (.pt (.p (.mp .str aq) vB)))) (.pr (.d By) .u))))),(38,(.d aq))] [(1000000,F4)] [4,5,18,19,37] (.s .n (.s .n (.s (.s .n (.s .n (.s .n (.j [(0,(.ad 1000000 [.de,.r,.l])),(1,(.fc 64 (.pr (.bx (.ad 1000000 [.de])) (.pr (.d (.pt (.pt (.p (.mp .str aq) vB)))) (.pr (.d By) .u)))))] [(1000000,F4)] [4,5,18,19,37,38] .n)))) .n))))))) .n)))))))
def Va:FuncId->Option Ct:=lkp [(64,q9),(51,si)]
def Mf(c:T.den lw)(composite:Unit×(cF×cV))(K:(T.den lw)->Prop):Prop:=let v:=T.mp T.str aq;let j:=c.2.1.2.1.length;let q:=List.replicate (Int.toNat (j:Int)) ([]:List Int);0<=(j:Int)/\(j:Int)<=(j:Int)/\(j:Int)<=((140737488355328:Nat):Int)/\(j:Int)*((24:Nat):Int)<=((140737488355328:Nat):Int)/\aI (S:=((Unit×((Unit×(((List (ByteArray×Int))×fE)×cV))×(Int×Unit)))×LP)) (λa b=>let t:=a.1.2.1.2;let p:=a.2.1;let z:=p.2.1.2.2;let l:=a.1.2.2.1;let r:=l.toNat;let i:=List.set z.2.2 r (List.replicate (Int.toNat (j:Int)) (0:Int));T.ok v t.1.1->(Ol t.1.2.1<|Oa aW t.1.2.2<|Ol t.2.1<|Iq l<|Iq p.1.1<|Ol p.1.2.1<|Ol p.1.2.2.1<|Oa aW p.1.2.2.2.1<|Oa aW p.1.2.2.2.2<|Oc p.2.1<|Ol p.2.2.1<|Oa aW p.2.2.2<|cnd (decide (l<(q.length:Int))) (0<=(j:Int)/\(j:Int)<=(j:Int)/\(j:Int)<=((140737488355328:Nat):Int)/\(j:Int)*((8:Nat):Int)<=((140737488355328:Nat):Int)/\(Ix l z.2.2.length<|Ix l i.length<|aI (S:=((Unit×((Unit×(((List (ByteArray×Int))×fE)×cV))×(Int×Unit)))×LP)) (λd e=>let x:=d.2.1.1;let o:=d.1.2.2.1;let n:=d.2.1.2;let w:=n.1.2.2;let m:=d.1.2.1.2;let h:=List.set w.2.2 r (List.set (w.2.2.getD r []) o.toNat (-1));T.ok v m.1.1->(Ol m.1.2.1<|Oa aW m.1.2.2<|Ol m.2.1<|Iq o<|Iq x.1<|Ol x.2.1<|Ol x.2.2.1<|Oa aW x.2.2.2.1<|Oa aW x.2.2.2.2<|Oc n.1<|Ol n.2.1<|Oa aW n.2.2<|cnd (decide (o<((i.getD r []).length:Int))) (Ix l w.2.2.length<|Ix o (w.2.2.getD r []).length<|Ix l w.1.length<|Ix o n.1.2.1.length<|bZ (S:=((Unit×((Unit×(((List (ByteArray×Int))×fE)×cV))×Unit))×LP)) (λf=>let y:=f.2.1;let u:=f.1.2.1.2;T.ok v u.1.1->(Ol u.1.2.1<|Oa aW u.1.2.2<|Ol u.2.1<|Iq y.1.1<|Ol y.1.2.1<|Ol y.1.2.2.1<|Oa aW y.1.2.2.2.1<|Oa aW y.1.2.2.2.2<|Oc y.2.1<|Ol y.2.2.1<|Oa aW y.2.2.2<|Ik (o+1)<|e (((),((),u.1,u.2.1,()),o+1,()),y,()))) (λg=>cnd (w.1.getD r 0==n.1.2.1.getD o.toNat 0) (Ix l h.length<|PrvP m.1 m.2.1 n.2.2 l o/\(Ix o (h.getD r []).length<|g (((),((),m.1,m.2.1,()),()),(x,(n.1.1,n.1.2.1,w.1,w.2.1,List.set h r (List.set (h.getD r []) o.toNat (j7 m.1 m.2.1 n.2.2 l o))),n.2),()))) (g (((),((),m.1,m.2.1,()),()),(x,(n.1.1,n.1.2.1,w.1,w.2.1,h),n.2),())))) (Ik (l+1)<|b (((),((),m.1,m.2.1,()),l+1,()),d.2.1,())))) (((),((),t.1,t.2.1,()),0,()),(p.1,(p.2.1.1,p.2.1.2.1,z.1,z.2.1,i),p.2.2),()))) (K p))) (((),((),composite.2.1,composite.2.2.1,()),0,()),(c.1,(c.2.1.1,c.2.1.2.1,c.2.1.2.2.1,c.2.1.2.2.2.1,q),c.2.2),())
theorem Vd(c:T.den lw)(composite:Unit×(cF×cV))(hok:ab (uo.o.strip.oks c))(hok2:ab (okL uo.as (composite,())))(hpre:ab (uo.pre c (composite,()))):Mf c composite (λz=>z=uo.new c (composite,())):=by
 simp only[uo,O.strip,okL,T.oks,T.ok,ap,ab,aL,aA,bf]at hok hok2 hpre
 try dsimp only[T.den]at hok
 try dsimp only[T.den]at hok2
 try dsimp only[T.den]at hpre
 delta Mf Ik Iq Ix Oa Oc Ol Om
 dsimp -proj -eta only;obtain⟨_,z,u,_⟩:=composite;have P:PrtP c z u:=hpre;have hlf:=P.lf;have hlt:=P.lt;have hle:=P.le;have pv:=P.pv;have hnew:∀q,q=pz c.2.1 (j7 z u c.2.2.2)->(c.1,((c.2.1.1,(c.2.1.2.1,(c.2.1.2.2.1,(c.2.1.2.2.2.1,q)))),c.2.2))=(c.1,((c.2.1.1,(c.2.1.2.1,(c.2.1.2.2.1,(c.2.1.2.2.2.1,pz c.2.1 (j7 z u c.2.2.2))))),c.2.2)):=λq h=>by rw[h]
 clear hok hok2 hpre P
 try dsimp only
 have hR:pz c.2.1 (j7 z u c.2.2.2)=be c.2.1.2.1.length λe=>be c.2.1.2.1.length (vr c.2.1 (j7 z u c.2.2.2) e):=rfl;refine⟨aa,aa,aa,aa,?_⟩;simp only[bB,qY,bG];rw[←hlf]at hle pv hlt;generalize hn:c.2.1.2.1.length=n at *;generalize hF:vr c.2.1 (j7 z u c.2.2.2)=F at *;refine Pf (n:=n) z u (λi=>(c.1,((c.2.1.1,(c.2.1.2.1,(c.2.1.2.2.1,(c.2.1.2.2.2.1,be n λe=>if e<i then be n (F e)else [])))),c.2.2))) aa (congrArg (λq=>(c.1,((c.2.1.1,(c.2.1.2.1,(c.2.1.2.2.1,(c.2.1.2.2.2.1,q)))),c.2.2))) (dJ λe h0 _=>by rw[ai aa])) ?_ ?_
 ·intro i next i0 i1 hnx
  intros
  try dsimp only
  refine aE (λ_=>⟨aa,aa,aa,aa,i0,by rw[bG];exact i1,i0,by rw[fx,bG];exact i1,?_⟩) (λh=>absurd i1 h);rw[ag0 i0 i1,JL i0 i1,bG];refine Pf (n:=n) z u (λj=>(c.1,((c.2.1.1,(c.2.1.2.1,(c.2.1.2.2.1,(c.2.1.2.2.2.1,tbT F n i j)))),c.2.2))) aa rfl ?_ ?_
  ·intro j next2 j0 j1 hn2;intros
   try dsimp only
   have hr:((tbT F n i j).getD i.toNat []).length=n:=by rw[JL i0 i1,bG]
   have hA:i.toNat<(tbT F n i j).length:=by rw[Kg];omega
   have hs2:=@w_ (tbT F n i j) i.toNat j.toNat (-1) (F i j) hA;have hs1:=@afk F n i j i0 i1 j0 j1;have hrow:(((tbT F n i j).set i.toNat (((tbT F n i j).getD i.toNat []).set j.toNat (-1))).getD i.toNat []).length=n:=by rw[ly _ _ _ _ _ hA,am rfl,fx,hr]
   refine aE (λ_=>⟨i0,by rw[Kg];exact i1,j0,by rw[hr];exact j1,i0,aa,j0,aa,?_⟩) (λh=>absurd j1 h);refine cp (λs2=>s2.1.2.1.2.1=z/\s2.1.2.1.2.2.1=u/\s2.2.1=(c.1,((c.2.1.1,(c.2.1.2.1,(c.2.1.2.2.1,(c.2.1.2.2.2.1,tbT F n i (j+1))))),c.2.2))) (λs2 hs=>by intros;exact⟨az,by rw[hs.1,hs.2.1,hs.2.2];exact hn2⟩) (λk hk=>aC (λhe=>?_) (λhe=>hk _ ⟨rfl,rfl,?_⟩))
   ·rw[cR]at he;have hv:j7 z u c.2.2.2 i j=F i j:=by rw[←hF];unfold vr;rw[am he]
    refine⟨i0,by rw[fx,Kg];exact i1,pv i j i0 i1 j0 j1 he,j0,by rw[hrow];exact j1,hk _ ⟨rfl,rfl,?_⟩⟩
    try dsimp only
    rw[hv,hs2,hs1]
   ·have hv:F i j=-1:=by rw[←hF];unfold vr;rw[ai (by intro h;rw[h]at he;simp at he)]
    try dsimp only
    rw[←hv,hs1]
  ·intro next2;intros
   try dsimp only
   refine aE (λh=>absurd h (jL _)) (λ_=>⟨az,?_⟩);rw[afn];exact hnx
 ·intro next
  intros
  try dsimp only
  refine aE (λh=>absurd h (jL _)) (λ_=>hnew _ ?_);rw[hR];exact dJ λe _ e1=>by rw[am e1]
theorem Mc:aN Tryz.prog 63 Md:=agx (Φ:=Va) (au G4 (au Cw aQ)) aR (by kernel_rfl) (fn:=Tryz.f63) (c:=fa Tryz.f63) (by kernel_rfl) (by kernel_rfl) (by kernel_rfl) uo UY (fN [(5,507),(10,14),(11,512)]) (by kernel_rfl) (by kernel_rfl) bz (by kernel_rfl) (λx y h1 h2 h3=>Eq.mp (by kernel_rfl) (Vd x y.1 h1 h2 h3))
def eM(c:aF):Bool:=pE c&&(iK c).1==0
def qz:Ct:=⟨[vG],[false],λx=>[],[(false,dS)],λx=>(eM x.1,()),false,none⟩
def ag2:FuncId->Option Ct:=lkp [(50,qC),(49,mP)]
def Gw(c:aF)(K:fP):Prop:=cnd (!pE c) (K (false,())) (ShapeP c/\K ((iK c).1==0,()))
theorem UW(c:aF)(hok:ab (okL qz.args (c,())))(hpre:ab (qz.pre (c,()))):Gw c (λr=>r=qz.res (c,())):=by
 simp only[qz,okL,T.oks,T.ok,ap,ab,aL,aA,bf]at hok hpre
 try dsimp only[T.den]at hok hpre
 unfold Gw;simp only[qz,eM];have:=@uV c
 grind[cnd,bO,cf]
theorem Gs:aN Tryz.prog 23 qz:=ctb (au VD (au Vn aQ)) aR 23 Tryz.f23 qz .n [] (λx K=>Gw x.1 K) (λx h1 h2=>UW x.1 h1 h2)
structure ClsP (k:T.den lw):Prop where
 l:eM k.2.1=true->∀p∈k.2.2.2,AroP (k.2.1,(k.2.2.2,k.2.2.1)) p
 a:eM k.2.1=true->∀p∈k.1.2.2.2.1,AroP (k.2.1,(k.2.2.2,k.2.2.1)) p
 b:eM k.2.1=true->∀p∈k.1.2.2.2.2,AroP (k.2.1,(k.2.2.2,k.2.2.1)) p
 e:k.1.2.2.2.2.length=k.1.2.2.2.1.length
def jZ(k:T.den lw):Bool:=eM k.2.1&&(gQ k.2.2.2.length λf=>dG k.2.1 k.2.2.1 (k.2.2.2.getD f.toNat (0,[]))==f)&&gQ k.1.2.2.2.1.length λi=>dG k.2.1 k.2.2.1 (k.1.2.2.2.1.getD i.toNat (0,[]))==dG k.2.1 k.2.2.1 (k.1.2.2.2.2.getD i.toNat (0,[]))
def sg:Ct:=⟨[(.pt lw)],[false],λx=>[ClsP x.1],[(false,dS)],λx=>(jZ x.1,()),false,none⟩
def Vf:Ann:=(.s .n (.s .n (.s (.s .n (.l [(16,(.d aq))] [] [0,14,15] .n)) (.s (.s .n (.l [(35,(.d aq))] [] [0,34] .n)) .n))))
def ahe:FuncId->Option Ct:=lkp [(23,qz),(28,pd)]
def G2(k:T.den lw)(K:fP):Prop:=let h:=k.2.2;cnd (!eM k.2.1) (K (false,())) (aI (S:=cZ) (λa b=>let g:=h.2.getD a.1.1.toNat (0,[]);Iq a.1.1<|cnd (decide (a.1.1<(h.2.length:Int))) (Ix a.1.1 h.2.length<|AroP (k.2.1,h.2,h.1) g/\cnd (dG k.2.1 h.1 g != a.1.1) (K (false,())) (Ik (a.1.1+1)<|b ((a.1.1+1,()),()))) (aI (S:=cZ) (λc d=>let i:=c.1.1;let f:=k.1.2.2.2.2.getD i.toNat (0,[]);let e:=k.1.2.2.2.1.getD i.toNat (0,[]);Iq i<|cnd (decide (i<(k.1.2.2.2.1.length:Int))) (Ix i k.1.2.2.2.1.length<|AroP (k.2.1,h.2,h.1) e/\(Ix i k.1.2.2.2.2.length<|AroP (k.2.1,h.2,h.1) f/\cnd (dG k.2.1 h.1 e != dG k.2.1 h.1 f) (K (false,())) (Ik (i+1)<|d ((i+1,()),())))) (K (true,()))) ((0,()),()))) ((0,()),()))
theorem V3(k:T.den lw)(hok:ab (okL sg.args (k,())))(hpre:ab (sg.pre (k,()))):G2 k (λr=>r=sg.res (k,())):=by
 simp only[sg,okL,T.oks,T.ok,ap,ab,aL,aA,bf]at hok hpre
 try dsimp only[T.den]at hok hpre
 delta G2 Ik Iq Ix
 dsimp -proj -eta only;have hP:ClsP k:=hpre;have l1:=hok.2.2.2.2.2.2.2.2.2.2.2.1;have l2:=hok.2.2.2.1.1;rw[bO]at l1 l2;clear hok;simp only[sg];refine aC (λh=>?_) (λh=>?_)
 ·have h:eM k.2.1=false:=by simpa using h
  unfold jZ;rw[h];rfl
 have h:eM k.2.1=true:=by simpa using h
 have he:=hP.e;have hcl:jZ k=((gQ k.2.2.2.length λf=>dG k.2.1 k.2.2.1 (k.2.2.2.getD f.toNat (0,[]))==f)&&gQ k.1.2.2.2.1.length λi=>dG k.2.1 k.2.2.1 (k.1.2.2.2.1.getD i.toNat (0,[]))==dG k.2.1 k.2.2.1 (k.1.2.2.2.2.getD i.toNat (0,[]))):=by unfold jZ;rw[h];rfl
 rw[hcl];refine OI k.2.2.2.length (λf=>dG k.2.1 k.2.2.1 (k.2.2.2.getD f.toNat (0,[]))==f) ?_ ?_
 ·intro i next i0 i1 hf hn
  intros
  try dsimp only at hf hn⊢
  refine aE (λ_=>⟨i0,i1,hP.l h _ (cC _ _ i0 i1),aC (λhx=>?_) (λhx=>⟨az,hn ?_⟩)⟩) (λhx=>absurd i1 hx)
  ·rw[hf (by rw[iH];exact qu.1 hx)];rfl
  ·rw[cR];exact fT.1 hx
 intro next ha
 intros
 try dsimp only
 refine aE (λhx=>absurd hx aa) (λ_=>?_);rw[ha];refine OI k.1.2.2.2.1.length (λi=>dG k.2.1 k.2.2.1 (k.1.2.2.2.1.getD i.toNat (0,[]))==dG k.2.1 k.2.2.1 (k.1.2.2.2.2.getD i.toNat (0,[]))) ?_ ?_
 ·intro i next i0 i1 hf hn
  intros
  try dsimp only at hf hn⊢
  refine aE (λ_=>⟨i0,i1,hP.a h _ (cC _ _ i0 i1),i0,aa,hP.b h _ (cC _ _ i0 aa),aC (λhx=>?_) (λhx=>⟨az,hn ?_⟩)⟩) (λhx=>absurd i1 hx)
  ·rw[hf (by rw[iH];exact qu.1 hx)];rfl
  ·rw[cR];exact fT.1 hx
 intro next hb
 intros
 try dsimp only
 refine aE (λhx=>absurd hx aa) (λ_=>?_);rw[hb];rfl
theorem Ml:aN Tryz.prog 65 sg:=ctb (au Gs (au G1 aQ)) aR 65 Tryz.f65 sg Vf [(12,523)] (λx K=>G2 x.1 K) (λx h1 h2=>V3 x.1 h1 h2)
def qf(l:aw)(y:Int):Nat->Int
 |0=>0
 |n+1=>if l.getD n 0=y then n else qf l y n
def fD(l:aw):List Int:=be l.length λy=>qf l y l.length
theorem aeh{l:aw}(h0:0<=i):qf l y (i+1).toNat=if l.getD i.toNat 0=y then i else qf l y i.toNat:=by
 rw[show (i+1).toNat=i.toNat+1 from by omega,qf];split
 ·omega
 ·rfl
def sy:Ct:=⟨[bd],[false],λx=>[x.1.length<=40,bD x.1 x.1.length=true],[(false,cd)],λx=>(fD x.1,()),false,none⟩
def W6:Ann:=(.s .n (.s .n (.s (.s .n (.l [(3,(.ref 8 [])),(11,(.d aq))] [(8,cd)] [9,10] .n)) .n)))
def Hu(list:aw)(K:oO):Prop:=let c:=list.length;0<=(c:Int)/\(c:Int)<=(c:Int)/\(c:Int)<=((140737488355328:Nat):Int)/\(c:Int)*((8:Nat):Int)<=((140737488355328:Nat):Int)/\aI (S:=(dW×cV)) (λa b=>let d:=a.1.2.1;Iq d<|Ol a.2.1<|cnd (decide (d<(c:Int))) (Ix d c<|Ix (list.getD d.toNat 0) a.2.1.length<|Ik (d+1)<|b (((),d+1,()),List.set a.2.1 (list.getD d.toNat 0).toNat d,())) (K (a.2.1,()))) (((),0,()),List.replicate (Int.toNat (c:Int)) (0:Int),())
theorem WP(list:aw)(hok:ab (okL sy.args (list,())))(hpre:ab (sy.pre (list,()))):Hu list (λr=>r=sy.res (list,())):=by
 simp only[sy,okL,T.oks,T.ok,ap,ab,aL,aA,bf]at hok hpre
 try dsimp only[T.den]at hok hpre
 delta Hu Ik Iq Ix Ol
 dsimp -proj -eta only;obtain⟨hl,hw⟩:=hpre;have hw:=fF.1 hw;clear hok;generalize hn:list.length=n at *;refine⟨aa,aa,aa,aa,?_⟩;simp only[bB,qY];refine po (λi=>be n λy=>qf list y i.toNat) (n:=n) aa rfl ?_ ?_
 ·intro i next i0 i1 hnx _ _
  try dsimp only
  have hy:=hw i i0 i1;simp only[aeh i0]at hnx;refine aE (λ_=>⟨i0,aa,hy.1,by rw[bG];exact hy.2,az,?_⟩) (λh=>absurd i1 h);rw[mb hy.1 hy.2];refine (congrArg (λz=>next (((),(i+1,())),(z,()))) (dJ λy _ _=>?_)).mp hnx
  try dsimp only
  by_cases e:list.getD i.toNat 0=y
  ·rw[am e,am e.symm]
  ·rw[ai e,ai λh=>e h.symm]
 ·intro next _ _
  refine aE (λh=>absurd h ae) (λ_=>?_);simp only[sy,fD,hn];rw[bB]
theorem MR:aN Tryz.prog 61 sy:=ctb aQ aR 61 Tryz.f61 sy W6 [] (λx K=>Hu x.1 K) (λx h1 h2=>WP x.1 h1 h2)
theorem RK{y:Int}:∀{l s:aw},y∈l.foldl fJ s->y∈s\/y∈l
 |[],s,h=>.inl h
 |k::l,s,h=>by
  rw[jF]at h;rcases RK h with h|h
  ·unfold fJ at h;split at h
   ·rcases dN.1 h with h|h
    ·exact .inl h
    ·rw[cP]at h;exact .inr (by simp[h])
   ·exact .inl h
  ·exact .inr (by simp[h])
theorem Pn:∀{l s:aw},s.Nodup->(l.foldl fJ s).Nodup
 |[],s,h=>h
 |k::l,s,h=>by
  rw[jF];refine Pn ?_;unfold fJ;split
  ·rename_i hk;unfold List.Nodup;rw[Gn];refine⟨h,Gp _ _,λa ha b hb e=>?_⟩;rw[cP]at hb;subst hb;subst e;have:=((iE (0:Int)).1 ha).1;omega
  ·exact h
theorem S_{l:aw}(h:l.Nodup){i j:Nat}(hi:i<l.length)(hj:j<l.length)(e:l.getD i 0=l.getD j 0):i=j:=by simp only[bN,bX hi,bX hj,dY]at e;exact (List.getElem_inj h).1 e
theorem D4{l:aw}{i:Nat}(h:i<l.length):l.getD i 0∈l:=by simp only[bN,bX h,dY];exact rS h
theorem J1{l:aw}(h:y∈l):∃i,i<l.length/\l.getD i 0=y:=by obtain⟨i,hi,e⟩:=mL h;exact⟨i,hi,by simp only[bN,bX hi,dY];exact e⟩
theorem PC{l:aw}{k:Int}(h0:0<=k)(h1:k<eA (cq l)):∃i,i<l.length/\(cq l).getD i 0=k:=by
 have hle:eA (cq l)<=(cX l).length:=(TE aa λx hx=>by unfold cq at hx;obtain⟨y,hy,rfl⟩:=jJ.1 hx;exact ((iE (0:Int)).1 (xP (l:=l) (s:=[]) (.inr hy))).2.1).2;have hy:=D4 (l:=cX l) (i:=k.toNat) aa;rcases RK hy with h|h
 ·cases h
 ·obtain⟨i,hi,e⟩:=J1 h;refine⟨i,hi,?_⟩;rw[AZ hi,e];obtain⟨a0,a1,a2,_⟩:=(iE (0:Int)).1 hy;have hnd:(cX l).Nodup:=Pn (l:=l) (s:=[]) List.nodup_nil;have:=S_ hnd (i:=(cT (cX l) ((cX l).getD k.toNat 0)).toNat) (j:=k.toNat) aa aa a2;omega
theorem DF{c:aw}{L:bg}{s:aB}(C:ClaP s L c):∀m:Nat,m<=L.length->∀a:Nat,L.length-m<=a->a<L.length->((lsD c L m).getD (c.getD a 0).toNat (0,none)).2.isSome=true
 |0,_,a,h1,h2=>aa
 |m+1,hm,a,h1,h2=>by
  have ih:=DF C m aa;have hln:=(v7 C m aa).n;simp only[lsD];generalize hi:L.length-1-m=i;have hci:=C.r (i:Int) aa aa;rw[bB]at hci;unfold lsS;split
  ·rename_i hb;rw[ly _ _ _ _ _ (by rw[hln];omega)];split
   ·rfl
   ·rename_i hne;have:a≠i:=λe=>hne (by rw[e]);exact ih a aa h2
  ·rename_i hb;by_cases e:a=i
   ·subst e;rw[Bool.not_eq_true,gV]at hb;have:=hb.1;rw[Option.isNone_eq_false_iff]at this;exact this
   ·exact ih a aa h2
theorem DU{l:ug}{k:Nat}:(fp l).getD k (0,[])=((l.getD k (0,none)).1,(l.getD k (0,none)).2.getD []):=by unfold fp;simp only[bN,fQ];cases l[k]?<;>rfl
structure KlsP (s:aB) (L:bg) (K:cF):Prop where
 S:bE s=true
 H:ShrtP s L
 k:K.1=cI L L.length
 C:ClaP s L K.2.1
 n:(K.2.2.length:Int)=eA K.2.1
 mem:∀k:Int,0<=k->k<K.2.2.length->∃a:Int,0<=a/\a<L.length/\K.2.1.getD a.toNat 0=k/\K.2.2.getD k.toNat (0,[])=L.getD a.toNat (0,[])
 six:∀k:Int,0<=k->k<K.2.2.length->(K.2.2.getD k.toNat (0,[])).2.length≠6
theorem p8(hS:bE s=true)(h:io s=true):KlsP s (bI s).1 (pcR s):=by
 obtain⟨s0,s8,_⟩:=fH hS;unfold io at h;rw[ao]at h;obtain⟨hg,hs⟩:=h;have H:=vh s0 aa hg;unfold pcR;generalize (bI s).1=L at *;have P:SetP s L (cI L L.length,([],[])):=⟨hS,H,rfl⟩;have Q:=Bi P L.length (aZ _);have C:ClaP s L (fb s L):=EB Q;have D:=v7 C L.length (aZ _);have hln:(lsA s L).length=(eA (fb s L)).toNat:=D.n;have htl:(fp (lsA s L)).length=(lsA s L).length:=by unfold fp;rw[d5]
 refine⟨hS,H,rfl,C,?_,λk k0 k1=>?_,λk k0 k1=>?_⟩
 ·dsimp only;have:=C.le;omega
 ·dsimp only at k1⊢;have hr:(dn (jW s (cI L L.length,([],[])) L L.length)).length=L.length:=by unfold dn;rw[bG,Q.n]
  obtain⟨i,i1,hi⟩:=PC (l:=dn (jW s (cI L L.length,([],[])) L L.length)) k0 (by have:eA (fb s L)=eA (cq (dn (jW s (cI L L.length,([],[])) L L.length))):=rfl;omega);have hsm:=DF C L.length (aZ _) i aa aa;have hi':(fb s L).getD i 0=k:=hi;rw[hi']at hsm;rw[DU];have hv:=D.v k.toNat;have hD:lsA s L=lsD (fb s L) L L.length:=rfl;rw[hD];generalize (lsD (fb s L) L L.length).getD k.toNat (0,none)=q at hsm hv⊢;obtain⟨x,o⟩:=q
  cases o with
  |none=>cases hsm
  |some es=>obtain⟨a,_,a0,a1,a2,a3⟩:=hv x es rfl;exact⟨a,a0,a1,aa,a3.symm⟩
 ·dsimp only at k1⊢;rw[DU];exact KZ.1 hs k k0 aa
theorem KlsP.set(P:KlsP s L K):SetP s L K:=⟨P.S,P.H,P.k⟩
theorem rq(P:KlsP s L K)(hp:(aV s p).2=true):OfP K p.1 p.2 K.2.2.length/\nB s (K.2.2.getD (ofR K p.1 p.2).toNat (0,[])) p/\(aV s (K.2.2.getD (ofR K p.1 p.2).toNat (0,[]))).2=true:=by
 obtain⟨a0,a1,a2⟩:=P.set.at hp;have hr:=P.C.r _ a0 a1;have hn:=P.n;have o0:0<=ofR K p.1 p.2:=hr.1;have o1:ofR K p.1 p.2<K.2.2.length:=by have:=hr.2;unfold ofR;omega
 obtain⟨b,b0,b1,b2,b3⟩:=P.mem _ o0 o1;have hs:=P.C.st b _ b0 b1 a0 a1 b2;rw[a2]at hs;rw[b3];exact⟨⟨by have:=qX hp;omega,a0,by rw[P.C.n];exact a1,o0,o1⟩,hs,P.H.ok _ (gA aa)⟩
theorem DK(P:KlsP s L K){k:Int}(k0:0<=k)(k1:k<K.2.2.length):(aV s (K.2.2.getD k.toNat (0,[]))).2=true/\(K.2.2.getD k.toNat (0,[])).2.length<6:=by obtain⟨a,a0,a1,_,a3⟩:=P.mem k k0 k1;have h6:=P.six k k0 k1;have hv:=P.H.ok _ (gA (l:=L) (i:=a.toNat) aa);have:=qX hv;rw[a3]at h6⊢;exact⟨hv,aa⟩
def cY(s:aB)(K:cF):List Int:=gP K s (cJ K.2.2.length)
structure OrdF (K:cF) (O:aw):Prop where
 n:O.length=K.2.2.length
 r:∀i:Int,0<=i->i<O.length->0<=O.getD i.toNat 0/\O.getD i.toNat 0<K.2.2.length
 nd:O.Nodup
 su:∀c:Int,0<=c->c<K.2.2.length->c∈O
theorem Ep{c:Int}:c∈cJ (n:Int)<->0<=c/\c<n:=by
 unfold cJ;rw[ij];constructor
 ·rintro⟨i,i0,i1,rfl⟩;omega
 ·rintro⟨h0,h1⟩;exact⟨c,h0,aa,rfl⟩
theorem xV(s:aB)(K:cF):OrdF K (cY s K):=by
 have hp:=Zu K s (cJ K.2.2.length);have hl:(cJ (K.2.2.length:Int)).length=K.2.2.length:=by unfold cJ;rw[bG];omega
 have hn:(cY s K).length=K.2.2.length:=hp.length_eq.trans hl;refine⟨hn,λi i0 i1=>?_,?_,λc c0 c1=>hp.mem_iff.2 (Ep.2 ⟨c0,c1⟩)⟩
 ·have:=hp.mem_iff.1 (D4 (l:=cY s K) (i:=i.toNat) aa);exact Ep.1 this
 ·refine hp.nodup_iff.2 ?_;unfold cJ List.Nodup;exact EG λi j _ h _=>aa
theorem Sv{l:aw}{y:Int}:∀{m:Nat},(∃i,i<m/\l.getD i 0=y)->0<=qf l y m/\qf l y m<m/\l.getD (qf l y m).toNat 0=y
 |0,⟨i,h,_⟩=>aa
 |m+1,⟨i,h,e⟩=>by
  unfold qf;split
  ·rename_i hm;exact⟨aa,aa,by rw[bB];exact hm⟩
  ·rename_i hm
   have hi:i<m:=by
    rcases ig i m with h'|h'
    ·exact h'
    ·exact absurd (by rw[show m=i from by omega];exact e) hm
   obtain⟨a,b,c⟩:=Sv ⟨i,hi,e⟩;exact⟨a,aa,c⟩
theorem aco{O:aw}(F:OrdF K O){c:Int}(c0:0<=c)(c1:c<K.2.2.length):0<=(fD O).getD c.toNat 0/\(fD O).getD c.toNat 0<O.length/\O.getD ((fD O).getD c.toNat 0).toNat 0=c:=by have hn:=F.n;unfold fD;rw[iJ c0 aa];obtain⟨i,hi,e⟩:=J1 (F.su c c0 c1);exact Sv ⟨i,hi,e⟩
def bc(s:aB)(K:cF):List aO:=(cY s K).map λc=>K.2.2.getD c.toNat (0,[])
theorem DQ{i:Nat}(h:i<(cY s K).length):(bc s K).getD i (0,[])=K.2.2.getD ((cY s K).getD i 0).toNat (0,[]):=by unfold bc;simp only[bN,fQ,bX h,dX,dY]
theorem tq:(bc s K).length=(cY s K).length:=by unfold bc;rw[d5]
def lM(s:aB)(K:cF)(x:Int)(es:aw):Int:=(fD (cY s K)).getD (ofR K x es).toNat 0
theorem pw{s:aB}{L:bg}{K:cF}(P:KlsP s L K){i:Int}(i0:0<=i)(i1:i<(bc s K).length):(aV s ((bc s K).getD i.toNat (0,[]))).2=true/\((bc s K).getD i.toNat (0,[])).2.length<6:=by rw[tq]at i1;have F:=xV s K;have:=F.r i i0 i1;rw[DQ aa];exact DK P this.1 this.2
theorem KN(P:KlsP s L K)(hp:(aV s p).2=true):0<=lM s K p.1 p.2/\lM s K p.1 p.2<(bc s K).length/\(bc s K).getD (lM s K p.1 p.2).toNat (0,[])=K.2.2.getD (ofR K p.1 p.2).toNat (0,[])/\nB s ((bc s K).getD (lM s K p.1 p.2).toNat (0,[])) p:=by
 obtain⟨O,hs,_⟩:=rq P hp;have F:=xV s K;obtain⟨a0,a1,a2⟩:=aco F O.o0 O.o1;have e:(bc s K).getD (lM s K p.1 p.2).toNat (0,[])=K.2.2.getD (ofR K p.1 p.2).toNat (0,[]):=by rw[DQ (by unfold lM;omega)];unfold lM;rw[a2]
 exact⟨a0,by rw[tq];exact a1,e,by rw[e];exact hs⟩
theorem afx(P:KlsP s L K){g:Int}(f0:0<=f)(f1:f<(bc s K).length)(g0:0<=g)(g1:g<(bc s K).length)(hfg:(aV s ((bc s K).getD f.toNat (0,[]))).1=((bc s K).getD g.toNat (0,[])).1):PrvP K (fD (cY s K)) (bc s K) f g:=by
 obtain⟨p1,p2⟩:=pw P f0 f1;obtain⟨q1,q2⟩:=pw P g0 g1;have F:=xV s K
 have run:∀i:Nat,i<=((bc s K).getD g.toNat (0,[])).2.length->(aV s (iQ K (bc s K) f (((bc s K).getD g.toNat (0,[])).2.take i))).2=true/\(iQ K (bc s K) f (((bc s K).getD g.toNat (0,[])).2.take i)).2.length<6/\
   (aV s (iQ K (bc s K) f (((bc s K).getD g.toNat (0,[])).2.take i))).1=(ca s ((bc s K).getD g.toNat (0,[])).1 (((bc s K).getD g.toNat (0,[])).2.take i)).1/\
   ∀h:i<((bc s K).getD g.toNat (0,[])).2.length,(aV s ((iQ K (bc s K) f (((bc s K).getD g.toNat (0,[])).2.take i)).1,(iQ K (bc s K) f (((bc s K).getD g.toNat (0,[])).2.take i)).2++[((bc s K).getD g.toNat (0,[])).2.getD i 0])).2=true:=by
  obtain⟨g1',g2',g3'⟩:=iU q1;rw[g3']at q1;generalize (bc s K).getD g.toNat (0,[])=G at *
  have nxt:∀(i:Nat)(p:aO),i<G.2.length->(aV s p).2=true->p.2.length<6->(aV s p).1=(ca s G.1 (G.2.take i)).1->(aV s (p.1,p.2++[G.2.getD i 0])).2=true/\(aV s (p.1,p.2++[G.2.getD i 0])).1=(ca s G.1 (G.2.take (i+1))).1:=λi p hi h1 h2 h3=>by
   have ht:G.2.take (i+1)=G.2.take i++[G.2.getD i 0]:=by have:=fY G.2 0 (i:=(i:Int)) aa aa;rw[show ((i:Int)+1).toNat=i+1 from by omega,bB]at this;exact this
   have hf:=q1;rw[←kx (i+1) G.2,pm]at hf;by_cases hh:(ca s G.1 (G.2.take (i+1))).2=true
   ·have hh':=hh;rw[ht,pm]at hh⊢;by_cases h4:(ca s G.1 (G.2.take i)).2=true
    ·rw[am h4]at hh⊢;obtain⟨b1,b2,b3⟩:=iU h1;rw[xJ (p:=(p.1,p.2++[G.2.getD i 0])) b1 (by rw[bj];simp only[aH,aM];omega)];dsimp only;rw[b3]at h1 h3;rw[pm,am h1,h3];exact⟨hh,rfl⟩
    ·rw[ai h4]at hh;cases hh
   ·rw[ai hh]at hf;cases hf
  intro i
  induction i with
  |zero=>intro _;have hr0:iQ K (bc s K) f (G.2.take 0)=(bc s K).getD f.toNat (0,[]):=rfl;rw[hr0];exact⟨p1,p2,hfg,λh=>(nxt 0 _ h p1 p2 hfg).1⟩
  |succ i ih=>
   intro hi;obtain⟨r1,r2,r3,r4⟩:=ih aa;have ht:G.2.take (i+1)=G.2.take i++[G.2.getD i 0]:=by have:=fY G.2 0 (i:=(i:Int)) aa aa;rw[show ((i:Int)+1).toNat=i+1 from by omega,bB]at this;exact this
   have hr:iQ K (bc s K) f (G.2.take (i+1))=Br K (iQ K (bc s K) f (G.2.take i)) (G.2.getD i 0):=by rw[ht];unfold iQ;rw[oY];rfl
   have n1:=nxt i _ aa r1 r2 r3;generalize iQ K (bc s K) f (G.2.take i)=p at *;obtain⟨O,hs,hv⟩:=rq P n1.1;have hl:=DK P O.o0 O.o1;have e1:(aV s (Br K p (G.2.getD i 0))).1=(ca s G.1 (G.2.take (i+1))).1:=hs.2.trans n1.2;rw[hr];exact⟨hv,hl.2,e1,λh=>(nxt (i+1) _ h hv hl.2 e1).1⟩
 refine⟨f0,f1,g0,g1,aa,λi i0 i1=>?_,?_⟩
 ·obtain⟨_,_,_,r4⟩:=run i.toNat aa;exact (rq P (r4 aa)).1
 ·obtain⟨r1,_,_,_⟩:=run ((bc s K).getD g.toNat (0,[])).2.length (aZ _);rw[wh]at r1;have O:=(rq P r1).1;have hb:(fD (cY s K)).length=K.2.2.length:=by unfold fD;rw[bG,F.n]
  exact⟨O.le,O.a0,O.a1,O.o0,by rw[hb];exact O.o1⟩
theorem A0(hS:bE s=true)(e0:0<=e)(e1:e<s.2.1.length):(aV s (s.2.1.getD e.toNat 0,[e])).2=true/\(aV s (s.2.1.getD e.toNat 0,[e])).1=s.2.2.1.getD e.toNat 0:=by obtain⟨_,_,_,_,hw,_⟩:=fH hS;obtain⟨w0,w1⟩:=fF.1 hw e e0 e1;rw[xJ (p:=(s.2.1.getD e.toNat 0,[e])) (iD.2 ⟨w0,ae⟩) ak];dsimp only;rw[ca,am ⟨iD.2 ⟨e0,aa⟩,rfl⟩];exact⟨rfl,rfl⟩
def lK(s:aB)(K:cF)(n:Nat):List Int:=be n λx=>lM s K x []
def dH(s:aB)(K:cF)(n:Nat):List Int:=be n λe=>lM s K (s.2.1.getD e.toNat 0) [e]
def eB(l:bg):List Int:=l.map (·.1)
def toA(s:aB)(l:bg):List Int:=l.map λp=>(aV s p).1
def rK(s:aB)(K:cF):aF:=(s.1,(eB (bc s K),(toA s (bc s K),(lK s K s.1.toNat,[]))))
def eC(s:aB)(K:cF):aF:=(s.1,(eB (bc s K),(toA s (bc s K),(lK s K s.1.toNat,pz (rK s K) (j7 K (fD (cY s K)) (bc s K))))))
theorem Kx{i:Nat}(h:i<l.length):(eB l).getD i 0=(l.getD i (0,[])).1:=by unfold eB;simp only[bN,fQ,bX h,dX,dY]
theorem K5{i:Nat}(h:i<l.length):(toA s l).getD i 0=(aV s (l.getD i (0,[]))).1:=by unfold toA;simp only[bN,fQ,bX h,dX,dY]
theorem aet(P:KlsP s L K)(e0:0<=e)(e1:e<s.2.1.length):0<=(dH s K s.2.1.length).getD e.toNat 0/\(dH s K s.2.1.length).getD e.toNat 0<(bc s K).length/\
  (eB (bc s K)).getD ((dH s K s.2.1.length).getD e.toNat 0).toNat 0=s.2.1.getD e.toNat 0/\(toA s (bc s K)).getD ((dH s K s.2.1.length).getD e.toNat 0).toNat 0=s.2.2.1.getD e.toNat 0:=by
 unfold dH;rw[iJ e0 aa];obtain⟨h1,h2⟩:=A0 P.S e0 e1;obtain⟨a0,a1,_,hs⟩:=KN P h1;dsimp only at a0 a1 hs;rw[Kx aa,K5 aa];exact⟨a0,a1,hs.1,hs.2.trans h2⟩
theorem Tl{s:aB}{L:bg}{K:cF}(P:KlsP s L K)(S:ShapeP (eC s K)):∀(es:aw)(h n:Int),0<=h->h<(bc s K).length->(toA s (bc s K)).getD h.toNat 0=n->(ca s n es).2=true->tT (eC s K) (dH s K s.2.1.length) h es
 |[],_,_,_,_,_,_=>trivial
 |e::r,h,n,h0,h1,ht,hf=>by
  simp only[ca]at hf;split at hf
  ·rename_i hc;obtain⟨e0,e1⟩:=iD.1 hc.1;obtain⟨a0,a1,a2,a3⟩:=aet P e0 aa;have hl:(dH s K s.2.1.length).length=s.2.1.length:=by unfold dH;rw[bG]
   have hfl:(eC s K).2.1.length=(bc s K).length:=by unfold eC eB;rw[d5]
   have hcomp:(eC s K).2.2.1.getD h.toNat 0=(eC s K).2.1.getD ((dH s K s.2.1.length).getD e.toNat 0).toNat 0:=by show (toA s (bc s K)).getD h.toNat 0=(eB (bc s K)).getD _ 0;rw[ht,a2,hc.2]
   have y:=S.yes h0 (by rw[hfl];exact h1) a0 (by rw[hfl];exact a1) hcomp;refine⟨⟨e0,by rw[hl];omega⟩,⟨a0,by rw[hfl];exact a1⟩,hcomp,Tl P S r _ (s.2.2.1.getD e.toNat 0) y.1 (by rw[←hfl];exact y.2.1) ?_ hf⟩;have:(eC s K).2.2.1.getD (bU (eC s K) h ((dH s K s.2.1.length).getD e.toNat 0)).toNat 0=(eC s K).2.2.1.getD ((dH s K s.2.1.length).getD e.toNat 0).toNat 0:=y.2.2.2;exact this.trans a3
  ·cases hf
theorem Bc(P:KlsP s L K)(hc:eM (eC s K)=true)(hp:(aV s p).2=true):AroP (eC s K,(l,dH s K s.2.1.length)) p:=by
 have S:ShapeP (eC s K):=by unfold eM at hc;rw[ao]at hc;exact uV.1 hc.1
 obtain⟨a1,a2,a3⟩:=iU hp;obtain⟨b0,b1⟩:=iD.1 a1;have hx:p.1<(eC s K).1:=by show p.1<s.1;omega
 have hid:=S.idn b0 hx;have hi2:=S.idt p.1 b0 hx;have hfl:(eC s K).2.1.length=(bc s K).length:=by unfold eC eB;rw[d5]
 rw[a3]at hp;exact⟨S,b0,hx,Tl P S p.2 _ p.1 hid.1 (by rw[←hfl];exact hid.2.1) hi2.2 hp⟩
theorem RD(hS:bE s=true):(∀p∈s.2.2.2.1,(aV s p).2=true)/\∀p∈s.2.2.2.2,(aV s p).2=true:=by
 obtain⟨_,_,_,_,_,_,_,h8,h9⟩:=fH hS;constructor
 ·intro p hp;obtain⟨i,i1,e⟩:=kC hp;have:=(nf h9 (i:=(i:Int)) aa aa aa).l2;rw[bB,e]at this;exact this
 ·intro p hp;obtain⟨i,i1,e⟩:=kC hp;have:=(nf h9 (i:=(i:Int)) aa aa aa).r2;rw[bB,e]at this;exact this
theorem UJ(P:KlsP s L K):ClsP (s,(eC s K,(dH s K s.2.1.length,bc s K))):=by obtain⟨_,_,_,_,_,_,_,h8,_⟩:=fH P.S;obtain⟨hl,hr⟩:=RD P.S;refine⟨λh p hp=>?_,λh p hp=>Bc P h (hl p hp),λh p hp=>Bc P h (hr p hp),h8⟩;obtain⟨i,i1,rfl⟩:=kC hp;have:=(pw P (i:=(i:Int)) aa (by exact Int.ofNat_lt.2 i1)).1;rw[bB]at this;exact Bc P h this
theorem UF(P:KlsP s L K)(h40:(cY s K).length<=40):PrtP (s,(rK s K,(dH s K s.2.1.length,bc s K))) K (fD (cY s K)):=by refine⟨by show (eB _).length=_;unfold eB;rw[d5],by show (toA s _).length=_;unfold toA;rw[d5],by show (bc s K).length<=40;rw[tq];exact h40,λf g f0 f1 g0 g1 h=>?_⟩;have h:(toA s (bc s K)).getD f.toNat 0=(eB (bc s K)).getD g.toNat 0:=h;dsimp only at f1 g1;rw[K5 aa,Kx aa]at h;exact afx P f0 f1 g0 g1 h
def cr(s:aB):Um:=(s,(eC s (pcR s),(dH s (pcR s) s.2.1.length,bc s (pcR s))))
def fC(s:aB):Bool:=io s&&decide ((cY s (pcR s)).length<=40)&&jZ (cr s)
def wB:Sp:=⟨[kH],[false],true,λx=>fC x.1,λx=>[bE x.1=true],[(false,BS),(false,ym)],λx=>(cr x.1,false,()),[(false,(.fz .any)),(false,ym)],λx=>((),true,())⟩
def qA:Ct:=fO wB true
def sf:Ct:=fO wB false
def VP:Ct:=spC wB
def Mk:Ann:=(.s .n (.s .n (.s .n (.s .n (.s .n (.s .n (.s .n (.s (.s .n (.l [(4,(.ad 4 [.de])),(7,(.ad 7 [.de])),(8,(.bx (.ad 42 [.de]))),(45,(.d aq))] Li [0,43,44] .n)) (.s (.s .n (.l [(4,(.ad 4 [.de])),(7,(.ad 7 [.de])),(8,(.bx (.ad 42 [.de]))),(102,(.d aq))] Li [0,101] .n)) (.s (.s .n (.l [(4,(.ad 4 [.de])),(7,(.ad 7 [.de])),(8,(.bx (.ad 42 [.de]))),(128,(.d aq))] Li [126,127] .n)) .n))))))))))
def ahg:FuncId->Option Ct:=lkp [(59,Mg),(60,ze),(63,Md),(65,sg),(61,sy),(34,mS),(62,wC),(64,q9)]
def Cx(s:aB)(A:bV qA.rt->Prop)(B:bV sf.rt->Prop):Prop:=cnd (io s) (io s=true/\bE s=true/\cnd false (B ((),false,())) ((pcR s).2.2.length<=1000000/\OrdP (pcR s) s (cJ ((pcR s).2.2.length:Int))/\cnd (decide (40<((gP (pcR s) s (cJ ((pcR s).2.2.length:Int))).length:Int))) (B ((),true,())) ((gP (pcR s) s (cJ ((pcR s).2.2.length:Int))).length<=40/\bD (gP (pcR s) s (cJ ((pcR s).2.2.length:Int))) ((gP (pcR s) s (cJ ((pcR s).2.2.length:Int))).length:Int)=true/\aI (S:=((Unit×dy)×(((List (ByteArray×Int))×fE)×kX))) (λs1 next=>inK .i64 s1.1.2.2.2.1->T.ok (T.mp T.str aq) s1.2.1.1->T.ok bd s1.2.1.2.1->T.ok aW s1.2.1.2.2->T.ok bd s1.2.2.1->inK .i64 s1.2.2.2.1.1.1->T.ok bd s1.2.2.2.1.1.2.1->T.ok bd s1.2.2.2.1.1.2.2.1->T.ok aW s1.2.2.2.1.1.2.2.2.1->T.ok aW s1.2.2.2.1.1.2.2.2.2->inK .i64 s1.2.2.2.1.2.1.1->T.ok bd s1.2.2.2.1.2.1.2.1->T.ok bd s1.2.2.2.1.2.1.2.2.1->T.ok bd s1.2.2.2.1.2.1.2.2.2.1->T.ok nz s1.2.2.2.1.2.1.2.2.2.2->T.ok bd s1.2.2.2.1.2.2.1->T.ok aW s1.2.2.2.1.2.2.2->cnd (decide (s1.1.2.2.2.1<((gP (pcR s) s (cJ ((pcR s).2.2.length:Int))).length:Int))) (0<=s1.1.2.2.2.1/\s1.1.2.2.2.1<((gP (pcR s) s (cJ ((pcR s).2.2.length:Int))).length:Int)/\0<=(gP (pcR s) s (cJ ((pcR s).2.2.length:Int))).getD s1.1.2.2.2.1.toNat 0/\(gP (pcR s) s (cJ ((pcR s).2.2.length:Int))).getD s1.1.2.2.2.1.toNat 0<(s1.2.1.2.2.length:Int)/\s.2.1.length<=s.2.2.1.length/\inK .i64 (s.1-1)/\aX s1.2.2.2.1.2.2.2.length (s1.2.1.2.2.getD ((gP (pcR s) s (cJ ((pcR s).2.2.length:Int))).getD s1.1.2.2.2.1.toNat 0).toNat (0,[])::([]:List aS)).length 32/\aX s1.2.2.2.1.2.1.2.1.length [(s1.2.1.2.2.getD ((gP (pcR s) s (cJ ((pcR s).2.2.length:Int))).getD s1.1.2.2.2.1.toNat 0).toNat (0,[])).1].length 8/\aX s1.2.2.2.1.2.1.2.2.1.length [(aV s (s1.2.1.2.2.getD ((gP (pcR s) s (cJ ((pcR s).2.2.length:Int))).getD s1.1.2.2.2.1.toNat 0).toNat (0,[]))).1].length 8/\inK .i64 (s1.1.2.2.2.1+1)/\next (((),(),(),s1.1.2.2.2.1+1,()),s1.2.1,s1.2.2.1,(s1.2.2.2.1.1,(s1.2.2.2.1.2.1.1,s1.2.2.2.1.2.1.2.1++[(s1.2.1.2.2.getD ((gP (pcR s) s (cJ ((pcR s).2.2.length:Int))).getD s1.1.2.2.2.1.toNat 0).toNat (0,[])).1],s1.2.2.2.1.2.1.2.2.1++[(aV s (s1.2.1.2.2.getD ((gP (pcR s) s (cJ ((pcR s).2.2.length:Int))).getD s1.1.2.2.2.1.toNat 0).toNat (0,[]))).1],s1.2.2.2.1.2.1.2.2.2),s1.2.2.2.1.2.2.1,s1.2.2.2.1.2.2.2++s1.2.1.2.2.getD ((gP (pcR s) s (cJ ((pcR s).2.2.length:Int))).getD s1.1.2.2.2.1.toNat 0).toNat (0,[])::([]:List aS)),())) (aI (S:=((Unit×dy)×(((List (ByteArray×Int))×fE)×kX))) (λs2 next1=>inK .i64 s2.1.2.2.2.1->T.ok (T.mp T.str aq) s2.2.1.1->T.ok bd s2.2.1.2.1->T.ok aW s2.2.1.2.2->T.ok bd s2.2.2.1->inK .i64 s2.2.2.2.1.1.1->T.ok bd s2.2.2.2.1.1.2.1->T.ok bd s2.2.2.2.1.1.2.2.1->T.ok aW s2.2.2.2.1.1.2.2.2.1->T.ok aW s2.2.2.2.1.1.2.2.2.2->inK .i64 s2.2.2.2.1.2.1.1->T.ok bd s2.2.2.2.1.2.1.2.1->T.ok bd s2.2.2.2.1.2.1.2.2.1->T.ok bd s2.2.2.2.1.2.1.2.2.2.1->T.ok nz s2.2.2.2.1.2.1.2.2.2.2->T.ok bd s2.2.2.2.1.2.2.1->T.ok aW s2.2.2.2.1.2.2.2->cnd (decide (s2.1.2.2.2.1<s.1)) (([]:List Int).length<=1000000/\0<=da s2.2.1 s2.1.2.2.2.1 []/\da s2.2.1 s2.1.2.2.2.1 []<(s2.2.1.2.1.length:Int)/\0<=s2.2.1.2.1.getD (da s2.2.1 s2.1.2.2.2.1 []).toNat 0/\s2.2.1.2.1.getD (da s2.2.1 s2.1.2.2.2.1 []).toNat 0<(s2.2.2.1.length:Int)/\aX s2.2.2.2.1.2.1.2.2.2.1.length [s2.2.2.1.getD (s2.2.1.2.1.getD (da s2.2.1 s2.1.2.2.2.1 []).toNat 0).toNat 0].length 8/\inK .i64 (s2.1.2.2.2.1+1)/\next1 (((),(),(),s2.1.2.2.2.1+1,()),s2.2.1,s2.2.2.1,(s2.2.2.2.1.1,(s2.2.2.2.1.2.1.1,s2.2.2.2.1.2.1.2.1,s2.2.2.2.1.2.1.2.2.1,s2.2.2.2.1.2.1.2.2.2.1++[s2.2.2.1.getD (s2.2.1.2.1.getD (da s2.2.1 s2.1.2.2.2.1 []).toNat 0).toNat 0],s2.2.2.2.1.2.1.2.2.2.2),s2.2.2.2.1.2.2),())) (aI (S:=((Unit×dy)×(((List (ByteArray×Int))×fE)×kX))) (λs3 next2=>inK .i64 s3.1.2.2.2.1->T.ok (T.mp T.str aq) s3.2.1.1->T.ok bd s3.2.1.2.1->T.ok aW s3.2.1.2.2->T.ok bd s3.2.2.1->inK .i64 s3.2.2.2.1.1.1->T.ok bd s3.2.2.2.1.1.2.1->T.ok bd s3.2.2.2.1.1.2.2.1->T.ok aW s3.2.2.2.1.1.2.2.2.1->T.ok aW s3.2.2.2.1.1.2.2.2.2->inK .i64 s3.2.2.2.1.2.1.1->T.ok bd s3.2.2.2.1.2.1.2.1->T.ok bd s3.2.2.2.1.2.1.2.2.1->T.ok bd s3.2.2.2.1.2.1.2.2.2.1->T.ok nz s3.2.2.2.1.2.1.2.2.2.2->T.ok bd s3.2.2.2.1.2.2.1->T.ok aW s3.2.2.2.1.2.2.2->cnd (decide (s3.1.2.2.2.1<(s.2.1.length:Int))) (0<=s3.1.2.2.2.1/\s3.1.2.2.2.1<(s.2.1.length:Int)/\[s3.1.2.2.2.1].length<=1000000/\0<=da s3.2.1 (s.2.1.getD s3.1.2.2.2.1.toNat 0) [s3.1.2.2.2.1]/\da s3.2.1 (s.2.1.getD s3.1.2.2.2.1.toNat 0) [s3.1.2.2.2.1]<(s3.2.1.2.1.length:Int)/\0<=s3.2.1.2.1.getD (da s3.2.1 (s.2.1.getD s3.1.2.2.2.1.toNat 0) [s3.1.2.2.2.1]).toNat 0/\s3.2.1.2.1.getD (da s3.2.1 (s.2.1.getD s3.1.2.2.2.1.toNat 0) [s3.1.2.2.2.1]).toNat 0<(s3.2.2.1.length:Int)/\aX s3.2.2.2.1.2.2.1.length [s3.2.2.1.getD (s3.2.1.2.1.getD (da s3.2.1 (s.2.1.getD s3.1.2.2.2.1.toNat 0) [s3.1.2.2.2.1]).toNat 0).toNat 0].length 8/\inK .i64 (s3.1.2.2.2.1+1)/\next2 (((),(),(),s3.1.2.2.2.1+1,()),s3.2.1,s3.2.2.1,(s3.2.2.2.1.1,s3.2.2.2.1.2.1,s3.2.2.2.1.2.2.1++[s3.2.2.1.getD (s3.2.1.2.1.getD (da s3.2.1 (s.2.1.getD s3.1.2.2.2.1.toNat 0) [s3.1.2.2.2.1]).toNat 0).toNat 0],s3.2.2.2.1.2.2.2),())) (PrtP s3.2.2.2.1 s3.2.1 s3.2.2.1/\ClsP (s3.2.2.2.1.1,(s3.2.2.2.1.2.1.1,s3.2.2.2.1.2.1.2.1,s3.2.2.2.1.2.1.2.2.1,s3.2.2.2.1.2.1.2.2.2.1,pz s3.2.2.2.1.2.1 (j7 s3.2.1 s3.2.2.1 s3.2.2.2.1.2.2.2)),s3.2.2.2.1.2.2)/\cnd (!jZ (s3.2.2.2.1.1,(s3.2.2.2.1.2.1.1,s3.2.2.2.1.2.1.2.1,s3.2.2.2.1.2.1.2.2.1,s3.2.2.2.1.2.1.2.2.2.1,pz s3.2.2.2.1.2.1 (j7 s3.2.1 s3.2.2.1 s3.2.2.2.1.2.2.2)),s3.2.2.2.1.2.2)) (B ((),true,())) (A ((s3.2.2.2.1.1,(s3.2.2.2.1.2.1.1,s3.2.2.2.1.2.1.2.1,s3.2.2.2.1.2.1.2.2.1,s3.2.2.2.1.2.1.2.2.2.1,pz s3.2.2.2.1.2.1 (j7 s3.2.1 s3.2.2.1 s3.2.2.2.1.2.2.2)),s3.2.2.2.1.2.2),false,())))) (((),(),(),0,()),s2.2.1,s2.2.2.1,s2.2.2.2.1,()))) (((),(),(),0,()),s1.2.1,s1.2.2.1,s1.2.2.2.1,()))) (((),(),(),0,()),pcR s,fD (gP (pcR s) s (cJ ((pcR s).2.2.length:Int))),(s,(s.1,[],[],[],[]),[],([]:List aS)),())))) (io s=false/\bE s=true/\cnd true (B ((),true,())) (False/\False/\False/\False))
def G3(s:aB)(K:bV qA.rt->Prop):Prop:=Cx s K (λ_=>False)
theorem Vq(s:aB)(hok:ab (okL qA.args (s,())))(hpre:ab (qA.pre (s,()))):G3 s (λr=>r=qA.res (s,())):=by
 simp only[qA,fO,wB,okL,T.oks,T.ok,ap,ab,aL,aA,bf]at hok hpre
 try dsimp only[T.den]at hok hpre
 unfold G3 Cx;obtain⟨hs,hS⟩:=hpre;clear hok;obtain⟨s0,s8,f8,tf,_,_,e8,re,_⟩:=fH hS;unfold fC at hs;rw[ao,ao,cj]at hs;obtain⟨⟨hp,h4⟩,hcl⟩:=hs;unfold cr at hcl;simp only[qA,fO,wB,cr];refine aC (λ_=>⟨hp,hS,aC (λh=>by cases h) (λ_=>?_)⟩) (λh=>by rw[hp]at h;cases h);have P:=p8 hS hp;have F:=xV s (pcR s);have hO:gP (pcR s) s (cJ ((pcR s).2.2.length:Int))=cY s (pcR s):=rfl;rw[hO];clear hO;generalize pcR s=K at *;have hC:=P.C.le;have hn:=P.n;have hH:=P.H.le;have hFn:=F.n;have hbl:(fD (cY s K)).length=K.2.2.length:=by unfold fD;rw[bG,hFn]
 have hal:(bc s K).length=(cY s K).length:=tq;refine⟨aa,⟨aa,az,⟨aa,λp hp=>by obtain⟨i,i1,rfl⟩:=kC hp;have:=(DK P (k:=(i:Int)) aa aa).2;rw[bB]at this;omega⟩,λa ha=>Ep.1 ha⟩,aE (λh=>?_) (λh=>?_)⟩
 ·omega
 have h40:(cY s K).length<=40:=aa
 refine⟨h40,fF.2 λi i0 i1=>by have:=F.r i i0 i1;omega,?_⟩;refine aY (λ(q:((Unit×dy)×(((List (ByteArray×Int))×fE)×kX)))=>0<=q.1.2.2.2.1/\q.1.2.2.2.1<=(cY s K).length/\q.2.1=K/\q.2.2.1=fD (cY s K)/\q.2.2.2.1=(s,((s.1,(eB ((bc s K).take q.1.2.2.2.1.toNat),(toA s ((bc s K).take q.1.2.2.2.1.toNat),([],[])))),([],(bc s K).take q.1.2.2.2.1.toNat)))) (λ(q:((Unit×dy)×(((List (ByteArray×Int))×fE)×kX)))=>((cY s K).length-q.1.2.2.2.1).toNat) ?_ ⟨cB _,ae,rfl,rfl,rfl⟩;rintro⟨⟨_,_,_,i,_⟩,k',b',o',_⟩ next ⟨i0,i1,q1,q2,q3⟩ hnx
 intros
 try dsimp only at i0 i1 q1 q2 q3 hnx⊢
 subst q1;subst q2;subst q3
 try dsimp only
 refine aE (λhi=>?_) (λhi=>?_)
 ·have hr:=F.r i i0 hi;have ht:(bc s k').take (i+1).toNat=(bc s k').take i.toNat++[k'.2.2.getD ((cY s k').getD i.toNat 0).toNat (0,[])]:=by rw[fY (bc s k') (0,[]) i0 aa,DQ aa]
  have htl:((bc s k').take i.toNat).length<=40:=by rw[ez];omega
  refine⟨i0,hi,hr.1,hr.2,aa,az,bh (by simp only[aH,aM];omega),bh (by unfold eB;rw[d5];simp only[aH,aM];omega),bh (by unfold toA;rw[d5];simp only[aH,aM];omega),az,hnx _ ⟨ae,ae,rfl,rfl,?_⟩ ae⟩
  try dsimp only
  rw[ht];simp only[eB,toA,mN,gO,nP]
 clear hnx;have e:i=(cY s k').length:=aa
 subst e;rw[bB,uh aa];refine aY (λ(q:((Unit×dy)×(((List (ByteArray×Int))×fE)×kX)))=>0<=q.1.2.2.2.1/\q.1.2.2.2.1<=s.1/\q.2.1=k'/\q.2.2.1=fD (cY s k')/\q.2.2.2.1=(s,((s.1,(eB (bc s k'),(toA s (bc s k'),(lK s k' q.1.2.2.2.1.toNat,[])))),([],bc s k')))) (λ(q:((Unit×dy)×(((List (ByteArray×Int))×fE)×kX)))=>(s.1-q.1.2.2.2.1).toNat) ?_ ⟨cB _,ae,rfl,rfl,rfl⟩;rintro⟨⟨_,_,_,x,_⟩,k2,b',o',_⟩ next ⟨x0,x1,q1,q2,q3⟩ hnx
 intros
 try dsimp only at x0 x1 q1 q2 q3 hnx⊢
 subst q1;subst q2;subst q3
 try dsimp only
 refine aE (λhx=>?_) (λhx=>?_)
 ·have O:=(rq P (Az x0 hx)).1;refine⟨ak,O.a0,O.a1,O.o0,by rw[hbl];exact O.o1,bh (by unfold lK;rw[bG];simp only[aH,aM];omega),az,hnx _ ⟨ae,ae,rfl,rfl,?_⟩ ae⟩
  try dsimp only
  have:lK s k2 (x+1).toNat=lK s k2 x.toNat++[(fD (cY s k2)).getD (k2.2.1.getD (da k2 x []).toNat 0).toNat 0]:=by unfold lK;rw[gC x0];rfl
  rw[this]
 clear hnx;have e:x=s.1:=aa
 subst e;refine aY (λ(q:((Unit×dy)×(((List (ByteArray×Int))×fE)×kX)))=>0<=q.1.2.2.2.1/\q.1.2.2.2.1<=s.2.1.length/\q.2.1=k2/\q.2.2.1=fD (cY s k2)/\q.2.2.2.1=(s,(rK s k2,(dH s k2 q.1.2.2.2.1.toNat,bc s k2)))) (λ(q:((Unit×dy)×(((List (ByteArray×Int))×fE)×kX)))=>(s.2.1.length-q.1.2.2.2.1).toNat) ?_ ⟨cB _,ae,rfl,rfl,rfl⟩;rintro⟨⟨_,_,_,x,_⟩,k3,b',o',_⟩ next ⟨x0,x1,q1,q2,q3⟩ hnx
 intros
 try dsimp only at x0 x1 q1 q2 q3 hnx⊢
 subst q1;subst q2;subst q3
 try dsimp only
 refine aE (λhx=>?_) (λhx=>?_)
 ·have O:=(rq P (A0 hS x0 hx).1).1;refine⟨x0,hx,ak,O.a0,O.a1,O.o0,by rw[hbl];exact O.o1,bh (by unfold dH;rw[bG];simp only[aH,aM];omega),az,hnx _ ⟨ae,ae,rfl,rfl,?_⟩ ae⟩
  try dsimp only
  have:dH s k3 (x+1).toNat=dH s k3 x.toNat++[(fD (cY s k3)).getD (k3.2.1.getD (da k3 (s.2.1.getD x.toNat 0) [x]).toNat 0).toNat 0]:=by unfold dH;rw[gC x0];rfl
  rw[this]
 clear hnx;have e:x=s.2.1.length:=aa
 subst e;rw[bB];refine⟨UF P h40,UJ P,aC (λh=>?_) (λh=>?_)⟩
 ·exact absurd hcl (by rw[Bool.not_eq_true,←fy];exact h)
 ·rfl
theorem Ve:aN Tryz.prog 35 qA:=ctb (au Me (au M5 (au Mc (au Ml (au MR (au u6 (au G9 (au G4 aQ)))))))) aR 35 Tryz.f35 qA Mk [(16,5008),(1,1500),(21,5013),(26,5014),(14,5007),(15,5009)] (λx K=>G3 x.1 K) (λx h1 h2=>Vq x.1 h1 h2)
def G0(s:aB)(K:bV sf.rt->Prop):Prop:=Cx s (λ_=>False) K
theorem Vu(s:aB)(hok:ab (okL sf.args (s,())))(hpre:ab (sf.pre (s,()))):G0 s (λr=>r=sf.res (s,())):=by
 simp only[sf,fO,wB,okL,T.oks,T.ok,ap,ab,aL,aA,bf]at hok hpre
 try dsimp only[T.den]at hok hpre
 unfold G0 Cx;obtain⟨hs,hS⟩:=hpre;clear hok;obtain⟨s0,s8,f8,tf,_,_,e8,re,_⟩:=fH hS;unfold fC cr at hs;refine aC (λhp=>⟨hp,hS,aC (λh=>by cases h) (λ_=>?_)⟩) (λhp=>⟨hp,hS,aC (λ_=>rfl) (λh=>by cases h)⟩);rw[hp,ji]at hs;have P:=p8 hS hp;have F:=xV s (pcR s);have hO:gP (pcR s) s (cJ ((pcR s).2.2.length:Int))=cY s (pcR s):=rfl;rw[hO];clear hO;generalize pcR s=K at *;have hC:=P.C.le;have hn:=P.n;have hH:=P.H.le;have hFn:=F.n;have hbl:(fD (cY s K)).length=K.2.2.length:=by unfold fD;rw[bG,hFn]
 have hal:(bc s K).length=(cY s K).length:=tq;refine⟨aa,⟨aa,az,⟨aa,λp hp=>by obtain⟨i,i1,rfl⟩:=kC hp;have:=(DK P (k:=(i:Int)) aa aa).2;rw[bB]at this;omega⟩,λa ha=>Ep.1 ha⟩,aE (λh=>?_) (λh=>?_)⟩
 ·rfl
 have h40:(cY s K).length<=40:=aa
 refine⟨h40,fF.2 λi i0 i1=>by have:=F.r i i0 i1;omega,?_⟩;refine aY (λ(q:((Unit×dy)×(((List (ByteArray×Int))×fE)×kX)))=>0<=q.1.2.2.2.1/\q.1.2.2.2.1<=(cY s K).length/\q.2.1=K/\q.2.2.1=fD (cY s K)/\q.2.2.2.1=(s,((s.1,(eB ((bc s K).take q.1.2.2.2.1.toNat),(toA s ((bc s K).take q.1.2.2.2.1.toNat),([],[])))),([],(bc s K).take q.1.2.2.2.1.toNat)))) (λ(q:((Unit×dy)×(((List (ByteArray×Int))×fE)×kX)))=>((cY s K).length-q.1.2.2.2.1).toNat) ?_ ⟨cB _,ae,rfl,rfl,rfl⟩;rintro⟨⟨_,_,_,i,_⟩,k',b',o',_⟩ next ⟨i0,i1,q1,q2,q3⟩ hnx
 intros
 try dsimp only at i0 i1 q1 q2 q3 hnx⊢
 subst q1;subst q2;subst q3
 try dsimp only
 refine aE (λhi=>?_) (λhi=>?_)
 ·have hr:=F.r i i0 hi;have ht:(bc s k').take (i+1).toNat=(bc s k').take i.toNat++[k'.2.2.getD ((cY s k').getD i.toNat 0).toNat (0,[])]:=by rw[fY (bc s k') (0,[]) i0 aa,DQ aa]
  have htl:((bc s k').take i.toNat).length<=40:=by rw[ez];omega
  refine⟨i0,hi,hr.1,hr.2,aa,az,bh (by simp only[aH,aM];omega),bh (by unfold eB;rw[d5];simp only[aH,aM];omega),bh (by unfold toA;rw[d5];simp only[aH,aM];omega),az,hnx _ ⟨ae,ae,rfl,rfl,?_⟩ ae⟩
  try dsimp only
  rw[ht];simp only[eB,toA,mN,gO,nP]
 clear hnx;have e:i=(cY s k').length:=aa
 subst e;rw[bB,uh aa];refine aY (λ(q:((Unit×dy)×(((List (ByteArray×Int))×fE)×kX)))=>0<=q.1.2.2.2.1/\q.1.2.2.2.1<=s.1/\q.2.1=k'/\q.2.2.1=fD (cY s k')/\q.2.2.2.1=(s,((s.1,(eB (bc s k'),(toA s (bc s k'),(lK s k' q.1.2.2.2.1.toNat,[])))),([],bc s k')))) (λ(q:((Unit×dy)×(((List (ByteArray×Int))×fE)×kX)))=>(s.1-q.1.2.2.2.1).toNat) ?_ ⟨cB _,ae,rfl,rfl,rfl⟩;rintro⟨⟨_,_,_,x,_⟩,k2,b',o',_⟩ next ⟨x0,x1,q1,q2,q3⟩ hnx
 intros
 try dsimp only at x0 x1 q1 q2 q3 hnx⊢
 subst q1;subst q2;subst q3
 try dsimp only
 refine aE (λhx=>?_) (λhx=>?_)
 ·have O:=(rq P (Az x0 hx)).1;refine⟨ak,O.a0,O.a1,O.o0,by rw[hbl];exact O.o1,bh (by unfold lK;rw[bG];simp only[aH,aM];omega),az,hnx _ ⟨ae,ae,rfl,rfl,?_⟩ ae⟩
  try dsimp only
  have:lK s k2 (x+1).toNat=lK s k2 x.toNat++[(fD (cY s k2)).getD (k2.2.1.getD (da k2 x []).toNat 0).toNat 0]:=by unfold lK;rw[gC x0];rfl
  rw[this]
 clear hnx;have e:x=s.1:=aa
 subst e;refine aY (λ(q:((Unit×dy)×(((List (ByteArray×Int))×fE)×kX)))=>0<=q.1.2.2.2.1/\q.1.2.2.2.1<=s.2.1.length/\q.2.1=k2/\q.2.2.1=fD (cY s k2)/\q.2.2.2.1=(s,(rK s k2,(dH s k2 q.1.2.2.2.1.toNat,bc s k2)))) (λ(q:((Unit×dy)×(((List (ByteArray×Int))×fE)×kX)))=>(s.2.1.length-q.1.2.2.2.1).toNat) ?_ ⟨cB _,ae,rfl,rfl,rfl⟩;rintro⟨⟨_,_,_,x,_⟩,k3,b',o',_⟩ next ⟨x0,x1,q1,q2,q3⟩ hnx
 intros
 try dsimp only at x0 x1 q1 q2 q3 hnx⊢
 subst q1;subst q2;subst q3
 try dsimp only
 refine aE (λhx=>?_) (λhx=>?_)
 ·have O:=(rq P (A0 hS x0 hx).1).1;refine⟨x0,hx,ak,O.a0,O.a1,O.o0,by rw[hbl];exact O.o1,bh (by unfold dH;rw[bG];simp only[aH,aM];omega),az,hnx _ ⟨ae,ae,rfl,rfl,?_⟩ ae⟩
  try dsimp only
  have:dH s k3 (x+1).toNat=dH s k3 x.toNat++[(fD (cY s k3)).getD (k3.2.1.getD (da k3 (s.2.1.getD x.toNat 0) [x]).toNat 0).toNat 0]:=by unfold dH;rw[gC x0];rfl
  rw[this]
 clear hnx;have e:x=s.2.1.length:=aa
 subst e;rw[bB];refine⟨UF P h40,UJ P,aC (λh=>?_) (λh=>?_)⟩
 ·rfl
 ·have h2:jZ (s,(eC s k3,(dH s k3 s.2.1.length,bc s k3)))=true:=by rw[Bool.not_eq_eq_eq_not,Bool.not_false]at h;exact h
  have hs2:(decide ((cY s k3).length<=40)&&jZ (s,(eC s k3,(dH s k3 s.2.1.length,bc s k3))))=true:=by rw[ao,cj];exact⟨h40,h2⟩
  rw[hs2]at hs;cases hs
theorem Vo:aN Tryz.prog 35 sf:=ctb (au Me (au M5 (au Mc (au Ml (au MR (au u6 (au G9 (au G4 aQ)))))))) aR 35 Tryz.f35 sf Mk [(16,5008),(1,1500),(21,5013),(26,5014),(14,5007),(15,5009)] (λx K=>G0 x.1 K) (λx h1 h2=>Vu x.1 h1 h2)
theorem Mq:aN Tryz.prog 35 VP:=B9 Ve Vo
def GV:Sp:=⟨[kH],[false],true,λx=>fC x.1,λx=>[bE x.1=true],[(false,BS),(false,cA)],λx=>(cr x.1,0,()),[(false,(.fz .any)),(false,cA)],λx=>((),3,())⟩
def VT:Ct:=fO GV true
def VZ:Ct:=fO GV false
def GZ:Ct:=spC GV
end
end Go.Bm
namespace Go.Proofs.NaAs
open Go.Proofs Go.RowKit Go.Extern.Stop Go.Stop Go.Extern
set_option maxRecDepth 100000
theorem as_nil(t:Value)(w:World) :
  Calls Tryz.prog 36 #[.nilIface,t] w λe w'=>e=.returned (.bool false)/\w'=w:=by
 go_enter Tryz.func36,Tryz.ntmps36
 go_wp2
 go_ret
 exact⟨rfl,rfl⟩
theorem Tryz.valueOf27(t:Addr)(w:World):(ReflectliteValue.unpack (.iface 85 (.pointer (some t)))).run Tryz.prog w
  = .ok (.agg #[.pointer (some ⟨1,85,none⟩),.pointer (some ⟨w.heap.size,0,none⟩),.int .u64 150]) (w.alloc (.cells #[.pointer (some t)] 85)):=by kernel_rfl
theorem Tryz.type27(a : Addr)(w : World) : (ReflectliteValue.methodAny (ReflectliteValue.valueError "reflectlite.Value.Type" 0) (fun t _ _ _ => ReflectliteType.toType t) #[.agg #[.pointer (some ⟨1, 85, none⟩), .pointer (some a), .int .u64 150]]).run Tryz.prog w
  = .ok (.iface 155 (.agg #[.pointer (some ⟨1,85,none⟩)])) w:=by kernel_rfl
theorem Tryz.methodKind(h : Value)(w : World) : (Go.method 347 155 (.agg #[h]) "Kind").run Tryz.prog w = .ok (160, h) w := by kernel_rfl
theorem Tryz.kind27(w:World):((ReflectliteType.abiMethod λt=>(λa:Nat=>Value.int IntKind.u8 (a:Int)) <$> Rtype.kind t) #[.pointer (some ⟨1,85,none⟩)]).run Tryz.prog w=.ok (.int .u8 22) w:=by kernel_rfl
theorem Tryz.kind25(w:World):((ReflectliteType.abiMethod λt=>(λa:Nat=>Value.int IntKind.u8 (a:Int)) <$> Rtype.kind t) #[.pointer (some ⟨1,83,none⟩)]).run Tryz.prog w=.ok (.int .u8 25) w:=by kernel_rfl
theorem rlm(z:Sem Value)(f:TypeId->Addr->Nat->Nat->Sem Value)(v:Value) :
  ReflectliteValue.method z f #[v]=(do match ←ReflectliteValue.parts v with|none=>z|some (t,a,fl)=>f t a fl (fl%32)):=rfl
theorem Tryz.parts27(a:Addr)(w:World):(ReflectliteValue.parts (.agg #[.pointer (some ⟨1,85,none⟩),.pointer (some a),.int .u64 150])).run Tryz.prog w=.ok (some (85,a,150)) w:=by kernel_rfl
theorem Tryz.isNil27(a p:Addr)(W:World)(ha:W.cell? a=some (.pointer (some p))) :
  (ReflectliteValue.method (ReflectliteValue.valueError "reflectlite.Value.IsNil" 0) ReflectliteValue.isNil #[.agg #[.pointer (some ⟨1, 85, none⟩), .pointer (some a), .int .u64 150]]).run Tryz.prog W = .ok (.bool false) W := by
 rw[rlm];simp only[Sem.run_bind,Tryz.parts27,Result.andThen];simp[ReflectliteValue.isNil,loadVar,isAgg,underlying,Tryz.underlying85,ha,Result.andThen]
theorem Tryz.methodElem(h : Value)(w : World) : (Go.method 347 155 (.agg #[h]) "Elem").run Tryz.prog w = .ok (171, .agg #[h]) w := by kernel_rfl
theorem Tryz.methodImplements(h : Value)(w : World) : (Go.method 347 155 (.agg #[h]) "Implements").run Tryz.prog w = .ok (172, .agg #[h]) w := by kernel_rfl
theorem Tryz.methodAssignableTo(h : Value)(w : World) : (Go.method 347 155 (.agg #[h]) "AssignableTo").run Tryz.prog w = .ok (169, .agg #[h]) w := by kernel_rfl
theorem Tryz.elem27(w:World):(ReflectliteType.method ReflectliteType.elem #[.agg #[.pointer (some ⟨1,85,none⟩)]]).run Tryz.prog w=.ok (.iface 155 (.agg #[.pointer (some ⟨1,83,none⟩)])) w:=by kernel_rfl
theorem Tryz.implements25(w : World) : (ReflectliteType.relation "Implements" ReflectliteType.implements_ #[.agg #[.pointer (some ⟨1, 83, none⟩)], .iface 155 (.agg #[.pointer (some ⟨1, 79, none⟩)])]).run Tryz.prog w = .ok (.bool true) w := by kernel_rfl
theorem Tryz.typeOf25(v:Value)(w:World):(ReflectliteType.typeOf #[.iface 83 v]).run Tryz.prog w=.ok (.iface 155 (.agg #[.pointer (some ⟨1,83,none⟩)])) w:=by kernel_rfl
theorem Tryz.assignable25(w : World) : (ReflectliteType.relation "AssignableTo" ReflectliteType.assignableTo #[.agg #[.pointer (some ⟨1, 83, none⟩)], .iface 155 (.agg #[.pointer (some ⟨1, 83, none⟩)])]).run Tryz.prog w = .ok (.bool true) w := by kernel_rfl
theorem Tryz.valueOf25(e:ByteArray)(w:World):(ReflectliteValue.unpack (.iface 83 (.agg #[.string e]))).run Tryz.prog w
  = .ok (.agg #[.pointer (some ⟨1,83,none⟩),.pointer (some ⟨w.heap.size,0,none⟩),.int .u64 153]) (w.alloc (.cells #[.string e] 83)):=by kernel_rfl
theorem Tryz.elemOf27(w:World):(Rtype.elem? 85).run Tryz.prog w=.ok (some 83) w:=by kernel_rfl
theorem Tryz.mk25(p:Addr)(w:World):(ReflectliteValue.mk 83 p ReflectliteValue.flagAddr).run Tryz.prog w=.ok (.agg #[.pointer (some ⟨1,83,none⟩),.pointer (some p),.int .u64 409]) w:=by kernel_rfl
theorem Tryz.elemV27(a p:Addr)(W:World)(ha:W.cell? a=some (.pointer (some p))) :
  (ReflectliteValue.method (ReflectliteValue.valueError "reflectlite.Value.Elem" 0) ReflectliteValue.elem #[.agg #[.pointer (some ⟨1, 85, none⟩), .pointer (some a), .int .u64 150]]).run Tryz.prog W
   = .ok (.agg #[.pointer (some ⟨1,83,none⟩),.pointer (some p),.int .u64 409]) W:=by
 rw[rlm];simp only[Sem.run_bind,Tryz.parts27,Result.andThen];simp[ReflectliteValue.elem,loadVar,isAgg,underlying,Tryz.underlying85,ha,Result.andThen,Tryz.elemOf27,Tryz.mk25]
theorem rls(v x:Value):ReflectliteValue.set #[v,x]=(do
  let (some (dst,a,fl),some (src,b,_)):=(←ReflectliteValue.parts v,←ReflectliteValue.parts x)
   | unsupported (.noEntry "extern/(internal/reflectlite.Value).Set.zeroValue")
  if fl / ReflectliteValue.flagAddr % 2 == 0 then unsupported (.noEntry "extern/(internal/reflectlite.Value).Set.unaddressable")
  let val ←loadVar src b
  if ←Rtype.directlyAssignable dst src then storeVar dst a val
  else if ←Rtype.implements dst src then
   if (←Rtype.kind src)==20 then
    match val with
    | .nilIface => unsupported (.noEntry "extern/reflectlite: a nil value of one interface type handed on as a value of another")
    |_=>storeVar dst a val
   else storeVar dst a (.iface src val)
  else panicString ("reflectlite.Set: value of type " ++ (← Rtype.spelt src) ++ " is not assignable to type " ++ (← Rtype.spelt dst))
  pure (.tuple #[])):=rfl
theorem Tryz.parts25a(a:Addr)(w:World):(ReflectliteValue.parts (.agg #[.pointer (some ⟨1,83,none⟩),.pointer (some a),.int .u64 409])).run Tryz.prog w=.ok (some (83,a,409)) w:=by kernel_rfl
theorem Tryz.parts25(a:Addr)(w:World):(ReflectliteValue.parts (.agg #[.pointer (some ⟨1,83,none⟩),.pointer (some a),.int .u64 153])).run Tryz.prog w=.ok (some (83,a,153)) w:=by kernel_rfl
theorem Tryz.direct25(w:World):(Rtype.directlyAssignable 83 83).run Tryz.prog w=.ok true w:=by kernel_rfl
theorem Tryz.size25(w:World):(sizeOf 83).run Tryz.prog w=.ok 1 w:=by kernel_rfl
theorem Tryz.loadVar83{b:Addr}{e:ByteArray}{W:World}(hb:W.cell? b=some (.string e)):(loadVar 83 b).run Tryz.prog W=.ok (.agg #[.string e]) W:=by have hb':W.cell? { b with off:=b.off+0 }=some (.string e):=hb;simp[loadVar,isAgg,underlying,Tryz.underlying83,Tryz.size25,loadCells,loadCellsFrom,Addr.add,hb]
theorem Tryz.storeVar83{ta:Addr}{e:ByteArray}{old:Value}{W:World}(ht:W.cell? ta=some old)(hf:W.frozen? ta=false):(storeVar 83 ta (.agg #[.string e])).run Tryz.prog W=.ok () (W.setCell ta (.string e)):=by simp[storeVar,Tryz.size25,Value.cells,storeCells,Addr.add];rw[run_store Tryz.prog W ta _ _ (by rfl)];simp[ht,hf]
theorem Tryz.set25(ta b:Addr)(e:ByteArray)(old:Value)(W:World)(hb:W.cell? b=some (.string e))(ht:W.cell? ta=some old)(hf:W.frozen? ta=false) :
  (ReflectliteValue.set #[.agg #[.pointer (some ⟨1,83,none⟩),.pointer (some ta),.int .u64 409],.agg #[.pointer (some ⟨1,83,none⟩),.pointer (some b),.int .u64 153]]).run Tryz.prog W
   = .ok (.tuple #[]) (W.setCell ta (.string e)):=by
 rw[rls];simp only[Sem.run_bind,Tryz.parts25a,Tryz.parts25,Result.andThen];simp[ReflectliteValue.flagAddr,Tryz.loadVar83 hb,Result.andThen,Tryz.direct25,Tryz.storeVar83 ht hf]
set_option maxHeartbeats 4000000 in
theorem as_hit(e:ByteArray)(t:Addr)(old:Value)(w:World)(hg:w.cell? ⟨0,0,none⟩=some (.iface 155 (.agg #[.pointer (some ⟨1,79,none⟩)])))(ht0:w.cell? t=some old)(hf0:w.frozen? t=false) :
  Calls Tryz.prog 36 #[.iface 83 (.agg #[.string e]),.iface 85 (.pointer (some t))] w λev w'=>ev=.returned (.bool true)/\w'=((((w.alloc (.cells #[.pointer (some t)] 85)).alloc (.cells #[.pointer (some ⟨1,85,none⟩),.pointer (some ⟨w.heap.size,0,none⟩),.int .u64 150] 119)).alloc (.cells #[.pointer (some ⟨1,85,none⟩),.pointer (some ⟨w.heap.size,0,none⟩),.int .u64 150] 119)).alloc (.cells #[.string e] 83)).setCell t (.string e):=by
 have h6:=@run_callFunc_extern Tryz.prog 66 _ (fun args=>ReflectliteValue.unpack (args.getD 0 (.tuple #[]))) Tryz.func66 (by kernel_rfl) (by kernel_rfl) (by kernel_rfl) (by kernel_rfl);have h7 := @run_callFunc_extern Tryz.prog 67 _ (ReflectliteValue.methodAny (ReflectliteValue.valueError "reflectlite.Value.Type" 0) (fun t _ _ _ => ReflectliteType.toType t)) Tryz.func67 (by kernel_rfl) (by kernel_rfl) (by kernel_rfl) (by kernel_rfl);have h8 := @run_callFunc_extern Tryz.prog 68 _ (ReflectliteValue.method (ReflectliteValue.valueError "reflectlite.Value.IsNil" 0) ReflectliteValue.isNil) Tryz.func68 (by kernel_rfl) (by kernel_rfl) (by kernel_rfl) (by kernel_rfl);have h27:=@run_callFunc_extern Tryz.prog 160 _ (ReflectliteType.abiMethod fun t=>do pure (.int .u8 (←Rtype.kind t))) Tryz.func160 (by kernel_rfl) (by kernel_rfl) (by kernel_rfl) (by kernel_rfl);have h37:=@run_callFunc_extern Tryz.prog 171 _ (ReflectliteType.method ReflectliteType.elem) Tryz.func171 (by kernel_rfl) (by kernel_rfl) (by kernel_rfl) (by kernel_rfl);have h38 := @run_callFunc_extern Tryz.prog 172 _ (ReflectliteType.relation "Implements" ReflectliteType.implements_) Tryz.func172 (by kernel_rfl) (by kernel_rfl) (by kernel_rfl) (by kernel_rfl);have h10:=@run_callFunc_extern Tryz.prog 98 _ ReflectliteType.typeOf Tryz.func98 (by kernel_rfl) (by kernel_rfl) (by kernel_rfl) (by kernel_rfl);have h35 := @run_callFunc_extern Tryz.prog 169 _ (ReflectliteType.relation "AssignableTo" ReflectliteType.assignableTo) Tryz.func169 (by kernel_rfl) (by kernel_rfl) (by kernel_rfl) (by kernel_rfl);have h11 := @run_callFunc_extern Tryz.prog 99 _ (ReflectliteValue.method (ReflectliteValue.valueError "reflectlite.Value.Elem" 0) ReflectliteValue.elem) Tryz.func99 (by kernel_rfl) (by kernel_rfl) (by kernel_rfl) (by kernel_rfl);have h12:=@run_callFunc_extern Tryz.prog 100 _ ReflectliteValue.set Tryz.func100 (by kernel_rfl) (by kernel_rfl) (by kernel_rfl) (by kernel_rfl);have tO:=Tryz.typeOf25;have mA:=Tryz.methodAssignableTo;have a25:=Tryz.assignable25;have v25:=Tryz.valueOf25;have f6:=Tryz.valueOf27;have f7:=Tryz.type27;have mK:=Tryz.methodKind;have mE:=Tryz.methodElem;have mI:=Tryz.methodImplements;have k27:=Tryz.kind27;have k25:=Tryz.kind25;have e27:=Tryz.elem27;have i25:=Tryz.implements25;have n8:=Tryz.isNil27 ⟨w.heap.size,0,none⟩ t ((w.alloc (.cells #[.pointer (some t)] 85)).alloc (.cells #[.pointer (some ⟨1,85,none⟩),.pointer (some ⟨w.heap.size,0,none⟩),.int .u64 150] 119)) (by simp)
 have hlt:0<w.heap.size:=by
  rcases Nat.eq_zero_or_pos w.heap.size with h0|h
  ·simp[World.cell?,h0]at hg
  ·exact h
 have hg2:((w.alloc (.cells #[.pointer (some t)] 85)).alloc (.cells #[.pointer (some ⟨1,85,none⟩),.pointer (some ⟨w.heap.size,0,none⟩),.int .u64 150] 119)).cell? ⟨0,0,none⟩=some (.iface 155 (.agg #[.pointer (some ⟨1,79,none⟩)])):=by rw[World.cell?_alloc_lt _ _ ⟨0,0,none⟩ (by simp),World.cell?_alloc_lt _ _ ⟨0,0,none⟩ hlt];exact hg
 have htl:t.block<w.heap.size:=by
  rcases Nat.lt_or_ge t.block w.heap.size with h|h
  ·exact h
  ·simp[World.cell?,Array.getElem?_eq_none h]at ht0
 have el:=Tryz.elemV27 ⟨w.heap.size,0,none⟩ t (((w.alloc (.cells #[.pointer (some t)] 85)).alloc (.cells #[.pointer (some ⟨1,85,none⟩),.pointer (some ⟨w.heap.size,0,none⟩),.int .u64 150] 119)).alloc (.cells #[.pointer (some ⟨1,85,none⟩),.pointer (some ⟨w.heap.size,0,none⟩),.int .u64 150] 119)) (by rw[World.cell?_alloc_lt _ _ ⟨w.heap.size,0,none⟩ (by simp;omega)];simp)
 have st:=Tryz.set25 t ⟨w.heap.size+1+1+1,0,none⟩ e old ((((w.alloc (.cells #[.pointer (some t)] 85)).alloc (.cells #[.pointer (some ⟨1,85,none⟩),.pointer (some ⟨w.heap.size,0,none⟩),.int .u64 150] 119)).alloc (.cells #[.pointer (some ⟨1,85,none⟩),.pointer (some ⟨w.heap.size,0,none⟩),.int .u64 150] 119)).alloc (.cells #[.string e] 83))
  (by rw[World.cell?_alloc_at _ _ _ _ (by simp)];rfl)
  (by rw[World.cell?_alloc_lt _ _ t (by simp;omega),World.cell?_alloc_lt _ _ t (by simp;omega),World.cell?_alloc_lt _ _ t (by simp;omega),World.cell?_alloc_lt _ _ t htl];exact ht0)
  (by rw[World.frozen?_alloc_old _ _ t (by simp;omega),World.frozen?_alloc_old _ _ t (by simp;omega),World.frozen?_alloc_old _ _ t (by simp;omega),World.frozen?_alloc_old _ _ t (Nat.ne_of_lt htl)];exact hf0)
 go_enter Tryz.func36,Tryz.ntmps36
 go_wp2
 refine wp_loop_rounds 1 ?_;rw[rounds_succ]
 go_wp2
 go_ret
 exact⟨rfl,rfl⟩
end Go.Proofs.NaAs
namespace Go.Bm
variable {A:aT}{F:yA}{K k:cF}{L l:bg}{W w:aK}{a b e f i nd x y:Int}{c code es j:aw}{n:Nat}{o:Obj}{old u:bm}{p q r:aO}{s:aB}{t:uK}{ta:Addr}{us:aJ}
open Go.Proofs Go.RowKit
set_option maxRecDepth 100000
set_option maxHeartbeats 1000000
noncomputable section
theorem adu : Tryz.prog.globalNamed "errors.errorType" = some 0 := by kernel_rfl
theorem ac9 : (Tryz.prog.cutTypes.find? (·.1 == "internal/reflectlite.rtype")).map (·.2) = some 155 := by kernel_rfl
theorem aae:((List.range 247).filter λt=>Tryz.prog.rowNamed t [101,114,114,111,114])=[79]:=by kernel_rfl
theorem F_:Tryz.prog.types.size=247:=by kernel_rfl
theorem aa4(h:ErrG Tryz.prog A w):w.cell? ⟨0,0,none⟩=some (.iface 155 (.agg #[.pointer (some ⟨1,79,none⟩)])):=by
 obtain⟨h1,rt,et,e2,e3,e4,e5⟩:=h 0 adu;obtain rfl:=rV (ac9.symm.trans e2);have hm:et∈(List.range 247).filter λt=>Tryz.prog.rowNamed t [101,114,114,111,114]:=we.2 ⟨yW.2 (by rw[←F_];exact e3),e4⟩;rw[aae]at hm;obtain rfl:=cP.1 hm;have hh:typeHandle Tryz.prog 79=.pointer (some ⟨1,79,none⟩):=by kernel_rfl
 rw[hh]at e5;exact e5
def prO:O:=BS
theorem Rc{t:T}{x:bo [t]}(hr:dL A w [false] [t] x us):∃u,us=[u]:=by obtain⟨u,us',vs,rfl,_,_,_,h⟩:=hr;have h:us'=[]:=h;subst h;exact⟨u,rfl⟩
theorem ae9{x:bo [T.pt fV]}(hE:ErrG Tryz.prog A w)(hA:∀b,A b->b<w.heap.size)(hr:dL A w [false] [.pt fV] x [u])(h1:fC x.1=true)(h2:bE x.1=true):
  Calls Tryz.prog 35 #[u] w λe w'=>∃v1 S,e=.returned (.tuple #[v1,.nilIface])/\Ext w w'/\(∀b,S b->w.heap.size<=b/\b<w'.heap.size)/\
   Rel (λb=>b<w'.heap.size/\(true=true/\A b\/w.heap.size<=b)/\¬S b) w' prO (cr x.1) S [v1]:=by
 refine (Mq.2.1 A w [u] x hE hA hr ⟨h1,h2,trivial⟩).mono ?_;rintro e w' ⟨rs,S,rfl,hext,hS,hres⟩;obtain⟨u1,us1,vs1,S1,S2,rfl,_,g2,s1,_,_,r1,r2⟩:=hres;obtain⟨u2,us2,vs2,S3,S4,rfl,_,g2',_,_,_,q1,q2⟩:=r2;have q2:us2=[]:=q2;subst q2;have g2:=g2 rfl;have g2':=g2' rfl;subst g2;subst g2';simp only[Rel,ah]at q1;have q1:(false=false/\[u2]=[Value.nilIface])\/∃s,false=true/\[u2]=[Value.iface 83 (.agg #[.string s])]:=q1
 have e2:u2=.nilIface:=by
  rcases q1 with⟨_,h⟩|⟨s,h,_⟩
  ·simpa using h
  ·cases h
 subst e2;exact⟨u1,S1,rfl,hext,λb hb=>hS b (s1 b hb),Rel.keep (λb hb=>⟨⟨hb.1,hb.2.1,λh=>hb.2.2 (s1 b h)⟩,rfl⟩) _ _ _ _ (λ_ _=>rfl) r1⟩
theorem aen{x:bo [T.pt fV]}(hE:ErrG Tryz.prog A w)(hA:∀b,A b->b<w.heap.size)(hr:dL A w [false] [.pt fV] x [u])(h1:fC x.1=false)(h2:bE x.1=true):
  Calls Tryz.prog 35 #[u] w λe w'=>∃v1 s,e=.returned (.tuple #[v1,.iface 83 (.agg #[.string s])])/\Ext w w':=by
 refine (Mq.2.2 A w [u] x hE hA hr ⟨h1,h2,trivial⟩).mono ?_;rintro e w' ⟨rs,S,rfl,hext,hS,hres⟩;obtain⟨u1,us1,vs1,S1,S2,rfl,_,g2,s1,_,_,r1,r2⟩:=hres;obtain⟨u2,us2,vs2,S3,S4,rfl,_,g2',_,_,_,q1,q2⟩:=r2;have q2:us2=[]:=q2;subst q2;have g2':=g2' rfl;subst g2';simp only[Rel,ah]at q1;have q1:(true=false/\[u2]=[Value.nilIface])\/∃s,true=true/\[u2]=[Value.iface 83 (.agg #[.string s])]:=q1;rcases q1 with⟨h,_⟩|⟨s,_,h⟩
 ·cases h
 ·have e2:u2=.iface 83 (.agg #[.string s]):=by simpa using h
  subst e2;exact⟨u1,s,rfl,hext⟩
theorem xk{w':aK}(h:Ext w w'):Ext w (w'.alloc o):=by
 have hs:(w'.alloc o).heap=w'.heap.push o:=rfl;refine⟨h.os,⟨h.tape.1,h.tape.2⟩,h.output,?_,λb hb=>?_⟩
 ·rw[hs,Ch];have:=h.size;omega
 ·rw[hs,yY,ai (by have:=h.size;omega)];exact h.old b hb
theorem OU{b:Nat}(hb:b<w.heap.size):(w.alloc o).heap[b]? = w.heap[b]?:=by have hs:(w.alloc o).heap=w.heap.push o:=rfl;rw[hs,yY,ai aa]
theorem aep:aN Tryz.prog 17 VT:=by
 refine⟨sS (fn:=Tryz.f17) (c:=fa Tryz.f17) (by kernel_rfl) (by kernel_rfl) (by kernel_rfl),λA w us x hE hA hr hp=>?_⟩;obtain⟨h1,h2,_⟩:=hp;obtain⟨u,rfl⟩:=Rc hr;have hpres:=ae9 hE hA hr h1 h2;show Calls Tryz.prog 17 #[u] w _
 go_enter Tryz.func17,Tryz.ntmps17
 go_wp2_with (first|(go_at_call 35;refine hpres.mono ?_;rintro e w' ⟨v1,S,rfl,hext,hS,hrel⟩)|(go_at_call 36;refine (NaAs.as_nil _ _).mono ?_;rintro e w' ⟨rfl,rfl⟩))
 go_ret2
 refine⟨[v1,.int .i64 0],S,rfl,xk hext,λb hb=>?_,?_⟩
 ·have:=hS b hb;have hs:(w'.alloc (.cells #[.string ByteArray.empty] 83)).heap.size=w'.heap.size+1:=by show (w'.heap.push _).size=_;rw[Ch]
  exact⟨this.1,by have:=this.2;exact iA this (by show _<=(w'.heap.push _).size;rw[Ch];omega)⟩
 ·refine⟨v1,[.int .i64 0],[v1],S,λ_=>False,rfl,(λh=>by cases h),λ_=>rfl,λb hb=>hb,(λb hb=>hb.elim),(λb _ h=>h.elim),?_,.int .i64 0,[],[.int .i64 0],λ_=>False,λ_=>False,rfl,(λh=>by cases h),λ_=>rfl,λb hb=>hb,λb hb=>hb,(λb hb=>hb.elim),?_,rfl⟩
  ·refine Rel.keep (λb hb=>⟨⟨?_,hb.2.1.elim (λh=>.inl ⟨rfl,h.2⟩) .inr,hb.2.2⟩,OU hb.1⟩) _ _ _ _ (λb hb=>OU (hS b hb).2) hrel;show _<(w'.heap.push _).size;rw[Ch];have:=hb.1;omega
  ·simp only[Rel,dZ];have h:inK .i64 (0:Int):=by unfold inK;decide
   exact⟨rfl,h⟩
theorem afa:aN Tryz.prog 17 VZ:=by
 refine⟨sS (fn:=Tryz.f17) (c:=fa Tryz.f17) (by kernel_rfl) (by kernel_rfl) (by kernel_rfl),λA w us x hE hA hr hp=>?_⟩;obtain⟨h1,h2,_⟩:=hp;obtain⟨u,rfl⟩:=Rc hr;have hpres:=aen hE hA hr h1 h2;have hg:=aa4 hE;have h0:0<w.heap.size:=cell_lt hg;show Calls Tryz.prog 17 #[u] w _
 go_enter Tryz.func17,Tryz.ntmps17
 go_wp2_with (first|(go_at_call 35;refine hpres.mono ?_;rintro e w' ⟨v1,s,rfl,hext⟩)|(go_at_call 36;refine (NaAs.as_hit s _ (.string ⟨#[]⟩) _ ?_ ?_ ?_).mono ?_;rotate_left 3;rintro e w' ⟨rfl,rfl⟩))
 ·go_ret2
  refine⟨[.pointer none,.int .i64 3],λ_=>False,rfl,xk (xk (xk (xk (xk hext)))),(λb hb=>hb.elim),?_⟩;refine⟨.pointer none,[.int .i64 3],[.pointer none],λ_=>False,λ_=>False,rfl,(λh=>by cases h),λ_=>rfl,λb hb=>hb,λb hb=>hb,(λb hb=>hb.elim),?_,.int .i64 3,[],[.int .i64 3],λ_=>False,λ_=>False,rfl,(λh=>by cases h),λ_=>rfl,λb hb=>hb,λb hb=>hb,(λb hb=>hb.elim),?_,rfl⟩
  ·simp only[Rel,ah];exact⟨_,rfl,rfl⟩
  ·simp only[Rel,dZ];have h:inK .i64 (3:Int):=by unfold inK;decide
   exact⟨rfl,h⟩
 ·have hs:=hext.size;rw[World.cell?_alloc_lt _ _ ⟨0,0,none⟩ (by show 0<w'.heap.size;omega),Pk (hext.old 0 h0)];exact hg
 ·simp
 ·simp
theorem GS:aN Tryz.prog 17 GZ:=B9 aep afa
def rA(s:aB)(l:bg):Bool:=l.all λp=>oh s p
def mm(s:aB)(l:bg):Bool:=bE s&&rA s l&&fC s
def ny(s:aB)(l:bg):Int:=if (bE s&&rA s l)=true then 3 else 1
theorem TL(h:rA s l=true)(i0:0<=i)(i1:i<l.length):oh s (l.getD i.toNat (0,[]))=true:=by unfold rA at h;rw[eU]at h;exact h _ (cC l (0,[]) i0 i1)
def zu:Sp:=⟨[kH,aW],[false,false],true,λx=>mm x.1 x.2.1,λx=>[],[(false,BS),(false,cA)],λx=>(cr x.1,0,()),[(false,(.fz .any)),(false,cA)],λx=>((),ny x.1 x.2.1,())⟩
def wM:Ct:=fO zu true
def wL:Ct:=fO zu false
def Hm:Ct:=spC zu
def MC:Ann:=(.s .n (.s .n (.s (.s .n (.l [(13,(.d aq))] [] [0,11,12] .n)) .n)))
def aho:FuncId->Option Ct:=lkp [(52,wG),(16,mQ),(17,GZ)]
def C9(s:aB)(list:bg)(A:bV wM.rt->Prop)(B:bV wL.rt->Prop):Prop:=cnd (!bE s) (B ((),1,())) (aI (S:=cZ) (λs1 next=>inK .i64 s1.1.1->cnd (decide (s1.1.1<(list.length:Int))) (0<=s1.1.1/\s1.1.1<(list.length:Int)/\cnd (!oh s (list.getD s1.1.1.toNat (0,[]))) (B ((),1,())) (inK .i64 (s1.1.1+1)/\next ((s1.1.1+1,()),()))) (cnd (fC s) (fC s=true/\bE s=true/\A (cr s,0,())) (fC s=false/\bE s=true/\B ((),3,())))) ((0,()),()))
def GW(s:aB)(list:bg)(K:bV wM.rt->Prop):Prop:=C9 s list K (λ_=>False)
theorem Wq(s:aB)(list:bg):Mh wM (s,list,()) (GW s list):=by
 intro hok hpre;simp only[wM,fO,zu,okL,T.oks,T.ok,ap,ab,aL,aA,bf]at hok hpre
 try dsimp only[T.den]at hok hpre
 unfold GW C9;have hs:mm s list=true:=hpre;have hl:list.length<=140737488355328:=by simp only[bO]at hok;omega
 clear hok;unfold mm at hs;rw[ao,ao]at hs;obtain⟨⟨hS,hA⟩,hP⟩:=hs;refine aC (λh=>by rw[hS]at h;cases h) (λ_=>?_);refine il (n:=(list.length:Int)) (λ_=>True) aa trivial ?_ ?_
 ·intro i next i0 i1 _ hn
  intros
  try dsimp only at hn⊢
  refine aE (λ_=>⟨i0,i1,aC (λh=>by rw[TL hA i0 i1]at h;cases h) (λ_=>⟨az,hn trivial⟩)⟩) (λhx=>absurd i1 hx)
 intro next _
 intros
 try dsimp only
 refine aE (λhx=>absurd hx aa) (λ_=>?_);exact aC (λ_=>⟨hP,hS,rfl⟩) (λh=>by rw[hP]at h;cases h)
theorem Wm:aN Tryz.prog 27 wM:=ctb (au Mz (au Cu (au GS aQ))) aR 27 Tryz.f27 wM MC [(9,1500)] (λx K=>GW x.1 x.2.1 K) (λx h1 h2=>Wq x.1 x.2.1 h1 h2)
def Ha(s:aB)(list:bg)(K:bV wL.rt->Prop):Prop:=C9 s list (λ_=>False) K
theorem Wp(s:aB)(list:bg):Mh wL (s,list,()) (Ha s list):=by
 intro hok hpre;simp only[wL,fO,zu,okL,T.oks,T.ok,ap,ab,aL,aA,bf]at hok hpre
 try dsimp only[T.den]at hok hpre
 unfold Ha C9;have hs:mm s list=false:=hpre;have hl:list.length<=140737488355328:=by simp only[bO]at hok;omega
 clear hok hpre;unfold mm at hs;have e1:∀n:Int,ny s list=n->((),n,())=((),ny s list,()):=λn h=>by rw[h]
 refine aC (λh=>?_) (λh=>?_)
 ·have h:bE s=false:=by simpa using h
  exact e1 1 (by unfold ny;rw[h];rfl)
 have hS:bE s=true:=by simpa using h
 refine il (n:=(list.length:Int)) (λi=>∀k:Int,0<=k->k<i->oh s (list.getD k.toNat (0,[]))=true) aa (λk k0 k1=>aa) ?_ ?_
 ·intro i next i0 i1 ha hn
  intros
  try dsimp only at ha hn⊢
  refine aE (λ_=>⟨i0,i1,aC (λh=>?_) (λh=>⟨az,hn λk k0 k1=>?_⟩)⟩) (λhx=>absurd i1 hx)
  ·have h:oh s (list.getD i.toNat (0,[]))=false:=by simpa using h
   refine e1 1 ?_;unfold ny;rw[ai];rw[ao];rintro⟨_,hA⟩;rw[TL hA i0 i1]at h;cases h
  ·by_cases e:k=i
   ·subst e;simpa using h
   ·exact ha k k0 aa
 intro next ha
 intros
 try dsimp only
 have hA:rA s list=true:=by unfold rA;rw[eU];intro p hp;obtain⟨k,hk,rfl⟩:=mL hp;have:=ha (k:Int) aa aa;rw[bB,bN,bX hk]at this;exact this
 refine aE (λhx=>absurd hx aa) (λ_=>?_);rw[hS,hA,ji,ji]at hs;refine aC (λh=>by rw[hs]at h;cases h) (λh=>⟨h,hS,e1 3 ?_⟩);unfold ny;rw[hS,hA];rfl
theorem Wf:aN Tryz.prog 27 wL:=ctb (au Mz (au Cu (au GS aQ))) aR 27 Tryz.f27 wL MC [(9,1500)] (λx K=>Ha x.1 x.2.1 K) (λx h1 h2=>Wp x.1 x.2.1 h1 h2)
theorem MQ:aN Tryz.prog 27 Hm:=B9 Wm Wf
def rJ(s:aB)(p:aO):Int×Int:=if mm s [p]=true then (dG (eC s (pcR s)) (dH s (pcR s) s.2.1.length) p,0)else (0,ny s [p])
theorem Qp{c:aF}{ed:aw}(S:ShapeP c):∀(es:aw)(h:Int),0<=h->h<c.2.1.length->tT c ed h es->0<=o9 c ed h es/\o9 c ed h es<c.2.1.length
 |[],h,h0,h1,_=>⟨h0,h1⟩
 |e::r,h,h0,h1,hc=>by obtain⟨b1,b2,b3,b4⟩:=hc;have y:=S.yes h0 h1 b2.1 b2.2 b3;exact Qp S r _ y.1 y.2.1 b4
theorem Rj(A:AroP t p):0<=dG t.1 t.2.2 p/\dG t.1 t.2.2 p<t.1.2.1.length:=by have hid:=A.s.idn A.p0 A.p1;exact Qp A.s _ _ hid.1 hid.2.1 A.c
theorem aaj(h:oh s p=true):bE s=true/\(aV s p).2=true:=by unfold oh at h;rw[ao]at h;exact h
theorem QY(hS:bE s=true)(hP:fC s=true)(hp:(aV s p).2=true):AroP ((cr s).2.1,((cr s).2.2.2,(cr s).2.2.1)) p:=by unfold fC at hP;rw[ao,ao]at hP;have hc:=hP.2;unfold jZ at hc;rw[ao,ao]at hc;exact Bc (p8 hS hP.1.1) hc.1.1 hp
theorem JY(h:mm s l=true)(hp:p∈l):AroP ((cr s).2.1,((cr s).2.2.2,(cr s).2.2.1)) p:=by unfold mm rA at h;rw[ao,ao,eU]at h;exact QY h.1.1 h.2 (aaj (h.1.2 p hp)).2
theorem Ti(h:(ny s l != 0)=false):False:=by unfold ny at h;split at h<;>simp at h
def sB:Ct:=⟨[fV,eH],[true,true],λx=>[],[(false,cA),(false,cA)],λx=>((rJ x.1 x.2.1).1,(rJ x.1 x.2.1).2,()),false,none⟩
def ahn:FuncId->Option Ct:=lkp [(28,pd),(27,Hm)]
def Hr(s:aB)(p:aO)(K:Int×Int×Unit->Prop):Prop:=let c:=cr s;let b:=ny s (p::([]:List aS));let a:=mm s (p::([]:List aS));cnd a (a=true/\cnd ((0:Int) != 0) (K (0,0,())) (AroP (c.2.1,c.2.2.2,c.2.2.1) p/\K (dG c.2.1 c.2.2.1 p,0,()))) (a=false/\cnd (b != 0) (K (0,b,())) (False/\False))
theorem WO(s:aB)(p:aO)(hok:ab (okL sB.args (s,p,())))(hpre:ab (sB.pre (s,p,()))):Hr s p (λr=>r=sB.res (s,p,())):=by
 delta Hr
 dsimp -proj -eta only;clear hok hpre;refine aC (λh=>⟨h,aC (λh0=>by cases h0) (λ_=>⟨JY h ak,?_⟩)⟩) (λh=>⟨h,aC (λ_=>?_) (λh0=>(Ti h0).elim)⟩)
 ·simp only[sB,rJ];rw[am h];rfl
 ·simp only[sB,rJ];rw[ai (by rw[h];decide)]
theorem W1:aN Tryz.prog 12 sB:=ctb (au G1 (au MQ aQ)) aR 12 Tryz.f12 sB .n [(1,1500)] (λx K=>Hr x.1 x.2.1 K) (λx h1 h2=>WO x.1 x.2.1 h1 h2)
def vK(s:aB)(p q:aO):Bool×Int:=if mm s [p,q]=true then (dG (eC s (pcR s)) (dH s (pcR s) s.2.1.length) p==dG (eC s (pcR s)) (dH s (pcR s) s.2.1.length) q,0)else (false,ny s [p,q])
def sm:Ct:=⟨[fV,eH,eH],[true,true,true],λx=>[],[(false,dS),(false,cA)],λx=>((vK x.1 x.2.1 x.2.2.1).1,(vK x.1 x.2.1 x.2.2.1).2,()),false,none⟩
def ahi:FuncId->Option Ct:=lkp [(29,wE),(28,pd),(27,Hm)]
def GK(s:aB)(p q:aO)(K:Bool×Int×Unit->Prop):Prop:=let i:=ny s (p::q::([]:List aS));let d:=mm s (p::q::([]:List aS));let a:=cr s;let k:=AroP (a.2.1,a.2.2.2,a.2.2.1) q;let j:=AroP (a.2.1,a.2.2.2,a.2.2.1) p;let c:=dG a.2.1 a.2.2.1 q;let h:=a.2.1.2.1.getD c.toNat 0;let f:=a.2.1.2.2.1.getD c.toNat 0;let b:=dG a.2.1 a.2.2.1 p;let g:=a.2.1.2.1.getD b.toNat 0;let e:=a.2.1.2.2.1.getD b.toNat 0;cnd d (d=true/\cnd ((0:Int) != 0) (K (false,0,())) (j/\(Ix b a.2.1.2.1.length<|b<(a.2.1.2.2.1.length:Int)/\k/\(Ix c a.2.1.2.1.length<|c<(a.2.1.2.2.1.length:Int)/\((g==h&&e==f)=true->j)/\((g==h&&e==f)=true->k)/\K (g==h&&e==f&&b==c,0,()))))) (d=false/\cnd (i != 0) (K (false,i,())) (False/\False/\False/\False/\False/\False/\False/\False/\False/\False))
theorem VW(s:aB)(p q:aO)(hok:ab (okL sm.args (s,p,q,())))(hpre:ab (sm.pre (s,p,q,()))):GK s p q (λr=>r=sm.res (s,p,q,())):=by
 delta GK Ix
 dsimp -proj -eta only;clear hok hpre;refine aC (λh=>?_) (λh=>⟨h,aC (λ_=>?_) (λh0=>(Ti h0).elim)⟩)
 ·have A:=JY h (p:=p) ak;have B:=JY h (p:=q) ak;have ra:=Rj A;have rb:=Rj B;have hl:(cr s).2.1.2.2.1.length=(cr s).2.1.2.1.length:=A.s.lt
  try dsimp only at ra rb
  refine⟨h,aC (λh0=>by cases h0) (λ_=>⟨A,ra.1,ra.2,aa,B,rb.1,rb.2,aa,λ_=>A,λ_=>B,?_⟩)⟩;simp only[sm,vK];rw[am h];have e:(cr s).2.1=eC s (pcR s):=rfl;have e2:(cr s).2.2.1=dH s (pcR s) s.2.1.length:=rfl;rw[e,e2];by_cases hq:dG (eC s (pcR s)) (dH s (pcR s) s.2.1.length) p=dG (eC s (pcR s)) (dH s (pcR s) s.2.1.length) q
  ·rw[hq];simp
  ·have:(dG (eC s (pcR s)) (dH s (pcR s) s.2.1.length) p==dG (eC s (pcR s)) (dH s (pcR s) s.2.1.length) q)=false:=iH.2 hq;rw[this,Bool.and_false]
 ·simp only[sm,vK];rw[ai (by rw[h];decide)]
theorem V6:aN Tryz.prog 13 sm:=ctb (au My (au G1 (au MQ aQ))) aR 13 Tryz.f13 sm .n [(1,1500),(4,21)] (λx K=>GK x.1 x.2.1 x.2.2.1 K) (λx h1 h2=>VW x.1 x.2.1 x.2.2.1 h1 h2)
def zo:Ct:=⟨[cS],[true],λx=>[],[(false,dS)],λx=>(eM x.1,()),false,none⟩
def Hh(c:aF)(K:fP):Prop:=K (eM c,())
theorem WC(c:aF):Mh zo (c,()) (Hh c):=by
 intro hok hpre;simp only[zo,okL,T.oks,T.ok,ap,ab,aL,aA,bf]at hok hpre
 try dsimp only[T.den]at hok hpre
 unfold Hh;rfl
theorem Wv:aN Tryz.prog 10 zo:=ctb (au Gs aQ) aR 10 Tryz.f10 zo .n [] (λx K=>Hh x.1 K) (λx h1 h2=>WC x.1 h1 h2)
theorem Po{c:aF}(h:eM c=true):ShapeP c:=by simp only[eM,ao]at h;exact uV.1 h.1
def og(c:aF)(l:aw):Int:=if eM c=true then (if bD l c.2.1.length=true then 0 else 2)else 1
def s9:Ct:=⟨[vG,bd],[false,false],λx=>[],[(false,cA)],λx=>(og x.1 x.2.1,()),false,none⟩
def ahp:FuncId->Option Ct:=lkp [(51,si),(23,qz),(33,qJ)]
def Hq(c:aF)(list:aw)(K:jB):Prop:=cnd (!eM c) (K (1,())) (Ik ((c.2.1.length:Int)-1)<|cnd (!bD list (c.2.1.length:Int)) (K (2,())) (K (0,())))
theorem Xc(c:aF)(list:aw)(hok:ab (okL s9.args (c,list,())))(hpre:ab (s9.pre (c,list,()))):Hq c list (λr=>r=s9.res (c,list,())):=by
 simp only[s9,okL,T.oks,T.ok,ap,ab,aL,aA,bf]at hok hpre
 try dsimp only[T.den]at hok hpre
 delta Hq Ik
 simp only[s9,og];have h1:=λh=>(Po (c:=c) h).m
 grind[cnd,bO,cf]
theorem W4:aN Tryz.prog 24 s9:=ctb (au Cw (au Gs (au HZ aQ))) aR 24 Tryz.f24 s9 .n [] (λx K=>Hq x.1 x.2.1 K) (λx h1 h2=>Xc x.1 x.2.1 h1 h2)
theorem z_{c:aF}{l:aw}(h:og c l=0):ShapeP c/\bD l c.2.1.length=true:=by
 unfold og at h;split at h
 ·rename_i hc;split at h
  ·rename_i hw;exact⟨Po hc,hw⟩
  ·omega
 ·omega
def oK(c:aF):Int->List Int->Int
 |h,[]=>h
 |h,f::r=>if bU c h f<0 then -1 else oK c (bU c h f) r
def ri(c:aF)(x:Int)(l:aw):Int×Int:=if og c l=0 then (if inR x 0 (c.1-1)=true then (if oK c (c.2.2.2.1.getD x.toNat 0) l<0 then (0,5)else (oK c (c.2.2.2.1.getD x.toNat 0) l,0))else (0,2))else (0,og c l)
def pc:Ct:=⟨[cS,aq,bd],[true,false,false],λx=>[],[(false,cA),(false,cA)],λx=>((ri x.1 x.2.1 x.2.2.1).1,(ri x.1 x.2.1 x.2.2.1).2,()),false,none⟩
def VN:Ann:=(.s .n (.s .n (.s .n (.s .n (.s (.s .n (.l [(9,(.d aq)),(30,(.d aq))] [] [3,28,29] .n)) .n)))))
def ahh:FuncId->Option Ct:=lkp [(26,wF),(24,s9),(25,qH)]
def GO(c:aF)(x:Int)(path:aw)(K:Int×Int×Unit->Prop):Prop:=cnd (og c path != 0) (K (0,og c path,())) (Ik (c.1-1)<|cnd (!inR x 0 (c.1-1)) (K (0,2,())) (Ix x c.2.2.2.1.length<|aI (S:=(jf×Unit)) (λa b=>let e:=a.1.2.1;let d:=path.getD e.toNat 0;Iq a.1.1<|Iq e<|cnd (decide (e<(path.length:Int))) (Ix e path.length<|Ix a.1.1 c.2.2.2.2.length<|Ix d (c.2.2.2.2.getD a.1.1.toNat []).length<|cnd (decide (bU c a.1.1 d<0)) (K (0,5,())) (Ik (e+1)<|b ((bU c a.1.1 d,e+1,()),()))) (K (a.1.1,0,()))) ((c.2.2.2.1.getD x.toNat 0,0,()),())))
theorem VU(c:aF)(x:Int)(path:aw)(hok:ab (okL pc.args (c,x,path,())))(hpre:ab (pc.pre (c,x,path,()))):GO c x path (λr=>r=pc.res (c,x,path,())):=by
 simp only[pc,okL,T.oks,T.ok,ap,ab,aL,aA,bf]at hok hpre
 try dsimp only[T.den]at hok hpre
 delta GO Ik Iq Ix
 dsimp -proj -eta only;refine aC (λhx=>?_) (λhx=>?_)
 ·have h:¬og c path=0:=by simpa using hx
  simp only[pc,ri];rw[ai h]
 have h:og c path=0:=by simpa using hx
 obtain⟨S,hw⟩:=z_ h;have hob:=S.ob;have hmm:=S.m;have hlc:=S.lc;have hli:=S.li;refine⟨az,aC (λhy=>?_) (λhy=>?_)⟩
 ·have hi:¬inR x 0 (c.1-1)=true:=by simpa using hy
  simp only[pc,ri];rw[am h,ai hi]
 have hi:inR x 0 (c.1-1)=true:=by simpa using hy
 have hi2:=hi;simp only[inR,ao,cj]at hi2;have hid:=S.idn hi2.1 aa;have hlp:path.length<=140737488355328:=by simp only[bO]at hok;omega
 have hp:ri c x path=(if oK c (c.2.2.2.1.getD x.toNat 0) path<0 then (0,5)else (oK c (c.2.2.2.1.getD x.toNat 0) path,0)):=by unfold ri;rw[am h,am hi]
 simp only[pc,hp];clear hok hpre hp hx hy;refine⟨hi2.1,aa,?_⟩;refine aY (λ(s:kZ)=>0<=s.1.2.1/\s.1.2.1<=path.length/\0<=s.1.1/\s.1.1<c.2.1.length/\oK c (c.2.2.2.1.getD x.toNat 0) path=oK c s.1.1 (path.drop s.1.2.1.toNat)) (λ(s:kZ)=>(path.length-s.1.2.1).toNat) ?_ ⟨ak,ak,hid.1,hid.2.1,ak⟩;rintro⟨⟨g,i,_⟩,_⟩ next ⟨h0,h1,h2,h3,h4⟩ hn _ _
 try dsimp only at h0 h1 h2 h3 h4 hn⊢
 refine aE (λhc=>?_) (λhc=>?_)
 ·have hpi:=fF.1 hw i h0 hc;rw[im path 0 h0 hc,oK]at h4;have hr:=S.row g h2 h3;refine⟨h0,hc,h2,aa,hpi.1,by rw[hr];exact hpi.2,aE (λhd=>?_) (λhd=>⟨az,?_⟩)⟩
  ·rw[am hd]at h4;rw[h4];rfl
  ·rw[ai hd]at h4;have hy:=S.yes h2 h3 hpi.1 hpi.2 ((S.comp h2 h3 hpi.1 hpi.2).1 aa);exact hn _ ⟨ae,ae,hy.1,hy.2.1,h4⟩ ae
 ·rw[jt path aa,oK]at h4;rw[h4,ai aa]
theorem V5:aN Tryz.prog 11 pc:=ctb (au GG (au W4 (au wT aQ))) aR 11 Tryz.f11 pc VN [] (λx K=>GO x.1 x.2.1 x.2.2.1 K) (λx h1 h2=>VU x.1 x.2.1 x.2.2.1 h1 h2)
def sD:Ct:=⟨[aW],[false],λx=>[PthsR x.1],[(false,(.sl Bl))],λx=>(x.1,()),false,none⟩
def WH:Ann:=(.s .n (.s .n (.s (.s .n (.l [(3,(.ref 800003 [])),(9,(.d aq))] [(800003,ye)] [7,8] .n)) .n)))
def Ho(list:bg)(K:(List aO)×Unit->Prop):Prop:=aI (S:=dT) (λa b=>let d:=a.1.2.1;let c:=list.getD d.toNat (0,[]);Iq d<|Oa aW a.2.1<|cnd (decide (d<(list.length:Int))) (Ix d list.length<|c.2.length<=1099511627776/\aX a.2.1.length (c::([]:List aS)).length 32/\(Ik (d+1)<|b (((),d+1,()),a.2.1++c::([]:List aS),()))) (K (a.2.1,()))) (((),0,()),([]:List aS),())
theorem WV(list:bg)(hok:ab (okL sD.args (list,())))(hpre:ab (sD.pre (list,()))):Ho list (λr=>r=sD.res (list,())):=by
 simp only[sD,okL,T.oks,T.ok,ap,ab,aL,aA,bf]at hok hpre
 try dsimp only[T.den]at hok hpre
 delta Ho Ik Iq Ix Oa
 dsimp -proj -eta only;have hP:PthsR list:=hpre;have hn:=hP.n;refine aY (λ(s:dT)=>0<=s.1.2.1/\s.1.2.1<=list.length/\s.2.1=list.take s.1.2.1.toNat) (λ(s:dT)=>(list.length-s.1.2.1).toNat) ?_ ⟨ak,ak,rfl⟩;rintro⟨⟨_,i,_⟩,out,_⟩ next ⟨i0,i1,q⟩ hnx
 intros
 try dsimp only at i0 i1 q hnx⊢
 subst q;refine aE (λhi=>?_) (λhi=>?_)
 ·have he:=hP.e _ (cC list (0,[]) i0 hi);have hl:(list.take i.toNat).length=i.toNat:=by rw[ez];omega
  have ht:=fY list (0,[]) i0 hi;exact⟨i0,hi,aa,bh (by rw[hl];simp only[aH,aM];omega),az,hnx _ ⟨ae,ae,ht.symm⟩ ae⟩
 ·simp only[sD];rw[jv list aa]
theorem W2:aN Tryz.prog 18 sD:=ctb (au uM aQ) aR 18 Tryz.f18 sD WH [(5,506)] (λx K=>Ho x.1 K) (λx h1 h2=>WV x.1 h1 h2)
def l9(s:aB):aF×(List Int×(List aO×(Int×Unit))):=if bE s=true then (if fC s=true then ((cr s).2.1,(cr s).2.2.1,(cr s).2.2.2,0,())else (T.dflt cS,[],[],3,()))else (T.dflt cS,[],[],1,())
theorem PV(hS:bE s=true)(h:fC s=true):PthsR (cr s).2.2.2:=by unfold fC at h;rw[ao,ao,cj]at h;have P:=p8 hS h.1.1;have hal:(bc s (pcR s)).length=(cY s (pcR s)).length:=tq;refine⟨by show (bc s (pcR s)).length<=1000000;omega,λp hp=>?_⟩;obtain⟨i,i1,rfl⟩:=kC (l:=bc s (pcR s)) hp;have:=(pw P (i:=(i:Int)) aa aa).2;rw[bB]at this;omega
def ut:Ct:=⟨[fV],[true],λx=>[],[(true,iI),(false,cd),(false,(.sl Bl)),(false,cA)],λx=>((l9 x.1).1,(l9 x.1).2.1,(l9 x.1).2.2.1,(l9 x.1).2.2.2.1,()),false,none⟩
def ag9:FuncId->Option Ct:=lkp [(16,mQ),(18,sD),(17,GZ)]
abbrev LW:Type:=aF×(List Int)×(List aO)×Int×Unit->Prop
def GH(s:aB)(K:LW):Prop:=let a:=bE s;cnd (!a) (K ((0,[],[],[],[]),[],([]:List aS),1,())) (cnd (fC s) (fC s=true/\a=true/\cnd ((0:Int) != 0) (K ((0,[],[],[],[]),[],([]:List aS),0,())) (PthsR (cr s).2.2.2/\K ((cr s).2.1,(cr s).2.2.1,(cr s).2.2.2,0,()))) (fC s=false/\a=true/\cnd ((3:Int) != 0) (K ((0,[],[],[],[]),[],([]:List aS),3,())) False))
theorem VL(s:aB)(hok:ab (okL ut.args (s,())))(hpre:ab (ut.pre (s,()))):GH s (λr=>r=ut.res (s,())):=by
 delta GH
 dsimp -proj -eta only;clear hok hpre;simp only[ut,l9];refine aC (λh=>?_) (λh=>?_)
 ·rw[ai (by intro h2;rw[h2]at h;cases h)];rfl
 ·have hS:bE s=true:=by simpa using h
  rw[am hS];refine aC (λhp=>⟨hp,hS,aC (λh=>by cases h) (λ_=>⟨PV hS hp,?_⟩)⟩) (λhp=>⟨hp,hS,aC (λ_=>?_) (λh=>by cases h)⟩)
  ·rw[am hp]
  ·rw[ai (by rw[hp];decide)];rfl
theorem V9:aN Tryz.prog 6 ut:=ctb (au Cu (au W2 (au GS aQ))) aR 6 Tryz.f6 ut .n [(3,1500),(6,1012015012)] (λx K=>GH x.1 K) (λx h1 h2=>VL x.1 h1 h2)
def An:Ct:=⟨[dK],[false],λx=>[],[(false,dS)],λx=>(decide ((4096:Int)<x.1.length),()),false,none⟩
def IG(code:aw)(K:fP):Prop:=K (decide (4096<(code.length:Int)),())
theorem ZE(code:aw):Mh An (code,()) (IG code):=by
 intro hok hpre;simp only[An,okL,T.oks,T.ok,ap,ab,aL,aA,bf]at hok hpre
 try dsimp only[T.den]at hok hpre
 unfold IG;rfl
theorem Ze:aN Tryz.prog 4 An:=ctb aQ aR 4 Tryz.f4 An .n [] (λx K=>IG x.1 K) (λx h1 h2=>ZE x.1 h1 h2)
def mr(a b:aw):Bool:=decide (a=b)
def nY:Ct:=⟨[bd,bd],[false,false],λx=>[],[(false,dS)],λx=>(mr x.1 x.2.1,()),false,none⟩
def Xl:Ann:=(.s .n (.s .n (.s (.s .n (.l vE [] [0,1] .n)) .n)))
def HD(a b:aw)(K:fP):Prop:=cnd ((a.length:Int) != (b.length:Int)) (K (false,())) (aI (S:=cZ) (λc d=>let e:=c.1.1;Iq e<|cnd (decide (e<(a.length:Int))) (Ix e a.length<|Ix e b.length<|cnd (a.getD e.toNat 0 != b.getD e.toNat 0) (K (false,())) (Ik (e+1)<|d ((e+1,()),()))) (K (true,()))) ((0,()),()))
theorem XP(a b:aw)(hok:ab (okL nY.args (a,b,())))(hpre:ab (nY.pre (a,b,()))):HD a b (λr=>r=nY.res (a,b,())):=by
 simp only[nY,okL,T.oks,T.ok,ap,ab,aL,aA,bf]at hok hpre
 try dsimp only[T.den]at hok hpre
 delta HD Ik Iq Ix
 dsimp -proj -eta only;have hla:a.length<=140737488355328:=by have:=hok.1.1;rw[bO]at this;omega
 clear hok;refine aC (λhc=>?_) (λhc=>?_)
 ·simp only[nY,mr,bS,aA,fS];rw[eq_comm,fS];rintro rfl;simp at hc
 have hl:a.length=b.length:=by simp at hc;omega
 refine aY (λ(s:cZ)=>0<=s.1.1/\s.1.1<=a.length/\a.take s.1.1.toNat=b.take s.1.1.toNat) (λ(s:cZ)=>(a.length-s.1.1).toNat) ?_ ak;rintro⟨⟨i,_⟩,_⟩ next ⟨h0,h1,h2⟩ hn hin
 simp only at h0 h1 h2 hn⊢;refine aE (λhc=>?_) (λhc=>?_)
 ·have ha:=fY a 0 h0 hc;have hb:=fY b 0 h0 aa;refine⟨aa,aa,aa,aa,aC (λhd=>?_) (λhd=>?_)⟩
  ·simp only[nY,mr,bS,aA];rw[eq_comm,fS];rintro rfl;simp at hd
  ·refine⟨az,hn _ ⟨cO,cO,?_⟩ cO⟩;rw[fT]at hd;simp only[ha,hb,h2,hd]
 ·rw[jv a aa,jv b aa]at h2;simp[h2,nY,mr]
theorem Hv:aN Tryz.prog 9 nY:=ctb aQ aR 9 Tryz.f9 nY Xl [(6,8)] (λx K=>HD x.1 x.2.1 K) (λx h1 h2=>XP x.1 x.2.1 h1 h2)
def Ef(a b:df):Bool:=decide (a=b)
def qK:Ct:=⟨[nz,nz],[false,false],λx=>[],[(false,dS)],λx=>(Ef x.1 x.2.1,()),false,none⟩
def Ye:Ann:=(.s .n (.s .n (.s (.s .n (.l vE [] [0,1] .n)) .n)))
def Iu(a:df)(b:df)(K:fP):Prop:=cnd ((a.length:Int) != (b.length:Int)) (K (false,())) (aI (S:=cZ) (λc d=>let e:=c.1.1;Iq e<|cnd (decide (e<(a.length:Int))) (Ix e a.length<|Ix e b.length<|cnd (!mr (a.getD e.toNat []) (b.getD e.toNat [])) (K (false,())) (Ik (e+1)<|d ((e+1,()),()))) (K (true,()))) ((0,()),()))
theorem Y9(a:df)(b:df)(hok:ab (okL qK.args (a,b,())))(hpre:ab (qK.pre (a,b,()))):Iu a b (λr=>r=qK.res (a,b,())):=by
 simp only[qK,okL,T.oks,T.ok,ap,ab,aL,aA,bf]at hok hpre
 try dsimp only[T.den]at hok hpre
 delta Iu Ik Iq Ix
 dsimp -proj -eta only;have hla:a.length<=140737488355328:=by have:=hok.1.1;rw[bO]at this;omega
 clear hok;have res:∀b',decide (a=b)=b'->(b',())=qK.res (a,b,()):=λb' h=>by simp only[qK,Ef,h]
 refine aC (λhc=>res _ ?_) (λhc=>?_)
 ·rw[fS];rintro rfl;simp at hc
 have hl:a.length=b.length:=by simp at hc;omega
 refine il (n:=a.length) (λi=>a.take i.toNat=b.take i.toNat) aa ak ?_ ?_
 ·intro i next i0 i1 hP hn hin
  try dsimp only
  have hta:=fY a [] i0 i1;have htb:=fY b [] i0 aa;refine aE (λ_=>⟨i0,aa,i0,aa,aC (λh=>res _ ?_) (λh=>⟨az,hn ?_⟩)⟩) (λh=>absurd i1 h)
  ·rw[fS];rintro rfl;simp[mr]at h
  ·simp only[mr,jK,cj]at h;rw[hta,htb,hP,h]
 ·intro next hP hin
  rw[jv _ (cB _),jv _ aa]at hP;refine aE (λh=>absurd h (jL _)) (λ_=>res _ ?_);rw[cj];exact hP
theorem XK:aN Tryz.prog 22 qK:=ctb (au Hv aQ) aR 22 Tryz.f22 qK Ye [(6,508)] (λx K=>Iu x.1 x.2.1 K) (λx h1 h2=>Y9 x.1 x.2.1 h1 h2)
def EF(a b:aF):Bool:=decide (a=b)
def uI:Ct:=⟨[cS,cS],[true,true],λx=>[],[(false,dS)],λx=>(EF x.1 x.2.1,()),false,none⟩
def ahr:FuncId->Option Ct:=lkp [(9,nY),(22,qK)]
def HA(a b:aF)(K:fP):Prop:=K (a.1==b.1&&mr a.2.1 b.2.1&&mr a.2.2.1 b.2.2.1&&mr a.2.2.2.1 b.2.2.2.1&&Ef a.2.2.2.2 b.2.2.2.2,())
theorem XA(a b:aF)(hok:ab (okL uI.args (a,b,())))(hpre:ab (uI.pre (a,b,()))):HA a b (λr=>r=uI.res (a,b,())):=by unfold HA;clear hok hpre;obtain⟨a1,a2,a3,a4,a5⟩:=a;obtain⟨b1,b2,b3,b4,b5⟩:=b;simp only[uI,EF,mr,Ef,bS,aA];by_cases h1:a1=b1<;>by_cases h2:a2=b2<;>by_cases h3:a3=b3<;>by_cases h4:a4=b4<;>by_cases h5:a5=b5<;>simp[h1,h2,h3,h4,h5]
theorem WL:aN Tryz.prog 8 uI:=ctb (au Hv (au XK aQ)) aR 8 Tryz.f8 uI .n [] (λx K=>HA x.1 x.2.1 K) (λx h1 h2=>XA x.1 x.2.1 h1 h2)
def bt(s:ba):Prop:=ab (T.oks lU s)/\0<=s.2.1
theorem inKu:inK .u64 x<->0<=x/\x<=18446744073709551615:=by unfold inK;exact lh
theorem inK8:inK .u8 x<->0<=x/\x<=255:=by unfold inK;exact lh
theorem afu(a:Int):0<=tW .u64 a 16777215/\tW .u64 a 16777215<=16777215:=by
 have h:((BitVec.ofInt IntKind.u64.bits a &&& BitVec.ofInt IntKind.u64.bits 16777215).toNat:Nat)<=16777215:=by rw[BitVec.toNat_and];exact eu Nat.and_le_right bz
 unfold tW;rw[tj (by rw[inKu];omega)];omega
theorem afv(h:inK .u64 a):inK .u64 (pW .u64 a 33):=by
 rw[inKu]at h⊢;have e:pW .u64 a 33=a / 8589934592:=by show a.fdiv 8589934592=_;rw[Int.fdiv_eq_ediv_of_nonneg _ bz]
 rw[e];omega
def k9:Wt:=⟨gE,[aq],[false],λx y=>[0<=x.2.1],λx _=>x,[(false,cA)],λ_ _=>dfR _,0⟩
def zT(s:ba)(n:Int)(z:ba)(r0:Int):Prop:=0<=z.2.1/\0<=r0/\(1<=n->r0<n)/\(n<1->r0=0)
def NO:Ann:=(.s .n (.s .n (.s .n (.s .n (.s (.s .n (.j [(0,(.ad 1000000 [.de])),(5,(.d aq))] [(1000000,nw)] [1] .n)) .n)))))
abbrev Gb:Type:=ba->(Int×Unit)->Prop
def CZ(s:ba)(n:Int)(K:Gb):Prop:=let e:=IntKind.wrap .i64 (s.1.getD s.2.1.toNat 0);let c:=IntKind.wrap .u64 (IntKind.wrap .u64 (s.2.2*6364136223846793005)+1442695040888963407);let d:=IntKind.wrap .i64 (tW .u64 (pW .u64 c 33) 16777215);cnd (decide (n<1)) (K s (0,())) ((0:Int)<=33/\inK .u64 (pW .u64 c 33)/\bZ (S:=Ga) (λa=>Iq a.1.2.1<|Oa dK a.2.1.1<|Iq a.2.1.2.1<|inK .u64 a.2.1.2.2->n≠0/\(Ik (Int.tmod a.1.2.1 n)<|K a.2.1 (Int.tmod a.1.2.1 n,()))) (λb=>cnd (decide (s.2.1<(s.1.length:Int))) (Ix s.2.1 s.1.length<|Ik (d+e)<|Ik (s.2.1+1)<|b (((),d+e,()),(s.1,s.2.1+1,c),())) (b (((),d,()),(s.1,s.2.1,c),()))))
theorem Yh(s:ba)(n:Int)(hok:ab (k9.o.strip.oks s))(hok2:ab (okL k9.as (n,())))(hpre:ab (k9.pre s (n,()))):CZ s n (λz r=>zT s n z r.1):=by
 simp only[k9,O.strip,okL,T.oks,T.ok,ap,ab,aL,aA,bf]at hok hok2 hpre
 try dsimp only[T.den]at hok
 try dsimp only[T.den]at hok2
 try dsimp only[T.den]at hpre
 delta CZ zT Ik Iq Ix Oa
 dsimp -proj -eta only;obtain⟨⟨hc1,hc2⟩,ha,hh⟩:=hok;rw[bO]at hc1;generalize hx:IntKind.wrap .u64 (IntKind.wrap .u64 (s.2.2*6364136223846793005)+1442695040888963407)=x;have hxk:inK .u64 x:=by rw[←hx];exact xn _ _
 have hm:=afu (pW .u64 x 33);generalize tW .u64 (pW .u64 x 33) 16777215=y at hm;refine aE (λhn=>⟨hpre,cB _,λh=>aa,λ_=>rfl⟩) (λhn=>⟨aa,afv hxk,?_⟩);rw[tj (show inK .i64 y by rw[cf];(try dsimp only);omega)];refine cp (λs1=>0<=s1.2.1.2.1/\0<=s1.1.2.1) (λs1 hs _ _ _ _=>?_) (λk hk=>aE (λhc=>?_) (λhc=>hk _ ⟨hpre,hm.1⟩))
 ·have h1:=Int.tmod_nonneg n hs.2;have h2:=Int.tmod_lt_of_pos s1.1.2.1 (show 0<n by omega);have hn2:=cf.1 hok2;exact⟨aa,az,hs.1,h1,λ_=>h2,λh=>aa⟩
 ·have hb:=inK8.1 (hc2 _ (cC s.1 0 hpre hc));rw[tj (show inK .i64 (s.1.getD s.2.1.toNat 0) by rw[cf];(try dsimp only);omega)];exact⟨hpre,hc,az,az,hk _ ⟨ae,ae⟩⟩
theorem CR(s:ba)(n:Int):∃q:ba×(Int×Unit),ab (k9.o.strip.oks s)->ab (okL k9.as (n,()))->ab (k9.pre s (n,()))->CZ s n (λz r=>z=q.1/\r=q.2)/\ab (k9.o.strip.oks q.1)/\ab (okR k9.rt q.2)/\zT s n q.1 q.2.1:=pkw aQ aR 31 Tryz.f31 k9 NO [(5,9),(6,12)] lU (λx y K=>CZ x y.1 K) (λx y z r=>zT x y.1 z r.1) (λx y h1 h2 h3=>Yh x y.1 h1 h2 h3) s (n,())
def dq(s:ba)(n:Int):ba:=(CR s n).choose.1
def cL(s:ba)(n:Int):Int:=(CR s n).choose.2.1
theorem XY(s:ba)(n:Int)(hok:ab (k9.o.strip.oks s))(hok2:ab (okL k9.as (n,())))(hpre:ab (k9.pre s (n,()))):ab (k9.o.strip.oks (dq s n))/\ab (okR k9.rt (cL s n,()))/\zT s n (dq s n) (cL s n):=((CR s n).choose_spec hok hok2 hpre).2
def Nv:Wt:=⟨gE,[aq],[false],λx y=>[0<=x.2.1],λx y=>(dq x y.1),[(false,cA)],λx y=>((cL x y.1),()),0⟩
def sH:Ct:=iO Nv
theorem iB:aN Tryz.prog 31 sH:=wtb aQ aR 31 Tryz.f31 Nv NO [(5,9),(6,12)] (λx y h1 h2 h3=>Eq.mp (by kernel_rfl) ((CR x y.1).choose_spec h1 h2 h3).1)
theorem fI{s:ba}{n:Int}(h:bt s)(hn:inK .i64 n):bt (dq s n)/\0<=cL s n/\(1<=n->cL s n<n)/\(n<1->cL s n=0):=by obtain⟨h1,h2,h3,h4⟩:=XY s n h.1 ⟨hn,trivial⟩ ⟨h.2,trivial⟩;exact⟨⟨h1,h3⟩,h4⟩
def nZ:Ct:=⟨[dK],[false],λx=>[],[(false,gE)],λ_=>dfR _,true,none⟩
def zX(code:aw)(r0:ba):Prop:=bt r0
def N9:Ann:=(.s .n (.s .n (.s (.s .n (.l [(3,(.ad 11 [.de])),(4,(.d aq))] [(11,nw)] [0] .n)) .n)))
def zO(code:aw)(K:ba×Unit->Prop):Prop:=aI (S:=Ga) (λa b=>let c:=a.1.2.1;Iq c<|Oa dK a.2.1.1<|Iq a.2.1.2.1<|inK .u64 a.2.1.2.2->cnd (decide (c<(code.length:Int))&&decide (c<4096)) (Ix c code.length<|Ik (c+1)<|b (((),c+1,()),(a.2.1.1,a.2.1.2.1,IntKind.wrap .u64 (IntKind.wrap .u64 (IntKind.wrap .u64 (a.2.1.2.2*1099511628211)+IntKind.wrap .u64 (code.getD c.toNat 0))+7)),())) (K (a.2.1,()))) (((),0,()),(code,0,IntKind.wrap .u64 (7019+IntKind.wrap .u64 (code.length:Int))),())
theorem Yi(code:aw)(hok:ab (okL nZ.args (code,())))(hpre:ab (nZ.pre (code,()))):zO code (λr=>zX code r.1):=by
 simp only[nZ,okL,T.oks,T.ok,ap,ab,aL,aA,bf]at hok hpre
 try dsimp only[T.den]at hok hpre
 delta zO zX Ik Iq Ix Oa
 dsimp -proj -eta only;have hl:=hok.1;rw[bO]at hl;refine aY (λ(s:Ga)=>0<=s.1.2.1/\s.1.2.1<=code.length/\s.2.1.1=code/\s.2.1.2.1=0/\inK .u64 s.2.1.2.2) (λ(s:Ga)=>(code.length-s.1.2.1).toNat) ?_ ⟨ak,ak,rfl,rfl,xn _ _⟩;rintro⟨⟨_,i,_⟩,⟨c,a,h⟩,_⟩ next ⟨h0,h1,h2,h3,h4⟩ hn _ _ _ _
 try dsimp only at h0 h1 h2 h3 h4 hn⊢
 subst h2;subst h3;refine aC (λhc=>?_) (λ_=>⟨?_,cB _⟩)
 ·simp only[ao,cj]at hc;exact⟨h0,hc.1,az,hn _ ⟨ae,ae,rfl,rfl,xn _ _⟩ cO⟩
 ·simp only[T.oks,T.ok,ap,ab,aA];exact⟨hok,az,h4⟩
theorem Ig(code:aw):∃q:ba×Unit,ab (okL nZ.args (code,()))->ab (nZ.pre (code,()))->zO code (λr=>r=q)/\ab (okR nZ.rt q)/\zX code q.1:=pkb aQ aR 15 Tryz.f15 nZ N9 [(5,13)] (λx K=>zO x.1 K) (λx r=>zX x.1 r.1) (λx h1 h2=>Yi x.1 h1 h2) (code,())
def zz(code:aw):ba:=(Ig code).choose.1
theorem XT(code:aw)(hok:ab (okL nZ.args (code,())))(hpre:ab (nZ.pre (code,()))):ab (okR nZ.rt (zz code,()))/\zX code (zz code):=((Ig code).choose_spec hok hpre).2
def Ip:Ct:=⟨[dK],[false],λx=>[],[(false,gE)],λx=>((zz x.1),()),true,none⟩
theorem NJ:aN Tryz.prog 15 Ip:=ctb aQ aR 15 Tryz.f15 Ip N9 [(5,13)] (λx K=>zO x.1 K) (λx h1 h2=>((Ig x.1).choose_spec h1 h2).1)
theorem aer(h:ab ((T.sl (.int .u8)).oks code)):bt (zz code):=(XT code (by simpa only [nZ,okL,fW,ab,aA]using h) trivial).2
end
end Go.Bm
