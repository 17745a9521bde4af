/- What the functions that FnExactInstanceMaps reaches give: for each its contract, what it asks, and the proof. No condition. -/
import Derived.Test.YtgcfmnhbleipdaaGreatDoorFnExactInstanceMapsFnsA
set_option linter.unusedVariables false
set_option linter.unusedSimpArgs false
namespace Go.Bm
open Go.Proofs
set_option maxRecDepth 100000
set_option maxHeartbeats 1000000
abbrev a5f:=@List.pairwise_append
abbrev a5g:=@List.pairwise_singleton
abbrev a43:=@Array.size_push
theorem qz(s:ac):∀(nd:Int) (a b:List Int),bp s nd (a++b)=if (bp s nd a).2=true then bp s (bp s nd a).1 b else (0,false)
 |nd,[],b=>by simp only[a2s,bp,a01]
 |nd,e::r,b=>by
  simp only[a2i,bp];split
  ·exact qz s _ r b
  ·simp
theorem bio{s:ac}{nd:Int}{a m m' b:List Int}(h:(bp s nd (a++m++b)).2=true)(hm:(bp s (bp s nd a).1 m').2=true)(he:(bp s (bp s nd a).1 m').1=(bp s (bp s nd a).1 m).1) :
  bp s nd (a++m'++b)=bp s nd (a++m++b):=by
 rw[qz,qz]at h⊢;rw[qz s nd (a++m) b,qz s nd a m];by_cases h1:(bp s nd a).2=true
 ·rw[d0 h1]at h⊢;rw[d0 h1];by_cases h2:(bp s (bp s nd a).1 m).2=true
  ·rw[d0 h2,d0 hm,he]
  ·rw[ds h2]at h;cases h
 ·rw[ds h1]at h;rw[ds (by simp)]at h;cases h
theorem jm{s:ac}{p:ae}(h:(bm s p).2=true):inR p.1 0 (s.1-1)=true/\p.2.length<=6/\bm s p=bp s p.1 p.2:=by
 unfold bm at h⊢;split at h
 ·rename_i hc;rw[d0 hc];exact⟨hc.1,hc.2,rfl⟩
 ·cases h
theorem alq{s:ac}{p:ae}(h1:inR p.1 0 (s.1-1)=true)(h2:p.2.length<=6):bm s p=bp s p.1 p.2:=by unfold bm;rw[d0 ⟨h1,h2⟩]
structure EqnP (s:ac) (l r:ae):Prop where
 l2:(bm s l).2=true
 r2:(bm s r).2=true
 st:l.1=r.1
 en:(bm s l).1=(bm s r).1
theorem vu{s:ac}:∀{a b:List ae},w6 s a b=true->∀{i:Int},0<=i->i<a.length->i<b.length->EqnP s (a.getD i.toNat (0,[])) (b.getD i.toNat (0,[]))
 |[],_,_,i,h0,h1,_=>by simp at h1;omega
 |_::_,[],_,i,h0,_,h1=>by simp at h1;omega
 |p::l,q::r,h,i,h0,h1,h2=>by
  simp only[w6,bhn,a0a,a06]at h;obtain⟨⟨⟨⟨a1,a2⟩,a3⟩,a4⟩,hr⟩:=h;by_cases e:i=0
  ·subst e;exact⟨a1,a2,a3,a4⟩
  ·have e1:i.toNat=(i-1).toNat+1:=by omega
   simp only[a0l]at h1 h2;have:=vu hr (i:=i-1) (by omega) (by omega) (by omega);rw[e1];simpa using this
theorem m4{s:ac}(h:bi s=true):0<=s.1/\s.1<=8/\s.2.1.length<=8/\s.2.2.1.length=s.2.1.length/\bj s.2.1 s.1=true/\bj s.2.2.1 s.1=true/\s.2.2.2.1.length<=8/\s.2.2.2.2.length=s.2.2.2.1.length/\w6 s s.2.2.2.1 s.2.2.2.2=true:=by unfold bi at h;simp only[a0a,a06]at h;obtain⟨⟨⟨⟨⟨⟨⟨h1,h2⟩,h3⟩,h4⟩,h5⟩,h6⟩,h7⟩,h8⟩:=h;obtain⟨h1,h1'⟩:=pz.1 h1;exact⟨h1,h1',h2,h3,h4,h5,h6,h7,h8⟩
theorem bg8{s:ac}{p:ae}(h:(bp s p.1 p.2).2=true){i:Int}(i0:0<=i)(i1:i<=p.2.length):(bp s p.1 (p.2.take i.toNat)).2=true/\ah6 s p i=(bp s p.1 (p.2.take i.toNat)).1:=by
 have h2:(bp s p.1 (p.2.take i.toNat)).2=true:=by
  have e:=a10 i.toNat p.2;rw[←e,qz]at h;by_cases hh:(bp s p.1 (p.2.take i.toNat)).2=true
  ·exact hh
  ·rw[ds hh]at h;cases h
 refine⟨h2,?_⟩;rw[akr s _ _ h2,a1d];unfold ah6;by_cases e:i=0
 ·subst e;simp
 ·rw[ds e,ds (by omega)];have:(p.2.take i.toNat).getD (min i.toNat p.2.length-1) 0=p.2.getD (i-1).toNat 0:=by rw[show min i.toNat p.2.length-1=(i-1).toNat from by omega];simp only[a0n];rw[a27 (by omega)]
  rw[this]
theorem ale{s:ac}{p l r:ae}(hp:(bm s p).2=true)(E:EqnP s l r){i:Int}(i0:0<=i)(i1:i<=p.2.length)(hh:ab6 s p l i=true)(h6:(ro p l r i).length<=6) :
  (bm s (p.1,ro p l r i)).2=true/\(bm s (p.1,ro p l r i)).1=(bm s p).1:=by
 obtain⟨a1,a2,a3⟩:=jm hp;rw[a3]at hp;unfold ab6 at hh;simp only[a0a,a06,a0t,dc]at hh;obtain⟨⟨h1,h2⟩,h3⟩:=hh;obtain⟨n1,n2⟩:=bg8 hp i0 i1;obtain⟨_,_,l3⟩:=jm E.l2;obtain⟨_,_,r3⟩:=jm E.r2
 have hsplit:p.2=p.2.take i.toNat++l.2++p.2.drop (i+l.2.length).toNat:=by
  have e1:p.2.take (i+l.2.length).toNat=p.2.take i.toNat++l.2:=by have:=a10 i.toNat (p.2.take (i+l.2.length).toNat);rw[h3,List.take_take,a37 (by omega)]at this;exact this.symm
  rw[←e1,a10]
 have hl2:=E.l2;have hr2:=E.r2;have hen:=E.en;rw[l3]at hl2 hen;rw[r3]at hr2 hen;rw[←E.st,←h1,n2]at hr2 hen;rw[←h1,n2]at hl2;have key:bp s p.1 (ro p l r i)=bp s p.1 p.2:=by have:=bio (s:=s) (nd:=p.1) (a:=p.2.take i.toNat) (m:=l.2) (m':=r.2) (b:=p.2.drop (i+l.2.length).toNat) (by rw[←hsplit];exact hp) hr2 hen.symm;rw[←hsplit]at this;exact this
 rw[alq (p:=(p.1,ro p l r i)) a1 h6,a3];dsimp only;rw[key];exact⟨hp,rfl⟩
theorem awn{α:Type}{f:Int->α}{R:α->α->Prop}:∀{n:Nat},(∀i j:Int,0<=i->i<j->j<n->R (f i) (f j))->(dv n f).Pairwise R
 |0,_=>by simp only[dv];exact List.Pairwise.nil
 |n+1,h=>by unfold dv;rw[a5f];refine⟨awn fun i j h0 h1 h2=>h i j h0 h1 (by omega),a5g _ _,fun a ha b hb=>?_⟩;rw[a0u]at hb;obtain⟨i,i0,i1,rfl⟩:=qy.1 ha;rw[hb];exact h i n i0 i1 (by omega)
structure GroP (s:ac) (k:Nat) (l:List ae):Prop where
 nd:l.Nodup
 le:l.length<=400
 cl:∀j,j<k->(l.getD j (0,[])).2.length≠6->∀q∈jj s (l.getD j (0,[])) s.2.1.length,q∈l
 pa:∀q∈l,q.2≠[]->∃j,j<k/\l.getD j (0,[])=(q.1,q.2.dropLast)
 ok:∀q∈l,(bm s q).2=true
theorem bjp{s:ac}{p:ae}{n:Nat}:(jj s p n).Nodup:=by unfold jj List.Nodup;rw[a40];refine List.Pairwise.filter _ (awn fun i j _ h _ e=>?_);have:=congrArg Prod.snd e;simp only[List.append_cancel_left_eq,a0i,a0b]at this;omega
theorem ahy{l r:List ae}{j:Nat}(h:j<l.length):(l++r).getD j (0,[])=l.getD j (0,[]):=by simp only[a0n];rw[a1g h]
theorem ahw{l:List ae}(h:l.Nodup){i j:Nat}(hi:i<l.length)(hj:j<l.length)(e:l.getD i (0,[])=l.getD j (0,[])):i=j:=by simp only[a0n,a0o hi,a0o hj,a0z]at e;exact (List.getElem_inj h).1 e
theorem r9{l:List ae}{p:ae}(h:p∈l):∃i,i<l.length/\l.getD i (0,[])=p:=by obtain⟨i,hi,e⟩:=a2f h;exact⟨i,hi,by simp only[a0n,a0o hi,a0z];exact e⟩
theorem jo{l:List ae}{i:Nat}(h:i<l.length):l.getD i (0,[])∈l:=by simp only[a0n,a0o h,a0z];exact a3c h
theorem btm{s:ac}{k:Nat}{l:List ae}(G:GroP s k l)(h6:(l.getD k (0,[])).2.length=6):GroP s (k+1) l:={
 nd:=G.nd
 le:=G.le
 cl:=fun j hj h q hq=>by
  by_cases e:j=k
  ·subst e;exact absurd h6 h
  ·exact G.cl j (by omega) h q hq
 pa:=fun q hq h=>by obtain⟨j,h1,h2⟩:=G.pa q hq h;exact⟨j,by omega,h2⟩
 ok:=G.ok }
theorem aym{s:ac}{p q:ae}{n:Nat}:q∈jj s p n<->∃e:Int,0<=e/\e<n/\s.2.1.getD e.toNat 0=ib s p/\q=(p.1,p.2++[e]):=by
 unfold jj;rw[a2d];constructor
 ·rintro⟨e,he,rfl⟩;obtain⟨he,hb⟩:=a4i.1 he;obtain⟨_,h0,h1,rfl⟩:=qy.1 he;exact⟨_,h0,h1,a1y hb,rfl⟩
 ·rintro⟨e,h0,h1,h2,rfl⟩;exact⟨e,a4i.2 ⟨qy.2 ⟨e,h0,h1,rfl⟩,a0t.2 h2⟩,rfl⟩
theorem buf{s:ac}{k:Nat}{l:List ae}(G:GroP s k l)(hk:k<l.length)(h6:(l.getD k (0,[])).2.length≠6)(hl:(l++jj s (l.getD k (0,[])) s.2.1.length).length<=400):GroP s (k+1) (l++jj s (l.getD k (0,[])) s.2.1.length):={
 nd:=by unfold List.Nodup;rw[a5f];refine⟨G.nd,bjp,fun a ha b hb e=>?_⟩;subst e;obtain⟨e,_,_,_,rfl⟩:=aym.1 hb;obtain⟨j,h1,h2⟩:=G.pa _ ha (by simp);simp only[List.dropLast_concat]at h2;have:=ahw G.nd (by omega) hk h2;omega
 le:=hl
 cl:=fun j hj h q hq=>by
  by_cases e:j=k
  ·subst e;rw[ahy hk]at hq;exact a2n _ hq
  ·rw[ahy (by omega)]at h hq;exact a1t _ (G.cl j (by omega) h q hq)
 pa:=fun q hq h=>by
  rcases a04.1 hq with hq|hq
  ·obtain⟨j,h1,h2⟩:=G.pa q hq h;exact⟨j,by omega,by rw[ahy (by omega)];exact h2⟩
  ·obtain⟨e,_,_,_,rfl⟩:=aym.1 hq;refine⟨k,by omega,?_⟩;rw[ahy hk,List.dropLast_concat]
 ok:=fun q hq=>by
  rcases a04.1 hq with hq|hq
  ·exact G.ok q hq
  ·exact awu (G.ok _ (jo hk)) h6 (a0f _) hq }
theorem ayf{s:ac}:∀(u k:Nat) (l:List ae),402<=u+k->k<=l.length->GroP s k l->(gm s u k l).2=true->GroP s (gm s u k l).1.length (gm s u k l).1/\∃r,(gm s u k l).1=l++r
 |0,k,l,h,hk,G,_=>by have:=G.le;omega
 |u+1,k,l,h,hk,G,hg=>by
  rw[gm]at hg⊢;by_cases hl:k<l.length
  ·rw[d0 hl]at hg⊢;by_cases h6:(l.getD k (0,[])).2.length=6
   ·rw[d0 h6]at hg⊢;exact ayf u (k+1) l (by omega) (by omega) (btm G h6) hg
   ·rw[ds h6]at hg⊢;by_cases h4:400<(l++jj s (l.getD k (0,[])) s.2.1.length).length
    ·rw[d0 h4]at hg;cases hg
    ·rw[ds h4]at hg⊢;obtain⟨a,r,b⟩:=ayf u (k+1) _ (by omega) (by rw[a0q];omega) (buf G hl h6 (by omega)) hg;exact⟨a,_,by rw[b,a07]⟩
  ·rw[ds hl];have:k=l.length:=by omega
   subst this;exact⟨G,[],by simp⟩
theorem bug{s:ac}(h0:0<=s.1)(h4:s.1<=400):GroP s 0 (d6 s.1):={
 nd:=by unfold d6 List.Nodup;refine awn fun i j _ h _ e=>?_;have:=congrArg Prod.fst e;simp only at this;omega
 le:=by unfold d6;rw[br];omega
 cl:=fun j hj=>by omega
 pa:=fun q hq h=>by unfold d6 at hq;obtain⟨e,_,_,rfl⟩:=qy.1 hq;exact absurd rfl h
 ok:=fun q hq=>by unfold d6 at hq;obtain⟨e,e0,e1,rfl⟩:=qy.1 hq;exact afy e0 (by omega) }
structure ShrtP (s:ac) (L:List ae):Prop where
 nd:L.Nodup
 le:L.length<=400
 ok:∀q∈L,(bm s q).2=true
 all:∀q,(bm s q).2=true->q∈L
 st:∀i:Nat,i<s.1.toNat->L.getD i (0,[])=((i:Int),[])
 ne:s.1.toNat<=L.length
theorem bp4{s:ac}{x:Int}{es:List Int}{e:Int}(h:(bm s (x,es++[e])).2=true):(bm s (x,es)).2=true/\es.length≠6/\0<=e/\e<s.2.1.length/\s.2.1.getD e.toNat 0=(bm s (x,es)).1:=by
 obtain⟨a1,a2,a3⟩:=jm h;rw[a3]at h;simp only[a0q,a0l,a0p]at a2;have e1:=alq (s:=s) (p:=(x,es)) a1 (by dsimp only;omega);rw[e1];dsimp only at h a1 e1⊢;rw[qz]at h;by_cases h1:(bp s x es).2=true
 ·rw[d0 h1]at h;simp only[bp]at h;split at h
  ·rename_i hc;obtain⟨q1,q2⟩:=pz.1 hc.1;exact⟨h1,by omega,q1,by omega,hc.2⟩
  ·cases h
 ·rw[ds h1]at h;cases h
theorem aei{s:ac}(h0:0<=s.1)(h4:s.1<=400)(h:(cp s).2=true):ShrtP s (cp s).1:=by
 unfold cp at h⊢;obtain⟨G,r,hr⟩:=ayf 402 0 (d6 s.1) (by omega) (by omega) (bug h0 h4) h;generalize (gm s 402 0 (d6 s.1)).1=L at *;have hsl:(d6 s.1).length=s.1.toNat:=br _;refine⟨G.nd,G.le,G.ok,?_,fun i hi=>?_,by rw[hr,a0q];omega⟩
 ·rintro⟨x,es⟩ hq
  have key:∀(n:Nat) (es:List Int),es.length=n->(bm s (x,es)).2=true->(x,es)∈L:=by
   intro n
   induction n with
   |zero=>intro es hn hq;have:=a11 hn;subst this;obtain⟨a1,_,_⟩:=jm hq;obtain⟨b1,b2⟩:=pz.1 a1;rw[hr];refine a1t _ ?_;unfold d6;dsimp only at b1 b2;exact qy.2 ⟨x,b1,by omega,rfl⟩
   |succ n ih=>
    intro es hn hq;have hne:es≠[]:=fun e=>by subst e;simp at hn
    have hsp:=List.dropLast_concat_getLast hne;generalize es.getLast hne=e at hsp;generalize es.dropLast=fs at hsp;subst hsp;simp only[a0q,a0l,a0p]at hn;obtain⟨c1,c2,c3,c4,c5⟩:=bp4 hq;obtain⟨j,j1,j2⟩:=r9 (ih fs (by omega) c1);refine G.cl j j1 (by rw[j2];exact c2) _ ?_;rw[j2];exact aym.2 ⟨e,c3,c4,by rw[c5,(jf c1).1],rfl⟩
  exact key es.length es rfl hq
 ·rw[hr,ahy (by omega)];unfold d6;have:=pw (f:=fun x:Int=>(x,([]:List Int))) (n:=s.1.toNat) (i:=(i:Int)) (d:=((0:Int),([]:List Int))) (by omega) (by omega);rw[a0m]at this;exact this
theorem bpo{n:Int}(h0:0<=n)(h1:n<256):IntKind.wrap .u8 n=n:=by simp[IntKind.wrap,IntKind.bits,IntKind.signed];omega
theorem azv:∀{a b:List Int},(∀x∈a,0<=x/\x<256)->(∀x∈b,0<=x/\x<256)->(a.map fun n=>UInt8.ofNat n.toNat)=(b.map fun n=>UInt8.ofNat n.toNat)->a=b
 |[],[],_,_,_=>rfl
 |[],_::_,_,_,h=>by simp at h
 |_::_,[],_,_,h=>by simp at h
 |x::a,y::b,ha,hb,h=>by simp only[a05,a0i]at h;have hx:=ha x (by simp);have hy:=hb y (by simp);have e:=congrArg UInt8.toNat h.1;simp only[UInt8.toNat_ofNat']at e;rw[Nat.mod_eq_of_lt (by omega),Nat.mod_eq_of_lt (by omega)]at e;rw[show x=y from by omega,azv (fun z hz=>ha z (by simp[hz])) (fun z hz=>hb z (by simp[hz])) h.2]
def apu(x:Int)(es:List Int):Prop:=(0<=x/\x<9)/\∀e∈es,0<=e/\e<8
theorem bo8{x:Int}{es:List Int}(h:apu x es):kbR [[x],es]=x::255::(es++[255]):=by
 unfold kbR;simp only[List.flatMap_cons,List.flatMap_nil,a05,a2j,a2k,a2i,a2s];rw[bpo h.1.1 (by have:=h.1.2;omega)]
 have:es.map (fun n=>IntKind.wrap .u8 n)=es:=by
  have key:∀l:List Int,(∀e∈l,0<=e/\e<8)->l.map (fun n=>IntKind.wrap .u8 n)=l:=fun l=>by
   induction l with
   |nil=>intro _;rfl
   |cons a l ih=>intro hl;have ha:=hl a (by simp);rw[a05,bpo ha.1 (by omega),ih fun e he=>hl e (by simp[he])]
  exact key es h.2
 rw[this]
theorem brk{x y:Int}{es fs:List Int}(h:apu x es)(g:apu y fs)(e:z8 [[x],es]=z8 [[y],fs]):x=y/\es=fs:=by
 unfold z8 aii at e;have e1:=congrArg (fun b:ByteArray=>b.data.toList) e;simp only[List.toList_toArray]at e1;rw[bo8 h,bo8 g]at e1
 have rng:∀{z:Int} {l:List Int},apu z l->∀n∈(z::255::(l++[255])),0<=n/\n<256:=fun hz n hn=>by
  simp only[a0s,a04,a4c,or_false]at hn;rcases hn with rfl|rfl|hn|rfl
  ·have:=hz.1;omega
  ·omega
  ·have:=hz.2 n hn;omega
  ·omega
 have e2:=azv (rng h) (rng g) e1;simp only[a0i,a0e]at e2;exact⟨e2.1,List.append_cancel_right e2.2⟩
theorem bp5{s:ac}{p:ae}(h1:s.1<=8)(h2:s.2.1.length<=8)(h:(bm s p).2=true):apu p.1 p.2:=by obtain⟨a1,_,_⟩:=jm h;obtain⟨b1,b2⟩:=pz.1 a1;obtain⟨_,w⟩:=jf h;refine⟨by omega,fun e he=>?_⟩;unfold bj at w;rw[a1l]at w;obtain⟨c1,c2⟩:=pz.1 (w e he);omega
def gg(L:List ae):Nat->List (ByteArray×Int)
 |0=>[]
 |n+1=>jq .str (.int .i64) (gg L n) (z8 [[(L.getD n (0,[])).1],(L.getD n (0,[])).2]) n
theorem as9(L:List ae):∀n,(gg L n).length<=n
 |0=>a0f _
 |n+1=>a08 bmv (Nat.succ_le_succ (as9 L n))
theorem bd7{L:List ae}(hnd:L.Nodup)(hs:∀p∈L,apu p.1 p.2):∀{n i:Nat},n<=L.length->i<n->rj .str (.int .i64) (gg L n) (z8 [[(L.getD i (0,[])).1],(L.getD i (0,[])).2])=i
 |0,i,_,h=>by omega
 |n+1,i,hn,h=>by
  unfold gg;rw[bc3];by_cases e:i=n
  ·subst e;rw[d0 (dc.2 rfl)]
  ·rw[ds,bd7 hnd hs (by omega) (by omega)];intro hk;obtain⟨k1,k2⟩:=brk (hs _ (jo (by omega))) (hs _ (jo (by omega))) (dc.1 hk);exact e (ahw hnd (by omega) (by omega) (a2w k1 k2))
theorem bsk{L:List ae}(hnd:L.Nodup)(hs:∀p∈L,apu p.1 p.2){k:ak}(hk:k.1=gg L L.length){p:ae}(hp:p∈L):0<=df k p.1 p.2/\df k p.1 p.2<L.length/\L.getD (df k p.1 p.2).toNat (0,[])=p:=by obtain⟨i,i1,rfl⟩:=r9 hp;unfold df;rw[hk,bd7 hnd hs (a0f _) i1];exact⟨by omega,by omega,by rw[a0m]⟩
def agf(s:ac)(p q:ae):Prop:=p.1=q.1/\(bm s p).1=(bm s q).1
theorem agf.trans{s:ac}{p q r:ae}(h:agf s p q)(g:agf s q r):agf s p r:=⟨h.1.trans g.1,h.2.trans g.2⟩
theorem agf.symm{s:ac}{p q:ae}(h:agf s p q):agf s q p:=⟨h.1.symm,h.2.symm⟩
structure LabP (s:ac) (L:List ae) (j:List Int):Prop where
 U:UfP j
 n:j.length=L.length
 st:∀x y:Int,0<=x->x<L.length->0<=y->y<L.length->ez j x=ez j y->agf s (L.getD x.toNat (0,[])) (L.getD y.toNat (0,[]))
theorem boo{s:ac}{L:List ae}{j:List Int}(P:LabP s L j){x y:Int}(x0:0<=x)(x1:x<L.length)(y0:0<=y)(y1:y<L.length)(hs:agf s (L.getD x.toNat (0,[])) (L.getD y.toNat (0,[]))):LabP s L (y5 j x y).1:=by
 have hn:=P.n;obtain⟨u1,u2,u3⟩:=aoh P.U x0 (by omega) y0 (by omega);refine⟨u1,u2.trans hn,fun a b a0 a1 b0 b1 h=>?_⟩;rcases u3 with u3|u3
 ·rw[u3 a a0 (by omega),u3 b b0 (by omega)]at h;split at h <;> split at h <;> rename_i h1 h2
  ·exact (P.st a x a0 a1 x0 x1 h1).trans (P.st x b x0 x1 b0 b1 h2.symm)
  ·exact ((P.st a x a0 a1 x0 x1 h1).trans hs).trans (P.st y b y0 y1 b0 b1 h)
  ·exact ((P.st a y a0 a1 y0 y1 h).trans hs.symm).trans (P.st x b x0 x1 b0 b1 h2.symm)
  ·exact P.st a b a0 a1 b0 b1 h
 ·rw[u3 a a0 (by omega),u3 b b0 (by omega)]at h;split at h <;> split at h <;> rename_i h1 h2
  ·exact (P.st a y a0 a1 y0 y1 h1).trans (P.st y b y0 y1 b0 b1 h2.symm)
  ·exact ((P.st a y a0 a1 y0 y1 h1).trans hs.symm).trans (P.st x b x0 x1 b0 b1 h)
  ·exact ((P.st a x a0 a1 x0 x1 h).trans hs).trans (P.st y b y0 y1 b0 b1 h2.symm)
  ·exact P.st a b a0 a1 b0 b1 h
structure SetP (s:ac) (L:List ae) (k:ak):Prop where
 S:bi s=true
 H:ShrtP s L
 k:k.1=gg L L.length
theorem SetP.sml{s:ac}{L:List ae}{k:ak}(P:SetP s L k):∀p∈L,apu p.1 p.2:=fun p hp=>by obtain⟨_,h1,h2,_⟩:=m4 P.S;exact bp5 h1 h2 (P.H.ok p hp)
theorem SetP.at{s:ac}{L:List ae}{k:ak}(P:SetP s L k){p:ae}(hp:(bm s p).2=true):0<=df k p.1 p.2/\df k p.1 p.2<L.length/\L.getD (df k p.1 p.2).toNat (0,[])=p:=bsk P.H.nd P.sml P.k (P.H.all p hp)
theorem bmi{s:ac}{L:List ae}{k:ak}(P:SetP s L k){j:List Int}(Q:LabP s L j){w:Int}(w0:0<=w)(w1:w<L.length){e:Int}(e0:0<=e)(e1:e<s.2.2.2.1.length) :
  VisP s (L.getD w.toNat (0,[])) (s.2.2.2.1.getD e.toNat (0,[])) (s.2.2.2.2.getD e.toNat (0,[])) w k (L.getD w.toNat (0,[])) j:=by
 obtain⟨h1,h2,h3,h4,h5,h6,h7,h8,h9⟩:=m4 P.S;have E:=vu h9 e0 e1 (by omega);have hp:=P.H.ok _ (jo (l:=L) (i:=w.toNat) (by omega));have hlp:=(jm hp).2.1;have hll:=(jm E.l2).2.1;have hlr:=(jm E.r2).2.1;refine⟨Q.U,w0,by rw[Q.n];exact w1,by omega,by omega,by omega,by rw[h4];exact (jf hp).2,fun n n0 n1 hh h6=>?_⟩;obtain⟨o1,o2⟩:=ale hp E n0 n1 hh h6;obtain⟨a1,a2,_⟩:=P.at o1;exact⟨a1,by rw[Q.n];exact a2⟩
theorem bgf{s:ac}{L:List ae}{k:ak}(P:SetP s L k){j:List Int}(Q:LabP s L j){w:Int}(w0:0<=w)(w1:w<L.length){e:Int}(e0:0<=e)(e1:e<s.2.2.2.1.length) :
  ∀n:Nat,n<=(L.getD w.toNat (0,[])).2.length+1->LabP s L (uc s (L.getD w.toNat (0,[])) (s.2.2.2.1.getD e.toNat (0,[])) (s.2.2.2.2.getD e.toNat (0,[])) w k (L.getD w.toNat (0,[])) n j)
 |0,_=>Q
 |n+1,hn=>by
  have ih:=bgf P Q w0 w1 e0 e1 n (by omega);simp only[uc];split
  ·rename_i hc;obtain⟨h1,h2,h3,h4,h5,h6,h7,h8,h9⟩:=m4 P.S;have E:=vu h9 e0 e1 (by omega);have hp:=P.H.ok _ (jo (l:=L) (i:=w.toNat) (by omega));obtain⟨o1,o2⟩:=ale hp E (i:=(n:Int)) (by omega) (by omega) hc.1 hc.2;obtain⟨a1,a2,a3⟩:=P.at o1;exact boo ih w0 w1 a1 a2 (by rw[a3];exact⟨rfl,o2.symm⟩)
  ·exact ih
def jE(s:ac)(k:ak)(p:ae)(w:Int):Nat->List Int->List Int
 |0,j=>j
 |e+1,j=>uc s p (s.2.2.2.1.getD e (0,[])) (s.2.2.2.2.getD e (0,[])) w k p (p.2.length+1) (jE s k p w e j)
def jW(s:ac)(k:ak)(L:List ae):Nat->List Int
 |0=>gh L.length
 |w+1=>jE s k (L.getD w (0,[])) w s.2.2.2.1.length (jW s k L w)
theorem bo9(s:ac)(L:List ae):LabP s L (gh L.length):=by
 have hl:(gh L.length).length=L.length:=by unfold gh;rw[br];omega
 have hg:∀x:Int,0<=x->x<L.length->(gh L.length).getD x.toNat 0=x:=fun x x0 x1=>by unfold gh;rw[pw x0 (by omega)]
 have U:UfP (gh L.length):=⟨fun x x0 x1=>by rw[hg x x0 (by omega)];omega⟩;refine⟨U,hl,fun x y x0 x1 y0 y1 h=>?_⟩;rw[yc U x0 (by omega) (hg x x0 x1),yc U y0 (by omega) (hg y y0 y1)]at h;rw[h];exact⟨rfl,rfl⟩
theorem bam{s:ac}{L:List ae}{k:ak}(P:SetP s L k){j:List Int}(Q:LabP s L j){w:Nat}(w1:w<L.length):∀e:Nat,e<=s.2.2.2.1.length->LabP s L (jE s k (L.getD w (0,[])) w e j)
 |0,_=>Q
 |e+1,he=>by have:=bgf P (bam P Q w1 e (by omega)) (w:=(w:Int)) (by omega) (by omega) (e:=(e:Int)) (by omega) (by omega) _ (a0f _);simp only[a0m]at this;exact this
theorem au2{s:ac}{L:List ae}{k:ak}(P:SetP s L k):∀w:Nat,w<=L.length->LabP s L (jW s k L w)
 |0,_=>bo9 s L
 |w+1,hw=>bam P (au2 P w (by omega)) (by omega) _ (a0f _)
theorem brt{p:List Int}{x:Int}(h:x∈p):x+1<=jn p:=by
 have key:∀(l:List Int) (a:Int),a<=l.foldl (fun n k=>mxR n (k+1)) a/\∀x∈l,x+1<=l.foldl (fun n k=>mxR n (k+1)) a:=fun l=>by
  induction l with
  |nil=>intro a;exact⟨a0r _,fun x hx=>by cases hx⟩
  |cons y l ih=>
   intro a;obtain⟨h1,h2⟩:=ih (mxR a (y+1));have hm:a<=mxR a (y+1)/\y+1<=mxR a (y+1):=by unfold mxR;split <;> omega
   rw[a16];refine⟨by omega,fun x hx=>?_⟩;rcases a0s.1 hx with rfl|hx
   ·omega
   ·exact h2 x hx
 exact (key p 0).2 x h
theorem blz{p:List Int}{n:Int}(h0:0<=n)(h:∀x∈p,x<n):0<=jn p/\jn p<=n:=by
 have key:∀(l:List Int) (a:Int),0<=a->a<=n->(∀x∈l,x<n)->0<=l.foldl (fun n k=>mxR n (k+1)) a/\l.foldl (fun n k=>mxR n (k+1)) a<=n:=fun l=>by
  induction l with
  |nil=>intro a h0 h1 _;exact⟨h0,h1⟩
  |cons y l ih=>
   intro a h0 h1 hl;rw[a16];have hy:=hl y (by simp);have hm:0<=mxR a (y+1)/\mxR a (y+1)<=n:=by unfold mxR;split <;> omega
   exact ih _ hm.1 hm.2 fun x hx=>hl x (by simp[hx])
 exact key p 0 (a0r _) h0 h
theorem alw{y:Int}:∀{l s:List Int},(y∈s\/y∈l)->y∈l.foldl mg s
 |[],s,h=>by simpa using h
 |k::l,s,h=>by
  rw[a16];refine alw ?_;unfold mg;rcases h with h|h
  ·left;split
   ·exact a1t _ h
   ·exact h
  ·rcases a0s.1 h with rfl|h
   ·left;split
    ·exact a2n _ (a0u.2 rfl)
    ·rename_i hn;exact a3u fun hh=>hn (by have:=(sg (0:Int)).2 hh;omega)
   ·exact .inr h
theorem aoy{l:List Int}{i:Nat}(h:i<l.length):(cn l).getD i 0=ia (ij l) (l.getD i 0):=by unfold cn;simp only[a0n,a1b,a0o h,a00,a0z]
theorem bq0{l:List Int}:∀x∈cn l,0<=x/\x<l.length:=by intro x hx;unfold cn at hx;obtain⟨y,hy,rfl⟩:=a2d.1 hx;obtain⟨h0,h1,_⟩:=(sg (0:Int)).1 (alw (l:=l) (s:=[]) (.inr hy));have:=ard l [];simp only[a0p,a1w]at this;exact⟨h0,Int.lt_of_lt_of_le h1 (by omega)⟩
theorem beb{l:List Int}{i j:Nat}(hi:i<l.length)(hj:j<l.length):(cn l).getD i 0=(cn l).getD j 0<->l.getD i 0=l.getD j 0:=by
 rw[aoy hi,aoy hj];constructor
 ·intro h;have m1:l.getD i 0∈ij l:=alw (.inr (by simp only[a0n,a0o hi,a0z];exact a3c hi));have m2:l.getD j 0∈ij l:=alw (.inr (by simp only[a0n,a0o hj,a0z];exact a3c hj));obtain⟨_,_,e1,_⟩:=(sg (0:Int)).1 m1;obtain⟨_,_,e2,_⟩:=(sg (0:Int)).1 m2;rw[←e1,←e2,h]
 ·intro h;rw[h]
def ku(s:ac)(L:List ae):List Int:=cn (fa (jW s (gg L L.length,([],[])) L L.length))
structure ClaP (s:ac) (L:List ae) (c:List Int):Prop where
 n:c.length=L.length
 r:∀i:Int,0<=i->i<L.length->0<=c.getD i.toNat 0/\c.getD i.toNat 0<jn c
 st:∀i j:Int,0<=i->i<L.length->0<=j->j<L.length->c.getD i.toNat 0=c.getD j.toNat 0->agf s (L.getD i.toNat (0,[])) (L.getD j.toNat (0,[]))
 le:0<=jn c/\jn c<=L.length
theorem aq4{j:List Int}{x:Int}(x0:0<=x)(x1:x<j.length):(fa j).getD x.toNat 0=ez j x:=by unfold fa;rw[pw x0 (by omega)]
theorem avb{s:ac}{L:List ae}{j:List Int}(Q:LabP s L j):ClaP s L (cn (fa j)):=by
 have hn:(fa j).length=L.length:=by unfold fa;rw[br,Q.n]
 have hm:(cn (fa j)).length=L.length:=by unfold cn;rw[a0x,hn]
 have hg:=bq0 (l:=fa j);have mem:∀i:Int,0<=i->i<L.length->(cn (fa j)).getD i.toNat 0∈cn (fa j):=fun i i0 i1=>fb _ 0 i0 (by omega);refine⟨hm,fun i i0 i1=>⟨(hg _ (mem i i0 i1)).1,?_⟩,fun a b a0 a1 b0 b1 h=>?_,blz (by omega) fun x hx=>by have:=(hg x hx).2;omega⟩
 ·have:=brt (mem i i0 i1);omega
 ·rw[beb (by omega) (by omega),aq4 a0 (by rw[Q.n];omega),aq4 b0 (by rw[Q.n];omega)]at h;exact Q.st a b a0 a1 b0 b1 h
def lsS(c:List Int)(L:List ae)(i:Nat)(l:List (Int×Option (List Int))):List (Int×Option (List Int)):=if ((l.getD (c.getD i 0).toNat (0,none)).2.isNone||decide (uo (L.getD i (0,[])) ((l.getD (c.getD i 0).toNat (0,none)).1,(l.getD (c.getD i 0).toNat (0,none)).2.getD [])<0))=true then l.set (c.getD i 0).toNat ((L.getD i (0,[])).1,some (L.getD i (0,[])).2)else l
def lsD(c:List Int)(L:List ae):Nat->List (Int×Option (List Int))
 |0=>List.replicate (jn c).toNat (0,none)
 |m+1=>lsS c L (L.length-1-m) (lsD c L m)
structure LstP (c:List Int) (L:List ae) (i:Int) (l:List (Int×Option (List Int))):Prop where
 n:l.length=(jn c).toNat
 v:∀(k:Nat) (x:Int) (es:List Int),l.getD k (0,none)=(x,some es)->∃a:Int,i<=a/\0<=a/\a<L.length/\c.getD a.toNat 0=k/\L.getD a.toNat (0,[])=(x,es)
theorem btv{c:List Int}{L:List ae}:LstP c L L.length (lsD c L 0):=by refine⟨by unfold lsD;rw[a4q],fun k x es h=>?_⟩;exfalso;unfold lsD at h;simp only[a0n,a49]at h;split at h <;> simp at h
theorem bt6{s:ac}{c:List Int}{L:List ae}(C:ClaP s L c){i:Int}{l:List (Int×Option (List Int))}(P:LstP c L (i+1) l)(i0:0<=i)(i1:i<L.length):LstP c L i (lsS c L i.toNat l):=by
 have hr:=C.r i i0 i1;unfold lsS;split
 ·refine⟨by rw[a1h];exact P.n,fun k x es h=>?_⟩;have hlt:(c.getD i.toNat 0).toNat<l.length:=by rw[P.n];omega
  rw[ab3 _ _ _ _ _ hlt]at h;split at h
  ·rename_i e;simp only[a0j,a0d]at h;exact⟨i,a0r _,i0,i1,by omega,a2w h.1 h.2⟩
  ·obtain⟨a,h1,h2⟩:=P.v k x es h;exact⟨a,by omega,h2⟩
 ·refine⟨P.n,fun k x es h=>?_⟩;obtain⟨a,h1,h2⟩:=P.v k x es h;exact⟨a,by omega,h2⟩
theorem bb0{s:ac}{c:List Int}{L:List ae}(H:ShrtP s L)(C:ClaP s L c){i:Int}{l:List (Int×Option (List Int))}(P:LstP c L (i+1) l)(i0:0<=i)(i1:i<L.length):am0 (l.getD (c.getD i.toNat 0).toNat (0,none)).2=true:=by
 generalize hq:l.getD (c.getD i.toNat 0).toNat (0,none)=q;obtain⟨x,o⟩:=q
 cases o with
 |none=>rfl
 |some es=>
  obtain⟨a,h1,h2,h3,h4,h5⟩:=P.v _ x es hq
  cases es with
  |cons _ _=>rfl
  |nil=>
   exfalso;have hr:=C.r i i0 i1;have hst:=(C.st a i h2 h3 i0 i1 (by omega)).1;rw[h5]at hst
   -- an empty path of number a begins at a
   have hmem:=jo (l:=L) (i:=a.toNat) (by omega);rw[h5]at hmem;obtain⟨b1,b2⟩:=pz.1 (jm (H.ok _ hmem)).1;dsimp only at b1 b2 hst;have e1:=H.st x.toNat (by omega);rw[show ((x.toNat:Nat):Int)=x from by omega]at e1;have e2:x.toNat=a.toNat:=ahw H.nd (by have:=H.ne;omega) (by omega) (by rw[e1,h5]);have e3:=H.st i.toNat (by omega);rw[e3]at hst;dsimp only at hst;omega
def lsA(s:ac)(L:List ae):List (Int×Option (List Int)):=lsD (ku s L) L L.length
def aux(l:List (Int×Option (List Int))):Bool:=l.all fun q=>(q.2.getD []).length != 6
def q6(s:ac):Bool:=(cp s).2&&aux (lsA s (cp s).1)
def pcR(s:ac):ak:=(gg (cp s).1 (cp s).1.length,(ku s (cp s).1,o9 (lsA s (cp s).1)))
theorem ame{s:ac}{c:List Int}{L:List ae}(C:ClaP s L c):∀m:Nat,m<=L.length->LstP c L ((L.length:Int)-m) (lsD c L m)
 |0,_=>by simpa using (btv (c:=c) (L:=L))
 |m+1,hm=>by
  have ih:=ame C m (by omega);have e:((L.length:Int)-((m+1:Nat):Int)).toNat=L.length-1-m:=by omega
  have:=bt6 C (i:=(L.length:Int)-((m+1:Nat):Int)) (l:=lsD c L m) (by rw[show (L.length:Int)-((m+1:Nat):Int)+1=(L.length:Int)-m from by omega];exact ih) (by omega) (by omega);rw[e]at this;exact this
theorem bd9{l:List (Int×Option (List Int))}:aux l=true<->∀b:Int,0<=b->b<l.length->((l.getD b.toNat (0,none)).2.getD []).length≠6:=by
 unfold aux;rw[a1l];constructor
 ·intro h b b0 b1;have:=h _ (fb l (0,none) b0 b1);simpa using this
 ·intro h x hx;obtain⟨i,hi,rfl⟩:=a2f hx;have:=h i (by omega) (by omega);rw[a0m]at this;simp only[a0n,a0o hi,a0z]at this;simpa using this
def jp:Sp:=⟨[(.pt SchemaT)],[false],true,fun x=>q6 x.1,fun x=>[bi x.1=true],[(false,(.fz (.pt nz))),(false,(.fz (.er 119)))],fun x=>(pcR x.1,false,()),[(false,(.fz .any)),(false,(.fz (.er 119)))],fun x=>((),true,())⟩
def dn:Ct:=ti jp true
def eg:Ct:=ti jp false
def yy:Ct:=spC jp
def wg:Ann:=(.s .n (.s .n (.s .n (.s .n (.s (.s .n (.l [(6,(.bx (.ad 27 [.de]))),(30,(.d (.int .i64)))] [(27,(.pt (.p (.mp .str (.int .i64)) (.p (.sl (.fz (.int .i64))) (.sl (.fz (.p (.int .i64) (.ns (.sl (.int .i64))))))))))] [0,4,28,29] .n)) (.s .n (.s (.s .n (.l [(6,(.bx (.ad 27 [.de]))),(9,(.ad 9 [.de])),(51,(.d (.int .i64)))] [(27,(.pt (.p (.mp .str (.int .i64)) (.p (.sl (.fz (.int .i64))) (.sl (.fz (.p (.int .i64) (.ns (.sl (.int .i64)))))))))),(9,(.pt (.sl (.fz (.int .i64)))))] [0,4,49,50] (.s .n (.s .n (.s (.s .n (.s .n (.l [(6,(.bx (.ad 27 [.de]))),(9,(.ad 9 [.de])),(10,(.ad 10 [.de])),(11,(.ad 11 [.de])),(61,(.d (.int .i64)))] [(27,(.pt (.p (.mp .str (.int .i64)) (.p (.sl (.fz (.int .i64))) (.sl (.fz (.p (.int .i64) (.ns (.sl (.int .i64)))))))))),(9,(.pt (.sl (.fz (.int .i64))))),(10,(.pt (.fz (.int .i64)))),(11,(.pt (.fz (.p (.int .i64) (.sl (.int .i64))))))] [0,4,49,50,51,60] .n))) .n))))) (.s .n (.s .n (.s (.s .n (.l [(6,(.bx (.ad 27 [.de]))),(13,(.d (.int .i64)))] [(27,(.pt (.p (.mp .str (.int .i64)) (.p (.sl (.fz (.int .i64))) (.sl (.fz (.p (.int .i64) (.ns (.sl (.int .i64))))))))))] [4] (.s .n (.s (.s .n (.s .n (.j [(6,(.bx (.ad 27 [.de])))] [(27,(.pt (.p (.mp .str (.int .i64)) (.p (.sl (.fz (.int .i64))) (.sl (.fz (.p (.int .i64) (.ns (.sl (.int .i64))))))))))] [4,13] .n))) .n)))) (.s (.s .n (.l [(6,(.bx (.ad 27 [.de]))),(159,(.d (.int .i64))),(157,(.ref 27 [.de,.r,.r]))] [(27,(.pt (.p (.mp .str (.int .i64)) (.p (.sl (.fz (.int .i64))) (.sl (.fz (.p (.int .i64) (.ns (.sl (.int .i64))))))))))] [158] .n)) .n)))))))))))
def baa:FuncId->Option Ct:=lkp [(113,abi),(110,adu),(116,aax),(117,gi),(77,n7),(118,ir),(112,pj),(111,ow),(114,rq)]
def o8(s:ac)(A:je dn.rt->Prop)(B:je eg.rt->Prop):Prop:=(cnd (cp s).2 (((cp s).2=true)/\((0<=s.1)/\((s.1<=400)/\((s.2.1.length<=1000000)/\((s.2.2.1.length=s.2.1.length)/\(cnd false (B ((),(false,()))) (bc (S:=(buw×(((List (ByteArray×Int))×((List Int)×(List (Int×(Option (List Int))))))×Unit))) (fun s1=>(fun next=>((inK .i64 s1.1.2.1)->((T.ok (T.mp T.str (.int .i64)) s1.2.1.1)->((T.ok (.sl (.int .i64)) s1.2.1.2.1)->((T.ok (.sl (T.p (.int .i64) (T.ns (.sl (.int .i64))))) s1.2.1.2.2)->(cnd (decide (s1.1.2.1<(List.length (cp s).1:Int))) ((0<=s1.1.2.1)/\((s1.1.2.1<(List.length (cp s).1:Int))/\(((List.length (List.getD (cp s).1 s1.1.2.1.toNat (0,[])).2)<=1000000)/\((ey s1.2.1.1.length 1 1)/\((inK .i64 (s1.1.2.1+1))/\(next (((),((s1.1.2.1+1),())),(((jq T.str (.int .i64) s1.2.1.1 (z8 (((List.getD (cp s).1 s1.1.2.1.toNat (0,[])).1::[])::((List.getD (cp s).1 s1.1.2.1.toNat (0,[])).2::[]))) s1.1.2.1),s1.2.1.2),())))))))) ((0<=(List.length (cp s).1:Int))/\(((List.length (cp s).1:Int)<=1099511627776)/\(bc (S:=((Unit×buw)×(((List (ByteArray×Int))×((List Int)×(List (Int×(Option (List Int))))))×buz))) (fun s2=>(fun next1=>((inK .i64 s2.1.2.2.1)->((T.ok (T.mp T.str (.int .i64)) s2.2.1.1)->((T.ok (.sl (.int .i64)) s2.2.1.2.1)->((T.ok (.sl (T.p (.int .i64) (T.ns (.sl (.int .i64))))) s2.2.1.2.2)->((T.ok (.sl (.int .i64)) s2.2.2.1)->(cnd (decide (s2.1.2.2.1<(List.length (cp s).1:Int))) ((0<=s2.1.2.2.1)/\((s2.1.2.2.1<(List.length (cp s).1:Int))/\(bc (S:=((Unit×bu2)×(((List (ByteArray×Int))×((List Int)×(List (Int×(Option (List Int))))))×bvb))) (fun s3=>(fun next2=>((inK .i64 s3.1.2.2.2.2.1)->((T.ok (T.mp T.str (.int .i64)) s3.2.1.1)->((T.ok (.sl (.int .i64)) s3.2.1.2.1)->((T.ok (.sl (T.p (.int .i64) (T.ns (.sl (.int .i64))))) s3.2.1.2.2)->((T.ok (.sl (.int .i64)) s3.2.2.1)->((inK .i64 s3.2.2.2.1)->((inK .i64 s3.2.2.2.2.1.1)->((T.ok (.sl (.int .i64)) s3.2.2.2.2.1.2)->(cnd (decide (s3.1.2.2.2.2.1<(s.2.2.2.1.length:Int))) ((0<=s3.1.2.2.2.2.1)/\((s3.1.2.2.2.2.1<(s.2.2.2.1.length:Int))/\((0<=s3.1.2.2.2.2.1)/\((s3.1.2.2.2.2.1<(s.2.2.2.2.length:Int))/\((VisP s s3.2.2.2.2.1 (List.getD s.2.2.2.1 s3.1.2.2.2.2.1.toNat (0,[])) (List.getD s.2.2.2.2 s3.1.2.2.2.2.1.toNat (0,[])) s3.2.2.2.1 (s3.2.1.1,(s3.2.1.2.1,(o9 s3.2.1.2.2))) s3.2.2.2.2.1 s3.2.2.1)/\((inK .i64 (s3.1.2.2.2.2.1+1))/\(next2 (((),((),((),((),((s3.1.2.2.2.2.1+1),()))))),(s3.2.1,((uc s s3.2.2.2.2.1 (List.getD s.2.2.2.1 s3.1.2.2.2.2.1.toNat (0,[])) (List.getD s.2.2.2.2 s3.1.2.2.2.2.1.toNat (0,[])) s3.2.2.2.1 (s3.2.1.1,(s3.2.1.2.1,(o9 s3.2.1.2.2))) s3.2.2.2.2.1 (s3.2.2.2.2.1.2.length+1) s3.2.2.1),(s3.2.2.2.1,(s3.2.2.2.2.1,())))))))))))) ((inK .i64 (s2.1.2.2.1+1))/\(next1 (((),((),((s2.1.2.2.1+1),()))),(s3.2.1,(s3.2.2.1,())))))))))))))))) (((),((),((),((),(0,()))))),(s2.2.1,(s2.2.2.1,(s2.1.2.2.1,((List.getD (cp s).1 s2.1.2.2.1.toNat (0,[])),())))))))) ((UfP s2.2.2.1)/\((s2.2.2.1.length<=1099511627776)/\(((List.length (cn (fa s2.2.2.1)))<=1099511627776)/\(((bj (cn (fa s2.2.2.1)) 1099511627776)=true)/\((0<=(jn (cn (fa s2.2.2.1))))/\(((jn (cn (fa s2.2.2.1)))<=(jn (cn (fa s2.2.2.1))))/\(((jn (cn (fa s2.2.2.1)))<=((140737488355328:Nat):Int))/\((((jn (cn (fa s2.2.2.1)))*((32:Nat):Int))<=((140737488355328:Nat):Int))/\((inK .i64 ((List.length (cp s).1:Int)-1))/\(bc (S:=(buw×(((List (ByteArray×Int))×((List Int)×(List (Int×(Option (List Int))))))×Unit))) (fun s3=>(fun next2=>((inK .i64 s3.1.2.1)->((T.ok (T.mp T.str (.int .i64)) s3.2.1.1)->((T.ok (.sl (.int .i64)) s3.2.1.2.1)->((T.ok (.sl (T.p (.int .i64) (T.ns (.sl (.int .i64))))) s3.2.1.2.2)->(cnd (decide (0<=s3.1.2.1)) ((0<=s3.1.2.1)/\((s3.1.2.1<(s3.2.1.2.1.length:Int))/\((0<=(List.getD s3.2.1.2.1 s3.1.2.1.toNat 0))/\(((List.getD s3.2.1.2.1 s3.1.2.1.toNat 0)<(s3.2.1.2.2.length:Int))/\(((am0 (List.getD s3.2.1.2.2 (Int.toNat (List.getD s3.2.1.2.1 s3.1.2.1.toNat 0)) (0,(none:Option (List Int)))).2)=true)/\((((Option.isNone (List.getD s3.2.1.2.2 (Int.toNat (List.getD s3.2.1.2.1 s3.1.2.1.toNat 0)) (0,(none:Option (List Int)))).2)=false)->((s3.1.2.1<(List.length (cp s).1:Int))/\(0<=s3.1.2.1)))/\((((Option.isNone (List.getD s3.2.1.2.2 (Int.toNat (List.getD s3.2.1.2.1 s3.1.2.1.toNat 0)) (0,(none:Option (List Int)))).2)=false)->(((List.getD s3.2.1.2.1 s3.1.2.1.toNat 0)<(s3.2.1.2.2.length:Int))/\(0<=(List.getD s3.2.1.2.1 s3.1.2.1.toNat 0))))/\((((Option.isNone (List.getD s3.2.1.2.2 (Int.toNat (List.getD s3.2.1.2.1 s3.1.2.1.toNat 0)) (0,(none:Option (List Int)))).2)=false)->(((List.length (Option.getD (List.getD s3.2.1.2.2 (Int.toNat (List.getD s3.2.1.2.1 s3.1.2.1.toNat 0)) (0,(none:Option (List Int)))).2 []))<=1000000)/\((List.length (List.getD (cp s).1 s3.1.2.1.toNat (0,[])).2)<=1000000)))/\(jd (S:=((Unit×Unit)×(((List (ByteArray×Int))×((List Int)×(List (Int×(Option (List Int))))))×Unit))) (fun s4=>((T.ok (T.mp T.str (.int .i64)) s4.2.1.1)->((T.ok (.sl (.int .i64)) s4.2.1.2.1)->((T.ok (.sl (T.p (.int .i64) (T.ns (.sl (.int .i64))))) s4.2.1.2.2)->((inK .i64 (s3.1.2.1-1))/\(next2 (((),((s3.1.2.1-1),())),(s4.2.1,())))))))) (fun k=>(cnd ((Option.isNone (List.getD s3.2.1.2.2 (Int.toNat (List.getD s3.2.1.2.1 s3.1.2.1.toNat 0)) (0,(none:Option (List Int)))).2)||(decide ((uo (List.getD (cp s).1 s3.1.2.1.toNat (0,[])) ((List.getD s3.2.1.2.2 (Int.toNat (List.getD s3.2.1.2.1 s3.1.2.1.toNat 0)) (0,(none:Option (List Int)))).1,(Option.getD (List.getD s3.2.1.2.2 (Int.toNat (List.getD s3.2.1.2.1 s3.1.2.1.toNat 0)) (0,(none:Option (List Int)))).2 [])))<0))) ((0<=s3.1.2.1)/\((s3.1.2.1<(List.length (cp s).1:Int))/\((0<=s3.1.2.1)/\((s3.1.2.1<(List.length (cp s).1:Int))/\(((List.length (List.getD (cp s).1 s3.1.2.1.toNat (0,[])).2)<=1099511627776)/\((0<=(List.getD s3.2.1.2.1 s3.1.2.1.toNat 0))/\(((List.getD s3.2.1.2.1 s3.1.2.1.toNat 0)<(s3.2.1.2.2.length:Int))/\(k (((),()),((s3.2.1.1,(s3.2.1.2.1,(List.set s3.2.1.2.2 (Int.toNat (List.getD s3.2.1.2.1 s3.1.2.1.toNat 0)) ((List.getD (cp s).1 s3.1.2.1.toNat (0,[])).1,(Option.some (List.getD (cp s).1 s3.1.2.1.toNat (0,[])).2))))),())))))))))) (k (((),()),(s3.2.1,())))))))))))))) (bc (S:=(bve×(((List (ByteArray×Int))×((List Int)×(List (Int×(Option (List Int))))))×Unit))) (fun s4=>(fun next3=>((inK .i64 s4.1.2.1)->((T.ok (T.mp T.str (.int .i64)) s4.2.1.1)->((T.ok (.sl (.int .i64)) s4.2.1.2.1)->((T.ok (.sl (T.p (.int .i64) (T.ns (.sl (.int .i64))))) s4.2.1.2.2)->(cnd (decide (s4.1.2.1<(s3.2.1.2.2.length:Int))) ((0<=s4.1.2.1)/\((s4.1.2.1<(s4.2.1.2.2.length:Int))/\(cnd ((((List.length (Option.getD (List.getD s4.2.1.2.2 s4.1.2.1.toNat (0,(none:Option (List Int)))).2 [])):Nat):Int)==6) (B ((),(true,()))) ((inK .i64 (s4.1.2.1+1))/\(next3 (((),((s4.1.2.1+1),((),()))),(s4.2.1,()))))))) (A ((s4.2.1.1,(s4.2.1.2.1,(o9 s4.2.1.2.2))),(false,())))))))))) (((),(0,((),()))),(s3.2.1,())))))))))) (((),(((List.length (cp s).1:Int)-1),())),((s2.2.1.1,((cn (fa s2.2.2.1)),(List.replicate (Int.toNat (jn (cn (fa s2.2.2.1)))) (0,(none:Option (List Int)))))),())))))))))))))))))))) (((),((),(0,()))),(s1.2.1,((gh (List.length (cp s).1:Int)),()))))))))))))) (((),(0,())),((([]:List (ByteArray×Int)),([],([]:List (Int×(Option (List Int)))))),()))))))))) (((cp s).2=false)/\((0<=s.1)/\((s.1<=400)/\((s.2.1.length<=1000000)/\((s.2.2.1.length=s.2.1.length)/\(cnd true (B ((),(true,()))) (bc (S:=(buw×(((List (ByteArray×Int))×((List Int)×(List (Int×(Option (List Int))))))×Unit))) (fun s1=>(fun next=>((inK .i64 s1.1.2.1)->((T.ok (T.mp T.str (.int .i64)) s1.2.1.1)->((T.ok (.sl (.int .i64)) s1.2.1.2.1)->((T.ok (.sl (T.p (.int .i64) (T.ns (.sl (.int .i64))))) s1.2.1.2.2)->(cnd (decide (s1.1.2.1<(((List.length ([]:List buv)):Nat):Int))) ((0<=s1.1.2.1)/\((s1.1.2.1<(((List.length ([]:List buv)):Nat):Int))/\(((List.length (List.getD ([]:List buv) s1.1.2.1.toNat (0,[])).2)<=1000000)/\((ey s1.2.1.1.length 1 1)/\((inK .i64 (s1.1.2.1+1))/\(next (((),((s1.1.2.1+1),())),(((jq T.str (.int .i64) s1.2.1.1 (z8 (((List.getD ([]:List buv) s1.1.2.1.toNat (0,[])).1::[])::((List.getD ([]:List buv) s1.1.2.1.toNat (0,[])).2::[]))) s1.1.2.1),s1.2.1.2),())))))))) ((0<=(((List.length ([]:List buv)):Nat):Int))/\(((((List.length ([]:List buv)):Nat):Int)<=1099511627776)/\(bc (S:=((Unit×buw)×(((List (ByteArray×Int))×((List Int)×(List (Int×(Option (List Int))))))×buz))) (fun s2=>(fun next1=>((inK .i64 s2.1.2.2.1)->((T.ok (T.mp T.str (.int .i64)) s2.2.1.1)->((T.ok (.sl (.int .i64)) s2.2.1.2.1)->((T.ok (.sl (T.p (.int .i64) (T.ns (.sl (.int .i64))))) s2.2.1.2.2)->((T.ok (.sl (.int .i64)) s2.2.2.1)->(cnd (decide (s2.1.2.2.1<(((List.length ([]:List buv)):Nat):Int))) ((0<=s2.1.2.2.1)/\((s2.1.2.2.1<(((List.length ([]:List buv)):Nat):Int))/\(bc (S:=((Unit×bu2)×(((List (ByteArray×Int))×((List Int)×(List (Int×(Option (List Int))))))×bvb))) (fun s3=>(fun next2=>((inK .i64 s3.1.2.2.2.2.1)->((T.ok (T.mp T.str (.int .i64)) s3.2.1.1)->((T.ok (.sl (.int .i64)) s3.2.1.2.1)->((T.ok (.sl (T.p (.int .i64) (T.ns (.sl (.int .i64))))) s3.2.1.2.2)->((T.ok (.sl (.int .i64)) s3.2.2.1)->((inK .i64 s3.2.2.2.1)->((inK .i64 s3.2.2.2.2.1.1)->((T.ok (.sl (.int .i64)) s3.2.2.2.2.1.2)->(cnd (decide (s3.1.2.2.2.2.1<(s.2.2.2.1.length:Int))) ((0<=s3.1.2.2.2.2.1)/\((s3.1.2.2.2.2.1<(s.2.2.2.1.length:Int))/\((0<=s3.1.2.2.2.2.1)/\((s3.1.2.2.2.2.1<(s.2.2.2.2.length:Int))/\((VisP s s3.2.2.2.2.1 (List.getD s.2.2.2.1 s3.1.2.2.2.2.1.toNat (0,[])) (List.getD s.2.2.2.2 s3.1.2.2.2.2.1.toNat (0,[])) s3.2.2.2.1 (s3.2.1.1,(s3.2.1.2.1,(o9 s3.2.1.2.2))) s3.2.2.2.2.1 s3.2.2.1)/\((inK .i64 (s3.1.2.2.2.2.1+1))/\(next2 (((),((),((),((),((s3.1.2.2.2.2.1+1),()))))),(s3.2.1,((uc s s3.2.2.2.2.1 (List.getD s.2.2.2.1 s3.1.2.2.2.2.1.toNat (0,[])) (List.getD s.2.2.2.2 s3.1.2.2.2.2.1.toNat (0,[])) s3.2.2.2.1 (s3.2.1.1,(s3.2.1.2.1,(o9 s3.2.1.2.2))) s3.2.2.2.2.1 (s3.2.2.2.2.1.2.length+1) s3.2.2.1),(s3.2.2.2.1,(s3.2.2.2.2.1,())))))))))))) ((inK .i64 (s2.1.2.2.1+1))/\(next1 (((),((),((s2.1.2.2.1+1),()))),(s3.2.1,(s3.2.2.1,())))))))))))))))) (((),((),((),((),(0,()))))),(s2.2.1,(s2.2.2.1,(s2.1.2.2.1,((List.getD ([]:List buv) s2.1.2.2.1.toNat (0,[])),())))))))) ((UfP s2.2.2.1)/\((s2.2.2.1.length<=1099511627776)/\(((List.length (cn (fa s2.2.2.1)))<=1099511627776)/\(((bj (cn (fa s2.2.2.1)) 1099511627776)=true)/\((0<=(jn (cn (fa s2.2.2.1))))/\(((jn (cn (fa s2.2.2.1)))<=(jn (cn (fa s2.2.2.1))))/\(((jn (cn (fa s2.2.2.1)))<=((140737488355328:Nat):Int))/\((((jn (cn (fa s2.2.2.1)))*((32:Nat):Int))<=((140737488355328:Nat):Int))/\((inK .i64 ((((List.length ([]:List buv)):Nat):Int)-1))/\(bc (S:=(buw×(((List (ByteArray×Int))×((List Int)×(List (Int×(Option (List Int))))))×Unit))) (fun s3=>(fun next2=>((inK .i64 s3.1.2.1)->((T.ok (T.mp T.str (.int .i64)) s3.2.1.1)->((T.ok (.sl (.int .i64)) s3.2.1.2.1)->((T.ok (.sl (T.p (.int .i64) (T.ns (.sl (.int .i64))))) s3.2.1.2.2)->(cnd (decide (0<=s3.1.2.1)) ((0<=s3.1.2.1)/\((s3.1.2.1<(s3.2.1.2.1.length:Int))/\((0<=(List.getD s3.2.1.2.1 s3.1.2.1.toNat 0))/\(((List.getD s3.2.1.2.1 s3.1.2.1.toNat 0)<(s3.2.1.2.2.length:Int))/\(((am0 (List.getD s3.2.1.2.2 (Int.toNat (List.getD s3.2.1.2.1 s3.1.2.1.toNat 0)) (0,(none:Option (List Int)))).2)=true)/\((((Option.isNone (List.getD s3.2.1.2.2 (Int.toNat (List.getD s3.2.1.2.1 s3.1.2.1.toNat 0)) (0,(none:Option (List Int)))).2)=false)->((s3.1.2.1<(((List.length ([]:List buv)):Nat):Int))/\(0<=s3.1.2.1)))/\((((Option.isNone (List.getD s3.2.1.2.2 (Int.toNat (List.getD s3.2.1.2.1 s3.1.2.1.toNat 0)) (0,(none:Option (List Int)))).2)=false)->(((List.getD s3.2.1.2.1 s3.1.2.1.toNat 0)<(s3.2.1.2.2.length:Int))/\(0<=(List.getD s3.2.1.2.1 s3.1.2.1.toNat 0))))/\((((Option.isNone (List.getD s3.2.1.2.2 (Int.toNat (List.getD s3.2.1.2.1 s3.1.2.1.toNat 0)) (0,(none:Option (List Int)))).2)=false)->(((List.length (Option.getD (List.getD s3.2.1.2.2 (Int.toNat (List.getD s3.2.1.2.1 s3.1.2.1.toNat 0)) (0,(none:Option (List Int)))).2 []))<=1000000)/\((List.length (List.getD ([]:List buv) s3.1.2.1.toNat (0,[])).2)<=1000000)))/\(jd (S:=((Unit×Unit)×(((List (ByteArray×Int))×((List Int)×(List (Int×(Option (List Int))))))×Unit))) (fun s4=>((T.ok (T.mp T.str (.int .i64)) s4.2.1.1)->((T.ok (.sl (.int .i64)) s4.2.1.2.1)->((T.ok (.sl (T.p (.int .i64) (T.ns (.sl (.int .i64))))) s4.2.1.2.2)->((inK .i64 (s3.1.2.1-1))/\(next2 (((),((s3.1.2.1-1),())),(s4.2.1,())))))))) (fun k=>(cnd ((Option.isNone (List.getD s3.2.1.2.2 (Int.toNat (List.getD s3.2.1.2.1 s3.1.2.1.toNat 0)) (0,(none:Option (List Int)))).2)||(decide ((uo (List.getD ([]:List buv) s3.1.2.1.toNat (0,[])) ((List.getD s3.2.1.2.2 (Int.toNat (List.getD s3.2.1.2.1 s3.1.2.1.toNat 0)) (0,(none:Option (List Int)))).1,(Option.getD (List.getD s3.2.1.2.2 (Int.toNat (List.getD s3.2.1.2.1 s3.1.2.1.toNat 0)) (0,(none:Option (List Int)))).2 [])))<0))) ((0<=s3.1.2.1)/\((s3.1.2.1<(((List.length ([]:List buv)):Nat):Int))/\((0<=s3.1.2.1)/\((s3.1.2.1<(((List.length ([]:List buv)):Nat):Int))/\(((List.length (List.getD ([]:List buv) s3.1.2.1.toNat (0,[])).2)<=1099511627776)/\((0<=(List.getD s3.2.1.2.1 s3.1.2.1.toNat 0))/\(((List.getD s3.2.1.2.1 s3.1.2.1.toNat 0)<(s3.2.1.2.2.length:Int))/\(k (((),()),((s3.2.1.1,(s3.2.1.2.1,(List.set s3.2.1.2.2 (Int.toNat (List.getD s3.2.1.2.1 s3.1.2.1.toNat 0)) ((List.getD ([]:List buv) s3.1.2.1.toNat (0,[])).1,(Option.some (List.getD ([]:List buv) s3.1.2.1.toNat (0,[])).2))))),())))))))))) (k (((),()),(s3.2.1,())))))))))))))) (bc (S:=(bve×(((List (ByteArray×Int))×((List Int)×(List (Int×(Option (List Int))))))×Unit))) (fun s4=>(fun next3=>((inK .i64 s4.1.2.1)->((T.ok (T.mp T.str (.int .i64)) s4.2.1.1)->((T.ok (.sl (.int .i64)) s4.2.1.2.1)->((T.ok (.sl (T.p (.int .i64) (T.ns (.sl (.int .i64))))) s4.2.1.2.2)->(cnd (decide (s4.1.2.1<(s3.2.1.2.2.length:Int))) ((0<=s4.1.2.1)/\((s4.1.2.1<(s4.2.1.2.2.length:Int))/\(cnd ((((List.length (Option.getD (List.getD s4.2.1.2.2 s4.1.2.1.toNat (0,(none:Option (List Int)))).2 [])):Nat):Int)==6) (B ((),(true,()))) ((inK .i64 (s4.1.2.1+1))/\(next3 (((),((s4.1.2.1+1),((),()))),(s4.2.1,()))))))) (A ((s4.2.1.1,(s4.2.1.2.1,(o9 s4.2.1.2.2))),(false,())))))))))) (((),(0,((),()))),(s3.2.1,())))))))))) (((),(((((List.length ([]:List buv)):Nat):Int)-1),())),((s2.2.1.1,((cn (fa s2.2.2.1)),(List.replicate (Int.toNat (jn (cn (fa s2.2.2.1)))) (0,(none:Option (List Int)))))),())))))))))))))))))))) (((),((),(0,()))),(s1.2.1,((gh (((List.length ([]:List buv)):Nat):Int)),()))))))))))))) (((),(0,())),((([]:List (ByteArray×Int)),([],([]:List (Int×(Option (List Int)))))),()))))))))))
def rk(s:ac)(K:je dn.rt->Prop):Prop:=o8 s K (fun _=>False)
theorem af5(s:ac)(hok:ab (okL dn.args (s,())))(hpre:ab (dn.pre (s,()))):rk s (fun r=>r=dn.res (s,())):=by
 simp only[dn,ti,jp,okL,T.oks,T.ok,ap,ab,a0e,a0b,a0h]at hok hpre
 try dsimp only[T.den]at hok hpre
 unfold rk o8;obtain⟨hs,hS⟩:=hpre;clear hok;obtain⟨s0,s8,f8,tf,_,_,e8,re,_⟩:=m4 hS;unfold q6 at hs;rw[a0a]at hs;obtain⟨hg,hs⟩:=hs;simp only[dn,ti,jp,pcR,lsA,ku];refine aw (fun _=>⟨hg,s0,by omega,by omega,tf,aw (fun h=>by cases h) (fun _=>?_)⟩) (fun h=>by rw[hg]at h;cases h);have H:=aei s0 (by omega) hg;have hlA:lsA s (cp s).1=lsD (ku s (cp s).1) (cp s).1 (cp s).1.length:=rfl;have hcA:ku s (cp s).1=cn (fa (jW s (gg (cp s).1 (cp s).1.length,([],[])) (cp s).1 (cp s).1.length)):=rfl;rw[hlA,hcA]at hs;clear hlA hcA;generalize (cp s).1=L at *;have hl4:=H.le;have hpl:∀i:Int,0<=i->i<L.length->(L.getD i.toNat (0,[])).2.length<=6:=fun i i0 i1=>(jm (H.ok _ (jo (i:=i.toNat) (by omega)))).2.1;refine bz (fun (q:(buw×(((List (ByteArray×Int))×((List Int)×(List (Int×(Option (List Int))))))×Unit)))=>0<=q.1.2.1/\q.1.2.1<=L.length/\q.2.1=(gg L q.1.2.1.toNat,([],[]))) (fun (q:(buw×(((List (ByteArray×Int))×((List Int)×(List (Int×(Option (List Int))))))×Unit)))=>(L.length-q.1.2.1).toNat) ?_ ⟨a0r _,by dsimp only;omega,rfl⟩;rintro⟨⟨_,i,_⟩,k,_⟩ next ⟨i0,i1,q⟩ hnx
 intros
 try dsimp only at i0 i1 q hnx⊢
 subst q
 try dsimp only
 refine al (fun hi=>?_) (fun hi=>?_)
 ·have hp:=hpl i i0 hi;refine⟨i0,hi,by omega,c7 (by have:=as9 L i.toNat;omega),by rw[aj];(try dsimp only);omega,hnx _ ⟨by dsimp only;omega,by dsimp only;omega,?_⟩ (by dsimp only;omega)⟩
  try dsimp only
  rw[show (i+1).toNat=i.toNat+1 from by omega];simp only[gg];rw[a13 i0]
 clear hnx;have e:i=L.length:=by omega
 subst e;rw[a0m];refine⟨by omega,by omega,?_⟩;have P:SetP s L (gg L L.length,([],[])):=⟨hS,H,rfl⟩;refine bz (fun (q:((Unit×buw)×(((List (ByteArray×Int))×((List Int)×(List (Int×(Option (List Int))))))×buz)))=>0<=q.1.2.2.1/\q.1.2.2.1<=L.length/\q.2.1=(gg L L.length,([],[]))/\q.2.2.1=jW s (gg L L.length,([],[])) L q.1.2.2.1.toNat) (fun (q:((Unit×buw)×(((List (ByteArray×Int))×((List Int)×(List (Int×(Option (List Int))))))×buz)))=>(L.length-q.1.2.2.1).toNat) ?_ ⟨a0r _,by dsimp only;omega,rfl,rfl⟩;rintro⟨⟨_,_,w,_⟩,k,j,_⟩ next1 ⟨w0,w1,q1,q2⟩ hn1;intros
 try dsimp only at w0 w1 q1 q2 hn1⊢
 subst q1;subst q2;have Q:=au2 P w.toNat (by omega);refine al (fun hw=>?_) (fun hw=>?_)
 ·refine⟨w0,hw,?_⟩;refine bz (fun (q:((Unit×bu2)×(((List (ByteArray×Int))×((List Int)×(List (Int×(Option (List Int))))))×bvb)))=>0<=q.1.2.2.2.2.1/\q.1.2.2.2.2.1<=s.2.2.2.1.length/\q.2.1=(gg L L.length,([],[]))/\q.2.2.1=jE s (gg L L.length,([],[])) (L.getD w.toNat (0,[])) w q.1.2.2.2.2.1.toNat (jW s (gg L L.length,([],[])) L w.toNat)/\q.2.2.2.1=w/\q.2.2.2.2.1=L.getD w.toNat (0,[])) (fun (q:((Unit×bu2)×(((List (ByteArray×Int))×((List Int)×(List (Int×(Option (List Int))))))×bvb)))=>(s.2.2.2.1.length-q.1.2.2.2.2.1).toNat) ?_ ⟨a0r _,by dsimp only;omega,rfl,rfl,rfl,rfl⟩;rintro⟨⟨_,_,_,_,e,_⟩,k,j,w',p,_⟩ next2 ⟨e0,e1,q1,q2,q3,q4⟩ hn2;intros
  try dsimp only at e0 e1 q1 q2 q3 q4 hn2⊢
  subst q1;subst q2;subst q3;subst q4;refine al (fun he=>?_) (fun he=>?_)
  ·have Qe:=bam P Q (w:=w'.toNat) (by omega) e.toNat (by omega);rw[a13 w0]at Qe;refine⟨e0,he,e0,by omega,bmi P Qe w0 hw e0 he,by rw[aj];(try dsimp only);omega,hn2 _ ⟨by dsimp only;omega,by dsimp only;omega,rfl,?_,rfl,rfl⟩ (by dsimp only;omega)⟩
   try dsimp only
   rw[show (e+1).toNat=e.toNat+1 from by omega];rfl
  ·have ee:e=s.2.2.2.1.length:=by omega
   subst ee;refine⟨by rw[aj];(try dsimp only);omega,hn1 _ ⟨by dsimp only;omega,by dsimp only;omega,rfl,?_⟩ (by dsimp only;omega)⟩
   try dsimp only
   rw[show (w'+1).toNat=w'.toNat+1 from by omega];simp only[jW];rw[a13 w0,a0m]
 clear hn1;have e:w=L.length:=by omega
 subst e;rw[a0m]at Q⊢;have C:=avb Q;have hjl:=Q.n;generalize hc:cn (fa (jW s (gg L L.length,([],[])) L L.length))=c at *;have hcn:=C.n;obtain⟨cl0,cl1⟩:=C.le;refine⟨Q.U,by omega,by omega,iv.2 fun i i0 i1=>?_,cl0,a0r _,by omega,by omega,by rw[aj];(try dsimp only);omega,?_⟩
 ·have:=C.r i i0 (by omega);exact⟨this.1,by omega⟩
 refine bz (fun (q:(buw×(((List (ByteArray×Int))×((List Int)×(List (Int×(Option (List Int))))))×Unit)))=>-1<=q.1.2.1/\q.1.2.1<=(L.length:Int)-1/\q.2.1=(gg L L.length,(c,lsD c L ((L.length:Int)-1-q.1.2.1).toNat))) (fun (q:(buw×(((List (ByteArray×Int))×((List Int)×(List (Int×(Option (List Int))))))×Unit)))=>(q.1.2.1+1).toNat) ?_ ⟨by dsimp only;omega,a0r _,by dsimp only;rw[show ((L.length:Int)-1-((L.length:Int)-1)).toNat=0 from by omega];rfl⟩;rintro⟨⟨_,i,_⟩,k,_⟩ next2 ⟨i0,i1,q⟩ hn2;intros
 try dsimp only at i0 i1 q hn2⊢
 subst q
 try dsimp only
 have P4:=ame C ((L.length:Int)-1-i).toNat (by omega);rw[show (L.length:Int)-(((L.length:Int)-1-i).toNat:Int)=i+1 from by omega]at P4;have hln:=P4.n;refine al (fun hi=>?_) (fun hi=>?_)
 ·have hi1:i<L.length:=by omega
  have hr:=C.r i hi hi1;have hT:=bb0 H C P4 hi hi1;have hs4:lsD c L ((L.length:Int)-1-(i-1)).toNat=lsS c L i.toNat (lsD c L ((L.length:Int)-1-i).toNat):=by rw[show ((L.length:Int)-1-(i-1)).toNat=((L.length:Int)-1-i).toNat+1 from by omega,lsD,show L.length-1-((L.length:Int)-1-i).toNat=i.toNat from by omega]
  have hes:(((lsD c L ((L.length:Int)-1-i).toNat).getD (c.getD i.toNat 0).toNat (0,none)).2.getD []).length<=6:=by
   generalize hq:(lsD c L ((L.length:Int)-1-i).toNat).getD (c.getD i.toNat 0).toNat (0,none)=q;obtain⟨x,o⟩:=q
   cases o with
   |none=>simp
   |some es=>obtain⟨a,_,a0,a1,_,h5⟩:=P4.v _ x es hq;have:=hpl a a0 a1;rw[h5]at this;exact this
  generalize lsD c L ((L.length:Int)-1-i).toNat=l at *;refine⟨hi,by omega,hr.1,by omega,hT,fun _=>⟨by omega,hi⟩,fun _=>⟨by omega,hr.1⟩,fun _=>⟨by omega,by have:=hpl i hi hi1;omega⟩,g7 (fun (q:((Unit×Unit)×(((List (ByteArray×Int))×((List Int)×(List (Int×(Option (List Int))))))×Unit)))=>q.2.1=(gg L L.length,(c,lsS c L i.toNat l))) ?_ ?_⟩
  ·rintro⟨_,k,_⟩ q;intros
   try dsimp only at q⊢
   subst q;exact⟨by rw[aj];(try dsimp only);omega,hn2 _ ⟨by dsimp only;omega,by dsimp only;omega,by dsimp only;rw[hs4]⟩ (by dsimp only;omega)⟩
  ·intro kk hk;refine aw (fun hb=>?_) (fun hb=>?_)
   ·refine⟨hi,hi1,hi,hi1,by have:=hpl i hi hi1;omega,hr.1,by omega,hk _ ?_⟩
    try dsimp only
    unfold lsS;rw[d0 hb]
   ·refine hk _ ?_
    try dsimp only
    unfold lsS;rw[ds (by rw[hb];decide)]
 clear hn2;have e:i=-1:=by omega
 subst e;have e:((L.length:Int)-1-(-1)).toNat=L.length:=by omega
 rw[e]at P4 hln⊢;generalize hl:lsD c L L.length=l at *;refine bz (fun (q:(bve×(((List (ByteArray×Int))×((List Int)×(List (Int×(Option (List Int))))))×Unit)))=>0<=q.1.2.1/\q.1.2.1<=l.length/\q.2.1=(gg L L.length,(c,l))/\∀b:Int,0<=b->b<q.1.2.1->((l.getD b.toNat (0,none)).2.getD []).length≠6) (fun (q:(bve×(((List (ByteArray×Int))×((List Int)×(List (Int×(Option (List Int))))))×Unit)))=>(l.length-q.1.2.1).toNat) ?_ ⟨a0r _,by dsimp only;omega,rfl,fun b b0 b1=>by dsimp only at b1;omega⟩;rintro⟨⟨_,a,_⟩,k,_⟩ next3 ⟨a0,a1,q,hno⟩ hn3;intros
 try dsimp only at a0 a1 q hno hn3⊢
 subst q
 try dsimp only
 refine al (fun ha=>?_) (fun ha=>?_)
 ·refine⟨a0,ha,aw (fun h6=>?_) (fun h6=>?_)⟩
  ·have h6:=a1y h6;have h6:((l.getD a.toNat (0,none)).2.getD []).length=6:=by omega
   exact absurd h6 (bd9.1 hs a a0 ha)
  ·have h6:=a2b.1 h6;refine⟨by rw[aj];(try dsimp only);omega,hn3 _ ⟨by dsimp only;omega,by dsimp only;omega,rfl,fun b b0 b1=>?_⟩ (by dsimp only;omega)⟩
   try dsimp only at b1
   by_cases e:b=a
   ·subst e;omega
   ·exact hno b b0 (by omega)
 ·have ea:a=l.length:=by omega
  subst ea;subst hl;rfl
theorem ad3:bn Tryz.prog 92 dn:=ctb (af aaw (af adq (af aae (af y8 (af sj (af xf (af aid (af za (af qp ao))))))))) bcd 92 Tryz.f92 dn wg [(17,17),(1,1500),(20,280002),(21,507),(8,10),(26,21),(27,517)] (by kernel_rfl) rfl (fun x K=>rk x.1 K) (fun _ _=>by kernel_rfl) (fun x h1 h2=>af5 x.1 h1 h2)
def rx(s:ac)(K:je eg.rt->Prop):Prop:=o8 s (fun _=>False) K
theorem afl(s:ac)(hok:ab (okL eg.args (s,())))(hpre:ab (eg.pre (s,()))):rx s (fun r=>r=eg.res (s,())):=by
 simp only[eg,ti,jp,okL,T.oks,T.ok,ap,ab,a0e,a0b,a0h]at hok hpre
 try dsimp only[T.den]at hok hpre
 unfold rx o8;obtain⟨hs,hS⟩:=hpre;clear hok;obtain⟨s0,s8,f8,tf,_,_,e8,re,_⟩:=m4 hS;unfold q6 at hs;refine aw (fun hg=>⟨hg,s0,by omega,by omega,tf,aw (fun h=>by cases h) (fun _=>?_)⟩) (fun hg=>⟨hg,s0,by omega,by omega,tf,aw (fun _=>rfl) (fun h=>by cases h)⟩);rw[hg,a1u]at hs;have H:=aei s0 (by omega) hg;have hlA:lsA s (cp s).1=lsD (ku s (cp s).1) (cp s).1 (cp s).1.length:=rfl;have hcA:ku s (cp s).1=cn (fa (jW s (gg (cp s).1 (cp s).1.length,([],[])) (cp s).1 (cp s).1.length)):=rfl;rw[hlA,hcA]at hs;clear hlA hcA;generalize (cp s).1=L at *;have hl4:=H.le;have hpl:∀i:Int,0<=i->i<L.length->(L.getD i.toNat (0,[])).2.length<=6:=fun i i0 i1=>(jm (H.ok _ (jo (i:=i.toNat) (by omega)))).2.1;refine bz (fun (q:(buw×(((List (ByteArray×Int))×((List Int)×(List (Int×(Option (List Int))))))×Unit)))=>0<=q.1.2.1/\q.1.2.1<=L.length/\q.2.1=(gg L q.1.2.1.toNat,([],[]))) (fun (q:(buw×(((List (ByteArray×Int))×((List Int)×(List (Int×(Option (List Int))))))×Unit)))=>(L.length-q.1.2.1).toNat) ?_ ⟨a0r _,by dsimp only;omega,rfl⟩;rintro⟨⟨_,i,_⟩,k,_⟩ next ⟨i0,i1,q⟩ hnx
 intros
 try dsimp only at i0 i1 q hnx⊢
 subst q
 try dsimp only
 refine al (fun hi=>?_) (fun hi=>?_)
 ·have hp:=hpl i i0 hi;refine⟨i0,hi,by omega,c7 (by have:=as9 L i.toNat;omega),by rw[aj];(try dsimp only);omega,hnx _ ⟨by dsimp only;omega,by dsimp only;omega,?_⟩ (by dsimp only;omega)⟩
  try dsimp only
  rw[show (i+1).toNat=i.toNat+1 from by omega];simp only[gg];rw[a13 i0]
 clear hnx;have e:i=L.length:=by omega
 subst e;rw[a0m];refine⟨by omega,by omega,?_⟩;have P:SetP s L (gg L L.length,([],[])):=⟨hS,H,rfl⟩;refine bz (fun (q:((Unit×buw)×(((List (ByteArray×Int))×((List Int)×(List (Int×(Option (List Int))))))×buz)))=>0<=q.1.2.2.1/\q.1.2.2.1<=L.length/\q.2.1=(gg L L.length,([],[]))/\q.2.2.1=jW s (gg L L.length,([],[])) L q.1.2.2.1.toNat) (fun (q:((Unit×buw)×(((List (ByteArray×Int))×((List Int)×(List (Int×(Option (List Int))))))×buz)))=>(L.length-q.1.2.2.1).toNat) ?_ ⟨a0r _,by dsimp only;omega,rfl,rfl⟩;rintro⟨⟨_,_,w,_⟩,k,j,_⟩ next1 ⟨w0,w1,q1,q2⟩ hn1;intros
 try dsimp only at w0 w1 q1 q2 hn1⊢
 subst q1;subst q2;have Q:=au2 P w.toNat (by omega);refine al (fun hw=>?_) (fun hw=>?_)
 ·refine⟨w0,hw,?_⟩;refine bz (fun (q:((Unit×bu2)×(((List (ByteArray×Int))×((List Int)×(List (Int×(Option (List Int))))))×bvb)))=>0<=q.1.2.2.2.2.1/\q.1.2.2.2.2.1<=s.2.2.2.1.length/\q.2.1=(gg L L.length,([],[]))/\q.2.2.1=jE s (gg L L.length,([],[])) (L.getD w.toNat (0,[])) w q.1.2.2.2.2.1.toNat (jW s (gg L L.length,([],[])) L w.toNat)/\q.2.2.2.1=w/\q.2.2.2.2.1=L.getD w.toNat (0,[])) (fun (q:((Unit×bu2)×(((List (ByteArray×Int))×((List Int)×(List (Int×(Option (List Int))))))×bvb)))=>(s.2.2.2.1.length-q.1.2.2.2.2.1).toNat) ?_ ⟨a0r _,by dsimp only;omega,rfl,rfl,rfl,rfl⟩;rintro⟨⟨_,_,_,_,e,_⟩,k,j,w',p,_⟩ next2 ⟨e0,e1,q1,q2,q3,q4⟩ hn2;intros
  try dsimp only at e0 e1 q1 q2 q3 q4 hn2⊢
  subst q1;subst q2;subst q3;subst q4;refine al (fun he=>?_) (fun he=>?_)
  ·have Qe:=bam P Q (w:=w'.toNat) (by omega) e.toNat (by omega);rw[a13 w0]at Qe;refine⟨e0,he,e0,by omega,bmi P Qe w0 hw e0 he,by rw[aj];(try dsimp only);omega,hn2 _ ⟨by dsimp only;omega,by dsimp only;omega,rfl,?_,rfl,rfl⟩ (by dsimp only;omega)⟩
   try dsimp only
   rw[show (e+1).toNat=e.toNat+1 from by omega];rfl
  ·have ee:e=s.2.2.2.1.length:=by omega
   subst ee;refine⟨by rw[aj];(try dsimp only);omega,hn1 _ ⟨by dsimp only;omega,by dsimp only;omega,rfl,?_⟩ (by dsimp only;omega)⟩
   try dsimp only
   rw[show (w'+1).toNat=w'.toNat+1 from by omega];simp only[jW];rw[a13 w0,a0m]
 clear hn1;have e:w=L.length:=by omega
 subst e;rw[a0m]at Q⊢;have C:=avb Q;have hjl:=Q.n;generalize hc:cn (fa (jW s (gg L L.length,([],[])) L L.length))=c at *;have hcn:=C.n;obtain⟨cl0,cl1⟩:=C.le;refine⟨Q.U,by omega,by omega,iv.2 fun i i0 i1=>?_,cl0,a0r _,by omega,by omega,by rw[aj];(try dsimp only);omega,?_⟩
 ·have:=C.r i i0 (by omega);exact⟨this.1,by omega⟩
 refine bz (fun (q:(buw×(((List (ByteArray×Int))×((List Int)×(List (Int×(Option (List Int))))))×Unit)))=>-1<=q.1.2.1/\q.1.2.1<=(L.length:Int)-1/\q.2.1=(gg L L.length,(c,lsD c L ((L.length:Int)-1-q.1.2.1).toNat))) (fun (q:(buw×(((List (ByteArray×Int))×((List Int)×(List (Int×(Option (List Int))))))×Unit)))=>(q.1.2.1+1).toNat) ?_ ⟨by dsimp only;omega,a0r _,by dsimp only;rw[show ((L.length:Int)-1-((L.length:Int)-1)).toNat=0 from by omega];rfl⟩;rintro⟨⟨_,i,_⟩,k,_⟩ next2 ⟨i0,i1,q⟩ hn2;intros
 try dsimp only at i0 i1 q hn2⊢
 subst q
 try dsimp only
 have P4:=ame C ((L.length:Int)-1-i).toNat (by omega);rw[show (L.length:Int)-(((L.length:Int)-1-i).toNat:Int)=i+1 from by omega]at P4;have hln:=P4.n;refine al (fun hi=>?_) (fun hi=>?_)
 ·have hi1:i<L.length:=by omega
  have hr:=C.r i hi hi1;have hT:=bb0 H C P4 hi hi1;have hs4:lsD c L ((L.length:Int)-1-(i-1)).toNat=lsS c L i.toNat (lsD c L ((L.length:Int)-1-i).toNat):=by rw[show ((L.length:Int)-1-(i-1)).toNat=((L.length:Int)-1-i).toNat+1 from by omega,lsD,show L.length-1-((L.length:Int)-1-i).toNat=i.toNat from by omega]
  have hes:(((lsD c L ((L.length:Int)-1-i).toNat).getD (c.getD i.toNat 0).toNat (0,none)).2.getD []).length<=6:=by
   generalize hq:(lsD c L ((L.length:Int)-1-i).toNat).getD (c.getD i.toNat 0).toNat (0,none)=q;obtain⟨x,o⟩:=q
   cases o with
   |none=>simp
   |some es=>obtain⟨a,_,a0,a1,_,h5⟩:=P4.v _ x es hq;have:=hpl a a0 a1;rw[h5]at this;exact this
  generalize lsD c L ((L.length:Int)-1-i).toNat=l at *;refine⟨hi,by omega,hr.1,by omega,hT,fun _=>⟨by omega,hi⟩,fun _=>⟨by omega,hr.1⟩,fun _=>⟨by omega,by have:=hpl i hi hi1;omega⟩,g7 (fun (q:((Unit×Unit)×(((List (ByteArray×Int))×((List Int)×(List (Int×(Option (List Int))))))×Unit)))=>q.2.1=(gg L L.length,(c,lsS c L i.toNat l))) ?_ ?_⟩
  ·rintro⟨_,k,_⟩ q;intros
   try dsimp only at q⊢
   subst q;exact⟨by rw[aj];(try dsimp only);omega,hn2 _ ⟨by dsimp only;omega,by dsimp only;omega,by dsimp only;rw[hs4]⟩ (by dsimp only;omega)⟩
  ·intro kk hk;refine aw (fun hb=>?_) (fun hb=>?_)
   ·refine⟨hi,hi1,hi,hi1,by have:=hpl i hi hi1;omega,hr.1,by omega,hk _ ?_⟩
    try dsimp only
    unfold lsS;rw[d0 hb]
   ·refine hk _ ?_
    try dsimp only
    unfold lsS;rw[ds (by rw[hb];decide)]
 clear hn2;have e:i=-1:=by omega
 subst e;have e:((L.length:Int)-1-(-1)).toNat=L.length:=by omega
 rw[e]at P4 hln⊢;generalize hl:lsD c L L.length=l at *;refine bz (fun (q:(bve×(((List (ByteArray×Int))×((List Int)×(List (Int×(Option (List Int))))))×Unit)))=>0<=q.1.2.1/\q.1.2.1<=l.length/\q.2.1=(gg L L.length,(c,l))/\∀b:Int,0<=b->b<q.1.2.1->((l.getD b.toNat (0,none)).2.getD []).length≠6) (fun (q:(bve×(((List (ByteArray×Int))×((List Int)×(List (Int×(Option (List Int))))))×Unit)))=>(l.length-q.1.2.1).toNat) ?_ ⟨a0r _,by dsimp only;omega,rfl,fun b b0 b1=>by dsimp only at b1;omega⟩;rintro⟨⟨_,a,_⟩,k,_⟩ next3 ⟨a0,a1,q,hno⟩ hn3;intros
 try dsimp only at a0 a1 q hno hn3⊢
 subst q
 try dsimp only
 refine al (fun ha=>?_) (fun ha=>?_)
 ·refine⟨a0,ha,aw (fun h6=>?_) (fun h6=>?_)⟩
  ·have h6:=a1y h6;have h6:((l.getD a.toNat (0,none)).2.getD []).length=6:=by omega
   rfl
  ·have h6:=a2b.1 h6;refine⟨by rw[aj];(try dsimp only);omega,hn3 _ ⟨by dsimp only;omega,by dsimp only;omega,rfl,fun b b0 b1=>?_⟩ (by dsimp only;omega)⟩
   try dsimp only at b1
   by_cases e:b=a
   ·subst e;omega
   ·exact hno b b0 (by omega)
 ·have ea:a=l.length:=by omega
  subst ea;have:=bd9.2 hno;rw[this]at hs;cases hs
theorem aew:bn Tryz.prog 92 eg:=ctb (af aaw (af adq (af aae (af y8 (af sj (af xf (af aid (af za (af qp ao))))))))) bcd 92 Tryz.f92 eg wg [(17,17),(1,1500),(20,280002),(21,507),(8,10),(26,21),(27,517)] (by kernel_rfl) rfl (fun x K=>rx x.1 K) (fun _ _=>by kernel_rfl) (fun x h1 h2=>afl x.1 h1 h2)
theorem xy:bn Tryz.prog 92 yy:=ba6 ad3 aew
def zh(k:ak)(s:ac)(a b:Int):Int:=if gf [(k.2.2.getD a.toNat (0,[])).1,(bm s (k.2.2.getD a.toNat (0,[]))).1] [(k.2.2.getD b.toNat (0,[])).1,(bm s (k.2.2.getD b.toNat (0,[]))).1]≠0 then gf [(k.2.2.getD a.toNat (0,[])).1,(bm s (k.2.2.getD a.toNat (0,[]))).1] [(k.2.2.getD b.toNat (0,[])).1,(bm s (k.2.2.getD b.toNat (0,[]))).1]else uo (k.2.2.getD a.toNat (0,[])) (k.2.2.getD b.toNat (0,[]))
def fd:Ct:=⟨[(.int .i64),(.int .i64),(.pt (.pt nz)),(.pt (.pt SchemaT))],[false,false,false,false],fun x=>[0<=x.1,x.1<x.2.2.1.2.2.length,0<=x.2.1,x.2.1<x.2.2.1.2.2.length,x.2.2.2.1.2.1.length<=x.2.2.2.1.2.2.1.length,inK .i64 (x.2.2.2.1.1-1),PthsR x.2.2.1.2.2],[(false,(.fz (.int .i64)))],fun x=>(zh x.2.2.1 x.2.2.2.1 x.1 x.2.1,()),false,none⟩
def beg:FuncId->Option Ct:=lkp [(74,g6),(106,jk),(118,ir)]
def wj(a:Int)(b:Int)(k:ak)(s:ac)(K:Int×Unit->Prop):Prop:=((0<=a)/\((a<(k.2.2.length:Int))/\((0<=b)/\((b<(k.2.2.length:Int))/\((s.2.1.length<=s.2.2.1.length)/\((inK .i64 (s.1-1))/\((s.2.1.length<=s.2.2.1.length)/\((inK .i64 (s.1-1))/\(cnd ((gf ((k.2.2.getD a.toNat (0,[])).1::((bm s (k.2.2.getD a.toNat (0,[]))).1::[])) ((k.2.2.getD b.toNat (0,[])).1::((bm s (k.2.2.getD b.toNat (0,[]))).1::[]))) != 0) (K ((gf ((k.2.2.getD a.toNat (0,[])).1::((bm s (k.2.2.getD a.toNat (0,[]))).1::[])) ((k.2.2.getD b.toNat (0,[])).1::((bm s (k.2.2.getD b.toNat (0,[]))).1::[]))),())) (((List.length (k.2.2.getD a.toNat (0,[])).2)<=1000000)/\(((List.length (k.2.2.getD b.toNat (0,[])).2)<=1000000)/\(K ((uo (k.2.2.getD a.toNat (0,[])) (k.2.2.getD b.toNat (0,[]))),())))))))))))))
theorem alr(a:Int)(b:Int)(k:ak)(s:ac)(hok:ab (okL fd.args (a,b,k,s,())))(hpre:ab (fd.pre (a,b,k,s,()))):wj a b k s (fun r=>r=fd.res (a,b,k,s,())):=by
 simp only[fd,okL,T.oks,T.ok,ap,ab,a0e,a0b,a0h]at hok hpre
 try dsimp only[T.den]at hok hpre
 unfold wj;obtain⟨a0,a1,b0,b1,h1,h2,hP⟩:=hpre;have ea:=hP.e _ (fb k.2.2 (0,[]) a0 a1);have eb:=hP.e _ (fb k.2.2 (0,[]) b0 b1);simp only[fd,zh];refine⟨a0,a1,b0,b1,h1,h2,h1,h2,aw (fun h=>?_) (fun h=>?_)⟩
 ·rw[a3y]at h;rw[d0 h]
 ·have h:=a1a.1 h;rw[ds (fun hh=>hh h)];exact⟨ea,eb,rfl⟩
theorem abn:bn Tryz.prog 121 fd:=ctb (af ot (af acs (af xf ao))) ba 121 Tryz.f121 fd .n [(1,2016)] (by kernel_rfl) rfl (fun x K=>wj x.1 x.2.1 x.2.2.1 x.2.2.2.1 K) (fun _ _=>by kernel_rfl) (fun x h1 h2=>alr x.1 x.2.1 x.2.2.1 x.2.2.2.1 h1 h2)
structure OrdP (k:ak) (s:ac) (x:List Int):Prop where
 h1:s.2.1.length<=s.2.2.1.length
 h2:inK .i64 (s.1-1)
 hP:PthsR k.2.2
 e:∀a∈x,0<=a/\a<k.2.2.length
def pq(k:ak)(s:ac)(x:List Int):List Int:=afh (zh k s) x
def aa8:Wt:=⟨(.sl (.fz (.int .i64))),[(.fn 121 (.p (.pt (.pt nz)) (.p (.pt (.pt SchemaT)) .u)))],[false],fun x y=>[OrdP y.1.1 y.1.2.1 x],fun x y=>pq y.1.1 y.1.2.1 x,[],fun x y=>(())⟩
def tu:Ct:=ax3 aa8
def azm:Go.Shelf.Ren:=⟨fun|6=>120|15=>132|14=>131|28=>141|29=>142|20=>133|21=>134|22=>135|23=>136|24=>137|25=>138|26=>139|27=>140|46=>143|47=>144|48=>145|49=>146|50=>147|57=>148|n=>n,fun|22=>22|24=>2|25=>168|3=>3|39=>189|0=>0|53=>201|55=>203|4=>4|46=>194|45=>193|50=>198|5=>5|9=>9|66=>204|70=>208|76=>210|77=>211|n=>n,fun|n=>n⟩
theorem bt9:Go.Proofs.SlLaysF.n6 Tryz.prog azm:={
 mixed:=by kernel_rfl
 f6:=⟨Tryz.f120.name,by decide,Tryz.func120.trans (congrArg some (by kernel_rfl))⟩
 f14:=⟨Tryz.f131.name,by decide,Tryz.func131.trans (congrArg some (by kernel_rfl))⟩
 f15:=Tryz.func132.trans (congrArg some (by kernel_rfl))
 f20:=⟨Tryz.f133.name,by decide,Tryz.func133.trans (congrArg some (by kernel_rfl))⟩
 f21:=⟨Tryz.f134.name,by decide,Tryz.func134.trans (congrArg some (by kernel_rfl))⟩
 f22:=⟨Tryz.f135.name,by decide,Tryz.func135.trans (congrArg some (by kernel_rfl))⟩
 f23:=⟨Tryz.f136.name,by decide,Tryz.func136.trans (congrArg some (by kernel_rfl))⟩
 f24:=⟨Tryz.f137.name,by decide,Tryz.func137.trans (congrArg some (by kernel_rfl))⟩
 f25:=⟨Tryz.f138.name,by decide,Tryz.func138.trans (congrArg some (by kernel_rfl))⟩
 f26:=⟨Tryz.f139.name,by decide,Tryz.func139.trans (congrArg some (by kernel_rfl))⟩
 f27:=⟨Tryz.f140.name,by decide,Tryz.func140.trans (congrArg some (by kernel_rfl))⟩
 f28:=Tryz.func141.trans (congrArg some (by kernel_rfl))
 f29:=Tryz.func142.trans (congrArg some (by kernel_rfl))
 f46:=⟨Tryz.f143.name,by decide,Tryz.func143.trans (congrArg some (by kernel_rfl))⟩
 f47:=Tryz.func144.trans (congrArg some (by kernel_rfl))
 f48:=Tryz.func145.trans (congrArg some (by kernel_rfl))
 f49:=⟨Tryz.f146.name,by decide,Tryz.func146.trans (congrArg some (by kernel_rfl))⟩
 f50:=⟨Tryz.f147.name,by decide,Tryz.func147.trans (congrArg some (by kernel_rfl))⟩
 f57:=⟨Tryz.f148.name,by decide,Tryz.func148.trans (congrArg some (by kernel_rfl))⟩
 t0:=Tryz.underlying0
 a0:=Tryz.isAgg0
 z0:=Tryz.sizeOf0
 v0:=Tryz.zeroValue0
 t3:=Tryz.underlying3
 a3:=Tryz.isAgg3
 z3:=Tryz.sizeOf3
 v3:=Tryz.zeroValue3
 t4:=Tryz.underlying4
 a4:=Tryz.isAgg4
 z4:=Tryz.sizeOf4
 v4:=Tryz.zeroValue4
 t5:=Tryz.underlying5
 a5:=Tryz.isAgg5
 z5:=Tryz.sizeOf5
 v5:=Tryz.zeroValue5
 t9:=Tryz.underlying9
 a9:=Tryz.isAgg9
 z9:=Tryz.sizeOf9
 v9:=Tryz.zeroValue9
 t22:=Tryz.underlying22
 a22:=Tryz.isAgg22
 z22:=Tryz.sizeOf22
 v22:=Tryz.zeroValue22
 a24:=Tryz.isAgg2
 z24:=Tryz.sizeOf2
 t25:=Tryz.underlying168
 a25:=Tryz.isAgg168
 z25:=Tryz.sizeOf168
 v25:=Tryz.zeroValue168
 t39:=Tryz.underlying189
 a39:=Tryz.isAgg189
 z39:=Tryz.sizeOf189
 v39:=Tryz.zeroValue189
 t45:=Tryz.underlying193
 a45:=Tryz.isAgg193
 z45:=Tryz.sizeOf193
 v45:=Tryz.zeroValue193
 t46:=Tryz.underlying194
 a46:=Tryz.isAgg194
 z46:=Tryz.sizeOf194
 v46:=Tryz.zeroValue194
 t50:=Tryz.underlying198
 a50:=Tryz.isAgg198
 z50:=Tryz.sizeOf198
 v50:=Tryz.zeroValue198
 t53:=Tryz.underlying201
 a53:=Tryz.isAgg201
 z53:=Tryz.sizeOf201
 v53:=Tryz.zeroValue201
 t55:=Tryz.underlying203
 a55:=Tryz.isAgg203
 z55:=Tryz.sizeOf203
 v55:=Tryz.zeroValue203
 t66:=Tryz.underlying204
 a66:=Tryz.isAgg204
 z66:=Tryz.sizeOf204
 v66:=Tryz.zeroValue204
 t70:=Tryz.underlying208
 a70:=Tryz.isAgg208
 z70:=Tryz.sizeOf208
 v70:=Tryz.zeroValue208
 t76:=Tryz.underlying210
 a76:=Tryz.isAgg210
 z76:=Tryz.sizeOf210
 v76:=Tryz.zeroValue210
 t77:=Tryz.underlying211
 a77:=Tryz.isAgg211
 z77:=Tryz.sizeOf211
 v77:=Tryz.zeroValue211 }
theorem as2:∀a b:List Int,gf b a=- gf a b
 |[],[]=>rfl
 |[],_::_=>rfl
 |_::_,[]=>rfl
 |x::a,y::b=>by
  have ih:=as2 a b;simp only[gf];by_cases h:x=y
  ·rw[d0 h,d0 h.symm];exact ih
  ·rw[ds h,ds (a0w h)];by_cases h2:x<y
   ·rw[d0 h2,ds (by omega)];rfl
   ·rw[ds h2,d0 (by omega)]
theorem aqb:∀a b c:List Int,gf a b<0->gf b c<0->gf a c<0
 |[],[],_,h,_=>by simp[gf]at h
 |[],_::_,[],_,h=>by simp[gf]at h
 |[],_::_,_::_,_,_=>by simp[gf]
 |_::_,[],_,h,_=>by simp[gf]at h
 |_::_,_::_,[],_,h=>by simp[gf]at h
 |x::a,y::b,z::c,h,g=>by
  have ih:=aqb a b c;simp only[gf]at h g⊢;by_cases h1:x=y
  ·by_cases h2:y=z
   ·rw[d0 h1]at h;rw[d0 h2]at g;rw[d0 (h1.trans h2)];exact ih h g
   ·rw[ds h2]at g;rw[h1,ds h2];exact g
  ·rw[ds h1]at h;have hxy:x<y:=by by_cases h3:x<y;exact h3;rw[ds h3]at h;omega
   by_cases h2:y=z
   ·rw[←h2,ds h1,d0 hxy];omega
   ·rw[ds h2]at g;have hyz:y<z:=by by_cases h3:y<z;exact h3;rw[ds h3]at g;omega
    rw[ds (by omega),d0 (by omega)];omega
theorem cmp2{x e y f:Int}:gf [x,e] [y,f]=if x=y then (if e=f then 0 else if e<f then -1 else 1)else if x<y then -1 else 1:=by simp only[gf]
def ayg(k:ak)(s:ac)(a b:Int):Prop:=(k.2.2.getD a.toNat (0,[])).1<(k.2.2.getD b.toNat (0,[])).1\/((k.2.2.getD a.toNat (0,[])).1=(k.2.2.getD b.toNat (0,[])).1/\((bm s (k.2.2.getD a.toNat (0,[]))).1<(bm s (k.2.2.getD b.toNat (0,[]))).1\/((bm s (k.2.2.getD a.toNat (0,[]))).1=(bm s (k.2.2.getD b.toNat (0,[]))).1/\((k.2.2.getD a.toNat (0,[])).2.length<(k.2.2.getD b.toNat (0,[])).2.length\/((k.2.2.getD a.toNat (0,[])).2.length=(k.2.2.getD b.toNat (0,[])).2.length/\gf (k.2.2.getD a.toNat (0,[])).2 (k.2.2.getD b.toNat (0,[])).2<0)))))
theorem bi2{k:ak}{s:ac}{a b:Int}:zh k s a b<0<->ayg k s a b:=by
 unfold zh ayg uo;rw[cmp2];generalize k.2.2.getD a.toNat (0,[])=p;generalize k.2.2.getD b.toNat (0,[])=q;generalize (bm s p).1=e;generalize (bm s q).1=f;by_cases h1:p.1=q.1
 ·rw[d0 h1];by_cases h2:e=f
  ·rw[d0 h2,ds (by simp)];split <;> omega
  ·rw[ds h2];by_cases h3:e<f
   ·rw[d0 h3,d0 (by decide)];omega
   ·rw[ds h3,d0 (by decide)];omega
 ·rw[ds h1];by_cases h3:p.1<q.1
  ·rw[d0 h3,d0 (by decide)];omega
  ·rw[ds h3,d0 (by decide)];omega
theorem bt7{k:ak}{s:ac}(a:Int):¬zh k s a a<0:=by rw[bi2];unfold ayg;rw[aky.2 rfl];omega
theorem o_tr{k:ak}{s:ac}{a b c:Int}(h:zh k s a b<0)(g:zh k s b c<0):zh k s a c<0:=by rw[bi2]at h g⊢;unfold ayg at h g⊢;have:=aqb (k.2.2.getD a.toNat (0,[])).2 (k.2.2.getD b.toNat (0,[])).2 (k.2.2.getD c.toNat (0,[])).2;omega
theorem btx{k:ak}{s:ac}{a b:Int}(h:¬zh k s a b<0)(g:¬zh k s b a<0):k.2.2.getD a.toNat (0,[])=k.2.2.getD b.toNat (0,[]):=by
 rw[bi2]at h g;unfold ayg at h g;have h1:=as2 (k.2.2.getD a.toNat (0,[])).2 (k.2.2.getD b.toNat (0,[])).2;have h2:gf (k.2.2.getD a.toNat (0,[])).2 (k.2.2.getD b.toNat (0,[])).2=0:=by omega
 have h3:=aky.1 h2;exact a2w (by omega) h3
theorem btc{k:ak}{s:ac}{a b c:Int}(e:k.2.2.getD a.toNat (0,[])=k.2.2.getD b.toNat (0,[])):zh k s a c=zh k s b c:=by unfold zh;rw[e]
theorem bhq(k:ak)(s:ac)(x:List Int):SwoR (zh k s) x:={
 irrefl:=fun a _=>bt7 a
 trans:=fun a _ b _ c _ h g=>o_tr h g
 ntrans:=fun a _ b _ c _ h g hh=>by
  by_cases h1:zh k s b a<0
  ·exact g (o_tr h1 hh)
  ·rw[btc (btx h h1)]at hh;exact g hh }
theorem bha(k:ak)(s:ac)(x:List Int):(pq k s x).Perm x:=bl6 (bhq k s x)
theorem bc2(k:ak)(s:ac)(x:List Int):(pq k s x).Pairwise fun a b=>¬zh k s b a<0:=bek (bhq k s x)
theorem aa1:bn Tryz.prog 120 tu:=by have h:=bnk (P:=Tryz.prog) (ρ:=azm) bt9 (.fz (.int .i64)) rfl (tq (fn:=Tryz.f120) (c:=qg Tryz.f120) (by kernel_rfl) (by kernel_rfl) (by kernel_rfl)) (g:=121) (cs:=[.pt (.pt nz),.pt (.pt SchemaT)]) (pre:=fd.pre) (res:=fd.res) (fun c hc=>by simp only[a0s,a4c,or_false]at hc;rcases hc with rfl|rfl <;> rfl) abn;refine⟨h.1,fun A w u x us y S z a b c d e=>h.2 A w u x us y S z a b c d ?_⟩;have e:OrdP y.1.1 y.1.2.1 x:=e.1;exact⟨fun p hp q hq=>⟨(e.e p hp).1,(e.e p hp).2,(e.e q hq).1,(e.e q hq).2,e.h1,e.h2,e.hP,trivial⟩,bhq _ _ x,trivial⟩
def ly:Ct:=⟨[(.pt SchemaT),(.pt nz)],[false,false],fun x=>[x.2.1.2.2.length<=1000000,OrdP x.2.1 x.1 (gh x.2.1.2.2.length)],[(false,(.sl (.fz (.int .i64))))],fun x=>(pq x.2.1 x.1 (gh x.2.1.2.2.length),()),false,none⟩
def bh7:FuncId->Option Ct:=lkp [(119,o7),(120,tu),(121,fd)]
def yi(s:ac)(k:ak)(K:(List Int)×Unit->Prop):Prop:=((0<=(k.2.2.length:Int))/\(((k.2.2.length:Int)<=1099511627776)/\((OrdP k s (gh (k.2.2.length:Int)))/\(K ((pq k s (gh (k.2.2.length:Int))),())))))
theorem an1(s:ac)(k:ak)(hok:ab (okL ly.args (s,k,())))(hpre:ab (ly.pre (s,k,()))):yi s k (fun r=>r=ly.res (s,k,())):=by
 simp only[ly,okL,T.oks,T.ok,ap,ab,a0e,a0b,a0h]at hok hpre
 try dsimp only[T.den]at hok hpre
 unfold yi;obtain⟨h1,h2⟩:=hpre;refine⟨by omega,by omega,h2,rfl⟩
theorem acv:bn Tryz.prog 93 ly:=ctb (af ajt (af aa1 (af abn ao))) ba 93 Tryz.f93 ly .n [] (by kernel_rfl) rfl (fun x K=>yi x.1 x.2.1 K) (fun _ _=>by kernel_rfl) (fun x h1 h2=>an1 x.1 x.2.1 h1 h2)
def ofR(k:ak)(x:Int)(es:List Int):Int:=k.2.1.getD (df k x es).toNat 0
def aul(k:ak)(p:ae)(e:Int):ae:=k.2.2.getD (ofR k p.1 (p.2++[e])).toNat (0,[])
def w7(k:ak)(l:List ae)(f:Int)(es:List Int):ae:=es.foldl (aul k) (l.getD f.toNat (0,[]))
def zd(k:ak)(number:List Int)(l:List ae)(f g:Int):Int:=number.getD (ofR k (w7 k l f (l.getD g.toNat (0,[])).2).1 (w7 k l f (l.getD g.toNat (0,[])).2).2).toNat 0
structure OfP (k:ak) (x:Int) (es:List Int) (n:Int):Prop where
 le:es.length<=1000000
 a0:0<=df k x es
 a1:df k x es<k.2.1.length
 o0:0<=ofR k x es
 o1:ofR k x es<n
structure PrvP (k:ak) (number:List Int) (l:List ae) (f g:Int):Prop where
 f0:0<=f
 f1:f<l.length
 g0:0<=g
 g1:g<l.length
 lg:(l.getD g.toNat (0,[])).2.length<=1000000
 st:∀i:Int,0<=i->i<(l.getD g.toNat (0,[])).2.length->OfP k (w7 k l f ((l.getD g.toNat (0,[])).2.take i.toNat)).1 ((w7 k l f ((l.getD g.toNat (0,[])).2.take i.toNat)).2++[(l.getD g.toNat (0,[])).2.getD i.toNat 0]) k.2.2.length
 en:OfP k (w7 k l f (l.getD g.toNat (0,[])).2).1 (w7 k l f (l.getD g.toNat (0,[])).2).2 number.length
def fg:Ct:=⟨[(.int .i64),(.int .i64),(.pt (.pt g8)),(.pt (.pt nz)),(.pt (.sl (.int .i64)))],[false,false,false,false,false],fun x=>[PrvP x.2.2.2.1 x.2.2.2.2.1 x.2.2.1.2.2.2 x.1 x.2.1],[(false,(.fz (.int .i64)))],fun x=>(zd x.2.2.2.1 x.2.2.2.2.1 x.2.2.1.2.2.2 x.1 x.2.1,()),false,none⟩
def ah5:Ann:=(.s .n (.s .n (.s (.s .n (.l [(8,(.ad 8 [.de])),(27,(.d (.int .i64)))] [(8,(.pt (.fz (.p (.int .i64) (.sl (.int .i64))))))] [3,4,25,26] .n)) .n)))
def bb5:FuncId->Option Ct:=lkp [(95,iy),(77,n7)]
def uq(f:Int)(g:Int)(out:T.den g8)(k:ak)(number:List Int)(K:Int×Unit->Prop):Prop:=((0<=f)/\((f<(out.2.2.2.length:Int))/\((0<=g)/\((g<(out.2.2.2.length:Int))/\(bc (S:=(buw×(buv×Unit))) (fun s=>(fun next=>((inK .i64 s.1.2.1)->((inK .i64 s.2.1.1)->((T.ok (.sl (.int .i64)) s.2.1.2)->(cnd (decide (s.1.2.1<(((List.length (out.2.2.2.getD g.toNat (0,[])).2):Nat):Int))) ((0<=s.1.2.1)/\((s.1.2.1<(((List.length (out.2.2.2.getD g.toNat (0,[])).2):Nat):Int))/\((s.2.1.2.length<=1099511627776)/\((ey s.2.1.2.length (List.length ((List.getD (out.2.2.2.getD g.toNat (0,[])).2 s.1.2.1.toNat 0)::[])) 8)/\(((List.length (s.2.1.2++((List.getD (out.2.2.2.getD g.toNat (0,[])).2 s.1.2.1.toNat 0)::[])))<=1000000)/\((0<=(df k s.2.1.1 (s.2.1.2++((List.getD (out.2.2.2.getD g.toNat (0,[])).2 s.1.2.1.toNat 0)::[]))))/\(((df k s.2.1.1 (s.2.1.2++((List.getD (out.2.2.2.getD g.toNat (0,[])).2 s.1.2.1.toNat 0)::[])))<(k.2.1.length:Int))/\((0<=(k.2.1.getD (Int.toNat (df k s.2.1.1 (s.2.1.2++((List.getD (out.2.2.2.getD g.toNat (0,[])).2 s.1.2.1.toNat 0)::[])))) 0))/\(((k.2.1.getD (Int.toNat (df k s.2.1.1 (s.2.1.2++((List.getD (out.2.2.2.getD g.toNat (0,[])).2 s.1.2.1.toNat 0)::[])))) 0)<(k.2.2.length:Int))/\((inK .i64 (s.1.2.1+1))/\(next (((),((s.1.2.1+1),())),((k.2.2.getD (Int.toNat (k.2.1.getD (Int.toNat (df k s.2.1.1 (s.2.1.2++((List.getD (out.2.2.2.getD g.toNat (0,[])).2 s.1.2.1.toNat 0)::[])))) 0)) (0,[])),()))))))))))))) ((s.2.1.2.length<=1000000)/\((0<=(df k s.2.1.1 s.2.1.2))/\(((df k s.2.1.1 s.2.1.2)<(k.2.1.length:Int))/\((0<=(k.2.1.getD (Int.toNat (df k s.2.1.1 s.2.1.2)) 0))/\(((k.2.1.getD (Int.toNat (df k s.2.1.1 s.2.1.2)) 0)<(number.length:Int))/\(K ((number.getD (Int.toNat (k.2.1.getD (Int.toNat (df k s.2.1.1 s.2.1.2)) 0)) 0),()))))))))))))) (((),(0,())),((out.2.2.2.getD f.toNat (0,[])),())))))))
theorem ajh(f:Int)(g:Int)(out:T.den g8)(k:ak)(number:List Int)(hok:ab (okL fg.args (f,g,out,k,number,())))(hpre:ab (fg.pre (f,g,out,k,number,()))):uq f g out k number (fun r=>r=fg.res (f,g,out,k,number,())):=by
 simp only[fg,okL,T.oks,T.ok,ap,ab,a0e,a0b,a0h]at hok hpre
 try dsimp only[T.den]at hok hpre
 unfold uq;have P:=hpre;clear hpre hok;refine⟨P.f0,P.f1,P.g0,P.g1,?_⟩;generalize hes:(out.2.2.2.getD g.toNat (0,[])).2=es;have st:=P.st;have lg:=P.lg;have en:=P.en;rw[hes]at st en lg;refine bz (fun (q:(buw×(buv×Unit)))=>0<=q.1.2.1/\q.1.2.1<=es.length/\q.2.1=w7 k out.2.2.2 f (es.take q.1.2.1.toNat)) (fun (q:(buw×(buv×Unit)))=>(es.length-q.1.2.1).toNat) ?_ ⟨a0r _,by dsimp only;omega,rfl⟩;rintro⟨⟨_,i,_⟩,p,_⟩ next ⟨i0,i1,q⟩ hnx
 intros
 try dsimp only at i0 i1 q hnx⊢
 subst q;refine al (fun hi=>?_) (fun hi=>?_)
 ·have O:=st i i0 hi;have le:=O.le;rw[a0q]at le;simp only[a0l,a0p]at le;refine⟨i0,hi,by omega,c7 (by simp only[a0l,a0p];omega),O.le,O.a0,O.a1,O.o0,O.o1,by rw[aj];(try dsimp only);omega,hnx _ ⟨by dsimp only;omega,by dsimp only;omega,?_⟩ (by dsimp only;omega)⟩
  try dsimp only
  unfold w7;rw[ii es 0 i0 hi,a3j];rfl
 ·have e:i=es.length:=by omega
  subst e;rw[jr _ (a0r _)];refine⟨en.le,en.a0,en.a1,en.o0,en.o1,?_⟩;simp only[fg,zd];rw[hes];rfl
theorem uh:bn Tryz.prog 97 fg:=ctb (af vt (af sj ao)) ba 97 Tryz.f97 fg ah5 [(5,95012),(7,7)] (by kernel_rfl) rfl (fun x K=>uq x.1 x.2.1 x.2.2.1 x.2.2.2.1 x.2.2.2.2.1 K) (fun _ _=>by kernel_rfl) (fun x h1 h2=>ajh x.1 x.2.1 x.2.2.1 x.2.2.2.1 x.2.2.2.2.1 h1 h2)
structure TabRP (o:a8) (a:List Int) (c:a8) (b:List Int):Prop where
 sh:ShapeP c
 lb:b.length=c.2.1.length
 wb:bj b c.2.1.length=true
 la:a.length=c.2.1.length
 lo:o.2.1.length=c.2.1.length
 lt:o.2.2.1.length=c.2.1.length
 co:∀f g:Int,0<=f->f<c.2.1.length->0<=g->g<c.2.1.length->o.2.2.1.getD f.toNat 0=o.2.1.getD g.toNat 0->c.2.2.1.getD (b.getD f.toNat 0).toNat 0=c.2.1.getD (b.getD g.toNat 0).toNat 0
def amj(o:a8)(F:Int->Int->Int)(f g:Int):Int:=if o.2.2.1.getD f.toNat 0=o.2.1.getD g.toNat 0 then F f g else -1
def abl(o:a8)(F:Int->Int->Int):List (List Int):=dv o.2.1.length fun f=>dv o.2.1.length fun g=>amj o F f g
def tbT(F:Int->Int->Int)(n:Nat)(i j:Int):List (List Int):=dv n fun e=>if e=i then (dv n fun g=>if g<j then F i g else 0)else if e<i then dv n (F e)else []
theorem axk{F:Int->Int->Int}{n:Nat}{i j:Int}:(tbT F n i j).length=n:=br _
theorem axd{F:Int->Int->Int}{n:Nat}{i j:Int}(i0:0<=i)(i1:i<n):(tbT F n i j).getD i.toNat []=dv n fun g=>if g<j then F i g else 0:=by unfold tbT;rw[pw i0 i1,d0 rfl]
theorem bto{F:Int->Int->Int}{n:Nat}{i j:Int}(i0:0<=i)(i1:i<n)(j0:0<=j)(j1:j<n):(tbT F n i j).set i.toNat (((tbT F n i j).getD i.toNat []).set j.toNat (F i j))=tbT F n i (j+1):=by
 rw[axd i0 i1,aah j0 j1];unfold tbT;rw[aah i0 i1];refine dg fun e _ _=>?_;by_cases h:e=i
 ·rw[d0 h,d0 h];refine dg fun g _ _=>?_;by_cases hg:g=j
  ·rw[d0 hg,d0 (by omega),hg]
  ·rw[ds hg];by_cases h2:g<j
   ·rw[d0 h2,d0 (by omega)]
   ·rw[ds h2,ds (by omega)]
 ·rw[ds h,ds h,ds h]
theorem bk1{A:List (List Int)}{i j:Nat}{w v:Int}(h:i<A.length):(A.set i ((A.getD i []).set j w)).set i (((A.set i ((A.getD i []).set j w)).getD i []).set j v)=A.set i ((A.getD i []).set j v):=by rw[ab3 _ _ _ _ _ h,d0 rfl,List.set_set,List.set_set]
theorem bud{F:Int->Int->Int}{n:Nat}{i:Int}(i0:0<=i)(i1:i<n):(dv n fun e=>if e<i then dv n (F e)else []).set i.toNat (dv n fun _=>0)=tbT F n i 0:=by
 rw[aah i0 i1];unfold tbT;refine dg fun e _ _=>?_;by_cases h:e=i
 ·rw[d0 h,d0 h];exact dg fun g g0 _=>by rw[ds (by omega)]
 ·rw[ds h,ds h]
theorem btq{F:Int->Int->Int}{n:Nat}{i:Int}:tbT F n i n=dv n fun e=>if e<i+1 then dv n (F e)else []:=by
 unfold tbT;refine dg fun e _ _=>?_;by_cases h:e=i
 ·rw[d0 h,d0 (by omega),h];exact dg fun g _ g1=>by rw[d0 g1]
 ·rw[ds h];by_cases h2:e<i
  ·rw[d0 h2,d0 (by omega)]
  ·rw[ds h2,ds (by omega)]
abbrev bpa:Type:=ac×(a8×((List Int)×(List ae)))
structure PrtP (o:bpa) (k:ak) (number:List Int):Prop where
 lf:o.2.1.2.1.length=o.2.2.2.length
 lt:o.2.1.2.2.1.length=o.2.2.2.length
 le:o.2.2.2.length<=40
 pv:∀f g:Int,0<=f->f<o.2.2.2.length->0<=g->g<o.2.2.2.length->o.2.1.2.2.1.getD f.toNat 0=o.2.1.2.1.getD g.toNat 0->PrvP k number o.2.2.2 f g
theorem ay8{Z Z2 Y:Type}{n:Int}(z:Z)(z2:Z2)(y:Int->Y){y0:Y}{body:(Unit×((Unit×(Z×(Z2×Unit)))×(Int×Unit)))×(Y×Unit)->((Unit×((Unit×(Z×(Z2×Unit)))×(Int×Unit)))×(Y×Unit)->Prop)->Prop}(hn0:0<=n)(h0:y0=y 0)
  (hs:∀i next,0<=i->i<n->next (((),(((),(z,(z2,()))),(i+1,()))),(y (i+1),()))->body (((),(((),(z,(z2,()))),(i,()))),(y i,())) next)
  (he:∀next,body (((),(((),(z,(z2,()))),(n,()))),(y n,())) next):bc body (((),(((),(z,(z2,()))),(0,()))),(y0,())):=by
 refine bz (fun s=>s.1.2.1.2.1=z/\s.1.2.1.2.2.1=z2/\s.2.1=y s.1.2.2.1/\0<=s.1.2.2.1/\s.1.2.2.1<=n) (fun s=>(n-s.1.2.2.1).toNat) ?_ ⟨rfl,rfl,h0,a0r _,hn0⟩;rintro⟨⟨_,⟨_,q,q2,_⟩,i,_⟩,t,_⟩ next ⟨hz,hz2,hy,h1,h2⟩ hnx
 dsimp only at hz hz2 hy h1 h2 hnx;subst hz;subst hz2;subst hy;by_cases e:i=n
 ·subst e;exact he next
 ·exact hs i next h1 (by omega) (hnx _ ⟨rfl,rfl,rfl,by dsimp only;omega,by dsimp only;omega⟩ (by dsimp only;omega))
def gl:Wa:=⟨(.pt (.p (.fz (.pt SchemaT)) (.p (.p (.fz (.int .i64)) (.p (.sl (.fz (.int .i64))) (.p (.sl (.fz (.int .i64))) (.p (.sl (.fz (.int .i64))) (.sl (.sl (.fz (.int .i64)))))))) (.p (.sl (.fz (.int .i64))) (.sl (.fz aq)))))),[.de,.r,.l],[(.fn 97 (.p (.pt .any) (.p (.pt (.pt nz)) (.p (.pt (.sl (.int .i64))) .u))))],fun x y=>[PrtP x y.1.2.1 y.1.2.2.1],fun x y=>(x.1,((x.2.1.1,x.2.1.2.1,x.2.1.2.2.1,x.2.1.2.2.2.1,abl x.2.1 (zd y.1.2.1 y.1.2.2.1 x.2.2.2)),x.2.2))⟩
def xv:Ct:=waCt gl
def afr:Ann:=(.s .n (.s .n (.s .n (.l [(0,(.ad 1000000 [.de,.r,.l])),(1,(.fc 97 (.pr (.bx (.ad 1000000 [.de])) (.pr (.d (.pt (.pt (.p (.mp .str (.int .i64)) (.p (.sl (.int .i64)) (.sl (.p (.int .i64) (.sl (.int .i64))))))))) (.pr (.d (.pt (.sl (.int .i64)))) .u))))),(19,(.d (.int .i64)))] [(1000000,(.pt (.p (.fz (.pt (.p (.int .i64) (.p (.sl (.int .i64)) (.p (.sl (.int .i64)) (.p (.sl (.p (.int .i64) (.sl (.int .i64)))) (.sl (.p (.int .i64) (.sl (.int .i64)))))))))) (.p (.p (.fz (.int .i64)) (.p (.sl (.fz (.int .i64))) (.p (.sl (.fz (.int .i64))) (.p (.sl (.fz (.int .i64))) (.sl (.sl (.fz (.int .i64)))))))) (.p (.sl (.fz (.int .i64))) (.sl (.fz (.p (.int .i64) (.sl (.int .i64))))))))))] [4,18] (.s .n (.s .n (.s (.s .n (.s .n (.s .n (.l [(0,(.ad 1000000 [.de,.r,.l])),(1,(.fc 97 (.pr (.bx (.ad 1000000 [.de])) (.pr (.d (.pt (.pt (.p (.mp .str (.int .i64)) (.p (.sl (.int .i64)) (.sl (.p (.int .i64) (.sl (.int .i64))))))))) (.pr (.d (.pt (.sl (.int .i64)))) .u))))),(38,(.d (.int .i64)))] [(1000000,(.pt (.p (.fz (.pt (.p (.int .i64) (.p (.sl (.int .i64)) (.p (.sl (.int .i64)) (.p (.sl (.p (.int .i64) (.sl (.int .i64)))) (.sl (.p (.int .i64) (.sl (.int .i64)))))))))) (.p (.p (.fz (.int .i64)) (.p (.sl (.fz (.int .i64))) (.p (.sl (.fz (.int .i64))) (.p (.sl (.fz (.int .i64))) (.sl (.sl (.fz (.int .i64)))))))) (.p (.sl (.fz (.int .i64))) (.sl (.fz (.p (.int .i64) (.sl (.int .i64))))))))))] [4,5,18,19,37] (.s .n (.s .n (.s (.s .n (.s .n (.s .n (.j [(0,(.ad 1000000 [.de,.r,.l])),(1,(.fc 97 (.pr (.bx (.ad 1000000 [.de])) (.pr (.d (.pt (.pt (.p (.mp .str (.int .i64)) (.p (.sl (.int .i64)) (.sl (.p (.int .i64) (.sl (.int .i64))))))))) (.pr (.d (.pt (.sl (.int .i64)))) .u)))))] [(1000000,(.pt (.p (.fz (.pt (.p (.int .i64) (.p (.sl (.int .i64)) (.p (.sl (.int .i64)) (.p (.sl (.p (.int .i64) (.sl (.int .i64)))) (.sl (.p (.int .i64) (.sl (.int .i64)))))))))) (.p (.p (.fz (.int .i64)) (.p (.sl (.fz (.int .i64))) (.p (.sl (.fz (.int .i64))) (.p (.sl (.fz (.int .i64))) (.sl (.sl (.fz (.int .i64)))))))) (.p (.sl (.fz (.int .i64))) (.sl (.fz (.p (.int .i64) (.sl (.int .i64))))))))))] [4,5,18,19,37,38] .n)))) .n))))))) .n)))))))
def af1:FuncId->Option Ct:=lkp [(97,fg),(104,eu)]
def x7(c:T.den g8)(composite:Unit×(ak×buz))(K:(T.den g8)->Prop):Prop:=((0<=(c.2.1.2.1.length:Int))/\(((c.2.1.2.1.length:Int)<=(c.2.1.2.1.length:Int))/\(((c.2.1.2.1.length:Int)<=((140737488355328:Nat):Int))/\((((c.2.1.2.1.length:Int)*((24:Nat):Int))<=((140737488355328:Nat):Int))/\(bc (S:=((Unit×((Unit×(((List (ByteArray×Int))×bu0)×buz))×(Int×Unit)))×buu)) (fun s=>(fun next=>((T.ok (T.mp T.str (.int .i64)) s.1.2.1.2.1.1)->((T.ok (.sl (.int .i64)) s.1.2.1.2.1.2.1)->((T.ok (.sl aq) s.1.2.1.2.1.2.2)->((T.ok (.sl (.int .i64)) s.1.2.1.2.2.1)->((inK .i64 s.1.2.2.1)->((inK .i64 s.2.1.1.1)->((T.ok (.sl (.int .i64)) s.2.1.1.2.1)->((T.ok (.sl (.int .i64)) s.2.1.1.2.2.1)->((T.ok (.sl aq) s.2.1.1.2.2.2.1)->((T.ok (.sl aq) s.2.1.1.2.2.2.2)->((inK .i64 s.2.1.2.1.1)->((T.ok (.sl (.int .i64)) s.2.1.2.1.2.1)->((T.ok (.sl (.int .i64)) s.2.1.2.1.2.2.1)->((T.ok (.sl (.int .i64)) s.2.1.2.1.2.2.2.1)->((T.ok (.sl (.sl (.int .i64))) s.2.1.2.1.2.2.2.2)->((T.ok (.sl (.int .i64)) s.2.1.2.2.1)->((T.ok (.sl aq) s.2.1.2.2.2)->(cnd (decide (s.1.2.2.1<(((List.length (List.replicate (Int.toNat (c.2.1.2.1.length:Int)) ([]:List Int))):Nat):Int))) ((0<=(c.2.1.2.1.length:Int))/\(((c.2.1.2.1.length:Int)<=(c.2.1.2.1.length:Int))/\(((c.2.1.2.1.length:Int)<=((140737488355328:Nat):Int))/\((((c.2.1.2.1.length:Int)*((8:Nat):Int))<=((140737488355328:Nat):Int))/\((0<=s.1.2.2.1)/\((s.1.2.2.1<(s.2.1.2.1.2.2.2.2.length:Int))/\((0<=s.1.2.2.1)/\((s.1.2.2.1<(((List.length (List.set s.2.1.2.1.2.2.2.2 s.1.2.2.1.toNat (List.replicate (Int.toNat (c.2.1.2.1.length:Int)) (0:Int)))):Nat):Int))/\(bc (S:=((Unit×((Unit×(((List (ByteArray×Int))×bu0)×buz))×(Int×Unit)))×buu)) (fun s1=>(fun next1=>((T.ok (T.mp T.str (.int .i64)) s1.1.2.1.2.1.1)->((T.ok (.sl (.int .i64)) s1.1.2.1.2.1.2.1)->((T.ok (.sl aq) s1.1.2.1.2.1.2.2)->((T.ok (.sl (.int .i64)) s1.1.2.1.2.2.1)->((inK .i64 s1.1.2.2.1)->((inK .i64 s1.2.1.1.1)->((T.ok (.sl (.int .i64)) s1.2.1.1.2.1)->((T.ok (.sl (.int .i64)) s1.2.1.1.2.2.1)->((T.ok (.sl aq) s1.2.1.1.2.2.2.1)->((T.ok (.sl aq) s1.2.1.1.2.2.2.2)->((inK .i64 s1.2.1.2.1.1)->((T.ok (.sl (.int .i64)) s1.2.1.2.1.2.1)->((T.ok (.sl (.int .i64)) s1.2.1.2.1.2.2.1)->((T.ok (.sl (.int .i64)) s1.2.1.2.1.2.2.2.1)->((T.ok (.sl (.sl (.int .i64))) s1.2.1.2.1.2.2.2.2)->((T.ok (.sl (.int .i64)) s1.2.1.2.2.1)->((T.ok (.sl aq) s1.2.1.2.2.2)->(cnd (decide (s1.1.2.2.1<(((List.length (List.getD (List.set s.2.1.2.1.2.2.2.2 s.1.2.2.1.toNat (List.replicate (Int.toNat (c.2.1.2.1.length:Int)) (0:Int))) s.1.2.2.1.toNat [])):Nat):Int))) ((0<=s.1.2.2.1)/\((s.1.2.2.1<(s1.2.1.2.1.2.2.2.2.length:Int))/\((0<=s1.1.2.2.1)/\((s1.1.2.2.1<(List.length (s1.2.1.2.1.2.2.2.2.getD s.1.2.2.1.toNat []):Int))/\((0<=s.1.2.2.1)/\((s.1.2.2.1<(s1.2.1.2.1.2.2.1.length:Int))/\((0<=s1.1.2.2.1)/\((s1.1.2.2.1<(s1.2.1.2.1.2.1.length:Int))/\(jd (S:=((Unit×((Unit×(((List (ByteArray×Int))×bu0)×buz))×Unit))×buu)) (fun s2=>((T.ok (T.mp T.str (.int .i64)) s2.1.2.1.2.1.1)->((T.ok (.sl (.int .i64)) s2.1.2.1.2.1.2.1)->((T.ok (.sl aq) s2.1.2.1.2.1.2.2)->((T.ok (.sl (.int .i64)) s2.1.2.1.2.2.1)->((inK .i64 s2.2.1.1.1)->((T.ok (.sl (.int .i64)) s2.2.1.1.2.1)->((T.ok (.sl (.int .i64)) s2.2.1.1.2.2.1)->((T.ok (.sl aq) s2.2.1.1.2.2.2.1)->((T.ok (.sl aq) s2.2.1.1.2.2.2.2)->((inK .i64 s2.2.1.2.1.1)->((T.ok (.sl (.int .i64)) s2.2.1.2.1.2.1)->((T.ok (.sl (.int .i64)) s2.2.1.2.1.2.2.1)->((T.ok (.sl (.int .i64)) s2.2.1.2.1.2.2.2.1)->((T.ok (.sl (.sl (.int .i64))) s2.2.1.2.1.2.2.2.2)->((T.ok (.sl (.int .i64)) s2.2.1.2.2.1)->((T.ok (.sl aq) s2.2.1.2.2.2)->((inK .i64 (s1.1.2.2.1+1))/\(next1 (((),(((),(s2.1.2.1.2.1,(s2.1.2.1.2.2.1,()))),((s1.1.2.2.1+1),()))),(s2.2.1,()))))))))))))))))))))) (fun k=>(cnd ((s1.2.1.2.1.2.2.1.getD s.1.2.2.1.toNat 0)==(s1.2.1.2.1.2.1.getD s1.1.2.2.1.toNat 0)) ((0<=s.1.2.2.1)/\((s.1.2.2.1<(((List.length (List.set s1.2.1.2.1.2.2.2.2 s.1.2.2.1.toNat (List.set (s1.2.1.2.1.2.2.2.2.getD s.1.2.2.1.toNat []) s1.1.2.2.1.toNat (-1)))):Nat):Int))/\((PrvP s1.1.2.1.2.1 s1.1.2.1.2.2.1 s1.2.1.2.2.2 s.1.2.2.1 s1.1.2.2.1)/\((0<=s1.1.2.2.1)/\((s1.1.2.2.1<(((List.length (List.getD (List.set s1.2.1.2.1.2.2.2.2 s.1.2.2.1.toNat (List.set (s1.2.1.2.1.2.2.2.2.getD s.1.2.2.1.toNat []) s1.1.2.2.1.toNat (-1))) s.1.2.2.1.toNat [])):Nat):Int))/\(k (((),(((),(s1.1.2.1.2.1,(s1.1.2.1.2.2.1,()))),())),((s1.2.1.1,((s1.2.1.2.1.1,(s1.2.1.2.1.2.1,(s1.2.1.2.1.2.2.1,(s1.2.1.2.1.2.2.2.1,(List.set (List.set s1.2.1.2.1.2.2.2.2 s.1.2.2.1.toNat (List.set (s1.2.1.2.1.2.2.2.2.getD s.1.2.2.1.toNat []) s1.1.2.2.1.toNat (-1))) s.1.2.2.1.toNat (List.set (List.getD (List.set s1.2.1.2.1.2.2.2.2 s.1.2.2.1.toNat (List.set (s1.2.1.2.1.2.2.2.2.getD s.1.2.2.1.toNat []) s1.1.2.2.1.toNat (-1))) s.1.2.2.1.toNat []) s1.1.2.2.1.toNat (zd s1.1.2.1.2.1 s1.1.2.1.2.2.1 s1.2.1.2.2.2 s.1.2.2.1 s1.1.2.2.1))))))),s1.2.1.2.2)),())))))))) (k (((),(((),(s1.1.2.1.2.1,(s1.1.2.1.2.2.1,()))),())),((s1.2.1.1,((s1.2.1.2.1.1,(s1.2.1.2.1.2.1,(s1.2.1.2.1.2.2.1,(s1.2.1.2.1.2.2.2.1,(List.set s1.2.1.2.1.2.2.2.2 s.1.2.2.1.toNat (List.set (s1.2.1.2.1.2.2.2.2.getD s.1.2.2.1.toNat []) s1.1.2.2.1.toNat (-1))))))),s1.2.1.2.2)),())))))))))))))) ((inK .i64 (s.1.2.2.1+1))/\(next (((),(((),(s1.1.2.1.2.1,(s1.1.2.1.2.2.1,()))),((s.1.2.2.1+1),()))),(s1.2.1,())))))))))))))))))))))))) (((),(((),(s.1.2.1.2.1,(s.1.2.1.2.2.1,()))),(0,()))),((s.2.1.1,((s.2.1.2.1.1,(s.2.1.2.1.2.1,(s.2.1.2.1.2.2.1,(s.2.1.2.1.2.2.2.1,(List.set s.2.1.2.1.2.2.2.2 s.1.2.2.1.toNat (List.replicate (Int.toNat (c.2.1.2.1.length:Int)) (0:Int))))))),s.2.1.2.2)),()))))))))))) (K s.2.1))))))))))))))))))))) (((),(((),(composite.2.1,(composite.2.2.1,()))),(0,()))),((c.1,((c.2.1.1,(c.2.1.2.1,(c.2.1.2.2.1,(c.2.1.2.2.2.1,(List.replicate (Int.toNat (c.2.1.2.1.length:Int)) ([]:List Int)))))),c.2.2)),())))))))
theorem agt(c:T.den g8)(composite:Unit×(ak×buz))(hok:ab (gl.o.strip.oks c))(hok2:ab (okL gl.as (composite,())))(hpre:ab (gl.pre c (composite,()))):x7 c composite (fun z=>z=gl.new c (composite,())):=by
 simp only[gl,O.strip,okL,T.oks,T.ok,ap,ab,a0e,a0b,a0h]at hok hok2 hpre
 try dsimp only[T.den]at hok
 try dsimp only[T.den]at hok2
 try dsimp only[T.den]at hpre
 unfold x7;obtain⟨_,z,u,_⟩:=composite;have P:PrtP c z u:=hpre;have hlf:=P.lf;have hlt:=P.lt;have hle:=P.le;have pv:=P.pv;have hnew:∀q,q=abl c.2.1 (zd z u c.2.2.2)->(c.1,((c.2.1.1,(c.2.1.2.1,(c.2.1.2.2.1,(c.2.1.2.2.2.1,q)))),c.2.2))=(c.1,((c.2.1.1,(c.2.1.2.1,(c.2.1.2.2.1,(c.2.1.2.2.2.1,abl c.2.1 (zd z u c.2.2.2))))),c.2.2)):=fun q h=>by rw[h]
 clear hok hok2 hpre P
 try dsimp only
 have hR:abl c.2.1 (zd z u c.2.2.2)=dv c.2.1.2.1.length fun e=>dv c.2.1.2.1.length (amj c.2.1 (zd z u c.2.2.2) e):=rfl;refine⟨by omega,by omega,by omega,by omega,?_⟩;simp only[a0m,ahu,br];rw[←hlf]at hle pv hlt;generalize hn:c.2.1.2.1.length=n at *;generalize hF:amj c.2.1 (zd z u c.2.2.2)=F at *;refine ay8 (n:=n) z u (fun i=>(c.1,((c.2.1.1,(c.2.1.2.1,(c.2.1.2.2.1,(c.2.1.2.2.2.1,dv n fun e=>if e<i then dv n (F e)else [])))),c.2.2))) (by omega) (congrArg (fun q=>(c.1,((c.2.1.1,(c.2.1.2.1,(c.2.1.2.2.1,(c.2.1.2.2.2.1,q)))),c.2.2))) (dg fun e h0 _=>by rw[ds (by omega)])) ?_ ?_
 ·intro i next i0 i1 hnx
  intros
  try dsimp only
  refine al (fun _=>⟨by omega,by omega,by omega,by omega,i0,by rw[br];exact i1,i0,by rw[a1h,br];exact i1,?_⟩) (fun h=>absurd i1 h);rw[bud i0 i1,axd i0 i1,br];refine ay8 (n:=n) z u (fun j=>(c.1,((c.2.1.1,(c.2.1.2.1,(c.2.1.2.2.1,(c.2.1.2.2.2.1,tbT F n i j)))),c.2.2))) (by omega) rfl ?_ ?_
  ·intro j next2 j0 j1 hn2;intros
   try dsimp only
   have hr:((tbT F n i j).getD i.toNat []).length=n:=by rw[axd i0 i1,br]
   have hA:i.toNat<(tbT F n i j).length:=by rw[axk];omega
   have hs2:=@bk1 (tbT F n i j) i.toNat j.toNat (-1) (F i j) hA;have hs1:=@bto F n i j i0 i1 j0 j1;have hrow:(((tbT F n i j).set i.toNat (((tbT F n i j).getD i.toNat []).set j.toNat (-1))).getD i.toNat []).length=n:=by rw[ab3 _ _ _ _ _ hA,d0 rfl,a1h,hr]
   refine al (fun _=>⟨i0,by rw[axk];exact i1,j0,by rw[hr];exact j1,i0,by omega,j0,by omega,?_⟩) (fun h=>absurd j1 h);refine g7 (fun s2=>s2.1.2.1.2.1=z/\s2.1.2.1.2.2.1=u/\s2.2.1=(c.1,((c.2.1.1,(c.2.1.2.1,(c.2.1.2.2.1,(c.2.1.2.2.2.1,tbT F n i (j+1))))),c.2.2))) (fun s2 hs=>by intros;exact⟨by rw[aj];(try dsimp only);omega,by rw[hs.1,hs.2.1,hs.2.2];exact hn2⟩) (fun k hk=>aw (fun he=>?_) (fun he=>hk _ ⟨rfl,rfl,?_⟩))
   ·rw[a0t]at he;have hv:zd z u c.2.2.2 i j=F i j:=by rw[←hF];unfold amj;rw[d0 he]
    refine⟨i0,by rw[a1h,axk];exact i1,pv i j i0 i1 j0 j1 he,j0,by rw[hrow];exact j1,hk _ ⟨rfl,rfl,?_⟩⟩
    try dsimp only
    rw[hv,hs2,hs1]
   ·have hv:F i j=-1:=by rw[←hF];unfold amj;rw[ds (by intro h;rw[h]at he;simp at he)]
    try dsimp only
    rw[←hv,hs1]
  ·intro next2;intros
   try dsimp only
   refine al (fun h=>absurd h (a18 _)) (fun _=>⟨by rw[aj];(try dsimp only);omega,?_⟩);rw[btq];exact hnx
 ·intro next
  intros
  try dsimp only
  refine al (fun h=>absurd h (a18 _)) (fun _=>hnew _ ?_);rw[hR];exact dg fun e _ e1=>by rw[d0 e1]
theorem wy:bn Tryz.prog 96 xv:=bua (Φ:=af1) (af uh (af qe ao)) ba (by kernel_rfl) (fn:=Tryz.f96) (c:=qg Tryz.f96) (by kernel_rfl) (by kernel_rfl) (by kernel_rfl) gl afr (aa7 [(5,507),(10,14),(11,512)]) (by kernel_rfl) (by kernel_rfl) (by decide) (by kernel_rfl) (fun x y h1 h2 h3=>Eq.mp (by kernel_rfl) (agt x y.1 h1 h2 h3))
def aqn(c:a8)(ed:List Int):Int->List Int->Int
 |h,[]=>h
 |h,e::r=>aqn c ed (fp c h (ed.getD e.toNat 0)) r
def oc(c:a8)(ed:List Int)(p:ae):Int:=aqn c ed (c.2.2.2.1.getD p.1.toNat 0) p.2
def bbt(c:a8)(ed:List Int):Int->List Int->Prop
 |h,[]=>True
 |h,e::r=>(0<=e/\e<ed.length)/\(0<=ed.getD e.toNat 0/\ed.getD e.toNat 0<c.2.1.length)/\c.2.2.1.getD h.toNat 0=c.2.1.getD (ed.getD e.toNat 0).toNat 0/\bbt c ed (fp c h (ed.getD e.toNat 0)) r
structure AroP (t:t6) (p:ae):Prop where
 s:ShapeP t.1
 p0:0<=p.1
 p1:p.1<t.1.1
 c:bbt t.1 t.2.2 (t.1.2.2.2.1.getD p.1.toNat 0) p.2
def nf:Ct:=⟨[ak1,aq],[true,true],fun x=>[AroP x.1 x.2.1],[(false,(.fz (.int .i64)))],fun x=>(oc x.1.1 x.1.2.2 x.2.1,()),false,none⟩
def atm:Ann:=(.s .n (.s .n (.s (.s .n (.l [(5,(.d (.int .i64))),(6,(.d (.int .i64)))] [] [2,3] .n)) .n)))
def acr(t:t6)(p:ae)(K:Int×Unit->Prop):Prop:=((0<=p.1)/\((p.1<(t.1.2.2.2.1.length:Int))/\(bc (S:=bu1) (fun s=>(fun next=>((inK .i64 s.1.1)->((inK .i64 s.1.2.1)->(cnd (decide (s.1.2.1<(p.2.length:Int))) ((0<=s.1.1)/\((s.1.1<(t.1.2.2.2.2.length:Int))/\((0<=s.1.2.1)/\((s.1.2.1<(p.2.length:Int))/\((0<=(p.2.getD s.1.2.1.toNat 0))/\(((p.2.getD s.1.2.1.toNat 0)<(t.2.2.length:Int))/\((0<=(t.2.2.getD (Int.toNat (p.2.getD s.1.2.1.toNat 0)) 0))/\(((t.2.2.getD (Int.toNat (p.2.getD s.1.2.1.toNat 0)) 0)<(List.length (t.1.2.2.2.2.getD s.1.1.toNat []):Int))/\((inK .i64 (s.1.2.1+1))/\(next (((List.getD (t.1.2.2.2.2.getD s.1.1.toNat []) (Int.toNat (t.2.2.getD (Int.toNat (p.2.getD s.1.2.1.toNat 0)) 0)) 0),((s.1.2.1+1),())),()))))))))))) (K (s.1.1,()))))))) (((t.1.2.2.2.1.getD p.1.toNat 0),(0,())),()))))
theorem auw(t:t6)(p:ae)(hok:ab (okL nf.args (t,p,())))(hpre:ab (nf.pre (t,p,()))):acr t p (fun r=>r=nf.res (t,p,())):=by
 simp only[nf,okL,T.oks,T.ok,ap,ab,a0e,a0b,a0h]at hok hpre
 try dsimp only[T.den]at hok hpre
 unfold acr;obtain⟨S,p0,p1,hc⟩:=hpre;have hid:=S.idn p0 p1;have hlc:=S.lc;have hli:=S.li;have hpl:p.2.length<=140737488355328:=by have:=hok.2.2.2.2.2.2.2.2.1;rw[b9]at this;exact this
 simp only[nf,oc];refine⟨p0,by omega,?_⟩;generalize t.1.2.2.2.1.getD p.1.toNat 0=h0 at *;refine bz (fun (q:bu1)=>0<=q.1.2.1/\q.1.2.1<=p.2.length/\0<=q.1.1/\q.1.1<t.1.2.1.length/\bbt t.1 t.2.2 q.1.1 (p.2.drop q.1.2.1.toNat)/\aqn t.1 t.2.2 h0 p.2=aqn t.1 t.2.2 q.1.1 (p.2.drop q.1.2.1.toNat)) (fun (q:bu1)=>(p.2.length-q.1.2.1).toNat) ?_ ⟨by simp,by simp,hid.1,hid.2.1,hc,rfl⟩;rintro⟨⟨h,i,_⟩,_⟩ next ⟨i0,i1,a0,a1,a2,a3⟩ hnx
 intros
 try dsimp only at i0 i1 a0 a1 a2 a3 hnx⊢
 refine al (fun hi=>?_) (fun hi=>?_)
 ·rw[mn p.2 0 i0 hi]at a2 a3;obtain⟨b1,b2,b3,b4⟩:=a2;have hr:=S.row h a0 a1;have y:=S.yes a0 a1 b2.1 b2.2 b3;refine⟨a0,by omega,i0,hi,b1.1,b1.2,b2.1,by rw[hr];exact b2.2,by rw[aj];(try dsimp only);omega,hnx _ ⟨by dsimp only;omega,by dsimp only;omega,y.1,y.2.1,b4,?_⟩ (by dsimp only;omega)⟩;rw[a3];rfl
 ·rw[a3,pc p.2 (by omega)];rfl
theorem at4:bn Tryz.prog 49 nf:=ctb ao ba 49 Tryz.f49 nf atm [(5,15)] (by kernel_rfl) rfl (fun x K=>acr x.1 x.2.1 K) (fun _ _=>by kernel_rfl) (fun x h1 h2=>auw x.1 x.2.1 h1 h2)
def ig:Ct:=⟨[(.pt g8),aq],[false,true],fun x=>[AroP (x.1.2.1,(x.1.2.2.2,x.1.2.2.1)) x.2.1],[(false,(.fz (.int .i64)))],fun x=>(oc x.1.2.1 x.1.2.2.1 x.2.1,()),false,none⟩
def aji:Ann:=(.s .n (.s .n (.s (.s .n (.l [(5,(.d (.int .i64))),(20,(.d (.int .i64)))] [] [0,18,19] .n)) .n)))
def vv(k:T.den g8)(p:ae)(K:Int×Unit->Prop):Prop:=((0<=p.1)/\((p.1<(k.2.1.2.2.2.1.length:Int))/\(bc (S:=bu1) (fun s=>(fun next=>((inK .i64 s.1.1)->((inK .i64 s.1.2.1)->(cnd (decide (s.1.2.1<(p.2.length:Int))) ((0<=s.1.2.1)/\((s.1.2.1<(p.2.length:Int))/\((0<=(p.2.getD s.1.2.1.toNat 0))/\(((p.2.getD s.1.2.1.toNat 0)<(k.2.2.1.length:Int))/\((0<=s.1.1)/\((s.1.1<(k.2.1.2.2.2.2.length:Int))/\((0<=(k.2.2.1.getD (Int.toNat (p.2.getD s.1.2.1.toNat 0)) 0))/\(((k.2.2.1.getD (Int.toNat (p.2.getD s.1.2.1.toNat 0)) 0)<(List.length (k.2.1.2.2.2.2.getD s.1.1.toNat []):Int))/\((inK .i64 (s.1.2.1+1))/\(next (((fp k.2.1 s.1.1 (k.2.2.1.getD (Int.toNat (p.2.getD s.1.2.1.toNat 0)) 0)),((s.1.2.1+1),())),()))))))))))) (K (s.1.1,()))))))) (((k.2.1.2.2.2.1.getD p.1.toNat 0),(0,())),()))))
theorem aj8(k:T.den g8)(p:ae)(hok:ab (okL ig.args (k,p,())))(hpre:ab (ig.pre (k,p,()))):vv k p (fun r=>r=ig.res (k,p,())):=by
 simp only[ig,okL,T.oks,T.ok,ap,ab,a0e,a0b,a0h]at hok hpre
 try dsimp only[T.den]at hok hpre
 unfold vv;obtain⟨S,p0,p1,hc⟩:=hpre
 try dsimp only at S p0 p1 hc
 have hid:=S.idn p0 p1;have hlc:=S.lc;have hli:=S.li;have hpl:p.2.length<=140737488355328:=by have:=hok.2.2.2.2.2.2.2.2.2.2.2.2.2.1;rw[b9]at this;exact this
 clear hok;simp only[ig,oc];refine⟨p0,by omega,?_⟩;generalize k.2.1.2.2.2.1.getD p.1.toNat 0=h0 at *;refine bz (fun (q:bu1)=>0<=q.1.2.1/\q.1.2.1<=p.2.length/\0<=q.1.1/\q.1.1<k.2.1.2.1.length/\bbt k.2.1 k.2.2.1 q.1.1 (p.2.drop q.1.2.1.toNat)/\aqn k.2.1 k.2.2.1 h0 p.2=aqn k.2.1 k.2.2.1 q.1.1 (p.2.drop q.1.2.1.toNat)) (fun (q:bu1)=>(p.2.length-q.1.2.1).toNat) ?_ ⟨by simp,by simp,hid.1,hid.2.1,hc,rfl⟩;rintro⟨⟨h,i,_⟩,_⟩ next ⟨i0,i1,a0,a1,a2,a3⟩ hnx
 intros
 try dsimp only at i0 i1 a0 a1 a2 a3 hnx⊢
 refine al (fun hi=>?_) (fun hi=>?_)
 ·rw[mn p.2 0 i0 hi]at a2 a3;obtain⟨b1,b2,b3,b4⟩:=a2;have hr:=S.row h a0 a1;have y:=S.yes a0 a1 b2.1 b2.2 b3;refine⟨i0,hi,b1.1,b1.2,a0,by omega,b2.1,by rw[hr];exact b2.2,by rw[aj];(try dsimp only);omega,hnx _ ⟨by dsimp only;omega,by dsimp only;omega,y.1,y.2.1,b4,?_⟩ (by dsimp only;omega)⟩;rw[a3];rfl
 ·rw[a3,pc p.2 (by omega)];rfl
theorem ajf:bn Tryz.prog 51 ig:=ctb (af ab8 ao) ba 51 Tryz.f51 ig aji [(1,7),(5,511)] (by kernel_rfl) rfl (fun x K=>vv x.1 x.2.1 K) (fun _ _=>by kernel_rfl) (fun x h1 h2=>aj8 x.1 x.2.1 h1 h2)
structure ClsP (k:T.den g8):Prop where
 l:pf k.2.1=true->∀p∈k.2.2.2,AroP (k.2.1,(k.2.2.2,k.2.2.1)) p
 a:pf k.2.1=true->∀p∈k.1.2.2.2.1,AroP (k.2.1,(k.2.2.2,k.2.2.1)) p
 b:pf k.2.1=true->∀p∈k.1.2.2.2.2,AroP (k.2.1,(k.2.2.2,k.2.2.1)) p
 e:k.1.2.2.2.2.length=k.1.2.2.2.1.length
def abt(k:T.den g8):Bool:=pf k.2.1&&(rm k.2.2.2.length fun f=>oc k.2.1 k.2.2.1 (k.2.2.2.getD f.toNat (0,[]))==f)&&rm k.1.2.2.2.1.length fun i=>oc k.2.1 k.2.2.1 (k.1.2.2.2.1.getD i.toNat (0,[]))==oc k.2.1 k.2.2.1 (k.1.2.2.2.2.getD i.toNat (0,[]))
def gy:Ct:=⟨[(.pt g8)],[false],fun x=>[ClsP x.1],[(false,(.fz .bool))],fun x=>(abt x.1,()),false,none⟩
def ah4:Ann:=(.s .n (.s .n (.s (.s .n (.l [(16,(.d (.int .i64)))] [] [0,14,15] .n)) (.s (.s .n (.l [(35,(.d (.int .i64)))] [] [0,34] .n)) .n))))
def bd4:FuncId->Option Ct:=lkp [(103,dx),(51,ig)]
def uw(k:T.den g8)(K:Bool×Unit->Prop):Prop:=(cnd (!(pf k.2.1)) (K (false,())) (bc (S:=bux) (fun s=>(fun next=>((inK .i64 s.1.1)->(cnd (decide (s.1.1<(k.2.2.2.length:Int))) ((0<=s.1.1)/\((s.1.1<(k.2.2.2.length:Int))/\((AroP (k.2.1,(k.2.2.2,k.2.2.1)) (k.2.2.2.getD s.1.1.toNat (0,[])))/\(cnd ((oc k.2.1 k.2.2.1 (k.2.2.2.getD s.1.1.toNat (0,[]))) != s.1.1) (K (false,())) ((inK .i64 (s.1.1+1))/\(next (((s.1.1+1),()),()))))))) (bc (S:=bux) (fun s1=>(fun next1=>((inK .i64 s1.1.1)->(cnd (decide (s1.1.1<(k.1.2.2.2.1.length:Int))) ((0<=s1.1.1)/\((s1.1.1<(k.1.2.2.2.1.length:Int))/\((AroP (k.2.1,(k.2.2.2,k.2.2.1)) (k.1.2.2.2.1.getD s1.1.1.toNat (0,[])))/\((0<=s1.1.1)/\((s1.1.1<(k.1.2.2.2.2.length:Int))/\((AroP (k.2.1,(k.2.2.2,k.2.2.1)) (k.1.2.2.2.2.getD s1.1.1.toNat (0,[])))/\(cnd ((oc k.2.1 k.2.2.1 (k.1.2.2.2.1.getD s1.1.1.toNat (0,[]))) != (oc k.2.1 k.2.2.1 (k.1.2.2.2.2.getD s1.1.1.toNat (0,[])))) (K (false,())) ((inK .i64 (s1.1.1+1))/\(next1 (((s1.1.1+1),()),())))))))))) (K (true,())))))) ((0,()),())))))) ((0,()),())))
theorem ajl(k:T.den g8)(hok:ab (okL gy.args (k,())))(hpre:ab (gy.pre (k,()))):uw k (fun r=>r=gy.res (k,())):=by
 simp only[gy,okL,T.oks,T.ok,ap,ab,a0e,a0b,a0h]at hok hpre
 try dsimp only[T.den]at hok hpre
 unfold uw;have hP:ClsP k:=hpre;have l1:=hok.2.2.2.2.2.2.2.2.2.2.2.1;have l2:=hok.2.2.2.1.1;rw[b9]at l1 l2;clear hok;simp only[gy];refine aw (fun h=>?_) (fun h=>?_)
 ·have h:pf k.2.1=false:=by simpa using h
  unfold abt;rw[h];rfl
 have h:pf k.2.1=true:=by simpa using h
 have he:=hP.e;have hcl:abt k=((rm k.2.2.2.length fun f=>oc k.2.1 k.2.2.1 (k.2.2.2.getD f.toNat (0,[]))==f)&&rm k.1.2.2.2.1.length fun i=>oc k.2.1 k.2.2.1 (k.1.2.2.2.1.getD i.toNat (0,[]))==oc k.2.1 k.2.2.1 (k.1.2.2.2.2.getD i.toNat (0,[]))):=by unfold abt;rw[h];rfl
 rw[hcl];refine ajo k.2.2.2.length (fun f=>oc k.2.1 k.2.2.1 (k.2.2.2.getD f.toNat (0,[]))==f) ?_ ?_
 ·intro i next i0 i1 hf hn
  intros
  try dsimp only at hf hn⊢
  refine al (fun _=>⟨i0,i1,hP.l h _ (fb _ _ i0 i1),aw (fun hx=>?_) (fun hx=>⟨by rw[aj];(try dsimp only);omega,hn ?_⟩)⟩) (fun hx=>absurd i1 hx)
  ·rw[hf (by rw[a2b];exact a3y.1 hx)];rfl
  ·rw[a0t];exact a1a.1 hx
 intro next ha
 intros
 try dsimp only
 refine al (fun hx=>absurd hx (by omega)) (fun _=>?_);rw[ha];refine ajo k.1.2.2.2.1.length (fun i=>oc k.2.1 k.2.2.1 (k.1.2.2.2.1.getD i.toNat (0,[]))==oc k.2.1 k.2.2.1 (k.1.2.2.2.2.getD i.toNat (0,[]))) ?_ ?_
 ·intro i next i0 i1 hf hn
  intros
  try dsimp only at hf hn⊢
  refine al (fun _=>⟨i0,i1,hP.a h _ (fb _ _ i0 i1),i0,by omega,hP.b h _ (fb _ _ i0 (by omega)),aw (fun hx=>?_) (fun hx=>⟨by rw[aj];(try dsimp only);omega,hn ?_⟩)⟩) (fun hx=>absurd i1 hx)
  ·rw[hf (by rw[a2b];exact a3y.1 hx)];rfl
  ·rw[a0t];exact a1a.1 hx
 intro next hb
 intros
 try dsimp only
 refine al (fun hx=>absurd hx (by omega)) (fun _=>?_);rw[hb];rfl
theorem zk:bn Tryz.prog 98 gy:=ctb (af w4 (af ajf ao)) ba 98 Tryz.f98 gy ah4 [(12,523)] (by kernel_rfl) rfl (fun x K=>uw x.1 K) (fun _ _=>by kernel_rfl) (fun x h1 h2=>ajl x.1 h1 h2)
def akp(l:List Int)(y:Int):Nat->Int
 |0=>0
 |n+1=>if l.getD n 0=y then n else akp l y n
def ma(l:List Int):List Int:=dv l.length fun y=>akp l y l.length
theorem brx{l:List Int}{y i:Int}(h0:0<=i):akp l y (i+1).toNat=if l.getD i.toNat 0=y then i else akp l y i.toNat:=by
 rw[show (i+1).toNat=i.toNat+1 from by omega,akp];split
 ·omega
 ·rfl
def mj:Ct:=⟨[(.sl (.int .i64))],[false],fun x=>[x.1.length<=40,bj x.1 x.1.length=true],[(false,(.sl (.fz (.int .i64))))],fun x=>(ma x.1,()),false,none⟩
def arl:Ann:=(.s .n (.s .n (.s (.s .n (.l [(3,(.ref 8 [])),(11,(.d (.int .i64)))] [(8,(.sl (.fz (.int .i64))))] [9,10] .n)) .n)))
def abz(list:List Int)(K:(List Int)×Unit->Prop):Prop:=((0<=(list.length:Int))/\(((list.length:Int)<=(list.length:Int))/\(((list.length:Int)<=((140737488355328:Nat):Int))/\((((list.length:Int)*((8:Nat):Int))<=((140737488355328:Nat):Int))/\(bc (S:=(buw×buz)) (fun s=>(fun next=>((inK .i64 s.1.2.1)->((T.ok (.sl (.int .i64)) s.2.1)->(cnd (decide (s.1.2.1<(list.length:Int))) ((0<=s.1.2.1)/\((s.1.2.1<(list.length:Int))/\((0<=(list.getD s.1.2.1.toNat 0))/\(((list.getD s.1.2.1.toNat 0)<(s.2.1.length:Int))/\((inK .i64 (s.1.2.1+1))/\(next (((),((s.1.2.1+1),())),((List.set s.2.1 (Int.toNat (list.getD s.1.2.1.toNat 0)) s.1.2.1),())))))))) (K (s.2.1,()))))))) (((),(0,())),((List.replicate (Int.toNat (list.length:Int)) (0:Int)),())))))))
theorem ata(list:List Int)(hok:ab (okL mj.args (list,())))(hpre:ab (mj.pre (list,()))):abz list (fun r=>r=mj.res (list,())):=by
 simp only[mj,okL,T.oks,T.ok,ap,ab,a0e,a0b,a0h]at hok hpre
 try dsimp only[T.den]at hok hpre
 unfold abz;obtain⟨hl,hw⟩:=hpre;have hw:=iv.1 hw;clear hok;generalize hn:list.length=n at *;refine⟨by omega,by omega,by omega,by omega,?_⟩;simp only[a0m,ahu];refine zq (fun i=>dv n fun y=>akp list y i.toNat) (n:=n) (by omega) rfl ?_ ?_
 ·intro i next i0 i1 hnx _ _
  try dsimp only
  have hy:=hw i i0 i1;simp only[brx i0]at hnx;refine al (fun _=>⟨i0,by omega,hy.1,by rw[br];exact hy.2,by rw[aj];(try dsimp only);omega,?_⟩) (fun h=>absurd i1 h);rw[aah hy.1 hy.2];refine (congrArg (fun z=>next (((),(i+1,())),(z,()))) (dg fun y _ _=>?_)).mp hnx
  try dsimp only
  by_cases e:list.getD i.toNat 0=y
  ·rw[d0 e,d0 e.symm]
  ·rw[ds e,ds fun h=>e h.symm]
 ·intro next _ _
  refine al (fun h=>absurd h (by dsimp only;omega)) (fun _=>?_);simp only[mj,ma,hn];rw[a0m]
theorem ag5:bn Tryz.prog 94 mj:=ctb ao ba 94 Tryz.f94 mj arl [] (by kernel_rfl) rfl (fun x K=>abz x.1 K) (fun _ _=>by kernel_rfl) (fun x h1 h2=>ata x.1 h1 h2)
theorem bfr{y:Int}:∀{l s:List Int},y∈l.foldl mg s->y∈s\/y∈l
 |[],s,h=>.inl h
 |k::l,s,h=>by
  rw[a16]at h;rcases bfr h with h|h
  ·unfold mg at h;split at h
   ·rcases a04.1 h with h|h
    ·exact .inl h
    ·rw[a0u]at h;exact .inr (by simp[h])
   ·exact .inl h
  ·exact .inr (by simp[h])
theorem azf:∀{l s:List Int},s.Nodup->(l.foldl mg s).Nodup
 |[],s,h=>h
 |k::l,s,h=>by
  rw[a16];refine azf ?_;unfold mg;split
  ·rename_i hk;unfold List.Nodup;rw[a5f];refine⟨h,a5g _ _,fun a ha b hb e=>?_⟩;rw[a0u]at hb;subst hb;subst e;have:=((sg (0:Int)).1 ha).1;omega
  ·exact h
theorem bml{l:List Int}(h:l.Nodup){i j:Nat}(hi:i<l.length)(hj:j<l.length)(e:l.getD i 0=l.getD j 0):i=j:=by simp only[a0n,a0o hi,a0o hj,a0z]at e;exact (List.getElem_inj h).1 e
theorem amo{l:List Int}{i:Nat}(h:i<l.length):l.getD i 0∈l:=by simp only[a0n,a0o h,a0z];exact a3c h
theorem at1{l:List Int}{y:Int}(h:y∈l):∃i,i<l.length/\l.getD i 0=y:=by obtain⟨i,hi,e⟩:=a2f h;exact⟨i,hi,by simp only[a0n,a0o hi,a0z];exact e⟩
theorem ba8{l:List Int}{k:Int}(h0:0<=k)(h1:k<jn (cn l)):∃i,i<l.length/\(cn l).getD i 0=k:=by
 have hle:jn (cn l)<=(ij l).length:=(blz (by omega) fun x hx=>by unfold cn at hx;obtain⟨y,hy,rfl⟩:=a2d.1 hx;exact ((sg (0:Int)).1 (alw (l:=l) (s:=[]) (.inr hy))).2.1).2;have hy:=amo (l:=ij l) (i:=k.toNat) (by omega);rcases bfr hy with h|h
 ·cases h
 ·obtain⟨i,hi,e⟩:=at1 h;refine⟨i,hi,?_⟩;rw[aoy hi,e];obtain⟨a0,a1,a2,_⟩:=(sg (0:Int)).1 hy;have hnd:(ij l).Nodup:=azf (l:=l) (s:=[]) List.nodup_nil;have:=bml hnd (i:=(ia (ij l) ((ij l).getD k.toNat 0)).toNat) (j:=k.toNat) (by omega) (by omega) a2;omega
theorem anm{c:List Int}{L:List ae}{s:ac}(C:ClaP s L c):∀m:Nat,m<=L.length->∀a:Nat,L.length-m<=a->a<L.length->((lsD c L m).getD (c.getD a 0).toNat (0,none)).2.isSome=true
 |0,_,a,h1,h2=>by omega
 |m+1,hm,a,h1,h2=>by
  have ih:=anm C m (by omega);have hln:=(ame C m (by omega)).n;simp only[lsD];generalize hi:L.length-1-m=i;have hci:=C.r (i:Int) (by omega) (by omega);rw[a0m]at hci;unfold lsS;split
  ·rename_i hb;rw[ab3 _ _ _ _ _ (by rw[hln];omega)];split
   ·rfl
   ·rename_i hne;have:a≠i:=fun e=>hne (by rw[e]);exact ih a (by omega) h2
  ·rename_i hb;by_cases e:a=i
   ·subst e;rw[Bool.not_eq_true,a12]at hb;have:=hb.1;rw[Option.isNone_eq_false_iff]at this;exact this
   ·exact ih a (by omega) h2
theorem ap9{l:List (Int×Option (List Int))}{k:Nat}:(o9 l).getD k (0,[])=((l.getD k (0,none)).1,(l.getD k (0,none)).2.getD []):=by unfold o9;simp only[a0n,a1b];cases l[k]? <;> rfl
structure KlsP (s:ac) (L:List ae) (K:ak):Prop where
 S:bi s=true
 H:ShrtP s L
 k:K.1=gg L L.length
 C:ClaP s L K.2.1
 n:(K.2.2.length:Int)=jn K.2.1
 mem:∀k:Int,0<=k->k<K.2.2.length->∃a:Int,0<=a/\a<L.length/\K.2.1.getD a.toNat 0=k/\K.2.2.getD k.toNat (0,[])=L.getD a.toNat (0,[])
 six:∀k:Int,0<=k->k<K.2.2.length->(K.2.2.getD k.toNat (0,[])).2.length≠6
theorem afx{s:ac}(hS:bi s=true)(h:q6 s=true):KlsP s (cp s).1 (pcR s):=by
 obtain⟨s0,s8,_⟩:=m4 hS;unfold q6 at h;rw[a0a]at h;obtain⟨hg,hs⟩:=h;have H:=aei s0 (by omega) hg;unfold pcR;generalize (cp s).1=L at *;have P:SetP s L (gg L L.length,([],[])):=⟨hS,H,rfl⟩;have Q:=au2 P L.length (a0f _);have C:ClaP s L (ku s L):=avb Q;have D:=ame C L.length (a0f _);have hln:(lsA s L).length=(jn (ku s L)).toNat:=D.n;have htl:(o9 (lsA s L)).length=(lsA s L).length:=by unfold o9;rw[a0x]
 refine⟨hS,H,rfl,C,?_,fun k k0 k1=>?_,fun k k0 k1=>?_⟩
 ·dsimp only;have:=C.le;omega
 ·dsimp only at k1⊢;have hr:(fa (jW s (gg L L.length,([],[])) L L.length)).length=L.length:=by unfold fa;rw[br,Q.n]
  obtain⟨i,i1,hi⟩:=ba8 (l:=fa (jW s (gg L L.length,([],[])) L L.length)) k0 (by have:jn (ku s L)=jn (cn (fa (jW s (gg L L.length,([],[])) L L.length))):=rfl;omega);have hsm:=anm C L.length (a0f _) i (by omega) (by omega);have hi':(ku s L).getD i 0=k:=hi;rw[hi']at hsm;rw[ap9];have hv:=D.v k.toNat;have hD:lsA s L=lsD (ku s L) L L.length:=rfl;rw[hD];generalize (lsD (ku s L) L L.length).getD k.toNat (0,none)=q at hsm hv⊢;obtain⟨x,o⟩:=q
  cases o with
  |none=>cases hsm
  |some es=>obtain⟨a,_,a0,a1,a2,a3⟩:=hv x es rfl;exact⟨a,a0,a1,by omega,a3.symm⟩
 ·dsimp only at k1⊢;rw[ap9];exact bd9.1 hs k k0 (by omega)
theorem KlsP.set{s:ac}{L:List ae}{K:ak}(P:KlsP s L K):SetP s L K:=⟨P.S,P.H,P.k⟩
theorem ag9{s:ac}{L:List ae}{K:ak}(P:KlsP s L K){p:ae}(hp:(bm s p).2=true):OfP K p.1 p.2 K.2.2.length/\agf s (K.2.2.getD (ofR K p.1 p.2).toNat (0,[])) p/\(bm s (K.2.2.getD (ofR K p.1 p.2).toNat (0,[]))).2=true:=by
 obtain⟨a0,a1,a2⟩:=P.set.at hp;have hr:=P.C.r _ a0 a1;have hn:=P.n;have o0:0<=ofR K p.1 p.2:=hr.1;have o1:ofR K p.1 p.2<K.2.2.length:=by have:=hr.2;unfold ofR;omega
 obtain⟨b,b0,b1,b2,b3⟩:=P.mem _ o0 o1;have hs:=P.C.st b _ b0 b1 a0 a1 b2;rw[a2]at hs;rw[b3];exact⟨⟨by have:=aak hp;omega,a0,by rw[P.C.n];exact a1,o0,o1⟩,hs,P.H.ok _ (jo (by omega))⟩
theorem am5{s:ac}{L:List ae}{K:ak}(P:KlsP s L K){k:Int}(k0:0<=k)(k1:k<K.2.2.length):(bm s (K.2.2.getD k.toNat (0,[]))).2=true/\(K.2.2.getD k.toNat (0,[])).2.length<6:=by obtain⟨a,a0,a1,_,a3⟩:=P.mem k k0 k1;have h6:=P.six k k0 k1;have hv:=P.H.ok _ (jo (l:=L) (i:=a.toNat) (by omega));have:=aak hv;rw[a3]at h6⊢;exact⟨hv,by omega⟩
def ja(s:ac)(K:ak):List Int:=pq K s (gh K.2.2.length)
structure OrdF (K:ak) (O:List Int):Prop where
 n:O.length=K.2.2.length
 r:∀i:Int,0<=i->i<O.length->0<=O.getD i.toNat 0/\O.getD i.toNat 0<K.2.2.length
 nd:O.Nodup
 su:∀c:Int,0<=c->c<K.2.2.length->c∈O
theorem aqz{n:Nat}{c:Int}:c∈gh (n:Int)<->0<=c/\c<n:=by
 unfold gh;rw[qy];constructor
 ·rintro⟨i,i0,i1,rfl⟩;omega
 ·rintro⟨h0,h1⟩;exact⟨c,h0,by omega,rfl⟩
theorem aql(s:ac)(K:ak):OrdF K (ja s K):=by
 have hp:=bha K s (gh K.2.2.length);have hl:(gh (K.2.2.length:Int)).length=K.2.2.length:=by unfold gh;rw[br];omega
 have hn:(ja s K).length=K.2.2.length:=hp.length_eq.trans hl;refine⟨hn,fun i i0 i1=>?_,?_,fun c c0 c1=>hp.mem_iff.2 (aqz.2 ⟨c0,c1⟩)⟩
 ·have:=hp.mem_iff.1 (amo (l:=ja s K) (i:=i.toNat) (by omega));exact aqz.1 this
 ·refine hp.nodup_iff.2 ?_;unfold gh List.Nodup;exact awn fun i j _ h _=>by omega
theorem bgo{l:List Int}{y:Int}:∀{m:Nat},(∃i,i<m/\l.getD i 0=y)->0<=akp l y m/\akp l y m<m/\l.getD (akp l y m).toNat 0=y
 |0,⟨i,h,_⟩=>by omega
 |m+1,⟨i,h,e⟩=>by
  unfold akp;split
  ·rename_i hm;exact⟨by omega,by omega,by rw[a0m];exact hm⟩
  ·rename_i hm
   have hi:i<m:=by
    rcases a1m i m with h'|h'
    ·exact h'
    ·exact absurd (by rw[show m=i from by omega];exact e) hm
   obtain⟨a,b,c⟩:=bgo ⟨i,hi,e⟩;exact⟨a,by omega,c⟩
theorem bqh{K:ak}{O:List Int}(F:OrdF K O){c:Int}(c0:0<=c)(c1:c<K.2.2.length):0<=(ma O).getD c.toNat 0/\(ma O).getD c.toNat 0<O.length/\O.getD ((ma O).getD c.toNat 0).toNat 0=c:=by have hn:=F.n;unfold ma;rw[pw c0 (by omega)];obtain⟨i,hi,e⟩:=at1 (F.su c c0 c1);exact bgo ⟨i,hi,e⟩
def bw(s:ac)(K:ak):List ae:=(ja s K).map fun c=>K.2.2.getD c.toNat (0,[])
theorem aqo{s:ac}{K:ak}{i:Nat}(h:i<(ja s K).length):(bw s K).getD i (0,[])=K.2.2.getD ((ja s K).getD i 0).toNat (0,[]):=by unfold bw;simp only[a0n,a1b,a0o h,a00,a0z]
theorem aht{s:ac}{K:ak}:(bw s K).length=(ja s K).length:=by unfold bw;rw[a0x]
def ads(s:ac)(K:ak)(x:Int)(es:List Int):Int:=(ma (ja s K)).getD (ofR K x es).toNat 0
theorem afv{s:ac}{L:List ae}{K:ak}(P:KlsP s L K){i:Int}(i0:0<=i)(i1:i<(bw s K).length):(bm s ((bw s K).getD i.toNat (0,[]))).2=true/\((bw s K).getD i.toNat (0,[])).2.length<6:=by rw[aht]at i1;have F:=aql s K;have:=F.r i i0 i1;rw[aqo (by omega)];exact am5 P this.1 this.2
theorem bcm{s:ac}{L:List ae}{K:ak}(P:KlsP s L K){p:ae}(hp:(bm s p).2=true):0<=ads s K p.1 p.2/\ads s K p.1 p.2<(bw s K).length/\(bw s K).getD (ads s K p.1 p.2).toNat (0,[])=K.2.2.getD (ofR K p.1 p.2).toNat (0,[])/\agf s ((bw s K).getD (ads s K p.1 p.2).toNat (0,[])) p:=by
 obtain⟨O,hs,_⟩:=ag9 P hp;have F:=aql s K;obtain⟨a0,a1,a2⟩:=bqh F O.o0 O.o1;have e:(bw s K).getD (ads s K p.1 p.2).toNat (0,[])=K.2.2.getD (ofR K p.1 p.2).toNat (0,[]):=by rw[aqo (by unfold ads;omega)];unfold ads;rw[a2]
 exact⟨a0,by rw[aht];exact a1,e,by rw[e];exact hs⟩
theorem bs8{s:ac}{L:List ae}{K:ak}(P:KlsP s L K){f g:Int}(f0:0<=f)(f1:f<(bw s K).length)(g0:0<=g)(g1:g<(bw s K).length)(hfg:(bm s ((bw s K).getD f.toNat (0,[]))).1=((bw s K).getD g.toNat (0,[])).1):PrvP K (ma (ja s K)) (bw s K) f g:=by
 obtain⟨p1,p2⟩:=afv P f0 f1;obtain⟨q1,q2⟩:=afv P g0 g1;have F:=aql s K
 have run:∀i:Nat,i<=((bw s K).getD g.toNat (0,[])).2.length->(bm s (w7 K (bw s K) f (((bw s K).getD g.toNat (0,[])).2.take i))).2=true/\(w7 K (bw s K) f (((bw s K).getD g.toNat (0,[])).2.take i)).2.length<6/\
   (bm s (w7 K (bw s K) f (((bw s K).getD g.toNat (0,[])).2.take i))).1=(bp s ((bw s K).getD g.toNat (0,[])).1 (((bw s K).getD g.toNat (0,[])).2.take i)).1/\
   ∀h:i<((bw s K).getD g.toNat (0,[])).2.length,(bm s ((w7 K (bw s K) f (((bw s K).getD g.toNat (0,[])).2.take i)).1,(w7 K (bw s K) f (((bw s K).getD g.toNat (0,[])).2.take i)).2++[((bw s K).getD g.toNat (0,[])).2.getD i 0])).2=true:=by
  obtain⟨g1',g2',g3'⟩:=jm q1;rw[g3']at q1;generalize (bw s K).getD g.toNat (0,[])=G at *
  have nxt:∀(i:Nat) (p:ae),i<G.2.length->(bm s p).2=true->p.2.length<6->(bm s p).1=(bp s G.1 (G.2.take i)).1->(bm s (p.1,p.2++[G.2.getD i 0])).2=true/\(bm s (p.1,p.2++[G.2.getD i 0])).1=(bp s G.1 (G.2.take (i+1))).1:=fun i p hi h1 h2 h3=>by
   have ht:G.2.take (i+1)=G.2.take i++[G.2.getD i 0]:=by have:=ii G.2 0 (i:=(i:Int)) (by omega) (by omega);rw[show ((i:Int)+1).toNat=i+1 from by omega,a0m]at this;exact this
   have hf:=q1;rw[←a10 (i+1) G.2,qz]at hf;by_cases hh:(bp s G.1 (G.2.take (i+1))).2=true
   ·have hh':=hh;rw[ht,qz]at hh⊢;by_cases h4:(bp s G.1 (G.2.take i)).2=true
    ·rw[d0 h4]at hh⊢;obtain⟨b1,b2,b3⟩:=jm h1;rw[alq (p:=(p.1,p.2++[G.2.getD i 0])) b1 (by rw[a0q];simp only[a0l,a0p];omega)];dsimp only;rw[b3]at h1 h3;rw[qz,d0 h1,h3];exact⟨hh,rfl⟩
    ·rw[ds h4]at hh;cases hh
   ·rw[ds hh]at hf;cases hf
  intro i
  induction i with
  |zero=>intro _;have hr0:w7 K (bw s K) f (G.2.take 0)=(bw s K).getD f.toNat (0,[]):=rfl;rw[hr0];exact⟨p1,p2,hfg,fun h=>(nxt 0 _ h p1 p2 hfg).1⟩
  |succ i ih=>
   intro hi;obtain⟨r1,r2,r3,r4⟩:=ih (by omega);have ht:G.2.take (i+1)=G.2.take i++[G.2.getD i 0]:=by have:=ii G.2 0 (i:=(i:Int)) (by omega) (by omega);rw[show ((i:Int)+1).toNat=i+1 from by omega,a0m]at this;exact this
   have hr:w7 K (bw s K) f (G.2.take (i+1))=aul K (w7 K (bw s K) f (G.2.take i)) (G.2.getD i 0):=by rw[ht];unfold w7;rw[a3j];rfl
   have n1:=nxt i _ (by omega) r1 r2 r3;generalize w7 K (bw s K) f (G.2.take i)=p at *;obtain⟨O,hs,hv⟩:=ag9 P n1.1;have hl:=am5 P O.o0 O.o1;have e1:(bm s (aul K p (G.2.getD i 0))).1=(bp s G.1 (G.2.take (i+1))).1:=hs.2.trans n1.2;rw[hr];exact⟨hv,hl.2,e1,fun h=>(nxt (i+1) _ h hv hl.2 e1).1⟩
 refine⟨f0,f1,g0,g1,by omega,fun i i0 i1=>?_,?_⟩
 ·obtain⟨_,_,_,r4⟩:=run i.toNat (by omega);exact (ag9 P (r4 (by omega))).1
 ·obtain⟨r1,_,_,_⟩:=run ((bw s K).getD g.toNat (0,[])).2.length (a0f _);rw[List.take_length]at r1;have O:=(ag9 P r1).1;have hb:(ma (ja s K)).length=K.2.2.length:=by unfold ma;rw[br,F.n]
  exact⟨O.le,O.a0,O.a1,O.o0,by rw[hb];exact O.o1⟩
theorem aiy{s:ac}(hS:bi s=true){e:Int}(e0:0<=e)(e1:e<s.2.1.length):(bm s (s.2.1.getD e.toNat 0,[e])).2=true/\(bm s (s.2.1.getD e.toNat 0,[e])).1=s.2.2.1.getD e.toNat 0:=by obtain⟨_,_,_,_,hw,_⟩:=m4 hS;obtain⟨w0,w1⟩:=iv.1 hw e e0 e1;rw[alq (p:=(s.2.1.getD e.toNat 0,[e])) (pz.2 ⟨w0,by dsimp only;omega⟩) (by simp)];dsimp only;rw[bp,d0 ⟨pz.2 ⟨e0,by omega⟩,rfl⟩];exact⟨rfl,rfl⟩
def adt(s:ac)(K:ak)(n:Nat):List Int:=dv n fun x=>ads s K x []
def ml(s:ac)(K:ak)(n:Nat):List Int:=dv n fun e=>ads s K (s.2.1.getD e.toNat 0) [e]
def kn(l:List ae):List Int:=l.map (·.1)
def toA(s:ac)(l:List ae):List Int:=l.map fun p=>(bm s p).1
def ang(s:ac)(K:ak):a8:=(s.1,(kn (bw s K),(toA s (bw s K),(adt s K s.1.toNat,[]))))
def pb(s:ac)(K:ak):a8:=(s.1,(kn (bw s K),(toA s (bw s K),(adt s K s.1.toNat,abl (ang s K) (zd K (ma (ja s K)) (bw s K))))))
theorem ayn{l:List ae}{i:Nat}(h:i<l.length):(kn l).getD i 0=(l.getD i (0,[])).1:=by unfold kn;simp only[a0n,a1b,a0o h,a00,a0z]
theorem bbk{s:ac}{l:List ae}{i:Nat}(h:i<l.length):(toA s l).getD i 0=(bm s (l.getD i (0,[]))).1:=by unfold toA;simp only[a0n,a1b,a0o h,a00,a0z]
theorem blk{s:ac}{L:List ae}{K:ak}(P:KlsP s L K){e:Int}(e0:0<=e)(e1:e<s.2.1.length):0<=(ml s K s.2.1.length).getD e.toNat 0/\(ml s K s.2.1.length).getD e.toNat 0<(bw s K).length/\
  (kn (bw s K)).getD ((ml s K s.2.1.length).getD e.toNat 0).toNat 0=s.2.1.getD e.toNat 0/\(toA s (bw s K)).getD ((ml s K s.2.1.length).getD e.toNat 0).toNat 0=s.2.2.1.getD e.toNat 0:=by
 unfold ml;rw[pw e0 (by omega)];obtain⟨h1,h2⟩:=aiy P.S e0 e1;obtain⟨a0,a1,_,hs⟩:=bcm P h1;dsimp only at a0 a1 hs;rw[ayn (by omega),bbk (by omega)];exact⟨a0,a1,hs.1,hs.2.trans h2⟩
theorem bkl{s:ac}{L:List ae}{K:ak}(P:KlsP s L K)(S:ShapeP (pb s K)):∀(es:List Int) (h n:Int),0<=h->h<(bw s K).length->(toA s (bw s K)).getD h.toNat 0=n->(bp s n es).2=true->bbt (pb s K) (ml s K s.2.1.length) h es
 |[],_,_,_,_,_,_=>trivial
 |e::r,h,n,h0,h1,ht,hf=>by
  simp only[bp]at hf;split at hf
  ·rename_i hc;obtain⟨e0,e1⟩:=pz.1 hc.1;obtain⟨a0,a1,a2,a3⟩:=blk P e0 (by omega);have hl:(ml s K s.2.1.length).length=s.2.1.length:=by unfold ml;rw[br]
   have hfl:(pb s K).2.1.length=(bw s K).length:=by unfold pb kn;rw[a0x]
   have hcomp:(pb s K).2.2.1.getD h.toNat 0=(pb s K).2.1.getD ((ml s K s.2.1.length).getD e.toNat 0).toNat 0:=by show (toA s (bw s K)).getD h.toNat 0=(kn (bw s K)).getD _ 0;rw[ht,a2,hc.2]
   have y:=S.yes h0 (by rw[hfl];exact h1) a0 (by rw[hfl];exact a1) hcomp;refine⟨⟨e0,by rw[hl];omega⟩,⟨a0,by rw[hfl];exact a1⟩,hcomp,bkl P S r _ (s.2.2.1.getD e.toNat 0) y.1 (by rw[←hfl];exact y.2.1) ?_ hf⟩;have:(pb s K).2.2.1.getD (fp (pb s K) h ((ml s K s.2.1.length).getD e.toNat 0)).toNat 0=(pb s K).2.2.1.getD ((ml s K s.2.1.length).getD e.toNat 0).toNat 0:=y.2.2.2;exact this.trans a3
  ·cases hf
theorem avr{s:ac}{L:List ae}{K:ak}(P:KlsP s L K)(hc:pf (pb s K)=true){l:List ae}{p:ae}(hp:(bm s p).2=true):AroP (pb s K,(l,ml s K s.2.1.length)) p:=by
 have S:ShapeP (pb s K):=by unfold pf at hc;rw[a0a]at hc;exact zy.1 hc.1
 obtain⟨a1,a2,a3⟩:=jm hp;obtain⟨b0,b1⟩:=pz.1 a1;have hx:p.1<(pb s K).1:=by show p.1<s.1;omega
 have hid:=S.idn b0 hx;have hi2:=S.idt p.1 b0 hx;have hfl:(pb s K).2.1.length=(bw s K).length:=by unfold pb kn;rw[a0x]
 rw[a3]at hp;exact⟨S,b0,hx,bkl P S p.2 _ p.1 hid.1 (by rw[←hfl];exact hid.2.1) hi2.2 hp⟩
theorem bfk{s:ac}(hS:bi s=true):(∀p∈s.2.2.2.1,(bm s p).2=true)/\∀p∈s.2.2.2.2,(bm s p).2=true:=by
 obtain⟨_,_,_,_,_,_,_,h8,h9⟩:=m4 hS;constructor
 ·intro p hp;obtain⟨i,i1,e⟩:=r9 hp;have:=(vu h9 (i:=(i:Int)) (by omega) (by omega) (by omega)).l2;rw[a0m,e]at this;exact this
 ·intro p hp;obtain⟨i,i1,e⟩:=r9 hp;have:=(vu h9 (i:=(i:Int)) (by omega) (by omega) (by omega)).r2;rw[a0m,e]at this;exact this
theorem bpv{s:ac}{L:List ae}{K:ak}(P:KlsP s L K):ClsP (s,(pb s K,(ml s K s.2.1.length,bw s K))):=by obtain⟨_,_,_,_,_,_,_,h8,_⟩:=m4 P.S;obtain⟨hl,hr⟩:=bfk P.S;refine⟨fun h p hp=>?_,fun h p hp=>avr P h (hl p hp),fun h p hp=>avr P h (hr p hp),h8⟩;obtain⟨i,i1,rfl⟩:=r9 hp;have:=(afv P (i:=(i:Int)) (by omega) (by exact Int.ofNat_lt.2 i1)).1;rw[a0m]at this;exact avr P h this
theorem bps{s:ac}{L:List ae}{K:ak}(P:KlsP s L K)(h40:(ja s K).length<=40):PrtP (s,(ang s K,(ml s K s.2.1.length,bw s K))) K (ma (ja s K)):=by refine⟨by show (kn _).length=_;unfold kn;rw[a0x],by show (toA s _).length=_;unfold toA;rw[a0x],by show (bw s K).length<=40;rw[aht];exact h40,fun f g f0 f1 g0 g1 h=>?_⟩;have h:(toA s (bw s K)).getD f.toNat 0=(kn (bw s K)).getD g.toNat 0:=h;dsimp only at f1 g1;rw[bbk (by omega),ayn (by omega)]at h;exact bs8 P f0 f1 g0 g1 h
def sr(s:ac):bpa:=(s,(pb s (pcR s),(ml s (pcR s) s.2.1.length,bw s (pcR s))))
def u9(s:ac):Bool:=q6 s&&decide ((ja s (pcR s)).length<=40)&&abt (sr s)
def mf:Sp:=⟨[(.pt SchemaT)],[false],true,fun x=>u9 x.1,fun x=>[bi x.1=true],[(false,(.pt (.p (.fz (.pt SchemaT)) (.p (.p (.fz (.int .i64)) (.p (.sl (.fz (.int .i64))) (.p (.sl (.fz (.int .i64))) (.p (.sl (.fz (.int .i64))) (.sl (.sl (.fz (.int .i64)))))))) (.p (.sl (.fz (.int .i64))) (.sl (.fz aq))))))),(false,(.fz (.er 119)))],fun x=>(sr x.1,false,()),[(false,(.fz .any)),(false,(.fz (.er 119)))],fun x=>((),true,())⟩
def fh:Ct:=ti mf true
def gx:Ct:=ti mf false
def ald:Ct:=spC mf
def ze:Ann:=(.s .n (.s .n (.s .n (.s .n (.s .n (.s .n (.s .n (.s (.s .n (.l [(4,(.ad 4 [.de])),(7,(.ad 7 [.de])),(8,(.bx (.ad 42 [.de]))),(45,(.d (.int .i64)))] [(4,(.pt (.fz (.pt (.p (.mp .str (.int .i64)) (.p (.sl (.int .i64)) (.sl (.p (.int .i64) (.sl (.int .i64)))))))))),(7,(.pt (.sl (.fz (.int .i64))))),(42,(.pt (.p (.fz (.pt (.p (.int .i64) (.p (.sl (.int .i64)) (.p (.sl (.int .i64)) (.p (.sl (.p (.int .i64) (.sl (.int .i64)))) (.sl (.p (.int .i64) (.sl (.int .i64)))))))))) (.p (.p (.fz (.int .i64)) (.p (.sl (.fz (.int .i64))) (.p (.sl (.fz (.int .i64))) (.p (.sl (.fz (.int .i64))) (.sl (.sl (.fz (.int .i64)))))))) (.p (.sl (.fz (.int .i64))) (.sl (.fz (.p (.int .i64) (.sl (.int .i64))))))))))] [0,43,44] .n)) (.s (.s .n (.l [(4,(.ad 4 [.de])),(7,(.ad 7 [.de])),(8,(.bx (.ad 42 [.de]))),(102,(.d (.int .i64)))] [(4,(.pt (.fz (.pt (.p (.mp .str (.int .i64)) (.p (.sl (.int .i64)) (.sl (.p (.int .i64) (.sl (.int .i64)))))))))),(7,(.pt (.sl (.fz (.int .i64))))),(42,(.pt (.p (.fz (.pt (.p (.int .i64) (.p (.sl (.int .i64)) (.p (.sl (.int .i64)) (.p (.sl (.p (.int .i64) (.sl (.int .i64)))) (.sl (.p (.int .i64) (.sl (.int .i64)))))))))) (.p (.p (.fz (.int .i64)) (.p (.sl (.fz (.int .i64))) (.p (.sl (.fz (.int .i64))) (.p (.sl (.fz (.int .i64))) (.sl (.sl (.fz (.int .i64)))))))) (.p (.sl (.fz (.int .i64))) (.sl (.fz (.p (.int .i64) (.sl (.int .i64))))))))))] [0,101] .n)) (.s (.s .n (.l [(4,(.ad 4 [.de])),(7,(.ad 7 [.de])),(8,(.bx (.ad 42 [.de]))),(128,(.d (.int .i64)))] [(4,(.pt (.fz (.pt (.p (.mp .str (.int .i64)) (.p (.sl (.int .i64)) (.sl (.p (.int .i64) (.sl (.int .i64)))))))))),(7,(.pt (.sl (.fz (.int .i64))))),(42,(.pt (.p (.fz (.pt (.p (.int .i64) (.p (.sl (.int .i64)) (.p (.sl (.int .i64)) (.p (.sl (.p (.int .i64) (.sl (.int .i64)))) (.sl (.p (.int .i64) (.sl (.int .i64)))))))))) (.p (.p (.fz (.int .i64)) (.p (.sl (.fz (.int .i64))) (.p (.sl (.fz (.int .i64))) (.p (.sl (.fz (.int .i64))) (.sl (.sl (.fz (.int .i64)))))))) (.p (.sl (.fz (.int .i64))) (.sl (.fz (.p (.int .i64) (.sl (.int .i64))))))))))] [126,127] .n)) .n))))))))))
def bet:FuncId->Option Ct:=lkp [(92,yy),(93,ly),(96,xv),(98,gy),(94,mj),(74,g6),(95,iy),(97,fg)]
def se(s:ac)(A:je fh.rt->Prop)(B:je gx.rt->Prop):Prop:=(cnd (q6 s) (((q6 s)=true)/\(((bi s)=true)/\(cnd false (B ((),(false,()))) (((List.length (pcR s).2.2)<=1000000)/\((OrdP (pcR s) s (gh (List.length (pcR s).2.2:Int)))/\(cnd (decide (40<(((List.length (pq (pcR s) s (gh (List.length (pcR s).2.2:Int)))):Nat):Int))) (B ((),(true,()))) (((List.length (pq (pcR s) s (gh (List.length (pcR s).2.2:Int))))<=40)/\(((bj (pq (pcR s) s (gh (List.length (pcR s).2.2:Int))) (((List.length (pq (pcR s) s (gh (List.length (pcR s).2.2:Int)))):Nat):Int))=true)/\(bc (S:=(bu2×(((List (ByteArray×Int))×bu0)×bu7))) (fun s1=>(fun next=>((inK .i64 s1.1.2.2.2.1)->((T.ok (T.mp T.str (.int .i64)) s1.2.1.1)->((T.ok (.sl (.int .i64)) s1.2.1.2.1)->((T.ok (.sl aq) s1.2.1.2.2)->((T.ok (.sl (.int .i64)) s1.2.2.1)->((inK .i64 s1.2.2.2.1.1.1)->((T.ok (.sl (.int .i64)) s1.2.2.2.1.1.2.1)->((T.ok (.sl (.int .i64)) s1.2.2.2.1.1.2.2.1)->((T.ok (.sl aq) s1.2.2.2.1.1.2.2.2.1)->((T.ok (.sl aq) s1.2.2.2.1.1.2.2.2.2)->((inK .i64 s1.2.2.2.1.2.1.1)->((T.ok (.sl (.int .i64)) s1.2.2.2.1.2.1.2.1)->((T.ok (.sl (.int .i64)) s1.2.2.2.1.2.1.2.2.1)->((T.ok (.sl (.int .i64)) s1.2.2.2.1.2.1.2.2.2.1)->((T.ok (.sl (.sl (.int .i64))) s1.2.2.2.1.2.1.2.2.2.2)->((T.ok (.sl (.int .i64)) s1.2.2.2.1.2.2.1)->((T.ok (.sl aq) s1.2.2.2.1.2.2.2)->(cnd (decide (s1.1.2.2.2.1<(((List.length (pq (pcR s) s (gh (List.length (pcR s).2.2:Int)))):Nat):Int))) ((0<=s1.1.2.2.2.1)/\((s1.1.2.2.2.1<(((List.length (pq (pcR s) s (gh (List.length (pcR s).2.2:Int)))):Nat):Int))/\((0<=(List.getD (pq (pcR s) s (gh (List.length (pcR s).2.2:Int))) s1.1.2.2.2.1.toNat 0))/\(((List.getD (pq (pcR s) s (gh (List.length (pcR s).2.2:Int))) s1.1.2.2.2.1.toNat 0)<(s1.2.1.2.2.length:Int))/\((s.2.1.length<=s.2.2.1.length)/\((inK .i64 (s.1-1))/\((ey s1.2.2.2.1.2.2.2.length (List.length ((List.getD s1.2.1.2.2 (Int.toNat (List.getD (pq (pcR s) s (gh (List.length (pcR s).2.2:Int))) s1.1.2.2.2.1.toNat 0)) (0,[]))::([]:List buv))) 32)/\((ey s1.2.2.2.1.2.1.2.1.length (List.length ((List.getD s1.2.1.2.2 (Int.toNat (List.getD (pq (pcR s) s (gh (List.length (pcR s).2.2:Int))) s1.1.2.2.2.1.toNat 0)) (0,[])).1::[])) 8)/\((ey s1.2.2.2.1.2.1.2.2.1.length (List.length ((bm s (List.getD s1.2.1.2.2 (Int.toNat (List.getD (pq (pcR s) s (gh (List.length (pcR s).2.2:Int))) s1.1.2.2.2.1.toNat 0)) (0,[]))).1::[])) 8)/\((inK .i64 (s1.1.2.2.2.1+1))/\(next (((),((),((),((s1.1.2.2.2.1+1),())))),(s1.2.1,(s1.2.2.1,((s1.2.2.2.1.1,((s1.2.2.2.1.2.1.1,((s1.2.2.2.1.2.1.2.1++((List.getD s1.2.1.2.2 (Int.toNat (List.getD (pq (pcR s) s (gh (List.length (pcR s).2.2:Int))) s1.1.2.2.2.1.toNat 0)) (0,[])).1::[])),((s1.2.2.2.1.2.1.2.2.1++((bm s (List.getD s1.2.1.2.2 (Int.toNat (List.getD (pq (pcR s) s (gh (List.length (pcR s).2.2:Int))) s1.1.2.2.2.1.toNat 0)) (0,[]))).1::[])),s1.2.2.2.1.2.1.2.2.2))),(s1.2.2.2.1.2.2.1,(s1.2.2.2.1.2.2.2++((List.getD s1.2.1.2.2 (Int.toNat (List.getD (pq (pcR s) s (gh (List.length (pcR s).2.2:Int))) s1.1.2.2.2.1.toNat 0)) (0,[]))::([]:List buv)))))),()))))))))))))))) (bc (S:=(bu2×(((List (ByteArray×Int))×bu0)×bu7))) (fun s2=>(fun next1=>((inK .i64 s2.1.2.2.2.1)->((T.ok (T.mp T.str (.int .i64)) s2.2.1.1)->((T.ok (.sl (.int .i64)) s2.2.1.2.1)->((T.ok (.sl aq) s2.2.1.2.2)->((T.ok (.sl (.int .i64)) s2.2.2.1)->((inK .i64 s2.2.2.2.1.1.1)->((T.ok (.sl (.int .i64)) s2.2.2.2.1.1.2.1)->((T.ok (.sl (.int .i64)) s2.2.2.2.1.1.2.2.1)->((T.ok (.sl aq) s2.2.2.2.1.1.2.2.2.1)->((T.ok (.sl aq) s2.2.2.2.1.1.2.2.2.2)->((inK .i64 s2.2.2.2.1.2.1.1)->((T.ok (.sl (.int .i64)) s2.2.2.2.1.2.1.2.1)->((T.ok (.sl (.int .i64)) s2.2.2.2.1.2.1.2.2.1)->((T.ok (.sl (.int .i64)) s2.2.2.2.1.2.1.2.2.2.1)->((T.ok (.sl (.sl (.int .i64))) s2.2.2.2.1.2.1.2.2.2.2)->((T.ok (.sl (.int .i64)) s2.2.2.2.1.2.2.1)->((T.ok (.sl aq) s2.2.2.2.1.2.2.2)->(cnd (decide (s2.1.2.2.2.1<s.1)) (((List.length ([]:List Int))<=1000000)/\((0<=(df s2.2.1 s2.1.2.2.2.1 []))/\(((df s2.2.1 s2.1.2.2.2.1 [])<(s2.2.1.2.1.length:Int))/\((0<=(List.getD s2.2.1.2.1 (Int.toNat (df s2.2.1 s2.1.2.2.2.1 [])) 0))/\(((List.getD s2.2.1.2.1 (Int.toNat (df s2.2.1 s2.1.2.2.2.1 [])) 0)<(s2.2.2.1.length:Int))/\((ey s2.2.2.2.1.2.1.2.2.2.1.length (List.length ((List.getD s2.2.2.1 (Int.toNat (List.getD s2.2.1.2.1 (Int.toNat (df s2.2.1 s2.1.2.2.2.1 [])) 0)) 0)::[])) 8)/\((inK .i64 (s2.1.2.2.2.1+1))/\(next1 (((),((),((),((s2.1.2.2.2.1+1),())))),(s2.2.1,(s2.2.2.1,((s2.2.2.2.1.1,((s2.2.2.2.1.2.1.1,(s2.2.2.2.1.2.1.2.1,(s2.2.2.2.1.2.1.2.2.1,((s2.2.2.2.1.2.1.2.2.2.1++((List.getD s2.2.2.1 (Int.toNat (List.getD s2.2.1.2.1 (Int.toNat (df s2.2.1 s2.1.2.2.2.1 [])) 0)) 0)::[])),s2.2.2.2.1.2.1.2.2.2.2)))),s2.2.2.2.1.2.2)),())))))))))))) (bc (S:=(bu2×(((List (ByteArray×Int))×bu0)×bu7))) (fun s3=>(fun next2=>((inK .i64 s3.1.2.2.2.1)->((T.ok (T.mp T.str (.int .i64)) s3.2.1.1)->((T.ok (.sl (.int .i64)) s3.2.1.2.1)->((T.ok (.sl aq) s3.2.1.2.2)->((T.ok (.sl (.int .i64)) s3.2.2.1)->((inK .i64 s3.2.2.2.1.1.1)->((T.ok (.sl (.int .i64)) s3.2.2.2.1.1.2.1)->((T.ok (.sl (.int .i64)) s3.2.2.2.1.1.2.2.1)->((T.ok (.sl aq) s3.2.2.2.1.1.2.2.2.1)->((T.ok (.sl aq) s3.2.2.2.1.1.2.2.2.2)->((inK .i64 s3.2.2.2.1.2.1.1)->((T.ok (.sl (.int .i64)) s3.2.2.2.1.2.1.2.1)->((T.ok (.sl (.int .i64)) s3.2.2.2.1.2.1.2.2.1)->((T.ok (.sl (.int .i64)) s3.2.2.2.1.2.1.2.2.2.1)->((T.ok (.sl (.sl (.int .i64))) s3.2.2.2.1.2.1.2.2.2.2)->((T.ok (.sl (.int .i64)) s3.2.2.2.1.2.2.1)->((T.ok (.sl aq) s3.2.2.2.1.2.2.2)->(cnd (decide (s3.1.2.2.2.1<(s.2.1.length:Int))) ((0<=s3.1.2.2.2.1)/\((s3.1.2.2.2.1<(s.2.1.length:Int))/\(((List.length (s3.1.2.2.2.1::[]))<=1000000)/\((0<=(df s3.2.1 (List.getD s.2.1 s3.1.2.2.2.1.toNat 0) (s3.1.2.2.2.1::[])))/\(((df s3.2.1 (List.getD s.2.1 s3.1.2.2.2.1.toNat 0) (s3.1.2.2.2.1::[]))<(s3.2.1.2.1.length:Int))/\((0<=(List.getD s3.2.1.2.1 (Int.toNat (df s3.2.1 (List.getD s.2.1 s3.1.2.2.2.1.toNat 0) (s3.1.2.2.2.1::[]))) 0))/\(((List.getD s3.2.1.2.1 (Int.toNat (df s3.2.1 (List.getD s.2.1 s3.1.2.2.2.1.toNat 0) (s3.1.2.2.2.1::[]))) 0)<(s3.2.2.1.length:Int))/\((ey s3.2.2.2.1.2.2.1.length (List.length ((List.getD s3.2.2.1 (Int.toNat (List.getD s3.2.1.2.1 (Int.toNat (df s3.2.1 (List.getD s.2.1 s3.1.2.2.2.1.toNat 0) (s3.1.2.2.2.1::[]))) 0)) 0)::[])) 8)/\((inK .i64 (s3.1.2.2.2.1+1))/\(next2 (((),((),((),((s3.1.2.2.2.1+1),())))),(s3.2.1,(s3.2.2.1,((s3.2.2.2.1.1,(s3.2.2.2.1.2.1,((s3.2.2.2.1.2.2.1++((List.getD s3.2.2.1 (Int.toNat (List.getD s3.2.1.2.1 (Int.toNat (df s3.2.1 (List.getD s.2.1 s3.1.2.2.2.1.toNat 0) (s3.1.2.2.2.1::[]))) 0)) 0)::[])),s3.2.2.2.1.2.2.2))),())))))))))))))) ((PrtP s3.2.2.2.1 s3.2.1 s3.2.2.1)/\((ClsP (s3.2.2.2.1.1,((s3.2.2.2.1.2.1.1,(s3.2.2.2.1.2.1.2.1,(s3.2.2.2.1.2.1.2.2.1,(s3.2.2.2.1.2.1.2.2.2.1,(abl s3.2.2.2.1.2.1 (zd s3.2.1 s3.2.2.1 s3.2.2.2.1.2.2.2)))))),s3.2.2.2.1.2.2)))/\(cnd (!(abt (s3.2.2.2.1.1,((s3.2.2.2.1.2.1.1,(s3.2.2.2.1.2.1.2.1,(s3.2.2.2.1.2.1.2.2.1,(s3.2.2.2.1.2.1.2.2.2.1,(abl s3.2.2.2.1.2.1 (zd s3.2.1 s3.2.2.1 s3.2.2.2.1.2.2.2)))))),s3.2.2.2.1.2.2)))) (B ((),(true,()))) (A ((s3.2.2.2.1.1,((s3.2.2.2.1.2.1.1,(s3.2.2.2.1.2.1.2.1,(s3.2.2.2.1.2.1.2.2.1,(s3.2.2.2.1.2.1.2.2.2.1,(abl s3.2.2.2.1.2.1 (zd s3.2.1 s3.2.2.1 s3.2.2.2.1.2.2.2)))))),s3.2.2.2.1.2.2)),(false,())))))))))))))))))))))))))) (((),((),((),(0,())))),(s2.2.1,(s2.2.2.1,(s2.2.2.2.1,()))))))))))))))))))))))))) (((),((),((),(0,())))),(s1.2.1,(s1.2.2.1,(s1.2.2.2.1,()))))))))))))))))))))))))) (((),((),((),(0,())))),((pcR s),((ma (pq (pcR s) s (gh (List.length (pcR s).2.2:Int)))),((s,((s.1,([],([],([],[])))),([],([]:List buv)))),()))))))))))))) (((q6 s)=false)/\(((bi s)=true)/\(cnd true (B ((),(true,()))) (False/\(False/\(False/\False)))))))
def ux(s:ac)(K:je fh.rt->Prop):Prop:=se s K (fun _=>False)
theorem ajn(s:ac)(hok:ab (okL fh.args (s,())))(hpre:ab (fh.pre (s,()))):ux s (fun r=>r=fh.res (s,())):=by
 simp only[fh,ti,mf,okL,T.oks,T.ok,ap,ab,a0e,a0b,a0h]at hok hpre
 try dsimp only[T.den]at hok hpre
 unfold ux se;obtain⟨hs,hS⟩:=hpre;clear hok;obtain⟨s0,s8,f8,tf,_,_,e8,re,_⟩:=m4 hS;unfold u9 at hs;rw[a0a,a0a,a06]at hs;obtain⟨⟨hp,h4⟩,hcl⟩:=hs;unfold sr at hcl;simp only[fh,ti,mf,sr];refine aw (fun _=>⟨hp,hS,aw (fun h=>by cases h) (fun _=>?_)⟩) (fun h=>by rw[hp]at h;cases h);have P:=afx hS hp;have F:=aql s (pcR s);have hO:pq (pcR s) s (gh ((pcR s).2.2.length:Int))=ja s (pcR s):=rfl;rw[hO];clear hO;generalize pcR s=K at *;have hC:=P.C.le;have hn:=P.n;have hH:=P.H.le;have hFn:=F.n;have hbl:(ma (ja s K)).length=K.2.2.length:=by unfold ma;rw[br,hFn]
 have hal:(bw s K).length=(ja s K).length:=aht;refine⟨by omega,⟨by omega,by rw[aj];(try dsimp only);omega,⟨by omega,fun p hp=>by obtain⟨i,i1,rfl⟩:=r9 hp;have:=(am5 P (k:=(i:Int)) (by omega) (by omega)).2;rw[a0m]at this;omega⟩,fun a ha=>aqz.1 ha⟩,al (fun h=>?_) (fun h=>?_)⟩
 ·omega
 have h40:(ja s K).length<=40:=by omega
 refine⟨h40,iv.2 fun i i0 i1=>by have:=F.r i i0 i1;omega,?_⟩;refine bz (fun (q:(bu2×(((List (ByteArray×Int))×bu0)×bu7)))=>0<=q.1.2.2.2.1/\q.1.2.2.2.1<=(ja s K).length/\q.2.1=K/\q.2.2.1=ma (ja s K)/\q.2.2.2.1=(s,((s.1,(kn ((bw s K).take q.1.2.2.2.1.toNat),(toA s ((bw s K).take q.1.2.2.2.1.toNat),([],[])))),([],(bw s K).take q.1.2.2.2.1.toNat)))) (fun (q:(bu2×(((List (ByteArray×Int))×bu0)×bu7)))=>((ja s K).length-q.1.2.2.2.1).toNat) ?_ ⟨a0r _,by dsimp only;omega,rfl,rfl,rfl⟩;rintro⟨⟨_,_,_,i,_⟩,k',b',o',_⟩ next ⟨i0,i1,q1,q2,q3⟩ hnx
 intros
 try dsimp only at i0 i1 q1 q2 q3 hnx⊢
 subst q1;subst q2;subst q3
 try dsimp only
 refine al (fun hi=>?_) (fun hi=>?_)
 ·have hr:=F.r i i0 hi;have ht:(bw s k').take (i+1).toNat=(bw s k').take i.toNat++[k'.2.2.getD ((ja s k').getD i.toNat 0).toNat (0,[])]:=by rw[ii (bw s k') (0,[]) i0 (by omega),aqo (by omega)]
  have htl:((bw s k').take i.toNat).length<=40:=by rw[a1d];omega
  refine⟨i0,hi,hr.1,hr.2,by omega,by rw[aj];(try dsimp only);omega,c7 (by simp only[a0l,a0p];omega),c7 (by unfold kn;rw[a0x];simp only[a0l,a0p];omega),c7 (by unfold toA;rw[a0x];simp only[a0l,a0p];omega),by rw[aj];(try dsimp only);omega,hnx _ ⟨by dsimp only;omega,by dsimp only;omega,rfl,rfl,?_⟩ (by dsimp only;omega)⟩
  try dsimp only
  rw[ht];simp only[kn,toA,a2o,a05,a2j]
 clear hnx;have e:i=(ja s k').length:=by omega
 subst e;rw[a0m,a29 (by omega)];refine bz (fun (q:(bu2×(((List (ByteArray×Int))×bu0)×bu7)))=>0<=q.1.2.2.2.1/\q.1.2.2.2.1<=s.1/\q.2.1=k'/\q.2.2.1=ma (ja s k')/\q.2.2.2.1=(s,((s.1,(kn (bw s k'),(toA s (bw s k'),(adt s k' q.1.2.2.2.1.toNat,[])))),([],bw s k')))) (fun (q:(bu2×(((List (ByteArray×Int))×bu0)×bu7)))=>(s.1-q.1.2.2.2.1).toNat) ?_ ⟨a0r _,by dsimp only;omega,rfl,rfl,rfl⟩;rintro⟨⟨_,_,_,x,_⟩,k2,b',o',_⟩ next ⟨x0,x1,q1,q2,q3⟩ hnx
 intros
 try dsimp only at x0 x1 q1 q2 q3 hnx⊢
 subst q1;subst q2;subst q3
 try dsimp only
 refine al (fun hx=>?_) (fun hx=>?_)
 ·have O:=(ag9 P (afy x0 hx)).1;refine⟨by simp,O.a0,O.a1,O.o0,by rw[hbl];exact O.o1,c7 (by unfold adt;rw[br];simp only[a0l,a0p];omega),by rw[aj];(try dsimp only);omega,hnx _ ⟨by dsimp only;omega,by dsimp only;omega,rfl,rfl,?_⟩ (by dsimp only;omega)⟩
  try dsimp only
  have:adt s k2 (x+1).toNat=adt s k2 x.toNat++[(ma (ja s k2)).getD (k2.2.1.getD (df k2 x []).toNat 0).toNat 0]:=by unfold adt;rw[wu x0];rfl
  rw[this]
 clear hnx;have e:x=s.1:=by omega
 subst e;refine bz (fun (q:(bu2×(((List (ByteArray×Int))×bu0)×bu7)))=>0<=q.1.2.2.2.1/\q.1.2.2.2.1<=s.2.1.length/\q.2.1=k2/\q.2.2.1=ma (ja s k2)/\q.2.2.2.1=(s,(ang s k2,(ml s k2 q.1.2.2.2.1.toNat,bw s k2)))) (fun (q:(bu2×(((List (ByteArray×Int))×bu0)×bu7)))=>(s.2.1.length-q.1.2.2.2.1).toNat) ?_ ⟨a0r _,by dsimp only;omega,rfl,rfl,rfl⟩;rintro⟨⟨_,_,_,x,_⟩,k3,b',o',_⟩ next ⟨x0,x1,q1,q2,q3⟩ hnx
 intros
 try dsimp only at x0 x1 q1 q2 q3 hnx⊢
 subst q1;subst q2;subst q3
 try dsimp only
 refine al (fun hx=>?_) (fun hx=>?_)
 ·have O:=(ag9 P (aiy hS x0 hx).1).1;refine⟨x0,hx,by simp,O.a0,O.a1,O.o0,by rw[hbl];exact O.o1,c7 (by unfold ml;rw[br];simp only[a0l,a0p];omega),by rw[aj];(try dsimp only);omega,hnx _ ⟨by dsimp only;omega,by dsimp only;omega,rfl,rfl,?_⟩ (by dsimp only;omega)⟩
  try dsimp only
  have:ml s k3 (x+1).toNat=ml s k3 x.toNat++[(ma (ja s k3)).getD (k3.2.1.getD (df k3 (s.2.1.getD x.toNat 0) [x]).toNat 0).toNat 0]:=by unfold ml;rw[wu x0];rfl
  rw[this]
 clear hnx;have e:x=s.2.1.length:=by omega
 subst e;rw[a0m];refine⟨bps P h40,bpv P,aw (fun h=>?_) (fun h=>?_)⟩
 ·exact absurd hcl (by rw[Bool.not_eq_true,←a1i];exact h)
 ·rfl
theorem ah2:bn Tryz.prog 75 fh:=ctb (af xy (af acv (af wy (af zk (af ag5 (af ot (af vt (af uh ao)))))))) ba 75 Tryz.f75 fh ze [(16,5008),(1,1500),(21,5013),(26,5014),(14,5007),(15,5009)] (by kernel_rfl) rfl (fun x K=>ux x.1 K) (fun _ _=>by kernel_rfl) (fun x h1 h2=>ajn x.1 h1 h2)
def uv(s:ac)(K:je gx.rt->Prop):Prop:=se s (fun _=>False) K
theorem ajc(s:ac)(hok:ab (okL gx.args (s,())))(hpre:ab (gx.pre (s,()))):uv s (fun r=>r=gx.res (s,())):=by
 simp only[gx,ti,mf,okL,T.oks,T.ok,ap,ab,a0e,a0b,a0h]at hok hpre
 try dsimp only[T.den]at hok hpre
 unfold uv se;obtain⟨hs,hS⟩:=hpre;clear hok;obtain⟨s0,s8,f8,tf,_,_,e8,re,_⟩:=m4 hS;unfold u9 sr at hs;refine aw (fun hp=>⟨hp,hS,aw (fun h=>by cases h) (fun _=>?_)⟩) (fun hp=>⟨hp,hS,aw (fun _=>rfl) (fun h=>by cases h)⟩);rw[hp,a1u]at hs;have P:=afx hS hp;have F:=aql s (pcR s);have hO:pq (pcR s) s (gh ((pcR s).2.2.length:Int))=ja s (pcR s):=rfl;rw[hO];clear hO;generalize pcR s=K at *;have hC:=P.C.le;have hn:=P.n;have hH:=P.H.le;have hFn:=F.n;have hbl:(ma (ja s K)).length=K.2.2.length:=by unfold ma;rw[br,hFn]
 have hal:(bw s K).length=(ja s K).length:=aht;refine⟨by omega,⟨by omega,by rw[aj];(try dsimp only);omega,⟨by omega,fun p hp=>by obtain⟨i,i1,rfl⟩:=r9 hp;have:=(am5 P (k:=(i:Int)) (by omega) (by omega)).2;rw[a0m]at this;omega⟩,fun a ha=>aqz.1 ha⟩,al (fun h=>?_) (fun h=>?_)⟩
 ·rfl
 have h40:(ja s K).length<=40:=by omega
 refine⟨h40,iv.2 fun i i0 i1=>by have:=F.r i i0 i1;omega,?_⟩;refine bz (fun (q:(bu2×(((List (ByteArray×Int))×bu0)×bu7)))=>0<=q.1.2.2.2.1/\q.1.2.2.2.1<=(ja s K).length/\q.2.1=K/\q.2.2.1=ma (ja s K)/\q.2.2.2.1=(s,((s.1,(kn ((bw s K).take q.1.2.2.2.1.toNat),(toA s ((bw s K).take q.1.2.2.2.1.toNat),([],[])))),([],(bw s K).take q.1.2.2.2.1.toNat)))) (fun (q:(bu2×(((List (ByteArray×Int))×bu0)×bu7)))=>((ja s K).length-q.1.2.2.2.1).toNat) ?_ ⟨a0r _,by dsimp only;omega,rfl,rfl,rfl⟩;rintro⟨⟨_,_,_,i,_⟩,k',b',o',_⟩ next ⟨i0,i1,q1,q2,q3⟩ hnx
 intros
 try dsimp only at i0 i1 q1 q2 q3 hnx⊢
 subst q1;subst q2;subst q3
 try dsimp only
 refine al (fun hi=>?_) (fun hi=>?_)
 ·have hr:=F.r i i0 hi;have ht:(bw s k').take (i+1).toNat=(bw s k').take i.toNat++[k'.2.2.getD ((ja s k').getD i.toNat 0).toNat (0,[])]:=by rw[ii (bw s k') (0,[]) i0 (by omega),aqo (by omega)]
  have htl:((bw s k').take i.toNat).length<=40:=by rw[a1d];omega
  refine⟨i0,hi,hr.1,hr.2,by omega,by rw[aj];(try dsimp only);omega,c7 (by simp only[a0l,a0p];omega),c7 (by unfold kn;rw[a0x];simp only[a0l,a0p];omega),c7 (by unfold toA;rw[a0x];simp only[a0l,a0p];omega),by rw[aj];(try dsimp only);omega,hnx _ ⟨by dsimp only;omega,by dsimp only;omega,rfl,rfl,?_⟩ (by dsimp only;omega)⟩
  try dsimp only
  rw[ht];simp only[kn,toA,a2o,a05,a2j]
 clear hnx;have e:i=(ja s k').length:=by omega
 subst e;rw[a0m,a29 (by omega)];refine bz (fun (q:(bu2×(((List (ByteArray×Int))×bu0)×bu7)))=>0<=q.1.2.2.2.1/\q.1.2.2.2.1<=s.1/\q.2.1=k'/\q.2.2.1=ma (ja s k')/\q.2.2.2.1=(s,((s.1,(kn (bw s k'),(toA s (bw s k'),(adt s k' q.1.2.2.2.1.toNat,[])))),([],bw s k')))) (fun (q:(bu2×(((List (ByteArray×Int))×bu0)×bu7)))=>(s.1-q.1.2.2.2.1).toNat) ?_ ⟨a0r _,by dsimp only;omega,rfl,rfl,rfl⟩;rintro⟨⟨_,_,_,x,_⟩,k2,b',o',_⟩ next ⟨x0,x1,q1,q2,q3⟩ hnx
 intros
 try dsimp only at x0 x1 q1 q2 q3 hnx⊢
 subst q1;subst q2;subst q3
 try dsimp only
 refine al (fun hx=>?_) (fun hx=>?_)
 ·have O:=(ag9 P (afy x0 hx)).1;refine⟨by simp,O.a0,O.a1,O.o0,by rw[hbl];exact O.o1,c7 (by unfold adt;rw[br];simp only[a0l,a0p];omega),by rw[aj];(try dsimp only);omega,hnx _ ⟨by dsimp only;omega,by dsimp only;omega,rfl,rfl,?_⟩ (by dsimp only;omega)⟩
  try dsimp only
  have:adt s k2 (x+1).toNat=adt s k2 x.toNat++[(ma (ja s k2)).getD (k2.2.1.getD (df k2 x []).toNat 0).toNat 0]:=by unfold adt;rw[wu x0];rfl
  rw[this]
 clear hnx;have e:x=s.1:=by omega
 subst e;refine bz (fun (q:(bu2×(((List (ByteArray×Int))×bu0)×bu7)))=>0<=q.1.2.2.2.1/\q.1.2.2.2.1<=s.2.1.length/\q.2.1=k2/\q.2.2.1=ma (ja s k2)/\q.2.2.2.1=(s,(ang s k2,(ml s k2 q.1.2.2.2.1.toNat,bw s k2)))) (fun (q:(bu2×(((List (ByteArray×Int))×bu0)×bu7)))=>(s.2.1.length-q.1.2.2.2.1).toNat) ?_ ⟨a0r _,by dsimp only;omega,rfl,rfl,rfl⟩;rintro⟨⟨_,_,_,x,_⟩,k3,b',o',_⟩ next ⟨x0,x1,q1,q2,q3⟩ hnx
 intros
 try dsimp only at x0 x1 q1 q2 q3 hnx⊢
 subst q1;subst q2;subst q3
 try dsimp only
 refine al (fun hx=>?_) (fun hx=>?_)
 ·have O:=(ag9 P (aiy hS x0 hx).1).1;refine⟨x0,hx,by simp,O.a0,O.a1,O.o0,by rw[hbl];exact O.o1,c7 (by unfold ml;rw[br];simp only[a0l,a0p];omega),by rw[aj];(try dsimp only);omega,hnx _ ⟨by dsimp only;omega,by dsimp only;omega,rfl,rfl,?_⟩ (by dsimp only;omega)⟩
  try dsimp only
  have:ml s k3 (x+1).toNat=ml s k3 x.toNat++[(ma (ja s k3)).getD (k3.2.1.getD (df k3 (s.2.1.getD x.toNat 0) [x]).toNat 0).toNat 0]:=by unfold ml;rw[wu x0];rfl
  rw[this]
 clear hnx;have e:x=s.2.1.length:=by omega
 subst e;rw[a0m];refine⟨bps P h40,bpv P,aw (fun h=>?_) (fun h=>?_)⟩
 ·rfl
 ·have h2:abt (s,(pb s k3,(ml s k3 s.2.1.length,bw s k3)))=true:=by rw[Bool.not_eq_eq_eq_not,Bool.not_false]at h;exact h
  have hs2:(decide ((ja s k3).length<=40)&&abt (s,(pb s k3,(ml s k3 s.2.1.length,bw s k3))))=true:=by rw[a0a,a06];exact⟨h40,h2⟩
  rw[hs2]at hs;cases hs
theorem air:bn Tryz.prog 75 gx:=ctb (af xy (af acv (af wy (af zk (af ag5 (af ot (af vt (af uh ao)))))))) ba 75 Tryz.f75 gx ze [(16,5008),(1,1500),(21,5013),(26,5014),(14,5007),(15,5009)] (by kernel_rfl) rfl (fun x K=>uv x.1 K) (fun _ _=>by kernel_rfl) (fun x h1 h2=>ajc x.1 h1 h2)
theorem abo:bn Tryz.prog 75 ald:=ba6 ah2 air
def zn:Sp:=⟨[(.pt SchemaT)],[false],true,fun x=>u9 x.1,fun x=>[bi x.1=true],[(false,(.pt (.p (.fz (.pt SchemaT)) (.p (.p (.fz (.int .i64)) (.p (.sl (.fz (.int .i64))) (.p (.sl (.fz (.int .i64))) (.p (.sl (.fz (.int .i64))) (.sl (.sl (.fz (.int .i64)))))))) (.p (.sl (.fz (.int .i64))) (.sl (.fz aq))))))),(false,(.fz (.int .i64)))],fun x=>(sr x.1,0,()),[(false,(.fz .any)),(false,(.fz (.int .i64)))],fun x=>((),3,())⟩
def amf:Ct:=ti zn true
def anb:Ct:=ti zn false
def af2:Ct:=spC zn
end Go.Bm
namespace Go.Proofs.NaAs
open Go.Proofs Go.RowKit Go.Extern.Stop Go.Stop Go.Extern
set_option maxRecDepth 100000
theorem as_nil(t:Value)(w:World) :
  Calls Tryz.prog 76 #[.nilIface,t] w fun e w'=>e=.returned (.bool false)/\w'=w:=by
 go_enter Tryz.func76,Tryz.ntmps76
 go_wp2
 go_ret
 exact⟨rfl,rfl⟩
theorem Tryz.valueOf27(t:Addr)(w:World):(ReflectliteValue.unpack (.iface 121 (.pointer (some t)))).run Tryz.prog w
  = .ok (.agg #[.pointer (some ⟨1,121,none⟩),.pointer (some ⟨w.heap.size,0,none⟩),.int .u64 150]) (w.alloc (.cells #[.pointer (some t)] 121)):=by kernel_rfl
theorem Tryz.type27(a : Addr)(w : World) : (ReflectliteValue.methodAny (ReflectliteValue.valueError "reflectlite.Value.Type" 0) (fun t _ _ _ => ReflectliteType.toType t) #[.agg #[.pointer (some ⟨1, 121, none⟩), .pointer (some a), .int .u64 150]]).run Tryz.prog w
  = .ok (.iface 170 (.agg #[.pointer (some ⟨1,121,none⟩)])) w:=by kernel_rfl
theorem Tryz.methodKind(h : Value)(w : World) : (Go.method 342 170 (.agg #[h]) "Kind").run Tryz.prog w = .ok (163, h) w := by kernel_rfl
theorem Tryz.kind27(w:World):((ReflectliteType.abiMethod fun t=>(fun a:Nat=>Value.int IntKind.u8 (a:Int)) <$> Rtype.kind t) #[.pointer (some ⟨1,121,none⟩)]).run Tryz.prog w=.ok (.int .u8 22) w:=by kernel_rfl
theorem Tryz.kind25(w:World):((ReflectliteType.abiMethod fun t=>(fun a:Nat=>Value.int IntKind.u8 (a:Int)) <$> Rtype.kind t) #[.pointer (some ⟨1,119,none⟩)]).run Tryz.prog w=.ok (.int .u8 25) w:=by kernel_rfl
theorem rlm(z:Sem Value)(f:TypeId->Addr->Nat->Nat->Sem Value)(v:Value) :
  ReflectliteValue.method z f #[v]=(do match ←ReflectliteValue.parts v with|none=>z|some (t,a,fl)=>f t a fl (fl%32)):=rfl
theorem Tryz.parts27(a:Addr)(w:World):(ReflectliteValue.parts (.agg #[.pointer (some ⟨1,121,none⟩),.pointer (some a),.int .u64 150])).run Tryz.prog w=.ok (some (121,a,150)) w:=by kernel_rfl
theorem Tryz.isNil27(a p:Addr)(W:World)(ha:W.cell? a=some (.pointer (some p))) :
  (ReflectliteValue.method (ReflectliteValue.valueError "reflectlite.Value.IsNil" 0) ReflectliteValue.isNil #[.agg #[.pointer (some ⟨1, 121, none⟩), .pointer (some a), .int .u64 150]]).run Tryz.prog W = .ok (.bool false) W := by
 rw[rlm];simp only[Sem.run_bind,Tryz.parts27,Result.andThen];simp[ReflectliteValue.isNil,loadVar,isAgg,underlying,Tryz.underlying121,ha,Result.andThen]
theorem Tryz.methodElem(h : Value)(w : World) : (Go.method 342 170 (.agg #[h]) "Elem").run Tryz.prog w = .ok (175, .agg #[h]) w := by kernel_rfl
theorem Tryz.methodImplements(h : Value)(w : World) : (Go.method 342 170 (.agg #[h]) "Implements").run Tryz.prog w = .ok (176, .agg #[h]) w := by kernel_rfl
theorem Tryz.methodAssignableTo(h : Value)(w : World) : (Go.method 342 170 (.agg #[h]) "AssignableTo").run Tryz.prog w = .ok (173, .agg #[h]) w := by kernel_rfl
theorem Tryz.elem27(w:World):(ReflectliteType.method ReflectliteType.elem #[.agg #[.pointer (some ⟨1,121,none⟩)]]).run Tryz.prog w=.ok (.iface 170 (.agg #[.pointer (some ⟨1,119,none⟩)])) w:=by kernel_rfl
theorem Tryz.implements25(w : World) : (ReflectliteType.relation "Implements" ReflectliteType.implements_ #[.agg #[.pointer (some ⟨1, 119, none⟩)], .iface 170 (.agg #[.pointer (some ⟨1, 115, none⟩)])]).run Tryz.prog w = .ok (.bool true) w := by kernel_rfl
theorem Tryz.typeOf25(v:Value)(w:World):(ReflectliteType.typeOf #[.iface 119 v]).run Tryz.prog w=.ok (.iface 170 (.agg #[.pointer (some ⟨1,119,none⟩)])) w:=by kernel_rfl
theorem Tryz.assignable25(w : World) : (ReflectliteType.relation "AssignableTo" ReflectliteType.assignableTo #[.agg #[.pointer (some ⟨1, 119, none⟩)], .iface 170 (.agg #[.pointer (some ⟨1, 119, none⟩)])]).run Tryz.prog w = .ok (.bool true) w := by kernel_rfl
theorem Tryz.valueOf25(e:ByteArray)(w:World):(ReflectliteValue.unpack (.iface 119 (.agg #[.string e]))).run Tryz.prog w
  = .ok (.agg #[.pointer (some ⟨1,119,none⟩),.pointer (some ⟨w.heap.size,0,none⟩),.int .u64 153]) (w.alloc (.cells #[.string e] 119)):=by kernel_rfl
theorem Tryz.elemOf27(w:World):(Rtype.elem? 121).run Tryz.prog w=.ok (some 119) w:=by kernel_rfl
theorem Tryz.mk25(p:Addr)(w:World):(ReflectliteValue.mk 119 p ReflectliteValue.flagAddr).run Tryz.prog w=.ok (.agg #[.pointer (some ⟨1,119,none⟩),.pointer (some p),.int .u64 409]) w:=by kernel_rfl
theorem Tryz.elemV27(a p:Addr)(W:World)(ha:W.cell? a=some (.pointer (some p))) :
  (ReflectliteValue.method (ReflectliteValue.valueError "reflectlite.Value.Elem" 0) ReflectliteValue.elem #[.agg #[.pointer (some ⟨1, 121, none⟩), .pointer (some a), .int .u64 150]]).run Tryz.prog W
   = .ok (.agg #[.pointer (some ⟨1,119,none⟩),.pointer (some p),.int .u64 409]) W:=by
 rw[rlm];simp only[Sem.run_bind,Tryz.parts27,Result.andThen];simp[ReflectliteValue.elem,loadVar,isAgg,underlying,Tryz.underlying121,ha,Result.andThen,Tryz.elemOf27,Tryz.mk25]
theorem rls(v x:Value):ReflectliteValue.set #[v,x]=(do
  let (some (dst,a,fl),some (src,b,_)):=(←ReflectliteValue.parts v,←ReflectliteValue.parts x)
   | unsupported (.noEntry "extern/(internal/reflectlite.Value).Set.zeroValue")
  if fl / ReflectliteValue.flagAddr % 2 == 0 then unsupported (.noEntry "extern/(internal/reflectlite.Value).Set.unaddressable")
  let val ←loadVar src b
  if ←Rtype.directlyAssignable dst src then storeVar dst a val
  else if ←Rtype.implements dst src then
   if (←Rtype.kind src)==20 then
    match val with
    | .nilIface => unsupported (.noEntry "extern/reflectlite: a nil value of one interface type handed on as a value of another")
    |_=>storeVar dst a val
   else storeVar dst a (.iface src val)
  else panicString ("reflectlite.Set: value of type " ++ (← Rtype.spelt src) ++ " is not assignable to type " ++ (← Rtype.spelt dst))
  pure (.tuple #[])):=rfl
theorem Tryz.parts25a(a:Addr)(w:World):(ReflectliteValue.parts (.agg #[.pointer (some ⟨1,119,none⟩),.pointer (some a),.int .u64 409])).run Tryz.prog w=.ok (some (119,a,409)) w:=by kernel_rfl
theorem Tryz.parts25(a:Addr)(w:World):(ReflectliteValue.parts (.agg #[.pointer (some ⟨1,119,none⟩),.pointer (some a),.int .u64 153])).run Tryz.prog w=.ok (some (119,a,153)) w:=by kernel_rfl
theorem Tryz.direct25(w:World):(Rtype.directlyAssignable 119 119).run Tryz.prog w=.ok true w:=by kernel_rfl
theorem Tryz.size25(w:World):(sizeOf 119).run Tryz.prog w=.ok 1 w:=by kernel_rfl
theorem Tryz.loadVar119{b:Addr}{e:ByteArray}{W:World}(hb:W.cell? b=some (.string e)):(loadVar 119 b).run Tryz.prog W=.ok (.agg #[.string e]) W:=by have hb':W.cell? { b with off:=b.off+0 }=some (.string e):=hb;simp[loadVar,isAgg,underlying,Tryz.underlying119,Tryz.size25,loadCells,loadCellsFrom,Addr.add,hb]
theorem Tryz.storeVar119{ta:Addr}{e:ByteArray}{old:Value}{W:World}(ht:W.cell? ta=some old)(hf:W.frozen? ta=false):(storeVar 119 ta (.agg #[.string e])).run Tryz.prog W=.ok () (W.setCell ta (.string e)):=by simp[storeVar,Tryz.size25,Value.cells,storeCells,Addr.add];rw[run_store Tryz.prog W ta _ _ (by rfl)];simp[ht,hf]
theorem Tryz.set25(ta b:Addr)(e:ByteArray)(old:Value)(W:World)(hb:W.cell? b=some (.string e))(ht:W.cell? ta=some old)(hf:W.frozen? ta=false) :
  (ReflectliteValue.set #[.agg #[.pointer (some ⟨1,119,none⟩),.pointer (some ta),.int .u64 409],.agg #[.pointer (some ⟨1,119,none⟩),.pointer (some b),.int .u64 153]]).run Tryz.prog W
   = .ok (.tuple #[]) (W.setCell ta (.string e)):=by
 rw[rls];simp only[Sem.run_bind,Tryz.parts25a,Tryz.parts25,Result.andThen];simp[ReflectliteValue.flagAddr,Tryz.loadVar119 hb,Result.andThen,Tryz.direct25,Tryz.storeVar119 ht hf]
set_option maxHeartbeats 4000000 in
theorem as_hit(e:ByteArray)(t:Addr)(old:Value)(w:World)(hg:w.cell? ⟨0,0,none⟩=some (.iface 170 (.agg #[.pointer (some ⟨1,115,none⟩)])))(ht0:w.cell? t=some old)(hf0:w.frozen? t=false) :
  Calls Tryz.prog 76 #[.iface 119 (.agg #[.string e]),.iface 121 (.pointer (some t))] w fun ev w'=>ev=.returned (.bool true)/\w'=((((w.alloc (.cells #[.pointer (some t)] 121)).alloc (.cells #[.pointer (some ⟨1,121,none⟩),.pointer (some ⟨w.heap.size,0,none⟩),.int .u64 150] 143)).alloc (.cells #[.pointer (some ⟨1,121,none⟩),.pointer (some ⟨w.heap.size,0,none⟩),.int .u64 150] 143)).alloc (.cells #[.string e] 119)).setCell t (.string e):=by
 have h6:=@run_callFunc_extern Tryz.prog 99 _ (fun args=>ReflectliteValue.unpack (args.getD 0 (.tuple #[]))) Tryz.func99 (by kernel_rfl) (by kernel_rfl) (by kernel_rfl) (by kernel_rfl);have h7 := @run_callFunc_extern Tryz.prog 100 _ (ReflectliteValue.methodAny (ReflectliteValue.valueError "reflectlite.Value.Type" 0) (fun t _ _ _ => ReflectliteType.toType t)) Tryz.func100 (by kernel_rfl) (by kernel_rfl) (by kernel_rfl) (by kernel_rfl);have h8 := @run_callFunc_extern Tryz.prog 101 _ (ReflectliteValue.method (ReflectliteValue.valueError "reflectlite.Value.IsNil" 0) ReflectliteValue.isNil) Tryz.func101 (by kernel_rfl) (by kernel_rfl) (by kernel_rfl) (by kernel_rfl);have h27:=@run_callFunc_extern Tryz.prog 163 _ (ReflectliteType.abiMethod fun t=>do pure (.int .u8 (←Rtype.kind t))) Tryz.func163 (by kernel_rfl) (by kernel_rfl) (by kernel_rfl) (by kernel_rfl);have h37:=@run_callFunc_extern Tryz.prog 175 _ (ReflectliteType.method ReflectliteType.elem) Tryz.func175 (by kernel_rfl) (by kernel_rfl) (by kernel_rfl) (by kernel_rfl);have h38 := @run_callFunc_extern Tryz.prog 176 _ (ReflectliteType.relation "Implements" ReflectliteType.implements_) Tryz.func176 (by kernel_rfl) (by kernel_rfl) (by kernel_rfl) (by kernel_rfl);have h10:=@run_callFunc_extern Tryz.prog 122 _ ReflectliteType.typeOf Tryz.func122 (by kernel_rfl) (by kernel_rfl) (by kernel_rfl) (by kernel_rfl);have h35 := @run_callFunc_extern Tryz.prog 173 _ (ReflectliteType.relation "AssignableTo" ReflectliteType.assignableTo) Tryz.func173 (by kernel_rfl) (by kernel_rfl) (by kernel_rfl) (by kernel_rfl);have h11 := @run_callFunc_extern Tryz.prog 123 _ (ReflectliteValue.method (ReflectliteValue.valueError "reflectlite.Value.Elem" 0) ReflectliteValue.elem) Tryz.func123 (by kernel_rfl) (by kernel_rfl) (by kernel_rfl) (by kernel_rfl);have h12:=@run_callFunc_extern Tryz.prog 124 _ ReflectliteValue.set Tryz.func124 (by kernel_rfl) (by kernel_rfl) (by kernel_rfl) (by kernel_rfl);have tO:=Tryz.typeOf25;have mA:=Tryz.methodAssignableTo;have a25:=Tryz.assignable25;have v25:=Tryz.valueOf25;have f6:=Tryz.valueOf27;have f7:=Tryz.type27;have mK:=Tryz.methodKind;have mE:=Tryz.methodElem;have mI:=Tryz.methodImplements;have k27:=Tryz.kind27;have k25:=Tryz.kind25;have e27:=Tryz.elem27;have i25:=Tryz.implements25;have n8:=Tryz.isNil27 ⟨w.heap.size,0,none⟩ t ((w.alloc (.cells #[.pointer (some t)] 121)).alloc (.cells #[.pointer (some ⟨1,121,none⟩),.pointer (some ⟨w.heap.size,0,none⟩),.int .u64 150] 143)) (by simp)
 have hlt:0<w.heap.size:=by
  rcases Nat.eq_zero_or_pos w.heap.size with h0|h
  ·simp[World.cell?,h0]at hg
  ·exact h
 have hg2:((w.alloc (.cells #[.pointer (some t)] 121)).alloc (.cells #[.pointer (some ⟨1,121,none⟩),.pointer (some ⟨w.heap.size,0,none⟩),.int .u64 150] 143)).cell? ⟨0,0,none⟩=some (.iface 170 (.agg #[.pointer (some ⟨1,115,none⟩)])):=by rw[World.cell?_alloc_lt _ _ ⟨0,0,none⟩ (by simp),World.cell?_alloc_lt _ _ ⟨0,0,none⟩ hlt];exact hg
 have htl:t.block<w.heap.size:=by
  rcases Nat.lt_or_ge t.block w.heap.size with h|h
  ·exact h
  ·simp[World.cell?,Array.getElem?_eq_none h]at ht0
 have el:=Tryz.elemV27 ⟨w.heap.size,0,none⟩ t (((w.alloc (.cells #[.pointer (some t)] 121)).alloc (.cells #[.pointer (some ⟨1,121,none⟩),.pointer (some ⟨w.heap.size,0,none⟩),.int .u64 150] 143)).alloc (.cells #[.pointer (some ⟨1,121,none⟩),.pointer (some ⟨w.heap.size,0,none⟩),.int .u64 150] 143)) (by rw[World.cell?_alloc_lt _ _ ⟨w.heap.size,0,none⟩ (by simp;omega)];simp)
 have st:=Tryz.set25 t ⟨w.heap.size+1+1+1,0,none⟩ e old ((((w.alloc (.cells #[.pointer (some t)] 121)).alloc (.cells #[.pointer (some ⟨1,121,none⟩),.pointer (some ⟨w.heap.size,0,none⟩),.int .u64 150] 143)).alloc (.cells #[.pointer (some ⟨1,121,none⟩),.pointer (some ⟨w.heap.size,0,none⟩),.int .u64 150] 143)).alloc (.cells #[.string e] 119))
  (by rw[World.cell?_alloc_at _ _ _ _ (by simp)];rfl)
  (by rw[World.cell?_alloc_lt _ _ t (by simp;omega),World.cell?_alloc_lt _ _ t (by simp;omega),World.cell?_alloc_lt _ _ t (by simp;omega),World.cell?_alloc_lt _ _ t htl];exact ht0)
  (by rw[World.frozen?_alloc_old _ _ t (by simp;omega),World.frozen?_alloc_old _ _ t (by simp;omega),World.frozen?_alloc_old _ _ t (by simp;omega),World.frozen?_alloc_old _ _ t (Nat.ne_of_lt htl)];exact hf0)
 go_enter Tryz.func76,Tryz.ntmps76
 go_wp2
 refine wp_loop_rounds 1 ?_;rw[rounds_succ]
 go_wp2
 go_ret
 exact⟨rfl,rfl⟩
end Go.Proofs.NaAs
namespace Go.Bm
open Go.Proofs Go.RowKit
theorem brc : Tryz.prog.globalNamed "errors.errorType" = some 0 := by kernel_rfl
theorem bq2 : (Tryz.prog.cutTypes.find? (·.1 == "internal/reflectlite.rtype")).map (·.2) = some 170 := by kernel_rfl
theorem bm1:((List.range 242).filter fun t=>Tryz.prog.rowNamed t [101,114,114,111,114])=[115]:=by kernel_rfl
theorem bmh:Tryz.prog.types.size=242:=by kernel_rfl
theorem bnv{A:Nat->Prop}{w:World}(h:ErrG Tryz.prog A w):w.cell? ⟨0,0,none⟩=some (.iface 170 (.agg #[.pointer (some ⟨1,115,none⟩)])):=by
 obtain⟨h1,rt,et,e2,e3,e4,e5⟩:=h 0 brc;obtain rfl:=a28 (bq2.symm.trans e2);have hm:et∈(List.range 242).filter fun t=>Tryz.prog.rowNamed t [101,114,114,111,114]:=a4i.2 ⟨List.mem_range.2 (by rw[←bmh];exact e3),e4⟩;rw[bm1]at hm;obtain rfl:=a0u.1 hm;have hh:typeHandle Tryz.prog 115=.pointer (some ⟨1,115,none⟩):=by kernel_rfl
 rw[hh]at e5;exact e5
def prO:O:=(.pt (.p (.fz (.pt SchemaT)) (.p (.p (.fz (.int .i64)) (.p (.sl (.fz (.int .i64))) (.p (.sl (.fz (.int .i64))) (.p (.sl (.fz (.int .i64))) (.sl (.sl (.fz (.int .i64)))))))) (.p (.sl (.fz (.int .i64))) (.sl (.fz aq))))))
theorem bff{A:Nat->Prop}{w:World}{t:T}{us:List Value}{x:dy [t]}(hr:oi A w [false] [t] x us):∃u,us=[u]:=by obtain⟨u,us',vs,rfl,_,_,_,h⟩:=hr;have h:us'=[]:=h;subst h;exact⟨u,rfl⟩
theorem bst{A:Nat->Prop}{w:World}{u:Value}{x:dy [T.pt SchemaT]}(hE:ErrG Tryz.prog A w)(hA:∀b,A b->b<w.heap.size)(hr:oi A w [false] [.pt SchemaT] x [u])(h1:u9 x.1=true)(h2:bi x.1=true) :
  Calls Tryz.prog 75 #[u] w fun e w'=>∃v1 S,e=.returned (.tuple #[v1,.nilIface])/\Ext w w'/\(∀b,S b->w.heap.size<=b/\b<w'.heap.size)/\
   Rel (fun b=>b<w'.heap.size/\(true=true/\A b\/w.heap.size<=b)/\¬S b) w' prO (sr x.1) S [v1]:=by
 refine (abo.2.1 A w [u] x hE hA hr ⟨h1,h2,trivial⟩).mono ?_;rintro e w' ⟨rs,S,rfl,hext,hS,hres⟩;obtain⟨u1,us1,vs1,S1,S2,rfl,_,g2,s1,_,_,r1,r2⟩:=hres;obtain⟨u2,us2,vs2,S3,S4,rfl,_,g2',_,_,_,q1,q2⟩:=r2;have q2:us2=[]:=q2;subst q2;have g2:=g2 rfl;have g2':=g2' rfl;subst g2;subst g2';simp only[Rel,ai]at q1;have q1:(false=false/\[u2]=[Value.nilIface])\/∃s,false=true/\[u2]=[Value.iface 119 (.agg #[.string s])]:=q1
 have e2:u2=.nilIface:=by
  rcases q1 with⟨_,h⟩|⟨s,h,_⟩
  ·simpa using h
  ·cases h
 subst e2;exact⟨u1,S1,rfl,hext,fun b hb=>hS b (s1 b hb),Rel.keep (fun b hb=>⟨⟨hb.1,hb.2.1,fun h=>hb.2.2 (s1 b h)⟩,rfl⟩) _ _ _ _ (fun _ _=>rfl) r1⟩
theorem br0{A:Nat->Prop}{w:World}{u:Value}{x:dy [T.pt SchemaT]}(hE:ErrG Tryz.prog A w)(hA:∀b,A b->b<w.heap.size)(hr:oi A w [false] [.pt SchemaT] x [u])(h1:u9 x.1=false)(h2:bi x.1=true) :
  Calls Tryz.prog 75 #[u] w fun e w'=>∃v1 s,e=.returned (.tuple #[v1,.iface 119 (.agg #[.string s])])/\Ext w w':=by
 refine (abo.2.2 A w [u] x hE hA hr ⟨h1,h2,trivial⟩).mono ?_;rintro e w' ⟨rs,S,rfl,hext,hS,hres⟩;obtain⟨u1,us1,vs1,S1,S2,rfl,_,g2,s1,_,_,r1,r2⟩:=hres;obtain⟨u2,us2,vs2,S3,S4,rfl,_,g2',_,_,_,q1,q2⟩:=r2;have q2:us2=[]:=q2;subst q2;have g2':=g2' rfl;subst g2';simp only[Rel,ai]at q1;have q1:(true=false/\[u2]=[Value.nilIface])\/∃s,true=true/\[u2]=[Value.iface 119 (.agg #[.string s])]:=q1;rcases q1 with⟨h,_⟩|⟨s,_,h⟩
 ·cases h
 ·have e2:u2=.iface 119 (.agg #[.string s]):=by simpa using h
  subst e2;exact⟨u1,s,rfl,hext⟩
theorem aca{w w':World}{o:Obj}(h:Ext w w'):Ext w (w'.alloc o):=by
 have hs:(w'.alloc o).heap=w'.heap.push o:=rfl;refine⟨h.os,⟨h.tape.1,h.tape.2⟩,h.output,?_,fun b hb=>?_⟩
 ·rw[hs,a43];have:=h.size;omega
 ·rw[hs,Array.getElem?_push,ds (by have:=h.size;omega)];exact h.old b hb
theorem azu{w:World}{o:Obj}{b:Nat}(hb:b<w.heap.size):(w.alloc o).heap[b]? = w.heap[b]?:=by have hs:(w.alloc o).heap=w.heap.push o:=rfl;rw[hs,Array.getElem?_push,ds (by omega)]
theorem br5:bn Tryz.prog 46 amf:=by
 refine⟨tq (fn:=Tryz.f46) (c:=qg Tryz.f46) (by kernel_rfl) (by kernel_rfl) (by kernel_rfl),fun A w us x hE hA hr hp=>?_⟩;obtain⟨h1,h2,_⟩:=hp;obtain⟨u,rfl⟩:=bff hr;have hpres:=bst hE hA hr h1 h2;show Calls Tryz.prog 46 #[u] w _
 go_enter Tryz.func46,Tryz.ntmps46
 go_wp2_with (first|(go_at_call 75;refine hpres.mono ?_;rintro e w' ⟨v1,S,rfl,hext,hS,hrel⟩)|(go_at_call 76;refine (NaAs.as_nil _ _).mono ?_;rintro e w' ⟨rfl,rfl⟩))
 go_ret2
 refine⟨[v1,.int .i64 0],S,rfl,aca hext,fun b hb=>?_,?_⟩
 ·have:=hS b hb;have hs:(w'.alloc (.cells #[.string ByteArray.empty] 119)).heap.size=w'.heap.size+1:=by show (w'.heap.push _).size=_;rw[a43]
  exact⟨this.1,by have:=this.2;exact a1o this (by show _<=(w'.heap.push _).size;rw[a43];omega)⟩
 ·refine⟨v1,[.int .i64 0],[v1],S,fun _=>False,rfl,(fun h=>by cases h),fun _=>rfl,fun b hb=>hb,(fun b hb=>hb.elim),(fun b _ h=>h.elim),?_,.int .i64 0,[],[.int .i64 0],fun _=>False,fun _=>False,rfl,(fun h=>by cases h),fun _=>rfl,fun b hb=>hb,fun b hb=>hb,(fun b hb=>hb.elim),?_,rfl⟩
  ·refine Rel.keep (fun b hb=>⟨⟨?_,hb.2.1.elim (fun h=>.inl ⟨rfl,h.2⟩) .inr,hb.2.2⟩,azu hb.1⟩) _ _ _ _ (fun b hb=>azu (hS b hb).2) hrel;show _<(w'.heap.push _).size;rw[a43];have:=hb.1;omega
  ·simp only[Rel,c9];have h:inK .i64 (0:Int):=by unfold inK;decide
   exact⟨rfl,h⟩
theorem bsu:bn Tryz.prog 46 anb:=by
 refine⟨tq (fn:=Tryz.f46) (c:=qg Tryz.f46) (by kernel_rfl) (by kernel_rfl) (by kernel_rfl),fun A w us x hE hA hr hp=>?_⟩;obtain⟨h1,h2,_⟩:=hp;obtain⟨u,rfl⟩:=bff hr;have hpres:=br0 hE hA hr h1 h2;have hg:=bnv hE;have h0:0<w.heap.size:=cell_lt hg;show Calls Tryz.prog 46 #[u] w _
 go_enter Tryz.func46,Tryz.ntmps46
 go_wp2_with (first|(go_at_call 75;refine hpres.mono ?_;rintro e w' ⟨v1,s,rfl,hext⟩)|(go_at_call 76;refine (NaAs.as_hit s _ (.string ⟨#[]⟩) _ ?_ ?_ ?_).mono ?_;rotate_left 3;rintro e w' ⟨rfl,rfl⟩))
 ·go_ret2
  refine⟨[.pointer none,.int .i64 3],fun _=>False,rfl,aca (aca (aca (aca (aca hext)))),(fun b hb=>hb.elim),?_⟩;refine⟨.pointer none,[.int .i64 3],[.pointer none],fun _=>False,fun _=>False,rfl,(fun h=>by cases h),fun _=>rfl,fun b hb=>hb,fun b hb=>hb,(fun b hb=>hb.elim),?_,.int .i64 3,[],[.int .i64 3],fun _=>False,fun _=>False,rfl,(fun h=>by cases h),fun _=>rfl,fun b hb=>hb,fun b hb=>hb,(fun b hb=>hb.elim),?_,rfl⟩
  ·simp only[Rel,ai];exact⟨_,rfl,rfl⟩
  ·simp only[Rel,c9];have h:inK .i64 (3:Int):=by unfold inK;decide
   exact⟨rfl,h⟩
 ·have hs:=hext.size;rw[World.cell?_alloc_lt _ _ ⟨0,0,none⟩ (by show 0<w'.heap.size;omega),azd (hext.old 0 h0)];exact hg
 ·simp
 ·simp
theorem an9:bn Tryz.prog 46 af2:=ba6 br5 bsu
def iw:Ct:=⟨[(.pt az),(.pt az)],[false,false],fun x=>[],[(false,(.fz .bool))],fun x=>(eqR az x.1 x.2.1,()),false,none⟩
def amd:Ann:=(.s .n (.s .n (.s (.s .n (.l [(69,(.d (.int .i64)))] [] [0,1,68] .n)) .n)))
def yg(c:a8)(d:a8)(K:Bool×Unit->Prop):Prop:=(cnd (((((c.1 != d.1)||(!(eqR (.sl (.int .i64)) c.2.1 d.2.1)))||(!(eqR (.sl (.int .i64)) c.2.2.1 d.2.2.1)))||(!(eqR (.sl (.int .i64)) c.2.2.2.1 d.2.2.2.1)))||((c.2.2.2.2.length:Int) != (d.2.2.2.2.length:Int))) (K (false,())) (bc (S:=bux) (fun s=>(fun next=>((inK .i64 s.1.1)->(cnd (decide (s.1.1<(c.2.2.2.2.length:Int))) ((0<=s.1.1)/\((s.1.1<(c.2.2.2.2.length:Int))/\((0<=s.1.1)/\((s.1.1<(d.2.2.2.2.length:Int))/\(cnd (!(eqR (.sl (.int .i64)) (c.2.2.2.2.getD s.1.1.toNat []) (d.2.2.2.2.getD s.1.1.toNat []))) (K (false,())) ((inK .i64 (s.1.1+1))/\(next (((s.1.1+1),()),())))))))) (K (true,())))))) ((0,()),())))
theorem anz(c:a8)(d:a8)(hok:ab (okL iw.args (c,d,())))(hpre:ab (iw.pre (c,d,()))):yg c d (fun r=>r=iw.res (c,d,())):=by
 simp only[iw,okL,T.oks,T.ok,ap,ab,a0e,a0b,a0h]at hok hpre
 try dsimp only[T.den]at hok hpre
 unfold yg;have res:∀b,eqR az c d=b->(b,())=iw.res (c,d,()):=fun b h=>by simp only[iw,h]
 have hl:c.2.2.2.2.length<=140737488355328:=by simp only[b9]at hok;omega
 refine aw (fun hx=>res _ ?_) (fun hx=>?_)
 ·rw[vz];rintro rfl;simp[aby]at hx
 simp only[a12,a1v,a1a,dc]at hx;obtain⟨⟨⟨⟨h1,h2⟩,h3⟩,h4⟩,h5⟩:=hx;refine fx (n:=c.2.2.2.2.length) (fun i=>c.2.2.2.2.take i.toNat=d.2.2.2.2.take i.toNat) (by omega) (by simp) ?_ ?_
 ·intro i next i0 i1 hP hn hin
  try dsimp only
  have hta:=ii c.2.2.2.2 [] i0 i1;have htb:=ii d.2.2.2.2 [] i0 (by omega);refine al (fun _=>⟨i0,by omega,i0,by omega,aw (fun h=>res _ ?_) (fun h=>⟨by rw[aj];(try dsimp only);omega,hn ?_⟩)⟩) (fun h=>absurd i1 h)
  ·rw[vz];rintro rfl;simp[aby]at h
  ·simp only[a1v,dc]at h;rw[hta,htb,hP,h]
 ·intro next hP hin
  rw[jr _ (a0r _),jr _ (by omega)]at hP;refine al (fun h=>absurd h (a18 _)) (fun _=>res _ ?_);rw[dc];exact a2w h1 (a2w h2 (a2w h3 (a2w h4 hP)))
theorem am8:bn Tryz.prog 62 iw:=ctb (af apb ao) ba 62 Tryz.f62 iw amd [(1,58),(6,16)] (by kernel_rfl) rfl (fun x K=>yg x.1 x.2.1 K) (fun _ _=>by kernel_rfl) (fun x h1 h2=>anz x.1 x.2.1 h1 h2)
def rl(s:ac)(f:bf):List (List Int)×Int:=if (bi s&&pd f)=true then (if u9 s=true then (if eqR az (pb s (pcR s)) f.1=true then (apz (sr s) f,0)else ([],5))else ([],3))else ([],1)
theorem bic{s:ac}{f:bf}(hS:bi s=true)(hP:u9 s=true)(S:SfP f)(hl:f.1.2.1.length=(bw s (pcR s)).length):EdmP (sr s) f:=by
 unfold u9 at hP;rw[a0a,a0a,a06]at hP;have K:=afx hS hP.1.1;obtain⟨s0,s8,f8,_⟩:=m4 hS;refine⟨?_,fun a ha=>?_,fun r hr=>?_⟩
 ·show (ml s (pcR s) s.2.1.length).length<=8;unfold ml;rw[br];exact f8
 ·have ha:a∈ml s (pcR s) s.2.1.length:=ha;obtain⟨i,hi,rfl⟩:=a2f ha;have hi2:i<s.2.1.length:=by unfold ml at hi;rwa [br]at hi
  have:=blk K (e:=(i:Int)) (by omega) (by omega);rw[a0m,a0n,a0o hi]at this;have hla:=S.la;exact⟨this.1,by rw[hla,hl];exact this.2.1⟩
 ·obtain⟨i,hi,rfl⟩:=a2f hr;have hla:=S.la;have h1:=(S.act (i:Int) (by omega) (by omega)).1;have C:ShapeP f.1:=by have:=S.cat;simp only[pf,a0a]at this;exact zy.1 this.1
  have h2:=C.frm (f:=(i:Int)) (by omega) (by omega);have h3:=S.size h2.1 h2.2.1;rw[a0m,a0n,a0o hi]at h1;simp only[a0z]at h1;rw[a0m]at h3;omega
def gr:Ct:=⟨[SchemaT,SetFunctorT],[true,true],fun x=>[],[(false,(.sl (.sl (.fz (.int .i64))))),(false,(.fz (.int .i64)))],fun x=>((rl x.1 x.2.1).1,(rl x.1 x.2.1).2,()),false,none⟩
def biu:FuncId->Option Ct:=lkp [(45,eh),(61,dp),(63,fu),(46,af2),(62,iw)]
def yk(s:ac)(f:bf)(K:bu4×Int×Unit->Prop):Prop:=(cnd ((!(bi s))||(!(pd f))) (K ([],(1,()))) (cnd (u9 s) (((u9 s)=true)/\(((bi s)=true)/\(cnd ((0:Int) != 0) (K ([],(0,()))) (cnd (!(eqR az (sr s).2.1 f.1)) (K ([],(5,()))) ((EdmP (sr s) f)/\(K ((apz (sr s) f),(0,())))))))) (((u9 s)=false)/\(((bi s)=true)/\(cnd ((3:Int) != 0) (K ([],(3,()))) (False/\(False/\(False/\(False/\False)))))))))
theorem an3(s:ac)(f:bf)(hok:ab (okL gr.args (s,f,())))(hpre:ab (gr.pre (s,f,()))):yk s f (fun r=>r=gr.res (s,f,())):=by
 unfold yk;clear hok hpre;refine aw (fun h=>?_) (fun h=>?_)
 ·have h:(bi s&&pd f)=false:=by cases h1:bi s <;> cases h2:pd f <;> simp_all
  simp only[gr,rl];rw[ds (by rw[h];decide)]
 have h:(bi s&&pd f)=true:=by cases h1:bi s <;> cases h2:pd f <;> simp_all
 have hS:bi s=true:=(a0a _ _▸h).1;have hF:pd f=true:=(a0a _ _▸h).2;refine aw (fun hp=>⟨hp,hS,aw (fun h0=>by cases h0) (fun _=>aw (fun he=>?_) (fun he=>⟨?_,?_⟩))⟩) (fun hp=>⟨hp,hS,aw (fun _=>?_) (fun h0=>by cases h0)⟩)
 ·simp only[gr,rl];rw[d0 h,d0 hp,ds];intro h2;have h3:eqR az (sr s).2.1 f.1=true:=h2;rw[h3]at he;cases he
 ·have he:eqR az (sr s).2.1 f.1=true:=by simpa using he
  rw[dc]at he;refine bic hS hp (ax2 hF) ?_;rw[←he];show (kn (bw s (pcR s))).length=_;unfold kn;rw[a0x]
 ·have he:eqR az (sr s).2.1 f.1=true:=by simpa using he
  have he:eqR az (pb s (pcR s)) f.1=true:=he;simp only[gr,rl];rw[d0 h,d0 hp,d0 he]
 ·simp only[gr,rl];rw[d0 h,ds (by rw[hp];decide)]
theorem am4:bn Tryz.prog 32 gr:=ctb (af ajg (af acj (af agu (af an9 (af am8 ao))))) ba 32 Tryz.f32 gr .n [(3,1500)] (by kernel_rfl) rfl (fun x K=>yk x.1 x.2.1 K) (fun _ _=>by kernel_rfl) (fun x h1 h2=>an3 x.1 x.2.1 h1 h2)
def il:Ct:=⟨[(.sl (.int .i64)),(.sl (.int .i64))],[false,false],fun x=>[],[(false,(.fz .bool))],fun x=>(eqR (.sl (.int .i64)) x.1 x.2.1,()),false,none⟩
def atq:Ann:=(.s .n (.s .n (.s (.s .n (.l [(5,(.d (.int .i64)))] [] [0,1] .n)) .n)))
def acz(a:List Int)(b:List Int)(K:Bool×Unit->Prop):Prop:=(cnd ((a.length:Int) != (b.length:Int)) (K (false,())) (bc (S:=bux) (fun s=>(fun next=>((inK .i64 s.1.1)->(cnd (decide (s.1.1<(a.length:Int))) ((0<=s.1.1)/\((s.1.1<(a.length:Int))/\((0<=s.1.1)/\((s.1.1<(b.length:Int))/\(cnd ((a.getD s.1.1.toNat 0) != (b.getD s.1.1.toNat 0)) (K (false,())) ((inK .i64 (s.1.1+1))/\(next (((s.1.1+1),()),())))))))) (K (true,())))))) ((0,()),())))
theorem aup(a:List Int)(b:List Int)(hok:ab (okL il.args (a,b,())))(hpre:ab (il.pre (a,b,()))):acz a b (fun r=>r=il.res (a,b,())):=by
 simp only[il,okL,T.oks,T.ok,ap,ab,a0e,a0b,a0h]at hok hpre
 try dsimp only[T.den]at hok hpre
 unfold acz;refine aw (fun hc=>?_) (fun hc=>?_)
 ·simp only[il,a0j,a0b];rw[vz];rintro rfl;simp at hc
 have hl:a.length=b.length:=by simp at hc;omega
 refine bz (fun (s:bux)=>0<=s.1.1/\s.1.1<=a.length/\a.take s.1.1.toNat=b.take s.1.1.toNat) (fun (s:bux)=>(a.length-s.1.1).toNat) ?_ (by simp);rintro⟨⟨i,_⟩,_⟩ next ⟨h0,h1,h2⟩ hn hin
 simp only at h0 h1 h2 hn⊢;refine al (fun hc=>?_) (fun hc=>?_)
 ·have ha:=ii a (0:Int) h0 hc;have hb:=ii b (0:Int) h0 (by omega);refine⟨by omega,by omega,by omega,by omega,aw (fun hd=>?_) (fun hd=>?_)⟩
  ·simp only[il,a0j,a0b];rw[vz];rintro rfl;simp at hd
  ·refine⟨by grind[cnd,b9,aj],hn _ ⟨(by first|omega|(dsimp only;omega)),(by first|omega|(dsimp only;omega)),?_⟩ (by first|omega|(dsimp only;omega))⟩;simp only[a1v,dc,a1a]at hd;simp only[ha,hb,h2,hd]
 ·rw[jr a (by omega),jr b (by omega)]at h2;simp[h2,il]
theorem uk:bn Tryz.prog 12 il:=ctb ao ba 12 Tryz.f12 il atq [(6,9)] (by kernel_rfl) rfl (fun x K=>acz x.1 x.2.1 K) (fun _ _=>by kernel_rfl) (fun x h1 h2=>aup x.1 x.2.1 h1 h2)
def gw:Ct:=⟨[(.sl (.sl (.int .i64))),(.sl (.sl (.int .i64)))],[false,false],fun x=>[],[(false,(.fz .bool))],fun x=>(eqR (.sl (.sl (.int .i64))) x.1 x.2.1,()),false,none⟩
def arv:Ann:=(.s .n (.s .n (.s (.s .n (.l [(5,(.d (.int .i64)))] [] [0,1] .n)) .n)))
def ab5(a:List (List Int))(b:List (List Int))(K:Bool×Unit->Prop):Prop:=(cnd ((a.length:Int) != (b.length:Int)) (K (false,())) (bc (S:=bux) (fun s=>(fun next=>((inK .i64 s.1.1)->(cnd (decide (s.1.1<(a.length:Int))) ((0<=s.1.1)/\((s.1.1<(a.length:Int))/\((0<=s.1.1)/\((s.1.1<(b.length:Int))/\(cnd (!(eqR (.sl (.int .i64)) (a.getD s.1.1.toNat []) (b.getD s.1.1.toNat []))) (K (false,())) ((inK .i64 (s.1.1+1))/\(next (((s.1.1+1),()),())))))))) (K (true,())))))) ((0,()),())))
theorem ash(a:List (List Int))(b:List (List Int))(hok:ab (okL gw.args (a,b,())))(hpre:ab (gw.pre (a,b,()))):ab5 a b (fun r=>r=gw.res (a,b,())):=by
 simp only[gw,okL,T.oks,T.ok,ap,ab,a0e,a0b,a0h]at hok hpre
 try dsimp only[T.den]at hok hpre
 unfold ab5;refine aw (fun hc=>?_) (fun hc=>?_)
 ·simp only[gw,a0j,a0b];rw[vz];rintro rfl;simp at hc
 have hl:a.length=b.length:=by simp at hc;omega
 refine bz (fun (s:bux)=>0<=s.1.1/\s.1.1<=a.length/\a.take s.1.1.toNat=b.take s.1.1.toNat) (fun (s:bux)=>(a.length-s.1.1).toNat) ?_ (by simp);rintro⟨⟨i,_⟩,_⟩ next ⟨h0,h1,h2⟩ hn hin
 simp only at h0 h1 h2 hn⊢;refine al (fun hc=>?_) (fun hc=>?_)
 ·have ha:=ii a ([]:List Int) h0 hc;have hb:=ii b ([]:List Int) h0 (by omega);refine⟨by omega,by omega,by omega,by omega,aw (fun hd=>?_) (fun hd=>?_)⟩
  ·simp only[gw,a0j,a0b];rw[vz];rintro rfl;simp at hd
  ·refine⟨by grind[cnd,b9,aj],hn _ ⟨(by first|omega|(dsimp only;omega)),(by first|omega|(dsimp only;omega)),?_⟩ (by first|omega|(dsimp only;omega))⟩;simp only[a1v,dc,a1a]at hd;simp only[ha,hb,h2,hd]
 ·rw[jr a (by omega),jr b (by omega)]at h2;simp[h2,gw]
theorem aa9:bn Tryz.prog 33 gw:=ctb (af uk ao) ba 33 Tryz.f33 gw arv [(6,10)] (by kernel_rfl) rfl (fun x K=>ab5 x.1 x.2.1 K) (fun _ _=>by kernel_rfl) (fun x h1 h2=>ash x.1 x.2.1 h1 h2)
def sk:Ct:=⟨[aq,aq],[true,true],fun x=>[],[(false,(.fz .bool))],fun x=>(eqR aq x.1 x.2.1,()),false,none⟩
def ags(a:ae)(b:ae)(K:Bool×Unit->Prop):Prop:=(cnd (a.1 != b.1) (K (false,())) (cnd (!(eqR (.sl (.int .i64)) a.2 b.2)) (K (false,())) (K (true,()))))
theorem bab(a:ae)(b:ae)(hok:ab (okL sk.args (a,b,())))(hpre:ab (sk.pre (a,b,()))):ags a b (fun r=>r=sk.res (a,b,())):=by
 simp only[sk,okL,T.oks,T.ok,ap,ab,a0e,a0b,a0h]at hok hpre
 try dsimp only[T.den]at hok hpre
 unfold ags;simp only[sk,awm,akw,am9]
 grind[cnd,b9,aj]
theorem axu:bn Tryz.prog 26 sk:=ctb (af uk ao) ba 26 Tryz.f26 sk .n [] (by kernel_rfl) rfl (fun x K=>ags x.1 x.2.1 K) (fun _ _=>by kernel_rfl) (fun x h1 h2=>bab x.1 x.2.1 h1 h2)
def k8:Ct:=⟨[(.sl aq),(.sl aq)],[false,false],fun x=>[],[(false,(.fz .bool))],fun x=>(eqR (.sl aq) x.1 x.2.1,()),false,none⟩
def auu:Ann:=(.s .n (.s .n (.s (.s .n (.l [(5,(.d (.int .i64)))] [] [0,1] .n)) .n)))
def aem(a:List ae)(b:List ae)(K:Bool×Unit->Prop):Prop:=(cnd ((a.length:Int) != (b.length:Int)) (K (false,())) (bc (S:=bux) (fun s=>(fun next=>((inK .i64 s.1.1)->(cnd (decide (s.1.1<(a.length:Int))) ((0<=s.1.1)/\((s.1.1<(a.length:Int))/\((0<=s.1.1)/\((s.1.1<(b.length:Int))/\(cnd (!(eqR aq (a.getD s.1.1.toNat (0,[])) (b.getD s.1.1.toNat (0,[])))) (K (false,())) ((inK .i64 (s.1.1+1))/\(next (((s.1.1+1),()),())))))))) (K (true,())))))) ((0,()),())))
theorem aw4(a:List ae)(b:List ae)(hok:ab (okL k8.args (a,b,())))(hpre:ab (k8.pre (a,b,()))):aem a b (fun r=>r=k8.res (a,b,())):=by
 simp only[k8,okL,T.oks,T.ok,ap,ab,a0e,a0b,a0h]at hok hpre
 try dsimp only[T.den]at hok hpre
 unfold aem;refine aw (fun hc=>?_) (fun hc=>?_)
 ·simp only[k8,a0j,a0b];rw[vz];rintro rfl;simp at hc
 have hl:a.length=b.length:=by simp at hc;omega
 refine bz (fun (s:bux)=>0<=s.1.1/\s.1.1<=a.length/\a.take s.1.1.toNat=b.take s.1.1.toNat) (fun (s:bux)=>(a.length-s.1.1).toNat) ?_ (by simp);rintro⟨⟨i,_⟩,_⟩ next ⟨h0,h1,h2⟩ hn hin
 simp only at h0 h1 h2 hn⊢;refine al (fun hc=>?_) (fun hc=>?_)
 ·have ha:=ii a ((0:Int),([]:List Int)) h0 hc;have hb:=ii b ((0:Int),([]:List Int)) h0 (by omega);refine⟨by omega,by omega,by omega,by omega,aw (fun hd=>?_) (fun hd=>?_)⟩
  ·simp only[k8,a0j,a0b];rw[vz];rintro rfl;simp at hd
  ·refine⟨by grind[cnd,b9,aj],hn _ ⟨(by first|omega|(dsimp only;omega)),(by first|omega|(dsimp only;omega)),?_⟩ (by first|omega|(dsimp only;omega))⟩;simp only[a1v,dc,a1a]at hd;simp only[ha,hb,h2,hd]
 ·rw[jr a (by omega),jr b (by omega)]at h2;simp[h2,k8]
theorem avd:bn Tryz.prog 13 k8:=ctb (af axu ao) ba 13 Tryz.f13 k8 auu [(6,10)] (by kernel_rfl) rfl (fun x K=>aem x.1 x.2.1 K) (fun _ _=>by kernel_rfl) (fun x h1 h2=>aw4 x.1 x.2.1 h1 h2)
def ni:Ct:=⟨[SchemaT,SchemaT],[true,true],fun x=>[],[(false,(.fz .bool))],fun x=>(eqR SchemaT x.1 x.2.1,()),false,none⟩
def bmp:FuncId->Option Ct:=lkp [(12,il),(13,k8)]
def adr(a:ac)(b:ac)(K:Bool×Unit->Prop):Prop:=(cnd (a.1 != b.1) (K (false,())) (cnd (!(eqR (.sl (.int .i64)) a.2.1 b.2.1)) (K (false,())) (cnd (!(eqR (.sl (.int .i64)) a.2.2.1 b.2.2.1)) (K (false,())) (cnd (!(eqR (.sl aq) a.2.2.2.1 b.2.2.2.1)) (K (false,())) (cnd (!(eqR (.sl aq) a.2.2.2.2 b.2.2.2.2)) (K (false,())) (K (true,())))))))
theorem aus(a:ac)(b:ac)(hok:ab (okL ni.args (a,b,())))(hpre:ab (ni.pre (a,b,()))):adr a b (fun r=>r=ni.res (a,b,())):=by
 simp only[ni,okL,T.oks,T.ok,ap,ab,a0e,a0b,a0h]at hok hpre
 try dsimp only[T.den]at hok hpre
 unfold adr;simp only[ni,awm,akw,am9]
 grind[cnd,b9,aj]
theorem asr:bn Tryz.prog 14 ni:=ctb (af uk (af avd ao)) ba 14 Tryz.f14 ni .n [] (by kernel_rfl) rfl (fun x K=>adr x.1 x.2.1 K) (fun _ _=>by kernel_rfl) (fun x h1 h2=>aus x.1 x.2.1 h1 h2)
def ln:Ct:=⟨[az,az],[true,true],fun x=>[],[(false,(.fz .bool))],fun x=>(eqR az x.1 x.2.1,()),false,none⟩
def bk3:FuncId->Option Ct:=lkp [(12,il),(33,gw)]
def aaz(a:a8)(b:a8)(K:Bool×Unit->Prop):Prop:=(cnd (a.1 != b.1) (K (false,())) (cnd (!(eqR (.sl (.int .i64)) a.2.1 b.2.1)) (K (false,())) (cnd (!(eqR (.sl (.int .i64)) a.2.2.1 b.2.2.1)) (K (false,())) (cnd (!(eqR (.sl (.int .i64)) a.2.2.2.1 b.2.2.2.1)) (K (false,())) (cnd (!(eqR (.sl (.sl (.int .i64))) a.2.2.2.2 b.2.2.2.2)) (K (false,())) (K (true,())))))))
theorem ari(a:a8)(b:a8)(hok:ab (okL ln.args (a,b,())))(hpre:ab (ln.pre (a,b,()))):aaz a b (fun r=>r=ln.res (a,b,())):=by
 simp only[ln,okL,T.oks,T.ok,ap,ab,a0e,a0b,a0h]at hok hpre
 try dsimp only[T.den]at hok hpre
 unfold aaz;simp only[ln,awm,akw,am9]
 grind[cnd,b9,aj]
theorem aov:bn Tryz.prog 11 ln:=ctb (af uk (af aa9 ao)) ba 11 Tryz.f11 ln .n [] (by kernel_rfl) rfl (fun x K=>aaz x.1 x.2.1 K) (fun _ _=>by kernel_rfl) (fun x h1 h2=>ari x.1 x.2.1 h1 h2)
def js:Ct:=⟨[SetFunctorT,SetFunctorT],[true,true],fun x=>[],[(false,(.fz .bool))],fun x=>(eqR SetFunctorT x.1 x.2.1,()),false,none⟩
def bid:FuncId->Option Ct:=lkp [(11,ln),(12,il),(33,gw)]
def yu(a:bf)(b:bf)(K:Bool×Unit->Prop):Prop:=(cnd (!(eqR az a.1 b.1)) (K (false,())) (cnd (!(eqR (.sl (.int .i64)) a.2.1 b.2.1)) (K (false,())) (cnd (!(eqR (.sl (.sl (.int .i64))) a.2.2 b.2.2)) (K (false,())) (K (true,())))))
theorem anv(a:bf)(b:bf)(hok:ab (okL js.args (a,b,())))(hpre:ab (js.pre (a,b,()))):yu a b (fun r=>r=js.res (a,b,())):=by
 simp only[js,okL,T.oks,T.ok,ap,ab,a0e,a0b,a0h]at hok hpre
 try dsimp only[T.den]at hok hpre
 unfold yu;simp only[js,awm,akw,am9]
 grind[cnd,b9,aj]
theorem ami:bn Tryz.prog 34 js:=ctb (af aov (af uk (af aa9 ao))) ba 34 Tryz.f34 js .n [] (by kernel_rfl) rfl (fun x K=>yu x.1 x.2.1 K) (fun _ _=>by kernel_rfl) (fun x h1 h2=>anv x.1 x.2.1 h1 h2)
def m9:Ct:=⟨[(.sl (.int .i64)),(.int .i64)],[false,false],fun x=>[0<=x.2.1,x.2.1+ckR (.sl (.int .i64)) x.1<=4611686018427387904],[(false,(.fz (.int .i64)))],fun x=>(hdR (.sl (.int .i64)) x.1 x.2.1,()),false,none⟩
def apv:Ann:=(.s .n (.s (.s .n (.l [(1,(.d (.int .i64))),(5,(.d (.int .i64)))] [] [0] .n)) .n))
def aa5(a:List Int)(k:Int)(K:Int×Unit->Prop):Prop:=(bc (S:=bu1) (fun s=>(fun next=>((inK .i64 s.1.1)->((inK .i64 s.1.2.1)->(cnd (decide (s.1.2.1<(a.length:Int))) ((0<=s.1.2.1)/\((s.1.2.1<(a.length:Int))/\(cnd ((a.getD s.1.2.1.toNat 0) != s.1.1) (K ((-1),())) ((inK .i64 (s.1.1+1))/\((inK .i64 (s.1.2.1+1))/\(next (((s.1.1+1),((s.1.2.1+1),())),()))))))) (K (s.1.1,()))))))) ((k,(0,())),()))
theorem ark(a:List Int)(k:Int)(hok:ab (okL m9.args (a,k,())))(hpre:ab (m9.pre (a,k,()))):aa5 a k (fun r=>r=m9.res (a,k,())):=by
 simp only[m9,okL,T.oks,T.ok,ap,ab,a0e,a0b,a0h]at hok hpre
 try dsimp only[T.den]at hok hpre
 unfold aa5;obtain⟨h0,hb⟩:=hpre;have hll:a.length<=140737488355328:=by simp only[b9]at hok;omega
 refine ayw (e:=.int .i64) (0:Int) a k h0 hb (fun k i next i0 i1 k0 kb hbad hn h1 h2=>?_) (fun i next hi h1 h2=>?_)
 ·try dsimp only
  simp only[ckR]at kb;simp only[br4]at hbad hn;refine al (fun _=>⟨i0,i1,aw (fun hx=>?_) (fun hx=>⟨by rw[aj];(try dsimp only);omega,by rw[aj];(try dsimp only);omega,?_⟩)⟩) (fun h=>absurd i1 h)
  ·rw[a3y]at hx;rw[ds hx]at hbad;simp only[m9];rw[hbad (by omega)]
  ·rw[a1a]at hx;rw[d0 hx]at hn;exact hn (by omega)
 ·exact al (fun h=>absurd h (by dsimp only;omega)) (fun _=>rfl)
theorem ao5:bn Tryz.prog 20 m9:=ctb ao ba 20 Tryz.f20 m9 apv [] (by kernel_rfl) rfl (fun x K=>aa5 x.1 x.2.1 K) (fun _ _=>by kernel_rfl) (fun x h1 h2=>ark x.1 x.2.1 h1 h2)
def kj:Ct:=⟨[(.sl (.sl (.int .i64))),(.int .i64)],[false,false],fun x=>[0<=x.2.1,x.2.1+ckR (.sl (.sl (.int .i64))) x.1<=4611686018427387904],[(false,(.fz (.int .i64)))],fun x=>(hdR (.sl (.sl (.int .i64))) x.1 x.2.1,()),false,none⟩
def an5:Ann:=(.s .n (.s (.s .n (.l [(1,(.d (.int .i64))),(5,(.d (.int .i64)))] [] [0] .n)) .n))
def zo(a:List (List Int))(k:Int)(K:Int×Unit->Prop):Prop:=(bc (S:=bu1) (fun s=>(fun next=>((inK .i64 s.1.1)->((inK .i64 s.1.2.1)->(cnd (decide (s.1.2.1<(a.length:Int))) ((0<=s.1.2.1)/\((s.1.2.1<(a.length:Int))/\((0<=s.1.1)/\(((s.1.1+(((ckR (.sl (.int .i64)) (a.getD s.1.2.1.toNat [])):Nat):Int))<=4611686018427387904)/\(cnd (decide ((hdR (.sl (.int .i64)) (a.getD s.1.2.1.toNat []) s.1.1)<0)) (K ((-1),())) ((inK .i64 (s.1.2.1+1))/\(next (((hdR (.sl (.int .i64)) (a.getD s.1.2.1.toNat []) s.1.1),((s.1.2.1+1),())),())))))))) (K (s.1.1,()))))))) ((k,(0,())),()))
theorem ao4(a:List (List Int))(k:Int)(hok:ab (okL kj.args (a,k,())))(hpre:ab (kj.pre (a,k,()))):zo a k (fun r=>r=kj.res (a,k,())):=by
 simp only[kj,okL,T.oks,T.ok,ap,ab,a0e,a0b,a0h]at hok hpre
 try dsimp only[T.den]at hok hpre
 unfold zo;obtain⟨h0,hb⟩:=hpre;have hll:a.length<=140737488355328:=by simp only[b9]at hok;omega
 refine ayw (e:=(.sl (.int .i64))) ([]:List Int) a k h0 hb (fun k i next i0 i1 k0 kb hbad hn h1 h2=>?_) (fun i next hi h1 h2=>?_)
 ·try dsimp only
  refine al (fun _=>⟨i0,i1,k0,kb,al (fun hx=>?_) (fun hx=>⟨by rw[aj];(try dsimp only);omega,hn hx⟩)⟩) (fun h=>absurd i1 h);simp only[kj];rw[hbad hx]
 ·exact al (fun h=>absurd h (by dsimp only;omega)) (fun _=>rfl)
theorem an7:bn Tryz.prog 37 kj:=ctb (af ao5 ao) ba 37 Tryz.f37 kj an5 [] (by kernel_rfl) rfl (fun x K=>zo x.1 x.2.1 K) (fun _ _=>by kernel_rfl) (fun x h1 h2=>ao4 x.1 x.2.1 h1 h2)
def afo:Mt:=⟨(.sl (.fz (.int .i64))),false,fun x k=>[0<=k,k+ckR (.sl (.int .i64)) x<=4611686018427387904],fun x k=>mkR (.sl (.int .i64)) x k⟩
def p9:Ct:=asg afo
def apm:Ann:=(.s .n (.s (.s .n (.l [(0,(.ref 1000000 [])),(1,(.d (.int .i64))),(5,(.d (.int .i64)))] [(1000000,(.sl (.fz (.int .i64))))] [] .n)) .n))
def ag2(a:List Int)(k:Int)(K:(List Int)->Int->Prop):Prop:=(bc (S:=((Unit×bvh)×buz)) (fun s=>(fun next=>((inK .i64 s.1.2.1)->((inK .i64 s.1.2.2.1)->((T.ok (.sl (.int .i64)) s.2.1)->(cnd (decide (s.1.2.2.1<(s.2.1.length:Int))) ((0<=s.1.2.2.1)/\((s.1.2.2.1<(s.2.1.length:Int))/\((inK .i64 (s.1.2.1+1))/\((inK .i64 (s.1.2.2.1+1))/\(next (((),((s.1.2.1+1),((s.1.2.2.1+1),()))),((List.set s.2.1 s.1.2.2.1.toNat s.1.2.1),()))))))) (K s.2.1 s.1.2.1))))))) (((),(k,(0,()))),(a,())))
theorem aro(a:List Int)(k:Int)(hok:ab (T.oks (.sl (.int .i64)) a))(h0:0<=k)(hpre:k+ckR (.sl (.int .i64)) a<=4611686018427387904):ag2 a k (fun y n=>y=(mkR (.sl (.int .i64)) a k).1/\n=(mkR (.sl (.int .i64)) a k).2):=by
 simp only[T.oks,T.ok,ap,ab,a0e,a0b,a0h]at hok
 try dsimp only[T.den]at hok
 unfold ag2;refine aoj (e:=.int .i64) (0:Int) a k h0 hpre (fun k i l next i0 i1 hl hg k0 kb hn h1 h2 h3=>?_) (fun i l next hi hl h1 h2 h3=>?_)
 ·try dsimp only
  simp only[ckR]at kb;have hll:=h3.1;simp only[b9]at hll;exact al (fun _=>⟨i0,i1,by rw[aj];(try dsimp only);omega,by rw[aj];(try dsimp only);omega,hn⟩) (fun h=>absurd i1 h)
 ·exact al (fun h=>absurd h (by dsimp only;omega)) (fun _=>⟨hl,rfl⟩)
theorem r8:bn Tryz.prog 17 p9:=arf (Φ:=lkp []) ao ba (by kernel_rfl) (fn:=Tryz.f17) (c:=qg Tryz.f17) (by kernel_rfl) (by kernel_rfl) (by kernel_rfl) afo apm (aa7 []) (by kernel_rfl) (by kernel_rfl) (by kernel_rfl) (by decide) (by kernel_rfl) (fun x k hk hok hp=>Eq.mp (by kernel_rfl) (aro x k hok hp.1 hp.2.1))
def adx:Mt:=⟨(.sl (.sl (.fz (.int .i64)))),false,fun x k=>[0<=k,k+ckR (.sl (.sl (.int .i64))) x<=4611686018427387904],fun x k=>mkR (.sl (.sl (.int .i64))) x k⟩
def vj:Ct:=asg adx
def anw:Ann:=(.s .n (.s (.s .n (.l [(0,(.ref 1000000 [])),(1,(.d (.int .i64))),(5,(.d (.int .i64)))] [(1000000,(.sl (.sl (.fz (.int .i64)))))] [] .n)) .n))
def afn(a:List (List Int))(k:Int)(K:bu4->Int->Prop):Prop:=(bc (S:=((Unit×bvh)×(bu4×Unit))) (fun s=>(fun next=>((inK .i64 s.1.2.1)->((inK .i64 s.1.2.2.1)->((T.ok (.sl (.sl (.int .i64))) s.2.1)->(cnd (decide (s.1.2.2.1<(s.2.1.length:Int))) ((0<=s.1.2.2.1)/\((s.1.2.2.1<(s.2.1.length:Int))/\((0<=s.1.2.1)/\(((s.1.2.1+(((ckR (.sl (.int .i64)) (s.2.1.getD s.1.2.2.1.toNat [])):Nat):Int))<=4611686018427387904)/\((inK .i64 (s.1.2.2.1+1))/\(next (((),((mkR (.sl (.int .i64)) (s.2.1.getD s.1.2.2.1.toNat []) s.1.2.1).2,((s.1.2.2.1+1),()))),((List.set s.2.1 s.1.2.2.1.toNat (mkR (.sl (.int .i64)) (s.2.1.getD s.1.2.2.1.toNat []) s.1.2.1).1),())))))))) (K s.2.1 s.1.2.1))))))) (((),(k,(0,()))),(a,())))
theorem aof(a:List (List Int))(k:Int)(hok:ab (T.oks (.sl (.sl (.int .i64))) a))(h0:0<=k)(hpre:k+ckR (.sl (.sl (.int .i64))) a<=4611686018427387904):afn a k (fun y n=>y=(mkR (.sl (.sl (.int .i64))) a k).1/\n=(mkR (.sl (.sl (.int .i64))) a k).2):=by
 simp only[T.oks,T.ok,ap,ab,a0e,a0b,a0h]at hok
 try dsimp only[T.den]at hok
 unfold afn;refine aoj (e:=(.sl (.int .i64))) ([]:List Int) a k h0 hpre (fun k i l next i0 i1 hl hg k0 kb hn h1 h2 h3=>?_) (fun i l next hi hl h1 h2 h3=>?_)
 ·try dsimp only
  have hll:=h3.1;simp only[b9]at hll;rw[hg];exact al (fun _=>⟨i0,i1,k0,kb,by rw[aj];(try dsimp only);omega,hn⟩) (fun h=>absurd i1 h)
 ·exact al (fun h=>absurd h (by dsimp only;omega)) (fun _=>⟨hl,rfl⟩)
theorem yp:bn Tryz.prog 36 vj:=arf (Φ:=lkp [(17,p9)]) (af r8 ao) ba (by kernel_rfl) (fn:=Tryz.f36) (c:=qg Tryz.f36) (by kernel_rfl) (by kernel_rfl) (by kernel_rfl) adx anw (aa7 []) (by kernel_rfl) (by kernel_rfl) (by kernel_rfl) (by decide) (by kernel_rfl) (fun x k hk hok hp=>Eq.mp (by kernel_rfl) (aof x k hok hp.1 hp.2.1))
def ag3:Mt:=⟨(.sl aua),false,fun x k=>[0<=k,k+ckR (.sl aq) x<=4611686018427387904],fun x k=>mkR (.sl aq) x k⟩
def aiu:Ct:=asg ag3
def arh:Ann:=(.s .n (.s (.s .n (.l [(0,(.ref 1000000 [])),(1,(.d (.int .i64))),(5,(.d (.int .i64)))] [(1000000,(.sl (.p (.fz (.int .i64)) (.sl (.fz (.int .i64))))))] [] .n)) .n))
def aij(a:List ae)(k:Int)(K:(List ae)->Int->Prop):Prop:=(bc (S:=((Unit×bvh)×buy)) (fun s=>(fun next=>((inK .i64 s.1.2.1)->((inK .i64 s.1.2.2.1)->((T.ok (.sl aq) s.2.1)->(cnd (decide (s.1.2.2.1<(s.2.1.length:Int))) ((0<=s.1.2.2.1)/\((s.1.2.2.1<(s.2.1.length:Int))/\((inK .i64 (s.1.2.1+1))/\((0<=s.1.2.2.1)/\((s.1.2.2.1<(((List.length (List.set s.2.1 s.1.2.2.1.toNat (s.1.2.1,(s.2.1.getD s.1.2.2.1.toNat (0,[])).2))):Nat):Int))/\((0<=(s.1.2.1+1))/\((((s.1.2.1+1)+(((ckR (.sl (.int .i64)) (List.getD (List.set s.2.1 s.1.2.2.1.toNat (s.1.2.1,(s.2.1.getD s.1.2.2.1.toNat (0,[])).2)) s.1.2.2.1.toNat (0,[])).2):Nat):Int))<=4611686018427387904)/\((inK .i64 (s.1.2.2.1+1))/\(next (((),((mkR (.sl (.int .i64)) (List.getD (List.set s.2.1 s.1.2.2.1.toNat (s.1.2.1,(s.2.1.getD s.1.2.2.1.toNat (0,[])).2)) s.1.2.2.1.toNat (0,[])).2 (s.1.2.1+1)).2,((s.1.2.2.1+1),()))),((List.set (List.set s.2.1 s.1.2.2.1.toNat (s.1.2.1,(s.2.1.getD s.1.2.2.1.toNat (0,[])).2)) s.1.2.2.1.toNat ((List.getD (List.set s.2.1 s.1.2.2.1.toNat (s.1.2.1,(s.2.1.getD s.1.2.2.1.toNat (0,[])).2)) s.1.2.2.1.toNat (0,[])).1,(mkR (.sl (.int .i64)) (List.getD (List.set s.2.1 s.1.2.2.1.toNat (s.1.2.1,(s.2.1.getD s.1.2.2.1.toNat (0,[])).2)) s.1.2.2.1.toNat (0,[])).2 (s.1.2.1+1)).1)),()))))))))))) (K s.2.1 s.1.2.1))))))) (((),(k,(0,()))),(a,())))
theorem atp(a:List ae)(k:Int)(hok:ab (T.oks (.sl aq) a))(h0:0<=k)(hpre:k+ckR (.sl aq) a<=4611686018427387904):aij a k (fun y n=>y=(mkR (.sl aq) a k).1/\n=(mkR (.sl aq) a k).2):=by
 simp only[T.oks,T.ok,ap,ab,a0e,a0b,a0h]at hok
 try dsimp only[T.den]at hok
 unfold aij;refine aoj (e:=aq) ((0,[]):Int×List Int) a k h0 hpre (fun k i l next i0 i1 hl hg k0 kb hn h1 h2 h3=>?_) (fun i l next hi hl h1 h2 h3=>?_)
 ·try dsimp only
  have hll:=h3.1;simp only[b9]at hll;have e1:∀x:ae,mkR aq x k=((k,(mkR (.sl (.int .i64)) x.2 (k+1)).1),(mkR (.sl (.int .i64)) x.2 (k+1)).2):=fun _=>rfl;have e2:∀x:ae,ckR aq x=1+ckR (.sl (.int .i64)) x.2:=fun _=>rfl;rw[e1]at hn;rw[e2]at kb;have hs:(l.set i.toNat (k,(l.getD i.toNat (0,[])).2)).getD i.toNat (0,[])=(k,(a.getD i.toNat (0,[])).2):=by rw[ab3 _ _ _ _ _ (by omega),d0 rfl,hg]
  simp only[hs,List.set_set,a1h];exact al (fun _=>⟨i0,i1,by rw[aj];(try dsimp only);omega,i0,i1,by omega,by omega,by rw[aj];(try dsimp only);omega,hn⟩) (fun h=>absurd i1 h)
 ·exact al (fun h=>absurd h (by dsimp only;omega)) (fun _=>⟨hl,rfl⟩)
theorem aru:bn Tryz.prog 18 aiu:=arf (Φ:=lkp [(17,p9)]) (af r8 ao) ba (by kernel_rfl) (fn:=Tryz.f18) (c:=qg Tryz.f18) (by kernel_rfl) (by kernel_rfl) (by kernel_rfl) ag3 arh (aa7 []) (by kernel_rfl) (by kernel_rfl) (by kernel_rfl) (by decide) (by kernel_rfl) (fun x k hk hok hp=>Eq.mp (by kernel_rfl) (atp x k hok hp.1 hp.2.1))
def af6:Mt:=⟨bgj,true,fun x k=>[0<=k,k+ctR SchemaT x<=4611686018427387904],fun x k=>mtR SchemaT x k⟩
def ag1:Ct:=asg af6
def aon:FuncId->Option Ct:=lkp [(17,p9),(18,aiu)]
def ag4(a:ac)(k:Int)(K:ac->Int->Prop):Prop:=((0<=k)/\(((k+(((ckR (.sl (.int .i64)) a.2.1):Nat):Int))<=4611686018427387904)/\((0<=(mkR (.sl (.int .i64)) a.2.1 k).2)/\((((mkR (.sl (.int .i64)) a.2.1 k).2+(((ckR (.sl (.int .i64)) a.2.2.1):Nat):Int))<=4611686018427387904)/\((0<=(mkR (.sl (.int .i64)) a.2.2.1 (mkR (.sl (.int .i64)) a.2.1 k).2).2)/\((((mkR (.sl (.int .i64)) a.2.2.1 (mkR (.sl (.int .i64)) a.2.1 k).2).2+(((ckR (.sl aq) a.2.2.2.1):Nat):Int))<=4611686018427387904)/\((0<=(mkR (.sl aq) a.2.2.2.1 (mkR (.sl (.int .i64)) a.2.2.1 (mkR (.sl (.int .i64)) a.2.1 k).2).2).2)/\((((mkR (.sl aq) a.2.2.2.1 (mkR (.sl (.int .i64)) a.2.2.1 (mkR (.sl (.int .i64)) a.2.1 k).2).2).2+(((ckR (.sl aq) a.2.2.2.2):Nat):Int))<=4611686018427387904)/\(K (a.1,((mkR (.sl (.int .i64)) a.2.1 k).1,((mkR (.sl (.int .i64)) a.2.2.1 (mkR (.sl (.int .i64)) a.2.1 k).2).1,((mkR (.sl aq) a.2.2.2.1 (mkR (.sl (.int .i64)) a.2.2.1 (mkR (.sl (.int .i64)) a.2.1 k).2).2).1,(mkR (.sl aq) a.2.2.2.2 (mkR (.sl aq) a.2.2.2.1 (mkR (.sl (.int .i64)) a.2.2.1 (mkR (.sl (.int .i64)) a.2.1 k).2).2).2).1)))) (mkR (.sl aq) a.2.2.2.2 (mkR (.sl aq) a.2.2.2.1 (mkR (.sl (.int .i64)) a.2.2.1 (mkR (.sl (.int .i64)) a.2.1 k).2).2).2).2)))))))))
theorem arp(a:ac)(k:Int)(hok:ab (T.oks SchemaT a))(h0:0<=k)(hpre:k+ctR SchemaT a<=4611686018427387904):ag4 a k (fun y n=>y=(mtR SchemaT a k).1/\n=(mtR SchemaT a k).2):=by
 simp only[T.oks,T.ok,ap,ab,a0e,a0b,a0h]at hok
 try dsimp only[T.den]at hok
 unfold ag4;simp only[ctR]at hpre
 repeat' apply And.intro
 all_goals first|rfl|((try simp only[abm,alp,ctR]);omega)
theorem ao1:bn Tryz.prog 15 ag1:=arf (Φ:=aon) (af r8 (af aru ao)) ba (by kernel_rfl) (fn:=Tryz.f15) (c:=qg Tryz.f15) (by kernel_rfl) (by kernel_rfl) (by kernel_rfl) af6 .n (aa7 []) (by kernel_rfl) (by kernel_rfl) (by kernel_rfl) (by decide) (by kernel_rfl) (fun x k hk hok hp=>Eq.mp (by kernel_rfl) (arp x k hok hp.1 hp.2.1))
def acu:Mt:=⟨aps,true,fun x k=>[0<=k,k+ctR az x<=4611686018427387904],fun x k=>mtR az x k⟩
def adw:Ct:=asg acu
def am7:FuncId->Option Ct:=lkp [(17,p9),(36,vj)]
def ady(a:a8)(k:Int)(K:a8->Int->Prop):Prop:=((0<=k)/\(((k+(((ckR (.sl (.int .i64)) a.2.1):Nat):Int))<=4611686018427387904)/\((0<=(mkR (.sl (.int .i64)) a.2.1 k).2)/\((((mkR (.sl (.int .i64)) a.2.1 k).2+(((ckR (.sl (.int .i64)) a.2.2.1):Nat):Int))<=4611686018427387904)/\((0<=(mkR (.sl (.int .i64)) a.2.2.1 (mkR (.sl (.int .i64)) a.2.1 k).2).2)/\((((mkR (.sl (.int .i64)) a.2.2.1 (mkR (.sl (.int .i64)) a.2.1 k).2).2+(((ckR (.sl (.int .i64)) a.2.2.2.1):Nat):Int))<=4611686018427387904)/\((0<=(mkR (.sl (.int .i64)) a.2.2.2.1 (mkR (.sl (.int .i64)) a.2.2.1 (mkR (.sl (.int .i64)) a.2.1 k).2).2).2)/\((((mkR (.sl (.int .i64)) a.2.2.2.1 (mkR (.sl (.int .i64)) a.2.2.1 (mkR (.sl (.int .i64)) a.2.1 k).2).2).2+(((ckR (.sl (.sl (.int .i64))) a.2.2.2.2):Nat):Int))<=4611686018427387904)/\(K (a.1,((mkR (.sl (.int .i64)) a.2.1 k).1,((mkR (.sl (.int .i64)) a.2.2.1 (mkR (.sl (.int .i64)) a.2.1 k).2).1,((mkR (.sl (.int .i64)) a.2.2.2.1 (mkR (.sl (.int .i64)) a.2.2.1 (mkR (.sl (.int .i64)) a.2.1 k).2).2).1,(mkR (.sl (.sl (.int .i64))) a.2.2.2.2 (mkR (.sl (.int .i64)) a.2.2.2.1 (mkR (.sl (.int .i64)) a.2.2.1 (mkR (.sl (.int .i64)) a.2.1 k).2).2).2).1)))) (mkR (.sl (.sl (.int .i64))) a.2.2.2.2 (mkR (.sl (.int .i64)) a.2.2.2.1 (mkR (.sl (.int .i64)) a.2.2.1 (mkR (.sl (.int .i64)) a.2.1 k).2).2).2).2)))))))))
theorem an4(a:a8)(k:Int)(hok:ab (T.oks az a))(h0:0<=k)(hpre:k+ctR az a<=4611686018427387904):ady a k (fun y n=>y=(mtR az a k).1/\n=(mtR az a k).2):=by
 simp only[T.oks,T.ok,ap,ab,a0e,a0b,a0h]at hok
 try dsimp only[T.den]at hok
 unfold ady;simp only[ctR]at hpre
 repeat' apply And.intro
 all_goals first|rfl|((try simp only[abm,alp,ctR]);omega)
theorem al1:bn Tryz.prog 16 adw:=arf (Φ:=am7) (af r8 (af yp ao)) ba (by kernel_rfl) (fn:=Tryz.f16) (c:=qg Tryz.f16) (by kernel_rfl) (by kernel_rfl) (by kernel_rfl) acu .n (aa7 []) (by kernel_rfl) (by kernel_rfl) (by kernel_rfl) (by decide) (by kernel_rfl) (fun x k hk hok hp=>Eq.mp (by kernel_rfl) (an4 x k hok hp.1 hp.2.1))
def abd:Mt:=⟨ar6,true,fun x k=>[0<=k,k+ctR SetFunctorT x<=4611686018427387904],fun x k=>mtR SetFunctorT x k⟩
def acd:Ct:=asg abd
def akb:FuncId->Option Ct:=lkp [(16,adw),(17,p9),(36,vj)]
def acf(a:bf)(k:Int)(K:bf->Int->Prop):Prop:=((0<=k)/\(((k+(((ctR az a.1):Nat):Int))<=4611686018427387904)/\((0<=(mtR az a.1 k).2)/\((((mtR az a.1 k).2+(((ckR (.sl (.int .i64)) a.2.1):Nat):Int))<=4611686018427387904)/\((0<=(mkR (.sl (.int .i64)) a.2.1 (mtR az a.1 k).2).2)/\((((mkR (.sl (.int .i64)) a.2.1 (mtR az a.1 k).2).2+(((ckR (.sl (.sl (.int .i64))) a.2.2):Nat):Int))<=4611686018427387904)/\(K ((a.1.1,(mtR az a.1 k).1.2),((mkR (.sl (.int .i64)) a.2.1 (mtR az a.1 k).2).1,(mkR (.sl (.sl (.int .i64))) a.2.2 (mkR (.sl (.int .i64)) a.2.1 (mtR az a.1 k).2).2).1)) (mkR (.sl (.sl (.int .i64))) a.2.2 (mkR (.sl (.int .i64)) a.2.1 (mtR az a.1 k).2).2).2)))))))
theorem alf(a:bf)(k:Int)(hok:ab (T.oks SetFunctorT a))(h0:0<=k)(hpre:k+ctR SetFunctorT a<=4611686018427387904):acf a k (fun y n=>y=(mtR SetFunctorT a k).1/\n=(mtR SetFunctorT a k).2):=by
 simp only[T.oks,T.ok,ap,ab,a0e,a0b,a0h]at hok
 try dsimp only[T.den]at hok
 unfold acf;simp only[ctR]at hpre
 repeat' apply And.intro
 all_goals first|rfl|((try simp only[abm,alp,ctR]);omega)
theorem akh:bn Tryz.prog 35 acd:=arf (Φ:=akb) (af al1 (af r8 (af yp ao))) ba (by kernel_rfl) (fn:=Tryz.f35) (c:=qg Tryz.f35) (by kernel_rfl) (by kernel_rfl) (by kernel_rfl) abd .n (aa7 []) (by kernel_rfl) (by kernel_rfl) (by kernel_rfl) (by decide) (by kernel_rfl) (fun x k hk hok hp=>Eq.mp (by kernel_rfl) (alf x k hok hp.1 hp.2.1))
def j9:Ct:=⟨[(.sl (.int .i64)),(.int .i64)],[false,false],fun x=>[-4611545280939032576<=x.2.1],[(false,(.fz (.int .i64)))],fun x=>(szR (wR (.sl (.int .i64)) x.1) x.2.1,()),false,none⟩
def ac1(a:List Int)(left:Int)(K:Int×Unit->Prop):Prop:=((inK .i64 (left-(a.length:Int)))/\(cnd (decide ((left-(a.length:Int))<0)) (K ((-1),())) (K ((left-(a.length:Int)),()))))
theorem avl(a:List Int)(left:Int)(hok:ab (okL j9.args (a,left,())))(hpre:ab (j9.pre (a,left,()))):ac1 a left (fun r=>r=j9.res (a,left,())):=by
 simp only[j9,okL,T.oks,T.ok,ap,ab,a0e,a0b,a0h]at hok hpre
 try dsimp only[T.den]at hok hpre
 unfold ac1;simp only[j9,bqy]
 grind[cnd,b9,aj,szR]
theorem ua:bn Tryz.prog 38 j9:=ctb ao ba 38 Tryz.f38 j9 .n [] (by kernel_rfl) rfl (fun x K=>ac1 x.1 x.2.1 K) (fun _ _=>by kernel_rfl) (fun x h1 h2=>avl x.1 x.2.1 h1 h2)
def sq:Ct:=⟨[aq,(.int .i64)],[true,false],fun x=>[-4611545280939032576<=x.2.1],[(false,(.fz (.int .i64)))],fun x=>(szR (wR aq x.1) x.2.1,()),false,none⟩
def agd(a:ae)(left:Int)(K:Int×Unit->Prop):Prop:=(((-4611545280939032576)<=left)/\(cnd (decide ((szR (wR (.sl (.int .i64)) a.2) left)<0)) (K ((-1),())) (K ((szR (wR (.sl (.int .i64)) a.2) left),()))))
theorem az3(a:ae)(left:Int)(hok:ab (okL sq.args (a,left,())))(hpre:ab (sq.pre (a,left,()))):agd a left (fun r=>r=sq.res (a,left,())):=by
 simp only[sq,okL,T.oks,T.ok,ap,ab,a0e,a0b,a0h]at hok hpre
 try dsimp only[T.den]at hok hpre
 unfold agd;simp only[sq,agp,xz,u6,a1w,a21]
 grind[cnd,b9,aj,szR]
theorem axr:bn Tryz.prog 22 sq:=ctb (af ua ao) ba 22 Tryz.f22 sq .n [] (by kernel_rfl) rfl (fun x K=>agd x.1 x.2.1 K) (fun _ _=>by kernel_rfl) (fun x h1 h2=>az3 x.1 x.2.1 h1 h2)
end Go.Bm
