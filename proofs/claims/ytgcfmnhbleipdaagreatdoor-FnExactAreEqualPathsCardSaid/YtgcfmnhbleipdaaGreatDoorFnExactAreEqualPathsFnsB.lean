/- What the functions that FnExactAreEqualPaths reaches give: for each its contract, what it asks, and the proof. No condition. -/
import Derived.Test.YtgcfmnhbleipdaaGreatDoorFnExactAreEqualPathsFnsA
set_option linter.unusedVariables false
set_option linter.unusedSimpArgs false
namespace Go.Bm
open Go.Proofs
set_option maxRecDepth 100000
set_option maxHeartbeats 1000000
abbrev a44:=@List.pairwise_append
abbrev a47:=@List.pairwise_singleton
abbrev a4t:=@Array.size_push
theorem pk(s:ac):∀(nd:Int) (a b:List Int),be s nd (a++b)=if (be s nd a).2=true then be s (be s nd a).1 b else (0,false)
 |nd,[],b=>by simp only[a2u,be,a03]
 |nd,e::r,b=>by
  simp only[a2p,be];split
  ·exact pk s _ r b
  ·simp
theorem bd2{s:ac}{nd:Int}{a m m' b:List Int}(h:(be s nd (a++m++b)).2=true)(hm:(be s (be s nd a).1 m').2=true)(he:(be s (be s nd a).1 m').1=(be s (be s nd a).1 m).1) :
  be s nd (a++m'++b)=be s nd (a++m++b):=by
 rw[pk,pk]at h⊢;rw[pk s nd (a++m) b,pk s nd a m];by_cases h1:(be s nd a).2=true
 ·rw[d0 h1]at h⊢;rw[d0 h1];by_cases h2:(be s (be s nd a).1 m).2=true
  ·rw[d0 h2,d0 hm,he]
  ·rw[ds h2]at h;cases h
 ·rw[ds h1]at h;rw[ds (by simp)]at h;cases h
theorem iy{s:ac}{p:ab}(h:(aw s p).2=true):inR p.1 0 (s.1-1)=true/\p.2.length<=6/\aw s p=be s p.1 p.2:=by
 unfold aw at h⊢;split at h
 ·rename_i hc;rw[d0 hc];exact⟨hc.1,hc.2,rfl⟩
 ·cases h
theorem ajj{s:ac}{p:ab}(h1:inR p.1 0 (s.1-1)=true)(h2:p.2.length<=6):aw s p=be s p.1 p.2:=by unfold aw;rw[d0 ⟨h1,h2⟩]
structure EqnP (s:ac) (l r:ab):Prop where
 l2:(aw s l).2=true
 r2:(aw s r).2=true
 st:l.1=r.1
 en:(aw s l).1=(aw s r).1
theorem tx{s:ac}:∀{a b:List ab},u6 s a b=true->∀{i:Int},0<=i->i<a.length->i<b.length->EqnP s (a.getD i.toNat (0,[])) (b.getD i.toNat (0,[]))
 |[],_,_,i,h0,h1,_=>by simp at h1;omega
 |_::_,[],_,i,h0,_,h1=>by simp at h1;omega
 |p::l,q::r,h,i,h0,h1,h2=>by
  simp only[u6,bda,a0a,a04]at h;obtain⟨⟨⟨⟨a1,a2⟩,a3⟩,a4⟩,hr⟩:=h;by_cases e:i=0
  ·subst e;exact⟨a1,a2,a3,a4⟩
  ·have e1:i.toNat=(i-1).toNat+1:=by omega
   simp only[a0l]at h1 h2;have:=tx hr (i:=i-1) (by omega) (by omega) (by omega);rw[e1];simpa using this
theorem mc{s:ac}(h:bd s=true):0<=s.1/\s.1<=8/\s.2.1.length<=8/\s.2.2.1.length=s.2.1.length/\bm s.2.1 s.1=true/\bm s.2.2.1 s.1=true/\s.2.2.2.1.length<=8/\s.2.2.2.2.length=s.2.2.2.1.length/\u6 s s.2.2.2.1 s.2.2.2.2=true:=by unfold bd at h;simp only[a0a,a04]at h;obtain⟨⟨⟨⟨⟨⟨⟨h1,h2⟩,h3⟩,h4⟩,h5⟩,h6⟩,h7⟩,h8⟩:=h;obtain⟨h1,h1'⟩:=ow.1 h1;exact⟨h1,h1',h2,h3,h4,h5,h6,h7,h8⟩
theorem bcx{s:ac}{p:ab}(h:(be s p.1 p.2).2=true){i:Int}(i0:0<=i)(i1:i<=p.2.length):(be s p.1 (p.2.take i.toNat)).2=true/\afv s p i=(be s p.1 (p.2.take i.toNat)).1:=by
 have h2:(be s p.1 (p.2.take i.toNat)).2=true:=by
  have e:=a10 i.toNat p.2;rw[←e,pk]at h;by_cases hh:(be s p.1 (p.2.take i.toNat)).2=true
  ·exact hh
  ·rw[ds hh]at h;cases h
 refine⟨h2,?_⟩;rw[aif s _ _ h2,a1c];unfold afv;by_cases e:i=0
 ·subst e;simp
 ·rw[ds e,ds (by omega)];have:(p.2.take i.toNat).getD (min i.toNat p.2.length-1) 0=p.2.getD (i-1).toNat 0:=by rw[show min i.toNat p.2.length-1=(i-1).toNat from by omega];simp only[a0o];rw[a2z (by omega)]
  rw[this]
theorem ai8{s:ac}{p l r:ab}(hp:(aw s p).2=true)(E:EqnP s l r){i:Int}(i0:0<=i)(i1:i<=p.2.length)(hh:zz s p l i=true)(h6:(pw p l r i).length<=6) :
  (aw s (p.1,pw p l r i)).2=true/\(aw s (p.1,pw p l r i)).1=(aw s p).1:=by
 obtain⟨a1,a2,a3⟩:=iy hp;rw[a3]at hp;unfold zz at hh;simp only[a0a,a04,a0s,fe]at hh;obtain⟨⟨h1,h2⟩,h3⟩:=hh;obtain⟨n1,n2⟩:=bcx hp i0 i1;obtain⟨_,_,l3⟩:=iy E.l2;obtain⟨_,_,r3⟩:=iy E.r2
 have hsplit:p.2=p.2.take i.toNat++l.2++p.2.drop (i+l.2.length).toNat:=by
  have e1:p.2.take (i+l.2.length).toNat=p.2.take i.toNat++l.2:=by have:=a10 i.toNat (p.2.take (i+l.2.length).toNat);rw[h3,List.take_take,a3w (by omega)]at this;exact this.symm
  rw[←e1,a10]
 have hl2:=E.l2;have hr2:=E.r2;have hen:=E.en;rw[l3]at hl2 hen;rw[r3]at hr2 hen;rw[←E.st,←h1,n2]at hr2 hen;rw[←h1,n2]at hl2;have key:be s p.1 (pw p l r i)=be s p.1 p.2:=by have:=bd2 (s:=s) (nd:=p.1) (a:=p.2.take i.toNat) (m:=l.2) (m':=r.2) (b:=p.2.drop (i+l.2.length).toNat) (by rw[←hsplit];exact hp) hr2 hen.symm;rw[←hsplit]at this;exact this
 rw[ajj (p:=(p.1,pw p l r i)) a1 h6,a3];dsimp only;rw[key];exact⟨hp,rfl⟩
theorem asw{α:Type}{f:Int->α}{R:α->α->Prop}:∀{n:Nat},(∀i j:Int,0<=i->i<j->j<n->R (f i) (f j))->(dv n f).Pairwise R
 |0,_=>by simp only[dv];exact List.Pairwise.nil
 |n+1,h=>by unfold dv;rw[a44];refine⟨asw fun i j h0 h1 h2=>h i j h0 h1 (by omega),a47 _ _,fun a ha b hb=>?_⟩;rw[a0x]at hb;obtain⟨i,i0,i1,rfl⟩:=pj.1 ha;rw[hb];exact h i n i0 i1 (by omega)
structure GroP (s:ac) (k:Nat) (l:List ab):Prop where
 nd:l.Nodup
 le:l.length<=400
 cl:∀j,j<k->(l.getD j (0,[])).2.length≠6->∀q∈iq s (l.getD j (0,[])) s.2.1.length,q∈l
 pa:∀q∈l,q.2≠[]->∃j,j<k/\l.getD j (0,[])=(q.1,q.2.dropLast)
 ok:∀q∈l,(aw s q).2=true
theorem be2{s:ac}{p:ab}{n:Nat}:(iq s p n).Nodup:=by unfold iq List.Nodup;rw[a4q];refine List.Pairwise.filter _ (asw fun i j _ h _ e=>?_);have:=congrArg Prod.snd e;simp only[List.append_cancel_left_eq,a0h,a0c]at this;omega
theorem afm{l r:List ab}{j:Nat}(h:j<l.length):(l++r).getD j (0,[])=l.getD j (0,[]):=by simp only[a0o];rw[a1e h]
theorem afl{l:List ab}(h:l.Nodup){i j:Nat}(hi:i<l.length)(hj:j<l.length)(e:l.getD i (0,[])=l.getD j (0,[])):i=j:=by simp only[a0o,a0n hi,a0n hj,a02]at e;exact (List.getElem_inj h).1 e
theorem qe{l:List ab}{p:ab}(h:p∈l):∃i,i<l.length/\l.getD i (0,[])=p:=by obtain⟨i,hi,e⟩:=a2e h;exact⟨i,hi,by simp only[a0o,a0n hi,a02];exact e⟩
theorem je{l:List ab}{i:Nat}(h:i<l.length):l.getD i (0,[])∈l:=by simp only[a0o,a0n h,a02];exact a27 h
theorem boe{s:ac}{k:Nat}{l:List ab}(G:GroP s k l)(h6:(l.getD k (0,[])).2.length=6):GroP s (k+1) l:={
 nd:=G.nd
 le:=G.le
 cl:=fun j hj h q hq=>by
  by_cases e:j=k
  ·subst e;exact absurd h6 h
  ·exact G.cl j (by omega) h q hq
 pa:=fun q hq h=>by obtain⟨j,h1,h2⟩:=G.pa q hq h;exact⟨j,by omega,h2⟩
 ok:=G.ok }
theorem aup{s:ac}{p q:ab}{n:Nat}:q∈iq s p n<->∃e:Int,0<=e/\e<n/\s.2.1.getD e.toNat 0=gv s p/\q=(p.1,p.2++[e]):=by
 unfold iq;rw[a2c];constructor
 ·rintro⟨e,he,rfl⟩;obtain⟨he,hb⟩:=a38.1 he;obtain⟨_,h0,h1,rfl⟩:=pj.1 he;exact⟨_,h0,h1,a1s hb,rfl⟩
 ·rintro⟨e,h0,h1,h2,rfl⟩;exact⟨e,a38.2 ⟨pj.2 ⟨e,h0,h1,rfl⟩,a0s.2 h2⟩,rfl⟩
theorem bo7{s:ac}{k:Nat}{l:List ab}(G:GroP s k l)(hk:k<l.length)(h6:(l.getD k (0,[])).2.length≠6)(hl:(l++iq s (l.getD k (0,[])) s.2.1.length).length<=400):GroP s (k+1) (l++iq s (l.getD k (0,[])) s.2.1.length):={
 nd:=by unfold List.Nodup;rw[a44];refine⟨G.nd,be2,fun a ha b hb e=>?_⟩;subst e;obtain⟨e,_,_,_,rfl⟩:=aup.1 hb;obtain⟨j,h1,h2⟩:=G.pa _ ha (by simp);simp only[List.dropLast_concat]at h2;have:=afl G.nd (by omega) hk h2;omega
 le:=hl
 cl:=fun j hj h q hq=>by
  by_cases e:j=k
  ·subst e;rw[afm hk]at hq;exact a2h _ hq
  ·rw[afm (by omega)]at h hq;exact a1q _ (G.cl j (by omega) h q hq)
 pa:=fun q hq h=>by
  rcases a1m.1 hq with hq|hq
  ·obtain⟨j,h1,h2⟩:=G.pa q hq h;exact⟨j,by omega,by rw[afm (by omega)];exact h2⟩
  ·obtain⟨e,_,_,_,rfl⟩:=aup.1 hq;refine⟨k,by omega,?_⟩;rw[afm hk,List.dropLast_concat]
 ok:=fun q hq=>by
  rcases a1m.1 hq with hq|hq
  ·exact G.ok q hq
  ·exact as3 (G.ok _ (je hk)) h6 (a0f _) hq }
theorem aui{s:ac}:∀(u k:Nat) (l:List ab),402<=u+k->k<=l.length->GroP s k l->(gf s u k l).2=true->GroP s (gf s u k l).1.length (gf s u k l).1/\∃r,(gf s u k l).1=l++r
 |0,k,l,h,hk,G,_=>by have:=G.le;omega
 |u+1,k,l,h,hk,G,hg=>by
  rw[gf]at hg⊢;by_cases hl:k<l.length
  ·rw[d0 hl]at hg⊢;by_cases h6:(l.getD k (0,[])).2.length=6
   ·rw[d0 h6]at hg⊢;exact aui u (k+1) l (by omega) (by omega) (boe G h6) hg
   ·rw[ds h6]at hg⊢;by_cases h4:400<(l++iq s (l.getD k (0,[])) s.2.1.length).length
    ·rw[d0 h4]at hg;cases hg
    ·rw[ds h4]at hg⊢;obtain⟨a,r,b⟩:=aui u (k+1) _ (by omega) (by rw[a0q];omega) (bo7 G hl h6 (by omega)) hg;exact⟨a,_,by rw[b,a06]⟩
  ·rw[ds hl];have:k=l.length:=by omega
   subst this;exact⟨G,[],by simp⟩
theorem bo8{s:ac}(h0:0<=s.1)(h4:s.1<=400):GroP s 0 (d6 s.1):={
 nd:=by unfold d6 List.Nodup;refine asw fun i j _ h _ e=>?_;have:=congrArg Prod.fst e;simp only at this;omega
 le:=by unfold d6;rw[bh];omega
 cl:=fun j hj=>by omega
 pa:=fun q hq h=>by unfold d6 at hq;obtain⟨e,_,_,rfl⟩:=pj.1 hq;exact absurd rfl h
 ok:=fun q hq=>by unfold d6 at hq;obtain⟨e,e0,e1,rfl⟩:=pj.1 hq;exact adx e0 (by omega) }
structure ShrtP (s:ac) (L:List ab):Prop where
 nd:L.Nodup
 le:L.length<=400
 ok:∀q∈L,(aw s q).2=true
 all:∀q,(aw s q).2=true->q∈L
 st:∀i:Nat,i<s.1.toNat->L.getD i (0,[])=((i:Int),[])
 ne:s.1.toNat<=L.length
theorem bk0{s:ac}{x:Int}{es:List Int}{e:Int}(h:(aw s (x,es++[e])).2=true):(aw s (x,es)).2=true/\es.length≠6/\0<=e/\e<s.2.1.length/\s.2.1.getD e.toNat 0=(aw s (x,es)).1:=by
 obtain⟨a1,a2,a3⟩:=iy h;rw[a3]at h;simp only[a0q,a0l,a0p]at a2;have e1:=ajj (s:=s) (p:=(x,es)) a1 (by dsimp only;omega);rw[e1];dsimp only at h a1 e1⊢;rw[pk]at h;by_cases h1:(be s x es).2=true
 ·rw[d0 h1]at h;simp only[be]at h;split at h
  ·rename_i hc;obtain⟨q1,q2⟩:=ow.1 hc.1;exact⟨h1,by omega,q1,by omega,hc.2⟩
  ·cases h
 ·rw[ds h1]at h;cases h
theorem ab7{s:ac}(h0:0<=s.1)(h4:s.1<=400)(h:(cn s).2=true):ShrtP s (cn s).1:=by
 unfold cn at h⊢;obtain⟨G,r,hr⟩:=aui 402 0 (d6 s.1) (by omega) (by omega) (bo8 h0 h4) h;generalize (gf s 402 0 (d6 s.1)).1=L at *;have hsl:(d6 s.1).length=s.1.toNat:=bh _;refine⟨G.nd,G.le,G.ok,?_,fun i hi=>?_,by rw[hr,a0q];omega⟩
 ·rintro⟨x,es⟩ hq
  have key:∀(n:Nat) (es:List Int),es.length=n->(aw s (x,es)).2=true->(x,es)∈L:=by
   intro n
   induction n with
   |zero=>intro es hn hq;have:=a1v hn;subst this;obtain⟨a1,_,_⟩:=iy hq;obtain⟨b1,b2⟩:=ow.1 a1;rw[hr];refine a1q _ ?_;unfold d6;dsimp only at b1 b2;exact pj.2 ⟨x,b1,by omega,rfl⟩
   |succ n ih=>
    intro es hn hq;have hne:es≠[]:=fun e=>by subst e;simp at hn
    have hsp:=List.dropLast_concat_getLast hne;generalize es.getLast hne=e at hsp;generalize es.dropLast=fs at hsp;subst hsp;simp only[a0q,a0l,a0p]at hn;obtain⟨c1,c2,c3,c4,c5⟩:=bk0 hq;obtain⟨j,j1,j2⟩:=qe (ih fs (by omega) c1);refine G.cl j j1 (by rw[j2];exact c2) _ ?_;rw[j2];exact aup.2 ⟨e,c3,c4,by rw[c5,(il c1).1],rfl⟩
  exact key es.length es rfl hq
 ·rw[hr,afm (by omega)];unfold d6;have:=ov (f:=fun x:Int=>(x,([]:List Int))) (n:=s.1.toNat) (i:=(i:Int)) (d:=((0:Int),([]:List Int))) (by omega) (by omega);rw[a0m]at this;exact this
theorem bkl{n:Int}(h0:0<=n)(h1:n<256):IntKind.wrap .u8 n=n:=by simp[IntKind.wrap,IntKind.bits,IntKind.signed];omega
theorem avw:∀{a b:List Int},(∀x∈a,0<=x/\x<256)->(∀x∈b,0<=x/\x<256)->(a.map fun n=>UInt8.ofNat n.toNat)=(b.map fun n=>UInt8.ofNat n.toNat)->a=b
 |[],[],_,_,_=>rfl
 |[],_::_,_,_,h=>by simp at h
 |_::_,[],_,_,h=>by simp at h
 |x::a,y::b,ha,hb,h=>by simp only[a1h,a0h]at h;have hx:=ha x (by simp);have hy:=hb y (by simp);have e:=congrArg UInt8.toNat h.1;simp only[UInt8.toNat_ofNat']at e;rw[Nat.mod_eq_of_lt (by omega),Nat.mod_eq_of_lt (by omega)]at e;rw[show x=y from by omega,avw (fun z hz=>ha z (by simp[hz])) (fun z hz=>hb z (by simp[hz])) h.2]
def amu(x:Int)(es:List Int):Prop:=(0<=x/\x<9)/\∀e∈es,0<=e/\e<8
theorem bj6{x:Int}{es:List Int}(h:amu x es):kbR [[x],es]=x::255::(es++[255]):=by
 unfold kbR;simp only[List.flatMap_cons,List.flatMap_nil,a1h,a2i,a2l,a2p,a2u];rw[bkl h.1.1 (by have:=h.1.2;omega)]
 have:es.map (fun n=>IntKind.wrap .u8 n)=es:=by
  have key:∀l:List Int,(∀e∈l,0<=e/\e<8)->l.map (fun n=>IntKind.wrap .u8 n)=l:=fun l=>by
   induction l with
   |nil=>intro _;rfl
   |cons a l ih=>intro hl;have ha:=hl a (by simp);rw[a1h,bkl ha.1 (by omega),ih fun e he=>hl e (by simp[he])]
  exact key es h.2
 rw[this]
theorem bme{x y:Int}{es fs:List Int}(h:amu x es)(g:amu y fs)(e:xq [[x],es]=xq [[y],fs]):x=y/\es=fs:=by
 unfold xq af7 at e;have e1:=congrArg (fun b:ByteArray=>b.data.toList) e;simp only[List.toList_toArray]at e1;rw[bj6 h,bj6 g]at e1
 have rng:∀{z:Int} {l:List Int},amu z l->∀n∈(z::255::(l++[255])),0<=n/\n<256:=fun hz n hn=>by
  simp only[a0u,a1m,a34,or_false]at hn;rcases hn with rfl|rfl|hn|rfl
  ·have:=hz.1;omega
  ·omega
  ·have:=hz.2 n hn;omega
  ·omega
 have e2:=avw (rng h) (rng g) e1;simp only[a0h,a0e]at e2;exact⟨e2.1,List.append_cancel_right e2.2⟩
theorem bk1{s:ac}{p:ab}(h1:s.1<=8)(h2:s.2.1.length<=8)(h:(aw s p).2=true):amu p.1 p.2:=by obtain⟨a1,_,_⟩:=iy h;obtain⟨b1,b2⟩:=ow.1 a1;obtain⟨_,w⟩:=il h;refine⟨by omega,fun e he=>?_⟩;unfold bm at w;rw[a1d]at w;obtain⟨c1,c2⟩:=ow.1 (w e he);omega
def fm(L:List ab):Nat->List (ByteArray×Int)
 |0=>[]
 |n+1=>jh .str (.int .i64) (fm L n) (xq [[(L.getD n (0,[])).1],(L.getD n (0,[])).2]) n
theorem aps(L:List ab):∀n,(fm L n).length<=n
 |0=>a0f _
 |n+1=>a1a bh2 (Nat.succ_le_succ (aps L n))
theorem azz{L:List ab}(hnd:L.Nodup)(hs:∀p∈L,amu p.1 p.2):∀{n i:Nat},n<=L.length->i<n->pp .str (.int .i64) (fm L n) (xq [[(L.getD i (0,[])).1],(L.getD i (0,[])).2])=i
 |0,i,_,h=>by omega
 |n+1,i,hn,h=>by
  unfold fm;rw[ayz];by_cases e:i=n
  ·subst e;rw[d0 (fe.2 rfl)]
  ·rw[ds,azz hnd hs (by omega) (by omega)];intro hk;obtain⟨k1,k2⟩:=bme (hs _ (je (by omega))) (hs _ (je (by omega))) (fe.1 hk);exact e (afl hnd (by omega) (by omega) (Prod.ext k1 k2))
theorem bnc{L:List ab}(hnd:L.Nodup)(hs:∀p∈L,amu p.1 p.2){k:aj}(hk:k.1=fm L L.length){p:ab}(hp:p∈L):0<=db k p.1 p.2/\db k p.1 p.2<L.length/\L.getD (db k p.1 p.2).toNat (0,[])=p:=by obtain⟨i,i1,rfl⟩:=qe hp;unfold db;rw[hk,azz hnd hs (a0f _) i1];exact⟨by omega,by omega,by rw[a0m]⟩
def aeh(s:ac)(p q:ab):Prop:=p.1=q.1/\(aw s p).1=(aw s q).1
theorem aeh.trans{s:ac}{p q r:ab}(h:aeh s p q)(g:aeh s q r):aeh s p r:=⟨h.1.trans g.1,h.2.trans g.2⟩
theorem aeh.symm{s:ac}{p q:ab}(h:aeh s p q):aeh s q p:=⟨h.1.symm,h.2.symm⟩
structure LabP (s:ac) (L:List ab) (j:List Int):Prop where
 U:UfP j
 n:j.length=L.length
 st:∀x y:Int,0<=x->x<L.length->0<=y->y<L.length->ef j x=ef j y->aeh s (L.getD x.toNat (0,[])) (L.getD y.toNat (0,[]))
theorem bjq{s:ac}{L:List ab}{j:List Int}(P:LabP s L j){x y:Int}(x0:0<=x)(x1:x<L.length)(y0:0<=y)(y1:y<L.length)(hs:aeh s (L.getD x.toNat (0,[])) (L.getD y.toNat (0,[]))):LabP s L (ww j x y).1:=by
 have hn:=P.n;obtain⟨u1,u2,u3⟩:=alr P.U x0 (by omega) y0 (by omega);refine⟨u1,u2.trans hn,fun a b a0 a1 b0 b1 h=>?_⟩;rcases u3 with u3|u3
 ·rw[u3 a a0 (by omega),u3 b b0 (by omega)]at h;split at h <;> split at h <;> rename_i h1 h2
  ·exact (P.st a x a0 a1 x0 x1 h1).trans (P.st x b x0 x1 b0 b1 h2.symm)
  ·exact ((P.st a x a0 a1 x0 x1 h1).trans hs).trans (P.st y b y0 y1 b0 b1 h)
  ·exact ((P.st a y a0 a1 y0 y1 h).trans hs.symm).trans (P.st x b x0 x1 b0 b1 h2.symm)
  ·exact P.st a b a0 a1 b0 b1 h
 ·rw[u3 a a0 (by omega),u3 b b0 (by omega)]at h;split at h <;> split at h <;> rename_i h1 h2
  ·exact (P.st a y a0 a1 y0 y1 h1).trans (P.st y b y0 y1 b0 b1 h2.symm)
  ·exact ((P.st a y a0 a1 y0 y1 h1).trans hs.symm).trans (P.st x b x0 x1 b0 b1 h)
  ·exact ((P.st a x a0 a1 x0 x1 h).trans hs).trans (P.st y b y0 y1 b0 b1 h2.symm)
  ·exact P.st a b a0 a1 b0 b1 h
structure SetP (s:ac) (L:List ab) (k:aj):Prop where
 S:bd s=true
 H:ShrtP s L
 k:k.1=fm L L.length
theorem SetP.sml{s:ac}{L:List ab}{k:aj}(P:SetP s L k):∀p∈L,amu p.1 p.2:=fun p hp=>by obtain⟨_,h1,h2,_⟩:=mc P.S;exact bk1 h1 h2 (P.H.ok p hp)
theorem SetP.at{s:ac}{L:List ab}{k:aj}(P:SetP s L k){p:ab}(hp:(aw s p).2=true):0<=db k p.1 p.2/\db k p.1 p.2<L.length/\L.getD (db k p.1 p.2).toNat (0,[])=p:=bnc P.H.nd P.sml P.k (P.H.all p hp)
theorem bhr{s:ac}{L:List ab}{k:aj}(P:SetP s L k){j:List Int}(Q:LabP s L j){w:Int}(w0:0<=w)(w1:w<L.length){e:Int}(e0:0<=e)(e1:e<s.2.2.2.1.length) :
  VisP s (L.getD w.toNat (0,[])) (s.2.2.2.1.getD e.toNat (0,[])) (s.2.2.2.2.getD e.toNat (0,[])) w k (L.getD w.toNat (0,[])) j:=by
 obtain⟨h1,h2,h3,h4,h5,h6,h7,h8,h9⟩:=mc P.S;have E:=tx h9 e0 e1 (by omega);have hp:=P.H.ok _ (je (l:=L) (i:=w.toNat) (by omega));have hlp:=(iy hp).2.1;have hll:=(iy E.l2).2.1;have hlr:=(iy E.r2).2.1;refine⟨Q.U,w0,by rw[Q.n];exact w1,by omega,by omega,by omega,by rw[h4];exact (il hp).2,fun n n0 n1 hh h6=>?_⟩;obtain⟨o1,o2⟩:=ai8 hp E n0 n1 hh h6;obtain⟨a1,a2,_⟩:=P.at o1;exact⟨a1,by rw[Q.n];exact a2⟩
theorem bb6{s:ac}{L:List ab}{k:aj}(P:SetP s L k){j:List Int}(Q:LabP s L j){w:Int}(w0:0<=w)(w1:w<L.length){e:Int}(e0:0<=e)(e1:e<s.2.2.2.1.length) :
  ∀n:Nat,n<=(L.getD w.toNat (0,[])).2.length+1->LabP s L (rp s (L.getD w.toNat (0,[])) (s.2.2.2.1.getD e.toNat (0,[])) (s.2.2.2.2.getD e.toNat (0,[])) w k (L.getD w.toNat (0,[])) n j)
 |0,_=>Q
 |n+1,hn=>by
  have ih:=bb6 P Q w0 w1 e0 e1 n (by omega);simp only[rp];split
  ·rename_i hc;obtain⟨h1,h2,h3,h4,h5,h6,h7,h8,h9⟩:=mc P.S;have E:=tx h9 e0 e1 (by omega);have hp:=P.H.ok _ (je (l:=L) (i:=w.toNat) (by omega));obtain⟨o1,o2⟩:=ai8 hp E (i:=(n:Int)) (by omega) (by omega) hc.1 hc.2;obtain⟨a1,a2,a3⟩:=P.at o1;exact bjq ih w0 w1 a1 a2 (by rw[a3];exact⟨rfl,o2.symm⟩)
  ·exact ih
def jE(s:ac)(k:aj)(p:ab)(w:Int):Nat->List Int->List Int
 |0,j=>j
 |e+1,j=>rp s p (s.2.2.2.1.getD e (0,[])) (s.2.2.2.2.getD e (0,[])) w k p (p.2.length+1) (jE s k p w e j)
def jW(s:ac)(k:aj)(L:List ab):Nat->List Int
 |0=>fq L.length
 |w+1=>jE s k (L.getD w (0,[])) w s.2.2.2.1.length (jW s k L w)
theorem bj7(s:ac)(L:List ab):LabP s L (fq L.length):=by
 have hl:(fq L.length).length=L.length:=by unfold fq;rw[bh];omega
 have hg:∀x:Int,0<=x->x<L.length->(fq L.length).getD x.toNat 0=x:=fun x x0 x1=>by unfold fq;rw[ov x0 (by omega)]
 have U:UfP (fq L.length):=⟨fun x x0 x1=>by rw[hg x x0 (by omega)];omega⟩;refine⟨U,hl,fun x y x0 x1 y0 y1 h=>?_⟩;rw[wh U x0 (by omega) (hg x x0 x1),wh U y0 (by omega) (hg y y0 y1)]at h;rw[h];exact⟨rfl,rfl⟩
theorem awl{s:ac}{L:List ab}{k:aj}(P:SetP s L k){j:List Int}(Q:LabP s L j){w:Nat}(w1:w<L.length):∀e:Nat,e<=s.2.2.2.1.length->LabP s L (jE s k (L.getD w (0,[])) w e j)
 |0,_=>Q
 |e+1,he=>by have:=bb6 P (awl P Q w1 e (by omega)) (w:=(w:Int)) (by omega) (by omega) (e:=(e:Int)) (by omega) (by omega) _ (a0f _);simp only[a0m]at this;exact this
theorem ari{s:ac}{L:List ab}{k:aj}(P:SetP s L k):∀w:Nat,w<=L.length->LabP s L (jW s k L w)
 |0,_=>bj7 s L
 |w+1,hw=>awl P (ari P w (by omega)) (by omega) _ (a0f _)
theorem bml{p:List Int}{x:Int}(h:x∈p):x+1<=ja p:=by
 have key:∀(l:List Int) (a:Int),a<=l.foldl (fun n k=>mxR n (k+1)) a/\∀x∈l,x+1<=l.foldl (fun n k=>mxR n (k+1)) a:=fun l=>by
  induction l with
  |nil=>intro a;exact⟨a0r _,fun x hx=>by cases hx⟩
  |cons y l ih=>
   intro a;obtain⟨h1,h2⟩:=ih (mxR a (y+1));have hm:a<=mxR a (y+1)/\y+1<=mxR a (y+1):=by unfold mxR;split <;> omega
   rw[a12];refine⟨by omega,fun x hx=>?_⟩;rcases a0u.1 hx with rfl|hx
   ·omega
   ·exact h2 x hx
 exact (key p 0).2 x h
theorem bg8{p:List Int}{n:Int}(h0:0<=n)(h:∀x∈p,x<n):0<=ja p/\ja p<=n:=by
 have key:∀(l:List Int) (a:Int),0<=a->a<=n->(∀x∈l,x<n)->0<=l.foldl (fun n k=>mxR n (k+1)) a/\l.foldl (fun n k=>mxR n (k+1)) a<=n:=fun l=>by
  induction l with
  |nil=>intro a h0 h1 _;exact⟨h0,h1⟩
  |cons y l ih=>
   intro a h0 h1 hl;rw[a12];have hy:=hl y (by simp);have hm:0<=mxR a (y+1)/\mxR a (y+1)<=n:=by unfold mxR;split <;> omega
   exact ih _ hm.1 hm.2 fun x hx=>hl x (by simp[hx])
 exact key p 0 (a0r _) h0 h
theorem ajo{y:Int}:∀{l s:List Int},(y∈s\/y∈l)->y∈l.foldl lm s
 |[],s,h=>by simpa using h
 |k::l,s,h=>by
  rw[a12];refine ajo ?_;unfold lm;rcases h with h|h
  ·left;split
   ·exact a1q _ h
   ·exact h
  ·rcases a0u.1 h with rfl|h
   ·left;split
    ·exact a2h _ (a0x.2 rfl)
    ·rename_i hn;exact a3k fun hh=>hn (by have:=(qi (0:Int)).2 hh;omega)
   ·exact .inr h
theorem al4{l:List Int}{i:Nat}(h:i<l.length):(cj l).getD i 0=gu (gy l) (l.getD i 0):=by unfold cj;simp only[a0o,a05,a0n h,a0z,a02]
theorem blv{l:List Int}:∀x∈cj l,0<=x/\x<l.length:=by intro x hx;unfold cj at hx;obtain⟨y,hy,rfl⟩:=a2c.1 hx;obtain⟨h0,h1,_⟩:=(qi (0:Int)).1 (ajo (l:=l) (s:=[]) (.inr hy));have:=an8 l [];simp only[a0p,a1z]at this;exact⟨h0,Int.lt_of_lt_of_le h1 (by omega)⟩
theorem az2{l:List Int}{i j:Nat}(hi:i<l.length)(hj:j<l.length):(cj l).getD i 0=(cj l).getD j 0<->l.getD i 0=l.getD j 0:=by
 rw[al4 hi,al4 hj];constructor
 ·intro h;have m1:l.getD i 0∈gy l:=ajo (.inr (by simp only[a0o,a0n hi,a02];exact a27 hi));have m2:l.getD j 0∈gy l:=ajo (.inr (by simp only[a0o,a0n hj,a02];exact a27 hj));obtain⟨_,_,e1,_⟩:=(qi (0:Int)).1 m1;obtain⟨_,_,e2,_⟩:=(qi (0:Int)).1 m2;rw[←e1,←e2,h]
 ·intro h;rw[h]
def jv(s:ac)(L:List ab):List Int:=cj (eh (jW s (fm L L.length,([],[])) L L.length))
structure ClaP (s:ac) (L:List ab) (c:List Int):Prop where
 n:c.length=L.length
 r:∀i:Int,0<=i->i<L.length->0<=c.getD i.toNat 0/\c.getD i.toNat 0<ja c
 st:∀i j:Int,0<=i->i<L.length->0<=j->j<L.length->c.getD i.toNat 0=c.getD j.toNat 0->aeh s (L.getD i.toNat (0,[])) (L.getD j.toNat (0,[]))
 le:0<=ja c/\ja c<=L.length
theorem an0{j:List Int}{x:Int}(x0:0<=x)(x1:x<j.length):(eh j).getD x.toNat 0=ef j x:=by unfold eh;rw[ov x0 (by omega)]
theorem ars{s:ac}{L:List ab}{j:List Int}(Q:LabP s L j):ClaP s L (cj (eh j)):=by
 have hn:(eh j).length=L.length:=by unfold eh;rw[bh,Q.n]
 have hm:(cj (eh j)).length=L.length:=by unfold cj;rw[a0y,hn]
 have hg:=blv (l:=eh j);have mem:∀i:Int,0<=i->i<L.length->(cj (eh j)).getD i.toNat 0∈cj (eh j):=fun i i0 i1=>ip _ 0 i0 (by omega);refine⟨hm,fun i i0 i1=>⟨(hg _ (mem i i0 i1)).1,?_⟩,fun a b a0 a1 b0 b1 h=>?_,bg8 (by omega) fun x hx=>by have:=(hg x hx).2;omega⟩
 ·have:=bml (mem i i0 i1);omega
 ·rw[az2 (by omega) (by omega),an0 a0 (by rw[Q.n];omega),an0 b0 (by rw[Q.n];omega)]at h;exact Q.st a b a0 a1 b0 b1 h
def lsS(c:List Int)(L:List ab)(i:Nat)(l:List (Int×Option (List Int))):List (Int×Option (List Int)):=if ((l.getD (c.getD i 0).toNat (0,none)).2.isNone||decide (r9 (L.getD i (0,[])) ((l.getD (c.getD i 0).toNat (0,none)).1,(l.getD (c.getD i 0).toNat (0,none)).2.getD [])<0))=true then l.set (c.getD i 0).toNat ((L.getD i (0,[])).1,some (L.getD i (0,[])).2)else l
def lsD(c:List Int)(L:List ab):Nat->List (Int×Option (List Int))
 |0=>List.replicate (ja c).toNat (0,none)
 |m+1=>lsS c L (L.length-1-m) (lsD c L m)
structure LstP (c:List Int) (L:List ab) (i:Int) (l:List (Int×Option (List Int))):Prop where
 n:l.length=(ja c).toNat
 v:∀(k:Nat) (x:Int) (es:List Int),l.getD k (0,none)=(x,some es)->∃a:Int,i<=a/\0<=a/\a<L.length/\c.getD a.toNat 0=k/\L.getD a.toNat (0,[])=(x,es)
theorem bom{c:List Int}{L:List ab}:LstP c L L.length (lsD c L 0):=by refine⟨by unfold lsD;rw[a4h],fun k x es h=>?_⟩;exfalso;unfold lsD at h;simp only[a0o,a4x]at h;split at h <;> simp at h
theorem boz{s:ac}{c:List Int}{L:List ab}(C:ClaP s L c){i:Int}{l:List (Int×Option (List Int))}(P:LstP c L (i+1) l)(i0:0<=i)(i1:i<L.length):LstP c L i (lsS c L i.toNat l):=by
 have hr:=C.r i i0 i1;unfold lsS;split
 ·refine⟨by rw[a1i];exact P.n,fun k x es h=>?_⟩;have hlt:(c.getD i.toNat 0).toNat<l.length:=by rw[P.n];omega
  rw[act _ _ _ _ _ hlt]at h;split at h
  ·rename_i e;simp only[a0k,a0d]at h;exact⟨i,a0r _,i0,i1,by omega,Prod.ext h.1 h.2⟩
  ·obtain⟨a,h1,h2⟩:=P.v k x es h;exact⟨a,by omega,h2⟩
 ·refine⟨P.n,fun k x es h=>?_⟩;obtain⟨a,h1,h2⟩:=P.v k x es h;exact⟨a,by omega,h2⟩
theorem axv{s:ac}{c:List Int}{L:List ab}(H:ShrtP s L)(C:ClaP s L c){i:Int}{l:List (Int×Option (List Int))}(P:LstP c L (i+1) l)(i0:0<=i)(i1:i<L.length):akq (l.getD (c.getD i.toNat 0).toNat (0,none)).2=true:=by
 generalize hq:l.getD (c.getD i.toNat 0).toNat (0,none)=q;obtain⟨x,o⟩:=q
 cases o with
 |none=>rfl
 |some es=>
  obtain⟨a,h1,h2,h3,h4,h5⟩:=P.v _ x es hq
  cases es with
  |cons _ _=>rfl
  |nil=>
   exfalso;have hr:=C.r i i0 i1;have hst:=(C.st a i h2 h3 i0 i1 (by omega)).1;rw[h5]at hst
   -- an empty path of number a begins at a
   have hmem:=je (l:=L) (i:=a.toNat) (by omega);rw[h5]at hmem;obtain⟨b1,b2⟩:=ow.1 (iy (H.ok _ hmem)).1;dsimp only at b1 b2 hst;have e1:=H.st x.toNat (by omega);rw[show ((x.toNat:Nat):Int)=x from by omega]at e1;have e2:x.toNat=a.toNat:=afl H.nd (by have:=H.ne;omega) (by omega) (by rw[e1,h5]);have e3:=H.st i.toNat (by omega);rw[e3]at hst;dsimp only at hst;omega
def lsA(s:ac)(L:List ab):List (Int×Option (List Int)):=lsD (jv s L) L L.length
def ard(l:List (Int×Option (List Int))):Bool:=l.all fun q=>(q.2.getD []).length != 6
def pm(s:ac):Bool:=(cn s).2&&ard (lsA s (cn s).1)
def pcR(s:ac):aj:=(fm (cn s).1 (cn s).1.length,(jv s (cn s).1,n7 (lsA s (cn s).1)))
theorem aj4{s:ac}{c:List Int}{L:List ab}(C:ClaP s L c):∀m:Nat,m<=L.length->LstP c L ((L.length:Int)-m) (lsD c L m)
 |0,_=>by simpa using (bom (c:=c) (L:=L))
 |m+1,hm=>by
  have ih:=aj4 C m (by omega);have e:((L.length:Int)-((m+1:Nat):Int)).toNat=L.length-1-m:=by omega
  have:=boz C (i:=(L.length:Int)-((m+1:Nat):Int)) (l:=lsD c L m) (by rw[show (L.length:Int)-((m+1:Nat):Int)+1=(L.length:Int)-m from by omega];exact ih) (by omega) (by omega);rw[e]at this;exact this
theorem az1{l:List (Int×Option (List Int))}:ard l=true<->∀b:Int,0<=b->b<l.length->((l.getD b.toNat (0,none)).2.getD []).length≠6:=by
 unfold ard;rw[a1d];constructor
 ·intro h b b0 b1;have:=h _ (ip l (0,none) b0 b1);simpa using this
 ·intro h x hx;obtain⟨i,hi,rfl⟩:=a2e hx;have:=h i (by omega) (by omega);rw[a0m]at this;simp only[a0o,a0n hi,a02]at this;simpa using this
def jf:Sp:=⟨[(.pt SchemaT)],[false],true,fun x=>pm x.1,fun x=>[bd x.1=true],[(false,(.fz (.pt mz))),(false,(.fz (.er 119)))],fun x=>(pcR x.1,false,()),[(false,(.fz .any)),(false,(.fz (.er 119)))],fun x=>((),true,())⟩
def dp:Ct:=o7 jf true
def d8:Ct:=o7 jf false
def wu:Ct:=spC jf
def uk:Ann:=(.s .n (.s .n (.s .n (.s .n (.s (.s .n (.l [(6,(.bx (.ad 27 [.de]))),(30,(.d (.int .i64)))] [(27,(.pt (.p (.mp .str (.int .i64)) (.p (.sl (.fz (.int .i64))) (.sl (.fz (.p (.int .i64) (.ns (.sl (.int .i64))))))))))] [0,4,28,29] .n)) (.s .n (.s (.s .n (.l [(6,(.bx (.ad 27 [.de]))),(9,(.ad 9 [.de])),(51,(.d (.int .i64)))] [(27,(.pt (.p (.mp .str (.int .i64)) (.p (.sl (.fz (.int .i64))) (.sl (.fz (.p (.int .i64) (.ns (.sl (.int .i64)))))))))),(9,(.pt (.sl (.fz (.int .i64)))))] [0,4,49,50] (.s .n (.s .n (.s (.s .n (.s .n (.l [(6,(.bx (.ad 27 [.de]))),(9,(.ad 9 [.de])),(10,(.ad 10 [.de])),(11,(.ad 11 [.de])),(61,(.d (.int .i64)))] [(27,(.pt (.p (.mp .str (.int .i64)) (.p (.sl (.fz (.int .i64))) (.sl (.fz (.p (.int .i64) (.ns (.sl (.int .i64)))))))))),(9,(.pt (.sl (.fz (.int .i64))))),(10,(.pt (.fz (.int .i64)))),(11,(.pt (.fz (.p (.int .i64) (.sl (.int .i64))))))] [0,4,49,50,51,60] .n))) .n))))) (.s .n (.s .n (.s (.s .n (.l [(6,(.bx (.ad 27 [.de]))),(13,(.d (.int .i64)))] [(27,(.pt (.p (.mp .str (.int .i64)) (.p (.sl (.fz (.int .i64))) (.sl (.fz (.p (.int .i64) (.ns (.sl (.int .i64))))))))))] [4] (.s .n (.s (.s .n (.s .n (.j [(6,(.bx (.ad 27 [.de])))] [(27,(.pt (.p (.mp .str (.int .i64)) (.p (.sl (.fz (.int .i64))) (.sl (.fz (.p (.int .i64) (.ns (.sl (.int .i64))))))))))] [4,13] .n))) .n)))) (.s (.s .n (.l [(6,(.bx (.ad 27 [.de]))),(159,(.d (.int .i64))),(157,(.ref 27 [.de,.r,.r]))] [(27,(.pt (.p (.mp .str (.int .i64)) (.p (.sl (.fz (.int .i64))) (.sl (.fz (.p (.int .i64) (.ns (.sl (.int .i64))))))))))] [158] .n)) .n)))))))))))
def we:FuncId->Option Ct:=lkp [(113,zc),(110,abm),(116,yr),(117,fx),(77,m4),(118,g7),(112,ol),(111,l9),(114,p8)]
def nz(s:ac)(A:gx dp.rt->Prop)(B:gx d8.rt->Prop):Prop:=(cnd (cn s).2 (((cn s).2=true)/\((0<=s.1)/\((s.1<=400)/\((s.2.1.length<=1000000)/\((s.2.2.1.length=s.2.1.length)/\(cnd false (B ((),(false,()))) (bi (S:=(bpn×(((List (ByteArray×Int))×((List Int)×(List (Int×(Option (List Int))))))×Unit))) (fun s1=>(fun next=>((inK .i64 s1.1.2.1)->((T.ok (T.mp T.str (.int .i64)) s1.2.1.1)->((T.ok (.sl (.int .i64)) s1.2.1.2.1)->((T.ok (.sl (T.p (.int .i64) (T.ns (.sl (.int .i64))))) s1.2.1.2.2)->(cnd (decide (s1.1.2.1<(List.length (cn s).1:Int))) ((0<=s1.1.2.1)/\((s1.1.2.1<(List.length (cn s).1:Int))/\(((List.length (List.getD (cn s).1 s1.1.2.1.toNat (0,[])).2)<=1000000)/\((e9 s1.2.1.1.length 1 1)/\((inK .i64 (s1.1.2.1+1))/\(next (((),((s1.1.2.1+1),())),(((jh T.str (.int .i64) s1.2.1.1 (xq (((List.getD (cn s).1 s1.1.2.1.toNat (0,[])).1::[])::((List.getD (cn s).1 s1.1.2.1.toNat (0,[])).2::[]))) s1.1.2.1),s1.2.1.2),())))))))) ((0<=(List.length (cn s).1:Int))/\(((List.length (cn s).1:Int)<=1099511627776)/\(bi (S:=((Unit×bpn)×(((List (ByteArray×Int))×((List Int)×(List (Int×(Option (List Int))))))×bpp))) (fun s2=>(fun next1=>((inK .i64 s2.1.2.2.1)->((T.ok (T.mp T.str (.int .i64)) s2.2.1.1)->((T.ok (.sl (.int .i64)) s2.2.1.2.1)->((T.ok (.sl (T.p (.int .i64) (T.ns (.sl (.int .i64))))) s2.2.1.2.2)->((T.ok (.sl (.int .i64)) s2.2.2.1)->(cnd (decide (s2.1.2.2.1<(List.length (cn s).1:Int))) ((0<=s2.1.2.2.1)/\((s2.1.2.2.1<(List.length (cn s).1:Int))/\(bi (S:=((Unit×bps)×(((List (ByteArray×Int))×((List Int)×(List (Int×(Option (List Int))))))×bp0))) (fun s3=>(fun next2=>((inK .i64 s3.1.2.2.2.2.1)->((T.ok (T.mp T.str (.int .i64)) s3.2.1.1)->((T.ok (.sl (.int .i64)) s3.2.1.2.1)->((T.ok (.sl (T.p (.int .i64) (T.ns (.sl (.int .i64))))) s3.2.1.2.2)->((T.ok (.sl (.int .i64)) s3.2.2.1)->((inK .i64 s3.2.2.2.1)->((inK .i64 s3.2.2.2.2.1.1)->((T.ok (.sl (.int .i64)) s3.2.2.2.2.1.2)->(cnd (decide (s3.1.2.2.2.2.1<(s.2.2.2.1.length:Int))) ((0<=s3.1.2.2.2.2.1)/\((s3.1.2.2.2.2.1<(s.2.2.2.1.length:Int))/\((0<=s3.1.2.2.2.2.1)/\((s3.1.2.2.2.2.1<(s.2.2.2.2.length:Int))/\((VisP s s3.2.2.2.2.1 (List.getD s.2.2.2.1 s3.1.2.2.2.2.1.toNat (0,[])) (List.getD s.2.2.2.2 s3.1.2.2.2.2.1.toNat (0,[])) s3.2.2.2.1 (s3.2.1.1,(s3.2.1.2.1,(n7 s3.2.1.2.2))) s3.2.2.2.2.1 s3.2.2.1)/\((inK .i64 (s3.1.2.2.2.2.1+1))/\(next2 (((),((),((),((),((s3.1.2.2.2.2.1+1),()))))),(s3.2.1,((rp s s3.2.2.2.2.1 (List.getD s.2.2.2.1 s3.1.2.2.2.2.1.toNat (0,[])) (List.getD s.2.2.2.2 s3.1.2.2.2.2.1.toNat (0,[])) s3.2.2.2.1 (s3.2.1.1,(s3.2.1.2.1,(n7 s3.2.1.2.2))) s3.2.2.2.2.1 (s3.2.2.2.2.1.2.length+1) s3.2.2.1),(s3.2.2.2.1,(s3.2.2.2.2.1,())))))))))))) ((inK .i64 (s2.1.2.2.1+1))/\(next1 (((),((),((s2.1.2.2.1+1),()))),(s3.2.1,(s3.2.2.1,())))))))))))))))) (((),((),((),((),(0,()))))),(s2.2.1,(s2.2.2.1,(s2.1.2.2.1,((List.getD (cn s).1 s2.1.2.2.1.toNat (0,[])),())))))))) ((UfP s2.2.2.1)/\((s2.2.2.1.length<=1099511627776)/\(((List.length (cj (eh s2.2.2.1)))<=1099511627776)/\(((bm (cj (eh s2.2.2.1)) 1099511627776)=true)/\((0<=(ja (cj (eh s2.2.2.1))))/\(((ja (cj (eh s2.2.2.1)))<=(ja (cj (eh s2.2.2.1))))/\(((ja (cj (eh s2.2.2.1)))<=((140737488355328:Nat):Int))/\((((ja (cj (eh s2.2.2.1)))*((32:Nat):Int))<=((140737488355328:Nat):Int))/\((inK .i64 ((List.length (cn s).1:Int)-1))/\(bi (S:=(bpn×(((List (ByteArray×Int))×((List Int)×(List (Int×(Option (List Int))))))×Unit))) (fun s3=>(fun next2=>((inK .i64 s3.1.2.1)->((T.ok (T.mp T.str (.int .i64)) s3.2.1.1)->((T.ok (.sl (.int .i64)) s3.2.1.2.1)->((T.ok (.sl (T.p (.int .i64) (T.ns (.sl (.int .i64))))) s3.2.1.2.2)->(cnd (decide (0<=s3.1.2.1)) ((0<=s3.1.2.1)/\((s3.1.2.1<(s3.2.1.2.1.length:Int))/\((0<=(List.getD s3.2.1.2.1 s3.1.2.1.toNat 0))/\(((List.getD s3.2.1.2.1 s3.1.2.1.toNat 0)<(s3.2.1.2.2.length:Int))/\(((akq (List.getD s3.2.1.2.2 (Int.toNat (List.getD s3.2.1.2.1 s3.1.2.1.toNat 0)) (0,(none:Option (List Int)))).2)=true)/\((((Option.isNone (List.getD s3.2.1.2.2 (Int.toNat (List.getD s3.2.1.2.1 s3.1.2.1.toNat 0)) (0,(none:Option (List Int)))).2)=false)->((s3.1.2.1<(List.length (cn s).1:Int))/\(0<=s3.1.2.1)))/\((((Option.isNone (List.getD s3.2.1.2.2 (Int.toNat (List.getD s3.2.1.2.1 s3.1.2.1.toNat 0)) (0,(none:Option (List Int)))).2)=false)->(((List.getD s3.2.1.2.1 s3.1.2.1.toNat 0)<(s3.2.1.2.2.length:Int))/\(0<=(List.getD s3.2.1.2.1 s3.1.2.1.toNat 0))))/\((((Option.isNone (List.getD s3.2.1.2.2 (Int.toNat (List.getD s3.2.1.2.1 s3.1.2.1.toNat 0)) (0,(none:Option (List Int)))).2)=false)->(((List.length (Option.getD (List.getD s3.2.1.2.2 (Int.toNat (List.getD s3.2.1.2.1 s3.1.2.1.toNat 0)) (0,(none:Option (List Int)))).2 []))<=1000000)/\((List.length (List.getD (cn s).1 s3.1.2.1.toNat (0,[])).2)<=1000000)))/\(jd (S:=((Unit×Unit)×(((List (ByteArray×Int))×((List Int)×(List (Int×(Option (List Int))))))×Unit))) (fun s4=>((T.ok (T.mp T.str (.int .i64)) s4.2.1.1)->((T.ok (.sl (.int .i64)) s4.2.1.2.1)->((T.ok (.sl (T.p (.int .i64) (T.ns (.sl (.int .i64))))) s4.2.1.2.2)->((inK .i64 (s3.1.2.1-1))/\(next2 (((),((s3.1.2.1-1),())),(s4.2.1,())))))))) (fun k=>(cnd ((Option.isNone (List.getD s3.2.1.2.2 (Int.toNat (List.getD s3.2.1.2.1 s3.1.2.1.toNat 0)) (0,(none:Option (List Int)))).2)||(decide ((r9 (List.getD (cn s).1 s3.1.2.1.toNat (0,[])) ((List.getD s3.2.1.2.2 (Int.toNat (List.getD s3.2.1.2.1 s3.1.2.1.toNat 0)) (0,(none:Option (List Int)))).1,(Option.getD (List.getD s3.2.1.2.2 (Int.toNat (List.getD s3.2.1.2.1 s3.1.2.1.toNat 0)) (0,(none:Option (List Int)))).2 [])))<0))) ((0<=s3.1.2.1)/\((s3.1.2.1<(List.length (cn s).1:Int))/\((0<=s3.1.2.1)/\((s3.1.2.1<(List.length (cn s).1:Int))/\(((List.length (List.getD (cn s).1 s3.1.2.1.toNat (0,[])).2)<=1099511627776)/\((0<=(List.getD s3.2.1.2.1 s3.1.2.1.toNat 0))/\(((List.getD s3.2.1.2.1 s3.1.2.1.toNat 0)<(s3.2.1.2.2.length:Int))/\(k (((),()),((s3.2.1.1,(s3.2.1.2.1,(List.set s3.2.1.2.2 (Int.toNat (List.getD s3.2.1.2.1 s3.1.2.1.toNat 0)) ((List.getD (cn s).1 s3.1.2.1.toNat (0,[])).1,(Option.some (List.getD (cn s).1 s3.1.2.1.toNat (0,[])).2))))),())))))))))) (k (((),()),(s3.2.1,())))))))))))))) (bi (S:=(bp3×(((List (ByteArray×Int))×((List Int)×(List (Int×(Option (List Int))))))×Unit))) (fun s4=>(fun next3=>((inK .i64 s4.1.2.1)->((T.ok (T.mp T.str (.int .i64)) s4.2.1.1)->((T.ok (.sl (.int .i64)) s4.2.1.2.1)->((T.ok (.sl (T.p (.int .i64) (T.ns (.sl (.int .i64))))) s4.2.1.2.2)->(cnd (decide (s4.1.2.1<(s3.2.1.2.2.length:Int))) ((0<=s4.1.2.1)/\((s4.1.2.1<(s4.2.1.2.2.length:Int))/\(cnd ((((List.length (Option.getD (List.getD s4.2.1.2.2 s4.1.2.1.toNat (0,(none:Option (List Int)))).2 [])):Nat):Int)==6) (B ((),(true,()))) ((inK .i64 (s4.1.2.1+1))/\(next3 (((),((s4.1.2.1+1),((),()))),(s4.2.1,()))))))) (A ((s4.2.1.1,(s4.2.1.2.1,(n7 s4.2.1.2.2))),(false,())))))))))) (((),(0,((),()))),(s3.2.1,())))))))))) (((),(((List.length (cn s).1:Int)-1),())),((s2.2.1.1,((cj (eh s2.2.2.1)),(List.replicate (Int.toNat (ja (cj (eh s2.2.2.1)))) (0,(none:Option (List Int)))))),())))))))))))))))))))) (((),((),(0,()))),(s1.2.1,((fq (List.length (cn s).1:Int)),()))))))))))))) (((),(0,())),((([]:List (ByteArray×Int)),([],([]:List (Int×(Option (List Int)))))),()))))))))) (((cn s).2=false)/\((0<=s.1)/\((s.1<=400)/\((s.2.1.length<=1000000)/\((s.2.2.1.length=s.2.1.length)/\(cnd true (B ((),(true,()))) (bi (S:=(bpn×(((List (ByteArray×Int))×((List Int)×(List (Int×(Option (List Int))))))×Unit))) (fun s1=>(fun next=>((inK .i64 s1.1.2.1)->((T.ok (T.mp T.str (.int .i64)) s1.2.1.1)->((T.ok (.sl (.int .i64)) s1.2.1.2.1)->((T.ok (.sl (T.p (.int .i64) (T.ns (.sl (.int .i64))))) s1.2.1.2.2)->(cnd (decide (s1.1.2.1<(((List.length ([]:List bpm)):Nat):Int))) ((0<=s1.1.2.1)/\((s1.1.2.1<(((List.length ([]:List bpm)):Nat):Int))/\(((List.length (List.getD ([]:List bpm) s1.1.2.1.toNat (0,[])).2)<=1000000)/\((e9 s1.2.1.1.length 1 1)/\((inK .i64 (s1.1.2.1+1))/\(next (((),((s1.1.2.1+1),())),(((jh T.str (.int .i64) s1.2.1.1 (xq (((List.getD ([]:List bpm) s1.1.2.1.toNat (0,[])).1::[])::((List.getD ([]:List bpm) s1.1.2.1.toNat (0,[])).2::[]))) s1.1.2.1),s1.2.1.2),())))))))) ((0<=(((List.length ([]:List bpm)):Nat):Int))/\(((((List.length ([]:List bpm)):Nat):Int)<=1099511627776)/\(bi (S:=((Unit×bpn)×(((List (ByteArray×Int))×((List Int)×(List (Int×(Option (List Int))))))×bpp))) (fun s2=>(fun next1=>((inK .i64 s2.1.2.2.1)->((T.ok (T.mp T.str (.int .i64)) s2.2.1.1)->((T.ok (.sl (.int .i64)) s2.2.1.2.1)->((T.ok (.sl (T.p (.int .i64) (T.ns (.sl (.int .i64))))) s2.2.1.2.2)->((T.ok (.sl (.int .i64)) s2.2.2.1)->(cnd (decide (s2.1.2.2.1<(((List.length ([]:List bpm)):Nat):Int))) ((0<=s2.1.2.2.1)/\((s2.1.2.2.1<(((List.length ([]:List bpm)):Nat):Int))/\(bi (S:=((Unit×bps)×(((List (ByteArray×Int))×((List Int)×(List (Int×(Option (List Int))))))×bp0))) (fun s3=>(fun next2=>((inK .i64 s3.1.2.2.2.2.1)->((T.ok (T.mp T.str (.int .i64)) s3.2.1.1)->((T.ok (.sl (.int .i64)) s3.2.1.2.1)->((T.ok (.sl (T.p (.int .i64) (T.ns (.sl (.int .i64))))) s3.2.1.2.2)->((T.ok (.sl (.int .i64)) s3.2.2.1)->((inK .i64 s3.2.2.2.1)->((inK .i64 s3.2.2.2.2.1.1)->((T.ok (.sl (.int .i64)) s3.2.2.2.2.1.2)->(cnd (decide (s3.1.2.2.2.2.1<(s.2.2.2.1.length:Int))) ((0<=s3.1.2.2.2.2.1)/\((s3.1.2.2.2.2.1<(s.2.2.2.1.length:Int))/\((0<=s3.1.2.2.2.2.1)/\((s3.1.2.2.2.2.1<(s.2.2.2.2.length:Int))/\((VisP s s3.2.2.2.2.1 (List.getD s.2.2.2.1 s3.1.2.2.2.2.1.toNat (0,[])) (List.getD s.2.2.2.2 s3.1.2.2.2.2.1.toNat (0,[])) s3.2.2.2.1 (s3.2.1.1,(s3.2.1.2.1,(n7 s3.2.1.2.2))) s3.2.2.2.2.1 s3.2.2.1)/\((inK .i64 (s3.1.2.2.2.2.1+1))/\(next2 (((),((),((),((),((s3.1.2.2.2.2.1+1),()))))),(s3.2.1,((rp s s3.2.2.2.2.1 (List.getD s.2.2.2.1 s3.1.2.2.2.2.1.toNat (0,[])) (List.getD s.2.2.2.2 s3.1.2.2.2.2.1.toNat (0,[])) s3.2.2.2.1 (s3.2.1.1,(s3.2.1.2.1,(n7 s3.2.1.2.2))) s3.2.2.2.2.1 (s3.2.2.2.2.1.2.length+1) s3.2.2.1),(s3.2.2.2.1,(s3.2.2.2.2.1,())))))))))))) ((inK .i64 (s2.1.2.2.1+1))/\(next1 (((),((),((s2.1.2.2.1+1),()))),(s3.2.1,(s3.2.2.1,())))))))))))))))) (((),((),((),((),(0,()))))),(s2.2.1,(s2.2.2.1,(s2.1.2.2.1,((List.getD ([]:List bpm) s2.1.2.2.1.toNat (0,[])),())))))))) ((UfP s2.2.2.1)/\((s2.2.2.1.length<=1099511627776)/\(((List.length (cj (eh s2.2.2.1)))<=1099511627776)/\(((bm (cj (eh s2.2.2.1)) 1099511627776)=true)/\((0<=(ja (cj (eh s2.2.2.1))))/\(((ja (cj (eh s2.2.2.1)))<=(ja (cj (eh s2.2.2.1))))/\(((ja (cj (eh s2.2.2.1)))<=((140737488355328:Nat):Int))/\((((ja (cj (eh s2.2.2.1)))*((32:Nat):Int))<=((140737488355328:Nat):Int))/\((inK .i64 ((((List.length ([]:List bpm)):Nat):Int)-1))/\(bi (S:=(bpn×(((List (ByteArray×Int))×((List Int)×(List (Int×(Option (List Int))))))×Unit))) (fun s3=>(fun next2=>((inK .i64 s3.1.2.1)->((T.ok (T.mp T.str (.int .i64)) s3.2.1.1)->((T.ok (.sl (.int .i64)) s3.2.1.2.1)->((T.ok (.sl (T.p (.int .i64) (T.ns (.sl (.int .i64))))) s3.2.1.2.2)->(cnd (decide (0<=s3.1.2.1)) ((0<=s3.1.2.1)/\((s3.1.2.1<(s3.2.1.2.1.length:Int))/\((0<=(List.getD s3.2.1.2.1 s3.1.2.1.toNat 0))/\(((List.getD s3.2.1.2.1 s3.1.2.1.toNat 0)<(s3.2.1.2.2.length:Int))/\(((akq (List.getD s3.2.1.2.2 (Int.toNat (List.getD s3.2.1.2.1 s3.1.2.1.toNat 0)) (0,(none:Option (List Int)))).2)=true)/\((((Option.isNone (List.getD s3.2.1.2.2 (Int.toNat (List.getD s3.2.1.2.1 s3.1.2.1.toNat 0)) (0,(none:Option (List Int)))).2)=false)->((s3.1.2.1<(((List.length ([]:List bpm)):Nat):Int))/\(0<=s3.1.2.1)))/\((((Option.isNone (List.getD s3.2.1.2.2 (Int.toNat (List.getD s3.2.1.2.1 s3.1.2.1.toNat 0)) (0,(none:Option (List Int)))).2)=false)->(((List.getD s3.2.1.2.1 s3.1.2.1.toNat 0)<(s3.2.1.2.2.length:Int))/\(0<=(List.getD s3.2.1.2.1 s3.1.2.1.toNat 0))))/\((((Option.isNone (List.getD s3.2.1.2.2 (Int.toNat (List.getD s3.2.1.2.1 s3.1.2.1.toNat 0)) (0,(none:Option (List Int)))).2)=false)->(((List.length (Option.getD (List.getD s3.2.1.2.2 (Int.toNat (List.getD s3.2.1.2.1 s3.1.2.1.toNat 0)) (0,(none:Option (List Int)))).2 []))<=1000000)/\((List.length (List.getD ([]:List bpm) s3.1.2.1.toNat (0,[])).2)<=1000000)))/\(jd (S:=((Unit×Unit)×(((List (ByteArray×Int))×((List Int)×(List (Int×(Option (List Int))))))×Unit))) (fun s4=>((T.ok (T.mp T.str (.int .i64)) s4.2.1.1)->((T.ok (.sl (.int .i64)) s4.2.1.2.1)->((T.ok (.sl (T.p (.int .i64) (T.ns (.sl (.int .i64))))) s4.2.1.2.2)->((inK .i64 (s3.1.2.1-1))/\(next2 (((),((s3.1.2.1-1),())),(s4.2.1,())))))))) (fun k=>(cnd ((Option.isNone (List.getD s3.2.1.2.2 (Int.toNat (List.getD s3.2.1.2.1 s3.1.2.1.toNat 0)) (0,(none:Option (List Int)))).2)||(decide ((r9 (List.getD ([]:List bpm) s3.1.2.1.toNat (0,[])) ((List.getD s3.2.1.2.2 (Int.toNat (List.getD s3.2.1.2.1 s3.1.2.1.toNat 0)) (0,(none:Option (List Int)))).1,(Option.getD (List.getD s3.2.1.2.2 (Int.toNat (List.getD s3.2.1.2.1 s3.1.2.1.toNat 0)) (0,(none:Option (List Int)))).2 [])))<0))) ((0<=s3.1.2.1)/\((s3.1.2.1<(((List.length ([]:List bpm)):Nat):Int))/\((0<=s3.1.2.1)/\((s3.1.2.1<(((List.length ([]:List bpm)):Nat):Int))/\(((List.length (List.getD ([]:List bpm) s3.1.2.1.toNat (0,[])).2)<=1099511627776)/\((0<=(List.getD s3.2.1.2.1 s3.1.2.1.toNat 0))/\(((List.getD s3.2.1.2.1 s3.1.2.1.toNat 0)<(s3.2.1.2.2.length:Int))/\(k (((),()),((s3.2.1.1,(s3.2.1.2.1,(List.set s3.2.1.2.2 (Int.toNat (List.getD s3.2.1.2.1 s3.1.2.1.toNat 0)) ((List.getD ([]:List bpm) s3.1.2.1.toNat (0,[])).1,(Option.some (List.getD ([]:List bpm) s3.1.2.1.toNat (0,[])).2))))),())))))))))) (k (((),()),(s3.2.1,())))))))))))))) (bi (S:=(bp3×(((List (ByteArray×Int))×((List Int)×(List (Int×(Option (List Int))))))×Unit))) (fun s4=>(fun next3=>((inK .i64 s4.1.2.1)->((T.ok (T.mp T.str (.int .i64)) s4.2.1.1)->((T.ok (.sl (.int .i64)) s4.2.1.2.1)->((T.ok (.sl (T.p (.int .i64) (T.ns (.sl (.int .i64))))) s4.2.1.2.2)->(cnd (decide (s4.1.2.1<(s3.2.1.2.2.length:Int))) ((0<=s4.1.2.1)/\((s4.1.2.1<(s4.2.1.2.2.length:Int))/\(cnd ((((List.length (Option.getD (List.getD s4.2.1.2.2 s4.1.2.1.toNat (0,(none:Option (List Int)))).2 [])):Nat):Int)==6) (B ((),(true,()))) ((inK .i64 (s4.1.2.1+1))/\(next3 (((),((s4.1.2.1+1),((),()))),(s4.2.1,()))))))) (A ((s4.2.1.1,(s4.2.1.2.1,(n7 s4.2.1.2.2))),(false,())))))))))) (((),(0,((),()))),(s3.2.1,())))))))))) (((),(((((List.length ([]:List bpm)):Nat):Int)-1),())),((s2.2.1.1,((cj (eh s2.2.2.1)),(List.replicate (Int.toNat (ja (cj (eh s2.2.2.1)))) (0,(none:Option (List Int)))))),())))))))))))))))))))) (((),((),(0,()))),(s1.2.1,((fq (((List.length ([]:List bpm)):Nat):Int)),()))))))))))))) (((),(0,())),((([]:List (ByteArray×Int)),([],([]:List (Int×(Option (List Int)))))),()))))))))))
def pq(s:ac)(K:gx dp.rt->Prop):Prop:=nz s K (fun _=>False)
theorem ad9(s:ac)(hok:ae (okL dp.args (s,())))(hpre:ae (dp.pre (s,()))):pq s (fun r=>r=dp.res (s,())):=by
 simp only[dp,o7,jf,okL,T.oks,T.ok,ap,ae,a0e,a0c,a0i]at hok hpre
 try dsimp only[T.den]at hok hpre
 unfold pq nz;obtain⟨hs,hS⟩:=hpre;clear hok;obtain⟨s0,s8,f8,tf,_,_,e8,re,_⟩:=mc hS;unfold pm at hs;rw[a0a]at hs;obtain⟨hg,hs⟩:=hs;simp only[dp,o7,jf,pcR,lsA,jv];refine a8 (fun _=>⟨hg,s0,by omega,by omega,tf,a8 (fun h=>by cases h) (fun _=>?_)⟩) (fun h=>by rw[hg]at h;cases h);have H:=ab7 s0 (by omega) hg;have hlA:lsA s (cn s).1=lsD (jv s (cn s).1) (cn s).1 (cn s).1.length:=rfl;have hcA:jv s (cn s).1=cj (eh (jW s (fm (cn s).1 (cn s).1.length,([],[])) (cn s).1 (cn s).1.length)):=rfl;rw[hlA,hcA]at hs;clear hlA hcA;generalize (cn s).1=L at *;have hl4:=H.le;have hpl:∀i:Int,0<=i->i<L.length->(L.getD i.toNat (0,[])).2.length<=6:=fun i i0 i1=>(iy (H.ok _ (je (i:=i.toNat) (by omega)))).2.1;refine bq (fun (q:(bpn×(((List (ByteArray×Int))×((List Int)×(List (Int×(Option (List Int))))))×Unit)))=>0<=q.1.2.1/\q.1.2.1<=L.length/\q.2.1=(fm L q.1.2.1.toNat,([],[]))) (fun (q:(bpn×(((List (ByteArray×Int))×((List Int)×(List (Int×(Option (List Int))))))×Unit)))=>(L.length-q.1.2.1).toNat) ?_ ⟨a0r _,by dsimp only;omega,rfl⟩;rintro⟨⟨_,i,_⟩,k,_⟩ next ⟨i0,i1,q⟩ hnx
 intros
 try dsimp only at i0 i1 q hnx⊢
 subst q
 try dsimp only
 refine ao (fun hi=>?_) (fun hi=>?_)
 ·have hp:=hpl i i0 hi;refine⟨i0,hi,by omega,c9 (by have:=aps L i.toNat;omega),by rw[al];(try dsimp only);omega,hnx _ ⟨by dsimp only;omega,by dsimp only;omega,?_⟩ (by dsimp only;omega)⟩
  try dsimp only
  rw[show (i+1).toNat=i.toNat+1 from by omega];simp only[fm];rw[a1y i0]
 clear hnx;have e:i=L.length:=by omega
 subst e;rw[a0m];refine⟨by omega,by omega,?_⟩;have P:SetP s L (fm L L.length,([],[])):=⟨hS,H,rfl⟩;refine bq (fun (q:((Unit×bpn)×(((List (ByteArray×Int))×((List Int)×(List (Int×(Option (List Int))))))×bpp)))=>0<=q.1.2.2.1/\q.1.2.2.1<=L.length/\q.2.1=(fm L L.length,([],[]))/\q.2.2.1=jW s (fm L L.length,([],[])) L q.1.2.2.1.toNat) (fun (q:((Unit×bpn)×(((List (ByteArray×Int))×((List Int)×(List (Int×(Option (List Int))))))×bpp)))=>(L.length-q.1.2.2.1).toNat) ?_ ⟨a0r _,by dsimp only;omega,rfl,rfl⟩;rintro⟨⟨_,_,w,_⟩,k,j,_⟩ next1 ⟨w0,w1,q1,q2⟩ hn1;intros
 try dsimp only at w0 w1 q1 q2 hn1⊢
 subst q1;subst q2;have Q:=ari P w.toNat (by omega);refine ao (fun hw=>?_) (fun hw=>?_)
 ·refine⟨w0,hw,?_⟩;refine bq (fun (q:((Unit×bps)×(((List (ByteArray×Int))×((List Int)×(List (Int×(Option (List Int))))))×bp0)))=>0<=q.1.2.2.2.2.1/\q.1.2.2.2.2.1<=s.2.2.2.1.length/\q.2.1=(fm L L.length,([],[]))/\q.2.2.1=jE s (fm L L.length,([],[])) (L.getD w.toNat (0,[])) w q.1.2.2.2.2.1.toNat (jW s (fm L L.length,([],[])) L w.toNat)/\q.2.2.2.1=w/\q.2.2.2.2.1=L.getD w.toNat (0,[])) (fun (q:((Unit×bps)×(((List (ByteArray×Int))×((List Int)×(List (Int×(Option (List Int))))))×bp0)))=>(s.2.2.2.1.length-q.1.2.2.2.2.1).toNat) ?_ ⟨a0r _,by dsimp only;omega,rfl,rfl,rfl,rfl⟩;rintro⟨⟨_,_,_,_,e,_⟩,k,j,w',p,_⟩ next2 ⟨e0,e1,q1,q2,q3,q4⟩ hn2;intros
  try dsimp only at e0 e1 q1 q2 q3 q4 hn2⊢
  subst q1;subst q2;subst q3;subst q4;refine ao (fun he=>?_) (fun he=>?_)
  ·have Qe:=awl P Q (w:=w'.toNat) (by omega) e.toNat (by omega);rw[a1y w0]at Qe;refine⟨e0,he,e0,by omega,bhr P Qe w0 hw e0 he,by rw[al];(try dsimp only);omega,hn2 _ ⟨by dsimp only;omega,by dsimp only;omega,rfl,?_,rfl,rfl⟩ (by dsimp only;omega)⟩
   try dsimp only
   rw[show (e+1).toNat=e.toNat+1 from by omega];rfl
  ·have ee:e=s.2.2.2.1.length:=by omega
   subst ee;refine⟨by rw[al];(try dsimp only);omega,hn1 _ ⟨by dsimp only;omega,by dsimp only;omega,rfl,?_⟩ (by dsimp only;omega)⟩
   try dsimp only
   rw[show (w'+1).toNat=w'.toNat+1 from by omega];simp only[jW];rw[a1y w0,a0m]
 clear hn1;have e:w=L.length:=by omega
 subst e;rw[a0m]at Q⊢;have C:=ars Q;have hjl:=Q.n;generalize hc:cj (eh (jW s (fm L L.length,([],[])) L L.length))=c at *;have hcn:=C.n;obtain⟨cl0,cl1⟩:=C.le;refine⟨Q.U,by omega,by omega,kv.2 fun i i0 i1=>?_,cl0,a0r _,by omega,by omega,by rw[al];(try dsimp only);omega,?_⟩
 ·have:=C.r i i0 (by omega);exact⟨this.1,by omega⟩
 refine bq (fun (q:(bpn×(((List (ByteArray×Int))×((List Int)×(List (Int×(Option (List Int))))))×Unit)))=>-1<=q.1.2.1/\q.1.2.1<=(L.length:Int)-1/\q.2.1=(fm L L.length,(c,lsD c L ((L.length:Int)-1-q.1.2.1).toNat))) (fun (q:(bpn×(((List (ByteArray×Int))×((List Int)×(List (Int×(Option (List Int))))))×Unit)))=>(q.1.2.1+1).toNat) ?_ ⟨by dsimp only;omega,a0r _,by dsimp only;rw[show ((L.length:Int)-1-((L.length:Int)-1)).toNat=0 from by omega];rfl⟩;rintro⟨⟨_,i,_⟩,k,_⟩ next2 ⟨i0,i1,q⟩ hn2;intros
 try dsimp only at i0 i1 q hn2⊢
 subst q
 try dsimp only
 have P4:=aj4 C ((L.length:Int)-1-i).toNat (by omega);rw[show (L.length:Int)-(((L.length:Int)-1-i).toNat:Int)=i+1 from by omega]at P4;have hln:=P4.n;refine ao (fun hi=>?_) (fun hi=>?_)
 ·have hi1:i<L.length:=by omega
  have hr:=C.r i hi hi1;have hT:=axv H C P4 hi hi1;have hs4:lsD c L ((L.length:Int)-1-(i-1)).toNat=lsS c L i.toNat (lsD c L ((L.length:Int)-1-i).toNat):=by rw[show ((L.length:Int)-1-(i-1)).toNat=((L.length:Int)-1-i).toNat+1 from by omega,lsD,show L.length-1-((L.length:Int)-1-i).toNat=i.toNat from by omega]
  have hes:(((lsD c L ((L.length:Int)-1-i).toNat).getD (c.getD i.toNat 0).toNat (0,none)).2.getD []).length<=6:=by
   generalize hq:(lsD c L ((L.length:Int)-1-i).toNat).getD (c.getD i.toNat 0).toNat (0,none)=q;obtain⟨x,o⟩:=q
   cases o with
   |none=>simp
   |some es=>obtain⟨a,_,a0,a1,_,h5⟩:=P4.v _ x es hq;have:=hpl a a0 a1;rw[h5]at this;exact this
  generalize lsD c L ((L.length:Int)-1-i).toNat=l at *;refine⟨hi,by omega,hr.1,by omega,hT,fun _=>⟨by omega,hi⟩,fun _=>⟨by omega,hr.1⟩,fun _=>⟨by omega,by have:=hpl i hi hi1;omega⟩,g8 (fun (q:((Unit×Unit)×(((List (ByteArray×Int))×((List Int)×(List (Int×(Option (List Int))))))×Unit)))=>q.2.1=(fm L L.length,(c,lsS c L i.toNat l))) ?_ ?_⟩
  ·rintro⟨_,k,_⟩ q;intros
   try dsimp only at q⊢
   subst q;exact⟨by rw[al];(try dsimp only);omega,hn2 _ ⟨by dsimp only;omega,by dsimp only;omega,by dsimp only;rw[hs4]⟩ (by dsimp only;omega)⟩
  ·intro kk hk;refine a8 (fun hb=>?_) (fun hb=>?_)
   ·refine⟨hi,hi1,hi,hi1,by have:=hpl i hi hi1;omega,hr.1,by omega,hk _ ?_⟩
    try dsimp only
    unfold lsS;rw[d0 hb]
   ·refine hk _ ?_
    try dsimp only
    unfold lsS;rw[ds (by rw[hb];decide)]
 clear hn2;have e:i=-1:=by omega
 subst e;have e:((L.length:Int)-1-(-1)).toNat=L.length:=by omega
 rw[e]at P4 hln⊢;generalize hl:lsD c L L.length=l at *;refine bq (fun (q:(bp3×(((List (ByteArray×Int))×((List Int)×(List (Int×(Option (List Int))))))×Unit)))=>0<=q.1.2.1/\q.1.2.1<=l.length/\q.2.1=(fm L L.length,(c,l))/\∀b:Int,0<=b->b<q.1.2.1->((l.getD b.toNat (0,none)).2.getD []).length≠6) (fun (q:(bp3×(((List (ByteArray×Int))×((List Int)×(List (Int×(Option (List Int))))))×Unit)))=>(l.length-q.1.2.1).toNat) ?_ ⟨a0r _,by dsimp only;omega,rfl,fun b b0 b1=>by dsimp only at b1;omega⟩;rintro⟨⟨_,a,_⟩,k,_⟩ next3 ⟨a0,a1,q,hno⟩ hn3;intros
 try dsimp only at a0 a1 q hno hn3⊢
 subst q
 try dsimp only
 refine ao (fun ha=>?_) (fun ha=>?_)
 ·refine⟨a0,ha,a8 (fun h6=>?_) (fun h6=>?_)⟩
  ·have h6:=a1s h6;have h6:((l.getD a.toNat (0,none)).2.getD []).length=6:=by omega
   exact absurd h6 (az1.1 hs a a0 ha)
  ·have h6:=a14.1 h6;refine⟨by rw[al];(try dsimp only);omega,hn3 _ ⟨by dsimp only;omega,by dsimp only;omega,rfl,fun b b0 b1=>?_⟩ (by dsimp only;omega)⟩
   try dsimp only at b1
   by_cases e:b=a
   ·subst e;omega
   ·exact hno b b0 (by omega)
 ·have ea:a=l.length:=by omega
  subst ea;subst hl;rfl
theorem abs:bt Tryz.prog 92 dp:=cf (Φ:=we) (ai yq (ai abi (ai xz (ai wx (ai sq (ai vj (ai af1 (ai wz (ai pd aq))))))))) ax7 (by kernel_rfl) (fn:=Tryz.f92) (c:=bf Tryz.f92) (by kernel_rfl) (by kernel_rfl) (by kernel_rfl) dp rfl uk (cu [(17,17),(1,1500),(20,280002),(21,507),(8,10),(26,21),(27,517)]) (by kernel_rfl) (by kernel_rfl) (by kernel_rfl) (by decide) (fun x K=>pq x.1 K) (fun _ _=>by kernel_rfl) (fun x h1 h2=>ad9 x.1 h1 h2)
def p9(s:ac)(K:gx d8.rt->Prop):Prop:=nz s (fun _=>False) K
theorem adf(s:ac)(hok:ae (okL d8.args (s,())))(hpre:ae (d8.pre (s,()))):p9 s (fun r=>r=d8.res (s,())):=by
 simp only[d8,o7,jf,okL,T.oks,T.ok,ap,ae,a0e,a0c,a0i]at hok hpre
 try dsimp only[T.den]at hok hpre
 unfold p9 nz;obtain⟨hs,hS⟩:=hpre;clear hok;obtain⟨s0,s8,f8,tf,_,_,e8,re,_⟩:=mc hS;unfold pm at hs;refine a8 (fun hg=>⟨hg,s0,by omega,by omega,tf,a8 (fun h=>by cases h) (fun _=>?_)⟩) (fun hg=>⟨hg,s0,by omega,by omega,tf,a8 (fun _=>rfl) (fun h=>by cases h)⟩);rw[hg,a1x]at hs;have H:=ab7 s0 (by omega) hg;have hlA:lsA s (cn s).1=lsD (jv s (cn s).1) (cn s).1 (cn s).1.length:=rfl;have hcA:jv s (cn s).1=cj (eh (jW s (fm (cn s).1 (cn s).1.length,([],[])) (cn s).1 (cn s).1.length)):=rfl;rw[hlA,hcA]at hs;clear hlA hcA;generalize (cn s).1=L at *;have hl4:=H.le;have hpl:∀i:Int,0<=i->i<L.length->(L.getD i.toNat (0,[])).2.length<=6:=fun i i0 i1=>(iy (H.ok _ (je (i:=i.toNat) (by omega)))).2.1;refine bq (fun (q:(bpn×(((List (ByteArray×Int))×((List Int)×(List (Int×(Option (List Int))))))×Unit)))=>0<=q.1.2.1/\q.1.2.1<=L.length/\q.2.1=(fm L q.1.2.1.toNat,([],[]))) (fun (q:(bpn×(((List (ByteArray×Int))×((List Int)×(List (Int×(Option (List Int))))))×Unit)))=>(L.length-q.1.2.1).toNat) ?_ ⟨a0r _,by dsimp only;omega,rfl⟩;rintro⟨⟨_,i,_⟩,k,_⟩ next ⟨i0,i1,q⟩ hnx
 intros
 try dsimp only at i0 i1 q hnx⊢
 subst q
 try dsimp only
 refine ao (fun hi=>?_) (fun hi=>?_)
 ·have hp:=hpl i i0 hi;refine⟨i0,hi,by omega,c9 (by have:=aps L i.toNat;omega),by rw[al];(try dsimp only);omega,hnx _ ⟨by dsimp only;omega,by dsimp only;omega,?_⟩ (by dsimp only;omega)⟩
  try dsimp only
  rw[show (i+1).toNat=i.toNat+1 from by omega];simp only[fm];rw[a1y i0]
 clear hnx;have e:i=L.length:=by omega
 subst e;rw[a0m];refine⟨by omega,by omega,?_⟩;have P:SetP s L (fm L L.length,([],[])):=⟨hS,H,rfl⟩;refine bq (fun (q:((Unit×bpn)×(((List (ByteArray×Int))×((List Int)×(List (Int×(Option (List Int))))))×bpp)))=>0<=q.1.2.2.1/\q.1.2.2.1<=L.length/\q.2.1=(fm L L.length,([],[]))/\q.2.2.1=jW s (fm L L.length,([],[])) L q.1.2.2.1.toNat) (fun (q:((Unit×bpn)×(((List (ByteArray×Int))×((List Int)×(List (Int×(Option (List Int))))))×bpp)))=>(L.length-q.1.2.2.1).toNat) ?_ ⟨a0r _,by dsimp only;omega,rfl,rfl⟩;rintro⟨⟨_,_,w,_⟩,k,j,_⟩ next1 ⟨w0,w1,q1,q2⟩ hn1;intros
 try dsimp only at w0 w1 q1 q2 hn1⊢
 subst q1;subst q2;have Q:=ari P w.toNat (by omega);refine ao (fun hw=>?_) (fun hw=>?_)
 ·refine⟨w0,hw,?_⟩;refine bq (fun (q:((Unit×bps)×(((List (ByteArray×Int))×((List Int)×(List (Int×(Option (List Int))))))×bp0)))=>0<=q.1.2.2.2.2.1/\q.1.2.2.2.2.1<=s.2.2.2.1.length/\q.2.1=(fm L L.length,([],[]))/\q.2.2.1=jE s (fm L L.length,([],[])) (L.getD w.toNat (0,[])) w q.1.2.2.2.2.1.toNat (jW s (fm L L.length,([],[])) L w.toNat)/\q.2.2.2.1=w/\q.2.2.2.2.1=L.getD w.toNat (0,[])) (fun (q:((Unit×bps)×(((List (ByteArray×Int))×((List Int)×(List (Int×(Option (List Int))))))×bp0)))=>(s.2.2.2.1.length-q.1.2.2.2.2.1).toNat) ?_ ⟨a0r _,by dsimp only;omega,rfl,rfl,rfl,rfl⟩;rintro⟨⟨_,_,_,_,e,_⟩,k,j,w',p,_⟩ next2 ⟨e0,e1,q1,q2,q3,q4⟩ hn2;intros
  try dsimp only at e0 e1 q1 q2 q3 q4 hn2⊢
  subst q1;subst q2;subst q3;subst q4;refine ao (fun he=>?_) (fun he=>?_)
  ·have Qe:=awl P Q (w:=w'.toNat) (by omega) e.toNat (by omega);rw[a1y w0]at Qe;refine⟨e0,he,e0,by omega,bhr P Qe w0 hw e0 he,by rw[al];(try dsimp only);omega,hn2 _ ⟨by dsimp only;omega,by dsimp only;omega,rfl,?_,rfl,rfl⟩ (by dsimp only;omega)⟩
   try dsimp only
   rw[show (e+1).toNat=e.toNat+1 from by omega];rfl
  ·have ee:e=s.2.2.2.1.length:=by omega
   subst ee;refine⟨by rw[al];(try dsimp only);omega,hn1 _ ⟨by dsimp only;omega,by dsimp only;omega,rfl,?_⟩ (by dsimp only;omega)⟩
   try dsimp only
   rw[show (w'+1).toNat=w'.toNat+1 from by omega];simp only[jW];rw[a1y w0,a0m]
 clear hn1;have e:w=L.length:=by omega
 subst e;rw[a0m]at Q⊢;have C:=ars Q;have hjl:=Q.n;generalize hc:cj (eh (jW s (fm L L.length,([],[])) L L.length))=c at *;have hcn:=C.n;obtain⟨cl0,cl1⟩:=C.le;refine⟨Q.U,by omega,by omega,kv.2 fun i i0 i1=>?_,cl0,a0r _,by omega,by omega,by rw[al];(try dsimp only);omega,?_⟩
 ·have:=C.r i i0 (by omega);exact⟨this.1,by omega⟩
 refine bq (fun (q:(bpn×(((List (ByteArray×Int))×((List Int)×(List (Int×(Option (List Int))))))×Unit)))=>-1<=q.1.2.1/\q.1.2.1<=(L.length:Int)-1/\q.2.1=(fm L L.length,(c,lsD c L ((L.length:Int)-1-q.1.2.1).toNat))) (fun (q:(bpn×(((List (ByteArray×Int))×((List Int)×(List (Int×(Option (List Int))))))×Unit)))=>(q.1.2.1+1).toNat) ?_ ⟨by dsimp only;omega,a0r _,by dsimp only;rw[show ((L.length:Int)-1-((L.length:Int)-1)).toNat=0 from by omega];rfl⟩;rintro⟨⟨_,i,_⟩,k,_⟩ next2 ⟨i0,i1,q⟩ hn2;intros
 try dsimp only at i0 i1 q hn2⊢
 subst q
 try dsimp only
 have P4:=aj4 C ((L.length:Int)-1-i).toNat (by omega);rw[show (L.length:Int)-(((L.length:Int)-1-i).toNat:Int)=i+1 from by omega]at P4;have hln:=P4.n;refine ao (fun hi=>?_) (fun hi=>?_)
 ·have hi1:i<L.length:=by omega
  have hr:=C.r i hi hi1;have hT:=axv H C P4 hi hi1;have hs4:lsD c L ((L.length:Int)-1-(i-1)).toNat=lsS c L i.toNat (lsD c L ((L.length:Int)-1-i).toNat):=by rw[show ((L.length:Int)-1-(i-1)).toNat=((L.length:Int)-1-i).toNat+1 from by omega,lsD,show L.length-1-((L.length:Int)-1-i).toNat=i.toNat from by omega]
  have hes:(((lsD c L ((L.length:Int)-1-i).toNat).getD (c.getD i.toNat 0).toNat (0,none)).2.getD []).length<=6:=by
   generalize hq:(lsD c L ((L.length:Int)-1-i).toNat).getD (c.getD i.toNat 0).toNat (0,none)=q;obtain⟨x,o⟩:=q
   cases o with
   |none=>simp
   |some es=>obtain⟨a,_,a0,a1,_,h5⟩:=P4.v _ x es hq;have:=hpl a a0 a1;rw[h5]at this;exact this
  generalize lsD c L ((L.length:Int)-1-i).toNat=l at *;refine⟨hi,by omega,hr.1,by omega,hT,fun _=>⟨by omega,hi⟩,fun _=>⟨by omega,hr.1⟩,fun _=>⟨by omega,by have:=hpl i hi hi1;omega⟩,g8 (fun (q:((Unit×Unit)×(((List (ByteArray×Int))×((List Int)×(List (Int×(Option (List Int))))))×Unit)))=>q.2.1=(fm L L.length,(c,lsS c L i.toNat l))) ?_ ?_⟩
  ·rintro⟨_,k,_⟩ q;intros
   try dsimp only at q⊢
   subst q;exact⟨by rw[al];(try dsimp only);omega,hn2 _ ⟨by dsimp only;omega,by dsimp only;omega,by dsimp only;rw[hs4]⟩ (by dsimp only;omega)⟩
  ·intro kk hk;refine a8 (fun hb=>?_) (fun hb=>?_)
   ·refine⟨hi,hi1,hi,hi1,by have:=hpl i hi hi1;omega,hr.1,by omega,hk _ ?_⟩
    try dsimp only
    unfold lsS;rw[d0 hb]
   ·refine hk _ ?_
    try dsimp only
    unfold lsS;rw[ds (by rw[hb];decide)]
 clear hn2;have e:i=-1:=by omega
 subst e;have e:((L.length:Int)-1-(-1)).toNat=L.length:=by omega
 rw[e]at P4 hln⊢;generalize hl:lsD c L L.length=l at *;refine bq (fun (q:(bp3×(((List (ByteArray×Int))×((List Int)×(List (Int×(Option (List Int))))))×Unit)))=>0<=q.1.2.1/\q.1.2.1<=l.length/\q.2.1=(fm L L.length,(c,l))/\∀b:Int,0<=b->b<q.1.2.1->((l.getD b.toNat (0,none)).2.getD []).length≠6) (fun (q:(bp3×(((List (ByteArray×Int))×((List Int)×(List (Int×(Option (List Int))))))×Unit)))=>(l.length-q.1.2.1).toNat) ?_ ⟨a0r _,by dsimp only;omega,rfl,fun b b0 b1=>by dsimp only at b1;omega⟩;rintro⟨⟨_,a,_⟩,k,_⟩ next3 ⟨a0,a1,q,hno⟩ hn3;intros
 try dsimp only at a0 a1 q hno hn3⊢
 subst q
 try dsimp only
 refine ao (fun ha=>?_) (fun ha=>?_)
 ·refine⟨a0,ha,a8 (fun h6=>?_) (fun h6=>?_)⟩
  ·have h6:=a1s h6;have h6:((l.getD a.toNat (0,none)).2.getD []).length=6:=by omega
   rfl
  ·have h6:=a14.1 h6;refine⟨by rw[al];(try dsimp only);omega,hn3 _ ⟨by dsimp only;omega,by dsimp only;omega,rfl,fun b b0 b1=>?_⟩ (by dsimp only;omega)⟩
   try dsimp only at b1
   by_cases e:b=a
   ·subst e;omega
   ·exact hno b b0 (by omega)
 ·have ea:a=l.length:=by omega
  subst ea;have:=az1.2 hno;rw[this]at hs;cases hs
theorem acn:bt Tryz.prog 92 d8:=cf (Φ:=we) (ai yq (ai abi (ai xz (ai wx (ai sq (ai vj (ai af1 (ai wz (ai pd aq))))))))) ax7 (by kernel_rfl) (fn:=Tryz.f92) (c:=bf Tryz.f92) (by kernel_rfl) (by kernel_rfl) (by kernel_rfl) d8 rfl uk (cu [(17,17),(1,1500),(20,280002),(21,507),(8,10),(26,21),(27,517)]) (by kernel_rfl) (by kernel_rfl) (by kernel_rfl) (by decide) (fun x K=>p9 x.1 K) (fun _ _=>by kernel_rfl) (fun x h1 h2=>adf x.1 h1 h2)
theorem v8:bt Tryz.prog 92 wu:=asi abs acn
def w9(k:aj)(s:ac)(a b:Int):Int:=if fk [(k.2.2.getD a.toNat (0,[])).1,(aw s (k.2.2.getD a.toNat (0,[]))).1] [(k.2.2.getD b.toNat (0,[])).1,(aw s (k.2.2.getD b.toNat (0,[]))).1]≠0 then fk [(k.2.2.getD a.toNat (0,[])).1,(aw s (k.2.2.getD a.toNat (0,[]))).1] [(k.2.2.getD b.toNat (0,[])).1,(aw s (k.2.2.getD b.toNat (0,[]))).1]else r9 (k.2.2.getD a.toNat (0,[])) (k.2.2.getD b.toNat (0,[]))
def eu:Ct:=⟨[(.int .i64),(.int .i64),(.pt (.pt mz)),(.pt (.pt SchemaT))],[false,false,false,false],fun x=>[0<=x.1,x.1<x.2.2.1.2.2.length,0<=x.2.1,x.2.1<x.2.2.1.2.2.length,x.2.2.2.1.2.1.length<=x.2.2.2.1.2.2.1.length,inK .i64 (x.2.2.2.1.1-1),PthsR x.2.2.1.2.2],[(false,(.fz (.int .i64)))],fun x=>(w9 x.2.2.1 x.2.2.2.1 x.1 x.2.1,()),false,none⟩
def ah4:FuncId->Option Ct:=lkp [(74,fh),(106,gg),(118,g7)]
def um(a:Int)(b:Int)(k:aj)(s:ac)(K:Int×Unit->Prop):Prop:=((0<=a)/\((a<(k.2.2.length:Int))/\((0<=b)/\((b<(k.2.2.length:Int))/\((s.2.1.length<=s.2.2.1.length)/\((inK .i64 (s.1-1))/\((s.2.1.length<=s.2.2.1.length)/\((inK .i64 (s.1-1))/\(cnd ((fk ((k.2.2.getD a.toNat (0,[])).1::((aw s (k.2.2.getD a.toNat (0,[]))).1::[])) ((k.2.2.getD b.toNat (0,[])).1::((aw s (k.2.2.getD b.toNat (0,[]))).1::[]))) != 0) (K ((fk ((k.2.2.getD a.toNat (0,[])).1::((aw s (k.2.2.getD a.toNat (0,[]))).1::[])) ((k.2.2.getD b.toNat (0,[])).1::((aw s (k.2.2.getD b.toNat (0,[]))).1::[]))),())) (((List.length (k.2.2.getD a.toNat (0,[])).2)<=1000000)/\(((List.length (k.2.2.getD b.toNat (0,[])).2)<=1000000)/\(K ((r9 (k.2.2.getD a.toNat (0,[])) (k.2.2.getD b.toNat (0,[]))),())))))))))))))
theorem ajk(a:Int)(b:Int)(k:aj)(s:ac)(hok:ae (okL eu.args (a,b,k,s,())))(hpre:ae (eu.pre (a,b,k,s,()))):um a b k s (fun r=>r=eu.res (a,b,k,s,())):=by
 simp only[eu,okL,T.oks,T.ok,ap,ae,a0e,a0c,a0i]at hok hpre
 try dsimp only[T.den]at hok hpre
 unfold um;obtain⟨a0,a1,b0,b1,h1,h2,hP⟩:=hpre;have ea:=hP.e _ (ip k.2.2 (0,[]) a0 a1);have eb:=hP.e _ (ip k.2.2 (0,[]) b0 b1);simp only[eu,w9];refine⟨a0,a1,b0,b1,h1,h2,h1,h2,a8 (fun h=>?_) (fun h=>?_)⟩
 ·rw[a37]at h;rw[d0 h]
 ·have h:=a1j.1 h;rw[ds (fun hh=>hh h)];exact⟨ea,eb,rfl⟩
theorem zg:bt Tryz.prog 121 eu:=cf (Φ:=ah4) (ai lx (ai aas (ai vj aq))) bj (by kernel_rfl) (fn:=Tryz.f121) (c:=bf Tryz.f121) (by kernel_rfl) (by kernel_rfl) (by kernel_rfl) eu rfl .n (cu [(1,2016)]) (by kernel_rfl) (by kernel_rfl) (by kernel_rfl) (by decide) (fun x K=>um x.1 x.2.1 x.2.2.1 x.2.2.2.1 K) (fun _ _=>by kernel_rfl) (fun x h1 h2=>ajk x.1 x.2.1 x.2.2.1 x.2.2.2.1 h1 h2)
structure OrdP (k:aj) (s:ac) (x:List Int):Prop where
 h1:s.2.1.length<=s.2.2.1.length
 h2:inK .i64 (s.1-1)
 hP:PthsR k.2.2
 e:∀a∈x,0<=a/\a<k.2.2.length
def ot(k:aj)(s:ac)(x:List Int):List Int:=ada (w9 k s) x
def y3:Wt:=⟨(.sl (.fz (.int .i64))),[(.fn 121 (.p (.pt (.pt mz)) (.p (.pt (.pt SchemaT)) .u)))],[false],fun x y=>[OrdP y.1.1 y.1.2.1 x],fun x y=>ot y.1.1 y.1.2.1 x,[],fun x y=>(())⟩
def ri:Ct:=at6 y3
def avn:Go.Shelf.Ren:=⟨fun|6=>120|15=>132|14=>131|28=>141|29=>142|20=>133|21=>134|22=>135|23=>136|24=>137|25=>138|26=>139|27=>140|46=>143|47=>144|48=>145|49=>146|50=>147|57=>148|n=>n,fun|22=>22|24=>2|25=>168|3=>3|39=>189|0=>0|53=>201|55=>203|4=>4|46=>194|45=>193|50=>198|5=>5|9=>9|66=>204|70=>208|76=>210|77=>211|n=>n,fun|n=>n⟩
theorem bo2:Go.Proofs.SlLaysF.n6 Tryz.prog avn:={
 mixed:=by kernel_rfl
 f6:=⟨Tryz.f120.name,by decide,Tryz.func120.trans (congrArg some (by kernel_rfl))⟩
 f14:=⟨Tryz.f131.name,by decide,Tryz.func131.trans (congrArg some (by kernel_rfl))⟩
 f15:=Tryz.func132.trans (congrArg some (by kernel_rfl))
 f20:=⟨Tryz.f133.name,by decide,Tryz.func133.trans (congrArg some (by kernel_rfl))⟩
 f21:=⟨Tryz.f134.name,by decide,Tryz.func134.trans (congrArg some (by kernel_rfl))⟩
 f22:=⟨Tryz.f135.name,by decide,Tryz.func135.trans (congrArg some (by kernel_rfl))⟩
 f23:=⟨Tryz.f136.name,by decide,Tryz.func136.trans (congrArg some (by kernel_rfl))⟩
 f24:=⟨Tryz.f137.name,by decide,Tryz.func137.trans (congrArg some (by kernel_rfl))⟩
 f25:=⟨Tryz.f138.name,by decide,Tryz.func138.trans (congrArg some (by kernel_rfl))⟩
 f26:=⟨Tryz.f139.name,by decide,Tryz.func139.trans (congrArg some (by kernel_rfl))⟩
 f27:=⟨Tryz.f140.name,by decide,Tryz.func140.trans (congrArg some (by kernel_rfl))⟩
 f28:=Tryz.func141.trans (congrArg some (by kernel_rfl))
 f29:=Tryz.func142.trans (congrArg some (by kernel_rfl))
 f46:=⟨Tryz.f143.name,by decide,Tryz.func143.trans (congrArg some (by kernel_rfl))⟩
 f47:=Tryz.func144.trans (congrArg some (by kernel_rfl))
 f48:=Tryz.func145.trans (congrArg some (by kernel_rfl))
 f49:=⟨Tryz.f146.name,by decide,Tryz.func146.trans (congrArg some (by kernel_rfl))⟩
 f50:=⟨Tryz.f147.name,by decide,Tryz.func147.trans (congrArg some (by kernel_rfl))⟩
 f57:=⟨Tryz.f148.name,by decide,Tryz.func148.trans (congrArg some (by kernel_rfl))⟩
 t0:=Tryz.underlying0
 a0:=Tryz.isAgg0
 z0:=Tryz.sizeOf0
 v0:=Tryz.zeroValue0
 t3:=Tryz.underlying3
 a3:=Tryz.isAgg3
 z3:=Tryz.sizeOf3
 v3:=Tryz.zeroValue3
 t4:=Tryz.underlying4
 a4:=Tryz.isAgg4
 z4:=Tryz.sizeOf4
 v4:=Tryz.zeroValue4
 t5:=Tryz.underlying5
 a5:=Tryz.isAgg5
 z5:=Tryz.sizeOf5
 v5:=Tryz.zeroValue5
 t9:=Tryz.underlying9
 a9:=Tryz.isAgg9
 z9:=Tryz.sizeOf9
 v9:=Tryz.zeroValue9
 t22:=Tryz.underlying22
 a22:=Tryz.isAgg22
 z22:=Tryz.sizeOf22
 v22:=Tryz.zeroValue22
 a24:=Tryz.isAgg2
 z24:=Tryz.sizeOf2
 t25:=Tryz.underlying168
 a25:=Tryz.isAgg168
 z25:=Tryz.sizeOf168
 v25:=Tryz.zeroValue168
 t39:=Tryz.underlying189
 a39:=Tryz.isAgg189
 z39:=Tryz.sizeOf189
 v39:=Tryz.zeroValue189
 t45:=Tryz.underlying193
 a45:=Tryz.isAgg193
 z45:=Tryz.sizeOf193
 v45:=Tryz.zeroValue193
 t46:=Tryz.underlying194
 a46:=Tryz.isAgg194
 z46:=Tryz.sizeOf194
 v46:=Tryz.zeroValue194
 t50:=Tryz.underlying198
 a50:=Tryz.isAgg198
 z50:=Tryz.sizeOf198
 v50:=Tryz.zeroValue198
 t53:=Tryz.underlying201
 a53:=Tryz.isAgg201
 z53:=Tryz.sizeOf201
 v53:=Tryz.zeroValue201
 t55:=Tryz.underlying203
 a55:=Tryz.isAgg203
 z55:=Tryz.sizeOf203
 v55:=Tryz.zeroValue203
 t66:=Tryz.underlying204
 a66:=Tryz.isAgg204
 z66:=Tryz.sizeOf204
 v66:=Tryz.zeroValue204
 t70:=Tryz.underlying208
 a70:=Tryz.isAgg208
 z70:=Tryz.sizeOf208
 v70:=Tryz.zeroValue208
 t76:=Tryz.underlying210
 a76:=Tryz.isAgg210
 z76:=Tryz.sizeOf210
 v76:=Tryz.zeroValue210
 t77:=Tryz.underlying211
 a77:=Tryz.isAgg211
 z77:=Tryz.sizeOf211
 v77:=Tryz.zeroValue211 }
theorem apm:∀a b:List Int,fk b a=- fk a b
 |[],[]=>rfl
 |[],_::_=>rfl
 |_::_,[]=>rfl
 |x::a,y::b=>by
  have ih:=apm a b;simp only[fk];by_cases h:x=y
  ·rw[d0 h,d0 h.symm];exact ih
  ·rw[ds h,ds (a0v h)];by_cases h2:x<y
   ·rw[d0 h2,ds (by omega)];rfl
   ·rw[ds h2,d0 (by omega)]
theorem am7:∀a b c:List Int,fk a b<0->fk b c<0->fk a c<0
 |[],[],_,h,_=>by simp[fk]at h
 |[],_::_,[],_,h=>by simp[fk]at h
 |[],_::_,_::_,_,_=>by simp[fk]
 |_::_,[],_,h,_=>by simp[fk]at h
 |_::_,_::_,[],_,h=>by simp[fk]at h
 |x::a,y::b,z::c,h,g=>by
  have ih:=am7 a b c;simp only[fk]at h g⊢;by_cases h1:x=y
  ·by_cases h2:y=z
   ·rw[d0 h1]at h;rw[d0 h2]at g;rw[d0 (h1.trans h2)];exact ih h g
   ·rw[ds h2]at g;rw[h1,ds h2];exact g
  ·rw[ds h1]at h;have hxy:x<y:=by by_cases h3:x<y;exact h3;rw[ds h3]at h;omega
   by_cases h2:y=z
   ·rw[←h2,ds h1,d0 hxy];omega
   ·rw[ds h2]at g;have hyz:y<z:=by by_cases h3:y<z;exact h3;rw[ds h3]at g;omega
    rw[ds (by omega),d0 (by omega)];omega
theorem cmp2{x e y f:Int}:fk [x,e] [y,f]=if x=y then (if e=f then 0 else if e<f then -1 else 1)else if x<y then -1 else 1:=by simp only[fk]
def auj(k:aj)(s:ac)(a b:Int):Prop:=(k.2.2.getD a.toNat (0,[])).1<(k.2.2.getD b.toNat (0,[])).1\/((k.2.2.getD a.toNat (0,[])).1=(k.2.2.getD b.toNat (0,[])).1/\((aw s (k.2.2.getD a.toNat (0,[]))).1<(aw s (k.2.2.getD b.toNat (0,[]))).1\/((aw s (k.2.2.getD a.toNat (0,[]))).1=(aw s (k.2.2.getD b.toNat (0,[]))).1/\((k.2.2.getD a.toNat (0,[])).2.length<(k.2.2.getD b.toNat (0,[])).2.length\/((k.2.2.getD a.toNat (0,[])).2.length=(k.2.2.getD b.toNat (0,[])).2.length/\fk (k.2.2.getD a.toNat (0,[])).2 (k.2.2.getD b.toNat (0,[])).2<0)))))
theorem bee{k:aj}{s:ac}{a b:Int}:w9 k s a b<0<->auj k s a b:=by
 unfold w9 auj r9;rw[cmp2];generalize k.2.2.getD a.toNat (0,[])=p;generalize k.2.2.getD b.toNat (0,[])=q;generalize (aw s p).1=e;generalize (aw s q).1=f;by_cases h1:p.1=q.1
 ·rw[d0 h1];by_cases h2:e=f
  ·rw[d0 h2,ds (by simp)];split <;> omega
  ·rw[ds h2];by_cases h3:e<f
   ·rw[d0 h3,d0 (by decide)];omega
   ·rw[ds h3,d0 (by decide)];omega
 ·rw[ds h1];by_cases h3:p.1<q.1
  ·rw[d0 h3,d0 (by decide)];omega
  ·rw[ds h3,d0 (by decide)];omega
theorem bo0{k:aj}{s:ac}(a:Int):¬w9 k s a a<0:=by rw[bee];unfold auj;rw[aim.2 rfl];omega
theorem o_tr{k:aj}{s:ac}{a b c:Int}(h:w9 k s a b<0)(g:w9 k s b c<0):w9 k s a c<0:=by rw[bee]at h g⊢;unfold auj at h g⊢;have:=am7 (k.2.2.getD a.toNat (0,[])).2 (k.2.2.getD b.toNat (0,[])).2 (k.2.2.getD c.toNat (0,[])).2;omega
theorem boo{k:aj}{s:ac}{a b:Int}(h:¬w9 k s a b<0)(g:¬w9 k s b a<0):k.2.2.getD a.toNat (0,[])=k.2.2.getD b.toNat (0,[]):=by
 rw[bee]at h g;unfold auj at h g;have h1:=apm (k.2.2.getD a.toNat (0,[])).2 (k.2.2.getD b.toNat (0,[])).2;have h2:fk (k.2.2.getD a.toNat (0,[])).2 (k.2.2.getD b.toNat (0,[])).2=0:=by omega
 have h3:=aim.1 h2;exact Prod.ext (by omega) h3
theorem bn5{k:aj}{s:ac}{a b c:Int}(e:k.2.2.getD a.toNat (0,[])=k.2.2.getD b.toNat (0,[])):w9 k s a c=w9 k s b c:=by unfold w9;rw[e]
theorem bdd(k:aj)(s:ac)(x:List Int):SwoR (w9 k s) x:={
 irrefl:=fun a _=>bo0 a
 trans:=fun a _ b _ c _ h g=>o_tr h g
 ntrans:=fun a _ b _ c _ h g hh=>by
  by_cases h1:w9 k s b a<0
  ·exact g (o_tr h1 hh)
  ·rw[bn5 (boo h h1)]at hh;exact g hh }
theorem bcz(k:aj)(s:ac)(x:List Int):(ot k s x).Perm x:=bhf (bdd k s x)
theorem ayy(k:aj)(s:ac)(x:List Int):(ot k s x).Pairwise fun a b=>¬w9 k s b a<0:=az9 (bdd k s x)
theorem yu:bt Tryz.prog 120 ri:=by have h:=bip (P:=Tryz.prog) (ρ:=avn) bo2 (.fz (.int .i64)) rfl (tv (fn:=Tryz.f120) (c:=bf Tryz.f120) (by kernel_rfl) (by kernel_rfl) (by kernel_rfl)) (g:=121) (cs:=[.pt (.pt mz),.pt (.pt SchemaT)]) (pre:=eu.pre) (res:=eu.res) (fun c hc=>by simp only[a0u,a34,or_false]at hc;rcases hc with rfl|rfl <;> rfl) zg;refine⟨h.1,fun A w u x us y S z a b c d e=>h.2 A w u x us y S z a b c d ?_⟩;have e:OrdP y.1.1 y.1.2.1 x:=e.1;exact⟨fun p hp q hq=>⟨(e.e p hp).1,(e.e p hp).2,(e.e q hq).1,(e.e q hq).2,e.h1,e.h2,e.hP,trivial⟩,bdd _ _ x,trivial⟩
def kn:Ct:=⟨[(.pt SchemaT),(.pt mz)],[false,false],fun x=>[x.2.1.2.2.length<=1000000,OrdP x.2.1 x.1 (fq x.2.1.2.2.length)],[(false,(.sl (.fz (.int .i64))))],fun x=>(ot x.2.1 x.1 (fq x.2.1.2.2.length),()),false,none⟩
def akf:FuncId->Option Ct:=lkp [(119,mb),(120,ri),(121,eu)]
def wm(s:ac)(k:aj)(K:(List Int)×Unit->Prop):Prop:=((0<=(k.2.2.length:Int))/\(((k.2.2.length:Int)<=1099511627776)/\((OrdP k s (fq (k.2.2.length:Int)))/\(K ((ot k s (fq (k.2.2.length:Int))),())))))
theorem alg(s:ac)(k:aj)(hok:ae (okL kn.args (s,k,())))(hpre:ae (kn.pre (s,k,()))):wm s k (fun r=>r=kn.res (s,k,())):=by
 simp only[kn,okL,T.oks,T.ok,ap,ae,a0e,a0c,a0i]at hok hpre
 try dsimp only[T.den]at hok hpre
 unfold wm;obtain⟨h1,h2⟩:=hpre;refine⟨by omega,by omega,h2,rfl⟩
theorem aat:bt Tryz.prog 93 kn:=cf (Φ:=akf) (ai ahj (ai yu (ai zg aq))) bj (by kernel_rfl) (fn:=Tryz.f93) (c:=bf Tryz.f93) (by kernel_rfl) (by kernel_rfl) (by kernel_rfl) kn rfl .n (cu []) (by kernel_rfl) (by kernel_rfl) (by kernel_rfl) (by decide) (fun x K=>wm x.1 x.2.1 K) (fun _ _=>by kernel_rfl) (fun x h1 h2=>alg x.1 x.2.1 h1 h2)
def ofR(k:aj)(x:Int)(es:List Int):Int:=k.2.1.getD (db k x es).toNat 0
def aqz(k:aj)(p:ab)(e:Int):ab:=k.2.2.getD (ofR k p.1 (p.2++[e])).toNat (0,[])
def u9(k:aj)(l:List ab)(f:Int)(es:List Int):ab:=es.foldl (aqz k) (l.getD f.toNat (0,[]))
def w6(k:aj)(number:List Int)(l:List ab)(f g:Int):Int:=number.getD (ofR k (u9 k l f (l.getD g.toNat (0,[])).2).1 (u9 k l f (l.getD g.toNat (0,[])).2).2).toNat 0
structure OfP (k:aj) (x:Int) (es:List Int) (n:Int):Prop where
 le:es.length<=1000000
 a0:0<=db k x es
 a1:db k x es<k.2.1.length
 o0:0<=ofR k x es
 o1:ofR k x es<n
structure PrvP (k:aj) (number:List Int) (l:List ab) (f g:Int):Prop where
 f0:0<=f
 f1:f<l.length
 g0:0<=g
 g1:g<l.length
 lg:(l.getD g.toNat (0,[])).2.length<=1000000
 st:∀i:Int,0<=i->i<(l.getD g.toNat (0,[])).2.length->OfP k (u9 k l f ((l.getD g.toNat (0,[])).2.take i.toNat)).1 ((u9 k l f ((l.getD g.toNat (0,[])).2.take i.toNat)).2++[(l.getD g.toNat (0,[])).2.getD i.toNat 0]) k.2.2.length
 en:OfP k (u9 k l f (l.getD g.toNat (0,[])).2).1 (u9 k l f (l.getD g.toNat (0,[])).2).2 number.length
def ey:Ct:=⟨[(.int .i64),(.int .i64),(.pt (.pt kq)),(.pt (.pt mz)),(.pt (.sl (.int .i64)))],[false,false,false,false,false],fun x=>[PrvP x.2.2.2.1 x.2.2.2.2.1 x.2.2.1.2.2.2 x.1 x.2.1],[(false,(.fz (.int .i64)))],fun x=>(w6 x.2.2.2.1 x.2.2.2.2.1 x.2.2.1.2.2.2 x.1 x.2.1,()),false,none⟩
def aft:Ann:=(.s .n (.s .n (.s (.s .n (.l [(8,(.ad 8 [.de])),(27,(.d (.int .i64)))] [(8,(.pt (.fz (.p (.int .i64) (.sl (.int .i64))))))] [3,4,25,26] .n)) .n)))
def af2:FuncId->Option Ct:=lkp [(95,g9),(77,m4)]
def se(f:Int)(g:Int)(out:T.den kq)(k:aj)(number:List Int)(K:Int×Unit->Prop):Prop:=((0<=f)/\((f<(out.2.2.2.length:Int))/\((0<=g)/\((g<(out.2.2.2.length:Int))/\(bi (S:=(bpn×(bpm×Unit))) (fun s=>(fun next=>((inK .i64 s.1.2.1)->((inK .i64 s.2.1.1)->((T.ok (.sl (.int .i64)) s.2.1.2)->(cnd (decide (s.1.2.1<(((List.length (out.2.2.2.getD g.toNat (0,[])).2):Nat):Int))) ((0<=s.1.2.1)/\((s.1.2.1<(((List.length (out.2.2.2.getD g.toNat (0,[])).2):Nat):Int))/\((s.2.1.2.length<=1099511627776)/\((e9 s.2.1.2.length (List.length ((List.getD (out.2.2.2.getD g.toNat (0,[])).2 s.1.2.1.toNat 0)::[])) 8)/\(((List.length (s.2.1.2++((List.getD (out.2.2.2.getD g.toNat (0,[])).2 s.1.2.1.toNat 0)::[])))<=1000000)/\((0<=(db k s.2.1.1 (s.2.1.2++((List.getD (out.2.2.2.getD g.toNat (0,[])).2 s.1.2.1.toNat 0)::[]))))/\(((db k s.2.1.1 (s.2.1.2++((List.getD (out.2.2.2.getD g.toNat (0,[])).2 s.1.2.1.toNat 0)::[])))<(k.2.1.length:Int))/\((0<=(k.2.1.getD (Int.toNat (db k s.2.1.1 (s.2.1.2++((List.getD (out.2.2.2.getD g.toNat (0,[])).2 s.1.2.1.toNat 0)::[])))) 0))/\(((k.2.1.getD (Int.toNat (db k s.2.1.1 (s.2.1.2++((List.getD (out.2.2.2.getD g.toNat (0,[])).2 s.1.2.1.toNat 0)::[])))) 0)<(k.2.2.length:Int))/\((inK .i64 (s.1.2.1+1))/\(next (((),((s.1.2.1+1),())),((k.2.2.getD (Int.toNat (k.2.1.getD (Int.toNat (db k s.2.1.1 (s.2.1.2++((List.getD (out.2.2.2.getD g.toNat (0,[])).2 s.1.2.1.toNat 0)::[])))) 0)) (0,[])),()))))))))))))) ((s.2.1.2.length<=1000000)/\((0<=(db k s.2.1.1 s.2.1.2))/\(((db k s.2.1.1 s.2.1.2)<(k.2.1.length:Int))/\((0<=(k.2.1.getD (Int.toNat (db k s.2.1.1 s.2.1.2)) 0))/\(((k.2.1.getD (Int.toNat (db k s.2.1.1 s.2.1.2)) 0)<(number.length:Int))/\(K ((number.getD (Int.toNat (k.2.1.getD (Int.toNat (db k s.2.1.1 s.2.1.2)) 0)) 0),()))))))))))))) (((),(0,())),((out.2.2.2.getD f.toNat (0,[])),())))))))
theorem ag8(f:Int)(g:Int)(out:T.den kq)(k:aj)(number:List Int)(hok:ae (okL ey.args (f,g,out,k,number,())))(hpre:ae (ey.pre (f,g,out,k,number,()))):se f g out k number (fun r=>r=ey.res (f,g,out,k,number,())):=by
 simp only[ey,okL,T.oks,T.ok,ap,ae,a0e,a0c,a0i]at hok hpre
 try dsimp only[T.den]at hok hpre
 unfold se;have P:=hpre;clear hpre hok;refine⟨P.f0,P.f1,P.g0,P.g1,?_⟩;generalize hes:(out.2.2.2.getD g.toNat (0,[])).2=es;have st:=P.st;have lg:=P.lg;have en:=P.en;rw[hes]at st en lg;refine bq (fun (q:(bpn×(bpm×Unit)))=>0<=q.1.2.1/\q.1.2.1<=es.length/\q.2.1=u9 k out.2.2.2 f (es.take q.1.2.1.toNat)) (fun (q:(bpn×(bpm×Unit)))=>(es.length-q.1.2.1).toNat) ?_ ⟨a0r _,by dsimp only;omega,rfl⟩;rintro⟨⟨_,i,_⟩,p,_⟩ next ⟨i0,i1,q⟩ hnx
 intros
 try dsimp only at i0 i1 q hnx⊢
 subst q;refine ao (fun hi=>?_) (fun hi=>?_)
 ·have O:=st i i0 hi;have le:=O.le;rw[a0q]at le;simp only[a0l,a0p]at le;refine⟨i0,hi,by omega,c9 (by simp only[a0l,a0p];omega),O.le,O.a0,O.a1,O.o0,O.o1,by rw[al];(try dsimp only);omega,hnx _ ⟨by dsimp only;omega,by dsimp only;omega,?_⟩ (by dsimp only;omega)⟩
  try dsimp only
  unfold u9;rw[mo es 0 i0 hi,a3c];rfl
 ·have e:i=es.length:=by omega
  subst e;rw[qw _ (a0r _)];refine⟨en.le,en.a0,en.a1,en.o0,en.o1,?_⟩;simp only[ey,w6];rw[hes];rfl
theorem rx:bt Tryz.prog 97 ey:=cf (Φ:=af2) (ai tu (ai sq aq)) bj (by kernel_rfl) (fn:=Tryz.f97) (c:=bf Tryz.f97) (by kernel_rfl) (by kernel_rfl) (by kernel_rfl) ey rfl aft (cu [(5,95012),(7,7)]) (by kernel_rfl) (by kernel_rfl) (by kernel_rfl) (by decide) (fun x K=>se x.1 x.2.1 x.2.2.1 x.2.2.2.1 x.2.2.2.2.1 K) (fun _ _=>by kernel_rfl) (fun x h1 h2=>ag8 x.1 x.2.1 x.2.2.1 x.2.2.2.1 x.2.2.2.2.1 h1 h2)
structure TabRP (o:bo) (a:List Int) (c:bo) (b:List Int):Prop where
 sh:ShapeP c
 lb:b.length=c.2.1.length
 wb:bm b c.2.1.length=true
 la:a.length=c.2.1.length
 lo:o.2.1.length=c.2.1.length
 lt:o.2.2.1.length=c.2.1.length
 co:∀f g:Int,0<=f->f<c.2.1.length->0<=g->g<c.2.1.length->o.2.2.1.getD f.toNat 0=o.2.1.getD g.toNat 0->c.2.2.1.getD (b.getD f.toNat 0).toNat 0=c.2.1.getD (b.getD g.toNat 0).toNat 0
def aka(o:bo)(F:Int->Int->Int)(f g:Int):Int:=if o.2.2.1.getD f.toNat 0=o.2.1.getD g.toNat 0 then F f g else -1
def zf(o:bo)(F:Int->Int->Int):List (List Int):=dv o.2.1.length fun f=>dv o.2.1.length fun g=>aka o F f g
def tbT(F:Int->Int->Int)(n:Nat)(i j:Int):List (List Int):=dv n fun e=>if e=i then (dv n fun g=>if g<j then F i g else 0)else if e<i then dv n (F e)else []
theorem atq{F:Int->Int->Int}{n:Nat}{i j:Int}:(tbT F n i j).length=n:=bh _
theorem atk{F:Int->Int->Int}{n:Nat}{i j:Int}(i0:0<=i)(i1:i<n):(tbT F n i j).getD i.toNat []=dv n fun g=>if g<j then F i g else 0:=by unfold tbT;rw[ov i0 i1,d0 rfl]
theorem bog{F:Int->Int->Int}{n:Nat}{i j:Int}(i0:0<=i)(i1:i<n)(j0:0<=j)(j1:j<n):(tbT F n i j).set i.toNat (((tbT F n i j).getD i.toNat []).set j.toNat (F i j))=tbT F n i (j+1):=by
 rw[atk i0 i1,x7 j0 j1];unfold tbT;rw[x7 i0 i1];refine df fun e _ _=>?_;by_cases h:e=i
 ·rw[d0 h,d0 h];refine df fun g _ _=>?_;by_cases hg:g=j
  ·rw[d0 hg,d0 (by omega),hg]
  ·rw[ds hg];by_cases h2:g<j
   ·rw[d0 h2,d0 (by omega)]
   ·rw[ds h2,ds (by omega)]
 ·rw[ds h,ds h,ds h]
theorem bge{A:List (List Int)}{i j:Nat}{w v:Int}(h:i<A.length):(A.set i ((A.getD i []).set j w)).set i (((A.set i ((A.getD i []).set j w)).getD i []).set j v)=A.set i ((A.getD i []).set j v):=by rw[act _ _ _ _ _ h,d0 rfl,List.set_set,List.set_set]
theorem bo5{F:Int->Int->Int}{n:Nat}{i:Int}(i0:0<=i)(i1:i<n):(dv n fun e=>if e<i then dv n (F e)else []).set i.toNat (dv n fun _=>0)=tbT F n i 0:=by
 rw[x7 i0 i1];unfold tbT;refine df fun e _ _=>?_;by_cases h:e=i
 ·rw[d0 h,d0 h];exact df fun g g0 _=>by rw[ds (by omega)]
 ·rw[ds h,ds h]
theorem boi{F:Int->Int->Int}{n:Nat}{i:Int}:tbT F n i n=dv n fun e=>if e<i+1 then dv n (F e)else []:=by
 unfold tbT;refine df fun e _ _=>?_;by_cases h:e=i
 ·rw[d0 h,d0 (by omega),h];exact df fun g _ g1=>by rw[d0 g1]
 ·rw[ds h];by_cases h2:e<i
  ·rw[d0 h2,d0 (by omega)]
  ·rw[ds h2,ds (by omega)]
abbrev bj8:Type:=ac×(bo×((List Int)×(List ab)))
structure PrtP (o:bj8) (k:aj) (number:List Int):Prop where
 lf:o.2.1.2.1.length=o.2.2.2.length
 lt:o.2.1.2.2.1.length=o.2.2.2.length
 le:o.2.2.2.length<=40
 pv:∀f g:Int,0<=f->f<o.2.2.2.length->0<=g->g<o.2.2.2.length->o.2.1.2.2.1.getD f.toNat 0=o.2.1.2.1.getD g.toNat 0->PrvP k number o.2.2.2 f g
theorem au9{Z Z2 Y:Type}{n:Int}(z:Z)(z2:Z2)(y:Int->Y){y0:Y}{body:(Unit×((Unit×(Z×(Z2×Unit)))×(Int×Unit)))×(Y×Unit)->((Unit×((Unit×(Z×(Z2×Unit)))×(Int×Unit)))×(Y×Unit)->Prop)->Prop}(hn0:0<=n)(h0:y0=y 0)
  (hs:∀i next,0<=i->i<n->next (((),(((),(z,(z2,()))),(i+1,()))),(y (i+1),()))->body (((),(((),(z,(z2,()))),(i,()))),(y i,())) next)
  (he:∀next,body (((),(((),(z,(z2,()))),(n,()))),(y n,())) next):bi body (((),(((),(z,(z2,()))),(0,()))),(y0,())):=by
 refine bq (fun s=>s.1.2.1.2.1=z/\s.1.2.1.2.2.1=z2/\s.2.1=y s.1.2.2.1/\0<=s.1.2.2.1/\s.1.2.2.1<=n) (fun s=>(n-s.1.2.2.1).toNat) ?_ ⟨rfl,rfl,h0,a0r _,hn0⟩;rintro⟨⟨_,⟨_,q,q2,_⟩,i,_⟩,t,_⟩ next ⟨hz,hz2,hy,h1,h2⟩ hnx
 dsimp only at hz hz2 hy h1 h2 hnx;subst hz;subst hz2;subst hy;by_cases e:i=n
 ·subst e;exact he next
 ·exact hs i next h1 (by omega) (hnx _ ⟨rfl,rfl,rfl,by dsimp only;omega,by dsimp only;omega⟩ (by dsimp only;omega))
def ge:Wa:=⟨(.pt (.p (.fz (.pt SchemaT)) (.p (.p (.fz (.int .i64)) (.p (.sl (.fz (.int .i64))) (.p (.sl (.fz (.int .i64))) (.p (.sl (.fz (.int .i64))) (.sl (.sl (.fz (.int .i64)))))))) (.p (.sl (.fz (.int .i64))) (.sl (.fz PathT)))))),[.de,.r,.l],[(.fn 97 (.p (.pt .any) (.p (.pt (.pt mz)) (.p (.pt (.sl (.int .i64))) .u))))],fun x y=>[PrtP x y.1.2.1 y.1.2.2.1],fun x y=>(x.1,((x.2.1.1,x.2.1.2.1,x.2.1.2.2.1,x.2.1.2.2.2.1,zf x.2.1 (w6 y.1.2.1 y.1.2.2.1 x.2.2.2)),x.2.2))⟩
def vz:Ct:=waCt ge
def adn:Ann:=(.s .n (.s .n (.s .n (.l [(0,(.ad 1000000 [.de,.r,.l])),(1,(.fc 97 (.pr (.bx (.ad 1000000 [.de])) (.pr (.d (.pt (.pt (.p (.mp .str (.int .i64)) (.p (.sl (.int .i64)) (.sl (.p (.int .i64) (.sl (.int .i64))))))))) (.pr (.d (.pt (.sl (.int .i64)))) .u))))),(19,(.d (.int .i64)))] [(1000000,(.pt (.p (.fz (.pt (.p (.int .i64) (.p (.sl (.int .i64)) (.p (.sl (.int .i64)) (.p (.sl (.p (.int .i64) (.sl (.int .i64)))) (.sl (.p (.int .i64) (.sl (.int .i64)))))))))) (.p (.p (.fz (.int .i64)) (.p (.sl (.fz (.int .i64))) (.p (.sl (.fz (.int .i64))) (.p (.sl (.fz (.int .i64))) (.sl (.sl (.fz (.int .i64)))))))) (.p (.sl (.fz (.int .i64))) (.sl (.fz (.p (.int .i64) (.sl (.int .i64))))))))))] [4,18] (.s .n (.s .n (.s (.s .n (.s .n (.s .n (.l [(0,(.ad 1000000 [.de,.r,.l])),(1,(.fc 97 (.pr (.bx (.ad 1000000 [.de])) (.pr (.d (.pt (.pt (.p (.mp .str (.int .i64)) (.p (.sl (.int .i64)) (.sl (.p (.int .i64) (.sl (.int .i64))))))))) (.pr (.d (.pt (.sl (.int .i64)))) .u))))),(38,(.d (.int .i64)))] [(1000000,(.pt (.p (.fz (.pt (.p (.int .i64) (.p (.sl (.int .i64)) (.p (.sl (.int .i64)) (.p (.sl (.p (.int .i64) (.sl (.int .i64)))) (.sl (.p (.int .i64) (.sl (.int .i64)))))))))) (.p (.p (.fz (.int .i64)) (.p (.sl (.fz (.int .i64))) (.p (.sl (.fz (.int .i64))) (.p (.sl (.fz (.int .i64))) (.sl (.sl (.fz (.int .i64)))))))) (.p (.sl (.fz (.int .i64))) (.sl (.fz (.p (.int .i64) (.sl (.int .i64))))))))))] [4,5,18,19,37] (.s .n (.s .n (.s (.s .n (.s .n (.s .n (.j [(0,(.ad 1000000 [.de,.r,.l])),(1,(.fc 97 (.pr (.bx (.ad 1000000 [.de])) (.pr (.d (.pt (.pt (.p (.mp .str (.int .i64)) (.p (.sl (.int .i64)) (.sl (.p (.int .i64) (.sl (.int .i64))))))))) (.pr (.d (.pt (.sl (.int .i64)))) .u)))))] [(1000000,(.pt (.p (.fz (.pt (.p (.int .i64) (.p (.sl (.int .i64)) (.p (.sl (.int .i64)) (.p (.sl (.p (.int .i64) (.sl (.int .i64)))) (.sl (.p (.int .i64) (.sl (.int .i64)))))))))) (.p (.p (.fz (.int .i64)) (.p (.sl (.fz (.int .i64))) (.p (.sl (.fz (.int .i64))) (.p (.sl (.fz (.int .i64))) (.sl (.sl (.fz (.int .i64)))))))) (.p (.sl (.fz (.int .i64))) (.sl (.fz (.p (.int .i64) (.sl (.int .i64))))))))))] [4,5,18,19,37,38] .n)))) .n))))))) .n)))))))
def ad4:FuncId->Option Ct:=lkp [(97,ey),(104,fu)]
def wd(c:T.den kq)(composite:Unit×(aj×bpp))(K:(T.den kq)->Prop):Prop:=((0<=(c.2.1.2.1.length:Int))/\(((c.2.1.2.1.length:Int)<=(c.2.1.2.1.length:Int))/\(((c.2.1.2.1.length:Int)<=((140737488355328:Nat):Int))/\((((c.2.1.2.1.length:Int)*((24:Nat):Int))<=((140737488355328:Nat):Int))/\(bi (S:=((Unit×((Unit×(((List (ByteArray×Int))×bpr)×bpp))×(Int×Unit)))×bpl)) (fun s=>(fun next=>((T.ok (T.mp T.str (.int .i64)) s.1.2.1.2.1.1)->((T.ok (.sl (.int .i64)) s.1.2.1.2.1.2.1)->((T.ok (.sl PathT) s.1.2.1.2.1.2.2)->((T.ok (.sl (.int .i64)) s.1.2.1.2.2.1)->((inK .i64 s.1.2.2.1)->((inK .i64 s.2.1.1.1)->((T.ok (.sl (.int .i64)) s.2.1.1.2.1)->((T.ok (.sl (.int .i64)) s.2.1.1.2.2.1)->((T.ok (.sl PathT) s.2.1.1.2.2.2.1)->((T.ok (.sl PathT) s.2.1.1.2.2.2.2)->((inK .i64 s.2.1.2.1.1)->((T.ok (.sl (.int .i64)) s.2.1.2.1.2.1)->((T.ok (.sl (.int .i64)) s.2.1.2.1.2.2.1)->((T.ok (.sl (.int .i64)) s.2.1.2.1.2.2.2.1)->((T.ok (.sl (.sl (.int .i64))) s.2.1.2.1.2.2.2.2)->((T.ok (.sl (.int .i64)) s.2.1.2.2.1)->((T.ok (.sl PathT) s.2.1.2.2.2)->(cnd (decide (s.1.2.2.1<(((List.length (List.replicate (Int.toNat (c.2.1.2.1.length:Int)) ([]:List Int))):Nat):Int))) ((0<=(c.2.1.2.1.length:Int))/\(((c.2.1.2.1.length:Int)<=(c.2.1.2.1.length:Int))/\(((c.2.1.2.1.length:Int)<=((140737488355328:Nat):Int))/\((((c.2.1.2.1.length:Int)*((8:Nat):Int))<=((140737488355328:Nat):Int))/\((0<=s.1.2.2.1)/\((s.1.2.2.1<(s.2.1.2.1.2.2.2.2.length:Int))/\((0<=s.1.2.2.1)/\((s.1.2.2.1<(((List.length (List.set s.2.1.2.1.2.2.2.2 s.1.2.2.1.toNat (List.replicate (Int.toNat (c.2.1.2.1.length:Int)) (0:Int)))):Nat):Int))/\(bi (S:=((Unit×((Unit×(((List (ByteArray×Int))×bpr)×bpp))×(Int×Unit)))×bpl)) (fun s1=>(fun next1=>((T.ok (T.mp T.str (.int .i64)) s1.1.2.1.2.1.1)->((T.ok (.sl (.int .i64)) s1.1.2.1.2.1.2.1)->((T.ok (.sl PathT) s1.1.2.1.2.1.2.2)->((T.ok (.sl (.int .i64)) s1.1.2.1.2.2.1)->((inK .i64 s1.1.2.2.1)->((inK .i64 s1.2.1.1.1)->((T.ok (.sl (.int .i64)) s1.2.1.1.2.1)->((T.ok (.sl (.int .i64)) s1.2.1.1.2.2.1)->((T.ok (.sl PathT) s1.2.1.1.2.2.2.1)->((T.ok (.sl PathT) s1.2.1.1.2.2.2.2)->((inK .i64 s1.2.1.2.1.1)->((T.ok (.sl (.int .i64)) s1.2.1.2.1.2.1)->((T.ok (.sl (.int .i64)) s1.2.1.2.1.2.2.1)->((T.ok (.sl (.int .i64)) s1.2.1.2.1.2.2.2.1)->((T.ok (.sl (.sl (.int .i64))) s1.2.1.2.1.2.2.2.2)->((T.ok (.sl (.int .i64)) s1.2.1.2.2.1)->((T.ok (.sl PathT) s1.2.1.2.2.2)->(cnd (decide (s1.1.2.2.1<(((List.length (List.getD (List.set s.2.1.2.1.2.2.2.2 s.1.2.2.1.toNat (List.replicate (Int.toNat (c.2.1.2.1.length:Int)) (0:Int))) s.1.2.2.1.toNat [])):Nat):Int))) ((0<=s.1.2.2.1)/\((s.1.2.2.1<(s1.2.1.2.1.2.2.2.2.length:Int))/\((0<=s1.1.2.2.1)/\((s1.1.2.2.1<(List.length (s1.2.1.2.1.2.2.2.2.getD s.1.2.2.1.toNat []):Int))/\((0<=s.1.2.2.1)/\((s.1.2.2.1<(s1.2.1.2.1.2.2.1.length:Int))/\((0<=s1.1.2.2.1)/\((s1.1.2.2.1<(s1.2.1.2.1.2.1.length:Int))/\(jd (S:=((Unit×((Unit×(((List (ByteArray×Int))×bpr)×bpp))×Unit))×bpl)) (fun s2=>((T.ok (T.mp T.str (.int .i64)) s2.1.2.1.2.1.1)->((T.ok (.sl (.int .i64)) s2.1.2.1.2.1.2.1)->((T.ok (.sl PathT) s2.1.2.1.2.1.2.2)->((T.ok (.sl (.int .i64)) s2.1.2.1.2.2.1)->((inK .i64 s2.2.1.1.1)->((T.ok (.sl (.int .i64)) s2.2.1.1.2.1)->((T.ok (.sl (.int .i64)) s2.2.1.1.2.2.1)->((T.ok (.sl PathT) s2.2.1.1.2.2.2.1)->((T.ok (.sl PathT) s2.2.1.1.2.2.2.2)->((inK .i64 s2.2.1.2.1.1)->((T.ok (.sl (.int .i64)) s2.2.1.2.1.2.1)->((T.ok (.sl (.int .i64)) s2.2.1.2.1.2.2.1)->((T.ok (.sl (.int .i64)) s2.2.1.2.1.2.2.2.1)->((T.ok (.sl (.sl (.int .i64))) s2.2.1.2.1.2.2.2.2)->((T.ok (.sl (.int .i64)) s2.2.1.2.2.1)->((T.ok (.sl PathT) s2.2.1.2.2.2)->((inK .i64 (s1.1.2.2.1+1))/\(next1 (((),(((),(s2.1.2.1.2.1,(s2.1.2.1.2.2.1,()))),((s1.1.2.2.1+1),()))),(s2.2.1,()))))))))))))))))))))) (fun k=>(cnd ((s1.2.1.2.1.2.2.1.getD s.1.2.2.1.toNat 0)==(s1.2.1.2.1.2.1.getD s1.1.2.2.1.toNat 0)) ((0<=s.1.2.2.1)/\((s.1.2.2.1<(((List.length (List.set s1.2.1.2.1.2.2.2.2 s.1.2.2.1.toNat (List.set (s1.2.1.2.1.2.2.2.2.getD s.1.2.2.1.toNat []) s1.1.2.2.1.toNat (-1)))):Nat):Int))/\((PrvP s1.1.2.1.2.1 s1.1.2.1.2.2.1 s1.2.1.2.2.2 s.1.2.2.1 s1.1.2.2.1)/\((0<=s1.1.2.2.1)/\((s1.1.2.2.1<(((List.length (List.getD (List.set s1.2.1.2.1.2.2.2.2 s.1.2.2.1.toNat (List.set (s1.2.1.2.1.2.2.2.2.getD s.1.2.2.1.toNat []) s1.1.2.2.1.toNat (-1))) s.1.2.2.1.toNat [])):Nat):Int))/\(k (((),(((),(s1.1.2.1.2.1,(s1.1.2.1.2.2.1,()))),())),((s1.2.1.1,((s1.2.1.2.1.1,(s1.2.1.2.1.2.1,(s1.2.1.2.1.2.2.1,(s1.2.1.2.1.2.2.2.1,(List.set (List.set s1.2.1.2.1.2.2.2.2 s.1.2.2.1.toNat (List.set (s1.2.1.2.1.2.2.2.2.getD s.1.2.2.1.toNat []) s1.1.2.2.1.toNat (-1))) s.1.2.2.1.toNat (List.set (List.getD (List.set s1.2.1.2.1.2.2.2.2 s.1.2.2.1.toNat (List.set (s1.2.1.2.1.2.2.2.2.getD s.1.2.2.1.toNat []) s1.1.2.2.1.toNat (-1))) s.1.2.2.1.toNat []) s1.1.2.2.1.toNat (w6 s1.1.2.1.2.1 s1.1.2.1.2.2.1 s1.2.1.2.2.2 s.1.2.2.1 s1.1.2.2.1))))))),s1.2.1.2.2)),())))))))) (k (((),(((),(s1.1.2.1.2.1,(s1.1.2.1.2.2.1,()))),())),((s1.2.1.1,((s1.2.1.2.1.1,(s1.2.1.2.1.2.1,(s1.2.1.2.1.2.2.1,(s1.2.1.2.1.2.2.2.1,(List.set s1.2.1.2.1.2.2.2.2 s.1.2.2.1.toNat (List.set (s1.2.1.2.1.2.2.2.2.getD s.1.2.2.1.toNat []) s1.1.2.2.1.toNat (-1))))))),s1.2.1.2.2)),())))))))))))))) ((inK .i64 (s.1.2.2.1+1))/\(next (((),(((),(s1.1.2.1.2.1,(s1.1.2.1.2.2.1,()))),((s.1.2.2.1+1),()))),(s1.2.1,())))))))))))))))))))))))) (((),(((),(s.1.2.1.2.1,(s.1.2.1.2.2.1,()))),(0,()))),((s.2.1.1,((s.2.1.2.1.1,(s.2.1.2.1.2.1,(s.2.1.2.1.2.2.1,(s.2.1.2.1.2.2.2.1,(List.set s.2.1.2.1.2.2.2.2 s.1.2.2.1.toNat (List.replicate (Int.toNat (c.2.1.2.1.length:Int)) (0:Int))))))),s.2.1.2.2)),()))))))))))) (K s.2.1))))))))))))))))))))) (((),(((),(composite.2.1,(composite.2.2.1,()))),(0,()))),((c.1,((c.2.1.1,(c.2.1.2.1,(c.2.1.2.2.1,(c.2.1.2.2.2.1,(List.replicate (Int.toNat (c.2.1.2.1.length:Int)) ([]:List Int)))))),c.2.2)),())))))))
theorem aeq(c:T.den kq)(composite:Unit×(aj×bpp))(hok:ae (ge.o.strip.oks c))(hok2:ae (okL ge.as (composite,())))(hpre:ae (ge.pre c (composite,()))):wd c composite (fun z=>z=ge.new c (composite,())):=by
 simp only[ge,O.strip,okL,T.oks,T.ok,ap,ae,a0e,a0c,a0i]at hok hok2 hpre
 try dsimp only[T.den]at hok
 try dsimp only[T.den]at hok2
 try dsimp only[T.den]at hpre
 unfold wd;obtain⟨_,z,u,_⟩:=composite;have P:PrtP c z u:=hpre;have hlf:=P.lf;have hlt:=P.lt;have hle:=P.le;have pv:=P.pv;have hnew:∀q,q=zf c.2.1 (w6 z u c.2.2.2)->(c.1,((c.2.1.1,(c.2.1.2.1,(c.2.1.2.2.1,(c.2.1.2.2.2.1,q)))),c.2.2))=(c.1,((c.2.1.1,(c.2.1.2.1,(c.2.1.2.2.1,(c.2.1.2.2.2.1,zf c.2.1 (w6 z u c.2.2.2))))),c.2.2)):=fun q h=>by rw[h]
 clear hok hok2 hpre P
 try dsimp only
 have hR:zf c.2.1 (w6 z u c.2.2.2)=dv c.2.1.2.1.length fun e=>dv c.2.1.2.1.length (aka c.2.1 (w6 z u c.2.2.2) e):=rfl;refine⟨by omega,by omega,by omega,by omega,?_⟩;simp only[a0m,afk,bh];rw[←hlf]at hle pv hlt;generalize hn:c.2.1.2.1.length=n at *;generalize hF:aka c.2.1 (w6 z u c.2.2.2)=F at *;refine au9 (n:=n) z u (fun i=>(c.1,((c.2.1.1,(c.2.1.2.1,(c.2.1.2.2.1,(c.2.1.2.2.2.1,dv n fun e=>if e<i then dv n (F e)else [])))),c.2.2))) (by omega) (congrArg (fun q=>(c.1,((c.2.1.1,(c.2.1.2.1,(c.2.1.2.2.1,(c.2.1.2.2.2.1,q)))),c.2.2))) (df fun e h0 _=>by rw[ds (by omega)])) ?_ ?_
 ·intro i next i0 i1 hnx
  intros
  try dsimp only
  refine ao (fun _=>⟨by omega,by omega,by omega,by omega,i0,by rw[bh];exact i1,i0,by rw[a1i,bh];exact i1,?_⟩) (fun h=>absurd i1 h);rw[bo5 i0 i1,atk i0 i1,bh];refine au9 (n:=n) z u (fun j=>(c.1,((c.2.1.1,(c.2.1.2.1,(c.2.1.2.2.1,(c.2.1.2.2.2.1,tbT F n i j)))),c.2.2))) (by omega) rfl ?_ ?_
  ·intro j next2 j0 j1 hn2;intros
   try dsimp only
   have hr:((tbT F n i j).getD i.toNat []).length=n:=by rw[atk i0 i1,bh]
   have hA:i.toNat<(tbT F n i j).length:=by rw[atq];omega
   have hs2:=@bge (tbT F n i j) i.toNat j.toNat (-1) (F i j) hA;have hs1:=@bog F n i j i0 i1 j0 j1;have hrow:(((tbT F n i j).set i.toNat (((tbT F n i j).getD i.toNat []).set j.toNat (-1))).getD i.toNat []).length=n:=by rw[act _ _ _ _ _ hA,d0 rfl,a1i,hr]
   refine ao (fun _=>⟨i0,by rw[atq];exact i1,j0,by rw[hr];exact j1,i0,by omega,j0,by omega,?_⟩) (fun h=>absurd j1 h);refine g8 (fun s2=>s2.1.2.1.2.1=z/\s2.1.2.1.2.2.1=u/\s2.2.1=(c.1,((c.2.1.1,(c.2.1.2.1,(c.2.1.2.2.1,(c.2.1.2.2.2.1,tbT F n i (j+1))))),c.2.2))) (fun s2 hs=>by intros;exact⟨by rw[al];(try dsimp only);omega,by rw[hs.1,hs.2.1,hs.2.2];exact hn2⟩) (fun k hk=>a8 (fun he=>?_) (fun he=>hk _ ⟨rfl,rfl,?_⟩))
   ·rw[a0s]at he;have hv:w6 z u c.2.2.2 i j=F i j:=by rw[←hF];unfold aka;rw[d0 he]
    refine⟨i0,by rw[a1i,atq];exact i1,pv i j i0 i1 j0 j1 he,j0,by rw[hrow];exact j1,hk _ ⟨rfl,rfl,?_⟩⟩
    try dsimp only
    rw[hv,hs2,hs1]
   ·have hv:F i j=-1:=by rw[←hF];unfold aka;rw[ds (by intro h;rw[h]at he;simp at he)]
    try dsimp only
    rw[←hv,hs1]
  ·intro next2;intros
   try dsimp only
   refine ao (fun h=>absurd h (a21 _)) (fun _=>⟨by rw[al];(try dsimp only);omega,?_⟩);rw[boi];exact hnx
 ·intro next
  intros
  try dsimp only
  refine ao (fun h=>absurd h (a21 _)) (fun _=>hnew _ ?_);rw[hR];exact df fun e _ e1=>by rw[d0 e1]
theorem uz:bt Tryz.prog 96 vz:=bo3 (Φ:=ad4) (ai rx (ai sm aq)) bj (by kernel_rfl) (fn:=Tryz.f96) (c:=bf Tryz.f96) (by kernel_rfl) (by kernel_rfl) (by kernel_rfl) ge adn (cu [(5,507),(10,14),(11,512)]) (by kernel_rfl) (by kernel_rfl) (by decide) (by kernel_rfl) (fun x y h1 h2 h3=>Eq.mp (by kernel_rfl) (aeq x y.1 h1 h2 h3))
def xd(c:bo):Bool:=zb c&&(og c).1==0
def eo:Ct:=⟨[(.pt gn)],[false],fun x=>[],[(false,(.fz .bool))],fun x=>(xd x.1,()),false,none⟩
def adg:FuncId->Option Ct:=lkp [(126,gi),(125,da)]
def qm(c:bo)(K:Bool×Unit->Prop):Prop:=(cnd (!(zb c)) (K (false,())) ((ShapeP c)/\(K (((og c).1==0),()))))
theorem aed(c:bo)(hok:ae (okL eo.args (c,())))(hpre:ae (eo.pre (c,()))):qm c (fun r=>r=eo.res (c,())):=by
 simp only[eo,okL,T.oks,T.ok,ap,ae,a0e,a0c,a0i]at hok hpre
 try dsimp only[T.den]at hok hpre
 unfold qm;simp only[eo,xd];have:=@ad2 c
 grind[cnd,cg,al]
theorem adm:bt Tryz.prog 103 eo:=cf (Φ:=adg) (ai ah9 (ai agd aq)) bj (by kernel_rfl) (fn:=Tryz.f103) (c:=bf Tryz.f103) (by kernel_rfl) (by kernel_rfl) (by kernel_rfl) eo rfl .n (cu []) (by kernel_rfl) (by kernel_rfl) (by kernel_rfl) (by decide) (fun x K=>qm x.1 K) (fun _ _=>by kernel_rfl) (fun x h1 h2=>aed x.1 h1 h2)
structure ClsP (k:T.den kq):Prop where
 l:xd k.2.1=true->∀p∈k.2.2.2,AroP (k.2.1,(k.2.2.2,k.2.2.1)) p
 a:xd k.2.1=true->∀p∈k.1.2.2.2.1,AroP (k.2.1,(k.2.2.2,k.2.2.1)) p
 b:xd k.2.1=true->∀p∈k.1.2.2.2.2,AroP (k.2.1,(k.2.2.2,k.2.2.1)) p
 e:k.1.2.2.2.2.length=k.1.2.2.2.1.length
def ym(k:T.den kq):Bool:=xd k.2.1&&(rn k.2.2.2.length fun f=>dc k.2.1 k.2.2.1 (k.2.2.2.getD f.toNat (0,[]))==f)&&rn k.1.2.2.2.1.length fun i=>dc k.2.1 k.2.2.1 (k.1.2.2.2.1.getD i.toNat (0,[]))==dc k.2.1 k.2.2.1 (k.1.2.2.2.2.getD i.toNat (0,[]))
def gq:Ct:=⟨[(.pt kq)],[false],fun x=>[ClsP x.1],[(false,(.fz .bool))],fun x=>(ym x.1,()),false,none⟩
def afs:Ann:=(.s .n (.s .n (.s (.s .n (.l [(16,(.d (.int .i64)))] [] [0,14,15] .n)) (.s (.s .n (.l [(35,(.d (.int .i64)))] [] [0,34] .n)) .n))))
def ag0:FuncId->Option Ct:=lkp [(103,eo),(51,fo)]
def sj(k:T.den kq)(K:Bool×Unit->Prop):Prop:=(cnd (!(xd k.2.1)) (K (false,())) (bi (S:=bpq) (fun s=>(fun next=>((inK .i64 s.1.1)->(cnd (decide (s.1.1<(k.2.2.2.length:Int))) ((0<=s.1.1)/\((s.1.1<(k.2.2.2.length:Int))/\((AroP (k.2.1,(k.2.2.2,k.2.2.1)) (k.2.2.2.getD s.1.1.toNat (0,[])))/\(cnd ((dc k.2.1 k.2.2.1 (k.2.2.2.getD s.1.1.toNat (0,[]))) != s.1.1) (K (false,())) ((inK .i64 (s.1.1+1))/\(next (((s.1.1+1),()),()))))))) (bi (S:=bpq) (fun s1=>(fun next1=>((inK .i64 s1.1.1)->(cnd (decide (s1.1.1<(k.1.2.2.2.1.length:Int))) ((0<=s1.1.1)/\((s1.1.1<(k.1.2.2.2.1.length:Int))/\((AroP (k.2.1,(k.2.2.2,k.2.2.1)) (k.1.2.2.2.1.getD s1.1.1.toNat (0,[])))/\((0<=s1.1.1)/\((s1.1.1<(k.1.2.2.2.2.length:Int))/\((AroP (k.2.1,(k.2.2.2,k.2.2.1)) (k.1.2.2.2.2.getD s1.1.1.toNat (0,[])))/\(cnd ((dc k.2.1 k.2.2.1 (k.1.2.2.2.1.getD s1.1.1.toNat (0,[]))) != (dc k.2.1 k.2.2.1 (k.1.2.2.2.2.getD s1.1.1.toNat (0,[])))) (K (false,())) ((inK .i64 (s1.1.1+1))/\(next1 (((s1.1.1+1),()),())))))))))) (K (true,())))))) ((0,()),())))))) ((0,()),())))
theorem ahc(k:T.den kq)(hok:ae (okL gq.args (k,())))(hpre:ae (gq.pre (k,()))):sj k (fun r=>r=gq.res (k,())):=by
 simp only[gq,okL,T.oks,T.ok,ap,ae,a0e,a0c,a0i]at hok hpre
 try dsimp only[T.den]at hok hpre
 unfold sj;have hP:ClsP k:=hpre;have l1:=hok.2.2.2.2.2.2.2.2.2.2.2.1;have l2:=hok.2.2.2.1.1;rw[cg]at l1 l2;clear hok;simp only[gq];refine a8 (fun h=>?_) (fun h=>?_)
 ·have h:xd k.2.1=false:=by simpa using h
  unfold ym;rw[h];rfl
 have h:xd k.2.1=true:=by simpa using h
 have he:=hP.e;have hcl:ym k=((rn k.2.2.2.length fun f=>dc k.2.1 k.2.2.1 (k.2.2.2.getD f.toNat (0,[]))==f)&&rn k.1.2.2.2.1.length fun i=>dc k.2.1 k.2.2.1 (k.1.2.2.2.1.getD i.toNat (0,[]))==dc k.2.1 k.2.2.1 (k.1.2.2.2.2.getD i.toNat (0,[]))):=by unfold ym;rw[h];rfl
 rw[hcl];refine auy k.2.2.2.length (fun f=>dc k.2.1 k.2.2.1 (k.2.2.2.getD f.toNat (0,[]))==f) ?_ ?_
 ·intro i next i0 i1 hf hn
  intros
  try dsimp only at hf hn⊢
  refine ao (fun _=>⟨i0,i1,hP.l h _ (ip _ _ i0 i1),a8 (fun hx=>?_) (fun hx=>⟨by rw[al];(try dsimp only);omega,hn ?_⟩)⟩) (fun hx=>absurd i1 hx)
  ·rw[hf (by rw[a14];exact a37.1 hx)];rfl
  ·rw[a0s];exact a1j.1 hx
 intro next ha
 intros
 try dsimp only
 refine ao (fun hx=>absurd hx (by omega)) (fun _=>?_);rw[ha];refine auy k.1.2.2.2.1.length (fun i=>dc k.2.1 k.2.2.1 (k.1.2.2.2.1.getD i.toNat (0,[]))==dc k.2.1 k.2.2.1 (k.1.2.2.2.2.getD i.toNat (0,[]))) ?_ ?_
 ·intro i next i0 i1 hf hn
  intros
  try dsimp only at hf hn⊢
  refine ao (fun _=>⟨i0,i1,hP.a h _ (ip _ _ i0 i1),i0,by omega,hP.b h _ (ip _ _ i0 (by omega)),a8 (fun hx=>?_) (fun hx=>⟨by rw[al];(try dsimp only);omega,hn ?_⟩)⟩) (fun hx=>absurd i1 hx)
  ·rw[hf (by rw[a14];exact a37.1 hx)];rfl
  ·rw[a0s];exact a1j.1 hx
 intro next hb
 intros
 try dsimp only
 refine ao (fun hx=>absurd hx (by omega)) (fun _=>?_);rw[hb];rfl
theorem xe:bt Tryz.prog 98 gq:=cf (Φ:=ag0) (ai adm (ai yp aq)) bj (by kernel_rfl) (fn:=Tryz.f98) (c:=bf Tryz.f98) (by kernel_rfl) (by kernel_rfl) (by kernel_rfl) gq rfl afs (cu [(12,523)]) (by kernel_rfl) (by kernel_rfl) (by kernel_rfl) (by decide) (fun x K=>sj x.1 K) (fun _ _=>by kernel_rfl) (fun x h1 h2=>ahc x.1 h1 h2)
def aid(l:List Int)(y:Int):Nat->Int
 |0=>0
 |n+1=>if l.getD n 0=y then n else aid l y n
def kw(l:List Int):List Int:=dv l.length fun y=>aid l y l.length
theorem bmp{l:List Int}{y i:Int}(h0:0<=i):aid l y (i+1).toNat=if l.getD i.toNat 0=y then i else aid l y i.toNat:=by
 rw[show (i+1).toNat=i.toNat+1 from by omega,aid];split
 ·omega
 ·rfl
def lw:Ct:=⟨[(.sl (.int .i64))],[false],fun x=>[x.1.length<=40,bm x.1 x.1.length=true],[(false,(.sl (.fz (.int .i64))))],fun x=>(kw x.1,()),false,none⟩
def aoa:Ann:=(.s .n (.s .n (.s (.s .n (.l [(3,(.ref 8 [])),(11,(.d (.int .i64)))] [(8,(.sl (.fz (.int .i64))))] [9,10] .n)) .n)))
def zu(list:List Int)(K:(List Int)×Unit->Prop):Prop:=((0<=(list.length:Int))/\(((list.length:Int)<=(list.length:Int))/\(((list.length:Int)<=((140737488355328:Nat):Int))/\((((list.length:Int)*((8:Nat):Int))<=((140737488355328:Nat):Int))/\(bi (S:=(bpn×bpp)) (fun s=>(fun next=>((inK .i64 s.1.2.1)->((T.ok (.sl (.int .i64)) s.2.1)->(cnd (decide (s.1.2.1<(list.length:Int))) ((0<=s.1.2.1)/\((s.1.2.1<(list.length:Int))/\((0<=(list.getD s.1.2.1.toNat 0))/\(((list.getD s.1.2.1.toNat 0)<(s.2.1.length:Int))/\((inK .i64 (s.1.2.1+1))/\(next (((),((s.1.2.1+1),())),((List.set s.2.1 (Int.toNat (list.getD s.1.2.1.toNat 0)) s.1.2.1),())))))))) (K (s.2.1,()))))))) (((),(0,())),((List.replicate (Int.toNat (list.length:Int)) (0:Int)),())))))))
theorem apt(list:List Int)(hok:ae (okL lw.args (list,())))(hpre:ae (lw.pre (list,()))):zu list (fun r=>r=lw.res (list,())):=by
 simp only[lw,okL,T.oks,T.ok,ap,ae,a0e,a0c,a0i]at hok hpre
 try dsimp only[T.den]at hok hpre
 unfold zu;obtain⟨hl,hw⟩:=hpre;have hw:=kv.1 hw;clear hok;generalize hn:list.length=n at *;refine⟨by omega,by omega,by omega,by omega,?_⟩;simp only[a0m,afk];refine aca (fun i=>dv n fun y=>aid list y i.toNat) (n:=n) (by omega) rfl ?_ ?_
 ·intro i next i0 i1 hnx _ _
  try dsimp only
  have hy:=hw i i0 i1;simp only[bmp i0]at hnx;refine ao (fun _=>⟨i0,by omega,hy.1,by rw[bh];exact hy.2,by rw[al];(try dsimp only);omega,?_⟩) (fun h=>absurd i1 h);rw[x7 hy.1 hy.2];refine (congrArg (fun z=>next (((),(i+1,())),(z,()))) (df fun y _ _=>?_)).mp hnx
  try dsimp only
  by_cases e:list.getD i.toNat 0=y
  ·rw[d0 e,d0 e.symm]
  ·rw[ds e,ds fun h=>e h.symm]
 ·intro next _ _
  refine ao (fun h=>absurd h (by dsimp only;omega)) (fun _=>?_);simp only[lw,kw,hn];rw[a0m]
theorem aew:bt Tryz.prog 94 lw:=cf (Φ:=lkp []) aq bj (by kernel_rfl) (fn:=Tryz.f94) (c:=bf Tryz.f94) (by kernel_rfl) (by kernel_rfl) (by kernel_rfl) lw rfl aoa (cu []) (by kernel_rfl) (by kernel_rfl) (by kernel_rfl) (by decide) (fun x K=>zu x.1 K) (fun _ _=>by kernel_rfl) (fun x h1 h2=>apt x.1 h1 h2)
theorem bbh{y:Int}:∀{l s:List Int},y∈l.foldl lm s->y∈s\/y∈l
 |[],s,h=>.inl h
 |k::l,s,h=>by
  rw[a12]at h;rcases bbh h with h|h
  ·unfold lm at h;split at h
   ·rcases a1m.1 h with h|h
    ·exact .inl h
    ·rw[a0x]at h;exact .inr (by simp[h])
   ·exact .inl h
  ·exact .inr (by simp[h])
theorem avg:∀{l s:List Int},s.Nodup->(l.foldl lm s).Nodup
 |[],s,h=>h
 |k::l,s,h=>by
  rw[a12];refine avg ?_;unfold lm;split
  ·rename_i hk;unfold List.Nodup;rw[a44];refine⟨h,a47 _ _,fun a ha b hb e=>?_⟩;rw[a0x]at hb;subst hb;subst e;have:=((qi (0:Int)).1 ha).1;omega
  ·exact h
theorem bht{l:List Int}(h:l.Nodup){i j:Nat}(hi:i<l.length)(hj:j<l.length)(e:l.getD i 0=l.getD j 0):i=j:=by simp only[a0o,a0n hi,a0n hj,a02]at e;exact (List.getElem_inj h).1 e
theorem akd{l:List Int}{i:Nat}(h:i<l.length):l.getD i 0∈l:=by simp only[a0o,a0n h,a02];exact a27 h
theorem aqh{l:List Int}{y:Int}(h:y∈l):∃i,i<l.length/\l.getD i 0=y:=by obtain⟨i,hi,e⟩:=a2e h;exact⟨i,hi,by simp only[a0o,a0n hi,a02];exact e⟩
theorem aw4{l:List Int}{k:Int}(h0:0<=k)(h1:k<ja (cj l)):∃i,i<l.length/\(cj l).getD i 0=k:=by
 have hle:ja (cj l)<=(gy l).length:=(bg8 (by omega) fun x hx=>by unfold cj at hx;obtain⟨y,hy,rfl⟩:=a2c.1 hx;exact ((qi (0:Int)).1 (ajo (l:=l) (s:=[]) (.inr hy))).2.1).2;have hy:=akd (l:=gy l) (i:=k.toNat) (by omega);rcases bbh hy with h|h
 ·cases h
 ·obtain⟨i,hi,e⟩:=aqh h;refine⟨i,hi,?_⟩;rw[al4 hi,e];obtain⟨a0,a1,a2,_⟩:=(qi (0:Int)).1 hy;have hnd:(gy l).Nodup:=avg (l:=l) (s:=[]) List.nodup_nil;have:=bht hnd (i:=(gu (gy l) ((gy l).getD k.toNat 0)).toNat) (j:=k.toNat) (by omega) (by omega) a2;omega
theorem ak8{c:List Int}{L:List ab}{s:ac}(C:ClaP s L c):∀m:Nat,m<=L.length->∀a:Nat,L.length-m<=a->a<L.length->((lsD c L m).getD (c.getD a 0).toNat (0,none)).2.isSome=true
 |0,_,a,h1,h2=>by omega
 |m+1,hm,a,h1,h2=>by
  have ih:=ak8 C m (by omega);have hln:=(aj4 C m (by omega)).n;simp only[lsD];generalize hi:L.length-1-m=i;have hci:=C.r (i:Int) (by omega) (by omega);rw[a0m]at hci;unfold lsS;split
  ·rename_i hb;rw[act _ _ _ _ _ (by rw[hln];omega)];split
   ·rfl
   ·rename_i hne;have:a≠i:=fun e=>hne (by rw[e]);exact ih a (by omega) h2
  ·rename_i hb;by_cases e:a=i
   ·subst e;rw[Bool.not_eq_true,a18]at hb;have:=hb.1;rw[Option.isNone_eq_false_iff]at this;exact this
   ·exact ih a (by omega) h2
theorem am5{l:List (Int×Option (List Int))}{k:Nat}:(n7 l).getD k (0,[])=((l.getD k (0,none)).1,(l.getD k (0,none)).2.getD []):=by unfold n7;simp only[a0o,a05];cases l[k]? <;> rfl
structure KlsP (s:ac) (L:List ab) (K:aj):Prop where
 S:bd s=true
 H:ShrtP s L
 k:K.1=fm L L.length
 C:ClaP s L K.2.1
 n:(K.2.2.length:Int)=ja K.2.1
 mem:∀k:Int,0<=k->k<K.2.2.length->∃a:Int,0<=a/\a<L.length/\K.2.1.getD a.toNat 0=k/\K.2.2.getD k.toNat (0,[])=L.getD a.toNat (0,[])
 six:∀k:Int,0<=k->k<K.2.2.length->(K.2.2.getD k.toNat (0,[])).2.length≠6
theorem adw{s:ac}(hS:bd s=true)(h:pm s=true):KlsP s (cn s).1 (pcR s):=by
 obtain⟨s0,s8,_⟩:=mc hS;unfold pm at h;rw[a0a]at h;obtain⟨hg,hs⟩:=h;have H:=ab7 s0 (by omega) hg;unfold pcR;generalize (cn s).1=L at *;have P:SetP s L (fm L L.length,([],[])):=⟨hS,H,rfl⟩;have Q:=ari P L.length (a0f _);have C:ClaP s L (jv s L):=ars Q;have D:=aj4 C L.length (a0f _);have hln:(lsA s L).length=(ja (jv s L)).toNat:=D.n;have htl:(n7 (lsA s L)).length=(lsA s L).length:=by unfold n7;rw[a0y]
 refine⟨hS,H,rfl,C,?_,fun k k0 k1=>?_,fun k k0 k1=>?_⟩
 ·dsimp only;have:=C.le;omega
 ·dsimp only at k1⊢;have hr:(eh (jW s (fm L L.length,([],[])) L L.length)).length=L.length:=by unfold eh;rw[bh,Q.n]
  obtain⟨i,i1,hi⟩:=aw4 (l:=eh (jW s (fm L L.length,([],[])) L L.length)) k0 (by have:ja (jv s L)=ja (cj (eh (jW s (fm L L.length,([],[])) L L.length))):=rfl;omega);have hsm:=ak8 C L.length (a0f _) i (by omega) (by omega);have hi':(jv s L).getD i 0=k:=hi;rw[hi']at hsm;rw[am5];have hv:=D.v k.toNat;have hD:lsA s L=lsD (jv s L) L L.length:=rfl;rw[hD];generalize (lsD (jv s L) L L.length).getD k.toNat (0,none)=q at hsm hv⊢;obtain⟨x,o⟩:=q
  cases o with
  |none=>cases hsm
  |some es=>obtain⟨a,_,a0,a1,a2,a3⟩:=hv x es rfl;exact⟨a,a0,a1,by omega,a3.symm⟩
 ·dsimp only at k1⊢;rw[am5];exact az1.1 hs k k0 (by omega)
theorem KlsP.set{s:ac}{L:List ab}{K:aj}(P:KlsP s L K):SetP s L K:=⟨P.S,P.H,P.k⟩
theorem aez{s:ac}{L:List ab}{K:aj}(P:KlsP s L K){p:ab}(hp:(aw s p).2=true):OfP K p.1 p.2 K.2.2.length/\aeh s (K.2.2.getD (ofR K p.1 p.2).toNat (0,[])) p/\(aw s (K.2.2.getD (ofR K p.1 p.2).toNat (0,[]))).2=true:=by
 obtain⟨a0,a1,a2⟩:=P.set.at hp;have hr:=P.C.r _ a0 a1;have hn:=P.n;have o0:0<=ofR K p.1 p.2:=hr.1;have o1:ofR K p.1 p.2<K.2.2.length:=by have:=hr.2;unfold ofR;omega
 obtain⟨b,b0,b1,b2,b3⟩:=P.mem _ o0 o1;have hs:=P.C.st b _ b0 b1 a0 a1 b2;rw[a2]at hs;rw[b3];exact⟨⟨by have:=x9 hp;omega,a0,by rw[P.C.n];exact a1,o0,o1⟩,hs,P.H.ok _ (je (by omega))⟩
theorem akv{s:ac}{L:List ab}{K:aj}(P:KlsP s L K){k:Int}(k0:0<=k)(k1:k<K.2.2.length):(aw s (K.2.2.getD k.toNat (0,[]))).2=true/\(K.2.2.getD k.toNat (0,[])).2.length<6:=by obtain⟨a,a0,a1,_,a3⟩:=P.mem k k0 k1;have h6:=P.six k k0 k1;have hv:=P.H.ok _ (je (l:=L) (i:=a.toNat) (by omega));have:=x9 hv;rw[a3]at h6⊢;exact⟨hv,by omega⟩
def ic(s:ac)(K:aj):List Int:=ot K s (fq K.2.2.length)
structure OrdF (K:aj) (O:List Int):Prop where
 n:O.length=K.2.2.length
 r:∀i:Int,0<=i->i<O.length->0<=O.getD i.toNat 0/\O.getD i.toNat 0<K.2.2.length
 nd:O.Nodup
 su:∀c:Int,0<=c->c<K.2.2.length->c∈O
theorem anu{n:Nat}{c:Int}:c∈fq (n:Int)<->0<=c/\c<n:=by
 unfold fq;rw[pj];constructor
 ·rintro⟨i,i0,i1,rfl⟩;omega
 ·rintro⟨h0,h1⟩;exact⟨c,h0,by omega,rfl⟩
theorem ani(s:ac)(K:aj):OrdF K (ic s K):=by
 have hp:=bcz K s (fq K.2.2.length);have hl:(fq (K.2.2.length:Int)).length=K.2.2.length:=by unfold fq;rw[bh];omega
 have hn:(ic s K).length=K.2.2.length:=hp.length_eq.trans hl;refine⟨hn,fun i i0 i1=>?_,?_,fun c c0 c1=>hp.mem_iff.2 (anu.2 ⟨c0,c1⟩)⟩
 ·have:=hp.mem_iff.1 (akd (l:=ic s K) (i:=i.toNat) (by omega));exact anu.1 this
 ·refine hp.nodup_iff.2 ?_;unfold fq List.Nodup;exact asw fun i j _ h _=>by omega
theorem bce{l:List Int}{y:Int}:∀{m:Nat},(∃i,i<m/\l.getD i 0=y)->0<=aid l y m/\aid l y m<m/\l.getD (aid l y m).toNat 0=y
 |0,⟨i,h,_⟩=>by omega
 |m+1,⟨i,h,e⟩=>by
  unfold aid;split
  ·rename_i hm;exact⟨by omega,by omega,by rw[a0m];exact hm⟩
  ·rename_i hm
   have hi:i<m:=by
    rcases a1l i m with h'|h'
    ·exact h'
    ·exact absurd (by rw[show m=i from by omega];exact e) hm
   obtain⟨a,b,c⟩:=bce ⟨i,hi,e⟩;exact⟨a,by omega,c⟩
theorem blc{K:aj}{O:List Int}(F:OrdF K O){c:Int}(c0:0<=c)(c1:c<K.2.2.length):0<=(kw O).getD c.toNat 0/\(kw O).getD c.toNat 0<O.length/\O.getD ((kw O).getD c.toNat 0).toNat 0=c:=by have hn:=F.n;unfold kw;rw[ov c0 (by omega)];obtain⟨i,hi,e⟩:=aqh (F.su c c0 c1);exact bce ⟨i,hi,e⟩
def bn(s:ac)(K:aj):List ab:=(ic s K).map fun c=>K.2.2.getD c.toNat (0,[])
theorem ank{s:ac}{K:aj}{i:Nat}(h:i<(ic s K).length):(bn s K).getD i (0,[])=K.2.2.getD ((ic s K).getD i 0).toNat (0,[]):=by unfold bn;simp only[a0o,a05,a0n h,a0z,a02]
theorem afj{s:ac}{K:aj}:(bn s K).length=(ic s K).length:=by unfold bn;rw[a0y]
def abk(s:ac)(K:aj)(x:Int)(es:List Int):Int:=(kw (ic s K)).getD (ofR K x es).toNat 0
theorem ads{s:ac}{L:List ab}{K:aj}(P:KlsP s L K){i:Int}(i0:0<=i)(i1:i<(bn s K).length):(aw s ((bn s K).getD i.toNat (0,[]))).2=true/\((bn s K).getD i.toNat (0,[])).2.length<6:=by rw[afj]at i1;have F:=ani s K;have:=F.r i i0 i1;rw[ank (by omega)];exact akv P this.1 this.2
theorem ayg{s:ac}{L:List ab}{K:aj}(P:KlsP s L K){p:ab}(hp:(aw s p).2=true):0<=abk s K p.1 p.2/\abk s K p.1 p.2<(bn s K).length/\(bn s K).getD (abk s K p.1 p.2).toNat (0,[])=K.2.2.getD (ofR K p.1 p.2).toNat (0,[])/\aeh s ((bn s K).getD (abk s K p.1 p.2).toNat (0,[])) p:=by
 obtain⟨O,hs,_⟩:=aez P hp;have F:=ani s K;obtain⟨a0,a1,a2⟩:=blc F O.o0 O.o1;have e:(bn s K).getD (abk s K p.1 p.2).toNat (0,[])=K.2.2.getD (ofR K p.1 p.2).toNat (0,[]):=by rw[ank (by unfold abk;omega)];unfold abk;rw[a2]
 exact⟨a0,by rw[afj];exact a1,e,by rw[e];exact hs⟩
theorem bn2{s:ac}{L:List ab}{K:aj}(P:KlsP s L K){f g:Int}(f0:0<=f)(f1:f<(bn s K).length)(g0:0<=g)(g1:g<(bn s K).length)(hfg:(aw s ((bn s K).getD f.toNat (0,[]))).1=((bn s K).getD g.toNat (0,[])).1):PrvP K (kw (ic s K)) (bn s K) f g:=by
 obtain⟨p1,p2⟩:=ads P f0 f1;obtain⟨q1,q2⟩:=ads P g0 g1;have F:=ani s K
 have run:∀i:Nat,i<=((bn s K).getD g.toNat (0,[])).2.length->(aw s (u9 K (bn s K) f (((bn s K).getD g.toNat (0,[])).2.take i))).2=true/\(u9 K (bn s K) f (((bn s K).getD g.toNat (0,[])).2.take i)).2.length<6/\
   (aw s (u9 K (bn s K) f (((bn s K).getD g.toNat (0,[])).2.take i))).1=(be s ((bn s K).getD g.toNat (0,[])).1 (((bn s K).getD g.toNat (0,[])).2.take i)).1/\
   ∀h:i<((bn s K).getD g.toNat (0,[])).2.length,(aw s ((u9 K (bn s K) f (((bn s K).getD g.toNat (0,[])).2.take i)).1,(u9 K (bn s K) f (((bn s K).getD g.toNat (0,[])).2.take i)).2++[((bn s K).getD g.toNat (0,[])).2.getD i 0])).2=true:=by
  obtain⟨g1',g2',g3'⟩:=iy q1;rw[g3']at q1;generalize (bn s K).getD g.toNat (0,[])=G at *
  have nxt:∀(i:Nat) (p:ab),i<G.2.length->(aw s p).2=true->p.2.length<6->(aw s p).1=(be s G.1 (G.2.take i)).1->(aw s (p.1,p.2++[G.2.getD i 0])).2=true/\(aw s (p.1,p.2++[G.2.getD i 0])).1=(be s G.1 (G.2.take (i+1))).1:=fun i p hi h1 h2 h3=>by
   have ht:G.2.take (i+1)=G.2.take i++[G.2.getD i 0]:=by have:=mo G.2 0 (i:=(i:Int)) (by omega) (by omega);rw[show ((i:Int)+1).toNat=i+1 from by omega,a0m]at this;exact this
   have hf:=q1;rw[←a10 (i+1) G.2,pk]at hf;by_cases hh:(be s G.1 (G.2.take (i+1))).2=true
   ·have hh':=hh;rw[ht,pk]at hh⊢;by_cases h4:(be s G.1 (G.2.take i)).2=true
    ·rw[d0 h4]at hh⊢;obtain⟨b1,b2,b3⟩:=iy h1;rw[ajj (p:=(p.1,p.2++[G.2.getD i 0])) b1 (by rw[a0q];simp only[a0l,a0p];omega)];dsimp only;rw[b3]at h1 h3;rw[pk,d0 h1,h3];exact⟨hh,rfl⟩
    ·rw[ds h4]at hh;cases hh
   ·rw[ds hh]at hf;cases hf
  intro i
  induction i with
  |zero=>intro _;have hr0:u9 K (bn s K) f (G.2.take 0)=(bn s K).getD f.toNat (0,[]):=rfl;rw[hr0];exact⟨p1,p2,hfg,fun h=>(nxt 0 _ h p1 p2 hfg).1⟩
  |succ i ih=>
   intro hi;obtain⟨r1,r2,r3,r4⟩:=ih (by omega);have ht:G.2.take (i+1)=G.2.take i++[G.2.getD i 0]:=by have:=mo G.2 0 (i:=(i:Int)) (by omega) (by omega);rw[show ((i:Int)+1).toNat=i+1 from by omega,a0m]at this;exact this
   have hr:u9 K (bn s K) f (G.2.take (i+1))=aqz K (u9 K (bn s K) f (G.2.take i)) (G.2.getD i 0):=by rw[ht];unfold u9;rw[a3c];rfl
   have n1:=nxt i _ (by omega) r1 r2 r3;generalize u9 K (bn s K) f (G.2.take i)=p at *;obtain⟨O,hs,hv⟩:=aez P n1.1;have hl:=akv P O.o0 O.o1;have e1:(aw s (aqz K p (G.2.getD i 0))).1=(be s G.1 (G.2.take (i+1))).1:=hs.2.trans n1.2;rw[hr];exact⟨hv,hl.2,e1,fun h=>(nxt (i+1) _ h hv hl.2 e1).1⟩
 refine⟨f0,f1,g0,g1,by omega,fun i i0 i1=>?_,?_⟩
 ·obtain⟨_,_,_,r4⟩:=run i.toNat (by omega);exact (aez P (r4 (by omega))).1
 ·obtain⟨r1,_,_,_⟩:=run ((bn s K).getD g.toNat (0,[])).2.length (a0f _);rw[List.take_length]at r1;have O:=(aez P r1).1;have hb:(kw (ic s K)).length=K.2.2.length:=by unfold kw;rw[bh,F.n]
  exact⟨O.le,O.a0,O.a1,O.o0,by rw[hb];exact O.o1⟩
theorem agl{s:ac}(hS:bd s=true){e:Int}(e0:0<=e)(e1:e<s.2.1.length):(aw s (s.2.1.getD e.toNat 0,[e])).2=true/\(aw s (s.2.1.getD e.toNat 0,[e])).1=s.2.2.1.getD e.toNat 0:=by obtain⟨_,_,_,_,hw,_⟩:=mc hS;obtain⟨w0,w1⟩:=kv.1 hw e e0 e1;rw[ajj (p:=(s.2.1.getD e.toNat 0,[e])) (ow.2 ⟨w0,by dsimp only;omega⟩) (by simp)];dsimp only;rw[be,d0 ⟨ow.2 ⟨e0,by omega⟩,rfl⟩];exact⟨rfl,rfl⟩
def abl(s:ac)(K:aj)(n:Nat):List Int:=dv n fun x=>abk s K x []
def jw(s:ac)(K:aj)(n:Nat):List Int:=dv n fun e=>abk s K (s.2.1.getD e.toNat 0) [e]
def me(l:List ab):List Int:=l.map (·.1)
def toA(s:ac)(l:List ab):List Int:=l.map fun p=>(aw s p).1
def ak2(s:ac)(K:aj):bo:=(s.1,(me (bn s K),(toA s (bn s K),(abl s K s.1.toNat,[]))))
def my(s:ac)(K:aj):bo:=(s.1,(me (bn s K),(toA s (bn s K),(abl s K s.1.toNat,zf (ak2 s K) (w6 K (kw (ic s K)) (bn s K))))))
theorem auq{l:List ab}{i:Nat}(h:i<l.length):(me l).getD i 0=(l.getD i (0,[])).1:=by unfold me;simp only[a0o,a05,a0n h,a0z,a02]
theorem axg{s:ac}{l:List ab}{i:Nat}(h:i<l.length):(toA s l).getD i 0=(aw s (l.getD i (0,[]))).1:=by unfold toA;simp only[a0o,a05,a0n h,a0z,a02]
theorem bnr{s:ac}{L:List ab}{K:aj}(P:KlsP s L K){e:Int}(e0:0<=e)(e1:e<s.2.1.length):0<=(jw s K s.2.1.length).getD e.toNat 0/\(jw s K s.2.1.length).getD e.toNat 0<(bn s K).length/\
  (me (bn s K)).getD ((jw s K s.2.1.length).getD e.toNat 0).toNat 0=s.2.1.getD e.toNat 0/\(toA s (bn s K)).getD ((jw s K s.2.1.length).getD e.toNat 0).toNat 0=s.2.2.1.getD e.toNat 0:=by
 unfold jw;rw[ov e0 (by omega)];obtain⟨h1,h2⟩:=agl P.S e0 e1;obtain⟨a0,a1,_,hs⟩:=ayg P h1;dsimp only at a0 a1 hs;rw[auq (by omega),axg (by omega)];exact⟨a0,a1,hs.1,hs.2.trans h2⟩
theorem bfy{s:ac}{L:List ab}{K:aj}(P:KlsP s L K)(S:ShapeP (my s K)):∀(es:List Int) (h n:Int),0<=h->h<(bn s K).length->(toA s (bn s K)).getD h.toNat 0=n->(be s n es).2=true->atb (my s K) (jw s K s.2.1.length) h es
 |[],_,_,_,_,_,_=>trivial
 |e::r,h,n,h0,h1,ht,hf=>by
  simp only[be]at hf;split at hf
  ·rename_i hc;obtain⟨e0,e1⟩:=ow.1 hc.1;obtain⟨a0,a1,a2,a3⟩:=bnr P e0 (by omega);have hl:(jw s K s.2.1.length).length=s.2.1.length:=by unfold jw;rw[bh]
   have hfl:(my s K).2.1.length=(bn s K).length:=by unfold my me;rw[a0y]
   have hcomp:(my s K).2.2.1.getD h.toNat 0=(my s K).2.1.getD ((jw s K s.2.1.length).getD e.toNat 0).toNat 0:=by show (toA s (bn s K)).getD h.toNat 0=(me (bn s K)).getD _ 0;rw[ht,a2,hc.2]
   have y:=S.yes h0 (by rw[hfl];exact h1) a0 (by rw[hfl];exact a1) hcomp;refine⟨⟨e0,by rw[hl];omega⟩,⟨a0,by rw[hfl];exact a1⟩,hcomp,bfy P S r _ (s.2.2.1.getD e.toNat 0) y.1 (by rw[←hfl];exact y.2.1) ?_ hf⟩;have:(my s K).2.2.1.getD (gj (my s K) h ((jw s K s.2.1.length).getD e.toNat 0)).toNat 0=(my s K).2.2.1.getD ((jw s K s.2.1.length).getD e.toNat 0).toNat 0:=y.2.2.2;exact this.trans a3
  ·cases hf
theorem amd{s:ac}{L:List ab}{K:aj}(P:KlsP s L K)(hc:xd (my s K)=true){l:List ab}{p:ab}(hp:(aw s p).2=true):AroP (my s K,(l,jw s K s.2.1.length)) p:=by
 have S:ShapeP (my s K):=by unfold xd at hc;rw[a0a]at hc;exact ad2.1 hc.1
 obtain⟨a1,a2,a3⟩:=iy hp;obtain⟨b0,b1⟩:=ow.1 a1;have hx:p.1<(my s K).1:=by show p.1<s.1;omega
 have hid:=S.idn b0 hx;have hi2:=S.idt p.1 b0 hx;have hfl:(my s K).2.1.length=(bn s K).length:=by unfold my me;rw[a0y]
 rw[a3]at hp;exact⟨S,b0,hx,bfy P S p.2 _ p.1 hid.1 (by rw[←hfl];exact hid.2.1) hi2.2 hp⟩
theorem bba{s:ac}(hS:bd s=true):(∀p∈s.2.2.2.1,(aw s p).2=true)/\∀p∈s.2.2.2.2,(aw s p).2=true:=by
 obtain⟨_,_,_,_,_,_,_,h8,h9⟩:=mc hS;constructor
 ·intro p hp;obtain⟨i,i1,e⟩:=qe hp;have:=(tx h9 (i:=(i:Int)) (by omega) (by omega) (by omega)).l2;rw[a0m,e]at this;exact this
 ·intro p hp;obtain⟨i,i1,e⟩:=qe hp;have:=(tx h9 (i:=(i:Int)) (by omega) (by omega) (by omega)).r2;rw[a0m,e]at this;exact this
theorem bks{s:ac}{L:List ab}{K:aj}(P:KlsP s L K):ClsP (s,(my s K,(jw s K s.2.1.length,bn s K))):=by obtain⟨_,_,_,_,_,_,_,h8,_⟩:=mc P.S;obtain⟨hl,hr⟩:=bba P.S;refine⟨fun h p hp=>?_,fun h p hp=>amd P h (hl p hp),fun h p hp=>amd P h (hr p hp),h8⟩;obtain⟨i,i1,rfl⟩:=qe hp;have:=(ads P (i:=(i:Int)) (by omega) (by exact Int.ofNat_lt.2 i1)).1;rw[a0m]at this;exact amd P h this
theorem bkp{s:ac}{L:List ab}{K:aj}(P:KlsP s L K)(h40:(ic s K).length<=40):PrtP (s,(ak2 s K,(jw s K s.2.1.length,bn s K))) K (kw (ic s K)):=by refine⟨by show (me _).length=_;unfold me;rw[a0y],by show (toA s _).length=_;unfold toA;rw[a0y],by show (bn s K).length<=40;rw[afj];exact h40,fun f g f0 f1 g0 g1 h=>?_⟩;have h:(toA s (bn s K)).getD f.toNat 0=(me (bn s K)).getD g.toNat 0:=h;dsimp only at f1 g1;rw[axg (by omega),auq (by omega)]at h;exact bn2 P f0 f1 g0 g1 h
def ci(s:ac):bj8:=(s,(my s (pcR s),(jw s (pcR s) s.2.1.length,bn s (pcR s))))
def sx(s:ac):Bool:=pm s&&decide ((ic s (pcR s)).length<=40)&&ym (ci s)
def lj:Sp:=⟨[(.pt SchemaT)],[false],true,fun x=>sx x.1,fun x=>[bd x.1=true],[(false,(.pt (.p (.fz (.pt SchemaT)) (.p (.p (.fz (.int .i64)) (.p (.sl (.fz (.int .i64))) (.p (.sl (.fz (.int .i64))) (.p (.sl (.fz (.int .i64))) (.sl (.sl (.fz (.int .i64)))))))) (.p (.sl (.fz (.int .i64))) (.sl (.fz PathT))))))),(false,(.fz (.er 119)))],fun x=>(ci x.1,false,()),[(false,(.fz .any)),(false,(.fz (.er 119)))],fun x=>((),true,())⟩
def ez:Ct:=o7 lj true
def gp:Ct:=o7 lj false
def ai7:Ct:=spC lj
def w7:Ann:=(.s .n (.s .n (.s .n (.s .n (.s .n (.s .n (.s .n (.s (.s .n (.l [(4,(.ad 4 [.de])),(7,(.ad 7 [.de])),(8,(.bx (.ad 42 [.de]))),(45,(.d (.int .i64)))] [(4,(.pt (.fz (.pt (.p (.mp .str (.int .i64)) (.p (.sl (.int .i64)) (.sl (.p (.int .i64) (.sl (.int .i64)))))))))),(7,(.pt (.sl (.fz (.int .i64))))),(42,(.pt (.p (.fz (.pt (.p (.int .i64) (.p (.sl (.int .i64)) (.p (.sl (.int .i64)) (.p (.sl (.p (.int .i64) (.sl (.int .i64)))) (.sl (.p (.int .i64) (.sl (.int .i64)))))))))) (.p (.p (.fz (.int .i64)) (.p (.sl (.fz (.int .i64))) (.p (.sl (.fz (.int .i64))) (.p (.sl (.fz (.int .i64))) (.sl (.sl (.fz (.int .i64)))))))) (.p (.sl (.fz (.int .i64))) (.sl (.fz (.p (.int .i64) (.sl (.int .i64))))))))))] [0,43,44] .n)) (.s (.s .n (.l [(4,(.ad 4 [.de])),(7,(.ad 7 [.de])),(8,(.bx (.ad 42 [.de]))),(102,(.d (.int .i64)))] [(4,(.pt (.fz (.pt (.p (.mp .str (.int .i64)) (.p (.sl (.int .i64)) (.sl (.p (.int .i64) (.sl (.int .i64)))))))))),(7,(.pt (.sl (.fz (.int .i64))))),(42,(.pt (.p (.fz (.pt (.p (.int .i64) (.p (.sl (.int .i64)) (.p (.sl (.int .i64)) (.p (.sl (.p (.int .i64) (.sl (.int .i64)))) (.sl (.p (.int .i64) (.sl (.int .i64)))))))))) (.p (.p (.fz (.int .i64)) (.p (.sl (.fz (.int .i64))) (.p (.sl (.fz (.int .i64))) (.p (.sl (.fz (.int .i64))) (.sl (.sl (.fz (.int .i64)))))))) (.p (.sl (.fz (.int .i64))) (.sl (.fz (.p (.int .i64) (.sl (.int .i64))))))))))] [0,101] .n)) (.s (.s .n (.l [(4,(.ad 4 [.de])),(7,(.ad 7 [.de])),(8,(.bx (.ad 42 [.de]))),(128,(.d (.int .i64)))] [(4,(.pt (.fz (.pt (.p (.mp .str (.int .i64)) (.p (.sl (.int .i64)) (.sl (.p (.int .i64) (.sl (.int .i64)))))))))),(7,(.pt (.sl (.fz (.int .i64))))),(42,(.pt (.p (.fz (.pt (.p (.int .i64) (.p (.sl (.int .i64)) (.p (.sl (.int .i64)) (.p (.sl (.p (.int .i64) (.sl (.int .i64)))) (.sl (.p (.int .i64) (.sl (.int .i64)))))))))) (.p (.p (.fz (.int .i64)) (.p (.sl (.fz (.int .i64))) (.p (.sl (.fz (.int .i64))) (.p (.sl (.fz (.int .i64))) (.sl (.sl (.fz (.int .i64)))))))) (.p (.sl (.fz (.int .i64))) (.sl (.fz (.p (.int .i64) (.sl (.int .i64))))))))))] [126,127] .n)) .n))))))))))
def zj:FuncId->Option Ct:=lkp [(92,wu),(93,kn),(96,vz),(98,gq),(94,lw),(74,fh),(95,g9),(97,ey)]
def qg(s:ac)(A:gx ez.rt->Prop)(B:gx gp.rt->Prop):Prop:=(cnd (pm s) (((pm s)=true)/\(((bd s)=true)/\(cnd false (B ((),(false,()))) (((List.length (pcR s).2.2)<=1000000)/\((OrdP (pcR s) s (fq (List.length (pcR s).2.2:Int)))/\(cnd (decide (40<(((List.length (ot (pcR s) s (fq (List.length (pcR s).2.2:Int)))):Nat):Int))) (B ((),(true,()))) (((List.length (ot (pcR s) s (fq (List.length (pcR s).2.2:Int))))<=40)/\(((bm (ot (pcR s) s (fq (List.length (pcR s).2.2:Int))) (((List.length (ot (pcR s) s (fq (List.length (pcR s).2.2:Int)))):Nat):Int))=true)/\(bi (S:=(bps×(((List (ByteArray×Int))×bpr)×bpy))) (fun s1=>(fun next=>((inK .i64 s1.1.2.2.2.1)->((T.ok (T.mp T.str (.int .i64)) s1.2.1.1)->((T.ok (.sl (.int .i64)) s1.2.1.2.1)->((T.ok (.sl PathT) s1.2.1.2.2)->((T.ok (.sl (.int .i64)) s1.2.2.1)->((inK .i64 s1.2.2.2.1.1.1)->((T.ok (.sl (.int .i64)) s1.2.2.2.1.1.2.1)->((T.ok (.sl (.int .i64)) s1.2.2.2.1.1.2.2.1)->((T.ok (.sl PathT) s1.2.2.2.1.1.2.2.2.1)->((T.ok (.sl PathT) s1.2.2.2.1.1.2.2.2.2)->((inK .i64 s1.2.2.2.1.2.1.1)->((T.ok (.sl (.int .i64)) s1.2.2.2.1.2.1.2.1)->((T.ok (.sl (.int .i64)) s1.2.2.2.1.2.1.2.2.1)->((T.ok (.sl (.int .i64)) s1.2.2.2.1.2.1.2.2.2.1)->((T.ok (.sl (.sl (.int .i64))) s1.2.2.2.1.2.1.2.2.2.2)->((T.ok (.sl (.int .i64)) s1.2.2.2.1.2.2.1)->((T.ok (.sl PathT) s1.2.2.2.1.2.2.2)->(cnd (decide (s1.1.2.2.2.1<(((List.length (ot (pcR s) s (fq (List.length (pcR s).2.2:Int)))):Nat):Int))) ((0<=s1.1.2.2.2.1)/\((s1.1.2.2.2.1<(((List.length (ot (pcR s) s (fq (List.length (pcR s).2.2:Int)))):Nat):Int))/\((0<=(List.getD (ot (pcR s) s (fq (List.length (pcR s).2.2:Int))) s1.1.2.2.2.1.toNat 0))/\(((List.getD (ot (pcR s) s (fq (List.length (pcR s).2.2:Int))) s1.1.2.2.2.1.toNat 0)<(s1.2.1.2.2.length:Int))/\((s.2.1.length<=s.2.2.1.length)/\((inK .i64 (s.1-1))/\((e9 s1.2.2.2.1.2.2.2.length (List.length ((List.getD s1.2.1.2.2 (Int.toNat (List.getD (ot (pcR s) s (fq (List.length (pcR s).2.2:Int))) s1.1.2.2.2.1.toNat 0)) (0,[]))::([]:List bpm))) 32)/\((e9 s1.2.2.2.1.2.1.2.1.length (List.length ((List.getD s1.2.1.2.2 (Int.toNat (List.getD (ot (pcR s) s (fq (List.length (pcR s).2.2:Int))) s1.1.2.2.2.1.toNat 0)) (0,[])).1::[])) 8)/\((e9 s1.2.2.2.1.2.1.2.2.1.length (List.length ((aw s (List.getD s1.2.1.2.2 (Int.toNat (List.getD (ot (pcR s) s (fq (List.length (pcR s).2.2:Int))) s1.1.2.2.2.1.toNat 0)) (0,[]))).1::[])) 8)/\((inK .i64 (s1.1.2.2.2.1+1))/\(next (((),((),((),((s1.1.2.2.2.1+1),())))),(s1.2.1,(s1.2.2.1,((s1.2.2.2.1.1,((s1.2.2.2.1.2.1.1,((s1.2.2.2.1.2.1.2.1++((List.getD s1.2.1.2.2 (Int.toNat (List.getD (ot (pcR s) s (fq (List.length (pcR s).2.2:Int))) s1.1.2.2.2.1.toNat 0)) (0,[])).1::[])),((s1.2.2.2.1.2.1.2.2.1++((aw s (List.getD s1.2.1.2.2 (Int.toNat (List.getD (ot (pcR s) s (fq (List.length (pcR s).2.2:Int))) s1.1.2.2.2.1.toNat 0)) (0,[]))).1::[])),s1.2.2.2.1.2.1.2.2.2))),(s1.2.2.2.1.2.2.1,(s1.2.2.2.1.2.2.2++((List.getD s1.2.1.2.2 (Int.toNat (List.getD (ot (pcR s) s (fq (List.length (pcR s).2.2:Int))) s1.1.2.2.2.1.toNat 0)) (0,[]))::([]:List bpm)))))),()))))))))))))))) (bi (S:=(bps×(((List (ByteArray×Int))×bpr)×bpy))) (fun s2=>(fun next1=>((inK .i64 s2.1.2.2.2.1)->((T.ok (T.mp T.str (.int .i64)) s2.2.1.1)->((T.ok (.sl (.int .i64)) s2.2.1.2.1)->((T.ok (.sl PathT) s2.2.1.2.2)->((T.ok (.sl (.int .i64)) s2.2.2.1)->((inK .i64 s2.2.2.2.1.1.1)->((T.ok (.sl (.int .i64)) s2.2.2.2.1.1.2.1)->((T.ok (.sl (.int .i64)) s2.2.2.2.1.1.2.2.1)->((T.ok (.sl PathT) s2.2.2.2.1.1.2.2.2.1)->((T.ok (.sl PathT) s2.2.2.2.1.1.2.2.2.2)->((inK .i64 s2.2.2.2.1.2.1.1)->((T.ok (.sl (.int .i64)) s2.2.2.2.1.2.1.2.1)->((T.ok (.sl (.int .i64)) s2.2.2.2.1.2.1.2.2.1)->((T.ok (.sl (.int .i64)) s2.2.2.2.1.2.1.2.2.2.1)->((T.ok (.sl (.sl (.int .i64))) s2.2.2.2.1.2.1.2.2.2.2)->((T.ok (.sl (.int .i64)) s2.2.2.2.1.2.2.1)->((T.ok (.sl PathT) s2.2.2.2.1.2.2.2)->(cnd (decide (s2.1.2.2.2.1<s.1)) (((List.length ([]:List Int))<=1000000)/\((0<=(db s2.2.1 s2.1.2.2.2.1 []))/\(((db s2.2.1 s2.1.2.2.2.1 [])<(s2.2.1.2.1.length:Int))/\((0<=(List.getD s2.2.1.2.1 (Int.toNat (db s2.2.1 s2.1.2.2.2.1 [])) 0))/\(((List.getD s2.2.1.2.1 (Int.toNat (db s2.2.1 s2.1.2.2.2.1 [])) 0)<(s2.2.2.1.length:Int))/\((e9 s2.2.2.2.1.2.1.2.2.2.1.length (List.length ((List.getD s2.2.2.1 (Int.toNat (List.getD s2.2.1.2.1 (Int.toNat (db s2.2.1 s2.1.2.2.2.1 [])) 0)) 0)::[])) 8)/\((inK .i64 (s2.1.2.2.2.1+1))/\(next1 (((),((),((),((s2.1.2.2.2.1+1),())))),(s2.2.1,(s2.2.2.1,((s2.2.2.2.1.1,((s2.2.2.2.1.2.1.1,(s2.2.2.2.1.2.1.2.1,(s2.2.2.2.1.2.1.2.2.1,((s2.2.2.2.1.2.1.2.2.2.1++((List.getD s2.2.2.1 (Int.toNat (List.getD s2.2.1.2.1 (Int.toNat (db s2.2.1 s2.1.2.2.2.1 [])) 0)) 0)::[])),s2.2.2.2.1.2.1.2.2.2.2)))),s2.2.2.2.1.2.2)),())))))))))))) (bi (S:=(bps×(((List (ByteArray×Int))×bpr)×bpy))) (fun s3=>(fun next2=>((inK .i64 s3.1.2.2.2.1)->((T.ok (T.mp T.str (.int .i64)) s3.2.1.1)->((T.ok (.sl (.int .i64)) s3.2.1.2.1)->((T.ok (.sl PathT) s3.2.1.2.2)->((T.ok (.sl (.int .i64)) s3.2.2.1)->((inK .i64 s3.2.2.2.1.1.1)->((T.ok (.sl (.int .i64)) s3.2.2.2.1.1.2.1)->((T.ok (.sl (.int .i64)) s3.2.2.2.1.1.2.2.1)->((T.ok (.sl PathT) s3.2.2.2.1.1.2.2.2.1)->((T.ok (.sl PathT) s3.2.2.2.1.1.2.2.2.2)->((inK .i64 s3.2.2.2.1.2.1.1)->((T.ok (.sl (.int .i64)) s3.2.2.2.1.2.1.2.1)->((T.ok (.sl (.int .i64)) s3.2.2.2.1.2.1.2.2.1)->((T.ok (.sl (.int .i64)) s3.2.2.2.1.2.1.2.2.2.1)->((T.ok (.sl (.sl (.int .i64))) s3.2.2.2.1.2.1.2.2.2.2)->((T.ok (.sl (.int .i64)) s3.2.2.2.1.2.2.1)->((T.ok (.sl PathT) s3.2.2.2.1.2.2.2)->(cnd (decide (s3.1.2.2.2.1<(s.2.1.length:Int))) ((0<=s3.1.2.2.2.1)/\((s3.1.2.2.2.1<(s.2.1.length:Int))/\(((List.length (s3.1.2.2.2.1::[]))<=1000000)/\((0<=(db s3.2.1 (List.getD s.2.1 s3.1.2.2.2.1.toNat 0) (s3.1.2.2.2.1::[])))/\(((db s3.2.1 (List.getD s.2.1 s3.1.2.2.2.1.toNat 0) (s3.1.2.2.2.1::[]))<(s3.2.1.2.1.length:Int))/\((0<=(List.getD s3.2.1.2.1 (Int.toNat (db s3.2.1 (List.getD s.2.1 s3.1.2.2.2.1.toNat 0) (s3.1.2.2.2.1::[]))) 0))/\(((List.getD s3.2.1.2.1 (Int.toNat (db s3.2.1 (List.getD s.2.1 s3.1.2.2.2.1.toNat 0) (s3.1.2.2.2.1::[]))) 0)<(s3.2.2.1.length:Int))/\((e9 s3.2.2.2.1.2.2.1.length (List.length ((List.getD s3.2.2.1 (Int.toNat (List.getD s3.2.1.2.1 (Int.toNat (db s3.2.1 (List.getD s.2.1 s3.1.2.2.2.1.toNat 0) (s3.1.2.2.2.1::[]))) 0)) 0)::[])) 8)/\((inK .i64 (s3.1.2.2.2.1+1))/\(next2 (((),((),((),((s3.1.2.2.2.1+1),())))),(s3.2.1,(s3.2.2.1,((s3.2.2.2.1.1,(s3.2.2.2.1.2.1,((s3.2.2.2.1.2.2.1++((List.getD s3.2.2.1 (Int.toNat (List.getD s3.2.1.2.1 (Int.toNat (db s3.2.1 (List.getD s.2.1 s3.1.2.2.2.1.toNat 0) (s3.1.2.2.2.1::[]))) 0)) 0)::[])),s3.2.2.2.1.2.2.2))),())))))))))))))) ((PrtP s3.2.2.2.1 s3.2.1 s3.2.2.1)/\((ClsP (s3.2.2.2.1.1,((s3.2.2.2.1.2.1.1,(s3.2.2.2.1.2.1.2.1,(s3.2.2.2.1.2.1.2.2.1,(s3.2.2.2.1.2.1.2.2.2.1,(zf s3.2.2.2.1.2.1 (w6 s3.2.1 s3.2.2.1 s3.2.2.2.1.2.2.2)))))),s3.2.2.2.1.2.2)))/\(cnd (!(ym (s3.2.2.2.1.1,((s3.2.2.2.1.2.1.1,(s3.2.2.2.1.2.1.2.1,(s3.2.2.2.1.2.1.2.2.1,(s3.2.2.2.1.2.1.2.2.2.1,(zf s3.2.2.2.1.2.1 (w6 s3.2.1 s3.2.2.1 s3.2.2.2.1.2.2.2)))))),s3.2.2.2.1.2.2)))) (B ((),(true,()))) (A ((s3.2.2.2.1.1,((s3.2.2.2.1.2.1.1,(s3.2.2.2.1.2.1.2.1,(s3.2.2.2.1.2.1.2.2.1,(s3.2.2.2.1.2.1.2.2.2.1,(zf s3.2.2.2.1.2.1 (w6 s3.2.1 s3.2.2.1 s3.2.2.2.1.2.2.2)))))),s3.2.2.2.1.2.2)),(false,())))))))))))))))))))))))))) (((),((),((),(0,())))),(s2.2.1,(s2.2.2.1,(s2.2.2.2.1,()))))))))))))))))))))))))) (((),((),((),(0,())))),(s1.2.1,(s1.2.2.1,(s1.2.2.2.1,()))))))))))))))))))))))))) (((),((),((),(0,())))),((pcR s),((kw (ot (pcR s) s (fq (List.length (pcR s).2.2:Int)))),((s,((s.1,([],([],([],[])))),([],([]:List bpm)))),()))))))))))))) (((pm s)=false)/\(((bd s)=true)/\(cnd true (B ((),(true,()))) (False/\(False/\(False/\False)))))))
def sk(s:ac)(K:gx ez.rt->Prop):Prop:=qg s K (fun _=>False)
theorem ahe(s:ac)(hok:ae (okL ez.args (s,())))(hpre:ae (ez.pre (s,()))):sk s (fun r=>r=ez.res (s,())):=by
 simp only[ez,o7,lj,okL,T.oks,T.ok,ap,ae,a0e,a0c,a0i]at hok hpre
 try dsimp only[T.den]at hok hpre
 unfold sk qg;obtain⟨hs,hS⟩:=hpre;clear hok;obtain⟨s0,s8,f8,tf,_,_,e8,re,_⟩:=mc hS;unfold sx at hs;rw[a0a,a0a,a04]at hs;obtain⟨⟨hp,h4⟩,hcl⟩:=hs;unfold ci at hcl;simp only[ez,o7,lj,ci];refine a8 (fun _=>⟨hp,hS,a8 (fun h=>by cases h) (fun _=>?_)⟩) (fun h=>by rw[hp]at h;cases h);have P:=adw hS hp;have F:=ani s (pcR s);have hO:ot (pcR s) s (fq ((pcR s).2.2.length:Int))=ic s (pcR s):=rfl;rw[hO];clear hO;generalize pcR s=K at *;have hC:=P.C.le;have hn:=P.n;have hH:=P.H.le;have hFn:=F.n;have hbl:(kw (ic s K)).length=K.2.2.length:=by unfold kw;rw[bh,hFn]
 have hal:(bn s K).length=(ic s K).length:=afj;refine⟨by omega,⟨by omega,by rw[al];(try dsimp only);omega,⟨by omega,fun p hp=>by obtain⟨i,i1,rfl⟩:=qe hp;have:=(akv P (k:=(i:Int)) (by omega) (by omega)).2;rw[a0m]at this;omega⟩,fun a ha=>anu.1 ha⟩,ao (fun h=>?_) (fun h=>?_)⟩
 ·omega
 have h40:(ic s K).length<=40:=by omega
 refine⟨h40,kv.2 fun i i0 i1=>by have:=F.r i i0 i1;omega,?_⟩;refine bq (fun (q:(bps×(((List (ByteArray×Int))×bpr)×bpy)))=>0<=q.1.2.2.2.1/\q.1.2.2.2.1<=(ic s K).length/\q.2.1=K/\q.2.2.1=kw (ic s K)/\q.2.2.2.1=(s,((s.1,(me ((bn s K).take q.1.2.2.2.1.toNat),(toA s ((bn s K).take q.1.2.2.2.1.toNat),([],[])))),([],(bn s K).take q.1.2.2.2.1.toNat)))) (fun (q:(bps×(((List (ByteArray×Int))×bpr)×bpy)))=>((ic s K).length-q.1.2.2.2.1).toNat) ?_ ⟨a0r _,by dsimp only;omega,rfl,rfl,rfl⟩;rintro⟨⟨_,_,_,i,_⟩,k',b',o',_⟩ next ⟨i0,i1,q1,q2,q3⟩ hnx
 intros
 try dsimp only at i0 i1 q1 q2 q3 hnx⊢
 subst q1;subst q2;subst q3
 try dsimp only
 refine ao (fun hi=>?_) (fun hi=>?_)
 ·have hr:=F.r i i0 hi;have ht:(bn s k').take (i+1).toNat=(bn s k').take i.toNat++[k'.2.2.getD ((ic s k').getD i.toNat 0).toNat (0,[])]:=by rw[mo (bn s k') (0,[]) i0 (by omega),ank (by omega)]
  have htl:((bn s k').take i.toNat).length<=40:=by rw[a1c];omega
  refine⟨i0,hi,hr.1,hr.2,by omega,by rw[al];(try dsimp only);omega,c9 (by simp only[a0l,a0p];omega),c9 (by unfold me;rw[a0y];simp only[a0l,a0p];omega),c9 (by unfold toA;rw[a0y];simp only[a0l,a0p];omega),by rw[al];(try dsimp only);omega,hnx _ ⟨by dsimp only;omega,by dsimp only;omega,rfl,rfl,?_⟩ (by dsimp only;omega)⟩
  try dsimp only
  rw[ht];simp only[me,toA,a28,a1h,a2i]
 clear hnx;have e:i=(ic s k').length:=by omega
 subst e;rw[a0m,a23 (by omega)];refine bq (fun (q:(bps×(((List (ByteArray×Int))×bpr)×bpy)))=>0<=q.1.2.2.2.1/\q.1.2.2.2.1<=s.1/\q.2.1=k'/\q.2.2.1=kw (ic s k')/\q.2.2.2.1=(s,((s.1,(me (bn s k'),(toA s (bn s k'),(abl s k' q.1.2.2.2.1.toNat,[])))),([],bn s k')))) (fun (q:(bps×(((List (ByteArray×Int))×bpr)×bpy)))=>(s.1-q.1.2.2.2.1).toNat) ?_ ⟨a0r _,by dsimp only;omega,rfl,rfl,rfl⟩;rintro⟨⟨_,_,_,x,_⟩,k2,b',o',_⟩ next ⟨x0,x1,q1,q2,q3⟩ hnx
 intros
 try dsimp only at x0 x1 q1 q2 q3 hnx⊢
 subst q1;subst q2;subst q3
 try dsimp only
 refine ao (fun hx=>?_) (fun hx=>?_)
 ·have O:=(aez P (adx x0 hx)).1;refine⟨by simp,O.a0,O.a1,O.o0,by rw[hbl];exact O.o1,c9 (by unfold abl;rw[bh];simp only[a0l,a0p];omega),by rw[al];(try dsimp only);omega,hnx _ ⟨by dsimp only;omega,by dsimp only;omega,rfl,rfl,?_⟩ (by dsimp only;omega)⟩
  try dsimp only
  have:abl s k2 (x+1).toNat=abl s k2 x.toNat++[(kw (ic s k2)).getD (k2.2.1.getD (db k2 x []).toNat 0).toNat 0]:=by unfold abl;rw[uv x0];rfl
  rw[this]
 clear hnx;have e:x=s.1:=by omega
 subst e;refine bq (fun (q:(bps×(((List (ByteArray×Int))×bpr)×bpy)))=>0<=q.1.2.2.2.1/\q.1.2.2.2.1<=s.2.1.length/\q.2.1=k2/\q.2.2.1=kw (ic s k2)/\q.2.2.2.1=(s,(ak2 s k2,(jw s k2 q.1.2.2.2.1.toNat,bn s k2)))) (fun (q:(bps×(((List (ByteArray×Int))×bpr)×bpy)))=>(s.2.1.length-q.1.2.2.2.1).toNat) ?_ ⟨a0r _,by dsimp only;omega,rfl,rfl,rfl⟩;rintro⟨⟨_,_,_,x,_⟩,k3,b',o',_⟩ next ⟨x0,x1,q1,q2,q3⟩ hnx
 intros
 try dsimp only at x0 x1 q1 q2 q3 hnx⊢
 subst q1;subst q2;subst q3
 try dsimp only
 refine ao (fun hx=>?_) (fun hx=>?_)
 ·have O:=(aez P (agl hS x0 hx).1).1;refine⟨x0,hx,by simp,O.a0,O.a1,O.o0,by rw[hbl];exact O.o1,c9 (by unfold jw;rw[bh];simp only[a0l,a0p];omega),by rw[al];(try dsimp only);omega,hnx _ ⟨by dsimp only;omega,by dsimp only;omega,rfl,rfl,?_⟩ (by dsimp only;omega)⟩
  try dsimp only
  have:jw s k3 (x+1).toNat=jw s k3 x.toNat++[(kw (ic s k3)).getD (k3.2.1.getD (db k3 (s.2.1.getD x.toNat 0) [x]).toNat 0).toNat 0]:=by unfold jw;rw[uv x0];rfl
  rw[this]
 clear hnx;have e:x=s.2.1.length:=by omega
 subst e;rw[a0m];refine⟨bkp P h40,bks P,a8 (fun h=>?_) (fun h=>?_)⟩
 ·exact absurd hcl (by rw[Bool.not_eq_true,←a1f];exact h)
 ·rfl
theorem afr:bt Tryz.prog 75 ez:=cf (Φ:=zj) (ai v8 (ai aat (ai uz (ai xe (ai aew (ai lx (ai tu (ai rx aq)))))))) bj (by kernel_rfl) (fn:=Tryz.f75) (c:=bf Tryz.f75) (by kernel_rfl) (by kernel_rfl) (by kernel_rfl) ez rfl w7 (cu [(16,5008),(1,1500),(21,5013),(26,5014),(14,5007),(15,5009)]) (by kernel_rfl) (by kernel_rfl) (by kernel_rfl) (by decide) (fun x K=>sk x.1 K) (fun _ _=>by kernel_rfl) (fun x h1 h2=>ahe x.1 h1 h2)
def sg(s:ac)(K:gx gp.rt->Prop):Prop:=qg s (fun _=>False) K
theorem ag5(s:ac)(hok:ae (okL gp.args (s,())))(hpre:ae (gp.pre (s,()))):sg s (fun r=>r=gp.res (s,())):=by
 simp only[gp,o7,lj,okL,T.oks,T.ok,ap,ae,a0e,a0c,a0i]at hok hpre
 try dsimp only[T.den]at hok hpre
 unfold sg qg;obtain⟨hs,hS⟩:=hpre;clear hok;obtain⟨s0,s8,f8,tf,_,_,e8,re,_⟩:=mc hS;unfold sx ci at hs;refine a8 (fun hp=>⟨hp,hS,a8 (fun h=>by cases h) (fun _=>?_)⟩) (fun hp=>⟨hp,hS,a8 (fun _=>rfl) (fun h=>by cases h)⟩);rw[hp,a1x]at hs;have P:=adw hS hp;have F:=ani s (pcR s);have hO:ot (pcR s) s (fq ((pcR s).2.2.length:Int))=ic s (pcR s):=rfl;rw[hO];clear hO;generalize pcR s=K at *;have hC:=P.C.le;have hn:=P.n;have hH:=P.H.le;have hFn:=F.n;have hbl:(kw (ic s K)).length=K.2.2.length:=by unfold kw;rw[bh,hFn]
 have hal:(bn s K).length=(ic s K).length:=afj;refine⟨by omega,⟨by omega,by rw[al];(try dsimp only);omega,⟨by omega,fun p hp=>by obtain⟨i,i1,rfl⟩:=qe hp;have:=(akv P (k:=(i:Int)) (by omega) (by omega)).2;rw[a0m]at this;omega⟩,fun a ha=>anu.1 ha⟩,ao (fun h=>?_) (fun h=>?_)⟩
 ·rfl
 have h40:(ic s K).length<=40:=by omega
 refine⟨h40,kv.2 fun i i0 i1=>by have:=F.r i i0 i1;omega,?_⟩;refine bq (fun (q:(bps×(((List (ByteArray×Int))×bpr)×bpy)))=>0<=q.1.2.2.2.1/\q.1.2.2.2.1<=(ic s K).length/\q.2.1=K/\q.2.2.1=kw (ic s K)/\q.2.2.2.1=(s,((s.1,(me ((bn s K).take q.1.2.2.2.1.toNat),(toA s ((bn s K).take q.1.2.2.2.1.toNat),([],[])))),([],(bn s K).take q.1.2.2.2.1.toNat)))) (fun (q:(bps×(((List (ByteArray×Int))×bpr)×bpy)))=>((ic s K).length-q.1.2.2.2.1).toNat) ?_ ⟨a0r _,by dsimp only;omega,rfl,rfl,rfl⟩;rintro⟨⟨_,_,_,i,_⟩,k',b',o',_⟩ next ⟨i0,i1,q1,q2,q3⟩ hnx
 intros
 try dsimp only at i0 i1 q1 q2 q3 hnx⊢
 subst q1;subst q2;subst q3
 try dsimp only
 refine ao (fun hi=>?_) (fun hi=>?_)
 ·have hr:=F.r i i0 hi;have ht:(bn s k').take (i+1).toNat=(bn s k').take i.toNat++[k'.2.2.getD ((ic s k').getD i.toNat 0).toNat (0,[])]:=by rw[mo (bn s k') (0,[]) i0 (by omega),ank (by omega)]
  have htl:((bn s k').take i.toNat).length<=40:=by rw[a1c];omega
  refine⟨i0,hi,hr.1,hr.2,by omega,by rw[al];(try dsimp only);omega,c9 (by simp only[a0l,a0p];omega),c9 (by unfold me;rw[a0y];simp only[a0l,a0p];omega),c9 (by unfold toA;rw[a0y];simp only[a0l,a0p];omega),by rw[al];(try dsimp only);omega,hnx _ ⟨by dsimp only;omega,by dsimp only;omega,rfl,rfl,?_⟩ (by dsimp only;omega)⟩
  try dsimp only
  rw[ht];simp only[me,toA,a28,a1h,a2i]
 clear hnx;have e:i=(ic s k').length:=by omega
 subst e;rw[a0m,a23 (by omega)];refine bq (fun (q:(bps×(((List (ByteArray×Int))×bpr)×bpy)))=>0<=q.1.2.2.2.1/\q.1.2.2.2.1<=s.1/\q.2.1=k'/\q.2.2.1=kw (ic s k')/\q.2.2.2.1=(s,((s.1,(me (bn s k'),(toA s (bn s k'),(abl s k' q.1.2.2.2.1.toNat,[])))),([],bn s k')))) (fun (q:(bps×(((List (ByteArray×Int))×bpr)×bpy)))=>(s.1-q.1.2.2.2.1).toNat) ?_ ⟨a0r _,by dsimp only;omega,rfl,rfl,rfl⟩;rintro⟨⟨_,_,_,x,_⟩,k2,b',o',_⟩ next ⟨x0,x1,q1,q2,q3⟩ hnx
 intros
 try dsimp only at x0 x1 q1 q2 q3 hnx⊢
 subst q1;subst q2;subst q3
 try dsimp only
 refine ao (fun hx=>?_) (fun hx=>?_)
 ·have O:=(aez P (adx x0 hx)).1;refine⟨by simp,O.a0,O.a1,O.o0,by rw[hbl];exact O.o1,c9 (by unfold abl;rw[bh];simp only[a0l,a0p];omega),by rw[al];(try dsimp only);omega,hnx _ ⟨by dsimp only;omega,by dsimp only;omega,rfl,rfl,?_⟩ (by dsimp only;omega)⟩
  try dsimp only
  have:abl s k2 (x+1).toNat=abl s k2 x.toNat++[(kw (ic s k2)).getD (k2.2.1.getD (db k2 x []).toNat 0).toNat 0]:=by unfold abl;rw[uv x0];rfl
  rw[this]
 clear hnx;have e:x=s.1:=by omega
 subst e;refine bq (fun (q:(bps×(((List (ByteArray×Int))×bpr)×bpy)))=>0<=q.1.2.2.2.1/\q.1.2.2.2.1<=s.2.1.length/\q.2.1=k2/\q.2.2.1=kw (ic s k2)/\q.2.2.2.1=(s,(ak2 s k2,(jw s k2 q.1.2.2.2.1.toNat,bn s k2)))) (fun (q:(bps×(((List (ByteArray×Int))×bpr)×bpy)))=>(s.2.1.length-q.1.2.2.2.1).toNat) ?_ ⟨a0r _,by dsimp only;omega,rfl,rfl,rfl⟩;rintro⟨⟨_,_,_,x,_⟩,k3,b',o',_⟩ next ⟨x0,x1,q1,q2,q3⟩ hnx
 intros
 try dsimp only at x0 x1 q1 q2 q3 hnx⊢
 subst q1;subst q2;subst q3
 try dsimp only
 refine ao (fun hx=>?_) (fun hx=>?_)
 ·have O:=(aez P (agl hS x0 hx).1).1;refine⟨x0,hx,by simp,O.a0,O.a1,O.o0,by rw[hbl];exact O.o1,c9 (by unfold jw;rw[bh];simp only[a0l,a0p];omega),by rw[al];(try dsimp only);omega,hnx _ ⟨by dsimp only;omega,by dsimp only;omega,rfl,rfl,?_⟩ (by dsimp only;omega)⟩
  try dsimp only
  have:jw s k3 (x+1).toNat=jw s k3 x.toNat++[(kw (ic s k3)).getD (k3.2.1.getD (db k3 (s.2.1.getD x.toNat 0) [x]).toNat 0).toNat 0]:=by unfold jw;rw[uv x0];rfl
  rw[this]
 clear hnx;have e:x=s.2.1.length:=by omega
 subst e;rw[a0m];refine⟨bkp P h40,bks P,a8 (fun h=>?_) (fun h=>?_)⟩
 ·rfl
 ·have h2:ym (s,(my s k3,(jw s k3 s.2.1.length,bn s k3)))=true:=by rw[Bool.not_eq_eq_eq_not,Bool.not_false]at h;exact h
  have hs2:(decide ((ic s k3).length<=40)&&ym (s,(my s k3,(jw s k3 s.2.1.length,bn s k3))))=true:=by rw[a0a,a04];exact⟨h40,h2⟩
  rw[hs2]at hs;cases hs
theorem age:bt Tryz.prog 75 gp:=cf (Φ:=zj) (ai v8 (ai aat (ai uz (ai xe (ai aew (ai lx (ai tu (ai rx aq)))))))) bj (by kernel_rfl) (fn:=Tryz.f75) (c:=bf Tryz.f75) (by kernel_rfl) (by kernel_rfl) (by kernel_rfl) gp rfl w7 (cu [(16,5008),(1,1500),(21,5013),(26,5014),(14,5007),(15,5009)]) (by kernel_rfl) (by kernel_rfl) (by kernel_rfl) (by decide) (fun x K=>sg x.1 K) (fun _ _=>by kernel_rfl) (fun x h1 h2=>ag5 x.1 h1 h2)
theorem zh:bt Tryz.prog 75 ai7:=asi afr age
def xg:Sp:=⟨[(.pt SchemaT)],[false],true,fun x=>sx x.1,fun x=>[bd x.1=true],[(false,(.pt (.p (.fz (.pt SchemaT)) (.p (.p (.fz (.int .i64)) (.p (.sl (.fz (.int .i64))) (.p (.sl (.fz (.int .i64))) (.p (.sl (.fz (.int .i64))) (.sl (.sl (.fz (.int .i64)))))))) (.p (.sl (.fz (.int .i64))) (.sl (.fz PathT))))))),(false,(.fz (.int .i64)))],fun x=>(ci x.1,0,()),[(false,(.fz .any)),(false,(.fz (.int .i64)))],fun x=>((),3,())⟩
def aj5:Ct:=o7 xg true
def aky:Ct:=o7 xg false
def ad5:Ct:=spC xg
end Go.Bm
namespace Go.Proofs.NaAs
open Go.Proofs Go.RowKit Go.Extern.Stop Go.Stop Go.Extern
set_option maxRecDepth 100000
theorem as_nil(t:Value)(w:World) :
  Calls Tryz.prog 76 #[.nilIface,t] w fun e w'=>e=.returned (.bool false)/\w'=w:=by
 go_enter Tryz.func76,Tryz.ntmps76
 go_wp2
 go_ret
 exact⟨rfl,rfl⟩
theorem Tryz.valueOf27(t:Addr)(w:World):(ReflectliteValue.unpack (.iface 121 (.pointer (some t)))).run Tryz.prog w
  = .ok (.agg #[.pointer (some ⟨1,121,none⟩),.pointer (some ⟨w.heap.size,0,none⟩),.int .u64 150]) (w.alloc (.cells #[.pointer (some t)] 121)):=by kernel_rfl
theorem Tryz.type27(a : Addr)(w : World) : (ReflectliteValue.methodAny (ReflectliteValue.valueError "reflectlite.Value.Type" 0) (fun t _ _ _ => ReflectliteType.toType t) #[.agg #[.pointer (some ⟨1, 121, none⟩), .pointer (some a), .int .u64 150]]).run Tryz.prog w
  = .ok (.iface 170 (.agg #[.pointer (some ⟨1,121,none⟩)])) w:=by kernel_rfl
theorem Tryz.methodKind(h : Value)(w : World) : (Go.method 342 170 (.agg #[h]) "Kind").run Tryz.prog w = .ok (163, h) w := by kernel_rfl
theorem Tryz.kind27(w:World):((ReflectliteType.abiMethod fun t=>(fun a:Nat=>Value.int IntKind.u8 (a:Int)) <$> Rtype.kind t) #[.pointer (some ⟨1,121,none⟩)]).run Tryz.prog w=.ok (.int .u8 22) w:=by kernel_rfl
theorem Tryz.kind25(w:World):((ReflectliteType.abiMethod fun t=>(fun a:Nat=>Value.int IntKind.u8 (a:Int)) <$> Rtype.kind t) #[.pointer (some ⟨1,119,none⟩)]).run Tryz.prog w=.ok (.int .u8 25) w:=by kernel_rfl
theorem rlm(z:Sem Value)(f:TypeId->Addr->Nat->Nat->Sem Value)(v:Value) :
  ReflectliteValue.method z f #[v]=(do match ←ReflectliteValue.parts v with|none=>z|some (t,a,fl)=>f t a fl (fl%32)):=rfl
theorem Tryz.parts27(a:Addr)(w:World):(ReflectliteValue.parts (.agg #[.pointer (some ⟨1,121,none⟩),.pointer (some a),.int .u64 150])).run Tryz.prog w=.ok (some (121,a,150)) w:=by kernel_rfl
theorem Tryz.isNil27(a p:Addr)(W:World)(ha:W.cell? a=some (.pointer (some p))) :
  (ReflectliteValue.method (ReflectliteValue.valueError "reflectlite.Value.IsNil" 0) ReflectliteValue.isNil #[.agg #[.pointer (some ⟨1, 121, none⟩), .pointer (some a), .int .u64 150]]).run Tryz.prog W = .ok (.bool false) W := by
 rw[rlm];simp only[Sem.run_bind,Tryz.parts27,Result.andThen];simp[ReflectliteValue.isNil,loadVar,isAgg,underlying,Tryz.underlying121,ha,Result.andThen]
theorem Tryz.methodElem(h : Value)(w : World) : (Go.method 342 170 (.agg #[h]) "Elem").run Tryz.prog w = .ok (175, .agg #[h]) w := by kernel_rfl
theorem Tryz.methodImplements(h : Value)(w : World) : (Go.method 342 170 (.agg #[h]) "Implements").run Tryz.prog w = .ok (176, .agg #[h]) w := by kernel_rfl
theorem Tryz.methodAssignableTo(h : Value)(w : World) : (Go.method 342 170 (.agg #[h]) "AssignableTo").run Tryz.prog w = .ok (173, .agg #[h]) w := by kernel_rfl
theorem Tryz.elem27(w:World):(ReflectliteType.method ReflectliteType.elem #[.agg #[.pointer (some ⟨1,121,none⟩)]]).run Tryz.prog w=.ok (.iface 170 (.agg #[.pointer (some ⟨1,119,none⟩)])) w:=by kernel_rfl
theorem Tryz.implements25(w : World) : (ReflectliteType.relation "Implements" ReflectliteType.implements_ #[.agg #[.pointer (some ⟨1, 119, none⟩)], .iface 170 (.agg #[.pointer (some ⟨1, 115, none⟩)])]).run Tryz.prog w = .ok (.bool true) w := by kernel_rfl
theorem Tryz.typeOf25(v:Value)(w:World):(ReflectliteType.typeOf #[.iface 119 v]).run Tryz.prog w=.ok (.iface 170 (.agg #[.pointer (some ⟨1,119,none⟩)])) w:=by kernel_rfl
theorem Tryz.assignable25(w : World) : (ReflectliteType.relation "AssignableTo" ReflectliteType.assignableTo #[.agg #[.pointer (some ⟨1, 119, none⟩)], .iface 170 (.agg #[.pointer (some ⟨1, 119, none⟩)])]).run Tryz.prog w = .ok (.bool true) w := by kernel_rfl
theorem Tryz.valueOf25(e:ByteArray)(w:World):(ReflectliteValue.unpack (.iface 119 (.agg #[.string e]))).run Tryz.prog w
  = .ok (.agg #[.pointer (some ⟨1,119,none⟩),.pointer (some ⟨w.heap.size,0,none⟩),.int .u64 153]) (w.alloc (.cells #[.string e] 119)):=by kernel_rfl
theorem Tryz.elemOf27(w:World):(Rtype.elem? 121).run Tryz.prog w=.ok (some 119) w:=by kernel_rfl
theorem Tryz.mk25(p:Addr)(w:World):(ReflectliteValue.mk 119 p ReflectliteValue.flagAddr).run Tryz.prog w=.ok (.agg #[.pointer (some ⟨1,119,none⟩),.pointer (some p),.int .u64 409]) w:=by kernel_rfl
theorem Tryz.elemV27(a p:Addr)(W:World)(ha:W.cell? a=some (.pointer (some p))) :
  (ReflectliteValue.method (ReflectliteValue.valueError "reflectlite.Value.Elem" 0) ReflectliteValue.elem #[.agg #[.pointer (some ⟨1, 121, none⟩), .pointer (some a), .int .u64 150]]).run Tryz.prog W
   = .ok (.agg #[.pointer (some ⟨1,119,none⟩),.pointer (some p),.int .u64 409]) W:=by
 rw[rlm];simp only[Sem.run_bind,Tryz.parts27,Result.andThen];simp[ReflectliteValue.elem,loadVar,isAgg,underlying,Tryz.underlying121,ha,Result.andThen,Tryz.elemOf27,Tryz.mk25]
theorem rls(v x:Value):ReflectliteValue.set #[v,x]=(do
  let (some (dst,a,fl),some (src,b,_)):=(←ReflectliteValue.parts v,←ReflectliteValue.parts x)
   | unsupported (.noEntry "extern/(internal/reflectlite.Value).Set.zeroValue")
  if fl / ReflectliteValue.flagAddr % 2 == 0 then unsupported (.noEntry "extern/(internal/reflectlite.Value).Set.unaddressable")
  let val ←loadVar src b
  if ←Rtype.directlyAssignable dst src then storeVar dst a val
  else if ←Rtype.implements dst src then
   if (←Rtype.kind src)==20 then
    match val with
    | .nilIface => unsupported (.noEntry "extern/reflectlite: a nil value of one interface type handed on as a value of another")
    |_=>storeVar dst a val
   else storeVar dst a (.iface src val)
  else panicString ("reflectlite.Set: value of type " ++ (← Rtype.spelt src) ++ " is not assignable to type " ++ (← Rtype.spelt dst))
  pure (.tuple #[])):=rfl
theorem Tryz.parts25a(a:Addr)(w:World):(ReflectliteValue.parts (.agg #[.pointer (some ⟨1,119,none⟩),.pointer (some a),.int .u64 409])).run Tryz.prog w=.ok (some (119,a,409)) w:=by kernel_rfl
theorem Tryz.parts25(a:Addr)(w:World):(ReflectliteValue.parts (.agg #[.pointer (some ⟨1,119,none⟩),.pointer (some a),.int .u64 153])).run Tryz.prog w=.ok (some (119,a,153)) w:=by kernel_rfl
theorem Tryz.direct25(w:World):(Rtype.directlyAssignable 119 119).run Tryz.prog w=.ok true w:=by kernel_rfl
theorem Tryz.size25(w:World):(sizeOf 119).run Tryz.prog w=.ok 1 w:=by kernel_rfl
theorem Tryz.loadVar119{b:Addr}{e:ByteArray}{W:World}(hb:W.cell? b=some (.string e)):(loadVar 119 b).run Tryz.prog W=.ok (.agg #[.string e]) W:=by have hb':W.cell? { b with off:=b.off+0 }=some (.string e):=hb;simp[loadVar,isAgg,underlying,Tryz.underlying119,Tryz.size25,loadCells,loadCellsFrom,Addr.add,hb]
theorem Tryz.storeVar119{ta:Addr}{e:ByteArray}{old:Value}{W:World}(ht:W.cell? ta=some old)(hf:W.frozen? ta=false):(storeVar 119 ta (.agg #[.string e])).run Tryz.prog W=.ok () (W.setCell ta (.string e)):=by simp[storeVar,Tryz.size25,Value.cells,storeCells,Addr.add];rw[run_store Tryz.prog W ta _ _ (by rfl)];simp[ht,hf]
theorem Tryz.set25(ta b:Addr)(e:ByteArray)(old:Value)(W:World)(hb:W.cell? b=some (.string e))(ht:W.cell? ta=some old)(hf:W.frozen? ta=false) :
  (ReflectliteValue.set #[.agg #[.pointer (some ⟨1,119,none⟩),.pointer (some ta),.int .u64 409],.agg #[.pointer (some ⟨1,119,none⟩),.pointer (some b),.int .u64 153]]).run Tryz.prog W
   = .ok (.tuple #[]) (W.setCell ta (.string e)):=by
 rw[rls];simp only[Sem.run_bind,Tryz.parts25a,Tryz.parts25,Result.andThen];simp[ReflectliteValue.flagAddr,Tryz.loadVar119 hb,Result.andThen,Tryz.direct25,Tryz.storeVar119 ht hf]
set_option maxHeartbeats 4000000 in
theorem as_hit(e:ByteArray)(t:Addr)(old:Value)(w:World)(hg:w.cell? ⟨0,0,none⟩=some (.iface 170 (.agg #[.pointer (some ⟨1,115,none⟩)])))(ht0:w.cell? t=some old)(hf0:w.frozen? t=false) :
  Calls Tryz.prog 76 #[.iface 119 (.agg #[.string e]),.iface 121 (.pointer (some t))] w fun ev w'=>ev=.returned (.bool true)/\w'=((((w.alloc (.cells #[.pointer (some t)] 121)).alloc (.cells #[.pointer (some ⟨1,121,none⟩),.pointer (some ⟨w.heap.size,0,none⟩),.int .u64 150] 143)).alloc (.cells #[.pointer (some ⟨1,121,none⟩),.pointer (some ⟨w.heap.size,0,none⟩),.int .u64 150] 143)).alloc (.cells #[.string e] 119)).setCell t (.string e):=by
 have h6:=@run_callFunc_extern Tryz.prog 99 _ (fun args=>ReflectliteValue.unpack (args.getD 0 (.tuple #[]))) Tryz.func99 (by kernel_rfl) (by kernel_rfl) (by kernel_rfl) (by kernel_rfl);have h7 := @run_callFunc_extern Tryz.prog 100 _ (ReflectliteValue.methodAny (ReflectliteValue.valueError "reflectlite.Value.Type" 0) (fun t _ _ _ => ReflectliteType.toType t)) Tryz.func100 (by kernel_rfl) (by kernel_rfl) (by kernel_rfl) (by kernel_rfl);have h8 := @run_callFunc_extern Tryz.prog 101 _ (ReflectliteValue.method (ReflectliteValue.valueError "reflectlite.Value.IsNil" 0) ReflectliteValue.isNil) Tryz.func101 (by kernel_rfl) (by kernel_rfl) (by kernel_rfl) (by kernel_rfl);have h27:=@run_callFunc_extern Tryz.prog 163 _ (ReflectliteType.abiMethod fun t=>do pure (.int .u8 (←Rtype.kind t))) Tryz.func163 (by kernel_rfl) (by kernel_rfl) (by kernel_rfl) (by kernel_rfl);have h37:=@run_callFunc_extern Tryz.prog 175 _ (ReflectliteType.method ReflectliteType.elem) Tryz.func175 (by kernel_rfl) (by kernel_rfl) (by kernel_rfl) (by kernel_rfl);have h38 := @run_callFunc_extern Tryz.prog 176 _ (ReflectliteType.relation "Implements" ReflectliteType.implements_) Tryz.func176 (by kernel_rfl) (by kernel_rfl) (by kernel_rfl) (by kernel_rfl);have h10:=@run_callFunc_extern Tryz.prog 122 _ ReflectliteType.typeOf Tryz.func122 (by kernel_rfl) (by kernel_rfl) (by kernel_rfl) (by kernel_rfl);have h35 := @run_callFunc_extern Tryz.prog 173 _ (ReflectliteType.relation "AssignableTo" ReflectliteType.assignableTo) Tryz.func173 (by kernel_rfl) (by kernel_rfl) (by kernel_rfl) (by kernel_rfl);have h11 := @run_callFunc_extern Tryz.prog 123 _ (ReflectliteValue.method (ReflectliteValue.valueError "reflectlite.Value.Elem" 0) ReflectliteValue.elem) Tryz.func123 (by kernel_rfl) (by kernel_rfl) (by kernel_rfl) (by kernel_rfl);have h12:=@run_callFunc_extern Tryz.prog 124 _ ReflectliteValue.set Tryz.func124 (by kernel_rfl) (by kernel_rfl) (by kernel_rfl) (by kernel_rfl);have tO:=Tryz.typeOf25;have mA:=Tryz.methodAssignableTo;have a25:=Tryz.assignable25;have v25:=Tryz.valueOf25;have f6:=Tryz.valueOf27;have f7:=Tryz.type27;have mK:=Tryz.methodKind;have mE:=Tryz.methodElem;have mI:=Tryz.methodImplements;have k27:=Tryz.kind27;have k25:=Tryz.kind25;have e27:=Tryz.elem27;have i25:=Tryz.implements25;have n8:=Tryz.isNil27 ⟨w.heap.size,0,none⟩ t ((w.alloc (.cells #[.pointer (some t)] 121)).alloc (.cells #[.pointer (some ⟨1,121,none⟩),.pointer (some ⟨w.heap.size,0,none⟩),.int .u64 150] 143)) (by simp)
 have hlt:0<w.heap.size:=by
  rcases Nat.eq_zero_or_pos w.heap.size with h0|h
  ·simp[World.cell?,h0]at hg
  ·exact h
 have hg2:((w.alloc (.cells #[.pointer (some t)] 121)).alloc (.cells #[.pointer (some ⟨1,121,none⟩),.pointer (some ⟨w.heap.size,0,none⟩),.int .u64 150] 143)).cell? ⟨0,0,none⟩=some (.iface 170 (.agg #[.pointer (some ⟨1,115,none⟩)])):=by rw[World.cell?_alloc_lt _ _ ⟨0,0,none⟩ (by simp),World.cell?_alloc_lt _ _ ⟨0,0,none⟩ hlt];exact hg
 have htl:t.block<w.heap.size:=by
  rcases Nat.lt_or_ge t.block w.heap.size with h|h
  ·exact h
  ·simp[World.cell?,Array.getElem?_eq_none h]at ht0
 have el:=Tryz.elemV27 ⟨w.heap.size,0,none⟩ t (((w.alloc (.cells #[.pointer (some t)] 121)).alloc (.cells #[.pointer (some ⟨1,121,none⟩),.pointer (some ⟨w.heap.size,0,none⟩),.int .u64 150] 143)).alloc (.cells #[.pointer (some ⟨1,121,none⟩),.pointer (some ⟨w.heap.size,0,none⟩),.int .u64 150] 143)) (by rw[World.cell?_alloc_lt _ _ ⟨w.heap.size,0,none⟩ (by simp;omega)];simp)
 have st:=Tryz.set25 t ⟨w.heap.size+1+1+1,0,none⟩ e old ((((w.alloc (.cells #[.pointer (some t)] 121)).alloc (.cells #[.pointer (some ⟨1,121,none⟩),.pointer (some ⟨w.heap.size,0,none⟩),.int .u64 150] 143)).alloc (.cells #[.pointer (some ⟨1,121,none⟩),.pointer (some ⟨w.heap.size,0,none⟩),.int .u64 150] 143)).alloc (.cells #[.string e] 119))
  (by rw[World.cell?_alloc_at _ _ _ _ (by simp)];rfl)
  (by rw[World.cell?_alloc_lt _ _ t (by simp;omega),World.cell?_alloc_lt _ _ t (by simp;omega),World.cell?_alloc_lt _ _ t (by simp;omega),World.cell?_alloc_lt _ _ t htl];exact ht0)
  (by rw[World.frozen?_alloc_old _ _ t (by simp;omega),World.frozen?_alloc_old _ _ t (by simp;omega),World.frozen?_alloc_old _ _ t (by simp;omega),World.frozen?_alloc_old _ _ t (Nat.ne_of_lt htl)];exact hf0)
 go_enter Tryz.func76,Tryz.ntmps76
 go_wp2
 refine wp_loop_rounds 1 ?_;rw[rounds_succ]
 go_wp2
 go_ret
 exact⟨rfl,rfl⟩
end Go.Proofs.NaAs
namespace Go.Bm
open Go.Proofs Go.RowKit
theorem bl8 : Tryz.prog.globalNamed "errors.errorType" = some 0 := by kernel_rfl
theorem blx : (Tryz.prog.cutTypes.find? (·.1 == "internal/reflectlite.rtype")).map (·.2) = some 170 := by kernel_rfl
theorem bh9:((List.range 242).filter fun t=>Tryz.prog.rowNamed t [101,114,114,111,114])=[115]:=by kernel_rfl
theorem bhq:Tryz.prog.types.size=242:=by kernel_rfl
theorem bi0{A:Nat->Prop}{w:World}(h:ErrG Tryz.prog A w):w.cell? ⟨0,0,none⟩=some (.iface 170 (.agg #[.pointer (some ⟨1,115,none⟩)])):=by
 obtain⟨h1,rt,et,e2,e3,e4,e5⟩:=h 0 bl8;obtain rfl:=a20 (blx.symm.trans e2);have hm:et∈(List.range 242).filter fun t=>Tryz.prog.rowNamed t [101,114,114,111,114]:=a38.2 ⟨List.mem_range.2 (by rw[←bhq];exact e3),e4⟩;rw[bh9]at hm;obtain rfl:=a0x.1 hm;have hh:typeHandle Tryz.prog 115=.pointer (some ⟨1,115,none⟩):=by kernel_rfl
 rw[hh]at e5;exact e5
def prO:O:=(.pt (.p (.fz (.pt SchemaT)) (.p (.p (.fz (.int .i64)) (.p (.sl (.fz (.int .i64))) (.p (.sl (.fz (.int .i64))) (.p (.sl (.fz (.int .i64))) (.sl (.sl (.fz (.int .i64)))))))) (.p (.sl (.fz (.int .i64))) (.sl (.fz PathT))))))
theorem ba4{A:Nat->Prop}{w:World}{t:T}{us:List Value}{x:d3 [t]}(hr:ng A w [false] [t] x us):∃u,us=[u]:=by obtain⟨u,us',vs,rfl,_,_,_,h⟩:=hr;have h:us'=[]:=h;subst h;exact⟨u,rfl⟩
theorem bnl{A:Nat->Prop}{w:World}{u:Value}{x:d3 [T.pt SchemaT]}(hE:ErrG Tryz.prog A w)(hA:∀b,A b->b<w.heap.size)(hr:ng A w [false] [.pt SchemaT] x [u])(h1:sx x.1=true)(h2:bd x.1=true) :
  Calls Tryz.prog 75 #[u] w fun e w'=>∃v1 S,e=.returned (.tuple #[v1,.nilIface])/\Ext w w'/\(∀b,S b->w.heap.size<=b/\b<w'.heap.size)/\
   Rel (fun b=>b<w'.heap.size/\(true=true/\A b\/w.heap.size<=b)/\¬S b) w' prO (ci x.1) S [v1]:=by
 refine (zh.2.1 A w [u] x hE hA hr ⟨h1,h2,trivial⟩).mono ?_;rintro e w' ⟨rs,S,rfl,hext,hS,hres⟩;obtain⟨u1,us1,vs1,S1,S2,rfl,_,g2,s1,_,_,r1,r2⟩:=hres;obtain⟨u2,us2,vs2,S3,S4,rfl,_,g2',_,_,_,q1,q2⟩:=r2;have q2:us2=[]:=q2;subst q2;have g2:=g2 rfl;have g2':=g2' rfl;subst g2;subst g2';simp only[Rel,ah]at q1;have q1:(false=false/\[u2]=[Value.nilIface])\/∃s,false=true/\[u2]=[Value.iface 119 (.agg #[.string s])]:=q1
 have e2:u2=.nilIface:=by
  rcases q1 with⟨_,h⟩|⟨s,h,_⟩
  ·simpa using h
  ·cases h
 subst e2;exact⟨u1,S1,rfl,hext,fun b hb=>hS b (s1 b hb),Rel.keep (fun b hb=>⟨⟨hb.1,hb.2.1,fun h=>hb.2.2 (s1 b h)⟩,rfl⟩) _ _ _ _ (fun _ _=>rfl) r1⟩
theorem bms{A:Nat->Prop}{w:World}{u:Value}{x:d3 [T.pt SchemaT]}(hE:ErrG Tryz.prog A w)(hA:∀b,A b->b<w.heap.size)(hr:ng A w [false] [.pt SchemaT] x [u])(h1:sx x.1=false)(h2:bd x.1=true) :
  Calls Tryz.prog 75 #[u] w fun e w'=>∃v1 s,e=.returned (.tuple #[v1,.iface 119 (.agg #[.string s])])/\Ext w w':=by
 refine (zh.2.2 A w [u] x hE hA hr ⟨h1,h2,trivial⟩).mono ?_;rintro e w' ⟨rs,S,rfl,hext,hS,hres⟩;obtain⟨u1,us1,vs1,S1,S2,rfl,_,g2,s1,_,_,r1,r2⟩:=hres;obtain⟨u2,us2,vs2,S3,S4,rfl,_,g2',_,_,_,q1,q2⟩:=r2;have q2:us2=[]:=q2;subst q2;have g2':=g2' rfl;subst g2';simp only[Rel,ah]at q1;have q1:(true=false/\[u2]=[Value.nilIface])\/∃s,true=true/\[u2]=[Value.iface 119 (.agg #[.string s])]:=q1;rcases q1 with⟨h,_⟩|⟨s,_,h⟩
 ·cases h
 ·have e2:u2=.iface 119 (.agg #[.string s]):=by simpa using h
  subst e2;exact⟨u1,s,rfl,hext⟩
theorem aaa{w w':World}{o:Obj}(h:Ext w w'):Ext w (w'.alloc o):=by
 have hs:(w'.alloc o).heap=w'.heap.push o:=rfl;refine⟨h.os,⟨h.tape.1,h.tape.2⟩,h.output,?_,fun b hb=>?_⟩
 ·rw[hs,a4t];have:=h.size;omega
 ·rw[hs,Array.getElem?_push,ds (by have:=h.size;omega)];exact h.old b hb
theorem avv{w:World}{o:Obj}{b:Nat}(hb:b<w.heap.size):(w.alloc o).heap[b]? = w.heap[b]?:=by have hs:(w.alloc o).heap=w.heap.push o:=rfl;rw[hs,Array.getElem?_push,ds (by omega)]
theorem bmx:bt Tryz.prog 46 aj5:=by
 refine⟨tv (fn:=Tryz.f46) (c:=bf Tryz.f46) (by kernel_rfl) (by kernel_rfl) (by kernel_rfl),fun A w us x hE hA hr hp=>?_⟩;obtain⟨h1,h2,_⟩:=hp;obtain⟨u,rfl⟩:=ba4 hr;have hpres:=bnl hE hA hr h1 h2;show Calls Tryz.prog 46 #[u] w _
 go_enter Tryz.func46,Tryz.ntmps46
 go_wp2_with (first|(go_at_call 75;refine hpres.mono ?_;rintro e w' ⟨v1,S,rfl,hext,hS,hrel⟩)|(go_at_call 76;refine (NaAs.as_nil _ _).mono ?_;rintro e w' ⟨rfl,rfl⟩))
 go_ret2
 refine⟨[v1,.int .i64 0],S,rfl,aaa hext,fun b hb=>?_,?_⟩
 ·have:=hS b hb;have hs:(w'.alloc (.cells #[.string ByteArray.empty] 119)).heap.size=w'.heap.size+1:=by show (w'.heap.push _).size=_;rw[a4t]
  exact⟨this.1,by have:=this.2;exact a2a this (by show _<=(w'.heap.push _).size;rw[a4t];omega)⟩
 ·refine⟨v1,[.int .i64 0],[v1],S,fun _=>False,rfl,(fun h=>by cases h),fun _=>rfl,fun b hb=>hb,(fun b hb=>hb.elim),(fun b _ h=>h.elim),?_,.int .i64 0,[],[.int .i64 0],fun _=>False,fun _=>False,rfl,(fun h=>by cases h),fun _=>rfl,fun b hb=>hb,fun b hb=>hb,(fun b hb=>hb.elim),?_,rfl⟩
  ·refine Rel.keep (fun b hb=>⟨⟨?_,hb.2.1.elim (fun h=>.inl ⟨rfl,h.2⟩) .inr,hb.2.2⟩,avv hb.1⟩) _ _ _ _ (fun b hb=>avv (hS b hb).2) hrel;show _<(w'.heap.push _).size;rw[a4t];have:=hb.1;omega
  ·simp only[Rel,dg];have h:inK .i64 (0:Int):=by unfold inK;decide
   exact⟨rfl,h⟩
theorem bnm:bt Tryz.prog 46 aky:=by
 refine⟨tv (fn:=Tryz.f46) (c:=bf Tryz.f46) (by kernel_rfl) (by kernel_rfl) (by kernel_rfl),fun A w us x hE hA hr hp=>?_⟩;obtain⟨h1,h2,_⟩:=hp;obtain⟨u,rfl⟩:=ba4 hr;have hpres:=bms hE hA hr h1 h2;have hg:=bi0 hE;have h0:0<w.heap.size:=cell_lt hg;show Calls Tryz.prog 46 #[u] w _
 go_enter Tryz.func46,Tryz.ntmps46
 go_wp2_with (first|(go_at_call 75;refine hpres.mono ?_;rintro e w' ⟨v1,s,rfl,hext⟩)|(go_at_call 76;refine (NaAs.as_hit s _ (.string ⟨#[]⟩) _ ?_ ?_ ?_).mono ?_;rotate_left 3;rintro e w' ⟨rfl,rfl⟩))
 ·go_ret2
  refine⟨[.pointer none,.int .i64 3],fun _=>False,rfl,aaa (aaa (aaa (aaa (aaa hext)))),(fun b hb=>hb.elim),?_⟩;refine⟨.pointer none,[.int .i64 3],[.pointer none],fun _=>False,fun _=>False,rfl,(fun h=>by cases h),fun _=>rfl,fun b hb=>hb,fun b hb=>hb,(fun b hb=>hb.elim),?_,.int .i64 3,[],[.int .i64 3],fun _=>False,fun _=>False,rfl,(fun h=>by cases h),fun _=>rfl,fun b hb=>hb,fun b hb=>hb,(fun b hb=>hb.elim),?_,rfl⟩
  ·simp only[Rel,ah];exact⟨_,rfl,rfl⟩
  ·simp only[Rel,dg];have h:inK .i64 (3:Int):=by unfold inK;decide
   exact⟨rfl,h⟩
 ·have hs:=hext.size;rw[World.cell?_alloc_lt _ _ ⟨0,0,none⟩ (by show 0<w'.heap.size;omega),ave (hext.old 0 h0)];exact hg
 ·simp
 ·simp
theorem abp:bt Tryz.prog 46 ad5:=asi bmx bnm
def ae5(s:ac)(l:List ab):Bool:=l.all fun p=>ib s p
def v6(s:ac)(l:List ab):Bool:=bd s&&ae5 s l&&sx s
def zm(s:ac)(l:List ab):Int:=if (bd s&&ae5 s l)=true then 3 else 1
theorem bhm{s:ac}{l:List ab}(h:ae5 s l=true){i:Int}(i0:0<=i)(i1:i<l.length):ib s (l.getD i.toNat (0,[]))=true:=by unfold ae5 at h;rw[a1d]at h;exact h _ (ip l (0,[]) i0 i1)
def ro:Sp:=⟨[(.pt SchemaT),(.sl PathT)],[false,false],true,fun x=>v6 x.1 x.2.1,fun x=>[],[(false,(.pt (.p (.fz (.pt SchemaT)) (.p (.p (.fz (.int .i64)) (.p (.sl (.fz (.int .i64))) (.p (.sl (.fz (.int .i64))) (.p (.sl (.fz (.int .i64))) (.sl (.sl (.fz (.int .i64)))))))) (.p (.sl (.fz (.int .i64))) (.sl (.fz PathT))))))),(false,(.fz (.int .i64)))],fun x=>(ci x.1,0,()),[(false,(.fz .any)),(false,(.fz (.int .i64)))],fun x=>((),zm x.1 x.2.1,())⟩
def js:Ct:=o7 ro true
def jr:Ct:=o7 ro false
def agp:Ct:=spC ro
def abo:Ann:=(.s .n (.s .n (.s (.s .n (.l [(13,(.d (.int .i64)))] [] [0,11,12] .n)) .n)))
def aev:FuncId->Option Ct:=lkp [(78,jc),(45,dx),(46,ad5)]
def vf(s:ac)(list:List ab)(A:gx js.rt->Prop)(B:gx jr.rt->Prop):Prop:=(cnd (!(bd s)) (B ((),(1,()))) (bi (S:=bpq) (fun s1=>(fun next=>((inK .i64 s1.1.1)->(cnd (decide (s1.1.1<(list.length:Int))) ((0<=s1.1.1)/\((s1.1.1<(list.length:Int))/\(cnd (!(ib s (List.getD list s1.1.1.toNat (0,[])))) (B ((),(1,()))) ((inK .i64 (s1.1.1+1))/\(next (((s1.1.1+1),()),())))))) (cnd (sx s) (((sx s)=true)/\(((bd s)=true)/\(A ((ci s),(0,()))))) (((sx s)=false)/\(((bd s)=true)/\(B ((),(3,())))))))))) ((0,()),())))
def xh(s:ac)(list:List ab)(K:gx js.rt->Prop):Prop:=vf s list K (fun _=>False)
theorem ams(s:ac)(list:List ab)(hok:ae (okL js.args (s,list,())))(hpre:ae (js.pre (s,list,()))):xh s list (fun r=>r=js.res (s,list,())):=by
 simp only[js,o7,ro,okL,T.oks,T.ok,ap,ae,a0e,a0c,a0i]at hok hpre
 try dsimp only[T.den]at hok hpre
 unfold xh vf;have hs:v6 s list=true:=hpre;have hl:list.length<=140737488355328:=by simp only[cg]at hok;omega
 clear hok;unfold v6 at hs;rw[a0a,a0a]at hs;obtain⟨⟨hS,hA⟩,hP⟩:=hs;refine a8 (fun h=>by rw[hS]at h;cases h) (fun _=>?_);refine lk (n:=(list.length:Int)) (fun _=>True) (by omega) trivial ?_ ?_
 ·intro i next i0 i1 _ hn
  intros
  try dsimp only at hn⊢
  refine ao (fun _=>⟨i0,i1,a8 (fun h=>by rw[bhm hA i0 i1]at h;cases h) (fun _=>⟨by rw[al];(try dsimp only);omega,hn trivial⟩)⟩) (fun hx=>absurd i1 hx)
 intro next _
 intros
 try dsimp only
 refine ao (fun hx=>absurd hx (by omega)) (fun _=>?_);exact a8 (fun _=>⟨hP,hS,rfl⟩) (fun h=>by rw[hP]at h;cases h)
theorem alj:bt Tryz.prog 50 js:=cf (Φ:=aev) (ai aaf (ai si (ai abp aq))) bj (by kernel_rfl) (fn:=Tryz.f50) (c:=bf Tryz.f50) (by kernel_rfl) (by kernel_rfl) (by kernel_rfl) js rfl abo (cu [(9,1500)]) (by kernel_rfl) (by kernel_rfl) (by kernel_rfl) (by decide) (fun x K=>xh x.1 x.2.1 K) (fun _ _=>by kernel_rfl) (fun x h1 h2=>ams x.1 x.2.1 h1 h2)
def xr(s:ac)(list:List ab)(K:gx jr.rt->Prop):Prop:=vf s list (fun _=>False) K
theorem alq(s:ac)(list:List ab)(hok:ae (okL jr.args (s,list,())))(hpre:ae (jr.pre (s,list,()))):xr s list (fun r=>r=jr.res (s,list,())):=by
 simp only[jr,o7,ro,okL,T.oks,T.ok,ap,ae,a0e,a0c,a0i]at hok hpre
 try dsimp only[T.den]at hok hpre
 unfold xr vf;have hs:v6 s list=false:=hpre;have hl:list.length<=140737488355328:=by simp only[cg]at hok;omega
 clear hok hpre;unfold v6 at hs;have e1:∀n:Int,zm s list=n->((),n,())=((),zm s list,()):=fun n h=>by rw[h]
 refine a8 (fun h=>?_) (fun h=>?_)
 ·have h:bd s=false:=by simpa using h
  exact e1 1 (by unfold zm;rw[h];rfl)
 have hS:bd s=true:=by simpa using h
 refine lk (n:=(list.length:Int)) (fun i=>∀k:Int,0<=k->k<i->ib s (list.getD k.toNat (0,[]))=true) (by omega) (fun k k0 k1=>by omega) ?_ ?_
 ·intro i next i0 i1 ha hn
  intros
  try dsimp only at ha hn⊢
  refine ao (fun _=>⟨i0,i1,a8 (fun h=>?_) (fun h=>⟨by rw[al];(try dsimp only);omega,hn fun k k0 k1=>?_⟩)⟩) (fun hx=>absurd i1 hx)
  ·have h:ib s (list.getD i.toNat (0,[]))=false:=by simpa using h
   refine e1 1 ?_;unfold zm;rw[ds];rw[a0a];rintro⟨_,hA⟩;rw[bhm hA i0 i1]at h;cases h
  ·by_cases e:k=i
   ·subst e;simpa using h
   ·exact ha k k0 (by omega)
 intro next ha
 intros
 try dsimp only
 have hA:ae5 s list=true:=by unfold ae5;rw[a1d];intro p hp;obtain⟨k,hk,rfl⟩:=a2e hp;have:=ha (k:Int) (by omega) (by omega);rw[a0m,a0o,a0n hk]at this;exact this
 refine ao (fun hx=>absurd hx (by omega)) (fun _=>?_);rw[hS,hA,a1x,a1x]at hs;refine a8 (fun h=>by rw[hs]at h;cases h) (fun h=>⟨h,hS,e1 3 ?_⟩);unfold zm;rw[hS,hA];rfl
theorem alf:bt Tryz.prog 50 jr:=cf (Φ:=aev) (ai aaf (ai si (ai abp aq))) bj (by kernel_rfl) (fn:=Tryz.f50) (c:=bf Tryz.f50) (by kernel_rfl) (by kernel_rfl) (by kernel_rfl) jr rfl abo (cu [(9,1500)]) (by kernel_rfl) (by kernel_rfl) (by kernel_rfl) (by decide) (fun x K=>xr x.1 x.2.1 K) (fun _ _=>by kernel_rfl) (fun x h1 h2=>alq x.1 x.2.1 h1 h2)
theorem aod:bt Tryz.prog 50 agp:=asi alj alf
theorem ayb{c:bo}{ed:List Int}(S:ShapeP c):∀(es:List Int) (h:Int),0<=h->h<c.2.1.length->atb c ed h es->0<=ahm c ed h es/\ahm c ed h es<c.2.1.length
 |[],h,h0,h1,_=>⟨h0,h1⟩
 |e::r,h,h0,h1,hc=>by obtain⟨b1,b2,b3,b4⟩:=hc;have y:=S.yes h0 h1 b2.1 b2.2 b3;exact ayb S r _ y.1 y.2.1 b4
theorem baj{t:pi}{p:ab}(A:AroP t p):0<=dc t.1 t.2.2 p/\dc t.1 t.2.2 p<t.1.2.1.length:=by have hid:=A.s.idn A.p0 A.p1;exact ayb A.s _ _ hid.1 hid.2.1 A.c
theorem acg{s:ac}{p:ab}(h:ib s p=true):bd s=true/\(aw s p).2=true:=by unfold ib at h;rw[a0a]at h;exact h
theorem baz{s:ac}(hS:bd s=true)(hP:sx s=true){p:ab}(hp:(aw s p).2=true):AroP ((ci s).2.1,((ci s).2.2.2,(ci s).2.2.1)) p:=by unfold sx at hP;rw[a0a,a0a]at hP;have hc:=hP.2;unfold ym at hc;rw[a0a,a0a]at hc;exact amd (adw hS hP.1.1) hc.1.1 hp
theorem ba8{s:ac}{l:List ab}(h:v6 s l=true){p:ab}(hp:p∈l):AroP ((ci s).2.1,((ci s).2.2.2,(ci s).2.2.1)) p:=by unfold v6 ae5 at h;rw[a0a,a0a,a1d]at h;exact baz h.1.1 h.2 (acg (h.1.2 p hp)).2
theorem bmu{s:ac}{l:List ab}(h:(zm s l != 0)=false):False:=by unfold zm at h;split at h <;> simp at h
def ajv(s:ac)(p q:ab):Bool×Int:=if v6 s [p,q]=true then (dc (my s (pcR s)) (jw s (pcR s) s.2.1.length) p==dc (my s (pcR s)) (jw s (pcR s) s.2.1.length) q,0)else (false,zm s [p,q])
def gw:Ct:=⟨[SchemaT,PathT,PathT],[true,true,true],fun x=>[],[(false,(.fz .bool)),(false,(.fz (.int .i64)))],fun x=>((ajv x.1 x.2.1 x.2.2.1).1,(ajv x.1 x.2.1 x.2.2.1).2,()),false,none⟩
def aij:FuncId->Option Ct:=lkp [(53,iw),(51,fo),(50,agp)]
def vh(s:ac)(p:ab)(q:ab)(K:Bool×Int×Unit->Prop):Prop:=(cnd (v6 s (p::(q::([]:List bpm)))) (((v6 s (p::(q::([]:List bpm))))=true)/\(cnd ((0:Int) != 0) (K (false,(0,()))) ((AroP ((ci s).2.1,((ci s).2.2.2,(ci s).2.2.1)) p)/\((0<=(dc (ci s).2.1 (ci s).2.2.1 p))/\(((dc (ci s).2.1 (ci s).2.2.1 p)<(List.length (ci s).2.1.2.1:Int))/\(((dc (ci s).2.1 (ci s).2.2.1 p)<(List.length (ci s).2.1.2.2.1:Int))/\((AroP ((ci s).2.1,((ci s).2.2.2,(ci s).2.2.1)) q)/\((0<=(dc (ci s).2.1 (ci s).2.2.1 q))/\(((dc (ci s).2.1 (ci s).2.2.1 q)<(List.length (ci s).2.1.2.1:Int))/\(((dc (ci s).2.1 (ci s).2.2.1 q)<(List.length (ci s).2.1.2.2.1:Int))/\((((((List.getD (ci s).2.1.2.1 (Int.toNat (dc (ci s).2.1 (ci s).2.2.1 p)) 0)==(List.getD (ci s).2.1.2.1 (Int.toNat (dc (ci s).2.1 (ci s).2.2.1 q)) 0))&&((List.getD (ci s).2.1.2.2.1 (Int.toNat (dc (ci s).2.1 (ci s).2.2.1 p)) 0)==(List.getD (ci s).2.1.2.2.1 (Int.toNat (dc (ci s).2.1 (ci s).2.2.1 q)) 0)))=true)->(AroP ((ci s).2.1,((ci s).2.2.2,(ci s).2.2.1)) p))/\((((((List.getD (ci s).2.1.2.1 (Int.toNat (dc (ci s).2.1 (ci s).2.2.1 p)) 0)==(List.getD (ci s).2.1.2.1 (Int.toNat (dc (ci s).2.1 (ci s).2.2.1 q)) 0))&&((List.getD (ci s).2.1.2.2.1 (Int.toNat (dc (ci s).2.1 (ci s).2.2.1 p)) 0)==(List.getD (ci s).2.1.2.2.1 (Int.toNat (dc (ci s).2.1 (ci s).2.2.1 q)) 0)))=true)->(AroP ((ci s).2.1,((ci s).2.2.2,(ci s).2.2.1)) q))/\(K (((((List.getD (ci s).2.1.2.1 (Int.toNat (dc (ci s).2.1 (ci s).2.2.1 p)) 0)==(List.getD (ci s).2.1.2.1 (Int.toNat (dc (ci s).2.1 (ci s).2.2.1 q)) 0))&&((List.getD (ci s).2.1.2.2.1 (Int.toNat (dc (ci s).2.1 (ci s).2.2.1 p)) 0)==(List.getD (ci s).2.1.2.2.1 (Int.toNat (dc (ci s).2.1 (ci s).2.2.1 q)) 0)))&&((dc (ci s).2.1 (ci s).2.2.1 p)==(dc (ci s).2.1 (ci s).2.2.1 q))),(0,()))))))))))))))) (((v6 s (p::(q::([]:List bpm))))=false)/\(cnd ((zm s (p::(q::([]:List bpm)))) != 0) (K (false,((zm s (p::(q::([]:List bpm)))),()))) (False/\(False/\(False/\(False/\(False/\(False/\(False/\(False/\(False/\False))))))))))))
theorem akn(s:ac)(p:ab)(q:ab)(hok:ae (okL gw.args (s,p,q,())))(hpre:ae (gw.pre (s,p,q,()))):vh s p q (fun r=>r=gw.res (s,p,q,())):=by
 simp only[gw,okL,T.oks,T.ok,ap,ae,a0e,a0c,a0i]at hok hpre
 try dsimp only[T.den]at hok hpre
 unfold vh;clear hok hpre;refine a8 (fun h=>?_) (fun h=>⟨h,a8 (fun _=>?_) (fun h0=>(bmu h0).elim)⟩)
 ·have A:=ba8 h (p:=p) (by simp);have B:=ba8 h (p:=q) (by simp);have ra:=baj A;have rb:=baj B;have hl:(ci s).2.1.2.2.1.length=(ci s).2.1.2.1.length:=A.s.lt
  try dsimp only at ra rb
  refine⟨h,a8 (fun h0=>by cases h0) (fun _=>⟨A,ra.1,ra.2,by omega,B,rb.1,rb.2,by omega,fun _=>A,fun _=>B,?_⟩)⟩;simp only[gw,ajv];rw[d0 h];have e:(ci s).2.1=my s (pcR s):=rfl;have e2:(ci s).2.2.1=jw s (pcR s) s.2.1.length:=rfl;rw[e,e2];by_cases hq:dc (my s (pcR s)) (jw s (pcR s) s.2.1.length) p=dc (my s (pcR s)) (jw s (pcR s) s.2.1.length) q
  ·rw[hq];simp
  ·have:(dc (my s (pcR s)) (jw s (pcR s) s.2.1.length) p==dc (my s (pcR s)) (jw s (pcR s) s.2.1.length) q)=false:=a14.2 hq;rw[this,Bool.and_false]
 ·simp only[gw,ajv];rw[ds (by rw[h];decide)]
theorem ail:bt Tryz.prog 28 gw:=cf (Φ:=aij) (ai aad (ai yp (ai aod aq))) bj (by kernel_rfl) (fn:=Tryz.f28) (c:=bf Tryz.f28) (by kernel_rfl) (by kernel_rfl) (by kernel_rfl) gw rfl .n (cu [(1,1500),(4,21)]) (by kernel_rfl) (by kernel_rfl) (by kernel_rfl) (by decide) (fun x K=>vh x.1 x.2.1 x.2.2.1 K) (fun _ _=>by kernel_rfl) (fun x h1 h2=>akn x.1 x.2.1 x.2.2.1 h1 h2)
def jb:Ct:=⟨[(.sl (.int .i64)),(.sl (.int .i64))],[false,false],fun x=>[],[(false,(.fz .bool))],fun x=>(eqR (.sl (.int .i64)) x.1 x.2.1,()),false,none⟩
def ap7:Ann:=(.s .n (.s .n (.s (.s .n (.l [(5,(.d (.int .i64)))] [] [0,1] .n)) .n)))
def aau(a:List Int)(b:List Int)(K:Bool×Unit->Prop):Prop:=(cnd ((a.length:Int) != (b.length:Int)) (K (false,())) (bi (S:=bpq) (fun s=>(fun next=>((inK .i64 s.1.1)->(cnd (decide (s.1.1<(a.length:Int))) ((0<=s.1.1)/\((s.1.1<(a.length:Int))/\((0<=s.1.1)/\((s.1.1<(b.length:Int))/\(cnd ((a.getD s.1.1.toNat 0) != (b.getD s.1.1.toNat 0)) (K (false,())) ((inK .i64 (s.1.1+1))/\(next (((s.1.1+1),()),())))))))) (K (true,())))))) ((0,()),())))
theorem aq3(a:List Int)(b:List Int)(hok:ae (okL jb.args (a,b,())))(hpre:ae (jb.pre (a,b,()))):aau a b (fun r=>r=jb.res (a,b,())):=by
 simp only[jb,okL,T.oks,T.ok,ap,ae,a0e,a0c,a0i]at hok hpre
 try dsimp only[T.den]at hok hpre
 unfold aau;refine a8 (fun hc=>?_) (fun hc=>?_)
 ·simp only[jb,a0k,a0c];rw[ac1];rintro rfl;simp at hc
 have hl:a.length=b.length:=by simp at hc;omega
 refine bq (fun (s:bpq)=>0<=s.1.1/\s.1.1<=a.length/\a.take s.1.1.toNat=b.take s.1.1.toNat) (fun (s:bpq)=>(a.length-s.1.1).toNat) ?_ (by simp);rintro⟨⟨i,_⟩,_⟩ next ⟨h0,h1,h2⟩ hn hin
 simp only at h0 h1 h2 hn⊢;refine ao (fun hc=>?_) (fun hc=>?_)
 ·have ha:=mo a (0:Int) h0 hc;have hb:=mo b (0:Int) h0 (by omega);refine⟨by omega,by omega,by omega,by omega,a8 (fun hd=>?_) (fun hd=>?_)⟩
  ·simp only[jb,a0k,a0c];rw[ac1];rintro rfl;simp at hd
  ·refine⟨by grind[cnd,cg,al],hn _ ⟨(by first|omega|(dsimp only;omega)),(by first|omega|(dsimp only;omega)),?_⟩ (by first|omega|(dsimp only;omega))⟩;simp only[a2d,fe,a1j]at hd;simp only[ha,hb,h2,hd]
 ·rw[qw a (by omega),qw b (by omega)]at h2;simp[h2,jb]
theorem agn:bt Tryz.prog 12 jb:=cf (Φ:=lkp []) aq bj (by kernel_rfl) (fn:=Tryz.f12) (c:=bf Tryz.f12) (by kernel_rfl) (by kernel_rfl) (by kernel_rfl) jb rfl ap7 (cu [(6,9)]) (by kernel_rfl) (by kernel_rfl) (by kernel_rfl) (by decide) (fun x K=>aau x.1 x.2.1 K) (fun _ _=>by kernel_rfl) (fun x h1 h2=>aq3 x.1 x.2.1 h1 h2)
def m5:Ct:=⟨[PathT,PathT],[true,true],fun x=>[],[(false,(.fz .bool))],fun x=>(eqR PathT x.1 x.2.1,()),false,none⟩
def aep(a:ab)(b:ab)(K:Bool×Unit->Prop):Prop:=(cnd (a.1 != b.1) (K (false,())) (cnd (!(eqR (.sl (.int .i64)) a.2 b.2)) (K (false,())) (K (true,()))))
theorem av9(a:ab)(b:ab)(hok:ae (okL m5.args (a,b,())))(hpre:ae (m5.pre (a,b,()))):aep a b (fun r=>r=m5.res (a,b,())):=by
 simp only[m5,okL,T.oks,T.ok,ap,ae,a0e,a0c,a0i]at hok hpre
 try dsimp only[T.den]at hok hpre
 unfold aep;simp only[m5,bku,bar,ay6]
 grind[cnd,cg,al]
theorem ai9:bt Tryz.prog 26 m5:=cf (Φ:=lkp [(12,jb)]) (ai agn aq) bj (by kernel_rfl) (fn:=Tryz.f26) (c:=bf Tryz.f26) (by kernel_rfl) (by kernel_rfl) (by kernel_rfl) m5 rfl .n (cu []) (by kernel_rfl) (by kernel_rfl) (by kernel_rfl) (by decide) (fun x K=>aep x.1 x.2.1 K) (fun _ _=>by kernel_rfl) (fun x h1 h2=>av9 x.1 x.2.1 h1 h2)
def jz:Ct:=⟨[(.sl PathT),(.sl PathT)],[false,false],fun x=>[],[(false,(.fz .bool))],fun x=>(eqR (.sl PathT) x.1 x.2.1,()),false,none⟩
def aq9:Ann:=(.s .n (.s .n (.s (.s .n (.l [(5,(.d (.int .i64)))] [] [0,1] .n)) .n)))
def acd(a:List ab)(b:List ab)(K:Bool×Unit->Prop):Prop:=(cnd ((a.length:Int) != (b.length:Int)) (K (false,())) (bi (S:=bpq) (fun s=>(fun next=>((inK .i64 s.1.1)->(cnd (decide (s.1.1<(a.length:Int))) ((0<=s.1.1)/\((s.1.1<(a.length:Int))/\((0<=s.1.1)/\((s.1.1<(b.length:Int))/\(cnd (!(eqR PathT (a.getD s.1.1.toNat (0,[])) (b.getD s.1.1.toNat (0,[])))) (K (false,())) ((inK .i64 (s.1.1+1))/\(next (((s.1.1+1),()),())))))))) (K (true,())))))) ((0,()),())))
theorem atd(a:List ab)(b:List ab)(hok:ae (okL jz.args (a,b,())))(hpre:ae (jz.pre (a,b,()))):acd a b (fun r=>r=jz.res (a,b,())):=by
 simp only[jz,okL,T.oks,T.ok,ap,ae,a0e,a0c,a0i]at hok hpre
 try dsimp only[T.den]at hok hpre
 unfold acd;refine a8 (fun hc=>?_) (fun hc=>?_)
 ·simp only[jz,a0k,a0c];rw[ac1];rintro rfl;simp at hc
 have hl:a.length=b.length:=by simp at hc;omega
 refine bq (fun (s:bpq)=>0<=s.1.1/\s.1.1<=a.length/\a.take s.1.1.toNat=b.take s.1.1.toNat) (fun (s:bpq)=>(a.length-s.1.1).toNat) ?_ (by simp);rintro⟨⟨i,_⟩,_⟩ next ⟨h0,h1,h2⟩ hn hin
 simp only at h0 h1 h2 hn⊢;refine ao (fun hc=>?_) (fun hc=>?_)
 ·have ha:=mo a ((0:Int),([]:List Int)) h0 hc;have hb:=mo b ((0:Int),([]:List Int)) h0 (by omega);refine⟨by omega,by omega,by omega,by omega,a8 (fun hd=>?_) (fun hd=>?_)⟩
  ·simp only[jz,a0k,a0c];rw[ac1];rintro rfl;simp at hd
  ·refine⟨by grind[cnd,cg,al],hn _ ⟨(by first|omega|(dsimp only;omega)),(by first|omega|(dsimp only;omega)),?_⟩ (by first|omega|(dsimp only;omega))⟩;simp only[a2d,fe,a1j]at hd;simp only[ha,hb,h2,hd]
 ·rw[qw a (by omega),qw b (by omega)]at h2;simp[h2,jz]
theorem aru:bt Tryz.prog 13 jz:=cf (Φ:=lkp [(26,m5)]) (ai ai9 aq) bj (by kernel_rfl) (fn:=Tryz.f13) (c:=bf Tryz.f13) (by kernel_rfl) (by kernel_rfl) (by kernel_rfl) jz rfl aq9 (cu [(6,10)]) (by kernel_rfl) (by kernel_rfl) (by kernel_rfl) (by decide) (fun x K=>acd x.1 x.2.1 K) (fun _ _=>by kernel_rfl) (fun x h1 h2=>atd x.1 x.2.1 h1 h2)
def mi:Ct:=⟨[SchemaT,SchemaT],[true,true],fun x=>[],[(false,(.fz .bool))],fun x=>(eqR SchemaT x.1 x.2.1,()),false,none⟩
def aos:FuncId->Option Ct:=lkp [(12,jb),(13,jz)]
def abj(a:ac)(b:ac)(K:Bool×Unit->Prop):Prop:=(cnd (a.1 != b.1) (K (false,())) (cnd (!(eqR (.sl (.int .i64)) a.2.1 b.2.1)) (K (false,())) (cnd (!(eqR (.sl (.int .i64)) a.2.2.1 b.2.2.1)) (K (false,())) (cnd (!(eqR (.sl PathT) a.2.2.2.1 b.2.2.2.1)) (K (false,())) (cnd (!(eqR (.sl PathT) a.2.2.2.2 b.2.2.2.2)) (K (false,())) (K (true,())))))))
theorem aq7(a:ac)(b:ac)(hok:ae (okL mi.args (a,b,())))(hpre:ae (mi.pre (a,b,()))):abj a b (fun r=>r=mi.res (a,b,())):=by
 simp only[mi,okL,T.oks,T.ok,ap,ae,a0e,a0c,a0i]at hok hpre
 try dsimp only[T.den]at hok hpre
 unfold abj;simp only[mi,bku,bar,ay6]
 grind[cnd,cg,al]
theorem ao6:bt Tryz.prog 14 mi:=cf (Φ:=aos) (ai agn (ai aru aq)) bj (by kernel_rfl) (fn:=Tryz.f14) (c:=bf Tryz.f14) (by kernel_rfl) (by kernel_rfl) (by kernel_rfl) mi rfl .n (cu []) (by kernel_rfl) (by kernel_rfl) (by kernel_rfl) (by decide) (fun x K=>abj x.1 x.2.1 K) (fun _ _=>by kernel_rfl) (fun x h1 h2=>aq7 x.1 x.2.1 h1 h2)
def kr:Ct:=⟨[(.sl (.int .i64)),(.int .i64)],[false,false],fun x=>[-4611545280939032576<=x.2.1],[(false,(.fz (.int .i64)))],fun x=>(szR (wR (.sl (.int .i64)) x.1) x.2.1,()),false,none⟩
def aaw(a:List Int)(left:Int)(K:Int×Unit->Prop):Prop:=((inK .i64 (left-(a.length:Int)))/\(cnd (decide ((left-(a.length:Int))<0)) (K ((-1),())) (K ((left-(a.length:Int)),()))))
theorem ar0(a:List Int)(left:Int)(hok:ae (okL kr.args (a,left,())))(hpre:ae (kr.pre (a,left,()))):aaw a left (fun r=>r=kr.res (a,left,())):=by
 simp only[kr,okL,T.oks,T.ok,ap,ae,a0e,a0c,a0i]at hok hpre
 try dsimp only[T.den]at hok hpre
 unfold aaw;simp only[kr,bls]
 grind[cnd,cg,al,szR]
theorem afu:bt Tryz.prog 38 kr:=cf (Φ:=lkp []) aq bj (by kernel_rfl) (fn:=Tryz.f38) (c:=bf Tryz.f38) (by kernel_rfl) (by kernel_rfl) (by kernel_rfl) kr rfl .n (cu []) (by kernel_rfl) (by kernel_rfl) (by kernel_rfl) (by decide) (fun x K=>aaw x.1 x.2.1 K) (fun _ _=>by kernel_rfl) (fun x h1 h2=>ar0 x.1 x.2.1 h1 h2)
def m8:Ct:=⟨[PathT,(.int .i64)],[true,false],fun x=>[-4611545280939032576<=x.2.1],[(false,(.fz (.int .i64)))],fun x=>(szR (wR PathT x.1) x.2.1,()),false,none⟩
def aef(a:ab)(left:Int)(K:Int×Unit->Prop):Prop:=(((-4611545280939032576)<=left)/\(cnd (decide ((szR (wR (.sl (.int .i64)) a.2) left)<0)) (K ((-1),())) (K ((szR (wR (.sl (.int .i64)) a.2) left),()))))
theorem av3(a:ab)(left:Int)(hok:ae (okL m8.args (a,left,())))(hpre:ae (m8.pre (a,left,()))):aef a left (fun r=>r=m8.res (a,left,())):=by
 simp only[m8,okL,T.oks,T.ok,ap,ae,a0e,a0c,a0i]at hok hpre
 try dsimp only[T.den]at hok hpre
 unfold aef;simp only[m8,at5,aiy,afq,a1z,a3x]
 grind[cnd,cg,al,szR]
theorem ai3:bt Tryz.prog 22 m8:=cf (Φ:=lkp [(38,kr)]) (ai afu aq) bj (by kernel_rfl) (fn:=Tryz.f22) (c:=bf Tryz.f22) (by kernel_rfl) (by kernel_rfl) (by kernel_rfl) m8 rfl .n (cu []) (by kernel_rfl) (by kernel_rfl) (by kernel_rfl) (by decide) (fun x K=>aef x.1 x.2.1 K) (fun _ _=>by kernel_rfl) (fun x h1 h2=>av3 x.1 x.2.1 h1 h2)
def kf:Ct:=⟨[(.sl PathT),(.int .i64)],[false,false],fun x=>[-4611404543450677248<=x.2.1],[(false,(.fz (.int .i64)))],fun x=>(szR (wR (.sl PathT) x.1) x.2.1,()),false,none⟩
def aqk:Ann:=(.s .n (.s .n (.s .n (.s (.s .n (.l [(1,(.d (.int .i64))),(5,(.d (.int .i64)))] [] [0] .n)) .n))))
def abx(a:List ab)(left:Int)(K:Int×Unit->Prop):Prop:=((inK .i64 (left-(a.length:Int)))/\(cnd (decide ((left-(a.length:Int))<0)) (K ((-1),())) (bi (S:=bpu) (fun s=>(fun next=>((inK .i64 s.1.1)->((inK .i64 s.1.2.1)->(cnd (decide (s.1.2.1<(a.length:Int))) ((0<=s.1.2.1)/\((s.1.2.1<(a.length:Int))/\(((-4611545280939032576)<=s.1.1)/\(cnd (decide ((szR (wR PathT (a.getD s.1.2.1.toNat (0,[]))) s.1.1)<0)) (K ((-1),())) ((inK .i64 (s.1.2.1+1))/\(next (((szR (wR PathT (a.getD s.1.2.1.toNat (0,[]))) s.1.1),((s.1.2.1+1),())),()))))))) (K (s.1.1,()))))))) (((left-(a.length:Int)),(0,())),()))))
theorem aug(a:List ab)(left:Int)(hok:ae (okL kf.args (a,left,())))(hpre:ae (kf.pre (a,left,()))):abx a left (fun r=>r=kf.res (a,left,())):=by
 simp only[kf,okL,T.oks,T.ok,ap,ae,a0e,a0c,a0i]at hok hpre
 try dsimp only[T.den]at hok hpre
 unfold abx;have hr:=bgq (x:=a.length) (r:=(a.map (wR PathT)).sum) (l:=left);refine⟨by grind[cnd,cg,al],ao (fun hc=>?_) (fun hc=>?_)⟩
 ·simp only[kf];rw[aww,bgo (x:=a.length) (by omega)]
 replace hr:=hr (by omega);rw[bal (x:=a.length) (by omega)]at hr;refine bq (fun (s:bpu)=>0<=s.1.1/\0<=s.1.2.1/\s.1.2.1<=a.length/\szR (wR (.sl PathT) a) left=szR ((a.drop s.1.2.1.toNat).map (wR PathT)).sum s.1.1) (fun (s:bpu)=>(a.length-s.1.2.1).toNat) ?_ ⟨(by first|omega|(dsimp only;omega)),by simp,by simp,by rw[aww];simpa using hr⟩;rintro⟨⟨l,i,_⟩,_⟩ next ⟨h0,h1,h2,h3⟩ hn hin hl
 simp only at h0 h1 h2 h3 hn⊢;refine ao (fun hc=>?_) (fun hc=>?_)
 ·rw[nx a ((0:Int),([]:List Int)) h1 hc,a1h,List.sum_cons]at h3;refine⟨by omega,by omega,by omega,ao (fun hd=>?_) (fun hd=>?_)⟩
  ·rw[as0]at hd;rw[bgo hd]at h3;simp only[kf];rw[h3]
  ·rw[as0]at hd;rw[bgq hd]at h3;exact⟨by grind[cnd,cg,al],hn _ ⟨by simp only;rw[bal hd];omega,(by first|omega|(dsimp only;omega)),(by first|omega|(dsimp only;omega)),h3⟩ (by first|omega|(dsimp only;omega))⟩
 ·rw[qu a (by omega)]at h3;simp only[a2i,List.sum_nil]at h3;rw[bju h0]at h3;simp only[kf];rw[h3]
theorem arn:bt Tryz.prog 39 kf:=cf (Φ:=lkp [(22,m8)]) (ai ai3 aq) bj (by kernel_rfl) (fn:=Tryz.f39) (c:=bf Tryz.f39) (by kernel_rfl) (by kernel_rfl) (by kernel_rfl) kf rfl aqk (cu []) (by kernel_rfl) (by kernel_rfl) (by kernel_rfl) (by decide) (fun x K=>abx x.1 x.2.1 K) (fun _ _=>by kernel_rfl) (fun x h1 h2=>aug x.1 x.2.1 h1 h2)
def ml:Ct:=⟨[SchemaT,(.int .i64)],[true,false],fun x=>[-4611404543450677248<=x.2.1],[(false,(.fz (.int .i64)))],fun x=>(szR (wR SchemaT x.1) x.2.1,()),false,none⟩
def aqi:FuncId->Option Ct:=lkp [(38,kr),(39,kf)]
def aan(a:ac)(left:Int)(K:Int×Unit->Prop):Prop:=(((-4611545280939032576)<=left)/\(cnd (decide ((szR (wR (.sl (.int .i64)) a.2.1) left)<0)) (K ((-1),())) (((-4611545280939032576)<=(szR (wR (.sl (.int .i64)) a.2.1) left))/\(cnd (decide ((szR (wR (.sl (.int .i64)) a.2.2.1) (szR (wR (.sl (.int .i64)) a.2.1) left))<0)) (K ((-1),())) (((-4611404543450677248)<=(szR (wR (.sl (.int .i64)) a.2.2.1) (szR (wR (.sl (.int .i64)) a.2.1) left)))/\(cnd (decide ((szR (wR (.sl PathT) a.2.2.2.1) (szR (wR (.sl (.int .i64)) a.2.2.1) (szR (wR (.sl (.int .i64)) a.2.1) left)))<0)) (K ((-1),())) (((-4611404543450677248)<=(szR (wR (.sl PathT) a.2.2.2.1) (szR (wR (.sl (.int .i64)) a.2.2.1) (szR (wR (.sl (.int .i64)) a.2.1) left))))/\(cnd (decide ((szR (wR (.sl PathT) a.2.2.2.2) (szR (wR (.sl PathT) a.2.2.2.1) (szR (wR (.sl (.int .i64)) a.2.2.1) (szR (wR (.sl (.int .i64)) a.2.1) left))))<0)) (K ((-1),())) (K ((szR (wR (.sl PathT) a.2.2.2.2) (szR (wR (.sl PathT) a.2.2.2.1) (szR (wR (.sl (.int .i64)) a.2.2.1) (szR (wR (.sl (.int .i64)) a.2.1) left)))),()))))))))))
theorem aqu(a:ac)(left:Int)(hok:ae (okL ml.args (a,left,())))(hpre:ae (ml.pre (a,left,()))):aan a left (fun r=>r=ml.res (a,left,())):=by
 simp only[ml,okL,T.oks,T.ok,ap,ae,a0e,a0c,a0i]at hok hpre
 try dsimp only[T.den]at hok hpre
 unfold aan;simp only[ml,at5,aiy,afq,a1z,a3x]
 grind[cnd,cg,al,szR]
theorem apw:bt Tryz.prog 7 ml:=cf (Φ:=aqi) (ai afu (ai arn aq)) bj (by kernel_rfl) (fn:=Tryz.f7) (c:=bf Tryz.f7) (by kernel_rfl) (by kernel_rfl) (by kernel_rfl) ml rfl .n (cu []) (by kernel_rfl) (by kernel_rfl) (by kernel_rfl) (by decide) (fun x K=>aan x.1 x.2.1 K) (fun _ _=>by kernel_rfl) (fun x h1 h2=>aqu x.1 x.2.1 h1 h2)
def kp:Ct:=⟨[(.sl (.int .i64))],[false],fun x=>[wR (.sl (.int .i64)) x.1<=1099511627776],[(false,(.sl (.fz (.int .i64))))],fun x=>(x.1,()),false,none⟩
def aoy:Ann:=(.s .n (.s .n (.s (.s .n (.l [(3,(.ref 7 [])),(4,(.d (.int .i64)))] [(7,(.sl (.fz (.int .i64))))] [0] .n)) .n)))
def abg(a:List Int)(K:(List Int)×Unit->Prop):Prop:=((0<=(a.length:Int))/\(((a.length:Int)<=(a.length:Int))/\(((a.length:Int)<=((140737488355328:Nat):Int))/\((((a.length:Int)*((8:Nat):Int))<=((140737488355328:Nat):Int))/\(bi (S:=(bpn×bpp)) (fun s=>(fun next=>((inK .i64 s.1.2.1)->((T.ok (.sl (.int .i64)) s.2.1)->(cnd (decide (s.1.2.1<(a.length:Int))) ((0<=s.1.2.1)/\((s.1.2.1<(a.length:Int))/\((0<=s.1.2.1)/\((s.1.2.1<(s.2.1.length:Int))/\((inK .i64 (s.1.2.1+1))/\(next (((),((s.1.2.1+1),())),((List.set s.2.1 s.1.2.1.toNat (a.getD s.1.2.1.toNat 0)),())))))))) (K (s.2.1,()))))))) (((),(0,())),((List.replicate (Int.toNat (a.length:Int)) (0:Int)),())))))))
theorem aqx(a:List Int)(hok:ae (okL kp.args (a,())))(hpre:ae (kp.pre (a,()))):abg a (fun r=>r=kp.res (a,())):=by
 simp only[kp,okL,T.oks,T.ok,ap,ae,a0e,a0c,a0i]at hok hpre
 try dsimp only[T.den]at hok hpre
 unfold abg;rw[aww]at hpre;refine⟨by omega,by omega,by first|omega|(rw[cg];omega),by first|omega|(rw[cg];omega),?_⟩;refine bq (fun (s:(bpn×bpp))=>0<=s.1.2.1/\s.1.2.1<=a.length/\s.2.1.length=a.length/\s.2.1.take s.1.2.1.toNat=a.take s.1.2.1.toNat) (fun (s:(bpn×bpp))=>(a.length-s.1.2.1).toNat) ?_ (by simp);rintro⟨⟨_,i,_⟩,l,_⟩ next ⟨h0,h1,h2,h3⟩ hn hin hl
 simp only at h0 h1 h2 h3 hn⊢;refine ao (fun hc=>?_) (fun hc=>?_)
 ·refine⟨by omega,by omega,by omega,by omega,by grind[cnd,cg,al],hn _ ⟨(by first|omega|(dsimp only;omega)),(by first|omega|(dsimp only;omega)),by simp[h2],?_⟩ (by first|omega|(dsimp only;omega))⟩;simp only;rw[mo a (0:Int) h0 hc,←h3];exact az5 l h0 (by omega) _
 ·rw[qw a (by omega),qw l (by omega)]at h3;simp[h3,kp]
theorem agu:bt Tryz.prog 43 kp:=cf (Φ:=lkp []) aq bj (by kernel_rfl) (fn:=Tryz.f43) (c:=bf Tryz.f43) (by kernel_rfl) (by kernel_rfl) (by kernel_rfl) kp rfl aoy (cu []) (by kernel_rfl) (by kernel_rfl) (by kernel_rfl) (by decide) (fun x K=>abg x.1 K) (fun _ _=>by kernel_rfl) (fun x h1 h2=>aqx x.1 h1 h2)
def oz:Ct:=⟨[PathT],[true],fun x=>[wR PathT x.1<=1099511627776],[(true,awh)],fun x=>(x.1,()),false,none⟩
def aeu(a:ab)(K:ab×Unit->Prop):Prop:=(((wR (.sl (.int .i64)) a.2)<=1099511627776)/\(K (a,())))
theorem av4(a:ab)(hok:ae (okL oz.args (a,())))(hpre:ae (oz.pre (a,()))):aeu a (fun r=>r=oz.res (a,())):=by
 simp only[oz,okL,T.oks,T.ok,ap,ae,a0e,a0c,a0i]at hok hpre
 try dsimp only[T.den]at hok hpre
 unfold aeu;simp only[at5,aiy,afq]at hpre
 repeat' apply And.intro
 all_goals first|rfl|((try simp only[at5,aiy,afq]);omega)
theorem ait:bt Tryz.prog 24 oz:=cf (Φ:=lkp [(43,kp)]) (ai agu aq) bj (by kernel_rfl) (fn:=Tryz.f24) (c:=bf Tryz.f24) (by kernel_rfl) (by kernel_rfl) (by kernel_rfl) oz rfl .n (cu []) (by kernel_rfl) (by kernel_rfl) (by kernel_rfl) (by decide) (fun x K=>aeu x.1 K) (fun _ _=>by kernel_rfl) (fun x h1 h2=>av4 x.1 h1 h2)
def ni:Ct:=⟨[(.sl PathT)],[false],fun x=>[wR (.sl PathT) x.1<=1099511627776],[(false,(.sl awh))],fun x=>(x.1,()),false,none⟩
def asb:Ann:=(.s .n (.s .n (.s (.s .n (.l [(3,(.ref 7 [])),(4,(.d (.int .i64)))] [(7,(.sl (.p (.fz (.int .i64)) (.sl (.fz (.int .i64))))))] [0] .n)) .n)))
def abq(a:List ab)(K:(List ab)×Unit->Prop):Prop:=((0<=(a.length:Int))/\(((a.length:Int)<=(a.length:Int))/\(((a.length:Int)<=((nb:Nat):Int))/\((((a.length:Int)*((32:Nat):Int))<=((nb:Nat):Int))/\(bi (S:=bpo) (fun s=>(fun next=>((inK .i64 s.1.2.1)->((T.ok (.sl PathT) s.2.1)->(cnd (decide (s.1.2.1<(a.length:Int))) ((0<=s.1.2.1)/\((s.1.2.1<(a.length:Int))/\(((wR PathT (a.getD s.1.2.1.toNat (0,[])))<=1099511627776)/\((0<=s.1.2.1)/\((s.1.2.1<(s.2.1.length:Int))/\((inK .i64 (s.1.2.1+1))/\(next (((),((s.1.2.1+1),())),((List.set s.2.1 s.1.2.1.toNat (a.getD s.1.2.1.toNat (0,[]))),()))))))))) (K (s.2.1,()))))))) (((),(0,())),((List.replicate (Int.toNat (a.length:Int)) (0,[])),())))))))
theorem aun(a:List ab)(hok:ae (okL ni.args (a,())))(hpre:ae (ni.pre (a,()))):abq a (fun r=>r=ni.res (a,())):=by
 simp only[ni,okL,T.oks,T.ok,ap,ae,a0e,a0c,a0i]at hok hpre
 try dsimp only[T.den]at hok hpre
 unfold abq;rw[aww]at hpre;refine⟨by omega,by omega,by first|omega|(rw[cg];omega),by first|omega|(rw[cg];omega),?_⟩;refine bq (fun (s:bpo)=>0<=s.1.2.1/\s.1.2.1<=a.length/\s.2.1.length=a.length/\s.2.1.take s.1.2.1.toNat=a.take s.1.2.1.toNat) (fun (s:bpo)=>(a.length-s.1.2.1).toNat) ?_ (by simp);rintro⟨⟨_,i,_⟩,l,_⟩ next ⟨h0,h1,h2,h3⟩ hn hin hl
 simp only at h0 h1 h2 h3 hn⊢;refine ao (fun hc=>?_) (fun hc=>?_)
 ·have hm:=bny (e:=PathT) (ip a ((0:Int),([]:List Int)) h0 hc);refine⟨by omega,by omega,by omega,by omega,by omega,by grind[cnd,cg,al],hn _ ⟨(by first|omega|(dsimp only;omega)),(by first|omega|(dsimp only;omega)),by simp[h2],?_⟩ (by first|omega|(dsimp only;omega))⟩;simp only;rw[mo a ((0:Int),([]:List Int)) h0 hc,←h3];exact az5 l h0 (by omega) _
 ·rw[qw a (by omega),qw l (by omega)]at h3;simp[h3,ni]
theorem aq2:bt Tryz.prog 44 ni:=cf (Φ:=lkp [(24,oz)]) (ai ait aq) bj (by kernel_rfl) (fn:=Tryz.f44) (c:=bf Tryz.f44) (by kernel_rfl) (by kernel_rfl) (by kernel_rfl) ni rfl asb (cu []) (by kernel_rfl) (by kernel_rfl) (by kernel_rfl) (by decide) (fun x K=>abq x.1 K) (fun _ _=>by kernel_rfl) (fun x h1 h2=>aun x.1 h1 h2)
def om:Ct:=⟨[SchemaT],[true],fun x=>[wR SchemaT x.1<=1099511627776],[(true,bl4)],fun x=>(x.1,()),false,none⟩
def apc:FuncId->Option Ct:=lkp [(43,kp),(44,ni)]
def aak(a:ac)(K:ac×Unit->Prop):Prop:=(((wR (.sl (.int .i64)) a.2.1)<=1099511627776)/\(((wR (.sl (.int .i64)) a.2.2.1)<=1099511627776)/\(((wR (.sl PathT) a.2.2.2.1)<=1099511627776)/\(((wR (.sl PathT) a.2.2.2.2)<=1099511627776)/\(K (a,()))))))
theorem ar3(a:ac)(hok:ae (okL om.args (a,())))(hpre:ae (om.pre (a,()))):aak a (fun r=>r=om.res (a,())):=by
 simp only[om,okL,T.oks,T.ok,ap,ae,a0e,a0c,a0i]at hok hpre
 try dsimp only[T.den]at hok hpre
 unfold aak;simp only[at5,aiy,afq]at hpre
 repeat' apply And.intro
 all_goals first|rfl|((try simp only[at5,aiy,afq]);omega)
theorem aor:bt Tryz.prog 9 om:=cf (Φ:=apc) (ai agu (ai aq2 aq)) bj (by kernel_rfl) (fn:=Tryz.f9) (c:=bf Tryz.f9) (by kernel_rfl) (by kernel_rfl) (by kernel_rfl) om rfl .n (cu []) (by kernel_rfl) (by kernel_rfl) (by kernel_rfl) (by decide) (fun x K=>aak x.1 K) (fun _ _=>by kernel_rfl) (fun x h1 h2=>ar3 x.1 h1 h2)
def mj:Ct:=⟨[SchemaT,PathT],[true,true],fun x=>[],[(false,(.fz .bool))],fun x=>(ib x.1 x.2.1,()),false,none⟩
def ap6:FuncId->Option Ct:=lkp [(40,k8),(52,j8)]
def aa2(s:ac)(p:ab)(K:Bool×Unit->Prop):Prop:=((((bd s)=true)->((inK .i64 (s.1-1))/\(s.2.1.length<=s.2.2.1.length)))/\(K (((bd s)&&(aw s p).2),())))
theorem arc(s:ac)(p:ab)(hok:ae (okL mj.args (s,p,())))(hpre:ae (mj.pre (s,p,()))):aa2 s p (fun r=>r=mj.res (s,p,())):=by
 simp only[mj,okL,T.oks,T.ok,ap,ae,a0e,a0c,a0i]at hok hpre
 try dsimp only[T.den]at hok hpre
 unfold aa2;have:=@asa s
 grind[cnd,cg,al,mj,ib]
theorem ap0:bt Tryz.prog 48 mj:=cf (Φ:=ap6) (ai aov (ai aa8 aq)) bj (by kernel_rfl) (fn:=Tryz.f48) (c:=bf Tryz.f48) (by kernel_rfl) (by kernel_rfl) (by kernel_rfl) mj rfl .n (cu []) (by kernel_rfl) (by kernel_rfl) (by kernel_rfl) (by decide) (fun x K=>aa2 x.1 x.2.1 K) (fun _ _=>by kernel_rfl) (fun x h1 h2=>arc x.1 x.2.1 h1 h2)
def nr:Ct:=⟨[(.sl (.int .i64)),(.int .i64),(.int .i64)],[false,false,false],fun x=>[],[(false,(.fz .bool))],fun x=>((decide ((x.1.length:Int)=x.2.1)&&bm x.1 x.2.2.1),()),false,none⟩
def ab5(list:List Int)(length:Int)(objects:Int)(K:Bool×Unit->Prop):Prop:=(K ((((list.length:Int)==length)&&(bm list objects)),()))
theorem aul(list:List Int)(length:Int)(objects:Int)(hok:ae (okL nr.args (list,length,objects,())))(hpre:ae (nr.pre (list,length,objects,()))):ab5 list length objects (fun r=>r=nr.res (list,length,objects,())):=by
 simp only[nr,okL,T.oks,T.ok,ap,ae,a0e,a0c,a0i]at hok hpre
 try dsimp only[T.den]at hok hpre
 unfold ab5;have:((list.length:Int)==length)=decide ((list.length:Int)=length):=rfl;simp only[nr,this]
theorem ara:bt Tryz.prog 109 nr:=cf (Φ:=lkp [(65,jk)]) (ai yf aq) bj (by kernel_rfl) (fn:=Tryz.f109) (c:=bf Tryz.f109) (by kernel_rfl) (by kernel_rfl) (by kernel_rfl) nr rfl .n (cu []) (by kernel_rfl) (by kernel_rfl) (by kernel_rfl) (by decide) (fun x K=>ab5 x.1 x.2.1 x.2.2.1 K) (fun _ _=>by kernel_rfl) (fun x h1 h2=>aul x.1 x.2.1 x.2.2.1 h1 h2)
def j7:Ct:=⟨[gn],[true],fun x=>[],[(false,(.fz .bool))],fun x=>(zb x.1,()),false,none⟩
def ar4:Ann:=(.s .n (.s .n (.s .n (.s .n (.s (.s .n (.l [(4,(.d (.int .i64)))] [] [1,3] .n)) (.s (.s .n (.l [(5,(.d (.int .i64)))] [] [1,3] (.s .n (.s (.s .n (.s .n (.l [(6,(.d (.int .i64)))] [] [1,3,5] (.s .n (.s (.j [] [] [1,3,5,6] .n) .n))))) .n)))) .n))))))
def aq4:FuncId->Option Ct:=lkp [(64,mw),(65,jk),(109,nr)]
def acs(c:bo)(K:Bool×Unit->Prop):Prop:=(cnd (((((!(inR c.1 0 8))||(decide (40<(c.2.1.length:Int))))||(!((decide ((c.2.1.length:Int)=(c.2.1.length:Int)))&&(bm c.2.1 c.1))))||(!((decide ((c.2.2.1.length:Int)=(c.2.1.length:Int)))&&(bm c.2.2.1 c.1))))||((c.2.2.2.2.length:Int) != (c.2.1.length:Int))) (K (false,())) (cnd (((c.2.2.2.1.length:Int) != c.1)||(!(bm c.2.2.2.1 (c.2.1.length:Int)))) (K (false,())) (bi (S:=bpq) (fun s=>(fun next=>((inK .i64 s.1.1)->(cnd (decide (s.1.1<c.1)) ((0<=s.1.1)/\((s.1.1<(c.2.2.2.1.length:Int))/\((0<=(c.2.2.2.1.getD s.1.1.toNat 0))/\(((c.2.2.2.1.getD s.1.1.toNat 0)<(c.2.1.length:Int))/\(((((c.2.1.getD (Int.toNat (c.2.2.2.1.getD s.1.1.toNat 0)) 0) != s.1.1)=false)->((s.1.1<(c.2.2.2.1.length:Int))/\(0<=s.1.1)))/\(((((c.2.1.getD (Int.toNat (c.2.2.2.1.getD s.1.1.toNat 0)) 0) != s.1.1)=false)->(((c.2.2.2.1.getD s.1.1.toNat 0)<(c.2.2.1.length:Int))/\(0<=(c.2.2.2.1.getD s.1.1.toNat 0))))/\(cnd (((c.2.1.getD (Int.toNat (c.2.2.2.1.getD s.1.1.toNat 0)) 0) != s.1.1)||((c.2.2.1.getD (Int.toNat (c.2.2.2.1.getD s.1.1.toNat 0)) 0) != s.1.1)) (K (false,())) ((inK .i64 (s.1.1+1))/\(next (((s.1.1+1),()),())))))))))) (bi (S:=bpq) (fun s1=>(fun next1=>((inK .i64 s1.1.1)->(cnd (decide (s1.1.1<(c.2.1.length:Int))) ((0<=s1.1.1)/\((s1.1.1<(c.2.2.2.2.length:Int))/\(cnd ((List.length (c.2.2.2.2.getD s1.1.1.toNat []):Int) != (c.2.1.length:Int)) (K (false,())) (bi (S:=bpq) (fun s2=>(fun next2=>((inK .i64 s2.1.1)->(cnd (decide (s2.1.1<(c.2.1.length:Int))) (jd (S:=(Unit×Unit)) (fun s3=>((inK .i64 (s2.1.1+1))/\(next2 (((s2.1.1+1),()),())))) (fun k=>((0<=s1.1.1)/\((s1.1.1<(c.2.2.2.2.length:Int))/\((0<=s2.1.1)/\((s2.1.1<(List.length (c.2.2.2.2.getD s1.1.1.toNat []):Int))/\((0<=s1.1.1)/\((s1.1.1<(c.2.2.1.length:Int))/\((0<=s2.1.1)/\((s2.1.1<(c.2.1.length:Int))/\(cnd ((c.2.2.1.getD s1.1.1.toNat 0) != (c.2.1.getD s2.1.1.toNat 0)) (cnd ((List.getD (c.2.2.2.2.getD s1.1.1.toNat []) s2.1.1.toNat 0) != (-1)) (K (false,())) (k ((),()))) (((((decide ((List.getD (c.2.2.2.2.getD s1.1.1.toNat []) s2.1.1.toNat 0)<0))||(decide ((c.2.1.length:Int)<=(List.getD (c.2.2.2.2.getD s1.1.1.toNat []) s2.1.1.toNat 0))))=false)->(((List.getD (c.2.2.2.2.getD s1.1.1.toNat []) s2.1.1.toNat 0)<(c.2.1.length:Int))/\(0<=(List.getD (c.2.2.2.2.getD s1.1.1.toNat []) s2.1.1.toNat 0))))/\(((((decide ((List.getD (c.2.2.2.2.getD s1.1.1.toNat []) s2.1.1.toNat 0)<0))||(decide ((c.2.1.length:Int)<=(List.getD (c.2.2.2.2.getD s1.1.1.toNat []) s2.1.1.toNat 0))))=false)->((s1.1.1<(c.2.1.length:Int))/\(0<=s1.1.1)))/\((((((decide ((List.getD (c.2.2.2.2.getD s1.1.1.toNat []) s2.1.1.toNat 0)<0))||(decide ((c.2.1.length:Int)<=(List.getD (c.2.2.2.2.getD s1.1.1.toNat []) s2.1.1.toNat 0))))||((c.2.1.getD (Int.toNat (List.getD (c.2.2.2.2.getD s1.1.1.toNat []) s2.1.1.toNat 0)) 0) != (c.2.1.getD s1.1.1.toNat 0)))=false)->(((List.getD (c.2.2.2.2.getD s1.1.1.toNat []) s2.1.1.toNat 0)<(c.2.2.1.length:Int))/\(0<=(List.getD (c.2.2.2.2.getD s1.1.1.toNat []) s2.1.1.toNat 0))))/\((((((decide ((List.getD (c.2.2.2.2.getD s1.1.1.toNat []) s2.1.1.toNat 0)<0))||(decide ((c.2.1.length:Int)<=(List.getD (c.2.2.2.2.getD s1.1.1.toNat []) s2.1.1.toNat 0))))||((c.2.1.getD (Int.toNat (List.getD (c.2.2.2.2.getD s1.1.1.toNat []) s2.1.1.toNat 0)) 0) != (c.2.1.getD s1.1.1.toNat 0)))=false)->((s2.1.1<(c.2.2.1.length:Int))/\(0<=s2.1.1)))/\(cnd ((((decide ((List.getD (c.2.2.2.2.getD s1.1.1.toNat []) s2.1.1.toNat 0)<0))||(decide ((c.2.1.length:Int)<=(List.getD (c.2.2.2.2.getD s1.1.1.toNat []) s2.1.1.toNat 0))))||((c.2.1.getD (Int.toNat (List.getD (c.2.2.2.2.getD s1.1.1.toNat []) s2.1.1.toNat 0)) 0) != (c.2.1.getD s1.1.1.toNat 0)))||((c.2.2.1.getD (Int.toNat (List.getD (c.2.2.2.2.getD s1.1.1.toNat []) s2.1.1.toNat 0)) 0) != (c.2.2.1.getD s2.1.1.toNat 0))) (K (false,())) (k ((),())))))))))))))))))) ((inK .i64 (s1.1.1+1))/\(next1 (((s1.1.1+1),()),()))))))) ((0,()),()))))) (K (true,())))))) ((0,()),())))))) ((0,()),()))))
theorem atg(c:bo)(hok:ae (okL j7.args (c,())))(hpre:ae (j7.pre (c,()))):acs c (fun r=>r=j7.res (c,())):=by
 simp only[j7,okL,T.oks,T.ok,ap,ae,a0e,a0c,a0i]at hok hpre
 try dsimp only[T.den]at hok hpre
 unfold acs;have bad:¬ShapeP c->(false,())=j7.res (c,()):=fun h=>by simp only[j7];rw[am8 h]
 refine a8 (fun hc=>bad fun h=>?_) (fun hc=>a8 (fun hd=>bad fun h=>?_) (fun hd=>?_))
 ·have h1:=h.ob;have h2:=h.m;have h3:=h.lt;have h4:=h.fr;have h5:=h.to;have h6:=h.lc;simp only[inR]at hc;grind[cnd,cg,al]
 ·have h1:=h.li;have h2:=h.ids;grind[cnd,cg,al]
 simp only[inR,a18,a2d,a0a,a04,a2j,a1j]at hc hd;obtain⟨⟨⟨⟨hob,hm⟩,_,hfr⟩,hlt,hto⟩,hlc⟩:=hc;obtain⟨hli,hids⟩:=hd;refine lk (n:=c.1) (fun x=>∀y:Int,0<=y->y<x->c.2.1.getD (c.2.2.2.1.getD y.toNat 0).toNat 0=y/\c.2.2.1.getD (c.2.2.2.1.getD y.toNat 0).toNat 0=y) (by omega) (by intro y h0 h1;omega) ?_ ?_
 ·intro x next h0 h1 hP hn hin
  have hb:=kv.1 hids x h0 (by omega)
  try dsimp only
  refine ao (fun _=>⟨h0,by omega,hb.1,hb.2,fun _=>by omega,fun _=>by omega,a8 (fun hx=>bad fun h=>?_) (fun hx=>?_)⟩) (fun h=>absurd h1 h)
  ·have:=h.idt x h0 (by omega);rw[this.1,this.2]at hx;simp at hx
  ·simp only[a18,a1j]at hx;refine⟨by rw[al];(try dsimp only);omega,hn fun y y0 y1=>?_⟩;by_cases e:y=x
   ·rw[e];exact hx
   ·exact hP y y0 (by omega)
 intro next hidt hin
 refine ao (fun h=>absurd h (by dsimp only;omega)) (fun _=>?_);refine lk (n:=c.2.1.length) (fun f=>∀f':Int,0<=f'->f'<f->(c.2.2.2.2.getD f'.toNat []).length=c.2.1.length/\∀g:Int,0<=g->g<c.2.1.length->uc c f' g=true) (by omega) (by intro y h0 h1;omega) ?_ ?_
 ·intro f next h0 h1 hP hn hin
  try dsimp only
  refine ao (fun _=>⟨h0,by omega,a8 (fun hx=>bad fun h=>?_) (fun hx=>?_)⟩) (fun h=>absurd h1 h)
  ·have:=h.row f h0 (by omega);rw[this]at hx;simp at hx
  simp only[a1j]at hx;refine lk (n:=c.2.1.length) (fun g=>∀g':Int,0<=g'->g'<g->uc c f g'=true) (by omega) (by intro y h0 h1;omega) ?_ ?_
  ·intro g next3 g0 g1 hP3 hn3 hin3
   try dsimp only
   refine ao (fun _=>?_) (fun h=>absurd g1 h);refine g8 (fun _=>uc c f g=true) (fun _ hcell=>⟨by rw[al];(try dsimp only);omega,hn3 fun g' y0 y1=>?_⟩) (fun k hk=>?_)
   ·by_cases e:g'=g
    ·rw[e];exact hcell
    ·exact hP3 g' y0 (by omega)
   have hcell:∀b,uc c f g=b->b=false->¬ShapeP c:=fun b h1 h2 h=>by have:=h.cell f g h0 (by omega) g0 (by omega);rw[h1,h2]at this;cases this
   have hk':=hk ((),());obtain⟨v,hv⟩:∃v,(c.2.2.2.2.getD f.toNat []).getD g.toNat 0=v:=⟨_,rfl⟩;have hR:uc c f g=ya c f g v:=by unfold uc gj;rw[hv]
   rw[hR]at hk';rw[hR]at hcell;rw[hv];clear hP3 hn3 hP hn hk hR hv hidt hok;refine⟨h0,by omega,g0,by omega,h0,by omega,g0,by omega,a8 (fun ha=>a8 (fun hb=>bad ?_) (fun hb=>hk' ?_)) (fun ha=>⟨fun hv=>?_,fun _=>⟨by omega,h0⟩,fun hv=>?_,fun _=>⟨by omega,g0⟩,a8 (fun hb=>bad ?_) (fun hb=>hk' ?_)⟩)⟩
   ·exact hcell _ rfl (by grind[cnd,cg,al,ya])
   ·grind[cnd,cg,al,ya]
   ·simp only[a18,a2j]at hv;omega
   ·simp only[a18,a2j]at hv;omega
   ·exact hcell _ rfl (by grind[cnd,cg,al,ya])
   ·grind[cnd,cg,al,ya]
  ·intro next3 hP3 hin3;refine ao (fun h=>absurd h (by dsimp only;omega)) (fun _=>⟨by rw[al];(try dsimp only);omega,hn fun f' y0 y1=>?_⟩);by_cases e:f'=f
   ·rw[e];exact⟨by omega,fun g g0 g1=>hP3 g g0 (by omega)⟩
   ·exact hP f' y0 (by omega)
 ·intro next2 hP2 hin2;refine ao (fun h=>absurd h (by dsimp only;omega)) (fun _=>?_);simp only[j7];rw[bcl ⟨hob,by omega,by omega,hfr,hto,by omega,hids,by omega,fun x a b=>hidt x a (by omega),fun f a b=>(hP2 f a (by omega)).1,fun f g a b d e=>(hP2 f a (by omega)).2 g d e⟩]
theorem asu:bt Tryz.prog 89 j7:=cf (Φ:=aq4) (ai aeg (ai yf (ai ara aq))) bj (by kernel_rfl) (fn:=Tryz.f89) (c:=bf Tryz.f89) (by kernel_rfl) (by kernel_rfl) (by kernel_rfl) j7 rfl ar4 (cu [(20,11),(23,33),(9,24)]) (by kernel_rfl) (by kernel_rfl) (by kernel_rfl) (by decide) (fun x K=>acs x.1 K) (fun _ _=>by kernel_rfl) (fun x h1 h2=>atg x.1 h1 h2)
end Go.Bm
