/- What the functions that FnExactPathArrow reaches give: for each its contract, what it asks, and the proof. No condition. -/
import Derived.Test.YtgcfmnhbleipdaaGreatDoorFnExactPathArrowFnsA
namespace Go.Bm
open Go.Proofs
set_option maxRecDepth 100000
set_option maxHeartbeats 1000000
set_option linter.unusedVariables false
set_option linter.unusedSimpArgs false
abbrev a44:=@List.pairwise_append
abbrev a47:=@List.pairwise_singleton
abbrev a4t:=@Array.size_push
theorem pi(s:ab):∀(nd:Int) (a b:List Int),bf s nd (a++b)=if (bf s nd a).2=true then bf s (bf s nd a).1 b else (0,false)
 |nd,[],b=>by simp only[a2u,bf,a03]
 |nd,e::r,b=>by
  simp only[a2p,bf];split
  ·exact pi s _ r b
  ·simp
theorem bdn{s:ab}{nd:Int}{a m m' b:List Int}(h:(bf s nd (a++m++b)).2=true)(hm:(bf s (bf s nd a).1 m').2=true)(he:(bf s (bf s nd a).1 m').1=(bf s (bf s nd a).1 m).1) :
  bf s nd (a++m'++b)=bf s nd (a++m++b):=by
 rw[pi,pi]at h⊢;rw[pi s nd (a++m) b,pi s nd a m];by_cases h1:(bf s nd a).2=true
 ·rw[d0 h1]at h⊢;rw[d0 h1];by_cases h2:(bf s (bf s nd a).1 m).2=true
  ·rw[d0 h2,d0 hm,he]
  ·rw[ds h2]at h;cases h
 ·rw[ds h1]at h;rw[ds (by simp)]at h;cases h
theorem iv{s:ab}{p:ac}(h:(aw s p).2=true):inR p.1 0 (s.1-1)=true/\p.2.length<=6/\aw s p=bf s p.1 p.2:=by
 unfold aw at h⊢;split at h
 ·rename_i hc;rw[d0 hc];exact⟨hc.1,hc.2,rfl⟩
 ·cases h
theorem ai5{s:ab}{p:ac}(h1:inR p.1 0 (s.1-1)=true)(h2:p.2.length<=6):aw s p=bf s p.1 p.2:=by unfold aw;rw[d0 ⟨h1,h2⟩]
structure EqnP (s:ab) (l r:ac):Prop where
 l2:(aw s l).2=true
 r2:(aw s r).2=true
 st:l.1=r.1
 en:(aw s l).1=(aw s r).1
theorem t6{s:ab}:∀{a b:List ac},u7 s a b=true->∀{i:Int},0<=i->i<a.length->i<b.length->EqnP s (a.getD i.toNat (0,[])) (b.getD i.toNat (0,[]))
 |[],_,_,i,h0,h1,_=>by simp at h1;omega
 |_::_,[],_,i,h0,_,h1=>by simp at h1;omega
 |p::l,q::r,h,i,h0,h1,h2=>by
  simp only[u7,bcv,a0a,a04]at h;obtain⟨⟨⟨⟨a1,a2⟩,a3⟩,a4⟩,hr⟩:=h;by_cases e:i=0
  ·subst e;exact⟨a1,a2,a3,a4⟩
  ·have e1:i.toNat=(i-1).toNat+1:=by omega
   simp only[a0l]at h1 h2;have:=t6 hr (i:=i-1) (by omega) (by omega) (by omega);rw[e1];simpa using this
theorem mr{s:ab}(h:az s=true):0<=s.1/\s.1<=8/\s.2.1.length<=8/\s.2.2.1.length=s.2.1.length/\bh s.2.1 s.1=true/\bh s.2.2.1 s.1=true/\s.2.2.2.1.length<=8/\s.2.2.2.2.length=s.2.2.2.1.length/\u7 s s.2.2.2.1 s.2.2.2.2=true:=by unfold az at h;simp only[a0a,a04]at h;obtain⟨⟨⟨⟨⟨⟨⟨h1,h2⟩,h3⟩,h4⟩,h5⟩,h6⟩,h7⟩,h8⟩:=h;obtain⟨h1,h1'⟩:=ov.1 h1;exact⟨h1,h1',h2,h3,h4,h5,h6,h7,h8⟩
theorem bci{s:ab}{p:ac}(h:(bf s p.1 p.2).2=true){i:Int}(i0:0<=i)(i1:i<=p.2.length):(bf s p.1 (p.2.take i.toNat)).2=true/\afg s p i=(bf s p.1 (p.2.take i.toNat)).1:=by
 have h2:(bf s p.1 (p.2.take i.toNat)).2=true:=by
  have e:=a10 i.toNat p.2;rw[←e,pi]at h;by_cases hh:(bf s p.1 (p.2.take i.toNat)).2=true
  ·exact hh
  ·rw[ds hh]at h;cases h
 refine⟨h2,?_⟩;rw[ah4 s _ _ h2,a1c];unfold afg;by_cases e:i=0
 ·subst e;simp
 ·rw[ds e,ds (by omega)];have:(p.2.take i.toNat).getD (min i.toNat p.2.length-1) 0=p.2.getD (i-1).toNat 0:=by rw[show min i.toNat p.2.length-1=(i-1).toNat from by omega];simp only[a0o];rw[a2z (by omega)]
  rw[this]
theorem aiu{s:ab}{p l r:ac}(hp:(aw s p).2=true)(E:EqnP s l r){i:Int}(i0:0<=i)(i1:i<=p.2.length)(hh:zt s p l i=true)(h6:(pp p l r i).length<=6) :
  (aw s (p.1,pp p l r i)).2=true/\(aw s (p.1,pp p l r i)).1=(aw s p).1:=by
 obtain⟨a1,a2,a3⟩:=iv hp;rw[a3]at hp;unfold zt at hh;simp only[a0a,a04,a0s,ff]at hh;obtain⟨⟨h1,h2⟩,h3⟩:=hh;obtain⟨n1,n2⟩:=bci hp i0 i1;obtain⟨_,_,l3⟩:=iv E.l2;obtain⟨_,_,r3⟩:=iv E.r2
 have hsplit:p.2=p.2.take i.toNat++l.2++p.2.drop (i+l.2.length).toNat:=by
  have e1:p.2.take (i+l.2.length).toNat=p.2.take i.toNat++l.2:=by have:=a10 i.toNat (p.2.take (i+l.2.length).toNat);rw[h3,List.take_take,a3w (by omega)]at this;exact this.symm
  rw[←e1,a10]
 have hl2:=E.l2;have hr2:=E.r2;have hen:=E.en;rw[l3]at hl2 hen;rw[r3]at hr2 hen;rw[←E.st,←h1,n2]at hr2 hen;rw[←h1,n2]at hl2;have key:bf s p.1 (pp p l r i)=bf s p.1 p.2:=by have:=bdn (s:=s) (nd:=p.1) (a:=p.2.take i.toNat) (m:=l.2) (m':=r.2) (b:=p.2.drop (i+l.2.length).toNat) (by rw[←hsplit];exact hp) hr2 hen.symm;rw[←hsplit]at this;exact this
 rw[ai5 (p:=(p.1,pp p l r i)) a1 h6,a3];dsimp only;rw[key];exact⟨hp,rfl⟩
theorem asl{α:Type}{f:Int->α}{R:α->α->Prop}:∀{n:Nat},(∀i j:Int,0<=i->i<j->j<n->R (f i) (f j))->(dv n f).Pairwise R
 |0,_=>by simp only[dv];exact List.Pairwise.nil
 |n+1,h=>by unfold dv;rw[a44];refine⟨asl fun i j h0 h1 h2=>h i j h0 h1 (by omega),a47 _ _,fun a ha b hb=>?_⟩;rw[a0x]at hb;obtain⟨i,i0,i1,rfl⟩:=ph.1 ha;rw[hb];exact h i n i0 i1 (by omega)
structure GroP (s:ab) (k:Nat) (l:List ac):Prop where
 nd:l.Nodup
 le:l.length<=400
 cl:∀j,j<k->(l.getD j (0,[])).2.length≠6->∀q∈io s (l.getD j (0,[])) s.2.1.length,q∈l
 pa:∀q∈l,q.2≠[]->∃j,j<k/\l.getD j (0,[])=(q.1,q.2.dropLast)
 ok:∀q∈l,(aw s q).2=true
theorem bem{s:ab}{p:ac}{n:Nat}:(io s p n).Nodup:=by unfold io List.Nodup;rw[a4q];refine List.Pairwise.filter _ (asl fun i j _ h _ e=>?_);have:=congrArg Prod.snd e;simp only[List.append_cancel_left_eq,a0h,a0c]at this;omega
theorem ae7{l r:List ac}{j:Nat}(h:j<l.length):(l++r).getD j (0,[])=l.getD j (0,[]):=by simp only[a0o];rw[a1e h]
theorem ae6{l:List ac}(h:l.Nodup){i j:Nat}(hi:i<l.length)(hj:j<l.length)(e:l.getD i (0,[])=l.getD j (0,[])):i=j:=by simp only[a0o,a0n hi,a0n hj,a02]at e;exact (List.getElem_inj h).1 e
theorem qa{l:List ac}{p:ac}(h:p∈l):∃i,i<l.length/\l.getD i (0,[])=p:=by obtain⟨i,hi,e⟩:=a2e h;exact⟨i,hi,by simp only[a0o,a0n hi,a02];exact e⟩
theorem ja{l:List ac}{i:Nat}(h:i<l.length):l.getD i (0,[])∈l:=by simp only[a0o,a0n h,a02];exact a27 h
theorem bn1{s:ab}{k:Nat}{l:List ac}(G:GroP s k l)(h6:(l.getD k (0,[])).2.length=6):GroP s (k+1) l:={
 nd:=G.nd
 le:=G.le
 cl:=fun j hj h q hq=>by
  by_cases e:j=k
  ·subst e;exact absurd h6 h
  ·exact G.cl j (by omega) h q hq
 pa:=fun q hq h=>by obtain⟨j,h1,h2⟩:=G.pa q hq h;exact⟨j,by omega,h2⟩
 ok:=G.ok }
theorem auc{s:ab}{p q:ac}{n:Nat}:q∈io s p n<->∃e:Int,0<=e/\e<n/\s.2.1.getD e.toNat 0=gu s p/\q=(p.1,p.2++[e]):=by
 unfold io;rw[a2c];constructor
 ·rintro⟨e,he,rfl⟩;obtain⟨he,hb⟩:=a38.1 he;obtain⟨_,h0,h1,rfl⟩:=ph.1 he;exact⟨_,h0,h1,a1s hb,rfl⟩
 ·rintro⟨e,h0,h1,h2,rfl⟩;exact⟨e,a38.2 ⟨ph.2 ⟨e,h0,h1,rfl⟩,a0s.2 h2⟩,rfl⟩
theorem bot{s:ab}{k:Nat}{l:List ac}(G:GroP s k l)(hk:k<l.length)(h6:(l.getD k (0,[])).2.length≠6)(hl:(l++io s (l.getD k (0,[])) s.2.1.length).length<=400):GroP s (k+1) (l++io s (l.getD k (0,[])) s.2.1.length):={
 nd:=by unfold List.Nodup;rw[a44];refine⟨G.nd,bem,fun a ha b hb e=>?_⟩;subst e;obtain⟨e,_,_,_,rfl⟩:=auc.1 hb;obtain⟨j,h1,h2⟩:=G.pa _ ha (by simp);simp only[List.dropLast_concat]at h2;have:=ae6 G.nd (by omega) hk h2;omega
 le:=hl
 cl:=fun j hj h q hq=>by
  by_cases e:j=k
  ·subst e;rw[ae7 hk]at hq;exact a2h _ hq
  ·rw[ae7 (by omega)]at h hq;exact a1q _ (G.cl j (by omega) h q hq)
 pa:=fun q hq h=>by
  rcases a1m.1 hq with hq|hq
  ·obtain⟨j,h1,h2⟩:=G.pa q hq h;exact⟨j,by omega,by rw[ae7 (by omega)];exact h2⟩
  ·obtain⟨e,_,_,_,rfl⟩:=auc.1 hq;refine⟨k,by omega,?_⟩;rw[ae7 hk,List.dropLast_concat]
 ok:=fun q hq=>by
  rcases a1m.1 hq with hq|hq
  ·exact G.ok q hq
  ·exact asr (G.ok _ (ja hk)) h6 (a0f _) hq }
theorem at5{s:ab}:∀(u k:Nat) (l:List ac),402<=u+k->k<=l.length->GroP s k l->(gb s u k l).2=true->GroP s (gb s u k l).1.length (gb s u k l).1/\∃r,(gb s u k l).1=l++r
 |0,k,l,h,hk,G,_=>by have:=G.le;omega
 |u+1,k,l,h,hk,G,hg=>by
  rw[gb]at hg⊢;by_cases hl:k<l.length
  ·rw[d0 hl]at hg⊢;by_cases h6:(l.getD k (0,[])).2.length=6
   ·rw[d0 h6]at hg⊢;exact at5 u (k+1) l (by omega) (by omega) (bn1 G h6) hg
   ·rw[ds h6]at hg⊢;by_cases h4:400<(l++io s (l.getD k (0,[])) s.2.1.length).length
    ·rw[d0 h4]at hg;cases hg
    ·rw[ds h4]at hg⊢;obtain⟨a,r,b⟩:=at5 u (k+1) _ (by omega) (by rw[a0q];omega) (bot G hl h6 (by omega)) hg;exact⟨a,_,by rw[b,a06]⟩
  ·rw[ds hl];have:k=l.length:=by omega
   subst this;exact⟨G,[],by simp⟩
theorem bou{s:ab}(h0:0<=s.1)(h4:s.1<=400):GroP s 0 (d8 s.1):={
 nd:=by unfold d8 List.Nodup;refine asl fun i j _ h _ e=>?_;have:=congrArg Prod.fst e;simp only at this;omega
 le:=by unfold d8;rw[bj];omega
 cl:=fun j hj=>by omega
 pa:=fun q hq h=>by unfold d8 at hq;obtain⟨e,_,_,rfl⟩:=ph.1 hq;exact absurd rfl h
 ok:=fun q hq=>by unfold d8 at hq;obtain⟨e,e0,e1,rfl⟩:=ph.1 hq;exact adi e0 (by omega) }
structure ShrtP (s:ab) (L:List ac):Prop where
 nd:L.Nodup
 le:L.length<=400
 ok:∀q∈L,(aw s q).2=true
 all:∀q,(aw s q).2=true->q∈L
 st:∀i:Nat,i<s.1.toNat->L.getD i (0,[])=((i:Int),[])
 ne:s.1.toNat<=L.length
theorem bkl{s:ab}{x:Int}{es:List Int}{e:Int}(h:(aw s (x,es++[e])).2=true):(aw s (x,es)).2=true/\es.length≠6/\0<=e/\e<s.2.1.length/\s.2.1.getD e.toNat 0=(aw s (x,es)).1:=by
 obtain⟨a1,a2,a3⟩:=iv h;rw[a3]at h;simp only[a0q,a0l,a0p]at a2;have e1:=ai5 (s:=s) (p:=(x,es)) a1 (by dsimp only;omega);rw[e1];dsimp only at h a1 e1⊢;rw[pi]at h;by_cases h1:(bf s x es).2=true
 ·rw[d0 h1]at h;simp only[bf]at h;split at h
  ·rename_i hc;obtain⟨q1,q2⟩:=ov.1 hc.1;exact⟨h1,by omega,q1,by omega,hc.2⟩
  ·cases h
 ·rw[ds h1]at h;cases h
theorem abv{s:ab}(h0:0<=s.1)(h4:s.1<=400)(h:(bw s).2=true):ShrtP s (bw s).1:=by
 unfold bw at h⊢;obtain⟨G,r,hr⟩:=at5 402 0 (d8 s.1) (by omega) (by omega) (bou h0 h4) h;generalize (gb s 402 0 (d8 s.1)).1=L at *;have hsl:(d8 s.1).length=s.1.toNat:=bj _;refine⟨G.nd,G.le,G.ok,?_,fun i hi=>?_,by rw[hr,a0q];omega⟩
 ·rintro⟨x,es⟩ hq
  have key:∀(n:Nat) (es:List Int),es.length=n->(aw s (x,es)).2=true->(x,es)∈L:=by
   intro n
   induction n with
   |zero=>intro es hn hq;have:=a1v hn;subst this;obtain⟨a1,_,_⟩:=iv hq;obtain⟨b1,b2⟩:=ov.1 a1;rw[hr];refine a1q _ ?_;unfold d8;dsimp only at b1 b2;exact ph.2 ⟨x,b1,by omega,rfl⟩
   |succ n ih=>
    intro es hn hq;have hne:es≠[]:=fun e=>by subst e;simp at hn
    have hsp:=List.dropLast_concat_getLast hne;generalize es.getLast hne=e at hsp;generalize es.dropLast=fs at hsp;subst hsp;simp only[a0q,a0l,a0p]at hn;obtain⟨c1,c2,c3,c4,c5⟩:=bkl hq;obtain⟨j,j1,j2⟩:=qa (ih fs (by omega) c1);refine G.cl j j1 (by rw[j2];exact c2) _ ?_;rw[j2];exact auc.2 ⟨e,c3,c4,by rw[c5,(ii c1).1],rfl⟩
  exact key es.length es rfl hq
 ·rw[hr,ae7 (by omega)];unfold d8;have:=ou (f:=fun x:Int=>(x,([]:List Int))) (n:=s.1.toNat) (i:=(i:Int)) (d:=((0:Int),([]:List Int))) (by omega) (by omega);rw[a0m]at this;exact this
theorem bj6{n:Int}(h0:0<=n)(h1:n<256):IntKind.wrap .u8 n=n:=by simp[IntKind.wrap,IntKind.bits,IntKind.signed];omega
theorem avj:∀{a b:List Int},(∀x∈a,0<=x/\x<256)->(∀x∈b,0<=x/\x<256)->(a.map fun n=>UInt8.ofNat n.toNat)=(b.map fun n=>UInt8.ofNat n.toNat)->a=b
 |[],[],_,_,_=>rfl
 |[],_::_,_,_,h=>by simp at h
 |_::_,[],_,_,h=>by simp at h
 |x::a,y::b,ha,hb,h=>by simp only[a1h,a0h]at h;have hx:=ha x (by simp);have hy:=hb y (by simp);have e:=congrArg UInt8.toNat h.1;simp only[UInt8.toNat_ofNat']at e;rw[Nat.mod_eq_of_lt (by omega),Nat.mod_eq_of_lt (by omega)]at e;rw[show x=y from by omega,avj (fun z hz=>ha z (by simp[hz])) (fun z hz=>hb z (by simp[hz])) h.2]
def amc(x:Int)(es:List Int):Prop:=(0<=x/\x<9)/\∀e∈es,0<=e/\e<8
theorem bjr{x:Int}{es:List Int}(h:amc x es):kbR [[x],es]=x::255::(es++[255]):=by
 unfold kbR;simp only[List.flatMap_cons,List.flatMap_nil,a1h,a2i,a2l,a2p,a2u];rw[bj6 h.1.1 (by have:=h.1.2;omega)]
 have:es.map (fun n=>IntKind.wrap .u8 n)=es:=by
  have key:∀l:List Int,(∀e∈l,0<=e/\e<8)->l.map (fun n=>IntKind.wrap .u8 n)=l:=fun l=>by
   induction l with
   |nil=>intro _;rfl
   |cons a l ih=>intro hl;have ha:=hl a (by simp);rw[a1h,bj6 ha.1 (by omega),ih fun e he=>hl e (by simp[he])]
  exact key es h.2
 rw[this]
theorem bl1{x y:Int}{es fs:List Int}(h:amc x es)(g:amc y fs)(e:vw [[x],es]=vw [[y],fs]):x=y/\es=fs:=by
 unfold vw afs at e;have e1:=congrArg (fun b:ByteArray=>b.data.toList) e;simp only[List.toList_toArray]at e1;rw[bjr h,bjr g]at e1
 have rng:∀{z:Int} {l:List Int},amc z l->∀n∈(z::255::(l++[255])),0<=n/\n<256:=fun hz n hn=>by
  simp only[a0u,a1m,a34,or_false]at hn;rcases hn with rfl|rfl|hn|rfl
  ·have:=hz.1;omega
  ·omega
  ·have:=hz.2 n hn;omega
  ·omega
 have e2:=avj (rng h) (rng g) e1;simp only[a0h,a0e]at e2;exact⟨e2.1,List.append_cancel_right e2.2⟩
theorem bkm{s:ab}{p:ac}(h1:s.1<=8)(h2:s.2.1.length<=8)(h:(aw s p).2=true):amc p.1 p.2:=by obtain⟨a1,_,_⟩:=iv h;obtain⟨b1,b2⟩:=ov.1 a1;obtain⟨_,w⟩:=ii h;refine⟨by omega,fun e he=>?_⟩;unfold bh at w;rw[a1d]at w;obtain⟨c1,c2⟩:=ov.1 (w e he);omega
def fm(L:List ac):Nat->List (ByteArray×Int)
 |0=>[]
 |n+1=>ig .str (.int .i64) (fm L n) (vw [[(L.getD n (0,[])).1],(L.getD n (0,[])).2]) n
theorem apg(L:List ac):∀n,(fm L n).length<=n
 |0=>a0f _
 |n+1=>a1a bhn (Nat.succ_le_succ (apg L n))
theorem azm{L:List ac}(hnd:L.Nodup)(hs:∀p∈L,amc p.1 p.2):∀{n i:Nat},n<=L.length->i<n->pm .str (.int .i64) (fm L n) (vw [[(L.getD i (0,[])).1],(L.getD i (0,[])).2])=i
 |0,i,_,h=>by omega
 |n+1,i,hn,h=>by
  unfold fm;rw[aym];by_cases e:i=n
  ·subst e;rw[d0 (ff.2 rfl)]
  ·rw[ds,azm hnd hs (by omega) (by omega)];intro hk;obtain⟨k1,k2⟩:=bl1 (hs _ (ja (by omega))) (hs _ (ja (by omega))) (ff.1 hk);exact e (ae6 hnd (by omega) (by omega) (Prod.ext k1 k2))
theorem bmz{L:List ac}(hnd:L.Nodup)(hs:∀p∈L,amc p.1 p.2){k:aj}(hk:k.1=fm L L.length){p:ac}(hp:p∈L):0<=cn k p.1 p.2/\cn k p.1 p.2<L.length/\L.getD (cn k p.1 p.2).toNat (0,[])=p:=by obtain⟨i,i1,rfl⟩:=qa hp;unfold cn;rw[hk,azm hnd hs (a0f _) i1];exact⟨by omega,by omega,by rw[a0m]⟩
def ad2(s:ab)(p q:ac):Prop:=p.1=q.1/\(aw s p).1=(aw s q).1
theorem ad2.trans{s:ab}{p q r:ac}(h:ad2 s p q)(g:ad2 s q r):ad2 s p r:=⟨h.1.trans g.1,h.2.trans g.2⟩
theorem ad2.symm{s:ab}{p q:ac}(h:ad2 s p q):ad2 s q p:=⟨h.1.symm,h.2.symm⟩
structure LabP (s:ab) (L:List ac) (j:List Int):Prop where
 U:UfP j
 n:j.length=L.length
 st:∀x y:Int,0<=x->x<L.length->0<=y->y<L.length->eu j x=eu j y->ad2 s (L.getD x.toNat (0,[])) (L.getD y.toNat (0,[]))
theorem bjb{s:ab}{L:List ac}{j:List Int}(P:LabP s L j){x y:Int}(x0:0<=x)(x1:x<L.length)(y0:0<=y)(y1:y<L.length)(hs:ad2 s (L.getD x.toNat (0,[])) (L.getD y.toNat (0,[]))):LabP s L (wv j x y).1:=by
 have hn:=P.n;obtain⟨u1,u2,u3⟩:=ak8 P.U x0 (by omega) y0 (by omega);refine⟨u1,u2.trans hn,fun a b a0 a1 b0 b1 h=>?_⟩;rcases u3 with u3|u3
 ·rw[u3 a a0 (by omega),u3 b b0 (by omega)]at h;split at h <;> split at h <;> rename_i h1 h2
  ·exact (P.st a x a0 a1 x0 x1 h1).trans (P.st x b x0 x1 b0 b1 h2.symm)
  ·exact ((P.st a x a0 a1 x0 x1 h1).trans hs).trans (P.st y b y0 y1 b0 b1 h)
  ·exact ((P.st a y a0 a1 y0 y1 h).trans hs.symm).trans (P.st x b x0 x1 b0 b1 h2.symm)
  ·exact P.st a b a0 a1 b0 b1 h
 ·rw[u3 a a0 (by omega),u3 b b0 (by omega)]at h;split at h <;> split at h <;> rename_i h1 h2
  ·exact (P.st a y a0 a1 y0 y1 h1).trans (P.st y b y0 y1 b0 b1 h2.symm)
  ·exact ((P.st a y a0 a1 y0 y1 h1).trans hs.symm).trans (P.st x b x0 x1 b0 b1 h)
  ·exact ((P.st a x a0 a1 x0 x1 h).trans hs).trans (P.st y b y0 y1 b0 b1 h2.symm)
  ·exact P.st a b a0 a1 b0 b1 h
structure SetP (s:ab) (L:List ac) (k:aj):Prop where
 S:az s=true
 H:ShrtP s L
 k:k.1=fm L L.length
theorem SetP.sml{s:ab}{L:List ac}{k:aj}(P:SetP s L k):∀p∈L,amc p.1 p.2:=fun p hp=>by obtain⟨_,h1,h2,_⟩:=mr P.S;exact bkm h1 h2 (P.H.ok p hp)
theorem SetP.at{s:ab}{L:List ac}{k:aj}(P:SetP s L k){p:ac}(hp:(aw s p).2=true):0<=cn k p.1 p.2/\cn k p.1 p.2<L.length/\L.getD (cn k p.1 p.2).toNat (0,[])=p:=bmz P.H.nd P.sml P.k (P.H.all p hp)
theorem bhc{s:ab}{L:List ac}{k:aj}(P:SetP s L k){j:List Int}(Q:LabP s L j){w:Int}(w0:0<=w)(w1:w<L.length){e:Int}(e0:0<=e)(e1:e<s.2.2.2.1.length) :
  VisP s (L.getD w.toNat (0,[])) (s.2.2.2.1.getD e.toNat (0,[])) (s.2.2.2.2.getD e.toNat (0,[])) w k (L.getD w.toNat (0,[])) j:=by
 obtain⟨h1,h2,h3,h4,h5,h6,h7,h8,h9⟩:=mr P.S;have E:=t6 h9 e0 e1 (by omega);have hp:=P.H.ok _ (ja (l:=L) (i:=w.toNat) (by omega));have hlp:=(iv hp).2.1;have hll:=(iv E.l2).2.1;have hlr:=(iv E.r2).2.1;refine⟨Q.U,w0,by rw[Q.n];exact w1,by omega,by omega,by omega,by rw[h4];exact (ii hp).2,fun n n0 n1 hh h6=>?_⟩;obtain⟨o1,o2⟩:=aiu hp E n0 n1 hh h6;obtain⟨a1,a2,_⟩:=P.at o1;exact⟨a1,by rw[Q.n];exact a2⟩
theorem bbr{s:ab}{L:List ac}{k:aj}(P:SetP s L k){j:List Int}(Q:LabP s L j){w:Int}(w0:0<=w)(w1:w<L.length){e:Int}(e0:0<=e)(e1:e<s.2.2.2.1.length) :
  ∀n:Nat,n<=(L.getD w.toNat (0,[])).2.length+1->LabP s L (qk s (L.getD w.toNat (0,[])) (s.2.2.2.1.getD e.toNat (0,[])) (s.2.2.2.2.getD e.toNat (0,[])) w k (L.getD w.toNat (0,[])) n j)
 |0,_=>Q
 |n+1,hn=>by
  have ih:=bbr P Q w0 w1 e0 e1 n (by omega);simp only[qk];split
  ·rename_i hc;obtain⟨h1,h2,h3,h4,h5,h6,h7,h8,h9⟩:=mr P.S;have E:=t6 h9 e0 e1 (by omega);have hp:=P.H.ok _ (ja (l:=L) (i:=w.toNat) (by omega));obtain⟨o1,o2⟩:=aiu hp E (i:=(n:Int)) (by omega) (by omega) hc.1 hc.2;obtain⟨a1,a2,a3⟩:=P.at o1;exact bjb ih w0 w1 a1 a2 (by rw[a3];exact⟨rfl,o2.symm⟩)
  ·exact ih
def jE(s:ab)(k:aj)(p:ac)(w:Int):Nat->List Int->List Int
 |0,j=>j
 |e+1,j=>qk s p (s.2.2.2.1.getD e (0,[])) (s.2.2.2.2.getD e (0,[])) w k p (p.2.length+1) (jE s k p w e j)
def jW(s:ab)(k:aj)(L:List ac):Nat->List Int
 |0=>dc L.length
 |w+1=>jE s k (L.getD w (0,[])) w s.2.2.2.1.length (jW s k L w)
theorem bjs(s:ab)(L:List ac):LabP s L (dc L.length):=by
 have hl:(dc L.length).length=L.length:=by unfold dc;rw[bj];omega
 have hg:∀x:Int,0<=x->x<L.length->(dc L.length).getD x.toNat 0=x:=fun x x0 x1=>by unfold dc;rw[ou x0 (by omega)]
 have U:UfP (dc L.length):=⟨fun x x0 x1=>by rw[hg x x0 (by omega)];omega⟩;refine⟨U,hl,fun x y x0 x1 y0 y1 h=>?_⟩;rw[wg U x0 (by omega) (hg x x0 x1),wg U y0 (by omega) (hg y y0 y1)]at h;rw[h];exact⟨rfl,rfl⟩
theorem av8{s:ab}{L:List ac}{k:aj}(P:SetP s L k){j:List Int}(Q:LabP s L j){w:Nat}(w1:w<L.length):∀e:Nat,e<=s.2.2.2.1.length->LabP s L (jE s k (L.getD w (0,[])) w e j)
 |0,_=>Q
 |e+1,he=>by have:=bbr P (av8 P Q w1 e (by omega)) (w:=(w:Int)) (by omega) (by omega) (e:=(e:Int)) (by omega) (by omega) _ (a0f _);simp only[a0m]at this;exact this
theorem aq6{s:ab}{L:List ac}{k:aj}(P:SetP s L k):∀w:Nat,w<=L.length->LabP s L (jW s k L w)
 |0,_=>bjs s L
 |w+1,hw=>av8 P (aq6 P w (by omega)) (by omega) _ (a0f _)
theorem bl8{p:List Int}{x:Int}(h:x∈p):x+1<=eh p:=by
 have key:∀(l:List Int) (a:Int),a<=l.foldl (fun n k=>mxR n (k+1)) a/\∀x∈l,x+1<=l.foldl (fun n k=>mxR n (k+1)) a:=fun l=>by
  induction l with
  |nil=>intro a;exact⟨a0r _,fun x hx=>by cases hx⟩
  |cons y l ih=>
   intro a;obtain⟨h1,h2⟩:=ih (mxR a (y+1));have hm:a<=mxR a (y+1)/\y+1<=mxR a (y+1):=by unfold mxR;split <;> omega
   rw[a12];refine⟨by omega,fun x hx=>?_⟩;rcases a0u.1 hx with rfl|hx
   ·omega
   ·exact h2 x hx
 exact (key p 0).2 x h
theorem bgt{p:List Int}{n:Int}(h0:0<=n)(h:∀x∈p,x<n):0<=eh p/\eh p<=n:=by
 have key:∀(l:List Int) (a:Int),0<=a->a<=n->(∀x∈l,x<n)->0<=l.foldl (fun n k=>mxR n (k+1)) a/\l.foldl (fun n k=>mxR n (k+1)) a<=n:=fun l=>by
  induction l with
  |nil=>intro a h0 h1 _;exact⟨h0,h1⟩
  |cons y l ih=>
   intro a h0 h1 hl;rw[a12];have hy:=hl y (by simp);have hm:0<=mxR a (y+1)/\mxR a (y+1)<=n:=by unfold mxR;split <;> omega
   exact ih _ hm.1 hm.2 fun x hx=>hl x (by simp[hx])
 exact key p 0 (a0r _) h0 h
theorem aja{y:Int}:∀{l s:List Int},(y∈s\/y∈l)->y∈l.foldl lh s
 |[],s,h=>by simpa using h
 |k::l,s,h=>by
  rw[a12];refine aja ?_;unfold lh;rcases h with h|h
  ·left;split
   ·exact a1q _ h
   ·exact h
  ·rcases a0u.1 h with rfl|h
   ·left;split
    ·exact a2h _ (a0x.2 rfl)
    ·rename_i hn;exact a3k fun hh=>hn (by have:=(qf (0:Int)).2 hh;omega)
   ·exact .inr h
theorem alm{l:List Int}{i:Nat}(h:i<l.length):(bp l).getD i 0=gr (gw l) (l.getD i 0):=by unfold bp;simp only[a0o,a05,a0n h,a0z,a02]
theorem blh{l:List Int}:∀x∈bp l,0<=x/\x<l.length:=by intro x hx;unfold bp at hx;obtain⟨y,hy,rfl⟩:=a2c.1 hx;obtain⟨h0,h1,_⟩:=(qf (0:Int)).1 (aja (l:=l) (s:=[]) (.inr hy));have:=anq l [];simp only[a0p,a1z]at this;exact⟨h0,Int.lt_of_lt_of_le h1 (by omega)⟩
theorem azp{l:List Int}{i j:Nat}(hi:i<l.length)(hj:j<l.length):(bp l).getD i 0=(bp l).getD j 0<->l.getD i 0=l.getD j 0:=by
 rw[alm hi,alm hj];constructor
 ·intro h;have m1:l.getD i 0∈gw l:=aja (.inr (by simp only[a0o,a0n hi,a02];exact a27 hi));have m2:l.getD j 0∈gw l:=aja (.inr (by simp only[a0o,a0n hj,a02];exact a27 hj));obtain⟨_,_,e1,_⟩:=(qf (0:Int)).1 m1;obtain⟨_,_,e2,_⟩:=(qf (0:Int)).1 m2;rw[←e1,←e2,h]
 ·intro h;rw[h]
def js(s:ab)(L:List ac):List Int:=bp (cy (jW s (fm L L.length,([],[])) L L.length))
structure ClaP (s:ab) (L:List ac) (c:List Int):Prop where
 n:c.length=L.length
 r:∀i:Int,0<=i->i<L.length->0<=c.getD i.toNat 0/\c.getD i.toNat 0<eh c
 st:∀i j:Int,0<=i->i<L.length->0<=j->j<L.length->c.getD i.toNat 0=c.getD j.toNat 0->ad2 s (L.getD i.toNat (0,[])) (L.getD j.toNat (0,[]))
 le:0<=eh c/\eh c<=L.length
theorem ani{j:List Int}{x:Int}(x0:0<=x)(x1:x<j.length):(cy j).getD x.toNat 0=eu j x:=by unfold cy;rw[ou x0 (by omega)]
theorem arg{s:ab}{L:List ac}{j:List Int}(Q:LabP s L j):ClaP s L (bp (cy j)):=by
 have hn:(cy j).length=L.length:=by unfold cy;rw[bj,Q.n]
 have hm:(bp (cy j)).length=L.length:=by unfold bp;rw[a0y,hn]
 have hg:=blh (l:=cy j);have mem:∀i:Int,0<=i->i<L.length->(bp (cy j)).getD i.toNat 0∈bp (cy j):=fun i i0 i1=>im _ 0 i0 (by omega);refine⟨hm,fun i i0 i1=>⟨(hg _ (mem i i0 i1)).1,?_⟩,fun a b a0 a1 b0 b1 h=>?_,bgt (by omega) fun x hx=>by have:=(hg x hx).2;omega⟩
 ·have:=bl8 (mem i i0 i1);omega
 ·rw[azp (by omega) (by omega),ani a0 (by rw[Q.n];omega),ani b0 (by rw[Q.n];omega)]at h;exact Q.st a b a0 a1 b0 b1 h
def lsS(c:List Int)(L:List ac)(i:Nat)(l:List (Int×Option (List Int))):List (Int×Option (List Int)):=if ((l.getD (c.getD i 0).toNat (0,none)).2.isNone||decide (qd (L.getD i (0,[])) ((l.getD (c.getD i 0).toNat (0,none)).1,(l.getD (c.getD i 0).toNat (0,none)).2.getD [])<0))=true then l.set (c.getD i 0).toNat ((L.getD i (0,[])).1,some (L.getD i (0,[])).2)else l
def lsD(c:List Int)(L:List ac):Nat->List (Int×Option (List Int))
 |0=>List.replicate (eh c).toNat (0,none)
 |m+1=>lsS c L (L.length-1-m) (lsD c L m)
structure LstP (c:List Int) (L:List ac) (i:Int) (l:List (Int×Option (List Int))):Prop where
 n:l.length=(eh c).toNat
 v:∀(k:Nat) (x:Int) (es:List Int),l.getD k (0,none)=(x,some es)->∃a:Int,i<=a/\0<=a/\a<L.length/\c.getD a.toNat 0=k/\L.getD a.toNat (0,[])=(x,es)
theorem bn9{c:List Int}{L:List ac}:LstP c L L.length (lsD c L 0):=by refine⟨by unfold lsD;rw[a4h],fun k x es h=>?_⟩;exfalso;unfold lsD at h;simp only[a0o,a4x]at h;split at h <;> simp at h
theorem bol{s:ab}{c:List Int}{L:List ac}(C:ClaP s L c){i:Int}{l:List (Int×Option (List Int))}(P:LstP c L (i+1) l)(i0:0<=i)(i1:i<L.length):LstP c L i (lsS c L i.toNat l):=by
 have hr:=C.r i i0 i1;unfold lsS;split
 ·refine⟨by rw[a1i];exact P.n,fun k x es h=>?_⟩;have hlt:(c.getD i.toNat 0).toNat<l.length:=by rw[P.n];omega
  rw[acg _ _ _ _ _ hlt]at h;split at h
  ·rename_i e;simp only[a0k,a0d]at h;exact⟨i,a0r _,i0,i1,by omega,Prod.ext h.1 h.2⟩
  ·obtain⟨a,h1,h2⟩:=P.v k x es h;exact⟨a,by omega,h2⟩
 ·refine⟨P.n,fun k x es h=>?_⟩;obtain⟨a,h1,h2⟩:=P.v k x es h;exact⟨a,by omega,h2⟩
theorem axj{s:ab}{c:List Int}{L:List ac}(H:ShrtP s L)(C:ClaP s L c){i:Int}{l:List (Int×Option (List Int))}(P:LstP c L (i+1) l)(i0:0<=i)(i1:i<L.length):aeq (l.getD (c.getD i.toNat 0).toNat (0,none)).2=true:=by
 generalize hq:l.getD (c.getD i.toNat 0).toNat (0,none)=q;obtain⟨x,o⟩:=q
 cases o with
 |none=>rfl
 |some es=>
  obtain⟨a,h1,h2,h3,h4,h5⟩:=P.v _ x es hq
  cases es with
  |cons _ _=>rfl
  |nil=>
   exfalso;have hr:=C.r i i0 i1;have hst:=(C.st a i h2 h3 i0 i1 (by omega)).1;rw[h5]at hst
   -- an empty path of number a begins at a
   have hmem:=ja (l:=L) (i:=a.toNat) (by omega);rw[h5]at hmem;obtain⟨b1,b2⟩:=ov.1 (iv (H.ok _ hmem)).1;dsimp only at b1 b2 hst;have e1:=H.st x.toNat (by omega);rw[show ((x.toNat:Nat):Int)=x from by omega]at e1;have e2:x.toNat=a.toNat:=ae6 H.nd (by have:=H.ne;omega) (by omega) (by rw[e1,h5]);have e3:=H.st i.toNat (by omega);rw[e3]at hst;dsimp only at hst;omega
def lsA(s:ab)(L:List ac):List (Int×Option (List Int)):=lsD (js s L) L L.length
def aq2(l:List (Int×Option (List Int))):Bool:=l.all fun q=>(q.2.getD []).length != 6
def n5(s:ab):Bool:=(bw s).2&&aq2 (lsA s (bw s).1)
def pcR(s:ab):aj:=(fm (bw s).1 (bw s).1.length,(js s (bw s).1,l7 (lsA s (bw s).1)))
theorem ajp{s:ab}{c:List Int}{L:List ac}(C:ClaP s L c):∀m:Nat,m<=L.length->LstP c L ((L.length:Int)-m) (lsD c L m)
 |0,_=>by simpa using (bn9 (c:=c) (L:=L))
 |m+1,hm=>by
  have ih:=ajp C m (by omega);have e:((L.length:Int)-((m+1:Nat):Int)).toNat=L.length-1-m:=by omega
  have:=bol C (i:=(L.length:Int)-((m+1:Nat):Int)) (l:=lsD c L m) (by rw[show (L.length:Int)-((m+1:Nat):Int)+1=(L.length:Int)-m from by omega];exact ih) (by omega) (by omega);rw[e]at this;exact this
theorem azo{l:List (Int×Option (List Int))}:aq2 l=true<->∀b:Int,0<=b->b<l.length->((l.getD b.toNat (0,none)).2.getD []).length≠6:=by
 unfold aq2;rw[a1d];constructor
 ·intro h b b0 b1;have:=h _ (im l (0,none) b0 b1);simpa using this
 ·intro h x hx;obtain⟨i,hi,rfl⟩:=a2e hx;have:=h i (by omega) (by omega);rw[a0m]at this;simp only[a0o,a0n hi,a02]at this;simpa using this
def jb:Sp:=⟨[(.pt SchemaT)],[false],true,fun x=>n5 x.1,fun x=>[az x.1=true],[(false,(.fz (.pt m5))),(false,(.fz (.er 119)))],fun x=>(pcR x.1,false,()),[(false,(.fz .any)),(false,(.fz (.er 119)))],fun x=>((),true,())⟩
def ef:Ct:=o6 jb true
def fy:Ct:=o6 jb false
def q6:Ct:=spC jb
def pn(s:ab)(K:jc ef.rt->Prop):Prop:=(cnd (bw s).2 (((bw s).2=Bool.true)/\(((0:Int)<=s.1)/\((s.1<=(400:Int))/\((s.2.1.length<=1000000)/\((s.2.2.1.length=s.2.1.length)/\(cnd Bool.false False (be (S:=(bpa×(((List (ByteArray×Int))×((List Int)×(List (Int×(Option (List Int))))))×Unit))) (fun s1=>(fun next=>((inK IntKind.i64 s1.1.2.1)->((T.ok (T.mp T.str (T.int IntKind.i64)) s1.2.1.1)->((T.ok (T.sl (T.int IntKind.i64)) s1.2.1.2.1)->((T.ok (T.sl (T.p (T.int IntKind.i64) (T.ns (T.sl (T.int IntKind.i64))))) s1.2.1.2.2)->(cnd (decide (s1.1.2.1<(((List.length (bw s).1):Nat):Int))) (((0:Int)<=s1.1.2.1)/\((s1.1.2.1<(((List.length (bw s).1):Nat):Int))/\(((List.length (List.getD (bw s).1 s1.1.2.1.toNat ((0:Int),([]:List Int))).2)<=1000000)/\((dz s1.2.1.1.length 1 1)/\((inK IntKind.i64 (s1.1.2.1+(1:Int)))/\(next (((),((s1.1.2.1+(1:Int)),())),(((ig T.str (T.int IntKind.i64) s1.2.1.1 (vw (((List.getD (bw s).1 s1.1.2.1.toNat ((0:Int),([]:List Int))).1::([]:List Int))::((List.getD (bw s).1 s1.1.2.1.toNat ((0:Int),([]:List Int))).2::([]:List (List Int))))) s1.1.2.1),s1.2.1.2),())))))))) (((0:Int)<=(((List.length (bw s).1):Nat):Int))/\(((((List.length (bw s).1):Nat):Int)<=(1099511627776:Int))/\(be (S:=((Unit×bpa)×(((List (ByteArray×Int))×((List Int)×(List (Int×(Option (List Int))))))×bpb))) (fun s2=>(fun next1=>((inK IntKind.i64 s2.1.2.2.1)->((T.ok (T.mp T.str (T.int IntKind.i64)) s2.2.1.1)->((T.ok (T.sl (T.int IntKind.i64)) s2.2.1.2.1)->((T.ok (T.sl (T.p (T.int IntKind.i64) (T.ns (T.sl (T.int IntKind.i64))))) s2.2.1.2.2)->((T.ok (T.sl (T.int IntKind.i64)) s2.2.2.1)->(cnd (decide (s2.1.2.2.1<(((List.length (bw s).1):Nat):Int))) (((0:Int)<=s2.1.2.2.1)/\((s2.1.2.2.1<(((List.length (bw s).1):Nat):Int))/\(be (S:=((Unit×bpf)×(((List (ByteArray×Int))×((List Int)×(List (Int×(Option (List Int))))))×bpm))) (fun s3=>(fun next2=>((inK IntKind.i64 s3.1.2.2.2.2.1)->((T.ok (T.mp T.str (T.int IntKind.i64)) s3.2.1.1)->((T.ok (T.sl (T.int IntKind.i64)) s3.2.1.2.1)->((T.ok (T.sl (T.p (T.int IntKind.i64) (T.ns (T.sl (T.int IntKind.i64))))) s3.2.1.2.2)->((T.ok (T.sl (T.int IntKind.i64)) s3.2.2.1)->((inK IntKind.i64 s3.2.2.2.1)->((inK IntKind.i64 s3.2.2.2.2.1.1)->((T.ok (T.sl (T.int IntKind.i64)) s3.2.2.2.2.1.2)->(cnd (decide (s3.1.2.2.2.2.1<((s.2.2.2.1.length:Nat):Int))) (((0:Int)<=s3.1.2.2.2.2.1)/\((s3.1.2.2.2.2.1<((s.2.2.2.1.length:Nat):Int))/\(((0:Int)<=s3.1.2.2.2.2.1)/\((s3.1.2.2.2.2.1<((s.2.2.2.2.length:Nat):Int))/\((VisP s s3.2.2.2.2.1 (s.2.2.2.1.getD s3.1.2.2.2.2.1.toNat ((0:Int),([]:List Int))) (s.2.2.2.2.getD s3.1.2.2.2.2.1.toNat ((0:Int),([]:List Int))) s3.2.2.2.1 (s3.2.1.1,(s3.2.1.2.1,(l7 s3.2.1.2.2))) s3.2.2.2.2.1 s3.2.2.1)/\((inK IntKind.i64 (s3.1.2.2.2.2.1+(1:Int)))/\(next2 (((),((),((),((),((s3.1.2.2.2.2.1+(1:Int)),()))))),(s3.2.1,((qk s s3.2.2.2.2.1 (s.2.2.2.1.getD s3.1.2.2.2.2.1.toNat ((0:Int),([]:List Int))) (s.2.2.2.2.getD s3.1.2.2.2.2.1.toNat ((0:Int),([]:List Int))) s3.2.2.2.1 (s3.2.1.1,(s3.2.1.2.1,(l7 s3.2.1.2.2))) s3.2.2.2.2.1 (s3.2.2.2.2.1.2.length+1) s3.2.2.1),(s3.2.2.2.1,(s3.2.2.2.2.1,())))))))))))) ((inK IntKind.i64 (s2.1.2.2.1+(1:Int)))/\(next1 (((),((),((s2.1.2.2.1+(1:Int)),()))),(s3.2.1,(s3.2.2.1,())))))))))))))))) (((),((),((),((),((0:Int),()))))),(s2.2.1,(s2.2.2.1,(s2.1.2.2.1,((List.getD (bw s).1 s2.1.2.2.1.toNat ((0:Int),([]:List Int))),())))))))) ((UfP s2.2.2.1)/\((s2.2.2.1.length<=1099511627776)/\(((List.length (bp (cy s2.2.2.1)))<=1099511627776)/\(((bh (bp (cy s2.2.2.1)) (1099511627776:Int))=Bool.true)/\(((0:Int)<=(eh (bp (cy s2.2.2.1))))/\(((eh (bp (cy s2.2.2.1)))<=(eh (bp (cy s2.2.2.1))))/\(((eh (bp (cy s2.2.2.1)))<=((140737488355328:Nat):Int))/\((((eh (bp (cy s2.2.2.1)))*((32:Nat):Int))<=((140737488355328:Nat):Int))/\((inK IntKind.i64 ((((List.length (bw s).1):Nat):Int)-(1:Int)))/\(be (S:=(bpa×(((List (ByteArray×Int))×((List Int)×(List (Int×(Option (List Int))))))×Unit))) (fun s3=>(fun next2=>((inK IntKind.i64 s3.1.2.1)->((T.ok (T.mp T.str (T.int IntKind.i64)) s3.2.1.1)->((T.ok (T.sl (T.int IntKind.i64)) s3.2.1.2.1)->((T.ok (T.sl (T.p (T.int IntKind.i64) (T.ns (T.sl (T.int IntKind.i64))))) s3.2.1.2.2)->(cnd (decide ((0:Int)<=s3.1.2.1)) (((0:Int)<=s3.1.2.1)/\((s3.1.2.1<((s3.2.1.2.1.length:Nat):Int))/\(((0:Int)<=(s3.2.1.2.1.getD s3.1.2.1.toNat (0:Int)))/\(((s3.2.1.2.1.getD s3.1.2.1.toNat (0:Int))<((s3.2.1.2.2.length:Nat):Int))/\(((aeq (s3.2.1.2.2.getD (Int.toNat (s3.2.1.2.1.getD s3.1.2.1.toNat (0:Int))) ((0:Int),(none:Option (List Int)))).2)=Bool.true)/\((((Option.isNone (s3.2.1.2.2.getD (Int.toNat (s3.2.1.2.1.getD s3.1.2.1.toNat (0:Int))) ((0:Int),(none:Option (List Int)))).2)=Bool.false)->((s3.1.2.1<(((List.length (bw s).1):Nat):Int))/\((0:Int)<=s3.1.2.1)))/\((((Option.isNone (s3.2.1.2.2.getD (Int.toNat (s3.2.1.2.1.getD s3.1.2.1.toNat (0:Int))) ((0:Int),(none:Option (List Int)))).2)=Bool.false)->(((s3.2.1.2.1.getD s3.1.2.1.toNat (0:Int))<((s3.2.1.2.2.length:Nat):Int))/\((0:Int)<=(s3.2.1.2.1.getD s3.1.2.1.toNat (0:Int)))))/\((((Option.isNone (s3.2.1.2.2.getD (Int.toNat (s3.2.1.2.1.getD s3.1.2.1.toNat (0:Int))) ((0:Int),(none:Option (List Int)))).2)=Bool.false)->(((List.length (Option.getD (s3.2.1.2.2.getD (Int.toNat (s3.2.1.2.1.getD s3.1.2.1.toNat (0:Int))) ((0:Int),(none:Option (List Int)))).2 ([]:List Int)))<=1000000)/\((List.length (List.getD (bw s).1 s3.1.2.1.toNat ((0:Int),([]:List Int))).2)<=1000000)))/\(ic (S:=((Unit×Unit)×(((List (ByteArray×Int))×((List Int)×(List (Int×(Option (List Int))))))×Unit))) (fun s4=>((T.ok (T.mp T.str (T.int IntKind.i64)) s4.2.1.1)->((T.ok (T.sl (T.int IntKind.i64)) s4.2.1.2.1)->((T.ok (T.sl (T.p (T.int IntKind.i64) (T.ns (T.sl (T.int IntKind.i64))))) s4.2.1.2.2)->((inK IntKind.i64 (s3.1.2.1-(1:Int)))/\(next2 (((),((s3.1.2.1-(1:Int)),())),(s4.2.1,())))))))) (fun k=>(cnd ((Option.isNone (s3.2.1.2.2.getD (Int.toNat (s3.2.1.2.1.getD s3.1.2.1.toNat (0:Int))) ((0:Int),(none:Option (List Int)))).2)||(decide ((qd (List.getD (bw s).1 s3.1.2.1.toNat ((0:Int),([]:List Int))) ((s3.2.1.2.2.getD (Int.toNat (s3.2.1.2.1.getD s3.1.2.1.toNat (0:Int))) ((0:Int),(none:Option (List Int)))).1,(Option.getD (s3.2.1.2.2.getD (Int.toNat (s3.2.1.2.1.getD s3.1.2.1.toNat (0:Int))) ((0:Int),(none:Option (List Int)))).2 ([]:List Int))))<(0:Int)))) (((0:Int)<=s3.1.2.1)/\((s3.1.2.1<(((List.length (bw s).1):Nat):Int))/\(((0:Int)<=s3.1.2.1)/\((s3.1.2.1<(((List.length (bw s).1):Nat):Int))/\(((List.length (List.getD (bw s).1 s3.1.2.1.toNat ((0:Int),([]:List Int))).2)<=1099511627776)/\(((0:Int)<=(s3.2.1.2.1.getD s3.1.2.1.toNat (0:Int)))/\(((s3.2.1.2.1.getD s3.1.2.1.toNat (0:Int))<((s3.2.1.2.2.length:Nat):Int))/\(k (((),()),((s3.2.1.1,(s3.2.1.2.1,(List.set s3.2.1.2.2 (Int.toNat (s3.2.1.2.1.getD s3.1.2.1.toNat (0:Int))) ((List.getD (bw s).1 s3.1.2.1.toNat ((0:Int),([]:List Int))).1,(Option.some (List.getD (bw s).1 s3.1.2.1.toNat ((0:Int),([]:List Int))).2))))),())))))))))) (k (((),()),(s3.2.1,())))))))))))))) (be (S:=(bpn×(((List (ByteArray×Int))×((List Int)×(List (Int×(Option (List Int))))))×Unit))) (fun s4=>(fun next3=>((inK IntKind.i64 s4.1.2.1)->((T.ok (T.mp T.str (T.int IntKind.i64)) s4.2.1.1)->((T.ok (T.sl (T.int IntKind.i64)) s4.2.1.2.1)->((T.ok (T.sl (T.p (T.int IntKind.i64) (T.ns (T.sl (T.int IntKind.i64))))) s4.2.1.2.2)->(cnd (decide (s4.1.2.1<((s3.2.1.2.2.length:Nat):Int))) (((0:Int)<=s4.1.2.1)/\((s4.1.2.1<((s4.2.1.2.2.length:Nat):Int))/\(cnd ((((List.length (Option.getD (s4.2.1.2.2.getD s4.1.2.1.toNat ((0:Int),(none:Option (List Int)))).2 ([]:List Int))):Nat):Int)==(6:Int)) False ((inK IntKind.i64 (s4.1.2.1+(1:Int)))/\(next3 (((),((s4.1.2.1+(1:Int)),((),()))),(s4.2.1,()))))))) (K ((s4.2.1.1,(s4.2.1.2.1,(l7 s4.2.1.2.2))),(Bool.false,())))))))))) (((),((0:Int),((),()))),(s3.2.1,())))))))))) (((),(((((List.length (bw s).1):Nat):Int)-(1:Int)),())),((s2.2.1.1,((bp (cy s2.2.2.1)),(List.replicate (Int.toNat (eh (bp (cy s2.2.2.1)))) ((0:Int),(none:Option (List Int)))))),())))))))))))))))))))) (((),((),((0:Int),()))),(s1.2.1,((dc (((List.length (bw s).1):Nat):Int)),()))))))))))))) (((),((0:Int),())),((([]:List (ByteArray×Int)),(([]:List Int),([]:List (Int×(Option (List Int)))))),()))))))))) (((bw s).2=Bool.false)/\(((0:Int)<=s.1)/\((s.1<=(400:Int))/\((s.2.1.length<=1000000)/\((s.2.2.1.length=s.2.1.length)/\(cnd Bool.true False (be (S:=(bpa×(((List (ByteArray×Int))×((List Int)×(List (Int×(Option (List Int))))))×Unit))) (fun s1=>(fun next=>((inK IntKind.i64 s1.1.2.1)->((T.ok (T.mp T.str (T.int IntKind.i64)) s1.2.1.1)->((T.ok (T.sl (T.int IntKind.i64)) s1.2.1.2.1)->((T.ok (T.sl (T.p (T.int IntKind.i64) (T.ns (T.sl (T.int IntKind.i64))))) s1.2.1.2.2)->(cnd (decide (s1.1.2.1<(((List.length ([]:List bo9)):Nat):Int))) (((0:Int)<=s1.1.2.1)/\((s1.1.2.1<(((List.length ([]:List bo9)):Nat):Int))/\(((List.length (List.getD ([]:List bo9) s1.1.2.1.toNat ((0:Int),([]:List Int))).2)<=1000000)/\((dz s1.2.1.1.length 1 1)/\((inK IntKind.i64 (s1.1.2.1+(1:Int)))/\(next (((),((s1.1.2.1+(1:Int)),())),(((ig T.str (T.int IntKind.i64) s1.2.1.1 (vw (((List.getD ([]:List bo9) s1.1.2.1.toNat ((0:Int),([]:List Int))).1::([]:List Int))::((List.getD ([]:List bo9) s1.1.2.1.toNat ((0:Int),([]:List Int))).2::([]:List (List Int))))) s1.1.2.1),s1.2.1.2),())))))))) (((0:Int)<=(((List.length ([]:List bo9)):Nat):Int))/\(((((List.length ([]:List bo9)):Nat):Int)<=(1099511627776:Int))/\(be (S:=((Unit×bpa)×(((List (ByteArray×Int))×((List Int)×(List (Int×(Option (List Int))))))×bpb))) (fun s2=>(fun next1=>((inK IntKind.i64 s2.1.2.2.1)->((T.ok (T.mp T.str (T.int IntKind.i64)) s2.2.1.1)->((T.ok (T.sl (T.int IntKind.i64)) s2.2.1.2.1)->((T.ok (T.sl (T.p (T.int IntKind.i64) (T.ns (T.sl (T.int IntKind.i64))))) s2.2.1.2.2)->((T.ok (T.sl (T.int IntKind.i64)) s2.2.2.1)->(cnd (decide (s2.1.2.2.1<(((List.length ([]:List bo9)):Nat):Int))) (((0:Int)<=s2.1.2.2.1)/\((s2.1.2.2.1<(((List.length ([]:List bo9)):Nat):Int))/\(be (S:=((Unit×bpf)×(((List (ByteArray×Int))×((List Int)×(List (Int×(Option (List Int))))))×bpm))) (fun s3=>(fun next2=>((inK IntKind.i64 s3.1.2.2.2.2.1)->((T.ok (T.mp T.str (T.int IntKind.i64)) s3.2.1.1)->((T.ok (T.sl (T.int IntKind.i64)) s3.2.1.2.1)->((T.ok (T.sl (T.p (T.int IntKind.i64) (T.ns (T.sl (T.int IntKind.i64))))) s3.2.1.2.2)->((T.ok (T.sl (T.int IntKind.i64)) s3.2.2.1)->((inK IntKind.i64 s3.2.2.2.1)->((inK IntKind.i64 s3.2.2.2.2.1.1)->((T.ok (T.sl (T.int IntKind.i64)) s3.2.2.2.2.1.2)->(cnd (decide (s3.1.2.2.2.2.1<((s.2.2.2.1.length:Nat):Int))) (((0:Int)<=s3.1.2.2.2.2.1)/\((s3.1.2.2.2.2.1<((s.2.2.2.1.length:Nat):Int))/\(((0:Int)<=s3.1.2.2.2.2.1)/\((s3.1.2.2.2.2.1<((s.2.2.2.2.length:Nat):Int))/\((VisP s s3.2.2.2.2.1 (s.2.2.2.1.getD s3.1.2.2.2.2.1.toNat ((0:Int),([]:List Int))) (s.2.2.2.2.getD s3.1.2.2.2.2.1.toNat ((0:Int),([]:List Int))) s3.2.2.2.1 (s3.2.1.1,(s3.2.1.2.1,(l7 s3.2.1.2.2))) s3.2.2.2.2.1 s3.2.2.1)/\((inK IntKind.i64 (s3.1.2.2.2.2.1+(1:Int)))/\(next2 (((),((),((),((),((s3.1.2.2.2.2.1+(1:Int)),()))))),(s3.2.1,((qk s s3.2.2.2.2.1 (s.2.2.2.1.getD s3.1.2.2.2.2.1.toNat ((0:Int),([]:List Int))) (s.2.2.2.2.getD s3.1.2.2.2.2.1.toNat ((0:Int),([]:List Int))) s3.2.2.2.1 (s3.2.1.1,(s3.2.1.2.1,(l7 s3.2.1.2.2))) s3.2.2.2.2.1 (s3.2.2.2.2.1.2.length+1) s3.2.2.1),(s3.2.2.2.1,(s3.2.2.2.2.1,())))))))))))) ((inK IntKind.i64 (s2.1.2.2.1+(1:Int)))/\(next1 (((),((),((s2.1.2.2.1+(1:Int)),()))),(s3.2.1,(s3.2.2.1,())))))))))))))))) (((),((),((),((),((0:Int),()))))),(s2.2.1,(s2.2.2.1,(s2.1.2.2.1,((List.getD ([]:List bo9) s2.1.2.2.1.toNat ((0:Int),([]:List Int))),())))))))) ((UfP s2.2.2.1)/\((s2.2.2.1.length<=1099511627776)/\(((List.length (bp (cy s2.2.2.1)))<=1099511627776)/\(((bh (bp (cy s2.2.2.1)) (1099511627776:Int))=Bool.true)/\(((0:Int)<=(eh (bp (cy s2.2.2.1))))/\(((eh (bp (cy s2.2.2.1)))<=(eh (bp (cy s2.2.2.1))))/\(((eh (bp (cy s2.2.2.1)))<=((140737488355328:Nat):Int))/\((((eh (bp (cy s2.2.2.1)))*((32:Nat):Int))<=((140737488355328:Nat):Int))/\((inK IntKind.i64 ((((List.length ([]:List bo9)):Nat):Int)-(1:Int)))/\(be (S:=(bpa×(((List (ByteArray×Int))×((List Int)×(List (Int×(Option (List Int))))))×Unit))) (fun s3=>(fun next2=>((inK IntKind.i64 s3.1.2.1)->((T.ok (T.mp T.str (T.int IntKind.i64)) s3.2.1.1)->((T.ok (T.sl (T.int IntKind.i64)) s3.2.1.2.1)->((T.ok (T.sl (T.p (T.int IntKind.i64) (T.ns (T.sl (T.int IntKind.i64))))) s3.2.1.2.2)->(cnd (decide ((0:Int)<=s3.1.2.1)) (((0:Int)<=s3.1.2.1)/\((s3.1.2.1<((s3.2.1.2.1.length:Nat):Int))/\(((0:Int)<=(s3.2.1.2.1.getD s3.1.2.1.toNat (0:Int)))/\(((s3.2.1.2.1.getD s3.1.2.1.toNat (0:Int))<((s3.2.1.2.2.length:Nat):Int))/\(((aeq (s3.2.1.2.2.getD (Int.toNat (s3.2.1.2.1.getD s3.1.2.1.toNat (0:Int))) ((0:Int),(none:Option (List Int)))).2)=Bool.true)/\((((Option.isNone (s3.2.1.2.2.getD (Int.toNat (s3.2.1.2.1.getD s3.1.2.1.toNat (0:Int))) ((0:Int),(none:Option (List Int)))).2)=Bool.false)->((s3.1.2.1<(((List.length ([]:List bo9)):Nat):Int))/\((0:Int)<=s3.1.2.1)))/\((((Option.isNone (s3.2.1.2.2.getD (Int.toNat (s3.2.1.2.1.getD s3.1.2.1.toNat (0:Int))) ((0:Int),(none:Option (List Int)))).2)=Bool.false)->(((s3.2.1.2.1.getD s3.1.2.1.toNat (0:Int))<((s3.2.1.2.2.length:Nat):Int))/\((0:Int)<=(s3.2.1.2.1.getD s3.1.2.1.toNat (0:Int)))))/\((((Option.isNone (s3.2.1.2.2.getD (Int.toNat (s3.2.1.2.1.getD s3.1.2.1.toNat (0:Int))) ((0:Int),(none:Option (List Int)))).2)=Bool.false)->(((List.length (Option.getD (s3.2.1.2.2.getD (Int.toNat (s3.2.1.2.1.getD s3.1.2.1.toNat (0:Int))) ((0:Int),(none:Option (List Int)))).2 ([]:List Int)))<=1000000)/\((List.length (List.getD ([]:List bo9) s3.1.2.1.toNat ((0:Int),([]:List Int))).2)<=1000000)))/\(ic (S:=((Unit×Unit)×(((List (ByteArray×Int))×((List Int)×(List (Int×(Option (List Int))))))×Unit))) (fun s4=>((T.ok (T.mp T.str (T.int IntKind.i64)) s4.2.1.1)->((T.ok (T.sl (T.int IntKind.i64)) s4.2.1.2.1)->((T.ok (T.sl (T.p (T.int IntKind.i64) (T.ns (T.sl (T.int IntKind.i64))))) s4.2.1.2.2)->((inK IntKind.i64 (s3.1.2.1-(1:Int)))/\(next2 (((),((s3.1.2.1-(1:Int)),())),(s4.2.1,())))))))) (fun k=>(cnd ((Option.isNone (s3.2.1.2.2.getD (Int.toNat (s3.2.1.2.1.getD s3.1.2.1.toNat (0:Int))) ((0:Int),(none:Option (List Int)))).2)||(decide ((qd (List.getD ([]:List bo9) s3.1.2.1.toNat ((0:Int),([]:List Int))) ((s3.2.1.2.2.getD (Int.toNat (s3.2.1.2.1.getD s3.1.2.1.toNat (0:Int))) ((0:Int),(none:Option (List Int)))).1,(Option.getD (s3.2.1.2.2.getD (Int.toNat (s3.2.1.2.1.getD s3.1.2.1.toNat (0:Int))) ((0:Int),(none:Option (List Int)))).2 ([]:List Int))))<(0:Int)))) (((0:Int)<=s3.1.2.1)/\((s3.1.2.1<(((List.length ([]:List bo9)):Nat):Int))/\(((0:Int)<=s3.1.2.1)/\((s3.1.2.1<(((List.length ([]:List bo9)):Nat):Int))/\(((List.length (List.getD ([]:List bo9) s3.1.2.1.toNat ((0:Int),([]:List Int))).2)<=1099511627776)/\(((0:Int)<=(s3.2.1.2.1.getD s3.1.2.1.toNat (0:Int)))/\(((s3.2.1.2.1.getD s3.1.2.1.toNat (0:Int))<((s3.2.1.2.2.length:Nat):Int))/\(k (((),()),((s3.2.1.1,(s3.2.1.2.1,(List.set s3.2.1.2.2 (Int.toNat (s3.2.1.2.1.getD s3.1.2.1.toNat (0:Int))) ((List.getD ([]:List bo9) s3.1.2.1.toNat ((0:Int),([]:List Int))).1,(Option.some (List.getD ([]:List bo9) s3.1.2.1.toNat ((0:Int),([]:List Int))).2))))),())))))))))) (k (((),()),(s3.2.1,())))))))))))))) (be (S:=(bpn×(((List (ByteArray×Int))×((List Int)×(List (Int×(Option (List Int))))))×Unit))) (fun s4=>(fun next3=>((inK IntKind.i64 s4.1.2.1)->((T.ok (T.mp T.str (T.int IntKind.i64)) s4.2.1.1)->((T.ok (T.sl (T.int IntKind.i64)) s4.2.1.2.1)->((T.ok (T.sl (T.p (T.int IntKind.i64) (T.ns (T.sl (T.int IntKind.i64))))) s4.2.1.2.2)->(cnd (decide (s4.1.2.1<((s3.2.1.2.2.length:Nat):Int))) (((0:Int)<=s4.1.2.1)/\((s4.1.2.1<((s4.2.1.2.2.length:Nat):Int))/\(cnd ((((List.length (Option.getD (s4.2.1.2.2.getD s4.1.2.1.toNat ((0:Int),(none:Option (List Int)))).2 ([]:List Int))):Nat):Int)==(6:Int)) False ((inK IntKind.i64 (s4.1.2.1+(1:Int)))/\(next3 (((),((s4.1.2.1+(1:Int)),((),()))),(s4.2.1,()))))))) (K ((s4.2.1.1,(s4.2.1.2.1,(l7 s4.2.1.2.2))),(Bool.false,())))))))))) (((),((0:Int),((),()))),(s3.2.1,())))))))))) (((),(((((List.length ([]:List bo9)):Nat):Int)-(1:Int)),())),((s2.2.1.1,((bp (cy s2.2.2.1)),(List.replicate (Int.toNat (eh (bp (cy s2.2.2.1)))) ((0:Int),(none:Option (List Int)))))),())))))))))))))))))))) (((),((),((0:Int),()))),(s1.2.1,((dc (((List.length ([]:List bo9)):Nat):Int)),()))))))))))))) (((),((0:Int),())),((([]:List (ByteArray×Int)),(([]:List Int),([]:List (Int×(Option (List Int)))))),()))))))))))
theorem adt(s:ab)(hok:ae (okL ef.args (s,())))(hpre:ae (ef.pre (s,()))):pn s (fun r=>r=ef.res (s,())):=by
 simp only[ef,o6,jb,okL,T.oks,T.ok,ap,ae,a0e,a0c,a0i]at hok hpre
 try dsimp only[T.den]at hok hpre
 unfold pn;obtain⟨hs,hS⟩:=hpre;clear hok;obtain⟨s0,s8,f8,tf,_,_,e8,re,_⟩:=mr hS;unfold n5 at hs;rw[a0a]at hs;obtain⟨hg,hs⟩:=hs;simp only[ef,o6,jb,pcR,lsA,js];refine bc (fun _=>⟨hg,s0,by omega,by omega,tf,bc (fun h=>by cases h) (fun _=>?_)⟩) (fun h=>by rw[hg]at h;cases h);have H:=abv s0 (by omega) hg;have hlA:lsA s (bw s).1=lsD (js s (bw s).1) (bw s).1 (bw s).1.length:=rfl;have hcA:js s (bw s).1=bp (cy (jW s (fm (bw s).1 (bw s).1.length,([],[])) (bw s).1 (bw s).1.length)):=rfl;rw[hlA,hcA]at hs;clear hlA hcA;generalize (bw s).1=L at *;have hl4:=H.le;have hpl:∀i:Int,0<=i->i<L.length->(L.getD i.toNat (0,[])).2.length<=6:=fun i i0 i1=>(iv (H.ok _ (ja (i:=i.toNat) (by omega)))).2.1;refine br (fun (q:(bpa×(((List (ByteArray×Int))×((List Int)×(List (Int×(Option (List Int))))))×Unit)))=>0<=q.1.2.1/\q.1.2.1<=L.length/\q.2.1=(fm L q.1.2.1.toNat,([],[]))) (fun (q:(bpa×(((List (ByteArray×Int))×((List Int)×(List (Int×(Option (List Int))))))×Unit)))=>(L.length-q.1.2.1).toNat) ?_ ⟨a0r _,by dsimp only;omega,rfl⟩;rintro⟨⟨_,i,_⟩,k,_⟩ next ⟨i0,i1,q⟩ hnx
 intros
 try dsimp only at i0 i1 q hnx⊢
 subst q
 try dsimp only
 refine aq (fun hi=>?_) (fun hi=>?_)
 ·have hp:=hpl i i0 hi;refine⟨i0,hi,by omega,da (by have:=apg L i.toNat;omega),by rw[al];(try dsimp only);omega,hnx _ ⟨by dsimp only;omega,by dsimp only;omega,?_⟩ (by dsimp only;omega)⟩
  try dsimp only
  rw[show (i+1).toNat=i.toNat+1 from by omega];simp only[fm];rw[a1y i0]
 clear hnx;have e:i=L.length:=by omega
 subst e;rw[a0m];refine⟨by omega,by omega,?_⟩;have P:SetP s L (fm L L.length,([],[])):=⟨hS,H,rfl⟩;refine br (fun (q:((Unit×bpa)×(((List (ByteArray×Int))×((List Int)×(List (Int×(Option (List Int))))))×bpb)))=>0<=q.1.2.2.1/\q.1.2.2.1<=L.length/\q.2.1=(fm L L.length,([],[]))/\q.2.2.1=jW s (fm L L.length,([],[])) L q.1.2.2.1.toNat) (fun (q:((Unit×bpa)×(((List (ByteArray×Int))×((List Int)×(List (Int×(Option (List Int))))))×bpb)))=>(L.length-q.1.2.2.1).toNat) ?_ ⟨a0r _,by dsimp only;omega,rfl,rfl⟩;rintro⟨⟨_,_,w,_⟩,k,j,_⟩ next1 ⟨w0,w1,q1,q2⟩ hn1;intros
 try dsimp only at w0 w1 q1 q2 hn1⊢
 subst q1;subst q2;have Q:=aq6 P w.toNat (by omega);refine aq (fun hw=>?_) (fun hw=>?_)
 ·refine⟨w0,hw,?_⟩;refine br (fun (q:((Unit×bpf)×(((List (ByteArray×Int))×((List Int)×(List (Int×(Option (List Int))))))×bpm)))=>0<=q.1.2.2.2.2.1/\q.1.2.2.2.2.1<=s.2.2.2.1.length/\q.2.1=(fm L L.length,([],[]))/\q.2.2.1=jE s (fm L L.length,([],[])) (L.getD w.toNat (0,[])) w q.1.2.2.2.2.1.toNat (jW s (fm L L.length,([],[])) L w.toNat)/\q.2.2.2.1=w/\q.2.2.2.2.1=L.getD w.toNat (0,[])) (fun (q:((Unit×bpf)×(((List (ByteArray×Int))×((List Int)×(List (Int×(Option (List Int))))))×bpm)))=>(s.2.2.2.1.length-q.1.2.2.2.2.1).toNat) ?_ ⟨a0r _,by dsimp only;omega,rfl,rfl,rfl,rfl⟩;rintro⟨⟨_,_,_,_,e,_⟩,k,j,w',p,_⟩ next2 ⟨e0,e1,q1,q2,q3,q4⟩ hn2;intros
  try dsimp only at e0 e1 q1 q2 q3 q4 hn2⊢
  subst q1;subst q2;subst q3;subst q4;refine aq (fun he=>?_) (fun he=>?_)
  ·have Qe:=av8 P Q (w:=w'.toNat) (by omega) e.toNat (by omega);rw[a1y w0]at Qe;refine⟨e0,he,e0,by omega,bhc P Qe w0 hw e0 he,by rw[al];(try dsimp only);omega,hn2 _ ⟨by dsimp only;omega,by dsimp only;omega,rfl,?_,rfl,rfl⟩ (by dsimp only;omega)⟩
   try dsimp only
   rw[show (e+1).toNat=e.toNat+1 from by omega];rfl
  ·have ee:e=s.2.2.2.1.length:=by omega
   subst ee;refine⟨by rw[al];(try dsimp only);omega,hn1 _ ⟨by dsimp only;omega,by dsimp only;omega,rfl,?_⟩ (by dsimp only;omega)⟩
   try dsimp only
   rw[show (w'+1).toNat=w'.toNat+1 from by omega];simp only[jW];rw[a1y w0,a0m]
 clear hn1;have e:w=L.length:=by omega
 subst e;rw[a0m]at Q⊢;have C:=arg Q;have hjl:=Q.n;generalize hc:bp (cy (jW s (fm L L.length,([],[])) L L.length))=c at *;have hcn:=C.n;obtain⟨cl0,cl1⟩:=C.le;refine⟨Q.U,by omega,by omega,kt.2 fun i i0 i1=>?_,cl0,a0r _,by omega,by omega,by rw[al];(try dsimp only);omega,?_⟩
 ·have:=C.r i i0 (by omega);exact⟨this.1,by omega⟩
 refine br (fun (q:(bpa×(((List (ByteArray×Int))×((List Int)×(List (Int×(Option (List Int))))))×Unit)))=>-1<=q.1.2.1/\q.1.2.1<=(L.length:Int)-1/\q.2.1=(fm L L.length,(c,lsD c L ((L.length:Int)-1-q.1.2.1).toNat))) (fun (q:(bpa×(((List (ByteArray×Int))×((List Int)×(List (Int×(Option (List Int))))))×Unit)))=>(q.1.2.1+1).toNat) ?_ ⟨by dsimp only;omega,a0r _,by dsimp only;rw[show ((L.length:Int)-1-((L.length:Int)-1)).toNat=0 from by omega];rfl⟩;rintro⟨⟨_,i,_⟩,k,_⟩ next2 ⟨i0,i1,q⟩ hn2;intros
 try dsimp only at i0 i1 q hn2⊢
 subst q
 try dsimp only
 have P4:=ajp C ((L.length:Int)-1-i).toNat (by omega);rw[show (L.length:Int)-(((L.length:Int)-1-i).toNat:Int)=i+1 from by omega]at P4;have hln:=P4.n;refine aq (fun hi=>?_) (fun hi=>?_)
 ·have hi1:i<L.length:=by omega
  have hr:=C.r i hi hi1;have hT:=axj H C P4 hi hi1;have hs4:lsD c L ((L.length:Int)-1-(i-1)).toNat=lsS c L i.toNat (lsD c L ((L.length:Int)-1-i).toNat):=by rw[show ((L.length:Int)-1-(i-1)).toNat=((L.length:Int)-1-i).toNat+1 from by omega,lsD,show L.length-1-((L.length:Int)-1-i).toNat=i.toNat from by omega]
  have hes:(((lsD c L ((L.length:Int)-1-i).toNat).getD (c.getD i.toNat 0).toNat (0,none)).2.getD []).length<=6:=by
   generalize hq:(lsD c L ((L.length:Int)-1-i).toNat).getD (c.getD i.toNat 0).toNat (0,none)=q;obtain⟨x,o⟩:=q
   cases o with
   |none=>simp
   |some es=>obtain⟨a,_,a0,a1,_,h5⟩:=P4.v _ x es hq;have:=hpl a a0 a1;rw[h5]at this;exact this
  generalize lsD c L ((L.length:Int)-1-i).toNat=l at *;refine⟨hi,by omega,hr.1,by omega,hT,fun _=>⟨by omega,hi⟩,fun _=>⟨by omega,hr.1⟩,fun _=>⟨by omega,by have:=hpl i hi hi1;omega⟩,g6 (fun (q:((Unit×Unit)×(((List (ByteArray×Int))×((List Int)×(List (Int×(Option (List Int))))))×Unit)))=>q.2.1=(fm L L.length,(c,lsS c L i.toNat l))) ?_ ?_⟩
  ·rintro⟨_,k,_⟩ q;intros
   try dsimp only at q⊢
   subst q;exact⟨by rw[al];(try dsimp only);omega,hn2 _ ⟨by dsimp only;omega,by dsimp only;omega,by dsimp only;rw[hs4]⟩ (by dsimp only;omega)⟩
  ·intro kk hk;refine bc (fun hb=>?_) (fun hb=>?_)
   ·refine⟨hi,hi1,hi,hi1,by have:=hpl i hi hi1;omega,hr.1,by omega,hk _ ?_⟩
    try dsimp only
    unfold lsS;rw[d0 hb]
   ·refine hk _ ?_
    try dsimp only
    unfold lsS;rw[ds (by rw[hb];decide)]
 clear hn2;have e:i=-1:=by omega
 subst e;have e:((L.length:Int)-1-(-1)).toNat=L.length:=by omega
 rw[e]at P4 hln⊢;generalize hl:lsD c L L.length=l at *;refine br (fun (q:(bpn×(((List (ByteArray×Int))×((List Int)×(List (Int×(Option (List Int))))))×Unit)))=>0<=q.1.2.1/\q.1.2.1<=l.length/\q.2.1=(fm L L.length,(c,l))/\∀b:Int,0<=b->b<q.1.2.1->((l.getD b.toNat (0,none)).2.getD []).length≠6) (fun (q:(bpn×(((List (ByteArray×Int))×((List Int)×(List (Int×(Option (List Int))))))×Unit)))=>(l.length-q.1.2.1).toNat) ?_ ⟨a0r _,by dsimp only;omega,rfl,fun b b0 b1=>by dsimp only at b1;omega⟩;rintro⟨⟨_,a,_⟩,k,_⟩ next3 ⟨a0,a1,q,hno⟩ hn3;intros
 try dsimp only at a0 a1 q hno hn3⊢
 subst q
 try dsimp only
 refine aq (fun ha=>?_) (fun ha=>?_)
 ·refine⟨a0,ha,bc (fun h6=>?_) (fun h6=>?_)⟩
  ·have h6:=a1s h6;have h6:((l.getD a.toNat (0,none)).2.getD []).length=6:=by omega
   exact absurd h6 (azo.1 hs a a0 ha)
  ·have h6:=a17.1 h6;refine⟨by rw[al];(try dsimp only);omega,hn3 _ ⟨by dsimp only;omega,by dsimp only;omega,rfl,fun b b0 b1=>?_⟩ (by dsimp only;omega)⟩
   try dsimp only at b1
   by_cases e:b=a
   ·subst e;omega
   ·exact hno b b0 (by omega)
 ·have ea:a=l.length:=by omega
  subst ea;subst hl;rfl
theorem abh:bz Tryz.prog 92 ef:=ci (Φ:=lkp [(113,tv),(110,wn),(116,sm),(117,eg),(77,jv),(118,gj),(112,mi),(111,j7),(114,ml)]) (ai yn (ai aa9 (ai xw (ai ww (ai sv (ai vj (ai afm (ai wy (ai pc ao))))))))) axv (by kernel_rfl) (fn:=Tryz.f92) (c:=bg Tryz.f92) (by kernel_rfl) (by kernel_rfl) (by kernel_rfl) ef rfl (.s .n (.s .n (.s .n (.s .n (.s (.s .n (.l [(6,(.bx (.ad 27 [.de]))),(30,(.d (.int .i64)))] [(27,(.pt (.p (.mp .str (.int .i64)) (.p (.sl (.fz (.int .i64))) (.sl (.fz (.p (.int .i64) (.ns (.sl (.int .i64))))))))))] [0,4,28,29] .n)) (.s .n (.s (.s .n (.l [(6,(.bx (.ad 27 [.de]))),(9,(.ad 9 [.de])),(51,(.d (.int .i64)))] [(27,(.pt (.p (.mp .str (.int .i64)) (.p (.sl (.fz (.int .i64))) (.sl (.fz (.p (.int .i64) (.ns (.sl (.int .i64)))))))))),(9,(.pt (.sl (.fz (.int .i64)))))] [0,4,49,50] (.s .n (.s .n (.s (.s .n (.s .n (.l [(6,(.bx (.ad 27 [.de]))),(9,(.ad 9 [.de])),(10,(.ad 10 [.de])),(11,(.ad 11 [.de])),(61,(.d (.int .i64)))] [(27,(.pt (.p (.mp .str (.int .i64)) (.p (.sl (.fz (.int .i64))) (.sl (.fz (.p (.int .i64) (.ns (.sl (.int .i64)))))))))),(9,(.pt (.sl (.fz (.int .i64))))),(10,(.pt (.fz (.int .i64)))),(11,(.pt (.fz (.p (.int .i64) (.sl (.int .i64))))))] [0,4,49,50,51,60] .n))) .n))))) (.s .n (.s .n (.s (.s .n (.l [(6,(.bx (.ad 27 [.de]))),(13,(.d (.int .i64)))] [(27,(.pt (.p (.mp .str (.int .i64)) (.p (.sl (.fz (.int .i64))) (.sl (.fz (.p (.int .i64) (.ns (.sl (.int .i64))))))))))] [4] (.s .n (.s (.s .n (.s .n (.j [(6,(.bx (.ad 27 [.de])))] [(27,(.pt (.p (.mp .str (.int .i64)) (.p (.sl (.fz (.int .i64))) (.sl (.fz (.p (.int .i64) (.ns (.sl (.int .i64))))))))))] [4,13] .n))) .n)))) (.s (.s .n (.l [(6,(.bx (.ad 27 [.de]))),(159,(.d (.int .i64))),(157,(.ref 27 [.de,.r,.r]))] [(27,(.pt (.p (.mp .str (.int .i64)) (.p (.sl (.fz (.int .i64))) (.sl (.fz (.p (.int .i64) (.ns (.sl (.int .i64))))))))))] [158] .n)) .n))))))))))) (cu [(17,17),(1,1500),(20,280002),(21,507),(8,10),(26,21),(27,517)]) (by kernel_rfl) (by kernel_rfl) (by kernel_rfl) (by decide) (fun x K=>pn x.1 K) (fun _ _=>by kernel_rfl) (fun x h1 h2=>adt x.1 h1 h2)
def pw(s:ab)(K:jc fy.rt->Prop):Prop:=(cnd (bw s).2 (((bw s).2=Bool.true)/\(((0:Int)<=s.1)/\((s.1<=(400:Int))/\((s.2.1.length<=1000000)/\((s.2.2.1.length=s.2.1.length)/\(cnd Bool.false (K ((),(Bool.false,()))) (be (S:=(bpa×(((List (ByteArray×Int))×((List Int)×(List (Int×(Option (List Int))))))×Unit))) (fun s1=>(fun next=>((inK IntKind.i64 s1.1.2.1)->((T.ok (T.mp T.str (T.int IntKind.i64)) s1.2.1.1)->((T.ok (T.sl (T.int IntKind.i64)) s1.2.1.2.1)->((T.ok (T.sl (T.p (T.int IntKind.i64) (T.ns (T.sl (T.int IntKind.i64))))) s1.2.1.2.2)->(cnd (decide (s1.1.2.1<(((List.length (bw s).1):Nat):Int))) (((0:Int)<=s1.1.2.1)/\((s1.1.2.1<(((List.length (bw s).1):Nat):Int))/\(((List.length (List.getD (bw s).1 s1.1.2.1.toNat ((0:Int),([]:List Int))).2)<=1000000)/\((dz s1.2.1.1.length 1 1)/\((inK IntKind.i64 (s1.1.2.1+(1:Int)))/\(next (((),((s1.1.2.1+(1:Int)),())),(((ig T.str (T.int IntKind.i64) s1.2.1.1 (vw (((List.getD (bw s).1 s1.1.2.1.toNat ((0:Int),([]:List Int))).1::([]:List Int))::((List.getD (bw s).1 s1.1.2.1.toNat ((0:Int),([]:List Int))).2::([]:List (List Int))))) s1.1.2.1),s1.2.1.2),())))))))) (((0:Int)<=(((List.length (bw s).1):Nat):Int))/\(((((List.length (bw s).1):Nat):Int)<=(1099511627776:Int))/\(be (S:=((Unit×bpa)×(((List (ByteArray×Int))×((List Int)×(List (Int×(Option (List Int))))))×bpb))) (fun s2=>(fun next1=>((inK IntKind.i64 s2.1.2.2.1)->((T.ok (T.mp T.str (T.int IntKind.i64)) s2.2.1.1)->((T.ok (T.sl (T.int IntKind.i64)) s2.2.1.2.1)->((T.ok (T.sl (T.p (T.int IntKind.i64) (T.ns (T.sl (T.int IntKind.i64))))) s2.2.1.2.2)->((T.ok (T.sl (T.int IntKind.i64)) s2.2.2.1)->(cnd (decide (s2.1.2.2.1<(((List.length (bw s).1):Nat):Int))) (((0:Int)<=s2.1.2.2.1)/\((s2.1.2.2.1<(((List.length (bw s).1):Nat):Int))/\(be (S:=((Unit×bpf)×(((List (ByteArray×Int))×((List Int)×(List (Int×(Option (List Int))))))×bpm))) (fun s3=>(fun next2=>((inK IntKind.i64 s3.1.2.2.2.2.1)->((T.ok (T.mp T.str (T.int IntKind.i64)) s3.2.1.1)->((T.ok (T.sl (T.int IntKind.i64)) s3.2.1.2.1)->((T.ok (T.sl (T.p (T.int IntKind.i64) (T.ns (T.sl (T.int IntKind.i64))))) s3.2.1.2.2)->((T.ok (T.sl (T.int IntKind.i64)) s3.2.2.1)->((inK IntKind.i64 s3.2.2.2.1)->((inK IntKind.i64 s3.2.2.2.2.1.1)->((T.ok (T.sl (T.int IntKind.i64)) s3.2.2.2.2.1.2)->(cnd (decide (s3.1.2.2.2.2.1<((s.2.2.2.1.length:Nat):Int))) (((0:Int)<=s3.1.2.2.2.2.1)/\((s3.1.2.2.2.2.1<((s.2.2.2.1.length:Nat):Int))/\(((0:Int)<=s3.1.2.2.2.2.1)/\((s3.1.2.2.2.2.1<((s.2.2.2.2.length:Nat):Int))/\((VisP s s3.2.2.2.2.1 (s.2.2.2.1.getD s3.1.2.2.2.2.1.toNat ((0:Int),([]:List Int))) (s.2.2.2.2.getD s3.1.2.2.2.2.1.toNat ((0:Int),([]:List Int))) s3.2.2.2.1 (s3.2.1.1,(s3.2.1.2.1,(l7 s3.2.1.2.2))) s3.2.2.2.2.1 s3.2.2.1)/\((inK IntKind.i64 (s3.1.2.2.2.2.1+(1:Int)))/\(next2 (((),((),((),((),((s3.1.2.2.2.2.1+(1:Int)),()))))),(s3.2.1,((qk s s3.2.2.2.2.1 (s.2.2.2.1.getD s3.1.2.2.2.2.1.toNat ((0:Int),([]:List Int))) (s.2.2.2.2.getD s3.1.2.2.2.2.1.toNat ((0:Int),([]:List Int))) s3.2.2.2.1 (s3.2.1.1,(s3.2.1.2.1,(l7 s3.2.1.2.2))) s3.2.2.2.2.1 (s3.2.2.2.2.1.2.length+1) s3.2.2.1),(s3.2.2.2.1,(s3.2.2.2.2.1,())))))))))))) ((inK IntKind.i64 (s2.1.2.2.1+(1:Int)))/\(next1 (((),((),((s2.1.2.2.1+(1:Int)),()))),(s3.2.1,(s3.2.2.1,())))))))))))))))) (((),((),((),((),((0:Int),()))))),(s2.2.1,(s2.2.2.1,(s2.1.2.2.1,((List.getD (bw s).1 s2.1.2.2.1.toNat ((0:Int),([]:List Int))),())))))))) ((UfP s2.2.2.1)/\((s2.2.2.1.length<=1099511627776)/\(((List.length (bp (cy s2.2.2.1)))<=1099511627776)/\(((bh (bp (cy s2.2.2.1)) (1099511627776:Int))=Bool.true)/\(((0:Int)<=(eh (bp (cy s2.2.2.1))))/\(((eh (bp (cy s2.2.2.1)))<=(eh (bp (cy s2.2.2.1))))/\(((eh (bp (cy s2.2.2.1)))<=((140737488355328:Nat):Int))/\((((eh (bp (cy s2.2.2.1)))*((32:Nat):Int))<=((140737488355328:Nat):Int))/\((inK IntKind.i64 ((((List.length (bw s).1):Nat):Int)-(1:Int)))/\(be (S:=(bpa×(((List (ByteArray×Int))×((List Int)×(List (Int×(Option (List Int))))))×Unit))) (fun s3=>(fun next2=>((inK IntKind.i64 s3.1.2.1)->((T.ok (T.mp T.str (T.int IntKind.i64)) s3.2.1.1)->((T.ok (T.sl (T.int IntKind.i64)) s3.2.1.2.1)->((T.ok (T.sl (T.p (T.int IntKind.i64) (T.ns (T.sl (T.int IntKind.i64))))) s3.2.1.2.2)->(cnd (decide ((0:Int)<=s3.1.2.1)) (((0:Int)<=s3.1.2.1)/\((s3.1.2.1<((s3.2.1.2.1.length:Nat):Int))/\(((0:Int)<=(s3.2.1.2.1.getD s3.1.2.1.toNat (0:Int)))/\(((s3.2.1.2.1.getD s3.1.2.1.toNat (0:Int))<((s3.2.1.2.2.length:Nat):Int))/\(((aeq (s3.2.1.2.2.getD (Int.toNat (s3.2.1.2.1.getD s3.1.2.1.toNat (0:Int))) ((0:Int),(none:Option (List Int)))).2)=Bool.true)/\((((Option.isNone (s3.2.1.2.2.getD (Int.toNat (s3.2.1.2.1.getD s3.1.2.1.toNat (0:Int))) ((0:Int),(none:Option (List Int)))).2)=Bool.false)->((s3.1.2.1<(((List.length (bw s).1):Nat):Int))/\((0:Int)<=s3.1.2.1)))/\((((Option.isNone (s3.2.1.2.2.getD (Int.toNat (s3.2.1.2.1.getD s3.1.2.1.toNat (0:Int))) ((0:Int),(none:Option (List Int)))).2)=Bool.false)->(((s3.2.1.2.1.getD s3.1.2.1.toNat (0:Int))<((s3.2.1.2.2.length:Nat):Int))/\((0:Int)<=(s3.2.1.2.1.getD s3.1.2.1.toNat (0:Int)))))/\((((Option.isNone (s3.2.1.2.2.getD (Int.toNat (s3.2.1.2.1.getD s3.1.2.1.toNat (0:Int))) ((0:Int),(none:Option (List Int)))).2)=Bool.false)->(((List.length (Option.getD (s3.2.1.2.2.getD (Int.toNat (s3.2.1.2.1.getD s3.1.2.1.toNat (0:Int))) ((0:Int),(none:Option (List Int)))).2 ([]:List Int)))<=1000000)/\((List.length (List.getD (bw s).1 s3.1.2.1.toNat ((0:Int),([]:List Int))).2)<=1000000)))/\(ic (S:=((Unit×Unit)×(((List (ByteArray×Int))×((List Int)×(List (Int×(Option (List Int))))))×Unit))) (fun s4=>((T.ok (T.mp T.str (T.int IntKind.i64)) s4.2.1.1)->((T.ok (T.sl (T.int IntKind.i64)) s4.2.1.2.1)->((T.ok (T.sl (T.p (T.int IntKind.i64) (T.ns (T.sl (T.int IntKind.i64))))) s4.2.1.2.2)->((inK IntKind.i64 (s3.1.2.1-(1:Int)))/\(next2 (((),((s3.1.2.1-(1:Int)),())),(s4.2.1,())))))))) (fun k=>(cnd ((Option.isNone (s3.2.1.2.2.getD (Int.toNat (s3.2.1.2.1.getD s3.1.2.1.toNat (0:Int))) ((0:Int),(none:Option (List Int)))).2)||(decide ((qd (List.getD (bw s).1 s3.1.2.1.toNat ((0:Int),([]:List Int))) ((s3.2.1.2.2.getD (Int.toNat (s3.2.1.2.1.getD s3.1.2.1.toNat (0:Int))) ((0:Int),(none:Option (List Int)))).1,(Option.getD (s3.2.1.2.2.getD (Int.toNat (s3.2.1.2.1.getD s3.1.2.1.toNat (0:Int))) ((0:Int),(none:Option (List Int)))).2 ([]:List Int))))<(0:Int)))) (((0:Int)<=s3.1.2.1)/\((s3.1.2.1<(((List.length (bw s).1):Nat):Int))/\(((0:Int)<=s3.1.2.1)/\((s3.1.2.1<(((List.length (bw s).1):Nat):Int))/\(((List.length (List.getD (bw s).1 s3.1.2.1.toNat ((0:Int),([]:List Int))).2)<=1099511627776)/\(((0:Int)<=(s3.2.1.2.1.getD s3.1.2.1.toNat (0:Int)))/\(((s3.2.1.2.1.getD s3.1.2.1.toNat (0:Int))<((s3.2.1.2.2.length:Nat):Int))/\(k (((),()),((s3.2.1.1,(s3.2.1.2.1,(List.set s3.2.1.2.2 (Int.toNat (s3.2.1.2.1.getD s3.1.2.1.toNat (0:Int))) ((List.getD (bw s).1 s3.1.2.1.toNat ((0:Int),([]:List Int))).1,(Option.some (List.getD (bw s).1 s3.1.2.1.toNat ((0:Int),([]:List Int))).2))))),())))))))))) (k (((),()),(s3.2.1,())))))))))))))) (be (S:=(bpn×(((List (ByteArray×Int))×((List Int)×(List (Int×(Option (List Int))))))×Unit))) (fun s4=>(fun next3=>((inK IntKind.i64 s4.1.2.1)->((T.ok (T.mp T.str (T.int IntKind.i64)) s4.2.1.1)->((T.ok (T.sl (T.int IntKind.i64)) s4.2.1.2.1)->((T.ok (T.sl (T.p (T.int IntKind.i64) (T.ns (T.sl (T.int IntKind.i64))))) s4.2.1.2.2)->(cnd (decide (s4.1.2.1<((s3.2.1.2.2.length:Nat):Int))) (((0:Int)<=s4.1.2.1)/\((s4.1.2.1<((s4.2.1.2.2.length:Nat):Int))/\(cnd ((((List.length (Option.getD (s4.2.1.2.2.getD s4.1.2.1.toNat ((0:Int),(none:Option (List Int)))).2 ([]:List Int))):Nat):Int)==(6:Int)) (K ((),(Bool.true,()))) ((inK IntKind.i64 (s4.1.2.1+(1:Int)))/\(next3 (((),((s4.1.2.1+(1:Int)),((),()))),(s4.2.1,()))))))) False))))))) (((),((0:Int),((),()))),(s3.2.1,())))))))))) (((),(((((List.length (bw s).1):Nat):Int)-(1:Int)),())),((s2.2.1.1,((bp (cy s2.2.2.1)),(List.replicate (Int.toNat (eh (bp (cy s2.2.2.1)))) ((0:Int),(none:Option (List Int)))))),())))))))))))))))))))) (((),((),((0:Int),()))),(s1.2.1,((dc (((List.length (bw s).1):Nat):Int)),()))))))))))))) (((),((0:Int),())),((([]:List (ByteArray×Int)),(([]:List Int),([]:List (Int×(Option (List Int)))))),()))))))))) (((bw s).2=Bool.false)/\(((0:Int)<=s.1)/\((s.1<=(400:Int))/\((s.2.1.length<=1000000)/\((s.2.2.1.length=s.2.1.length)/\(cnd Bool.true (K ((),(Bool.true,()))) (be (S:=(bpa×(((List (ByteArray×Int))×((List Int)×(List (Int×(Option (List Int))))))×Unit))) (fun s1=>(fun next=>((inK IntKind.i64 s1.1.2.1)->((T.ok (T.mp T.str (T.int IntKind.i64)) s1.2.1.1)->((T.ok (T.sl (T.int IntKind.i64)) s1.2.1.2.1)->((T.ok (T.sl (T.p (T.int IntKind.i64) (T.ns (T.sl (T.int IntKind.i64))))) s1.2.1.2.2)->(cnd (decide (s1.1.2.1<(((List.length ([]:List bo9)):Nat):Int))) (((0:Int)<=s1.1.2.1)/\((s1.1.2.1<(((List.length ([]:List bo9)):Nat):Int))/\(((List.length (List.getD ([]:List bo9) s1.1.2.1.toNat ((0:Int),([]:List Int))).2)<=1000000)/\((dz s1.2.1.1.length 1 1)/\((inK IntKind.i64 (s1.1.2.1+(1:Int)))/\(next (((),((s1.1.2.1+(1:Int)),())),(((ig T.str (T.int IntKind.i64) s1.2.1.1 (vw (((List.getD ([]:List bo9) s1.1.2.1.toNat ((0:Int),([]:List Int))).1::([]:List Int))::((List.getD ([]:List bo9) s1.1.2.1.toNat ((0:Int),([]:List Int))).2::([]:List (List Int))))) s1.1.2.1),s1.2.1.2),())))))))) (((0:Int)<=(((List.length ([]:List bo9)):Nat):Int))/\(((((List.length ([]:List bo9)):Nat):Int)<=(1099511627776:Int))/\(be (S:=((Unit×bpa)×(((List (ByteArray×Int))×((List Int)×(List (Int×(Option (List Int))))))×bpb))) (fun s2=>(fun next1=>((inK IntKind.i64 s2.1.2.2.1)->((T.ok (T.mp T.str (T.int IntKind.i64)) s2.2.1.1)->((T.ok (T.sl (T.int IntKind.i64)) s2.2.1.2.1)->((T.ok (T.sl (T.p (T.int IntKind.i64) (T.ns (T.sl (T.int IntKind.i64))))) s2.2.1.2.2)->((T.ok (T.sl (T.int IntKind.i64)) s2.2.2.1)->(cnd (decide (s2.1.2.2.1<(((List.length ([]:List bo9)):Nat):Int))) (((0:Int)<=s2.1.2.2.1)/\((s2.1.2.2.1<(((List.length ([]:List bo9)):Nat):Int))/\(be (S:=((Unit×bpf)×(((List (ByteArray×Int))×((List Int)×(List (Int×(Option (List Int))))))×bpm))) (fun s3=>(fun next2=>((inK IntKind.i64 s3.1.2.2.2.2.1)->((T.ok (T.mp T.str (T.int IntKind.i64)) s3.2.1.1)->((T.ok (T.sl (T.int IntKind.i64)) s3.2.1.2.1)->((T.ok (T.sl (T.p (T.int IntKind.i64) (T.ns (T.sl (T.int IntKind.i64))))) s3.2.1.2.2)->((T.ok (T.sl (T.int IntKind.i64)) s3.2.2.1)->((inK IntKind.i64 s3.2.2.2.1)->((inK IntKind.i64 s3.2.2.2.2.1.1)->((T.ok (T.sl (T.int IntKind.i64)) s3.2.2.2.2.1.2)->(cnd (decide (s3.1.2.2.2.2.1<((s.2.2.2.1.length:Nat):Int))) (((0:Int)<=s3.1.2.2.2.2.1)/\((s3.1.2.2.2.2.1<((s.2.2.2.1.length:Nat):Int))/\(((0:Int)<=s3.1.2.2.2.2.1)/\((s3.1.2.2.2.2.1<((s.2.2.2.2.length:Nat):Int))/\((VisP s s3.2.2.2.2.1 (s.2.2.2.1.getD s3.1.2.2.2.2.1.toNat ((0:Int),([]:List Int))) (s.2.2.2.2.getD s3.1.2.2.2.2.1.toNat ((0:Int),([]:List Int))) s3.2.2.2.1 (s3.2.1.1,(s3.2.1.2.1,(l7 s3.2.1.2.2))) s3.2.2.2.2.1 s3.2.2.1)/\((inK IntKind.i64 (s3.1.2.2.2.2.1+(1:Int)))/\(next2 (((),((),((),((),((s3.1.2.2.2.2.1+(1:Int)),()))))),(s3.2.1,((qk s s3.2.2.2.2.1 (s.2.2.2.1.getD s3.1.2.2.2.2.1.toNat ((0:Int),([]:List Int))) (s.2.2.2.2.getD s3.1.2.2.2.2.1.toNat ((0:Int),([]:List Int))) s3.2.2.2.1 (s3.2.1.1,(s3.2.1.2.1,(l7 s3.2.1.2.2))) s3.2.2.2.2.1 (s3.2.2.2.2.1.2.length+1) s3.2.2.1),(s3.2.2.2.1,(s3.2.2.2.2.1,())))))))))))) ((inK IntKind.i64 (s2.1.2.2.1+(1:Int)))/\(next1 (((),((),((s2.1.2.2.1+(1:Int)),()))),(s3.2.1,(s3.2.2.1,())))))))))))))))) (((),((),((),((),((0:Int),()))))),(s2.2.1,(s2.2.2.1,(s2.1.2.2.1,((List.getD ([]:List bo9) s2.1.2.2.1.toNat ((0:Int),([]:List Int))),())))))))) ((UfP s2.2.2.1)/\((s2.2.2.1.length<=1099511627776)/\(((List.length (bp (cy s2.2.2.1)))<=1099511627776)/\(((bh (bp (cy s2.2.2.1)) (1099511627776:Int))=Bool.true)/\(((0:Int)<=(eh (bp (cy s2.2.2.1))))/\(((eh (bp (cy s2.2.2.1)))<=(eh (bp (cy s2.2.2.1))))/\(((eh (bp (cy s2.2.2.1)))<=((140737488355328:Nat):Int))/\((((eh (bp (cy s2.2.2.1)))*((32:Nat):Int))<=((140737488355328:Nat):Int))/\((inK IntKind.i64 ((((List.length ([]:List bo9)):Nat):Int)-(1:Int)))/\(be (S:=(bpa×(((List (ByteArray×Int))×((List Int)×(List (Int×(Option (List Int))))))×Unit))) (fun s3=>(fun next2=>((inK IntKind.i64 s3.1.2.1)->((T.ok (T.mp T.str (T.int IntKind.i64)) s3.2.1.1)->((T.ok (T.sl (T.int IntKind.i64)) s3.2.1.2.1)->((T.ok (T.sl (T.p (T.int IntKind.i64) (T.ns (T.sl (T.int IntKind.i64))))) s3.2.1.2.2)->(cnd (decide ((0:Int)<=s3.1.2.1)) (((0:Int)<=s3.1.2.1)/\((s3.1.2.1<((s3.2.1.2.1.length:Nat):Int))/\(((0:Int)<=(s3.2.1.2.1.getD s3.1.2.1.toNat (0:Int)))/\(((s3.2.1.2.1.getD s3.1.2.1.toNat (0:Int))<((s3.2.1.2.2.length:Nat):Int))/\(((aeq (s3.2.1.2.2.getD (Int.toNat (s3.2.1.2.1.getD s3.1.2.1.toNat (0:Int))) ((0:Int),(none:Option (List Int)))).2)=Bool.true)/\((((Option.isNone (s3.2.1.2.2.getD (Int.toNat (s3.2.1.2.1.getD s3.1.2.1.toNat (0:Int))) ((0:Int),(none:Option (List Int)))).2)=Bool.false)->((s3.1.2.1<(((List.length ([]:List bo9)):Nat):Int))/\((0:Int)<=s3.1.2.1)))/\((((Option.isNone (s3.2.1.2.2.getD (Int.toNat (s3.2.1.2.1.getD s3.1.2.1.toNat (0:Int))) ((0:Int),(none:Option (List Int)))).2)=Bool.false)->(((s3.2.1.2.1.getD s3.1.2.1.toNat (0:Int))<((s3.2.1.2.2.length:Nat):Int))/\((0:Int)<=(s3.2.1.2.1.getD s3.1.2.1.toNat (0:Int)))))/\((((Option.isNone (s3.2.1.2.2.getD (Int.toNat (s3.2.1.2.1.getD s3.1.2.1.toNat (0:Int))) ((0:Int),(none:Option (List Int)))).2)=Bool.false)->(((List.length (Option.getD (s3.2.1.2.2.getD (Int.toNat (s3.2.1.2.1.getD s3.1.2.1.toNat (0:Int))) ((0:Int),(none:Option (List Int)))).2 ([]:List Int)))<=1000000)/\((List.length (List.getD ([]:List bo9) s3.1.2.1.toNat ((0:Int),([]:List Int))).2)<=1000000)))/\(ic (S:=((Unit×Unit)×(((List (ByteArray×Int))×((List Int)×(List (Int×(Option (List Int))))))×Unit))) (fun s4=>((T.ok (T.mp T.str (T.int IntKind.i64)) s4.2.1.1)->((T.ok (T.sl (T.int IntKind.i64)) s4.2.1.2.1)->((T.ok (T.sl (T.p (T.int IntKind.i64) (T.ns (T.sl (T.int IntKind.i64))))) s4.2.1.2.2)->((inK IntKind.i64 (s3.1.2.1-(1:Int)))/\(next2 (((),((s3.1.2.1-(1:Int)),())),(s4.2.1,())))))))) (fun k=>(cnd ((Option.isNone (s3.2.1.2.2.getD (Int.toNat (s3.2.1.2.1.getD s3.1.2.1.toNat (0:Int))) ((0:Int),(none:Option (List Int)))).2)||(decide ((qd (List.getD ([]:List bo9) s3.1.2.1.toNat ((0:Int),([]:List Int))) ((s3.2.1.2.2.getD (Int.toNat (s3.2.1.2.1.getD s3.1.2.1.toNat (0:Int))) ((0:Int),(none:Option (List Int)))).1,(Option.getD (s3.2.1.2.2.getD (Int.toNat (s3.2.1.2.1.getD s3.1.2.1.toNat (0:Int))) ((0:Int),(none:Option (List Int)))).2 ([]:List Int))))<(0:Int)))) (((0:Int)<=s3.1.2.1)/\((s3.1.2.1<(((List.length ([]:List bo9)):Nat):Int))/\(((0:Int)<=s3.1.2.1)/\((s3.1.2.1<(((List.length ([]:List bo9)):Nat):Int))/\(((List.length (List.getD ([]:List bo9) s3.1.2.1.toNat ((0:Int),([]:List Int))).2)<=1099511627776)/\(((0:Int)<=(s3.2.1.2.1.getD s3.1.2.1.toNat (0:Int)))/\(((s3.2.1.2.1.getD s3.1.2.1.toNat (0:Int))<((s3.2.1.2.2.length:Nat):Int))/\(k (((),()),((s3.2.1.1,(s3.2.1.2.1,(List.set s3.2.1.2.2 (Int.toNat (s3.2.1.2.1.getD s3.1.2.1.toNat (0:Int))) ((List.getD ([]:List bo9) s3.1.2.1.toNat ((0:Int),([]:List Int))).1,(Option.some (List.getD ([]:List bo9) s3.1.2.1.toNat ((0:Int),([]:List Int))).2))))),())))))))))) (k (((),()),(s3.2.1,())))))))))))))) (be (S:=(bpn×(((List (ByteArray×Int))×((List Int)×(List (Int×(Option (List Int))))))×Unit))) (fun s4=>(fun next3=>((inK IntKind.i64 s4.1.2.1)->((T.ok (T.mp T.str (T.int IntKind.i64)) s4.2.1.1)->((T.ok (T.sl (T.int IntKind.i64)) s4.2.1.2.1)->((T.ok (T.sl (T.p (T.int IntKind.i64) (T.ns (T.sl (T.int IntKind.i64))))) s4.2.1.2.2)->(cnd (decide (s4.1.2.1<((s3.2.1.2.2.length:Nat):Int))) (((0:Int)<=s4.1.2.1)/\((s4.1.2.1<((s4.2.1.2.2.length:Nat):Int))/\(cnd ((((List.length (Option.getD (s4.2.1.2.2.getD s4.1.2.1.toNat ((0:Int),(none:Option (List Int)))).2 ([]:List Int))):Nat):Int)==(6:Int)) (K ((),(Bool.true,()))) ((inK IntKind.i64 (s4.1.2.1+(1:Int)))/\(next3 (((),((s4.1.2.1+(1:Int)),((),()))),(s4.2.1,()))))))) False))))))) (((),((0:Int),((),()))),(s3.2.1,())))))))))) (((),(((((List.length ([]:List bo9)):Nat):Int)-(1:Int)),())),((s2.2.1.1,((bp (cy s2.2.2.1)),(List.replicate (Int.toNat (eh (bp (cy s2.2.2.1)))) ((0:Int),(none:Option (List Int)))))),())))))))))))))))))))) (((),((),((0:Int),()))),(s1.2.1,((dc (((List.length ([]:List bo9)):Nat):Int)),()))))))))))))) (((),((0:Int),())),((([]:List (ByteArray×Int)),(([]:List Int),([]:List (Int×(Option (List Int)))))),()))))))))))
theorem ac1(s:ab)(hok:ae (okL fy.args (s,())))(hpre:ae (fy.pre (s,()))):pw s (fun r=>r=fy.res (s,())):=by
 simp only[fy,o6,jb,okL,T.oks,T.ok,ap,ae,a0e,a0c,a0i]at hok hpre
 try dsimp only[T.den]at hok hpre
 unfold pw;obtain⟨hs,hS⟩:=hpre;clear hok;obtain⟨s0,s8,f8,tf,_,_,e8,re,_⟩:=mr hS;unfold n5 at hs;refine bc (fun hg=>⟨hg,s0,by omega,by omega,tf,bc (fun h=>by cases h) (fun _=>?_)⟩) (fun hg=>⟨hg,s0,by omega,by omega,tf,bc (fun _=>rfl) (fun h=>by cases h)⟩);rw[hg,a1x]at hs;have H:=abv s0 (by omega) hg;have hlA:lsA s (bw s).1=lsD (js s (bw s).1) (bw s).1 (bw s).1.length:=rfl;have hcA:js s (bw s).1=bp (cy (jW s (fm (bw s).1 (bw s).1.length,([],[])) (bw s).1 (bw s).1.length)):=rfl;rw[hlA,hcA]at hs;clear hlA hcA;generalize (bw s).1=L at *;have hl4:=H.le;have hpl:∀i:Int,0<=i->i<L.length->(L.getD i.toNat (0,[])).2.length<=6:=fun i i0 i1=>(iv (H.ok _ (ja (i:=i.toNat) (by omega)))).2.1;refine br (fun (q:(bpa×(((List (ByteArray×Int))×((List Int)×(List (Int×(Option (List Int))))))×Unit)))=>0<=q.1.2.1/\q.1.2.1<=L.length/\q.2.1=(fm L q.1.2.1.toNat,([],[]))) (fun (q:(bpa×(((List (ByteArray×Int))×((List Int)×(List (Int×(Option (List Int))))))×Unit)))=>(L.length-q.1.2.1).toNat) ?_ ⟨a0r _,by dsimp only;omega,rfl⟩;rintro⟨⟨_,i,_⟩,k,_⟩ next ⟨i0,i1,q⟩ hnx
 intros
 try dsimp only at i0 i1 q hnx⊢
 subst q
 try dsimp only
 refine aq (fun hi=>?_) (fun hi=>?_)
 ·have hp:=hpl i i0 hi;refine⟨i0,hi,by omega,da (by have:=apg L i.toNat;omega),by rw[al];(try dsimp only);omega,hnx _ ⟨by dsimp only;omega,by dsimp only;omega,?_⟩ (by dsimp only;omega)⟩
  try dsimp only
  rw[show (i+1).toNat=i.toNat+1 from by omega];simp only[fm];rw[a1y i0]
 clear hnx;have e:i=L.length:=by omega
 subst e;rw[a0m];refine⟨by omega,by omega,?_⟩;have P:SetP s L (fm L L.length,([],[])):=⟨hS,H,rfl⟩;refine br (fun (q:((Unit×bpa)×(((List (ByteArray×Int))×((List Int)×(List (Int×(Option (List Int))))))×bpb)))=>0<=q.1.2.2.1/\q.1.2.2.1<=L.length/\q.2.1=(fm L L.length,([],[]))/\q.2.2.1=jW s (fm L L.length,([],[])) L q.1.2.2.1.toNat) (fun (q:((Unit×bpa)×(((List (ByteArray×Int))×((List Int)×(List (Int×(Option (List Int))))))×bpb)))=>(L.length-q.1.2.2.1).toNat) ?_ ⟨a0r _,by dsimp only;omega,rfl,rfl⟩;rintro⟨⟨_,_,w,_⟩,k,j,_⟩ next1 ⟨w0,w1,q1,q2⟩ hn1;intros
 try dsimp only at w0 w1 q1 q2 hn1⊢
 subst q1;subst q2;have Q:=aq6 P w.toNat (by omega);refine aq (fun hw=>?_) (fun hw=>?_)
 ·refine⟨w0,hw,?_⟩;refine br (fun (q:((Unit×bpf)×(((List (ByteArray×Int))×((List Int)×(List (Int×(Option (List Int))))))×bpm)))=>0<=q.1.2.2.2.2.1/\q.1.2.2.2.2.1<=s.2.2.2.1.length/\q.2.1=(fm L L.length,([],[]))/\q.2.2.1=jE s (fm L L.length,([],[])) (L.getD w.toNat (0,[])) w q.1.2.2.2.2.1.toNat (jW s (fm L L.length,([],[])) L w.toNat)/\q.2.2.2.1=w/\q.2.2.2.2.1=L.getD w.toNat (0,[])) (fun (q:((Unit×bpf)×(((List (ByteArray×Int))×((List Int)×(List (Int×(Option (List Int))))))×bpm)))=>(s.2.2.2.1.length-q.1.2.2.2.2.1).toNat) ?_ ⟨a0r _,by dsimp only;omega,rfl,rfl,rfl,rfl⟩;rintro⟨⟨_,_,_,_,e,_⟩,k,j,w',p,_⟩ next2 ⟨e0,e1,q1,q2,q3,q4⟩ hn2;intros
  try dsimp only at e0 e1 q1 q2 q3 q4 hn2⊢
  subst q1;subst q2;subst q3;subst q4;refine aq (fun he=>?_) (fun he=>?_)
  ·have Qe:=av8 P Q (w:=w'.toNat) (by omega) e.toNat (by omega);rw[a1y w0]at Qe;refine⟨e0,he,e0,by omega,bhc P Qe w0 hw e0 he,by rw[al];(try dsimp only);omega,hn2 _ ⟨by dsimp only;omega,by dsimp only;omega,rfl,?_,rfl,rfl⟩ (by dsimp only;omega)⟩
   try dsimp only
   rw[show (e+1).toNat=e.toNat+1 from by omega];rfl
  ·have ee:e=s.2.2.2.1.length:=by omega
   subst ee;refine⟨by rw[al];(try dsimp only);omega,hn1 _ ⟨by dsimp only;omega,by dsimp only;omega,rfl,?_⟩ (by dsimp only;omega)⟩
   try dsimp only
   rw[show (w'+1).toNat=w'.toNat+1 from by omega];simp only[jW];rw[a1y w0,a0m]
 clear hn1;have e:w=L.length:=by omega
 subst e;rw[a0m]at Q⊢;have C:=arg Q;have hjl:=Q.n;generalize hc:bp (cy (jW s (fm L L.length,([],[])) L L.length))=c at *;have hcn:=C.n;obtain⟨cl0,cl1⟩:=C.le;refine⟨Q.U,by omega,by omega,kt.2 fun i i0 i1=>?_,cl0,a0r _,by omega,by omega,by rw[al];(try dsimp only);omega,?_⟩
 ·have:=C.r i i0 (by omega);exact⟨this.1,by omega⟩
 refine br (fun (q:(bpa×(((List (ByteArray×Int))×((List Int)×(List (Int×(Option (List Int))))))×Unit)))=>-1<=q.1.2.1/\q.1.2.1<=(L.length:Int)-1/\q.2.1=(fm L L.length,(c,lsD c L ((L.length:Int)-1-q.1.2.1).toNat))) (fun (q:(bpa×(((List (ByteArray×Int))×((List Int)×(List (Int×(Option (List Int))))))×Unit)))=>(q.1.2.1+1).toNat) ?_ ⟨by dsimp only;omega,a0r _,by dsimp only;rw[show ((L.length:Int)-1-((L.length:Int)-1)).toNat=0 from by omega];rfl⟩;rintro⟨⟨_,i,_⟩,k,_⟩ next2 ⟨i0,i1,q⟩ hn2;intros
 try dsimp only at i0 i1 q hn2⊢
 subst q
 try dsimp only
 have P4:=ajp C ((L.length:Int)-1-i).toNat (by omega);rw[show (L.length:Int)-(((L.length:Int)-1-i).toNat:Int)=i+1 from by omega]at P4;have hln:=P4.n;refine aq (fun hi=>?_) (fun hi=>?_)
 ·have hi1:i<L.length:=by omega
  have hr:=C.r i hi hi1;have hT:=axj H C P4 hi hi1;have hs4:lsD c L ((L.length:Int)-1-(i-1)).toNat=lsS c L i.toNat (lsD c L ((L.length:Int)-1-i).toNat):=by rw[show ((L.length:Int)-1-(i-1)).toNat=((L.length:Int)-1-i).toNat+1 from by omega,lsD,show L.length-1-((L.length:Int)-1-i).toNat=i.toNat from by omega]
  have hes:(((lsD c L ((L.length:Int)-1-i).toNat).getD (c.getD i.toNat 0).toNat (0,none)).2.getD []).length<=6:=by
   generalize hq:(lsD c L ((L.length:Int)-1-i).toNat).getD (c.getD i.toNat 0).toNat (0,none)=q;obtain⟨x,o⟩:=q
   cases o with
   |none=>simp
   |some es=>obtain⟨a,_,a0,a1,_,h5⟩:=P4.v _ x es hq;have:=hpl a a0 a1;rw[h5]at this;exact this
  generalize lsD c L ((L.length:Int)-1-i).toNat=l at *;refine⟨hi,by omega,hr.1,by omega,hT,fun _=>⟨by omega,hi⟩,fun _=>⟨by omega,hr.1⟩,fun _=>⟨by omega,by have:=hpl i hi hi1;omega⟩,g6 (fun (q:((Unit×Unit)×(((List (ByteArray×Int))×((List Int)×(List (Int×(Option (List Int))))))×Unit)))=>q.2.1=(fm L L.length,(c,lsS c L i.toNat l))) ?_ ?_⟩
  ·rintro⟨_,k,_⟩ q;intros
   try dsimp only at q⊢
   subst q;exact⟨by rw[al];(try dsimp only);omega,hn2 _ ⟨by dsimp only;omega,by dsimp only;omega,by dsimp only;rw[hs4]⟩ (by dsimp only;omega)⟩
  ·intro kk hk;refine bc (fun hb=>?_) (fun hb=>?_)
   ·refine⟨hi,hi1,hi,hi1,by have:=hpl i hi hi1;omega,hr.1,by omega,hk _ ?_⟩
    try dsimp only
    unfold lsS;rw[d0 hb]
   ·refine hk _ ?_
    try dsimp only
    unfold lsS;rw[ds (by rw[hb];decide)]
 clear hn2;have e:i=-1:=by omega
 subst e;have e:((L.length:Int)-1-(-1)).toNat=L.length:=by omega
 rw[e]at P4 hln⊢;generalize hl:lsD c L L.length=l at *;refine br (fun (q:(bpn×(((List (ByteArray×Int))×((List Int)×(List (Int×(Option (List Int))))))×Unit)))=>0<=q.1.2.1/\q.1.2.1<=l.length/\q.2.1=(fm L L.length,(c,l))/\∀b:Int,0<=b->b<q.1.2.1->((l.getD b.toNat (0,none)).2.getD []).length≠6) (fun (q:(bpn×(((List (ByteArray×Int))×((List Int)×(List (Int×(Option (List Int))))))×Unit)))=>(l.length-q.1.2.1).toNat) ?_ ⟨a0r _,by dsimp only;omega,rfl,fun b b0 b1=>by dsimp only at b1;omega⟩;rintro⟨⟨_,a,_⟩,k,_⟩ next3 ⟨a0,a1,q,hno⟩ hn3;intros
 try dsimp only at a0 a1 q hno hn3⊢
 subst q
 try dsimp only
 refine aq (fun ha=>?_) (fun ha=>?_)
 ·refine⟨a0,ha,bc (fun h6=>?_) (fun h6=>?_)⟩
  ·have h6:=a1s h6;have h6:((l.getD a.toNat (0,none)).2.getD []).length=6:=by omega
   rfl
  ·have h6:=a17.1 h6;refine⟨by rw[al];(try dsimp only);omega,hn3 _ ⟨by dsimp only;omega,by dsimp only;omega,rfl,fun b b0 b1=>?_⟩ (by dsimp only;omega)⟩
   try dsimp only at b1
   by_cases e:b=a
   ·subst e;omega
   ·exact hno b b0 (by omega)
 ·have ea:a=l.length:=by omega
  subst ea;have:=azo.2 hno;rw[this]at hs;cases hs
theorem ab9:bz Tryz.prog 92 fy:=ci (Φ:=lkp [(113,tv),(110,wn),(116,sm),(117,eg),(77,jv),(118,gj),(112,mi),(111,j7),(114,ml)]) (ai yn (ai aa9 (ai xw (ai ww (ai sv (ai vj (ai afm (ai wy (ai pc ao))))))))) axv (by kernel_rfl) (fn:=Tryz.f92) (c:=bg Tryz.f92) (by kernel_rfl) (by kernel_rfl) (by kernel_rfl) fy rfl (.s .n (.s .n (.s .n (.s .n (.s (.s .n (.l [(6,(.bx (.ad 27 [.de]))),(30,(.d (.int .i64)))] [(27,(.pt (.p (.mp .str (.int .i64)) (.p (.sl (.fz (.int .i64))) (.sl (.fz (.p (.int .i64) (.ns (.sl (.int .i64))))))))))] [0,4,28,29] .n)) (.s .n (.s (.s .n (.l [(6,(.bx (.ad 27 [.de]))),(9,(.ad 9 [.de])),(51,(.d (.int .i64)))] [(27,(.pt (.p (.mp .str (.int .i64)) (.p (.sl (.fz (.int .i64))) (.sl (.fz (.p (.int .i64) (.ns (.sl (.int .i64)))))))))),(9,(.pt (.sl (.fz (.int .i64)))))] [0,4,49,50] (.s .n (.s .n (.s (.s .n (.s .n (.l [(6,(.bx (.ad 27 [.de]))),(9,(.ad 9 [.de])),(10,(.ad 10 [.de])),(11,(.ad 11 [.de])),(61,(.d (.int .i64)))] [(27,(.pt (.p (.mp .str (.int .i64)) (.p (.sl (.fz (.int .i64))) (.sl (.fz (.p (.int .i64) (.ns (.sl (.int .i64)))))))))),(9,(.pt (.sl (.fz (.int .i64))))),(10,(.pt (.fz (.int .i64)))),(11,(.pt (.fz (.p (.int .i64) (.sl (.int .i64))))))] [0,4,49,50,51,60] .n))) .n))))) (.s .n (.s .n (.s (.s .n (.l [(6,(.bx (.ad 27 [.de]))),(13,(.d (.int .i64)))] [(27,(.pt (.p (.mp .str (.int .i64)) (.p (.sl (.fz (.int .i64))) (.sl (.fz (.p (.int .i64) (.ns (.sl (.int .i64))))))))))] [4] (.s .n (.s (.s .n (.s .n (.j [(6,(.bx (.ad 27 [.de])))] [(27,(.pt (.p (.mp .str (.int .i64)) (.p (.sl (.fz (.int .i64))) (.sl (.fz (.p (.int .i64) (.ns (.sl (.int .i64))))))))))] [4,13] .n))) .n)))) (.s (.s .n (.l [(6,(.bx (.ad 27 [.de]))),(159,(.d (.int .i64))),(157,(.ref 27 [.de,.r,.r]))] [(27,(.pt (.p (.mp .str (.int .i64)) (.p (.sl (.fz (.int .i64))) (.sl (.fz (.p (.int .i64) (.ns (.sl (.int .i64))))))))))] [158] .n)) .n))))))))))) (cu [(17,17),(1,1500),(20,280002),(21,507),(8,10),(26,21),(27,517)]) (by kernel_rfl) (by kernel_rfl) (by kernel_rfl) (by decide) (fun x K=>pw x.1 K) (fun _ _=>by kernel_rfl) (fun x h1 h2=>ac1 x.1 h1 h2)
theorem v7:bz Tryz.prog 92 q6:=ar7 abh ab9
def w7(k:aj)(s:ab)(a b:Int):Int:=if fk [(k.2.2.getD a.toNat (0,[])).1,(aw s (k.2.2.getD a.toNat (0,[]))).1] [(k.2.2.getD b.toNat (0,[])).1,(aw s (k.2.2.getD b.toNat (0,[]))).1]≠0 then fk [(k.2.2.getD a.toNat (0,[])).1,(aw s (k.2.2.getD a.toNat (0,[]))).1] [(k.2.2.getD b.toNat (0,[])).1,(aw s (k.2.2.getD b.toNat (0,[]))).1]else qd (k.2.2.getD a.toNat (0,[])) (k.2.2.getD b.toNat (0,[]))
def ez:Ct:=⟨[(.int .i64),(.int .i64),(.pt (.pt m5)),(.pt (.pt SchemaT))],[false,false,false,false],fun x=>[0<=x.1,x.1<x.2.2.1.2.2.length,0<=x.2.1,x.2.1<x.2.2.1.2.2.length,x.2.2.2.1.2.1.length<=x.2.2.2.1.2.2.1.length,inK .i64 (x.2.2.2.1.1-1),PthsR x.2.2.1.2.2],[(false,(.fz (.int .i64)))],fun x=>(w7 x.2.2.1 x.2.2.2.1 x.1 x.2.1,()),false,none⟩
def ahr:FuncId->Option Ct:=lkp [(74,d4),(106,gf),(118,gj)]
def uo(a:Int)(b:Int)(k:aj)(s:ab)(K:Int×Unit->Prop):Prop:=((0<=a)/\((a<((k.2.2.length:Nat):Int))/\((0<=b)/\((b<((k.2.2.length:Nat):Int))/\((s.2.1.length<=s.2.2.1.length)/\((inK .i64 (s.1-1))/\((s.2.1.length<=s.2.2.1.length)/\((inK .i64 (s.1-1))/\(cnd ((fk ((k.2.2.getD a.toNat (0,[])).1::((aw s (k.2.2.getD a.toNat (0,[]))).1::[])) ((k.2.2.getD b.toNat (0,[])).1::((aw s (k.2.2.getD b.toNat (0,[]))).1::[]))) != 0) (K ((fk ((k.2.2.getD a.toNat (0,[])).1::((aw s (k.2.2.getD a.toNat (0,[]))).1::[])) ((k.2.2.getD b.toNat (0,[])).1::((aw s (k.2.2.getD b.toNat (0,[]))).1::[]))),())) (((List.length (k.2.2.getD a.toNat (0,[])).2)<=1000000)/\(((List.length (k.2.2.getD b.toNat (0,[])).2)<=1000000)/\(K ((qd (k.2.2.getD a.toNat (0,[])) (k.2.2.getD b.toNat (0,[]))),())))))))))))))
theorem ai6(a:Int)(b:Int)(k:aj)(s:ab)(hok:ae (okL ez.args (a,b,k,s,())))(hpre:ae (ez.pre (a,b,k,s,()))):uo a b k s (fun r=>r=ez.res (a,b,k,s,())):=by
 simp only[ez,okL,T.oks,T.ok,ap,ae,a0e,a0c,a0i]at hok hpre
 try dsimp only[T.den]at hok hpre
 unfold uo;obtain⟨a0,a1,b0,b1,h1,h2,hP⟩:=hpre;have ea:=hP.e _ (im k.2.2 (0,[]) a0 a1);have eb:=hP.e _ (im k.2.2 (0,[]) b0 b1);simp only[ez,w7];refine⟨a0,a1,b0,b1,h1,h2,h1,h2,bc (fun h=>?_) (fun h=>?_)⟩
 ·rw[a37]at h;rw[d0 h]
 ·have h:=a1j.1 h;rw[ds (fun hh=>hh h)];exact⟨ea,eb,rfl⟩
theorem y9:bz Tryz.prog 121 ez:=ci (Φ:=ahr) (ai lq (ai aak (ai vj ao))) bm (by kernel_rfl) (fn:=Tryz.f121) (c:=bg Tryz.f121) (by kernel_rfl) (by kernel_rfl) (by kernel_rfl) ez rfl .n (cu [(1,2016)]) (by kernel_rfl) (by kernel_rfl) (by kernel_rfl) (by decide) (fun x K=>uo x.1 x.2.1 x.2.2.1 x.2.2.2.1 K) (fun _ _=>by kernel_rfl) (fun x h1 h2=>ai6 x.1 x.2.1 x.2.2.1 x.2.2.2.1 h1 h2)
structure OrdP (k:aj) (s:ab) (x:List Int):Prop where
 h1:s.2.1.length<=s.2.2.1.length
 h2:inK .i64 (s.1-1)
 hP:PthsR k.2.2
 e:∀a∈x,0<=a/\a<k.2.2.length
def gx(k:aj)(s:ab)(x:List Int):List Int:=acx (w7 k s) x
def yw:Wt:=⟨(.sl (.fz (.int .i64))),[(.fn 121 (.p (.pt (.pt m5)) (.p (.pt (.pt SchemaT)) .u)))],[false],fun x y=>[OrdP y.1.1 y.1.2.1 x],fun x y=>gx y.1.1 y.1.2.1 x,[],fun x y=>(())⟩
def ri:Ct:=att yw
def ava:Go.Shelf.Ren:=⟨fun|6=>120|15=>132|14=>131|28=>141|29=>142|20=>133|21=>134|22=>135|23=>136|24=>137|25=>138|26=>139|27=>140|46=>143|47=>144|48=>145|49=>146|50=>147|57=>148|n=>n,fun|22=>22|24=>2|25=>168|3=>3|39=>189|0=>0|53=>201|55=>203|4=>4|46=>194|45=>193|50=>198|5=>5|9=>9|66=>204|70=>208|76=>210|77=>211|n=>n,fun|n=>n⟩
theorem boo:Go.Proofs.SlLaysF.n6 Tryz.prog ava:={
 mixed:=by kernel_rfl
 f6:=⟨Tryz.f120.name,by decide,Tryz.func120.trans (congrArg some (by kernel_rfl))⟩
 f14:=⟨Tryz.f131.name,by decide,Tryz.func131.trans (congrArg some (by kernel_rfl))⟩
 f15:=Tryz.func132.trans (congrArg some (by kernel_rfl))
 f20:=⟨Tryz.f133.name,by decide,Tryz.func133.trans (congrArg some (by kernel_rfl))⟩
 f21:=⟨Tryz.f134.name,by decide,Tryz.func134.trans (congrArg some (by kernel_rfl))⟩
 f22:=⟨Tryz.f135.name,by decide,Tryz.func135.trans (congrArg some (by kernel_rfl))⟩
 f23:=⟨Tryz.f136.name,by decide,Tryz.func136.trans (congrArg some (by kernel_rfl))⟩
 f24:=⟨Tryz.f137.name,by decide,Tryz.func137.trans (congrArg some (by kernel_rfl))⟩
 f25:=⟨Tryz.f138.name,by decide,Tryz.func138.trans (congrArg some (by kernel_rfl))⟩
 f26:=⟨Tryz.f139.name,by decide,Tryz.func139.trans (congrArg some (by kernel_rfl))⟩
 f27:=⟨Tryz.f140.name,by decide,Tryz.func140.trans (congrArg some (by kernel_rfl))⟩
 f28:=Tryz.func141.trans (congrArg some (by kernel_rfl))
 f29:=Tryz.func142.trans (congrArg some (by kernel_rfl))
 f46:=⟨Tryz.f143.name,by decide,Tryz.func143.trans (congrArg some (by kernel_rfl))⟩
 f47:=Tryz.func144.trans (congrArg some (by kernel_rfl))
 f48:=Tryz.func145.trans (congrArg some (by kernel_rfl))
 f49:=⟨Tryz.f146.name,by decide,Tryz.func146.trans (congrArg some (by kernel_rfl))⟩
 f50:=⟨Tryz.f147.name,by decide,Tryz.func147.trans (congrArg some (by kernel_rfl))⟩
 f57:=⟨Tryz.f148.name,by decide,Tryz.func148.trans (congrArg some (by kernel_rfl))⟩
 t0:=Tryz.underlying0
 a0:=Tryz.isAgg0
 z0:=Tryz.sizeOf0
 v0:=Tryz.zeroValue0
 t3:=Tryz.underlying3
 a3:=Tryz.isAgg3
 z3:=Tryz.sizeOf3
 v3:=Tryz.zeroValue3
 t4:=Tryz.underlying4
 a4:=Tryz.isAgg4
 z4:=Tryz.sizeOf4
 v4:=Tryz.zeroValue4
 t5:=Tryz.underlying5
 a5:=Tryz.isAgg5
 z5:=Tryz.sizeOf5
 v5:=Tryz.zeroValue5
 t9:=Tryz.underlying9
 a9:=Tryz.isAgg9
 z9:=Tryz.sizeOf9
 v9:=Tryz.zeroValue9
 t22:=Tryz.underlying22
 a22:=Tryz.isAgg22
 z22:=Tryz.sizeOf22
 v22:=Tryz.zeroValue22
 a24:=Tryz.isAgg2
 z24:=Tryz.sizeOf2
 t25:=Tryz.underlying168
 a25:=Tryz.isAgg168
 z25:=Tryz.sizeOf168
 v25:=Tryz.zeroValue168
 t39:=Tryz.underlying189
 a39:=Tryz.isAgg189
 z39:=Tryz.sizeOf189
 v39:=Tryz.zeroValue189
 t45:=Tryz.underlying193
 a45:=Tryz.isAgg193
 z45:=Tryz.sizeOf193
 v45:=Tryz.zeroValue193
 t46:=Tryz.underlying194
 a46:=Tryz.isAgg194
 z46:=Tryz.sizeOf194
 v46:=Tryz.zeroValue194
 t50:=Tryz.underlying198
 a50:=Tryz.isAgg198
 z50:=Tryz.sizeOf198
 v50:=Tryz.zeroValue198
 t53:=Tryz.underlying201
 a53:=Tryz.isAgg201
 z53:=Tryz.sizeOf201
 v53:=Tryz.zeroValue201
 t55:=Tryz.underlying203
 a55:=Tryz.isAgg203
 z55:=Tryz.sizeOf203
 v55:=Tryz.zeroValue203
 t66:=Tryz.underlying204
 a66:=Tryz.isAgg204
 z66:=Tryz.sizeOf204
 v66:=Tryz.zeroValue204
 t70:=Tryz.underlying208
 a70:=Tryz.isAgg208
 z70:=Tryz.sizeOf208
 v70:=Tryz.zeroValue208
 t76:=Tryz.underlying210
 a76:=Tryz.isAgg210
 z76:=Tryz.sizeOf210
 v76:=Tryz.zeroValue210
 t77:=Tryz.underlying211
 a77:=Tryz.isAgg211
 z77:=Tryz.sizeOf211
 v77:=Tryz.zeroValue211 }
theorem apa:∀a b:List Int,fk b a=- fk a b
 |[],[]=>rfl
 |[],_::_=>rfl
 |_::_,[]=>rfl
 |x::a,y::b=>by
  have ih:=apa a b;simp only[fk];by_cases h:x=y
  ·rw[d0 h,d0 h.symm];exact ih
  ·rw[ds h,ds (a0v h)];by_cases h2:x<y
   ·rw[d0 h2,ds (by omega)];rfl
   ·rw[ds h2,d0 (by omega)]
theorem amp:∀a b c:List Int,fk a b<0->fk b c<0->fk a c<0
 |[],[],_,h,_=>by simp[fk]at h
 |[],_::_,[],_,h=>by simp[fk]at h
 |[],_::_,_::_,_,_=>by simp[fk]
 |_::_,[],_,h,_=>by simp[fk]at h
 |_::_,_::_,[],_,h=>by simp[fk]at h
 |x::a,y::b,z::c,h,g=>by
  have ih:=amp a b c;simp only[fk]at h g⊢;by_cases h1:x=y
  ·by_cases h2:y=z
   ·rw[d0 h1]at h;rw[d0 h2]at g;rw[d0 (h1.trans h2)];exact ih h g
   ·rw[ds h2]at g;rw[h1,ds h2];exact g
  ·rw[ds h1]at h;have hxy:x<y:=by by_cases h3:x<y;exact h3;rw[ds h3]at h;omega
   by_cases h2:y=z
   ·rw[←h2,ds h1,d0 hxy];omega
   ·rw[ds h2]at g;have hyz:y<z:=by by_cases h3:y<z;exact h3;rw[ds h3]at g;omega
    rw[ds (by omega),d0 (by omega)];omega
theorem cmp2{x e y f:Int}:fk [x,e] [y,f]=if x=y then (if e=f then 0 else if e<f then -1 else 1)else if x<y then -1 else 1:=by simp only[fk]
def at6(k:aj)(s:ab)(a b:Int):Prop:=(k.2.2.getD a.toNat (0,[])).1<(k.2.2.getD b.toNat (0,[])).1\/((k.2.2.getD a.toNat (0,[])).1=(k.2.2.getD b.toNat (0,[])).1/\((aw s (k.2.2.getD a.toNat (0,[]))).1<(aw s (k.2.2.getD b.toNat (0,[]))).1\/((aw s (k.2.2.getD a.toNat (0,[]))).1=(aw s (k.2.2.getD b.toNat (0,[]))).1/\((k.2.2.getD a.toNat (0,[])).2.length<(k.2.2.getD b.toNat (0,[])).2.length\/((k.2.2.getD a.toNat (0,[])).2.length=(k.2.2.getD b.toNat (0,[])).2.length/\fk (k.2.2.getD a.toNat (0,[])).2 (k.2.2.getD b.toNat (0,[])).2<0)))))
theorem bdz{k:aj}{s:ab}{a b:Int}:w7 k s a b<0<->at6 k s a b:=by
 unfold w7 at6 qd;rw[cmp2];generalize k.2.2.getD a.toNat (0,[])=p;generalize k.2.2.getD b.toNat (0,[])=q;generalize (aw s p).1=e;generalize (aw s q).1=f;by_cases h1:p.1=q.1
 ·rw[d0 h1];by_cases h2:e=f
  ·rw[d0 h2,ds (by simp)];split <;> omega
  ·rw[ds h2];by_cases h3:e<f
   ·rw[d0 h3,d0 (by decide)];omega
   ·rw[ds h3,d0 (by decide)];omega
 ·rw[ds h1];by_cases h3:p.1<q.1
  ·rw[d0 h3,d0 (by decide)];omega
  ·rw[ds h3,d0 (by decide)];omega
theorem bom{k:aj}{s:ab}(a:Int):¬w7 k s a a<0:=by rw[bdz];unfold at6;rw[ah9.2 rfl];omega
theorem o_tr{k:aj}{s:ab}{a b c:Int}(h:w7 k s a b<0)(g:w7 k s b c<0):w7 k s a c<0:=by rw[bdz]at h g⊢;unfold at6 at h g⊢;have:=amp (k.2.2.getD a.toNat (0,[])).2 (k.2.2.getD b.toNat (0,[])).2 (k.2.2.getD c.toNat (0,[])).2;omega
theorem boc{k:aj}{s:ab}{a b:Int}(h:¬w7 k s a b<0)(g:¬w7 k s b a<0):k.2.2.getD a.toNat (0,[])=k.2.2.getD b.toNat (0,[]):=by
 rw[bdz]at h g;unfold at6 at h g;have h1:=apa (k.2.2.getD a.toNat (0,[])).2 (k.2.2.getD b.toNat (0,[])).2;have h2:fk (k.2.2.getD a.toNat (0,[])).2 (k.2.2.getD b.toNat (0,[])).2=0:=by omega
 have h3:=ah9.1 h2;exact Prod.ext (by omega) h3
theorem bns{k:aj}{s:ab}{a b c:Int}(e:k.2.2.getD a.toNat (0,[])=k.2.2.getD b.toNat (0,[])):w7 k s a c=w7 k s b c:=by unfold w7;rw[e]
theorem bcy(k:aj)(s:ab)(x:List Int):SwoR (w7 k s) x:={
 irrefl:=fun a _=>bom a
 trans:=fun a _ b _ c _ h g=>o_tr h g
 ntrans:=fun a _ b _ c _ h g hh=>by
  by_cases h1:w7 k s b a<0
  ·exact g (o_tr h1 hh)
  ·rw[bns (boc h h1)]at hh;exact g hh }
theorem bck(k:aj)(s:ab)(x:List Int):(gx k s x).Perm x:=bg0 (bcy k s x)
theorem ayl(k:aj)(s:ab)(x:List Int):(gx k s x).Pairwise fun a b=>¬w7 k s b a<0:=azw (bcy k s x)
theorem yo:bz Tryz.prog 120 ri:=by have h:=bh9 (P:=Tryz.prog) (ρ:=ava) boo (.fz (.int .i64)) rfl (tz (fn:=Tryz.f120) (c:=bg Tryz.f120) (by kernel_rfl) (by kernel_rfl) (by kernel_rfl)) (g:=121) (cs:=[.pt (.pt m5),.pt (.pt SchemaT)]) (pre:=ez.pre) (res:=ez.res) (fun c hc=>by simp only[a0u,a34,or_false]at hc;rcases hc with rfl|rfl <;> rfl) y9;refine⟨h.1,fun A w u x us y S z a b c d e=>h.2 A w u x us y S z a b c d ?_⟩;have e:OrdP y.1.1 y.1.2.1 x:=e.1;exact⟨fun p hp q hq=>⟨(e.e p hp).1,(e.e p hp).2,(e.e q hq).1,(e.e q hq).2,e.h1,e.h2,e.hP,trivial⟩,bcy _ _ x,trivial⟩
def jf:Ct:=⟨[(.pt SchemaT),(.pt m5)],[false,false],fun x=>[x.2.1.2.2.length<=1000000,OrdP x.2.1 x.1 (dc x.2.1.2.2.length)],[(false,(.sl (.fz (.int .i64))))],fun x=>(gx x.2.1 x.1 (dc x.2.1.2.2.length),()),false,none⟩
def ajz:FuncId->Option Ct:=lkp [(119,mb),(120,ri),(121,ez)]
def wl(s:ab)(k:aj)(K:(List Int)×Unit->Prop):Prop:=((0<=((k.2.2.length:Nat):Int))/\((((k.2.2.length:Nat):Int)<=1099511627776)/\((OrdP k s (dc ((k.2.2.length:Nat):Int)))/\(K ((gx k s (dc ((k.2.2.length:Nat):Int))),())))))
theorem aky(s:ab)(k:aj)(hok:ae (okL jf.args (s,k,())))(hpre:ae (jf.pre (s,k,()))):wl s k (fun r=>r=jf.res (s,k,())):=by
 simp only[jf,okL,T.oks,T.ok,ap,ae,a0e,a0c,a0i]at hok hpre
 try dsimp only[T.den]at hok hpre
 unfold wl;obtain⟨h1,h2⟩:=hpre;refine⟨by omega,by omega,h2,rfl⟩
theorem aal:bz Tryz.prog 93 jf:=ci (Φ:=ajz) (ai ag6 (ai yo (ai y9 ao))) bm (by kernel_rfl) (fn:=Tryz.f93) (c:=bg Tryz.f93) (by kernel_rfl) (by kernel_rfl) (by kernel_rfl) jf rfl .n (cu []) (by kernel_rfl) (by kernel_rfl) (by kernel_rfl) (by decide) (fun x K=>wl x.1 x.2.1 K) (fun _ _=>by kernel_rfl) (fun x h1 h2=>aky x.1 x.2.1 h1 h2)
def ofR(k:aj)(x:Int)(es:List Int):Int:=k.2.1.getD (cn k x es).toNat 0
def aqo(k:aj)(p:ac)(e:Int):ac:=k.2.2.getD (ofR k p.1 (p.2++[e])).toNat (0,[])
def ve(k:aj)(l:List ac)(f:Int)(es:List Int):ac:=es.foldl (aqo k) (l.getD f.toNat (0,[]))
def vd(k:aj)(number:List Int)(l:List ac)(f g:Int):Int:=number.getD (ofR k (ve k l f (l.getD g.toNat (0,[])).2).1 (ve k l f (l.getD g.toNat (0,[])).2).2).toNat 0
structure OfP (k:aj) (x:Int) (es:List Int) (n:Int):Prop where
 le:es.length<=1000000
 a0:0<=cn k x es
 a1:cn k x es<k.2.1.length
 o0:0<=ofR k x es
 o1:ofR k x es<n
structure PrvP (k:aj) (number:List Int) (l:List ac) (f g:Int):Prop where
 f0:0<=f
 f1:f<l.length
 g0:0<=g
 g1:g<l.length
 lg:(l.getD g.toNat (0,[])).2.length<=1000000
 st:∀i:Int,0<=i->i<(l.getD g.toNat (0,[])).2.length->OfP k (ve k l f ((l.getD g.toNat (0,[])).2.take i.toNat)).1 ((ve k l f ((l.getD g.toNat (0,[])).2.take i.toNat)).2++[(l.getD g.toNat (0,[])).2.getD i.toNat 0]) k.2.2.length
 en:OfP k (ve k l f (l.getD g.toNat (0,[])).2).1 (ve k l f (l.getD g.toNat (0,[])).2).2 number.length
def d5:Ct:=⟨[(.int .i64),(.int .i64),(.pt (.pt ko)),(.pt (.pt m5)),(.pt (.sl (.int .i64)))],[false,false,false,false,false],fun x=>[PrvP x.2.2.2.1 x.2.2.2.2.1 x.2.2.1.2.2.2 x.1 x.2.1],[(false,(.fz (.int .i64)))],fun x=>(vd x.2.2.2.1 x.2.2.2.2.1 x.2.2.1.2.2.2 x.1 x.2.1,()),false,none⟩
def afe:Ann:=(.s .n (.s .n (.s (.s .n (.l [(8,(.ad 8 [.de])),(27,(.d (.int .i64)))] [(8,(.pt (.fz (.p (.int .i64) (.sl (.int .i64))))))] [3,4,25,26] .n)) .n)))
def afn:FuncId->Option Ct:=lkp [(95,ge),(77,jv)]
def se(f:Int)(g:Int)(out:T.den ko)(k:aj)(number:List Int)(K:Int×Unit->Prop):Prop:=((0<=f)/\((f<((out.2.2.2.length:Nat):Int))/\((0<=g)/\((g<((out.2.2.2.length:Nat):Int))/\(be (S:=(bpa×(bo9×Unit))) (fun s=>(fun next=>((inK .i64 s.1.2.1)->((inK .i64 s.2.1.1)->((T.ok (.sl (.int .i64)) s.2.1.2)->(cnd (decide (s.1.2.1<(((List.length (out.2.2.2.getD g.toNat (0,[])).2):Nat):Int))) ((0<=s.1.2.1)/\((s.1.2.1<(((List.length (out.2.2.2.getD g.toNat (0,[])).2):Nat):Int))/\((s.2.1.2.length<=1099511627776)/\((dz s.2.1.2.length (List.length ((List.getD (out.2.2.2.getD g.toNat (0,[])).2 s.1.2.1.toNat 0)::[])) 8)/\(((List.length (s.2.1.2++((List.getD (out.2.2.2.getD g.toNat (0,[])).2 s.1.2.1.toNat 0)::[])))<=1000000)/\((0<=(cn k s.2.1.1 (s.2.1.2++((List.getD (out.2.2.2.getD g.toNat (0,[])).2 s.1.2.1.toNat 0)::[]))))/\(((cn k s.2.1.1 (s.2.1.2++((List.getD (out.2.2.2.getD g.toNat (0,[])).2 s.1.2.1.toNat 0)::[])))<((k.2.1.length:Nat):Int))/\((0<=(k.2.1.getD (Int.toNat (cn k s.2.1.1 (s.2.1.2++((List.getD (out.2.2.2.getD g.toNat (0,[])).2 s.1.2.1.toNat 0)::[])))) 0))/\(((k.2.1.getD (Int.toNat (cn k s.2.1.1 (s.2.1.2++((List.getD (out.2.2.2.getD g.toNat (0,[])).2 s.1.2.1.toNat 0)::[])))) 0)<((k.2.2.length:Nat):Int))/\((inK .i64 (s.1.2.1+1))/\(next (((),((s.1.2.1+1),())),((k.2.2.getD (Int.toNat (k.2.1.getD (Int.toNat (cn k s.2.1.1 (s.2.1.2++((List.getD (out.2.2.2.getD g.toNat (0,[])).2 s.1.2.1.toNat 0)::[])))) 0)) (0,[])),()))))))))))))) ((s.2.1.2.length<=1000000)/\((0<=(cn k s.2.1.1 s.2.1.2))/\(((cn k s.2.1.1 s.2.1.2)<((k.2.1.length:Nat):Int))/\((0<=(k.2.1.getD (Int.toNat (cn k s.2.1.1 s.2.1.2)) 0))/\(((k.2.1.getD (Int.toNat (cn k s.2.1.1 s.2.1.2)) 0)<((number.length:Nat):Int))/\(K ((number.getD (Int.toNat (k.2.1.getD (Int.toNat (cn k s.2.1.1 s.2.1.2)) 0)) 0),()))))))))))))) (((),(0,())),((out.2.2.2.getD f.toNat (0,[])),())))))))
theorem agv(f:Int)(g:Int)(out:T.den ko)(k:aj)(number:List Int)(hok:ae (okL d5.args (f,g,out,k,number,())))(hpre:ae (d5.pre (f,g,out,k,number,()))):se f g out k number (fun r=>r=d5.res (f,g,out,k,number,())):=by
 simp only[d5,okL,T.oks,T.ok,ap,ae,a0e,a0c,a0i]at hok hpre
 try dsimp only[T.den]at hok hpre
 unfold se;have P:=hpre;clear hpre hok;refine⟨P.f0,P.f1,P.g0,P.g1,?_⟩;generalize hes:(out.2.2.2.getD g.toNat (0,[])).2=es;have st:=P.st;have lg:=P.lg;have en:=P.en;rw[hes]at st en lg;refine br (fun (q:(bpa×(bo9×Unit)))=>0<=q.1.2.1/\q.1.2.1<=es.length/\q.2.1=ve k out.2.2.2 f (es.take q.1.2.1.toNat)) (fun (q:(bpa×(bo9×Unit)))=>(es.length-q.1.2.1).toNat) ?_ ⟨a0r _,by dsimp only;omega,rfl⟩;rintro⟨⟨_,i,_⟩,p,_⟩ next ⟨i0,i1,q⟩ hnx
 intros
 try dsimp only at i0 i1 q hnx⊢
 subst q;refine aq (fun hi=>?_) (fun hi=>?_)
 ·have O:=st i i0 hi;have le:=O.le;rw[a0q]at le;simp only[a0l,a0p]at le;refine⟨i0,hi,by omega,da (by simp only[a0l,a0p];omega),O.le,O.a0,O.a1,O.o0,O.o1,by rw[al];(try dsimp only);omega,hnx _ ⟨by dsimp only;omega,by dsimp only;omega,?_⟩ (by dsimp only;omega)⟩
  try dsimp only
  unfold ve;rw[mt es 0 i0 hi,a3c];rfl
 ·have e:i=es.length:=by omega
  subst e;rw[qv _ (a0r _)];refine⟨en.le,en.a0,en.a1,en.o0,en.o1,?_⟩;simp only[d5,vd];rw[hes];rfl
theorem rx:bz Tryz.prog 97 d5:=ci (Φ:=afn) (ai tx (ai sv ao)) bm (by kernel_rfl) (fn:=Tryz.f97) (c:=bg Tryz.f97) (by kernel_rfl) (by kernel_rfl) (by kernel_rfl) d5 rfl afe (cu [(5,95012),(7,7)]) (by kernel_rfl) (by kernel_rfl) (by kernel_rfl) (by decide) (fun x K=>se x.1 x.2.1 x.2.2.1 x.2.2.2.1 x.2.2.2.2.1 K) (fun _ _=>by kernel_rfl) (fun x h1 h2=>agv x.1 x.2.1 x.2.2.1 x.2.2.2.1 x.2.2.2.2.1 h1 h2)
structure TabRP (o:bq) (a:List Int) (c:bq) (b:List Int):Prop where
 sh:ShapeP c
 lb:b.length=c.2.1.length
 wb:bh b c.2.1.length=true
 la:a.length=c.2.1.length
 lo:o.2.1.length=c.2.1.length
 lt:o.2.2.1.length=c.2.1.length
 co:∀f g:Int,0<=f->f<c.2.1.length->0<=g->g<c.2.1.length->o.2.2.1.getD f.toNat 0=o.2.1.getD g.toNat 0->c.2.2.1.getD (b.getD f.toNat 0).toNat 0=c.2.1.getD (b.getD g.toNat 0).toNat 0
def aju(o:bq)(F:Int->Int->Int)(f g:Int):Int:=if o.2.2.1.getD f.toNat 0=o.2.1.getD g.toNat 0 then F f g else -1
def wc(o:bq)(F:Int->Int->Int):List (List Int):=dv o.2.1.length fun f=>dv o.2.1.length fun g=>aju o F f g
def tbT(F:Int->Int->Int)(n:Nat)(i j:Int):List (List Int):=dv n fun e=>if e=i then (dv n fun g=>if g<j then F i g else 0)else if e<i then dv n (F e)else []
theorem atd{F:Int->Int->Int}{n:Nat}{i j:Int}:(tbT F n i j).length=n:=bj _
theorem as7{F:Int->Int->Int}{n:Nat}{i j:Int}(i0:0<=i)(i1:i<n):(tbT F n i j).getD i.toNat []=dv n fun g=>if g<j then F i g else 0:=by unfold tbT;rw[ou i0 i1,d0 rfl]
theorem bn3{F:Int->Int->Int}{n:Nat}{i j:Int}(i0:0<=i)(i1:i<n)(j0:0<=j)(j1:j<n):(tbT F n i j).set i.toNat (((tbT F n i j).getD i.toNat []).set j.toNat (F i j))=tbT F n i (j+1):=by
 rw[as7 i0 i1,x4 j0 j1];unfold tbT;rw[x4 i0 i1];refine df fun e _ _=>?_;by_cases h:e=i
 ·rw[d0 h,d0 h];refine df fun g _ _=>?_;by_cases hg:g=j
  ·rw[d0 hg,d0 (by omega),hg]
  ·rw[ds hg];by_cases h2:g<j
   ·rw[d0 h2,d0 (by omega)]
   ·rw[ds h2,ds (by omega)]
 ·rw[ds h,ds h,ds h]
theorem bfz{A:List (List Int)}{i j:Nat}{w v:Int}(h:i<A.length):(A.set i ((A.getD i []).set j w)).set i (((A.set i ((A.getD i []).set j w)).getD i []).set j v)=A.set i ((A.getD i []).set j v):=by rw[acg _ _ _ _ _ h,d0 rfl,List.set_set,List.set_set]
theorem bor{F:Int->Int->Int}{n:Nat}{i:Int}(i0:0<=i)(i1:i<n):(dv n fun e=>if e<i then dv n (F e)else []).set i.toNat (dv n fun _=>0)=tbT F n i 0:=by
 rw[x4 i0 i1];unfold tbT;refine df fun e _ _=>?_;by_cases h:e=i
 ·rw[d0 h,d0 h];exact df fun g g0 _=>by rw[ds (by omega)]
 ·rw[ds h,ds h]
theorem bn5{F:Int->Int->Int}{n:Nat}{i:Int}:tbT F n i n=dv n fun e=>if e<i+1 then dv n (F e)else []:=by
 unfold tbT;refine df fun e _ _=>?_;by_cases h:e=i
 ·rw[d0 h,d0 (by omega),h];exact df fun g _ g1=>by rw[d0 g1]
 ·rw[ds h];by_cases h2:e<i
  ·rw[d0 h2,d0 (by omega)]
  ·rw[ds h2,ds (by omega)]
abbrev bjt:Type:=ab×(bq×((List Int)×(List ac)))
structure PrtP (o:bjt) (k:aj) (number:List Int):Prop where
 lf:o.2.1.2.1.length=o.2.2.2.length
 lt:o.2.1.2.2.1.length=o.2.2.2.length
 le:o.2.2.2.length<=40
 pv:∀f g:Int,0<=f->f<o.2.2.2.length->0<=g->g<o.2.2.2.length->o.2.1.2.2.1.getD f.toNat 0=o.2.1.2.1.getD g.toNat 0->PrvP k number o.2.2.2 f g
theorem auw{Z Z2 Y:Type}{n:Int}(z:Z)(z2:Z2)(y:Int->Y){y0:Y}{body:(Unit×((Unit×(Z×(Z2×Unit)))×(Int×Unit)))×(Y×Unit)->((Unit×((Unit×(Z×(Z2×Unit)))×(Int×Unit)))×(Y×Unit)->Prop)->Prop}(hn0:0<=n)(h0:y0=y 0)
  (hs:∀i next,0<=i->i<n->next (((),(((),(z,(z2,()))),(i+1,()))),(y (i+1),()))->body (((),(((),(z,(z2,()))),(i,()))),(y i,())) next)
  (he:∀next,body (((),(((),(z,(z2,()))),(n,()))),(y n,())) next):be body (((),(((),(z,(z2,()))),(0,()))),(y0,())):=by
 refine br (fun s=>s.1.2.1.2.1=z/\s.1.2.1.2.2.1=z2/\s.2.1=y s.1.2.2.1/\0<=s.1.2.2.1/\s.1.2.2.1<=n) (fun s=>(n-s.1.2.2.1).toNat) ?_ ⟨rfl,rfl,h0,a0r _,hn0⟩;rintro⟨⟨_,⟨_,q,q2,_⟩,i,_⟩,t,_⟩ next ⟨hz,hz2,hy,h1,h2⟩ hnx
 dsimp only at hz hz2 hy h1 h2 hnx;subst hz;subst hz2;subst hy;by_cases e:i=n
 ·subst e;exact he next
 ·exact hs i next h1 (by omega) (hnx _ ⟨rfl,rfl,rfl,by dsimp only;omega,by dsimp only;omega⟩ (by dsimp only;omega))
def fx:Wa:=⟨(.pt (.p (.fz (.pt SchemaT)) (.p (.p (.fz (.int .i64)) (.p (.sl (.fz (.int .i64))) (.p (.sl (.fz (.int .i64))) (.p (.sl (.fz (.int .i64))) (.sl (.sl (.fz (.int .i64)))))))) (.p (.sl (.fz (.int .i64))) (.sl (.fz PathT)))))),[.de,.r,.l],[(.fn 97 (.p (.pt .any) (.p (.pt (.pt m5)) (.p (.pt (.sl (.int .i64))) .u))))],fun x y=>[PrtP x y.1.2.1 y.1.2.2.1],fun x y=>(x.1,((x.2.1.1,x.2.1.2.1,x.2.1.2.2.1,x.2.1.2.2.2.1,wc x.2.1 (vd y.1.2.1 y.1.2.2.1 x.2.2.2)),x.2.2))⟩
def qi:Ct:=waCt fx
def ac8:Ann:=(.s .n (.s .n (.s .n (.l [(0,(.ad 1000000 [.de,.r,.l])),(1,(.fc 97 (.pr (.bx (.ad 1000000 [.de])) (.pr (.d (.pt (.pt (.p (.mp .str (.int .i64)) (.p (.sl (.int .i64)) (.sl (.p (.int .i64) (.sl (.int .i64))))))))) (.pr (.d (.pt (.sl (.int .i64)))) .u))))),(19,(.d (.int .i64)))] [(1000000,(.pt (.p (.fz (.pt (.p (.int .i64) (.p (.sl (.int .i64)) (.p (.sl (.int .i64)) (.p (.sl (.p (.int .i64) (.sl (.int .i64)))) (.sl (.p (.int .i64) (.sl (.int .i64)))))))))) (.p (.p (.fz (.int .i64)) (.p (.sl (.fz (.int .i64))) (.p (.sl (.fz (.int .i64))) (.p (.sl (.fz (.int .i64))) (.sl (.sl (.fz (.int .i64)))))))) (.p (.sl (.fz (.int .i64))) (.sl (.fz (.p (.int .i64) (.sl (.int .i64))))))))))] [4,18] (.s .n (.s .n (.s (.s .n (.s .n (.s .n (.l [(0,(.ad 1000000 [.de,.r,.l])),(1,(.fc 97 (.pr (.bx (.ad 1000000 [.de])) (.pr (.d (.pt (.pt (.p (.mp .str (.int .i64)) (.p (.sl (.int .i64)) (.sl (.p (.int .i64) (.sl (.int .i64))))))))) (.pr (.d (.pt (.sl (.int .i64)))) .u))))),(38,(.d (.int .i64)))] [(1000000,(.pt (.p (.fz (.pt (.p (.int .i64) (.p (.sl (.int .i64)) (.p (.sl (.int .i64)) (.p (.sl (.p (.int .i64) (.sl (.int .i64)))) (.sl (.p (.int .i64) (.sl (.int .i64)))))))))) (.p (.p (.fz (.int .i64)) (.p (.sl (.fz (.int .i64))) (.p (.sl (.fz (.int .i64))) (.p (.sl (.fz (.int .i64))) (.sl (.sl (.fz (.int .i64)))))))) (.p (.sl (.fz (.int .i64))) (.sl (.fz (.p (.int .i64) (.sl (.int .i64))))))))))] [4,5,18,19,37] (.s .n (.s .n (.s (.s .n (.s .n (.s .n (.j [(0,(.ad 1000000 [.de,.r,.l])),(1,(.fc 97 (.pr (.bx (.ad 1000000 [.de])) (.pr (.d (.pt (.pt (.p (.mp .str (.int .i64)) (.p (.sl (.int .i64)) (.sl (.p (.int .i64) (.sl (.int .i64))))))))) (.pr (.d (.pt (.sl (.int .i64)))) .u)))))] [(1000000,(.pt (.p (.fz (.pt (.p (.int .i64) (.p (.sl (.int .i64)) (.p (.sl (.int .i64)) (.p (.sl (.p (.int .i64) (.sl (.int .i64)))) (.sl (.p (.int .i64) (.sl (.int .i64)))))))))) (.p (.p (.fz (.int .i64)) (.p (.sl (.fz (.int .i64))) (.p (.sl (.fz (.int .i64))) (.p (.sl (.fz (.int .i64))) (.sl (.sl (.fz (.int .i64)))))))) (.p (.sl (.fz (.int .i64))) (.sl (.fz (.p (.int .i64) (.sl (.int .i64))))))))))] [4,5,18,19,37,38] .n)))) .n))))))) .n)))))))
def adp:FuncId->Option Ct:=lkp [(97,d5),(104,fp)]
def wd(c:T.den ko)(composite:Unit×(aj×bpb))(K:(T.den ko)->Prop):Prop:=((0<=((c.2.1.2.1.length:Nat):Int))/\((((c.2.1.2.1.length:Nat):Int)<=((c.2.1.2.1.length:Nat):Int))/\((((c.2.1.2.1.length:Nat):Int)<=((140737488355328:Nat):Int))/\(((((c.2.1.2.1.length:Nat):Int)*((24:Nat):Int))<=((140737488355328:Nat):Int))/\(be (S:=((Unit×((Unit×(((List (ByteArray×Int))×bpe)×bpb))×(Int×Unit)))×bo8)) (fun s=>(fun next=>((T.ok (T.mp T.str (.int .i64)) s.1.2.1.2.1.1)->((T.ok (.sl (.int .i64)) s.1.2.1.2.1.2.1)->((T.ok (.sl PathT) s.1.2.1.2.1.2.2)->((T.ok (.sl (.int .i64)) s.1.2.1.2.2.1)->((inK .i64 s.1.2.2.1)->((inK .i64 s.2.1.1.1)->((T.ok (.sl (.int .i64)) s.2.1.1.2.1)->((T.ok (.sl (.int .i64)) s.2.1.1.2.2.1)->((T.ok (.sl PathT) s.2.1.1.2.2.2.1)->((T.ok (.sl PathT) s.2.1.1.2.2.2.2)->((inK .i64 s.2.1.2.1.1)->((T.ok (.sl (.int .i64)) s.2.1.2.1.2.1)->((T.ok (.sl (.int .i64)) s.2.1.2.1.2.2.1)->((T.ok (.sl (.int .i64)) s.2.1.2.1.2.2.2.1)->((T.ok (.sl (.sl (.int .i64))) s.2.1.2.1.2.2.2.2)->((T.ok (.sl (.int .i64)) s.2.1.2.2.1)->((T.ok (.sl PathT) s.2.1.2.2.2)->(cnd (decide (s.1.2.2.1<(((List.length (List.replicate (Int.toNat ((c.2.1.2.1.length:Nat):Int)) ([]:List Int))):Nat):Int))) ((0<=((c.2.1.2.1.length:Nat):Int))/\((((c.2.1.2.1.length:Nat):Int)<=((c.2.1.2.1.length:Nat):Int))/\((((c.2.1.2.1.length:Nat):Int)<=((140737488355328:Nat):Int))/\(((((c.2.1.2.1.length:Nat):Int)*((8:Nat):Int))<=((140737488355328:Nat):Int))/\((0<=s.1.2.2.1)/\((s.1.2.2.1<((s.2.1.2.1.2.2.2.2.length:Nat):Int))/\((0<=s.1.2.2.1)/\((s.1.2.2.1<(((List.length (List.set s.2.1.2.1.2.2.2.2 s.1.2.2.1.toNat (List.replicate (Int.toNat ((c.2.1.2.1.length:Nat):Int)) (0:Int)))):Nat):Int))/\(be (S:=((Unit×((Unit×(((List (ByteArray×Int))×bpe)×bpb))×(Int×Unit)))×bo8)) (fun s1=>(fun next1=>((T.ok (T.mp T.str (.int .i64)) s1.1.2.1.2.1.1)->((T.ok (.sl (.int .i64)) s1.1.2.1.2.1.2.1)->((T.ok (.sl PathT) s1.1.2.1.2.1.2.2)->((T.ok (.sl (.int .i64)) s1.1.2.1.2.2.1)->((inK .i64 s1.1.2.2.1)->((inK .i64 s1.2.1.1.1)->((T.ok (.sl (.int .i64)) s1.2.1.1.2.1)->((T.ok (.sl (.int .i64)) s1.2.1.1.2.2.1)->((T.ok (.sl PathT) s1.2.1.1.2.2.2.1)->((T.ok (.sl PathT) s1.2.1.1.2.2.2.2)->((inK .i64 s1.2.1.2.1.1)->((T.ok (.sl (.int .i64)) s1.2.1.2.1.2.1)->((T.ok (.sl (.int .i64)) s1.2.1.2.1.2.2.1)->((T.ok (.sl (.int .i64)) s1.2.1.2.1.2.2.2.1)->((T.ok (.sl (.sl (.int .i64))) s1.2.1.2.1.2.2.2.2)->((T.ok (.sl (.int .i64)) s1.2.1.2.2.1)->((T.ok (.sl PathT) s1.2.1.2.2.2)->(cnd (decide (s1.1.2.2.1<(((List.length (List.getD (List.set s.2.1.2.1.2.2.2.2 s.1.2.2.1.toNat (List.replicate (Int.toNat ((c.2.1.2.1.length:Nat):Int)) (0:Int))) s.1.2.2.1.toNat [])):Nat):Int))) ((0<=s.1.2.2.1)/\((s.1.2.2.1<((s1.2.1.2.1.2.2.2.2.length:Nat):Int))/\((0<=s1.1.2.2.1)/\((s1.1.2.2.1<(((List.length (s1.2.1.2.1.2.2.2.2.getD s.1.2.2.1.toNat [])):Nat):Int))/\((0<=s.1.2.2.1)/\((s.1.2.2.1<((s1.2.1.2.1.2.2.1.length:Nat):Int))/\((0<=s1.1.2.2.1)/\((s1.1.2.2.1<((s1.2.1.2.1.2.1.length:Nat):Int))/\(ic (S:=((Unit×((Unit×(((List (ByteArray×Int))×bpe)×bpb))×Unit))×bo8)) (fun s2=>((T.ok (T.mp T.str (.int .i64)) s2.1.2.1.2.1.1)->((T.ok (.sl (.int .i64)) s2.1.2.1.2.1.2.1)->((T.ok (.sl PathT) s2.1.2.1.2.1.2.2)->((T.ok (.sl (.int .i64)) s2.1.2.1.2.2.1)->((inK .i64 s2.2.1.1.1)->((T.ok (.sl (.int .i64)) s2.2.1.1.2.1)->((T.ok (.sl (.int .i64)) s2.2.1.1.2.2.1)->((T.ok (.sl PathT) s2.2.1.1.2.2.2.1)->((T.ok (.sl PathT) s2.2.1.1.2.2.2.2)->((inK .i64 s2.2.1.2.1.1)->((T.ok (.sl (.int .i64)) s2.2.1.2.1.2.1)->((T.ok (.sl (.int .i64)) s2.2.1.2.1.2.2.1)->((T.ok (.sl (.int .i64)) s2.2.1.2.1.2.2.2.1)->((T.ok (.sl (.sl (.int .i64))) s2.2.1.2.1.2.2.2.2)->((T.ok (.sl (.int .i64)) s2.2.1.2.2.1)->((T.ok (.sl PathT) s2.2.1.2.2.2)->((inK .i64 (s1.1.2.2.1+1))/\(next1 (((),(((),(s2.1.2.1.2.1,(s2.1.2.1.2.2.1,()))),((s1.1.2.2.1+1),()))),(s2.2.1,()))))))))))))))))))))) (fun k=>(cnd ((s1.2.1.2.1.2.2.1.getD s.1.2.2.1.toNat 0)==(s1.2.1.2.1.2.1.getD s1.1.2.2.1.toNat 0)) ((0<=s.1.2.2.1)/\((s.1.2.2.1<(((List.length (List.set s1.2.1.2.1.2.2.2.2 s.1.2.2.1.toNat (List.set (s1.2.1.2.1.2.2.2.2.getD s.1.2.2.1.toNat []) s1.1.2.2.1.toNat (-1)))):Nat):Int))/\((PrvP s1.1.2.1.2.1 s1.1.2.1.2.2.1 s1.2.1.2.2.2 s.1.2.2.1 s1.1.2.2.1)/\((0<=s1.1.2.2.1)/\((s1.1.2.2.1<(((List.length (List.getD (List.set s1.2.1.2.1.2.2.2.2 s.1.2.2.1.toNat (List.set (s1.2.1.2.1.2.2.2.2.getD s.1.2.2.1.toNat []) s1.1.2.2.1.toNat (-1))) s.1.2.2.1.toNat [])):Nat):Int))/\(k (((),(((),(s1.1.2.1.2.1,(s1.1.2.1.2.2.1,()))),())),((s1.2.1.1,((s1.2.1.2.1.1,(s1.2.1.2.1.2.1,(s1.2.1.2.1.2.2.1,(s1.2.1.2.1.2.2.2.1,(List.set (List.set s1.2.1.2.1.2.2.2.2 s.1.2.2.1.toNat (List.set (s1.2.1.2.1.2.2.2.2.getD s.1.2.2.1.toNat []) s1.1.2.2.1.toNat (-1))) s.1.2.2.1.toNat (List.set (List.getD (List.set s1.2.1.2.1.2.2.2.2 s.1.2.2.1.toNat (List.set (s1.2.1.2.1.2.2.2.2.getD s.1.2.2.1.toNat []) s1.1.2.2.1.toNat (-1))) s.1.2.2.1.toNat []) s1.1.2.2.1.toNat (vd s1.1.2.1.2.1 s1.1.2.1.2.2.1 s1.2.1.2.2.2 s.1.2.2.1 s1.1.2.2.1))))))),s1.2.1.2.2)),())))))))) (k (((),(((),(s1.1.2.1.2.1,(s1.1.2.1.2.2.1,()))),())),((s1.2.1.1,((s1.2.1.2.1.1,(s1.2.1.2.1.2.1,(s1.2.1.2.1.2.2.1,(s1.2.1.2.1.2.2.2.1,(List.set s1.2.1.2.1.2.2.2.2 s.1.2.2.1.toNat (List.set (s1.2.1.2.1.2.2.2.2.getD s.1.2.2.1.toNat []) s1.1.2.2.1.toNat (-1))))))),s1.2.1.2.2)),())))))))))))))) ((inK .i64 (s.1.2.2.1+1))/\(next (((),(((),(s1.1.2.1.2.1,(s1.1.2.1.2.2.1,()))),((s.1.2.2.1+1),()))),(s1.2.1,())))))))))))))))))))))))) (((),(((),(s.1.2.1.2.1,(s.1.2.1.2.2.1,()))),(0,()))),((s.2.1.1,((s.2.1.2.1.1,(s.2.1.2.1.2.1,(s.2.1.2.1.2.2.1,(s.2.1.2.1.2.2.2.1,(List.set s.2.1.2.1.2.2.2.2 s.1.2.2.1.toNat (List.replicate (Int.toNat ((c.2.1.2.1.length:Nat):Int)) (0:Int))))))),s.2.1.2.2)),()))))))))))) (K s.2.1))))))))))))))))))))) (((),(((),(composite.2.1,(composite.2.2.1,()))),(0,()))),((c.1,((c.2.1.1,(c.2.1.2.1,(c.2.1.2.2.1,(c.2.1.2.2.2.1,(List.replicate (Int.toNat ((c.2.1.2.1.length:Nat):Int)) ([]:List Int)))))),c.2.2)),())))))))
theorem aeb(c:T.den ko)(composite:Unit×(aj×bpb))(hok:ae (fx.o.strip.oks c))(hok2:ae (okL fx.as (composite,())))(hpre:ae (fx.pre c (composite,()))):wd c composite (fun z=>z=fx.new c (composite,())):=by
 simp only[fx,O.strip,okL,T.oks,T.ok,ap,ae,a0e,a0c,a0i]at hok hok2 hpre
 try dsimp only[T.den]at hok
 try dsimp only[T.den]at hok2
 try dsimp only[T.den]at hpre
 unfold wd;obtain⟨_,z,u,_⟩:=composite;have P:PrtP c z u:=hpre;have hlf:=P.lf;have hlt:=P.lt;have hle:=P.le;have pv:=P.pv;have hnew:∀q,q=wc c.2.1 (vd z u c.2.2.2)->(c.1,((c.2.1.1,(c.2.1.2.1,(c.2.1.2.2.1,(c.2.1.2.2.2.1,q)))),c.2.2))=(c.1,((c.2.1.1,(c.2.1.2.1,(c.2.1.2.2.1,(c.2.1.2.2.2.1,wc c.2.1 (vd z u c.2.2.2))))),c.2.2)):=fun q h=>by rw[h]
 clear hok hok2 hpre P
 try dsimp only
 have hR:wc c.2.1 (vd z u c.2.2.2)=dv c.2.1.2.1.length fun e=>dv c.2.1.2.1.length (aju c.2.1 (vd z u c.2.2.2) e):=rfl;refine⟨by omega,by omega,by omega,by omega,?_⟩;simp only[a0m,ae5,bj];rw[←hlf]at hle pv hlt;generalize hn:c.2.1.2.1.length=n at *;generalize hF:aju c.2.1 (vd z u c.2.2.2)=F at *;refine auw (n:=n) z u (fun i=>(c.1,((c.2.1.1,(c.2.1.2.1,(c.2.1.2.2.1,(c.2.1.2.2.2.1,dv n fun e=>if e<i then dv n (F e)else [])))),c.2.2))) (by omega) (congrArg (fun q=>(c.1,((c.2.1.1,(c.2.1.2.1,(c.2.1.2.2.1,(c.2.1.2.2.2.1,q)))),c.2.2))) (df fun e h0 _=>by rw[ds (by omega)])) ?_ ?_
 ·intro i next i0 i1 hnx
  intros
  try dsimp only
  refine aq (fun _=>⟨by omega,by omega,by omega,by omega,i0,by rw[bj];exact i1,i0,by rw[a1i,bj];exact i1,?_⟩) (fun h=>absurd i1 h);rw[bor i0 i1,as7 i0 i1,bj];refine auw (n:=n) z u (fun j=>(c.1,((c.2.1.1,(c.2.1.2.1,(c.2.1.2.2.1,(c.2.1.2.2.2.1,tbT F n i j)))),c.2.2))) (by omega) rfl ?_ ?_
  ·intro j next2 j0 j1 hn2;intros
   try dsimp only
   have hr:((tbT F n i j).getD i.toNat []).length=n:=by rw[as7 i0 i1,bj]
   have hA:i.toNat<(tbT F n i j).length:=by rw[atd];omega
   have hs2:=@bfz (tbT F n i j) i.toNat j.toNat (-1) (F i j) hA;have hs1:=@bn3 F n i j i0 i1 j0 j1;have hrow:(((tbT F n i j).set i.toNat (((tbT F n i j).getD i.toNat []).set j.toNat (-1))).getD i.toNat []).length=n:=by rw[acg _ _ _ _ _ hA,d0 rfl,a1i,hr]
   refine aq (fun _=>⟨i0,by rw[atd];exact i1,j0,by rw[hr];exact j1,i0,by omega,j0,by omega,?_⟩) (fun h=>absurd j1 h);refine g6 (fun s2=>s2.1.2.1.2.1=z/\s2.1.2.1.2.2.1=u/\s2.2.1=(c.1,((c.2.1.1,(c.2.1.2.1,(c.2.1.2.2.1,(c.2.1.2.2.2.1,tbT F n i (j+1))))),c.2.2))) (fun s2 hs=>by intros;exact⟨by rw[al];(try dsimp only);omega,by rw[hs.1,hs.2.1,hs.2.2];exact hn2⟩) (fun k hk=>bc (fun he=>?_) (fun he=>hk _ ⟨rfl,rfl,?_⟩))
   ·rw[a0s]at he;have hv:vd z u c.2.2.2 i j=F i j:=by rw[←hF];unfold aju;rw[d0 he]
    refine⟨i0,by rw[a1i,atd];exact i1,pv i j i0 i1 j0 j1 he,j0,by rw[hrow];exact j1,hk _ ⟨rfl,rfl,?_⟩⟩
    try dsimp only
    rw[hv,hs2,hs1]
   ·have hv:F i j=-1:=by rw[←hF];unfold aju;rw[ds (by intro h;rw[h]at he;simp at he)]
    try dsimp only
    rw[←hv,hs1]
  ·intro next2;intros
   try dsimp only
   refine aq (fun h=>absurd h (a21 _)) (fun _=>⟨by rw[al];(try dsimp only);omega,?_⟩);rw[bn5];exact hnx
 ·intro next
  intros
  try dsimp only
  refine aq (fun h=>absurd h (a21 _)) (fun _=>hnew _ ?_);rw[hR];exact df fun e _ e1=>by rw[d0 e1]
theorem u4:bz Tryz.prog 96 qi:=bop (Φ:=adp) (ai rx (ai sq ao)) bm (by kernel_rfl) (fn:=Tryz.f96) (c:=bg Tryz.f96) (by kernel_rfl) (by kernel_rfl) (by kernel_rfl) fx ac8 (cu [(5,507),(10,14),(11,512)]) (by kernel_rfl) (by kernel_rfl) (by decide) (by kernel_rfl) (fun x y h1 h2 h3=>Eq.mp (by kernel_rfl) (aeb x y.1 h1 h2 h3))
def w9(c:bq):Bool:=y7 c&&(oh c).1==0
def ey:Ct:=⟨[(.pt gp)],[false],fun x=>[],[(false,(.fz .bool))],fun x=>(w9 x.1,()),false,none⟩
def ac2:FuncId->Option Ct:=lkp [(126,gh),(125,db)]
def ql(c:bq)(K:Bool×Unit->Prop):Prop:=(cnd (!(y7 c)) (K (false,())) ((ShapeP c)/\(K (((oh c).1==0),()))))
theorem adx(c:bq)(hok:ae (okL ey.args (c,())))(hpre:ae (ey.pre (c,()))):ql c (fun r=>r=ey.res (c,())):=by
 simp only[ey,okL,T.oks,T.ok,ap,ae,a0e,a0c,a0i]at hok hpre
 try dsimp only[T.den]at hok hpre
 unfold ql;simp only[ey,w9];have:=@adn c
 grind[cnd,cj,al]
theorem ac7:bz Tryz.prog 103 ey:=ci (Φ:=ac2) (ai ahx (ai afz ao)) bm (by kernel_rfl) (fn:=Tryz.f103) (c:=bg Tryz.f103) (by kernel_rfl) (by kernel_rfl) (by kernel_rfl) ey rfl .n (cu []) (by kernel_rfl) (by kernel_rfl) (by kernel_rfl) (by decide) (fun x K=>ql x.1 K) (fun _ _=>by kernel_rfl) (fun x h1 h2=>adx x.1 h1 h2)
structure ClsP (k:T.den ko):Prop where
 l:w9 k.2.1=true->∀p∈k.2.2.2,AroP (k.2.1,(k.2.2.2,k.2.2.1)) p
 a:w9 k.2.1=true->∀p∈k.1.2.2.2.1,AroP (k.2.1,(k.2.2.2,k.2.2.1)) p
 b:w9 k.2.1=true->∀p∈k.1.2.2.2.2,AroP (k.2.1,(k.2.2.2,k.2.2.1)) p
 e:k.1.2.2.2.2.length=k.1.2.2.2.1.length
def w4(k:T.den ko):Bool:=w9 k.2.1&&(ro k.2.2.2.length fun f=>kv k.2.1 k.2.2.1 (k.2.2.2.getD f.toNat (0,[]))==f)&&ro k.1.2.2.2.1.length fun i=>kv k.2.1 k.2.2.1 (k.1.2.2.2.1.getD i.toNat (0,[]))==kv k.2.1 k.2.2.1 (k.1.2.2.2.2.getD i.toNat (0,[]))
def fa:Ct:=⟨[(.pt ko)],[false],fun x=>[ClsP x.1],[(false,(.fz .bool))],fun x=>(w4 x.1,()),false,none⟩
def afd:Ann:=(.s .n (.s .n (.s (.s .n (.l [(16,(.d (.int .i64)))] [] [0,14,15] .n)) (.s (.s .n (.l [(35,(.d (.int .i64)))] [] [0,34] .n)) .n))))
def agl:FuncId->Option Ct:=lkp [(103,ey),(51,fo)]
def sk(k:T.den ko)(K:Bool×Unit->Prop):Prop:=(cnd (!(w9 k.2.1)) (K (false,())) (be (S:=bpd) (fun s=>(fun next=>((inK .i64 s.1.1)->(cnd (decide (s.1.1<((k.2.2.2.length:Nat):Int))) ((0<=s.1.1)/\((s.1.1<((k.2.2.2.length:Nat):Int))/\((AroP (k.2.1,(k.2.2.2,k.2.2.1)) (k.2.2.2.getD s.1.1.toNat (0,[])))/\(cnd ((kv k.2.1 k.2.2.1 (k.2.2.2.getD s.1.1.toNat (0,[]))) != s.1.1) (K (false,())) ((inK .i64 (s.1.1+1))/\(next (((s.1.1+1),()),()))))))) (be (S:=bpd) (fun s1=>(fun next1=>((inK .i64 s1.1.1)->(cnd (decide (s1.1.1<((k.1.2.2.2.1.length:Nat):Int))) ((0<=s1.1.1)/\((s1.1.1<((k.1.2.2.2.1.length:Nat):Int))/\((AroP (k.2.1,(k.2.2.2,k.2.2.1)) (k.1.2.2.2.1.getD s1.1.1.toNat (0,[])))/\((0<=s1.1.1)/\((s1.1.1<((k.1.2.2.2.2.length:Nat):Int))/\((AroP (k.2.1,(k.2.2.2,k.2.2.1)) (k.1.2.2.2.2.getD s1.1.1.toNat (0,[])))/\(cnd ((kv k.2.1 k.2.2.1 (k.1.2.2.2.1.getD s1.1.1.toNat (0,[]))) != (kv k.2.1 k.2.2.1 (k.1.2.2.2.2.getD s1.1.1.toNat (0,[])))) (K (false,())) ((inK .i64 (s1.1.1+1))/\(next1 (((s1.1.1+1),()),())))))))))) (K (true,())))))) ((0,()),())))))) ((0,()),())))
theorem agz(k:T.den ko)(hok:ae (okL fa.args (k,())))(hpre:ae (fa.pre (k,()))):sk k (fun r=>r=fa.res (k,())):=by
 simp only[fa,okL,T.oks,T.ok,ap,ae,a0e,a0c,a0i]at hok hpre
 try dsimp only[T.den]at hok hpre
 unfold sk;have hP:ClsP k:=hpre;have l1:=hok.2.2.2.2.2.2.2.2.2.2.2.1;have l2:=hok.2.2.2.1.1;rw[cj]at l1 l2;clear hok;simp only[fa];refine bc (fun h=>?_) (fun h=>?_)
 ·have h:w9 k.2.1=false:=by simpa using h
  unfold w4;rw[h];rfl
 have h:w9 k.2.1=true:=by simpa using h
 have he:=hP.e;have hcl:w4 k=((ro k.2.2.2.length fun f=>kv k.2.1 k.2.2.1 (k.2.2.2.getD f.toNat (0,[]))==f)&&ro k.1.2.2.2.1.length fun i=>kv k.2.1 k.2.2.1 (k.1.2.2.2.1.getD i.toNat (0,[]))==kv k.2.1 k.2.2.1 (k.1.2.2.2.2.getD i.toNat (0,[]))):=by unfold w4;rw[h];rfl
 rw[hcl];refine aul k.2.2.2.length (fun f=>kv k.2.1 k.2.2.1 (k.2.2.2.getD f.toNat (0,[]))==f) ?_ ?_
 ·intro i next i0 i1 hf hn
  intros
  try dsimp only at hf hn⊢
  refine aq (fun _=>⟨i0,i1,hP.l h _ (im _ _ i0 i1),bc (fun hx=>?_) (fun hx=>⟨by rw[al];(try dsimp only);omega,hn ?_⟩)⟩) (fun hx=>absurd i1 hx)
  ·rw[hf (by rw[a17];exact a37.1 hx)];rfl
  ·rw[a0s];exact a1j.1 hx
 intro next ha
 intros
 try dsimp only
 refine aq (fun hx=>absurd hx (by omega)) (fun _=>?_);rw[ha];refine aul k.1.2.2.2.1.length (fun i=>kv k.2.1 k.2.2.1 (k.1.2.2.2.1.getD i.toNat (0,[]))==kv k.2.1 k.2.2.1 (k.1.2.2.2.2.getD i.toNat (0,[]))) ?_ ?_
 ·intro i next i0 i1 hf hn
  intros
  try dsimp only at hf hn⊢
  refine aq (fun _=>⟨i0,i1,hP.a h _ (im _ _ i0 i1),i0,by omega,hP.b h _ (im _ _ i0 (by omega)),bc (fun hx=>?_) (fun hx=>⟨by rw[al];(try dsimp only);omega,hn ?_⟩)⟩) (fun hx=>absurd i1 hx)
  ·rw[hf (by rw[a17];exact a37.1 hx)];rfl
  ·rw[a0s];exact a1j.1 hx
 intro next hb
 intros
 try dsimp only
 refine aq (fun hx=>absurd hx (by omega)) (fun _=>?_);rw[hb];rfl
theorem xc:bz Tryz.prog 98 fa:=ci (Φ:=agl) (ai ac7 (ai ym ao)) bm (by kernel_rfl) (fn:=Tryz.f98) (c:=bg Tryz.f98) (by kernel_rfl) (by kernel_rfl) (by kernel_rfl) fa rfl afd (cu [(12,523)]) (by kernel_rfl) (by kernel_rfl) (by kernel_rfl) (by decide) (fun x K=>sk x.1 K) (fun _ _=>by kernel_rfl) (fun x h1 h2=>agz x.1 h1 h2)
def ah2(l:List Int)(y:Int):Nat->Int
 |0=>0
 |n+1=>if l.getD n 0=y then n else ah2 l y n
def jw(l:List Int):List Int:=dv l.length fun y=>ah2 l y l.length
theorem bmc{l:List Int}{y i:Int}(h0:0<=i):ah2 l y (i+1).toNat=if l.getD i.toNat 0=y then i else ah2 l y i.toNat:=by
 rw[show (i+1).toNat=i.toNat+1 from by omega,ah2];split
 ·omega
 ·rfl
def jr:Ct:=⟨[(.sl (.int .i64))],[false],fun x=>[x.1.length<=40,bh x.1 x.1.length=true],[(false,(.sl (.fz (.int .i64))))],fun x=>(jw x.1,()),false,none⟩
def anw:Ann:=(.s .n (.s .n (.s (.s .n (.l [(3,(.ref 8 [])),(11,(.d (.int .i64)))] [(8,(.sl (.fz (.int .i64))))] [9,10] .n)) .n)))
def zn(list:List Int)(K:(List Int)×Unit->Prop):Prop:=((0<=((list.length:Nat):Int))/\((((list.length:Nat):Int)<=((list.length:Nat):Int))/\((((list.length:Nat):Int)<=((140737488355328:Nat):Int))/\(((((list.length:Nat):Int)*((8:Nat):Int))<=((140737488355328:Nat):Int))/\(be (S:=(bpa×bpb)) (fun s=>(fun next=>((inK .i64 s.1.2.1)->((T.ok (.sl (.int .i64)) s.2.1)->(cnd (decide (s.1.2.1<((list.length:Nat):Int))) ((0<=s.1.2.1)/\((s.1.2.1<((list.length:Nat):Int))/\((0<=(list.getD s.1.2.1.toNat 0))/\(((list.getD s.1.2.1.toNat 0)<((s.2.1.length:Nat):Int))/\((inK .i64 (s.1.2.1+1))/\(next (((),((s.1.2.1+1),())),((List.set s.2.1 (Int.toNat (list.getD s.1.2.1.toNat 0)) s.1.2.1),())))))))) (K (s.2.1,()))))))) (((),(0,())),((List.replicate (Int.toNat ((list.length:Nat):Int)) (0:Int)),())))))))
theorem aph(list:List Int)(hok:ae (okL jr.args (list,())))(hpre:ae (jr.pre (list,()))):zn list (fun r=>r=jr.res (list,())):=by
 simp only[jr,okL,T.oks,T.ok,ap,ae,a0e,a0c,a0i]at hok hpre
 try dsimp only[T.den]at hok hpre
 unfold zn;obtain⟨hl,hw⟩:=hpre;have hw:=kt.1 hw;clear hok;generalize hn:list.length=n at *;refine⟨by omega,by omega,by omega,by omega,?_⟩;simp only[a0m,ae5];refine aby (fun i=>dv n fun y=>ah2 list y i.toNat) (n:=n) (by omega) rfl ?_ ?_
 ·intro i next i0 i1 hnx _ _
  try dsimp only
  have hy:=hw i i0 i1;simp only[bmc i0]at hnx;refine aq (fun _=>⟨i0,by omega,hy.1,by rw[bj];exact hy.2,by rw[al];(try dsimp only);omega,?_⟩) (fun h=>absurd i1 h);rw[x4 hy.1 hy.2];refine (congrArg (fun z=>next (((),(i+1,())),(z,()))) (df fun y _ _=>?_)).mp hnx
  try dsimp only
  by_cases e:list.getD i.toNat 0=y
  ·rw[d0 e,d0 e.symm]
  ·rw[ds e,ds fun h=>e h.symm]
 ·intro next _ _
  refine aq (fun h=>absurd h (by dsimp only;omega)) (fun _=>?_);simp only[jr,jw,hn];rw[a0m]
theorem aeg:bz Tryz.prog 94 jr:=ci (Φ:=lkp []) ao bm (by kernel_rfl) (fn:=Tryz.f94) (c:=bg Tryz.f94) (by kernel_rfl) (by kernel_rfl) (by kernel_rfl) jr rfl anw (cu []) (by kernel_rfl) (by kernel_rfl) (by kernel_rfl) (by decide) (fun x K=>zn x.1 K) (fun _ _=>by kernel_rfl) (fun x h1 h2=>aph x.1 h1 h2)
theorem ba3{y:Int}:∀{l s:List Int},y∈l.foldl lh s->y∈s\/y∈l
 |[],s,h=>.inl h
 |k::l,s,h=>by
  rw[a12]at h;rcases ba3 h with h|h
  ·unfold lh at h;split at h
   ·rcases a1m.1 h with h|h
    ·exact .inl h
    ·rw[a0x]at h;exact .inr (by simp[h])
   ·exact .inl h
  ·exact .inr (by simp[h])
theorem au3:∀{l s:List Int},s.Nodup->(l.foldl lh s).Nodup
 |[],s,h=>h
 |k::l,s,h=>by
  rw[a12];refine au3 ?_;unfold lh;split
  ·rename_i hk;unfold List.Nodup;rw[a44];refine⟨h,a47 _ _,fun a ha b hb e=>?_⟩;rw[a0x]at hb;subst hb;subst e;have:=((qf (0:Int)).1 ha).1;omega
  ·exact h
theorem bhe{l:List Int}(h:l.Nodup){i j:Nat}(hi:i<l.length)(hj:j<l.length)(e:l.getD i 0=l.getD j 0):i=j:=by simp only[a0o,a0n hi,a0n hj,a02]at e;exact (List.getElem_inj h).1 e
theorem ajx{l:List Int}{i:Nat}(h:i<l.length):l.getD i 0∈l:=by simp only[a0o,a0n h,a02];exact a27 h
theorem ap6{l:List Int}{y:Int}(h:y∈l):∃i,i<l.length/\l.getD i 0=y:=by obtain⟨i,hi,e⟩:=a2e h;exact⟨i,hi,by simp only[a0o,a0n hi,a02];exact e⟩
theorem awr{l:List Int}{k:Int}(h0:0<=k)(h1:k<eh (bp l)):∃i,i<l.length/\(bp l).getD i 0=k:=by
 have hle:eh (bp l)<=(gw l).length:=(bgt (by omega) fun x hx=>by unfold bp at hx;obtain⟨y,hy,rfl⟩:=a2c.1 hx;exact ((qf (0:Int)).1 (aja (l:=l) (s:=[]) (.inr hy))).2.1).2;have hy:=ajx (l:=gw l) (i:=k.toNat) (by omega);rcases ba3 hy with h|h
 ·cases h
 ·obtain⟨i,hi,e⟩:=ap6 h;refine⟨i,hi,?_⟩;rw[alm hi,e];obtain⟨a0,a1,a2,_⟩:=(qf (0:Int)).1 hy;have hnd:(gw l).Nodup:=au3 (l:=l) (s:=[]) List.nodup_nil;have:=bhe hnd (i:=(gr (gw l) ((gw l).getD k.toNat 0)).toNat) (j:=k.toNat) (by omega) (by omega) a2;omega
theorem akq{c:List Int}{L:List ac}{s:ab}(C:ClaP s L c):∀m:Nat,m<=L.length->∀a:Nat,L.length-m<=a->a<L.length->((lsD c L m).getD (c.getD a 0).toNat (0,none)).2.isSome=true
 |0,_,a,h1,h2=>by omega
 |m+1,hm,a,h1,h2=>by
  have ih:=akq C m (by omega);have hln:=(ajp C m (by omega)).n;simp only[lsD];generalize hi:L.length-1-m=i;have hci:=C.r (i:Int) (by omega) (by omega);rw[a0m]at hci;unfold lsS;split
  ·rename_i hb;rw[acg _ _ _ _ _ (by rw[hln];omega)];split
   ·rfl
   ·rename_i hne;have:a≠i:=fun e=>hne (by rw[e]);exact ih a (by omega) h2
  ·rename_i hb;by_cases e:a=i
   ·subst e;rw[Bool.not_eq_true,a2a]at hb;have:=hb.1;rw[Option.isNone_eq_false_iff]at this;exact this
   ·exact ih a (by omega) h2
theorem amn{l:List (Int×Option (List Int))}{k:Nat}:(l7 l).getD k (0,[])=((l.getD k (0,none)).1,(l.getD k (0,none)).2.getD []):=by unfold l7;simp only[a0o,a05];cases l[k]? <;> rfl
structure KlsP (s:ab) (L:List ac) (K:aj):Prop where
 S:az s=true
 H:ShrtP s L
 k:K.1=fm L L.length
 C:ClaP s L K.2.1
 n:(K.2.2.length:Int)=eh K.2.1
 mem:∀k:Int,0<=k->k<K.2.2.length->∃a:Int,0<=a/\a<L.length/\K.2.1.getD a.toNat 0=k/\K.2.2.getD k.toNat (0,[])=L.getD a.toNat (0,[])
 six:∀k:Int,0<=k->k<K.2.2.length->(K.2.2.getD k.toNat (0,[])).2.length≠6
theorem adh{s:ab}(hS:az s=true)(h:n5 s=true):KlsP s (bw s).1 (pcR s):=by
 obtain⟨s0,s8,_⟩:=mr hS;unfold n5 at h;rw[a0a]at h;obtain⟨hg,hs⟩:=h;have H:=abv s0 (by omega) hg;unfold pcR;generalize (bw s).1=L at *;have P:SetP s L (fm L L.length,([],[])):=⟨hS,H,rfl⟩;have Q:=aq6 P L.length (a0f _);have C:ClaP s L (js s L):=arg Q;have D:=ajp C L.length (a0f _);have hln:(lsA s L).length=(eh (js s L)).toNat:=D.n;have htl:(l7 (lsA s L)).length=(lsA s L).length:=by unfold l7;rw[a0y]
 refine⟨hS,H,rfl,C,?_,fun k k0 k1=>?_,fun k k0 k1=>?_⟩
 ·dsimp only;have:=C.le;omega
 ·dsimp only at k1⊢;have hr:(cy (jW s (fm L L.length,([],[])) L L.length)).length=L.length:=by unfold cy;rw[bj,Q.n]
  obtain⟨i,i1,hi⟩:=awr (l:=cy (jW s (fm L L.length,([],[])) L L.length)) k0 (by have:eh (js s L)=eh (bp (cy (jW s (fm L L.length,([],[])) L L.length))):=rfl;omega);have hsm:=akq C L.length (a0f _) i (by omega) (by omega);have hi':(js s L).getD i 0=k:=hi;rw[hi']at hsm;rw[amn];have hv:=D.v k.toNat;have hD:lsA s L=lsD (js s L) L L.length:=rfl;rw[hD];generalize (lsD (js s L) L L.length).getD k.toNat (0,none)=q at hsm hv⊢;obtain⟨x,o⟩:=q
  cases o with
  |none=>cases hsm
  |some es=>obtain⟨a,_,a0,a1,a2,a3⟩:=hv x es rfl;exact⟨a,a0,a1,by omega,a3.symm⟩
 ·dsimp only at k1⊢;rw[amn];exact azo.1 hs k k0 (by omega)
theorem KlsP.set{s:ab}{L:List ac}{K:aj}(P:KlsP s L K):SetP s L K:=⟨P.S,P.H,P.k⟩
theorem aej{s:ab}{L:List ac}{K:aj}(P:KlsP s L K){p:ac}(hp:(aw s p).2=true):OfP K p.1 p.2 K.2.2.length/\ad2 s (K.2.2.getD (ofR K p.1 p.2).toNat (0,[])) p/\(aw s (K.2.2.getD (ofR K p.1 p.2).toNat (0,[]))).2=true:=by
 obtain⟨a0,a1,a2⟩:=P.set.at hp;have hr:=P.C.r _ a0 a1;have hn:=P.n;have o0:0<=ofR K p.1 p.2:=hr.1;have o1:ofR K p.1 p.2<K.2.2.length:=by have:=hr.2;unfold ofR;omega
 obtain⟨b,b0,b1,b2,b3⟩:=P.mem _ o0 o1;have hs:=P.C.st b _ b0 b1 a0 a1 b2;rw[a2]at hs;rw[b3];exact⟨⟨by have:=x7 hp;omega,a0,by rw[P.C.n];exact a1,o0,o1⟩,hs,P.H.ok _ (ja (by omega))⟩
theorem akd{s:ab}{L:List ac}{K:aj}(P:KlsP s L K){k:Int}(k0:0<=k)(k1:k<K.2.2.length):(aw s (K.2.2.getD k.toNat (0,[]))).2=true/\(K.2.2.getD k.toNat (0,[])).2.length<6:=by obtain⟨a,a0,a1,_,a3⟩:=P.mem k k0 k1;have h6:=P.six k k0 k1;have hv:=P.H.ok _ (ja (l:=L) (i:=a.toNat) (by omega));have:=x7 hv;rw[a3]at h6⊢;exact⟨hv,by omega⟩
def g8(s:ab)(K:aj):List Int:=gx K s (dc K.2.2.length)
structure OrdF (K:aj) (O:List Int):Prop where
 n:O.length=K.2.2.length
 r:∀i:Int,0<=i->i<O.length->0<=O.getD i.toNat 0/\O.getD i.toNat 0<K.2.2.length
 nd:O.Nodup
 su:∀c:Int,0<=c->c<K.2.2.length->c∈O
theorem anc{n:Nat}{c:Int}:c∈dc (n:Int)<->0<=c/\c<n:=by
 unfold dc;rw[ph];constructor
 ·rintro⟨i,i0,i1,rfl⟩;omega
 ·rintro⟨h0,h1⟩;exact⟨c,h0,by omega,rfl⟩
theorem amz(s:ab)(K:aj):OrdF K (g8 s K):=by
 have hp:=bck K s (dc K.2.2.length);have hl:(dc (K.2.2.length:Int)).length=K.2.2.length:=by unfold dc;rw[bj];omega
 have hn:(g8 s K).length=K.2.2.length:=hp.length_eq.trans hl;refine⟨hn,fun i i0 i1=>?_,?_,fun c c0 c1=>hp.mem_iff.2 (anc.2 ⟨c0,c1⟩)⟩
 ·have:=hp.mem_iff.1 (ajx (l:=g8 s K) (i:=i.toNat) (by omega));exact anc.1 this
 ·refine hp.nodup_iff.2 ?_;unfold dc List.Nodup;exact asl fun i j _ h _=>by omega
theorem bbz{l:List Int}{y:Int}:∀{m:Nat},(∃i,i<m/\l.getD i 0=y)->0<=ah2 l y m/\ah2 l y m<m/\l.getD (ah2 l y m).toNat 0=y
 |0,⟨i,h,_⟩=>by omega
 |m+1,⟨i,h,e⟩=>by
  unfold ah2;split
  ·rename_i hm;exact⟨by omega,by omega,by rw[a0m];exact hm⟩
  ·rename_i hm
   have hi:i<m:=by
    rcases a1l i m with h'|h'
    ·exact h'
    ·exact absurd (by rw[show m=i from by omega];exact e) hm
   obtain⟨a,b,c⟩:=bbz ⟨i,hi,e⟩;exact⟨a,by omega,c⟩
theorem bky{K:aj}{O:List Int}(F:OrdF K O){c:Int}(c0:0<=c)(c1:c<K.2.2.length):0<=(jw O).getD c.toNat 0/\(jw O).getD c.toNat 0<O.length/\O.getD ((jw O).getD c.toNat 0).toNat 0=c:=by have hn:=F.n;unfold jw;rw[ou c0 (by omega)];obtain⟨i,hi,e⟩:=ap6 (F.su c c0 c1);exact bbz ⟨i,hi,e⟩
def bn(s:ab)(K:aj):List ac:=(g8 s K).map fun c=>K.2.2.getD c.toNat (0,[])
theorem am2{s:ab}{K:aj}{i:Nat}(h:i<(g8 s K).length):(bn s K).getD i (0,[])=K.2.2.getD ((g8 s K).getD i 0).toNat (0,[]):=by unfold bn;simp only[a0o,a05,a0n h,a0z,a02]
theorem ae4{s:ab}{K:aj}:(bn s K).length=(g8 s K).length:=by unfold bn;rw[a0y]
def abb(s:ab)(K:aj)(x:Int)(es:List Int):Int:=(jw (g8 s K)).getD (ofR K x es).toNat 0
theorem ade{s:ab}{L:List ac}{K:aj}(P:KlsP s L K){i:Int}(i0:0<=i)(i1:i<(bn s K).length):(aw s ((bn s K).getD i.toNat (0,[]))).2=true/\((bn s K).getD i.toNat (0,[])).2.length<6:=by rw[ae4]at i1;have F:=amz s K;have:=F.r i i0 i1;rw[am2 (by omega)];exact akd P this.1 this.2
theorem ax3{s:ab}{L:List ac}{K:aj}(P:KlsP s L K){p:ac}(hp:(aw s p).2=true):0<=abb s K p.1 p.2/\abb s K p.1 p.2<(bn s K).length/\(bn s K).getD (abb s K p.1 p.2).toNat (0,[])=K.2.2.getD (ofR K p.1 p.2).toNat (0,[])/\ad2 s ((bn s K).getD (abb s K p.1 p.2).toNat (0,[])) p:=by
 obtain⟨O,hs,_⟩:=aej P hp;have F:=amz s K;obtain⟨a0,a1,a2⟩:=bky F O.o0 O.o1;have e:(bn s K).getD (abb s K p.1 p.2).toNat (0,[])=K.2.2.getD (ofR K p.1 p.2).toNat (0,[]):=by rw[am2 (by unfold abb;omega)];unfold abb;rw[a2]
 exact⟨a0,by rw[ae4];exact a1,e,by rw[e];exact hs⟩
theorem bnp{s:ab}{L:List ac}{K:aj}(P:KlsP s L K){f g:Int}(f0:0<=f)(f1:f<(bn s K).length)(g0:0<=g)(g1:g<(bn s K).length)(hfg:(aw s ((bn s K).getD f.toNat (0,[]))).1=((bn s K).getD g.toNat (0,[])).1):PrvP K (jw (g8 s K)) (bn s K) f g:=by
 obtain⟨p1,p2⟩:=ade P f0 f1;obtain⟨q1,q2⟩:=ade P g0 g1;have F:=amz s K
 have run:∀i:Nat,i<=((bn s K).getD g.toNat (0,[])).2.length->(aw s (ve K (bn s K) f (((bn s K).getD g.toNat (0,[])).2.take i))).2=true/\(ve K (bn s K) f (((bn s K).getD g.toNat (0,[])).2.take i)).2.length<6/\
   (aw s (ve K (bn s K) f (((bn s K).getD g.toNat (0,[])).2.take i))).1=(bf s ((bn s K).getD g.toNat (0,[])).1 (((bn s K).getD g.toNat (0,[])).2.take i)).1/\
   ∀h:i<((bn s K).getD g.toNat (0,[])).2.length,(aw s ((ve K (bn s K) f (((bn s K).getD g.toNat (0,[])).2.take i)).1,(ve K (bn s K) f (((bn s K).getD g.toNat (0,[])).2.take i)).2++[((bn s K).getD g.toNat (0,[])).2.getD i 0])).2=true:=by
  obtain⟨g1',g2',g3'⟩:=iv q1;rw[g3']at q1;generalize (bn s K).getD g.toNat (0,[])=G at *
  have nxt:∀(i:Nat) (p:ac),i<G.2.length->(aw s p).2=true->p.2.length<6->(aw s p).1=(bf s G.1 (G.2.take i)).1->(aw s (p.1,p.2++[G.2.getD i 0])).2=true/\(aw s (p.1,p.2++[G.2.getD i 0])).1=(bf s G.1 (G.2.take (i+1))).1:=fun i p hi h1 h2 h3=>by
   have ht:G.2.take (i+1)=G.2.take i++[G.2.getD i 0]:=by have:=mt G.2 0 (i:=(i:Int)) (by omega) (by omega);rw[show ((i:Int)+1).toNat=i+1 from by omega,a0m]at this;exact this
   have hf:=q1;rw[←a10 (i+1) G.2,pi]at hf;by_cases hh:(bf s G.1 (G.2.take (i+1))).2=true
   ·have hh':=hh;rw[ht,pi]at hh⊢;by_cases h4:(bf s G.1 (G.2.take i)).2=true
    ·rw[d0 h4]at hh⊢;obtain⟨b1,b2,b3⟩:=iv h1;rw[ai5 (p:=(p.1,p.2++[G.2.getD i 0])) b1 (by rw[a0q];simp only[a0l,a0p];omega)];dsimp only;rw[b3]at h1 h3;rw[pi,d0 h1,h3];exact⟨hh,rfl⟩
    ·rw[ds h4]at hh;cases hh
   ·rw[ds hh]at hf;cases hf
  intro i
  induction i with
  |zero=>intro _;have hr0:ve K (bn s K) f (G.2.take 0)=(bn s K).getD f.toNat (0,[]):=rfl;rw[hr0];exact⟨p1,p2,hfg,fun h=>(nxt 0 _ h p1 p2 hfg).1⟩
  |succ i ih=>
   intro hi;obtain⟨r1,r2,r3,r4⟩:=ih (by omega);have ht:G.2.take (i+1)=G.2.take i++[G.2.getD i 0]:=by have:=mt G.2 0 (i:=(i:Int)) (by omega) (by omega);rw[show ((i:Int)+1).toNat=i+1 from by omega,a0m]at this;exact this
   have hr:ve K (bn s K) f (G.2.take (i+1))=aqo K (ve K (bn s K) f (G.2.take i)) (G.2.getD i 0):=by rw[ht];unfold ve;rw[a3c];rfl
   have n1:=nxt i _ (by omega) r1 r2 r3;generalize ve K (bn s K) f (G.2.take i)=p at *;obtain⟨O,hs,hv⟩:=aej P n1.1;have hl:=akd P O.o0 O.o1;have e1:(aw s (aqo K p (G.2.getD i 0))).1=(bf s G.1 (G.2.take (i+1))).1:=hs.2.trans n1.2;rw[hr];exact⟨hv,hl.2,e1,fun h=>(nxt (i+1) _ h hv hl.2 e1).1⟩
 refine⟨f0,f1,g0,g1,by omega,fun i i0 i1=>?_,?_⟩
 ·obtain⟨_,_,_,r4⟩:=run i.toNat (by omega);exact (aej P (r4 (by omega))).1
 ·obtain⟨r1,_,_,_⟩:=run ((bn s K).getD g.toNat (0,[])).2.length (a0f _);rw[List.take_length]at r1;have O:=(aej P r1).1;have hb:(jw (g8 s K)).length=K.2.2.length:=by unfold jw;rw[bj,F.n]
  exact⟨O.le,O.a0,O.a1,O.o0,by rw[hb];exact O.o1⟩
theorem af6{s:ab}(hS:az s=true){e:Int}(e0:0<=e)(e1:e<s.2.1.length):(aw s (s.2.1.getD e.toNat 0,[e])).2=true/\(aw s (s.2.1.getD e.toNat 0,[e])).1=s.2.2.1.getD e.toNat 0:=by obtain⟨_,_,_,_,hw,_⟩:=mr hS;obtain⟨w0,w1⟩:=kt.1 hw e e0 e1;rw[ai5 (p:=(s.2.1.getD e.toNat 0,[e])) (ov.2 ⟨w0,by dsimp only;omega⟩) (by simp)];dsimp only;rw[bf,d0 ⟨ov.2 ⟨e0,by omega⟩,rfl⟩];exact⟨rfl,rfl⟩
def abc(s:ab)(K:aj)(n:Nat):List Int:=dv n fun x=>abb s K x []
def mq(s:ab)(K:aj)(n:Nat):List Int:=dv n fun e=>abb s K (s.2.1.getD e.toNat 0) [e]
def mc(l:List ac):List Int:=l.map (·.1)
def toA(s:ab)(l:List ac):List Int:=l.map fun p=>(aw s p).1
def akk(s:ab)(K:aj):bq:=(s.1,(mc (bn s K),(toA s (bn s K),(abc s K s.1.toNat,[]))))
def pz(s:ab)(K:aj):bq:=(s.1,(mc (bn s K),(toA s (bn s K),(abc s K s.1.toNat,wc (akk s K) (vd K (jw (g8 s K)) (bn s K))))))
theorem aud{l:List ac}{i:Nat}(h:i<l.length):(mc l).getD i 0=(l.getD i (0,[])).1:=by unfold mc;simp only[a0o,a05,a0n h,a0z,a02]
theorem aw3{s:ab}{l:List ac}{i:Nat}(h:i<l.length):(toA s l).getD i 0=(aw s (l.getD i (0,[]))).1:=by unfold toA;simp only[a0o,a05,a0n h,a0z,a02]
theorem bne{s:ab}{L:List ac}{K:aj}(P:KlsP s L K){e:Int}(e0:0<=e)(e1:e<s.2.1.length):0<=(mq s K s.2.1.length).getD e.toNat 0/\(mq s K s.2.1.length).getD e.toNat 0<(bn s K).length/\
  (mc (bn s K)).getD ((mq s K s.2.1.length).getD e.toNat 0).toNat 0=s.2.1.getD e.toNat 0/\(toA s (bn s K)).getD ((mq s K s.2.1.length).getD e.toNat 0).toNat 0=s.2.2.1.getD e.toNat 0:=by
 unfold mq;rw[ou e0 (by omega)];obtain⟨h1,h2⟩:=af6 P.S e0 e1;obtain⟨a0,a1,_,hs⟩:=ax3 P h1;dsimp only at a0 a1 hs;rw[aud (by omega),aw3 (by omega)];exact⟨a0,a1,hs.1,hs.2.trans h2⟩
theorem bfj{s:ab}{L:List ac}{K:aj}(P:KlsP s L K)(S:ShapeP (pz s K)):∀(es:List Int) (h n:Int),0<=h->h<(bn s K).length->(toA s (bn s K)).getD h.toNat 0=n->(bf s n es).2=true->axc (pz s K) (mq s K s.2.1.length) h es
 |[],_,_,_,_,_,_=>trivial
 |e::r,h,n,h0,h1,ht,hf=>by
  simp only[bf]at hf;split at hf
  ·rename_i hc;obtain⟨e0,e1⟩:=ov.1 hc.1;obtain⟨a0,a1,a2,a3⟩:=bne P e0 (by omega);have hl:(mq s K s.2.1.length).length=s.2.1.length:=by unfold mq;rw[bj]
   have hfl:(pz s K).2.1.length=(bn s K).length:=by unfold pz mc;rw[a0y]
   have hcomp:(pz s K).2.2.1.getD h.toNat 0=(pz s K).2.1.getD ((mq s K s.2.1.length).getD e.toNat 0).toNat 0:=by show (toA s (bn s K)).getD h.toNat 0=(mc (bn s K)).getD _ 0;rw[ht,a2,hc.2]
   have y:=S.yes h0 (by rw[hfl];exact h1) a0 (by rw[hfl];exact a1) hcomp;refine⟨⟨e0,by rw[hl];omega⟩,⟨a0,by rw[hfl];exact a1⟩,hcomp,bfj P S r _ (s.2.2.1.getD e.toNat 0) y.1 (by rw[←hfl];exact y.2.1) ?_ hf⟩;have:(pz s K).2.2.1.getD (gi (pz s K) h ((mq s K s.2.1.length).getD e.toNat 0)).toNat 0=(pz s K).2.2.1.getD ((mq s K s.2.1.length).getD e.toNat 0).toNat 0:=y.2.2.2;exact this.trans a3
  ·cases hf
theorem alv{s:ab}{L:List ac}{K:aj}(P:KlsP s L K)(hc:w9 (pz s K)=true){l:List ac}{p:ac}(hp:(aw s p).2=true):AroP (pz s K,(l,mq s K s.2.1.length)) p:=by
 have S:ShapeP (pz s K):=by unfold w9 at hc;rw[a0a]at hc;exact adn.1 hc.1
 obtain⟨a1,a2,a3⟩:=iv hp;obtain⟨b0,b1⟩:=ov.1 a1;have hx:p.1<(pz s K).1:=by show p.1<s.1;omega
 have hid:=S.idn b0 hx;have hi2:=S.idt p.1 b0 hx;have hfl:(pz s K).2.1.length=(bn s K).length:=by unfold pz mc;rw[a0y]
 rw[a3]at hp;exact⟨S,b0,hx,bfj P S p.2 _ p.1 hid.1 (by rw[←hfl];exact hid.2.1) hi2.2 hp⟩
theorem baw{s:ab}(hS:az s=true):(∀p∈s.2.2.2.1,(aw s p).2=true)/\∀p∈s.2.2.2.2,(aw s p).2=true:=by
 obtain⟨_,_,_,_,_,_,_,h8,h9⟩:=mr hS;constructor
 ·intro p hp;obtain⟨i,i1,e⟩:=qa hp;have:=(t6 h9 (i:=(i:Int)) (by omega) (by omega) (by omega)).l2;rw[a0m,e]at this;exact this
 ·intro p hp;obtain⟨i,i1,e⟩:=qa hp;have:=(t6 h9 (i:=(i:Int)) (by omega) (by omega) (by omega)).r2;rw[a0m,e]at this;exact this
theorem bkd{s:ab}{L:List ac}{K:aj}(P:KlsP s L K):ClsP (s,(pz s K,(mq s K s.2.1.length,bn s K))):=by obtain⟨_,_,_,_,_,_,_,h8,_⟩:=mr P.S;obtain⟨hl,hr⟩:=baw P.S;refine⟨fun h p hp=>?_,fun h p hp=>alv P h (hl p hp),fun h p hp=>alv P h (hr p hp),h8⟩;obtain⟨i,i1,rfl⟩:=qa hp;have:=(ade P (i:=(i:Int)) (by omega) (by exact Int.ofNat_lt.2 i1)).1;rw[a0m]at this;exact alv P h this
theorem bka{s:ab}{L:List ac}{K:aj}(P:KlsP s L K)(h40:(g8 s K).length<=40):PrtP (s,(akk s K,(mq s K s.2.1.length,bn s K))) K (jw (g8 s K)):=by refine⟨by show (mc _).length=_;unfold mc;rw[a0y],by show (toA s _).length=_;unfold toA;rw[a0y],by show (bn s K).length<=40;rw[ae4];exact h40,fun f g f0 f1 g0 g1 h=>?_⟩;have h:(toA s (bn s K)).getD f.toNat 0=(mc (bn s K)).getD g.toNat 0:=h;dsimp only at f1 g1;rw[aw3 (by omega),aud (by omega)]at h;exact bnp P f0 f1 g0 g1 h
def r8(s:ab):bjt:=(s,(pz s (pcR s),(mq s (pcR s) s.2.1.length,bn s (pcR s))))
def qb(s:ab):Bool:=n5 s&&decide ((g8 s (pcR s)).length<=40)&&w4 (r8 s)
def k9:Sp:=⟨[(.pt SchemaT)],[false],true,fun x=>qb x.1,fun x=>[az x.1=true],[(false,(.pt (.p (.fz (.pt SchemaT)) (.p (.p (.fz (.int .i64)) (.p (.sl (.fz (.int .i64))) (.p (.sl (.fz (.int .i64))) (.p (.sl (.fz (.int .i64))) (.sl (.sl (.fz (.int .i64)))))))) (.p (.sl (.fz (.int .i64))) (.sl (.fz PathT))))))),(false,(.fz (.er 119)))],fun x=>(r8 x.1,false,()),[(false,(.fz .any)),(false,(.fz (.er 119)))],fun x=>((),true,())⟩
def gn:Ct:=o6 k9 true
def ip:Ct:=o6 k9 false
def ait:Ct:=spC k9
def sn(s:ab)(K:jc gn.rt->Prop):Prop:=(cnd (n5 s) (((n5 s)=Bool.true)/\(((az s)=Bool.true)/\(cnd Bool.false False (((List.length (pcR s).2.2)<=1000000)/\((OrdP (pcR s) s (dc (((List.length (pcR s).2.2):Nat):Int)))/\(cnd (decide ((40:Int)<(((List.length (gx (pcR s) s (dc (((List.length (pcR s).2.2):Nat):Int)))):Nat):Int))) False (((List.length (gx (pcR s) s (dc (((List.length (pcR s).2.2):Nat):Int))))<=40)/\(((bh (gx (pcR s) s (dc (((List.length (pcR s).2.2):Nat):Int))) (((List.length (gx (pcR s) s (dc (((List.length (pcR s).2.2):Nat):Int)))):Nat):Int))=Bool.true)/\(be (S:=(bpf×(((List (ByteArray×Int))×bpe)×bpj))) (fun s1=>(fun next=>((inK IntKind.i64 s1.1.2.2.2.1)->((T.ok (T.mp T.str (T.int IntKind.i64)) s1.2.1.1)->((T.ok (T.sl (T.int IntKind.i64)) s1.2.1.2.1)->((T.ok (T.sl PathT) s1.2.1.2.2)->((T.ok (T.sl (T.int IntKind.i64)) s1.2.2.1)->((inK IntKind.i64 s1.2.2.2.1.1.1)->((T.ok (T.sl (T.int IntKind.i64)) s1.2.2.2.1.1.2.1)->((T.ok (T.sl (T.int IntKind.i64)) s1.2.2.2.1.1.2.2.1)->((T.ok (T.sl PathT) s1.2.2.2.1.1.2.2.2.1)->((T.ok (T.sl PathT) s1.2.2.2.1.1.2.2.2.2)->((inK IntKind.i64 s1.2.2.2.1.2.1.1)->((T.ok (T.sl (T.int IntKind.i64)) s1.2.2.2.1.2.1.2.1)->((T.ok (T.sl (T.int IntKind.i64)) s1.2.2.2.1.2.1.2.2.1)->((T.ok (T.sl (T.int IntKind.i64)) s1.2.2.2.1.2.1.2.2.2.1)->((T.ok (T.sl (T.sl (T.int IntKind.i64))) s1.2.2.2.1.2.1.2.2.2.2)->((T.ok (T.sl (T.int IntKind.i64)) s1.2.2.2.1.2.2.1)->((T.ok (T.sl PathT) s1.2.2.2.1.2.2.2)->(cnd (decide (s1.1.2.2.2.1<(((List.length (gx (pcR s) s (dc (((List.length (pcR s).2.2):Nat):Int)))):Nat):Int))) (((0:Int)<=s1.1.2.2.2.1)/\((s1.1.2.2.2.1<(((List.length (gx (pcR s) s (dc (((List.length (pcR s).2.2):Nat):Int)))):Nat):Int))/\(((0:Int)<=(List.getD (gx (pcR s) s (dc (((List.length (pcR s).2.2):Nat):Int))) s1.1.2.2.2.1.toNat (0:Int)))/\(((List.getD (gx (pcR s) s (dc (((List.length (pcR s).2.2):Nat):Int))) s1.1.2.2.2.1.toNat (0:Int))<((s1.2.1.2.2.length:Nat):Int))/\((s.2.1.length<=s.2.2.1.length)/\((inK IntKind.i64 (s.1-(1:Int)))/\((dz s1.2.2.2.1.2.2.2.length (List.length ((s1.2.1.2.2.getD (Int.toNat (List.getD (gx (pcR s) s (dc (((List.length (pcR s).2.2):Nat):Int))) s1.1.2.2.2.1.toNat (0:Int))) ((0:Int),([]:List Int)))::([]:List bo9))) 32)/\((dz s1.2.2.2.1.2.1.2.1.length (List.length ((s1.2.1.2.2.getD (Int.toNat (List.getD (gx (pcR s) s (dc (((List.length (pcR s).2.2):Nat):Int))) s1.1.2.2.2.1.toNat (0:Int))) ((0:Int),([]:List Int))).1::([]:List Int))) 8)/\((dz s1.2.2.2.1.2.1.2.2.1.length (List.length ((aw s (s1.2.1.2.2.getD (Int.toNat (List.getD (gx (pcR s) s (dc (((List.length (pcR s).2.2):Nat):Int))) s1.1.2.2.2.1.toNat (0:Int))) ((0:Int),([]:List Int)))).1::([]:List Int))) 8)/\((inK IntKind.i64 (s1.1.2.2.2.1+(1:Int)))/\(next (((),((),((),((s1.1.2.2.2.1+(1:Int)),())))),(s1.2.1,(s1.2.2.1,((s1.2.2.2.1.1,((s1.2.2.2.1.2.1.1,((s1.2.2.2.1.2.1.2.1++((s1.2.1.2.2.getD (Int.toNat (List.getD (gx (pcR s) s (dc (((List.length (pcR s).2.2):Nat):Int))) s1.1.2.2.2.1.toNat (0:Int))) ((0:Int),([]:List Int))).1::([]:List Int))),((s1.2.2.2.1.2.1.2.2.1++((aw s (s1.2.1.2.2.getD (Int.toNat (List.getD (gx (pcR s) s (dc (((List.length (pcR s).2.2):Nat):Int))) s1.1.2.2.2.1.toNat (0:Int))) ((0:Int),([]:List Int)))).1::([]:List Int))),s1.2.2.2.1.2.1.2.2.2))),(s1.2.2.2.1.2.2.1,(s1.2.2.2.1.2.2.2++((s1.2.1.2.2.getD (Int.toNat (List.getD (gx (pcR s) s (dc (((List.length (pcR s).2.2):Nat):Int))) s1.1.2.2.2.1.toNat (0:Int))) ((0:Int),([]:List Int)))::([]:List bo9)))))),()))))))))))))))) (be (S:=(bpf×(((List (ByteArray×Int))×bpe)×bpj))) (fun s2=>(fun next1=>((inK IntKind.i64 s2.1.2.2.2.1)->((T.ok (T.mp T.str (T.int IntKind.i64)) s2.2.1.1)->((T.ok (T.sl (T.int IntKind.i64)) s2.2.1.2.1)->((T.ok (T.sl PathT) s2.2.1.2.2)->((T.ok (T.sl (T.int IntKind.i64)) s2.2.2.1)->((inK IntKind.i64 s2.2.2.2.1.1.1)->((T.ok (T.sl (T.int IntKind.i64)) s2.2.2.2.1.1.2.1)->((T.ok (T.sl (T.int IntKind.i64)) s2.2.2.2.1.1.2.2.1)->((T.ok (T.sl PathT) s2.2.2.2.1.1.2.2.2.1)->((T.ok (T.sl PathT) s2.2.2.2.1.1.2.2.2.2)->((inK IntKind.i64 s2.2.2.2.1.2.1.1)->((T.ok (T.sl (T.int IntKind.i64)) s2.2.2.2.1.2.1.2.1)->((T.ok (T.sl (T.int IntKind.i64)) s2.2.2.2.1.2.1.2.2.1)->((T.ok (T.sl (T.int IntKind.i64)) s2.2.2.2.1.2.1.2.2.2.1)->((T.ok (T.sl (T.sl (T.int IntKind.i64))) s2.2.2.2.1.2.1.2.2.2.2)->((T.ok (T.sl (T.int IntKind.i64)) s2.2.2.2.1.2.2.1)->((T.ok (T.sl PathT) s2.2.2.2.1.2.2.2)->(cnd (decide (s2.1.2.2.2.1<s.1)) (((List.length ([]:List Int))<=1000000)/\(((0:Int)<=(cn s2.2.1 s2.1.2.2.2.1 ([]:List Int)))/\(((cn s2.2.1 s2.1.2.2.2.1 ([]:List Int))<((s2.2.1.2.1.length:Nat):Int))/\(((0:Int)<=(s2.2.1.2.1.getD (Int.toNat (cn s2.2.1 s2.1.2.2.2.1 ([]:List Int))) (0:Int)))/\(((s2.2.1.2.1.getD (Int.toNat (cn s2.2.1 s2.1.2.2.2.1 ([]:List Int))) (0:Int))<((s2.2.2.1.length:Nat):Int))/\((dz s2.2.2.2.1.2.1.2.2.2.1.length (List.length ((s2.2.2.1.getD (Int.toNat (s2.2.1.2.1.getD (Int.toNat (cn s2.2.1 s2.1.2.2.2.1 ([]:List Int))) (0:Int))) (0:Int))::([]:List Int))) 8)/\((inK IntKind.i64 (s2.1.2.2.2.1+(1:Int)))/\(next1 (((),((),((),((s2.1.2.2.2.1+(1:Int)),())))),(s2.2.1,(s2.2.2.1,((s2.2.2.2.1.1,((s2.2.2.2.1.2.1.1,(s2.2.2.2.1.2.1.2.1,(s2.2.2.2.1.2.1.2.2.1,((s2.2.2.2.1.2.1.2.2.2.1++((s2.2.2.1.getD (Int.toNat (s2.2.1.2.1.getD (Int.toNat (cn s2.2.1 s2.1.2.2.2.1 ([]:List Int))) (0:Int))) (0:Int))::([]:List Int))),s2.2.2.2.1.2.1.2.2.2.2)))),s2.2.2.2.1.2.2)),())))))))))))) (be (S:=(bpf×(((List (ByteArray×Int))×bpe)×bpj))) (fun s3=>(fun next2=>((inK IntKind.i64 s3.1.2.2.2.1)->((T.ok (T.mp T.str (T.int IntKind.i64)) s3.2.1.1)->((T.ok (T.sl (T.int IntKind.i64)) s3.2.1.2.1)->((T.ok (T.sl PathT) s3.2.1.2.2)->((T.ok (T.sl (T.int IntKind.i64)) s3.2.2.1)->((inK IntKind.i64 s3.2.2.2.1.1.1)->((T.ok (T.sl (T.int IntKind.i64)) s3.2.2.2.1.1.2.1)->((T.ok (T.sl (T.int IntKind.i64)) s3.2.2.2.1.1.2.2.1)->((T.ok (T.sl PathT) s3.2.2.2.1.1.2.2.2.1)->((T.ok (T.sl PathT) s3.2.2.2.1.1.2.2.2.2)->((inK IntKind.i64 s3.2.2.2.1.2.1.1)->((T.ok (T.sl (T.int IntKind.i64)) s3.2.2.2.1.2.1.2.1)->((T.ok (T.sl (T.int IntKind.i64)) s3.2.2.2.1.2.1.2.2.1)->((T.ok (T.sl (T.int IntKind.i64)) s3.2.2.2.1.2.1.2.2.2.1)->((T.ok (T.sl (T.sl (T.int IntKind.i64))) s3.2.2.2.1.2.1.2.2.2.2)->((T.ok (T.sl (T.int IntKind.i64)) s3.2.2.2.1.2.2.1)->((T.ok (T.sl PathT) s3.2.2.2.1.2.2.2)->(cnd (decide (s3.1.2.2.2.1<((s.2.1.length:Nat):Int))) (((0:Int)<=s3.1.2.2.2.1)/\((s3.1.2.2.2.1<((s.2.1.length:Nat):Int))/\(((List.length (s3.1.2.2.2.1::([]:List Int)))<=1000000)/\(((0:Int)<=(cn s3.2.1 (s.2.1.getD s3.1.2.2.2.1.toNat (0:Int)) (s3.1.2.2.2.1::([]:List Int))))/\(((cn s3.2.1 (s.2.1.getD s3.1.2.2.2.1.toNat (0:Int)) (s3.1.2.2.2.1::([]:List Int)))<((s3.2.1.2.1.length:Nat):Int))/\(((0:Int)<=(s3.2.1.2.1.getD (Int.toNat (cn s3.2.1 (s.2.1.getD s3.1.2.2.2.1.toNat (0:Int)) (s3.1.2.2.2.1::([]:List Int)))) (0:Int)))/\(((s3.2.1.2.1.getD (Int.toNat (cn s3.2.1 (s.2.1.getD s3.1.2.2.2.1.toNat (0:Int)) (s3.1.2.2.2.1::([]:List Int)))) (0:Int))<((s3.2.2.1.length:Nat):Int))/\((dz s3.2.2.2.1.2.2.1.length (List.length ((s3.2.2.1.getD (Int.toNat (s3.2.1.2.1.getD (Int.toNat (cn s3.2.1 (s.2.1.getD s3.1.2.2.2.1.toNat (0:Int)) (s3.1.2.2.2.1::([]:List Int)))) (0:Int))) (0:Int))::([]:List Int))) 8)/\((inK IntKind.i64 (s3.1.2.2.2.1+(1:Int)))/\(next2 (((),((),((),((s3.1.2.2.2.1+(1:Int)),())))),(s3.2.1,(s3.2.2.1,((s3.2.2.2.1.1,(s3.2.2.2.1.2.1,((s3.2.2.2.1.2.2.1++((s3.2.2.1.getD (Int.toNat (s3.2.1.2.1.getD (Int.toNat (cn s3.2.1 (s.2.1.getD s3.1.2.2.2.1.toNat (0:Int)) (s3.1.2.2.2.1::([]:List Int)))) (0:Int))) (0:Int))::([]:List Int))),s3.2.2.2.1.2.2.2))),())))))))))))))) ((PrtP s3.2.2.2.1 s3.2.1 s3.2.2.1)/\((ClsP (s3.2.2.2.1.1,((s3.2.2.2.1.2.1.1,(s3.2.2.2.1.2.1.2.1,(s3.2.2.2.1.2.1.2.2.1,(s3.2.2.2.1.2.1.2.2.2.1,(wc s3.2.2.2.1.2.1 (vd s3.2.1 s3.2.2.1 s3.2.2.2.1.2.2.2)))))),s3.2.2.2.1.2.2)))/\(cnd (!(w4 (s3.2.2.2.1.1,((s3.2.2.2.1.2.1.1,(s3.2.2.2.1.2.1.2.1,(s3.2.2.2.1.2.1.2.2.1,(s3.2.2.2.1.2.1.2.2.2.1,(wc s3.2.2.2.1.2.1 (vd s3.2.1 s3.2.2.1 s3.2.2.2.1.2.2.2)))))),s3.2.2.2.1.2.2)))) False (K ((s3.2.2.2.1.1,((s3.2.2.2.1.2.1.1,(s3.2.2.2.1.2.1.2.1,(s3.2.2.2.1.2.1.2.2.1,(s3.2.2.2.1.2.1.2.2.2.1,(wc s3.2.2.2.1.2.1 (vd s3.2.1 s3.2.2.1 s3.2.2.2.1.2.2.2)))))),s3.2.2.2.1.2.2)),(Bool.false,())))))))))))))))))))))))))) (((),((),((),((0:Int),())))),(s2.2.1,(s2.2.2.1,(s2.2.2.2.1,()))))))))))))))))))))))))) (((),((),((),((0:Int),())))),(s1.2.1,(s1.2.2.1,(s1.2.2.2.1,()))))))))))))))))))))))))) (((),((),((),((0:Int),())))),((pcR s),((jw (gx (pcR s) s (dc (((List.length (pcR s).2.2):Nat):Int)))),((s,((s.1,(([]:List Int),(([]:List Int),(([]:List Int),([]:List (List Int)))))),(([]:List Int),([]:List bo9)))),()))))))))))))) (((n5 s)=Bool.false)/\(((az s)=Bool.true)/\(cnd Bool.true False (False/\(False/\(False/\False)))))))
theorem ag1(s:ab)(hok:ae (okL gn.args (s,())))(hpre:ae (gn.pre (s,()))):sn s (fun r=>r=gn.res (s,())):=by
 simp only[gn,o6,k9,okL,T.oks,T.ok,ap,ae,a0e,a0c,a0i]at hok hpre
 try dsimp only[T.den]at hok hpre
 unfold sn;obtain⟨hs,hS⟩:=hpre;clear hok;obtain⟨s0,s8,f8,tf,_,_,e8,re,_⟩:=mr hS;unfold qb at hs;rw[a0a,a0a,a04]at hs;obtain⟨⟨hp,h4⟩,hcl⟩:=hs;unfold r8 at hcl;simp only[gn,o6,k9,r8];refine bc (fun _=>⟨hp,hS,bc (fun h=>by cases h) (fun _=>?_)⟩) (fun h=>by rw[hp]at h;cases h);have P:=adh hS hp;have F:=amz s (pcR s);have hO:gx (pcR s) s (dc ((pcR s).2.2.length:Int))=g8 s (pcR s):=rfl;rw[hO];clear hO;generalize pcR s=K at *;have hC:=P.C.le;have hn:=P.n;have hH:=P.H.le;have hFn:=F.n;have hbl:(jw (g8 s K)).length=K.2.2.length:=by unfold jw;rw[bj,hFn]
 have hal:(bn s K).length=(g8 s K).length:=ae4;refine⟨by omega,⟨by omega,by rw[al];(try dsimp only);omega,⟨by omega,fun p hp=>by obtain⟨i,i1,rfl⟩:=qa hp;have:=(akd P (k:=(i:Int)) (by omega) (by omega)).2;rw[a0m]at this;omega⟩,fun a ha=>anc.1 ha⟩,aq (fun h=>?_) (fun h=>?_)⟩
 ·omega
 have h40:(g8 s K).length<=40:=by omega
 refine⟨h40,kt.2 fun i i0 i1=>by have:=F.r i i0 i1;omega,?_⟩;refine br (fun (q:(bpf×(((List (ByteArray×Int))×bpe)×bpj)))=>0<=q.1.2.2.2.1/\q.1.2.2.2.1<=(g8 s K).length/\q.2.1=K/\q.2.2.1=jw (g8 s K)/\q.2.2.2.1=(s,((s.1,(mc ((bn s K).take q.1.2.2.2.1.toNat),(toA s ((bn s K).take q.1.2.2.2.1.toNat),([],[])))),([],(bn s K).take q.1.2.2.2.1.toNat)))) (fun (q:(bpf×(((List (ByteArray×Int))×bpe)×bpj)))=>((g8 s K).length-q.1.2.2.2.1).toNat) ?_ ⟨a0r _,by dsimp only;omega,rfl,rfl,rfl⟩;rintro⟨⟨_,_,_,i,_⟩,k',b',o',_⟩ next ⟨i0,i1,q1,q2,q3⟩ hnx
 intros
 try dsimp only at i0 i1 q1 q2 q3 hnx⊢
 subst q1;subst q2;subst q3
 try dsimp only
 refine aq (fun hi=>?_) (fun hi=>?_)
 ·have hr:=F.r i i0 hi;have ht:(bn s k').take (i+1).toNat=(bn s k').take i.toNat++[k'.2.2.getD ((g8 s k').getD i.toNat 0).toNat (0,[])]:=by rw[mt (bn s k') (0,[]) i0 (by omega),am2 (by omega)]
  have htl:((bn s k').take i.toNat).length<=40:=by rw[a1c];omega
  refine⟨i0,hi,hr.1,hr.2,by omega,by rw[al];(try dsimp only);omega,da (by simp only[a0l,a0p];omega),da (by unfold mc;rw[a0y];simp only[a0l,a0p];omega),da (by unfold toA;rw[a0y];simp only[a0l,a0p];omega),by rw[al];(try dsimp only);omega,hnx _ ⟨by dsimp only;omega,by dsimp only;omega,rfl,rfl,?_⟩ (by dsimp only;omega)⟩
  try dsimp only
  rw[ht];simp only[mc,toA,a28,a1h,a2i]
 clear hnx;have e:i=(g8 s k').length:=by omega
 subst e;rw[a0m,a23 (by omega)];refine br (fun (q:(bpf×(((List (ByteArray×Int))×bpe)×bpj)))=>0<=q.1.2.2.2.1/\q.1.2.2.2.1<=s.1/\q.2.1=k'/\q.2.2.1=jw (g8 s k')/\q.2.2.2.1=(s,((s.1,(mc (bn s k'),(toA s (bn s k'),(abc s k' q.1.2.2.2.1.toNat,[])))),([],bn s k')))) (fun (q:(bpf×(((List (ByteArray×Int))×bpe)×bpj)))=>(s.1-q.1.2.2.2.1).toNat) ?_ ⟨a0r _,by dsimp only;omega,rfl,rfl,rfl⟩;rintro⟨⟨_,_,_,x,_⟩,k2,b',o',_⟩ next ⟨x0,x1,q1,q2,q3⟩ hnx
 intros
 try dsimp only at x0 x1 q1 q2 q3 hnx⊢
 subst q1;subst q2;subst q3
 try dsimp only
 refine aq (fun hx=>?_) (fun hx=>?_)
 ·have O:=(aej P (adi x0 hx)).1;refine⟨by simp,O.a0,O.a1,O.o0,by rw[hbl];exact O.o1,da (by unfold abc;rw[bj];simp only[a0l,a0p];omega),by rw[al];(try dsimp only);omega,hnx _ ⟨by dsimp only;omega,by dsimp only;omega,rfl,rfl,?_⟩ (by dsimp only;omega)⟩
  try dsimp only
  have:abc s k2 (x+1).toNat=abc s k2 x.toNat++[(jw (g8 s k2)).getD (k2.2.1.getD (cn k2 x []).toNat 0).toNat 0]:=by unfold abc;rw[uw x0];rfl
  rw[this]
 clear hnx;have e:x=s.1:=by omega
 subst e;refine br (fun (q:(bpf×(((List (ByteArray×Int))×bpe)×bpj)))=>0<=q.1.2.2.2.1/\q.1.2.2.2.1<=s.2.1.length/\q.2.1=k2/\q.2.2.1=jw (g8 s k2)/\q.2.2.2.1=(s,(akk s k2,(mq s k2 q.1.2.2.2.1.toNat,bn s k2)))) (fun (q:(bpf×(((List (ByteArray×Int))×bpe)×bpj)))=>(s.2.1.length-q.1.2.2.2.1).toNat) ?_ ⟨a0r _,by dsimp only;omega,rfl,rfl,rfl⟩;rintro⟨⟨_,_,_,x,_⟩,k3,b',o',_⟩ next ⟨x0,x1,q1,q2,q3⟩ hnx
 intros
 try dsimp only at x0 x1 q1 q2 q3 hnx⊢
 subst q1;subst q2;subst q3
 try dsimp only
 refine aq (fun hx=>?_) (fun hx=>?_)
 ·have O:=(aej P (af6 hS x0 hx).1).1;refine⟨x0,hx,by simp,O.a0,O.a1,O.o0,by rw[hbl];exact O.o1,da (by unfold mq;rw[bj];simp only[a0l,a0p];omega),by rw[al];(try dsimp only);omega,hnx _ ⟨by dsimp only;omega,by dsimp only;omega,rfl,rfl,?_⟩ (by dsimp only;omega)⟩
  try dsimp only
  have:mq s k3 (x+1).toNat=mq s k3 x.toNat++[(jw (g8 s k3)).getD (k3.2.1.getD (cn k3 (s.2.1.getD x.toNat 0) [x]).toNat 0).toNat 0]:=by unfold mq;rw[uw x0];rfl
  rw[this]
 clear hnx;have e:x=s.2.1.length:=by omega
 subst e;rw[a0m];refine⟨bka P h40,bkd P,bc (fun h=>?_) (fun h=>?_)⟩
 ·exact absurd hcl (by rw[Bool.not_eq_true,←a1f];exact h)
 ·rfl
theorem afc:bz Tryz.prog 75 gn:=ci (Φ:=lkp [(92,q6),(93,jf),(96,qi),(98,fa),(94,jr),(74,d4),(95,ge),(97,d5)]) (ai v7 (ai aal (ai u4 (ai xc (ai aeg (ai lq (ai tx (ai rx ao)))))))) bm (by kernel_rfl) (fn:=Tryz.f75) (c:=bg Tryz.f75) (by kernel_rfl) (by kernel_rfl) (by kernel_rfl) gn rfl (.s .n (.s .n (.s .n (.s .n (.s .n (.s .n (.s .n (.s (.s .n (.l [(4,(.ad 4 [.de])),(7,(.ad 7 [.de])),(8,(.bx (.ad 42 [.de]))),(45,(.d (.int .i64)))] [(4,(.pt (.fz (.pt (.p (.mp .str (.int .i64)) (.p (.sl (.int .i64)) (.sl (.p (.int .i64) (.sl (.int .i64)))))))))),(7,(.pt (.sl (.fz (.int .i64))))),(42,(.pt (.p (.fz (.pt (.p (.int .i64) (.p (.sl (.int .i64)) (.p (.sl (.int .i64)) (.p (.sl (.p (.int .i64) (.sl (.int .i64)))) (.sl (.p (.int .i64) (.sl (.int .i64)))))))))) (.p (.p (.fz (.int .i64)) (.p (.sl (.fz (.int .i64))) (.p (.sl (.fz (.int .i64))) (.p (.sl (.fz (.int .i64))) (.sl (.sl (.fz (.int .i64)))))))) (.p (.sl (.fz (.int .i64))) (.sl (.fz (.p (.int .i64) (.sl (.int .i64))))))))))] [0,43,44] .n)) (.s (.s .n (.l [(4,(.ad 4 [.de])),(7,(.ad 7 [.de])),(8,(.bx (.ad 42 [.de]))),(102,(.d (.int .i64)))] [(4,(.pt (.fz (.pt (.p (.mp .str (.int .i64)) (.p (.sl (.int .i64)) (.sl (.p (.int .i64) (.sl (.int .i64)))))))))),(7,(.pt (.sl (.fz (.int .i64))))),(42,(.pt (.p (.fz (.pt (.p (.int .i64) (.p (.sl (.int .i64)) (.p (.sl (.int .i64)) (.p (.sl (.p (.int .i64) (.sl (.int .i64)))) (.sl (.p (.int .i64) (.sl (.int .i64)))))))))) (.p (.p (.fz (.int .i64)) (.p (.sl (.fz (.int .i64))) (.p (.sl (.fz (.int .i64))) (.p (.sl (.fz (.int .i64))) (.sl (.sl (.fz (.int .i64)))))))) (.p (.sl (.fz (.int .i64))) (.sl (.fz (.p (.int .i64) (.sl (.int .i64))))))))))] [0,101] .n)) (.s (.s .n (.l [(4,(.ad 4 [.de])),(7,(.ad 7 [.de])),(8,(.bx (.ad 42 [.de]))),(128,(.d (.int .i64)))] [(4,(.pt (.fz (.pt (.p (.mp .str (.int .i64)) (.p (.sl (.int .i64)) (.sl (.p (.int .i64) (.sl (.int .i64)))))))))),(7,(.pt (.sl (.fz (.int .i64))))),(42,(.pt (.p (.fz (.pt (.p (.int .i64) (.p (.sl (.int .i64)) (.p (.sl (.int .i64)) (.p (.sl (.p (.int .i64) (.sl (.int .i64)))) (.sl (.p (.int .i64) (.sl (.int .i64)))))))))) (.p (.p (.fz (.int .i64)) (.p (.sl (.fz (.int .i64))) (.p (.sl (.fz (.int .i64))) (.p (.sl (.fz (.int .i64))) (.sl (.sl (.fz (.int .i64)))))))) (.p (.sl (.fz (.int .i64))) (.sl (.fz (.p (.int .i64) (.sl (.int .i64))))))))))] [126,127] .n)) .n)))))))))) (cu [(16,5008),(1,1500),(21,5013),(26,5014),(14,5007),(15,5009)]) (by kernel_rfl) (by kernel_rfl) (by kernel_rfl) (by decide) (fun x K=>sn x.1 K) (fun _ _=>by kernel_rfl) (fun x h1 h2=>ag1 x.1 h1 h2)
def si(s:ab)(K:jc ip.rt->Prop):Prop:=(cnd (n5 s) (((n5 s)=Bool.true)/\(((az s)=Bool.true)/\(cnd Bool.false (K ((),(Bool.false,()))) (((List.length (pcR s).2.2)<=1000000)/\((OrdP (pcR s) s (dc (((List.length (pcR s).2.2):Nat):Int)))/\(cnd (decide ((40:Int)<(((List.length (gx (pcR s) s (dc (((List.length (pcR s).2.2):Nat):Int)))):Nat):Int))) (K ((),(Bool.true,()))) (((List.length (gx (pcR s) s (dc (((List.length (pcR s).2.2):Nat):Int))))<=40)/\(((bh (gx (pcR s) s (dc (((List.length (pcR s).2.2):Nat):Int))) (((List.length (gx (pcR s) s (dc (((List.length (pcR s).2.2):Nat):Int)))):Nat):Int))=Bool.true)/\(be (S:=(bpf×(((List (ByteArray×Int))×bpe)×bpj))) (fun s1=>(fun next=>((inK IntKind.i64 s1.1.2.2.2.1)->((T.ok (T.mp T.str (T.int IntKind.i64)) s1.2.1.1)->((T.ok (T.sl (T.int IntKind.i64)) s1.2.1.2.1)->((T.ok (T.sl PathT) s1.2.1.2.2)->((T.ok (T.sl (T.int IntKind.i64)) s1.2.2.1)->((inK IntKind.i64 s1.2.2.2.1.1.1)->((T.ok (T.sl (T.int IntKind.i64)) s1.2.2.2.1.1.2.1)->((T.ok (T.sl (T.int IntKind.i64)) s1.2.2.2.1.1.2.2.1)->((T.ok (T.sl PathT) s1.2.2.2.1.1.2.2.2.1)->((T.ok (T.sl PathT) s1.2.2.2.1.1.2.2.2.2)->((inK IntKind.i64 s1.2.2.2.1.2.1.1)->((T.ok (T.sl (T.int IntKind.i64)) s1.2.2.2.1.2.1.2.1)->((T.ok (T.sl (T.int IntKind.i64)) s1.2.2.2.1.2.1.2.2.1)->((T.ok (T.sl (T.int IntKind.i64)) s1.2.2.2.1.2.1.2.2.2.1)->((T.ok (T.sl (T.sl (T.int IntKind.i64))) s1.2.2.2.1.2.1.2.2.2.2)->((T.ok (T.sl (T.int IntKind.i64)) s1.2.2.2.1.2.2.1)->((T.ok (T.sl PathT) s1.2.2.2.1.2.2.2)->(cnd (decide (s1.1.2.2.2.1<(((List.length (gx (pcR s) s (dc (((List.length (pcR s).2.2):Nat):Int)))):Nat):Int))) (((0:Int)<=s1.1.2.2.2.1)/\((s1.1.2.2.2.1<(((List.length (gx (pcR s) s (dc (((List.length (pcR s).2.2):Nat):Int)))):Nat):Int))/\(((0:Int)<=(List.getD (gx (pcR s) s (dc (((List.length (pcR s).2.2):Nat):Int))) s1.1.2.2.2.1.toNat (0:Int)))/\(((List.getD (gx (pcR s) s (dc (((List.length (pcR s).2.2):Nat):Int))) s1.1.2.2.2.1.toNat (0:Int))<((s1.2.1.2.2.length:Nat):Int))/\((s.2.1.length<=s.2.2.1.length)/\((inK IntKind.i64 (s.1-(1:Int)))/\((dz s1.2.2.2.1.2.2.2.length (List.length ((s1.2.1.2.2.getD (Int.toNat (List.getD (gx (pcR s) s (dc (((List.length (pcR s).2.2):Nat):Int))) s1.1.2.2.2.1.toNat (0:Int))) ((0:Int),([]:List Int)))::([]:List bo9))) 32)/\((dz s1.2.2.2.1.2.1.2.1.length (List.length ((s1.2.1.2.2.getD (Int.toNat (List.getD (gx (pcR s) s (dc (((List.length (pcR s).2.2):Nat):Int))) s1.1.2.2.2.1.toNat (0:Int))) ((0:Int),([]:List Int))).1::([]:List Int))) 8)/\((dz s1.2.2.2.1.2.1.2.2.1.length (List.length ((aw s (s1.2.1.2.2.getD (Int.toNat (List.getD (gx (pcR s) s (dc (((List.length (pcR s).2.2):Nat):Int))) s1.1.2.2.2.1.toNat (0:Int))) ((0:Int),([]:List Int)))).1::([]:List Int))) 8)/\((inK IntKind.i64 (s1.1.2.2.2.1+(1:Int)))/\(next (((),((),((),((s1.1.2.2.2.1+(1:Int)),())))),(s1.2.1,(s1.2.2.1,((s1.2.2.2.1.1,((s1.2.2.2.1.2.1.1,((s1.2.2.2.1.2.1.2.1++((s1.2.1.2.2.getD (Int.toNat (List.getD (gx (pcR s) s (dc (((List.length (pcR s).2.2):Nat):Int))) s1.1.2.2.2.1.toNat (0:Int))) ((0:Int),([]:List Int))).1::([]:List Int))),((s1.2.2.2.1.2.1.2.2.1++((aw s (s1.2.1.2.2.getD (Int.toNat (List.getD (gx (pcR s) s (dc (((List.length (pcR s).2.2):Nat):Int))) s1.1.2.2.2.1.toNat (0:Int))) ((0:Int),([]:List Int)))).1::([]:List Int))),s1.2.2.2.1.2.1.2.2.2))),(s1.2.2.2.1.2.2.1,(s1.2.2.2.1.2.2.2++((s1.2.1.2.2.getD (Int.toNat (List.getD (gx (pcR s) s (dc (((List.length (pcR s).2.2):Nat):Int))) s1.1.2.2.2.1.toNat (0:Int))) ((0:Int),([]:List Int)))::([]:List bo9)))))),()))))))))))))))) (be (S:=(bpf×(((List (ByteArray×Int))×bpe)×bpj))) (fun s2=>(fun next1=>((inK IntKind.i64 s2.1.2.2.2.1)->((T.ok (T.mp T.str (T.int IntKind.i64)) s2.2.1.1)->((T.ok (T.sl (T.int IntKind.i64)) s2.2.1.2.1)->((T.ok (T.sl PathT) s2.2.1.2.2)->((T.ok (T.sl (T.int IntKind.i64)) s2.2.2.1)->((inK IntKind.i64 s2.2.2.2.1.1.1)->((T.ok (T.sl (T.int IntKind.i64)) s2.2.2.2.1.1.2.1)->((T.ok (T.sl (T.int IntKind.i64)) s2.2.2.2.1.1.2.2.1)->((T.ok (T.sl PathT) s2.2.2.2.1.1.2.2.2.1)->((T.ok (T.sl PathT) s2.2.2.2.1.1.2.2.2.2)->((inK IntKind.i64 s2.2.2.2.1.2.1.1)->((T.ok (T.sl (T.int IntKind.i64)) s2.2.2.2.1.2.1.2.1)->((T.ok (T.sl (T.int IntKind.i64)) s2.2.2.2.1.2.1.2.2.1)->((T.ok (T.sl (T.int IntKind.i64)) s2.2.2.2.1.2.1.2.2.2.1)->((T.ok (T.sl (T.sl (T.int IntKind.i64))) s2.2.2.2.1.2.1.2.2.2.2)->((T.ok (T.sl (T.int IntKind.i64)) s2.2.2.2.1.2.2.1)->((T.ok (T.sl PathT) s2.2.2.2.1.2.2.2)->(cnd (decide (s2.1.2.2.2.1<s.1)) (((List.length ([]:List Int))<=1000000)/\(((0:Int)<=(cn s2.2.1 s2.1.2.2.2.1 ([]:List Int)))/\(((cn s2.2.1 s2.1.2.2.2.1 ([]:List Int))<((s2.2.1.2.1.length:Nat):Int))/\(((0:Int)<=(s2.2.1.2.1.getD (Int.toNat (cn s2.2.1 s2.1.2.2.2.1 ([]:List Int))) (0:Int)))/\(((s2.2.1.2.1.getD (Int.toNat (cn s2.2.1 s2.1.2.2.2.1 ([]:List Int))) (0:Int))<((s2.2.2.1.length:Nat):Int))/\((dz s2.2.2.2.1.2.1.2.2.2.1.length (List.length ((s2.2.2.1.getD (Int.toNat (s2.2.1.2.1.getD (Int.toNat (cn s2.2.1 s2.1.2.2.2.1 ([]:List Int))) (0:Int))) (0:Int))::([]:List Int))) 8)/\((inK IntKind.i64 (s2.1.2.2.2.1+(1:Int)))/\(next1 (((),((),((),((s2.1.2.2.2.1+(1:Int)),())))),(s2.2.1,(s2.2.2.1,((s2.2.2.2.1.1,((s2.2.2.2.1.2.1.1,(s2.2.2.2.1.2.1.2.1,(s2.2.2.2.1.2.1.2.2.1,((s2.2.2.2.1.2.1.2.2.2.1++((s2.2.2.1.getD (Int.toNat (s2.2.1.2.1.getD (Int.toNat (cn s2.2.1 s2.1.2.2.2.1 ([]:List Int))) (0:Int))) (0:Int))::([]:List Int))),s2.2.2.2.1.2.1.2.2.2.2)))),s2.2.2.2.1.2.2)),())))))))))))) (be (S:=(bpf×(((List (ByteArray×Int))×bpe)×bpj))) (fun s3=>(fun next2=>((inK IntKind.i64 s3.1.2.2.2.1)->((T.ok (T.mp T.str (T.int IntKind.i64)) s3.2.1.1)->((T.ok (T.sl (T.int IntKind.i64)) s3.2.1.2.1)->((T.ok (T.sl PathT) s3.2.1.2.2)->((T.ok (T.sl (T.int IntKind.i64)) s3.2.2.1)->((inK IntKind.i64 s3.2.2.2.1.1.1)->((T.ok (T.sl (T.int IntKind.i64)) s3.2.2.2.1.1.2.1)->((T.ok (T.sl (T.int IntKind.i64)) s3.2.2.2.1.1.2.2.1)->((T.ok (T.sl PathT) s3.2.2.2.1.1.2.2.2.1)->((T.ok (T.sl PathT) s3.2.2.2.1.1.2.2.2.2)->((inK IntKind.i64 s3.2.2.2.1.2.1.1)->((T.ok (T.sl (T.int IntKind.i64)) s3.2.2.2.1.2.1.2.1)->((T.ok (T.sl (T.int IntKind.i64)) s3.2.2.2.1.2.1.2.2.1)->((T.ok (T.sl (T.int IntKind.i64)) s3.2.2.2.1.2.1.2.2.2.1)->((T.ok (T.sl (T.sl (T.int IntKind.i64))) s3.2.2.2.1.2.1.2.2.2.2)->((T.ok (T.sl (T.int IntKind.i64)) s3.2.2.2.1.2.2.1)->((T.ok (T.sl PathT) s3.2.2.2.1.2.2.2)->(cnd (decide (s3.1.2.2.2.1<((s.2.1.length:Nat):Int))) (((0:Int)<=s3.1.2.2.2.1)/\((s3.1.2.2.2.1<((s.2.1.length:Nat):Int))/\(((List.length (s3.1.2.2.2.1::([]:List Int)))<=1000000)/\(((0:Int)<=(cn s3.2.1 (s.2.1.getD s3.1.2.2.2.1.toNat (0:Int)) (s3.1.2.2.2.1::([]:List Int))))/\(((cn s3.2.1 (s.2.1.getD s3.1.2.2.2.1.toNat (0:Int)) (s3.1.2.2.2.1::([]:List Int)))<((s3.2.1.2.1.length:Nat):Int))/\(((0:Int)<=(s3.2.1.2.1.getD (Int.toNat (cn s3.2.1 (s.2.1.getD s3.1.2.2.2.1.toNat (0:Int)) (s3.1.2.2.2.1::([]:List Int)))) (0:Int)))/\(((s3.2.1.2.1.getD (Int.toNat (cn s3.2.1 (s.2.1.getD s3.1.2.2.2.1.toNat (0:Int)) (s3.1.2.2.2.1::([]:List Int)))) (0:Int))<((s3.2.2.1.length:Nat):Int))/\((dz s3.2.2.2.1.2.2.1.length (List.length ((s3.2.2.1.getD (Int.toNat (s3.2.1.2.1.getD (Int.toNat (cn s3.2.1 (s.2.1.getD s3.1.2.2.2.1.toNat (0:Int)) (s3.1.2.2.2.1::([]:List Int)))) (0:Int))) (0:Int))::([]:List Int))) 8)/\((inK IntKind.i64 (s3.1.2.2.2.1+(1:Int)))/\(next2 (((),((),((),((s3.1.2.2.2.1+(1:Int)),())))),(s3.2.1,(s3.2.2.1,((s3.2.2.2.1.1,(s3.2.2.2.1.2.1,((s3.2.2.2.1.2.2.1++((s3.2.2.1.getD (Int.toNat (s3.2.1.2.1.getD (Int.toNat (cn s3.2.1 (s.2.1.getD s3.1.2.2.2.1.toNat (0:Int)) (s3.1.2.2.2.1::([]:List Int)))) (0:Int))) (0:Int))::([]:List Int))),s3.2.2.2.1.2.2.2))),())))))))))))))) ((PrtP s3.2.2.2.1 s3.2.1 s3.2.2.1)/\((ClsP (s3.2.2.2.1.1,((s3.2.2.2.1.2.1.1,(s3.2.2.2.1.2.1.2.1,(s3.2.2.2.1.2.1.2.2.1,(s3.2.2.2.1.2.1.2.2.2.1,(wc s3.2.2.2.1.2.1 (vd s3.2.1 s3.2.2.1 s3.2.2.2.1.2.2.2)))))),s3.2.2.2.1.2.2)))/\(cnd (!(w4 (s3.2.2.2.1.1,((s3.2.2.2.1.2.1.1,(s3.2.2.2.1.2.1.2.1,(s3.2.2.2.1.2.1.2.2.1,(s3.2.2.2.1.2.1.2.2.2.1,(wc s3.2.2.2.1.2.1 (vd s3.2.1 s3.2.2.1 s3.2.2.2.1.2.2.2)))))),s3.2.2.2.1.2.2)))) (K ((),(Bool.true,()))) False))))))))))))))))))))))) (((),((),((),((0:Int),())))),(s2.2.1,(s2.2.2.1,(s2.2.2.2.1,()))))))))))))))))))))))))) (((),((),((),((0:Int),())))),(s1.2.1,(s1.2.2.1,(s1.2.2.2.1,()))))))))))))))))))))))))) (((),((),((),((0:Int),())))),((pcR s),((jw (gx (pcR s) s (dc (((List.length (pcR s).2.2):Nat):Int)))),((s,((s.1,(([]:List Int),(([]:List Int),(([]:List Int),([]:List (List Int)))))),(([]:List Int),([]:List bo9)))),()))))))))))))) (((n5 s)=Bool.false)/\(((az s)=Bool.true)/\(cnd Bool.true (K ((),(Bool.true,()))) (False/\(False/\(False/\False)))))))
theorem ags(s:ab)(hok:ae (okL ip.args (s,())))(hpre:ae (ip.pre (s,()))):si s (fun r=>r=ip.res (s,())):=by
 simp only[ip,o6,k9,okL,T.oks,T.ok,ap,ae,a0e,a0c,a0i]at hok hpre
 try dsimp only[T.den]at hok hpre
 unfold si;obtain⟨hs,hS⟩:=hpre;clear hok;obtain⟨s0,s8,f8,tf,_,_,e8,re,_⟩:=mr hS;unfold qb r8 at hs;refine bc (fun hp=>⟨hp,hS,bc (fun h=>by cases h) (fun _=>?_)⟩) (fun hp=>⟨hp,hS,bc (fun _=>rfl) (fun h=>by cases h)⟩);rw[hp,a1x]at hs;have P:=adh hS hp;have F:=amz s (pcR s);have hO:gx (pcR s) s (dc ((pcR s).2.2.length:Int))=g8 s (pcR s):=rfl;rw[hO];clear hO;generalize pcR s=K at *;have hC:=P.C.le;have hn:=P.n;have hH:=P.H.le;have hFn:=F.n;have hbl:(jw (g8 s K)).length=K.2.2.length:=by unfold jw;rw[bj,hFn]
 have hal:(bn s K).length=(g8 s K).length:=ae4;refine⟨by omega,⟨by omega,by rw[al];(try dsimp only);omega,⟨by omega,fun p hp=>by obtain⟨i,i1,rfl⟩:=qa hp;have:=(akd P (k:=(i:Int)) (by omega) (by omega)).2;rw[a0m]at this;omega⟩,fun a ha=>anc.1 ha⟩,aq (fun h=>?_) (fun h=>?_)⟩
 ·rfl
 have h40:(g8 s K).length<=40:=by omega
 refine⟨h40,kt.2 fun i i0 i1=>by have:=F.r i i0 i1;omega,?_⟩;refine br (fun (q:(bpf×(((List (ByteArray×Int))×bpe)×bpj)))=>0<=q.1.2.2.2.1/\q.1.2.2.2.1<=(g8 s K).length/\q.2.1=K/\q.2.2.1=jw (g8 s K)/\q.2.2.2.1=(s,((s.1,(mc ((bn s K).take q.1.2.2.2.1.toNat),(toA s ((bn s K).take q.1.2.2.2.1.toNat),([],[])))),([],(bn s K).take q.1.2.2.2.1.toNat)))) (fun (q:(bpf×(((List (ByteArray×Int))×bpe)×bpj)))=>((g8 s K).length-q.1.2.2.2.1).toNat) ?_ ⟨a0r _,by dsimp only;omega,rfl,rfl,rfl⟩;rintro⟨⟨_,_,_,i,_⟩,k',b',o',_⟩ next ⟨i0,i1,q1,q2,q3⟩ hnx
 intros
 try dsimp only at i0 i1 q1 q2 q3 hnx⊢
 subst q1;subst q2;subst q3
 try dsimp only
 refine aq (fun hi=>?_) (fun hi=>?_)
 ·have hr:=F.r i i0 hi;have ht:(bn s k').take (i+1).toNat=(bn s k').take i.toNat++[k'.2.2.getD ((g8 s k').getD i.toNat 0).toNat (0,[])]:=by rw[mt (bn s k') (0,[]) i0 (by omega),am2 (by omega)]
  have htl:((bn s k').take i.toNat).length<=40:=by rw[a1c];omega
  refine⟨i0,hi,hr.1,hr.2,by omega,by rw[al];(try dsimp only);omega,da (by simp only[a0l,a0p];omega),da (by unfold mc;rw[a0y];simp only[a0l,a0p];omega),da (by unfold toA;rw[a0y];simp only[a0l,a0p];omega),by rw[al];(try dsimp only);omega,hnx _ ⟨by dsimp only;omega,by dsimp only;omega,rfl,rfl,?_⟩ (by dsimp only;omega)⟩
  try dsimp only
  rw[ht];simp only[mc,toA,a28,a1h,a2i]
 clear hnx;have e:i=(g8 s k').length:=by omega
 subst e;rw[a0m,a23 (by omega)];refine br (fun (q:(bpf×(((List (ByteArray×Int))×bpe)×bpj)))=>0<=q.1.2.2.2.1/\q.1.2.2.2.1<=s.1/\q.2.1=k'/\q.2.2.1=jw (g8 s k')/\q.2.2.2.1=(s,((s.1,(mc (bn s k'),(toA s (bn s k'),(abc s k' q.1.2.2.2.1.toNat,[])))),([],bn s k')))) (fun (q:(bpf×(((List (ByteArray×Int))×bpe)×bpj)))=>(s.1-q.1.2.2.2.1).toNat) ?_ ⟨a0r _,by dsimp only;omega,rfl,rfl,rfl⟩;rintro⟨⟨_,_,_,x,_⟩,k2,b',o',_⟩ next ⟨x0,x1,q1,q2,q3⟩ hnx
 intros
 try dsimp only at x0 x1 q1 q2 q3 hnx⊢
 subst q1;subst q2;subst q3
 try dsimp only
 refine aq (fun hx=>?_) (fun hx=>?_)
 ·have O:=(aej P (adi x0 hx)).1;refine⟨by simp,O.a0,O.a1,O.o0,by rw[hbl];exact O.o1,da (by unfold abc;rw[bj];simp only[a0l,a0p];omega),by rw[al];(try dsimp only);omega,hnx _ ⟨by dsimp only;omega,by dsimp only;omega,rfl,rfl,?_⟩ (by dsimp only;omega)⟩
  try dsimp only
  have:abc s k2 (x+1).toNat=abc s k2 x.toNat++[(jw (g8 s k2)).getD (k2.2.1.getD (cn k2 x []).toNat 0).toNat 0]:=by unfold abc;rw[uw x0];rfl
  rw[this]
 clear hnx;have e:x=s.1:=by omega
 subst e;refine br (fun (q:(bpf×(((List (ByteArray×Int))×bpe)×bpj)))=>0<=q.1.2.2.2.1/\q.1.2.2.2.1<=s.2.1.length/\q.2.1=k2/\q.2.2.1=jw (g8 s k2)/\q.2.2.2.1=(s,(akk s k2,(mq s k2 q.1.2.2.2.1.toNat,bn s k2)))) (fun (q:(bpf×(((List (ByteArray×Int))×bpe)×bpj)))=>(s.2.1.length-q.1.2.2.2.1).toNat) ?_ ⟨a0r _,by dsimp only;omega,rfl,rfl,rfl⟩;rintro⟨⟨_,_,_,x,_⟩,k3,b',o',_⟩ next ⟨x0,x1,q1,q2,q3⟩ hnx
 intros
 try dsimp only at x0 x1 q1 q2 q3 hnx⊢
 subst q1;subst q2;subst q3
 try dsimp only
 refine aq (fun hx=>?_) (fun hx=>?_)
 ·have O:=(aej P (af6 hS x0 hx).1).1;refine⟨x0,hx,by simp,O.a0,O.a1,O.o0,by rw[hbl];exact O.o1,da (by unfold mq;rw[bj];simp only[a0l,a0p];omega),by rw[al];(try dsimp only);omega,hnx _ ⟨by dsimp only;omega,by dsimp only;omega,rfl,rfl,?_⟩ (by dsimp only;omega)⟩
  try dsimp only
  have:mq s k3 (x+1).toNat=mq s k3 x.toNat++[(jw (g8 s k3)).getD (k3.2.1.getD (cn k3 (s.2.1.getD x.toNat 0) [x]).toNat 0).toNat 0]:=by unfold mq;rw[uw x0];rfl
  rw[this]
 clear hnx;have e:x=s.2.1.length:=by omega
 subst e;rw[a0m];refine⟨bka P h40,bkd P,bc (fun h=>?_) (fun h=>?_)⟩
 ·rfl
 ·have h2:w4 (s,(pz s k3,(mq s k3 s.2.1.length,bn s k3)))=true:=by rw[Bool.not_eq_eq_eq_not,Bool.not_false]at h;exact h
  have hs2:(decide ((g8 s k3).length<=40)&&w4 (s,(pz s k3,(mq s k3 s.2.1.length,bn s k3))))=true:=by rw[a0a,a04];exact⟨h40,h2⟩
  rw[hs2]at hs;cases hs
theorem af0:bz Tryz.prog 75 ip:=ci (Φ:=lkp [(92,q6),(93,jf),(96,qi),(98,fa),(94,jr),(74,d4),(95,ge),(97,d5)]) (ai v7 (ai aal (ai u4 (ai xc (ai aeg (ai lq (ai tx (ai rx ao)))))))) bm (by kernel_rfl) (fn:=Tryz.f75) (c:=bg Tryz.f75) (by kernel_rfl) (by kernel_rfl) (by kernel_rfl) ip rfl (.s .n (.s .n (.s .n (.s .n (.s .n (.s .n (.s .n (.s (.s .n (.l [(4,(.ad 4 [.de])),(7,(.ad 7 [.de])),(8,(.bx (.ad 42 [.de]))),(45,(.d (.int .i64)))] [(4,(.pt (.fz (.pt (.p (.mp .str (.int .i64)) (.p (.sl (.int .i64)) (.sl (.p (.int .i64) (.sl (.int .i64)))))))))),(7,(.pt (.sl (.fz (.int .i64))))),(42,(.pt (.p (.fz (.pt (.p (.int .i64) (.p (.sl (.int .i64)) (.p (.sl (.int .i64)) (.p (.sl (.p (.int .i64) (.sl (.int .i64)))) (.sl (.p (.int .i64) (.sl (.int .i64)))))))))) (.p (.p (.fz (.int .i64)) (.p (.sl (.fz (.int .i64))) (.p (.sl (.fz (.int .i64))) (.p (.sl (.fz (.int .i64))) (.sl (.sl (.fz (.int .i64)))))))) (.p (.sl (.fz (.int .i64))) (.sl (.fz (.p (.int .i64) (.sl (.int .i64))))))))))] [0,43,44] .n)) (.s (.s .n (.l [(4,(.ad 4 [.de])),(7,(.ad 7 [.de])),(8,(.bx (.ad 42 [.de]))),(102,(.d (.int .i64)))] [(4,(.pt (.fz (.pt (.p (.mp .str (.int .i64)) (.p (.sl (.int .i64)) (.sl (.p (.int .i64) (.sl (.int .i64)))))))))),(7,(.pt (.sl (.fz (.int .i64))))),(42,(.pt (.p (.fz (.pt (.p (.int .i64) (.p (.sl (.int .i64)) (.p (.sl (.int .i64)) (.p (.sl (.p (.int .i64) (.sl (.int .i64)))) (.sl (.p (.int .i64) (.sl (.int .i64)))))))))) (.p (.p (.fz (.int .i64)) (.p (.sl (.fz (.int .i64))) (.p (.sl (.fz (.int .i64))) (.p (.sl (.fz (.int .i64))) (.sl (.sl (.fz (.int .i64)))))))) (.p (.sl (.fz (.int .i64))) (.sl (.fz (.p (.int .i64) (.sl (.int .i64))))))))))] [0,101] .n)) (.s (.s .n (.l [(4,(.ad 4 [.de])),(7,(.ad 7 [.de])),(8,(.bx (.ad 42 [.de]))),(128,(.d (.int .i64)))] [(4,(.pt (.fz (.pt (.p (.mp .str (.int .i64)) (.p (.sl (.int .i64)) (.sl (.p (.int .i64) (.sl (.int .i64)))))))))),(7,(.pt (.sl (.fz (.int .i64))))),(42,(.pt (.p (.fz (.pt (.p (.int .i64) (.p (.sl (.int .i64)) (.p (.sl (.int .i64)) (.p (.sl (.p (.int .i64) (.sl (.int .i64)))) (.sl (.p (.int .i64) (.sl (.int .i64)))))))))) (.p (.p (.fz (.int .i64)) (.p (.sl (.fz (.int .i64))) (.p (.sl (.fz (.int .i64))) (.p (.sl (.fz (.int .i64))) (.sl (.sl (.fz (.int .i64)))))))) (.p (.sl (.fz (.int .i64))) (.sl (.fz (.p (.int .i64) (.sl (.int .i64))))))))))] [126,127] .n)) .n)))))))))) (cu [(16,5008),(1,1500),(21,5013),(26,5014),(14,5007),(15,5009)]) (by kernel_rfl) (by kernel_rfl) (by kernel_rfl) (by decide) (fun x K=>si x.1 K) (fun _ _=>by kernel_rfl) (fun x h1 h2=>ags x.1 h1 h2)
theorem za:bz Tryz.prog 75 ait:=ar7 afc af0
def xe:Sp:=⟨[(.pt SchemaT)],[false],true,fun x=>qb x.1,fun x=>[az x.1=true],[(false,(.pt (.p (.fz (.pt SchemaT)) (.p (.p (.fz (.int .i64)) (.p (.sl (.fz (.int .i64))) (.p (.sl (.fz (.int .i64))) (.p (.sl (.fz (.int .i64))) (.sl (.sl (.fz (.int .i64)))))))) (.p (.sl (.fz (.int .i64))) (.sl (.fz PathT))))))),(false,(.fz (.int .i64)))],fun x=>(r8 x.1,0,()),[(false,(.fz .any)),(false,(.fz (.int .i64)))],fun x=>((),3,())⟩
def ajq:Ct:=o6 xe true
def akg:Ct:=o6 xe false
def xo:Ct:=spC xe
end Go.Bm
namespace Go.Proofs.NaAs
open Go.Proofs Go.RowKit Go.Extern.Stop Go.Stop Go.Extern
set_option maxRecDepth 100000
theorem as_nil(t:Value)(w:World) :
  Calls Tryz.prog 76 #[.nilIface,t] w fun e w'=>e=.returned (.bool false)/\w'=w:=by
 go_enter Tryz.func76,Tryz.ntmps76
 go_wp2
 go_ret
 exact⟨rfl,rfl⟩
theorem Tryz.valueOf27(t:Addr)(w:World):(ReflectliteValue.unpack (.iface 121 (.pointer (some t)))).run Tryz.prog w
  = .ok (.agg #[.pointer (some ⟨1,121,none⟩),.pointer (some ⟨w.heap.size,0,none⟩),.int .u64 150]) (w.alloc (.cells #[.pointer (some t)] 121)):=by kernel_rfl
theorem Tryz.type27(a : Addr)(w : World) : (ReflectliteValue.methodAny (ReflectliteValue.valueError "reflectlite.Value.Type" 0) (fun t _ _ _ => ReflectliteType.toType t) #[.agg #[.pointer (some ⟨1, 121, none⟩), .pointer (some a), .int .u64 150]]).run Tryz.prog w
  = .ok (.iface 170 (.agg #[.pointer (some ⟨1,121,none⟩)])) w:=by kernel_rfl
theorem Tryz.methodKind(h : Value)(w : World) : (Go.method 342 170 (.agg #[h]) "Kind").run Tryz.prog w = .ok (163, h) w := by kernel_rfl
theorem Tryz.kind27(w:World):((ReflectliteType.abiMethod fun t=>(fun a:Nat=>Value.int IntKind.u8 (a:Int)) <$> Rtype.kind t) #[.pointer (some ⟨1,121,none⟩)]).run Tryz.prog w=.ok (.int .u8 22) w:=by kernel_rfl
theorem Tryz.kind25(w:World):((ReflectliteType.abiMethod fun t=>(fun a:Nat=>Value.int IntKind.u8 (a:Int)) <$> Rtype.kind t) #[.pointer (some ⟨1,119,none⟩)]).run Tryz.prog w=.ok (.int .u8 25) w:=by kernel_rfl
theorem rlm(z:Sem Value)(f:TypeId->Addr->Nat->Nat->Sem Value)(v:Value) :
  ReflectliteValue.method z f #[v]=(do match ←ReflectliteValue.parts v with|none=>z|some (t,a,fl)=>f t a fl (fl%32)):=rfl
theorem Tryz.parts27(a:Addr)(w:World):(ReflectliteValue.parts (.agg #[.pointer (some ⟨1,121,none⟩),.pointer (some a),.int .u64 150])).run Tryz.prog w=.ok (some (121,a,150)) w:=by kernel_rfl
theorem Tryz.isNil27(a p:Addr)(W:World)(ha:W.cell? a=some (.pointer (some p))) :
  (ReflectliteValue.method (ReflectliteValue.valueError "reflectlite.Value.IsNil" 0) ReflectliteValue.isNil #[.agg #[.pointer (some ⟨1, 121, none⟩), .pointer (some a), .int .u64 150]]).run Tryz.prog W = .ok (.bool false) W := by
 rw[rlm];simp only[Sem.run_bind,Tryz.parts27,Result.andThen];simp[ReflectliteValue.isNil,loadVar,isAgg,underlying,Tryz.underlying121,ha,Result.andThen]
theorem Tryz.methodElem(h : Value)(w : World) : (Go.method 342 170 (.agg #[h]) "Elem").run Tryz.prog w = .ok (175, .agg #[h]) w := by kernel_rfl
theorem Tryz.methodImplements(h : Value)(w : World) : (Go.method 342 170 (.agg #[h]) "Implements").run Tryz.prog w = .ok (176, .agg #[h]) w := by kernel_rfl
theorem Tryz.methodAssignableTo(h : Value)(w : World) : (Go.method 342 170 (.agg #[h]) "AssignableTo").run Tryz.prog w = .ok (173, .agg #[h]) w := by kernel_rfl
theorem Tryz.elem27(w:World):(ReflectliteType.method ReflectliteType.elem #[.agg #[.pointer (some ⟨1,121,none⟩)]]).run Tryz.prog w=.ok (.iface 170 (.agg #[.pointer (some ⟨1,119,none⟩)])) w:=by kernel_rfl
theorem Tryz.implements25(w : World) : (ReflectliteType.relation "Implements" ReflectliteType.implements_ #[.agg #[.pointer (some ⟨1, 119, none⟩)], .iface 170 (.agg #[.pointer (some ⟨1, 115, none⟩)])]).run Tryz.prog w = .ok (.bool true) w := by kernel_rfl
theorem Tryz.typeOf25(v:Value)(w:World):(ReflectliteType.typeOf #[.iface 119 v]).run Tryz.prog w=.ok (.iface 170 (.agg #[.pointer (some ⟨1,119,none⟩)])) w:=by kernel_rfl
theorem Tryz.assignable25(w : World) : (ReflectliteType.relation "AssignableTo" ReflectliteType.assignableTo #[.agg #[.pointer (some ⟨1, 119, none⟩)], .iface 170 (.agg #[.pointer (some ⟨1, 119, none⟩)])]).run Tryz.prog w = .ok (.bool true) w := by kernel_rfl
theorem Tryz.valueOf25(e:ByteArray)(w:World):(ReflectliteValue.unpack (.iface 119 (.agg #[.string e]))).run Tryz.prog w
  = .ok (.agg #[.pointer (some ⟨1,119,none⟩),.pointer (some ⟨w.heap.size,0,none⟩),.int .u64 153]) (w.alloc (.cells #[.string e] 119)):=by kernel_rfl
theorem Tryz.elemOf27(w:World):(Rtype.elem? 121).run Tryz.prog w=.ok (some 119) w:=by kernel_rfl
theorem Tryz.mk25(p:Addr)(w:World):(ReflectliteValue.mk 119 p ReflectliteValue.flagAddr).run Tryz.prog w=.ok (.agg #[.pointer (some ⟨1,119,none⟩),.pointer (some p),.int .u64 409]) w:=by kernel_rfl
theorem Tryz.elemV27(a p:Addr)(W:World)(ha:W.cell? a=some (.pointer (some p))) :
  (ReflectliteValue.method (ReflectliteValue.valueError "reflectlite.Value.Elem" 0) ReflectliteValue.elem #[.agg #[.pointer (some ⟨1, 121, none⟩), .pointer (some a), .int .u64 150]]).run Tryz.prog W
   = .ok (.agg #[.pointer (some ⟨1,119,none⟩),.pointer (some p),.int .u64 409]) W:=by
 rw[rlm];simp only[Sem.run_bind,Tryz.parts27,Result.andThen];simp[ReflectliteValue.elem,loadVar,isAgg,underlying,Tryz.underlying121,ha,Result.andThen,Tryz.elemOf27,Tryz.mk25]
theorem rls(v x:Value):ReflectliteValue.set #[v,x]=(do
  let (some (dst,a,fl),some (src,b,_)):=(←ReflectliteValue.parts v,←ReflectliteValue.parts x)
   | unsupported (.noEntry "extern/(internal/reflectlite.Value).Set.zeroValue")
  if fl / ReflectliteValue.flagAddr % 2 == 0 then unsupported (.noEntry "extern/(internal/reflectlite.Value).Set.unaddressable")
  let val ←loadVar src b
  if ←Rtype.directlyAssignable dst src then storeVar dst a val
  else if ←Rtype.implements dst src then
   if (←Rtype.kind src)==20 then
    match val with
    | .nilIface => unsupported (.noEntry "extern/reflectlite: a nil value of one interface type handed on as a value of another")
    |_=>storeVar dst a val
   else storeVar dst a (.iface src val)
  else panicString ("reflectlite.Set: value of type " ++ (← Rtype.spelt src) ++ " is not assignable to type " ++ (← Rtype.spelt dst))
  pure (.tuple #[])):=rfl
theorem Tryz.parts25a(a:Addr)(w:World):(ReflectliteValue.parts (.agg #[.pointer (some ⟨1,119,none⟩),.pointer (some a),.int .u64 409])).run Tryz.prog w=.ok (some (119,a,409)) w:=by kernel_rfl
theorem Tryz.parts25(a:Addr)(w:World):(ReflectliteValue.parts (.agg #[.pointer (some ⟨1,119,none⟩),.pointer (some a),.int .u64 153])).run Tryz.prog w=.ok (some (119,a,153)) w:=by kernel_rfl
theorem Tryz.direct25(w:World):(Rtype.directlyAssignable 119 119).run Tryz.prog w=.ok true w:=by kernel_rfl
theorem Tryz.size25(w:World):(sizeOf 119).run Tryz.prog w=.ok 1 w:=by kernel_rfl
theorem Tryz.loadVar119{b:Addr}{e:ByteArray}{W:World}(hb:W.cell? b=some (.string e)):(loadVar 119 b).run Tryz.prog W=.ok (.agg #[.string e]) W:=by have hb':W.cell? { b with off:=b.off+0 }=some (.string e):=hb;simp[loadVar,isAgg,underlying,Tryz.underlying119,Tryz.size25,loadCells,loadCellsFrom,Addr.add,hb]
theorem Tryz.storeVar119{ta:Addr}{e:ByteArray}{old:Value}{W:World}(ht:W.cell? ta=some old)(hf:W.frozen? ta=false):(storeVar 119 ta (.agg #[.string e])).run Tryz.prog W=.ok () (W.setCell ta (.string e)):=by simp[storeVar,Tryz.size25,Value.cells,storeCells,Addr.add];rw[run_store Tryz.prog W ta _ _ (by rfl)];simp[ht,hf]
theorem Tryz.set25(ta b:Addr)(e:ByteArray)(old:Value)(W:World)(hb:W.cell? b=some (.string e))(ht:W.cell? ta=some old)(hf:W.frozen? ta=false) :
  (ReflectliteValue.set #[.agg #[.pointer (some ⟨1,119,none⟩),.pointer (some ta),.int .u64 409],.agg #[.pointer (some ⟨1,119,none⟩),.pointer (some b),.int .u64 153]]).run Tryz.prog W
   = .ok (.tuple #[]) (W.setCell ta (.string e)):=by
 rw[rls];simp only[Sem.run_bind,Tryz.parts25a,Tryz.parts25,Result.andThen];simp[ReflectliteValue.flagAddr,Tryz.loadVar119 hb,Result.andThen,Tryz.direct25,Tryz.storeVar119 ht hf]
set_option maxHeartbeats 4000000 in
theorem as_hit(e:ByteArray)(t:Addr)(old:Value)(w:World)(hg:w.cell? ⟨0,0,none⟩=some (.iface 170 (.agg #[.pointer (some ⟨1,115,none⟩)])))(ht0:w.cell? t=some old)(hf0:w.frozen? t=false) :
  Calls Tryz.prog 76 #[.iface 119 (.agg #[.string e]),.iface 121 (.pointer (some t))] w fun ev w'=>ev=.returned (.bool true)/\w'=((((w.alloc (.cells #[.pointer (some t)] 121)).alloc (.cells #[.pointer (some ⟨1,121,none⟩),.pointer (some ⟨w.heap.size,0,none⟩),.int .u64 150] 143)).alloc (.cells #[.pointer (some ⟨1,121,none⟩),.pointer (some ⟨w.heap.size,0,none⟩),.int .u64 150] 143)).alloc (.cells #[.string e] 119)).setCell t (.string e):=by
 have h6:=@run_callFunc_extern Tryz.prog 99 _ (fun args=>ReflectliteValue.unpack (args.getD 0 (.tuple #[]))) Tryz.func99 (by kernel_rfl) (by kernel_rfl) (by kernel_rfl) (by kernel_rfl);have h7 := @run_callFunc_extern Tryz.prog 100 _ (ReflectliteValue.methodAny (ReflectliteValue.valueError "reflectlite.Value.Type" 0) (fun t _ _ _ => ReflectliteType.toType t)) Tryz.func100 (by kernel_rfl) (by kernel_rfl) (by kernel_rfl) (by kernel_rfl);have h8 := @run_callFunc_extern Tryz.prog 101 _ (ReflectliteValue.method (ReflectliteValue.valueError "reflectlite.Value.IsNil" 0) ReflectliteValue.isNil) Tryz.func101 (by kernel_rfl) (by kernel_rfl) (by kernel_rfl) (by kernel_rfl);have h27:=@run_callFunc_extern Tryz.prog 163 _ (ReflectliteType.abiMethod fun t=>do pure (.int .u8 (←Rtype.kind t))) Tryz.func163 (by kernel_rfl) (by kernel_rfl) (by kernel_rfl) (by kernel_rfl);have h37:=@run_callFunc_extern Tryz.prog 175 _ (ReflectliteType.method ReflectliteType.elem) Tryz.func175 (by kernel_rfl) (by kernel_rfl) (by kernel_rfl) (by kernel_rfl);have h38 := @run_callFunc_extern Tryz.prog 176 _ (ReflectliteType.relation "Implements" ReflectliteType.implements_) Tryz.func176 (by kernel_rfl) (by kernel_rfl) (by kernel_rfl) (by kernel_rfl);have h10:=@run_callFunc_extern Tryz.prog 122 _ ReflectliteType.typeOf Tryz.func122 (by kernel_rfl) (by kernel_rfl) (by kernel_rfl) (by kernel_rfl);have h35 := @run_callFunc_extern Tryz.prog 173 _ (ReflectliteType.relation "AssignableTo" ReflectliteType.assignableTo) Tryz.func173 (by kernel_rfl) (by kernel_rfl) (by kernel_rfl) (by kernel_rfl);have h11 := @run_callFunc_extern Tryz.prog 123 _ (ReflectliteValue.method (ReflectliteValue.valueError "reflectlite.Value.Elem" 0) ReflectliteValue.elem) Tryz.func123 (by kernel_rfl) (by kernel_rfl) (by kernel_rfl) (by kernel_rfl);have h12:=@run_callFunc_extern Tryz.prog 124 _ ReflectliteValue.set Tryz.func124 (by kernel_rfl) (by kernel_rfl) (by kernel_rfl) (by kernel_rfl);have tO:=Tryz.typeOf25;have mA:=Tryz.methodAssignableTo;have a25:=Tryz.assignable25;have v25:=Tryz.valueOf25;have f6:=Tryz.valueOf27;have f7:=Tryz.type27;have mK:=Tryz.methodKind;have mE:=Tryz.methodElem;have mI:=Tryz.methodImplements;have k27:=Tryz.kind27;have k25:=Tryz.kind25;have e27:=Tryz.elem27;have i25:=Tryz.implements25;have n8:=Tryz.isNil27 ⟨w.heap.size,0,none⟩ t ((w.alloc (.cells #[.pointer (some t)] 121)).alloc (.cells #[.pointer (some ⟨1,121,none⟩),.pointer (some ⟨w.heap.size,0,none⟩),.int .u64 150] 143)) (by simp)
 have hlt:0<w.heap.size:=by
  rcases Nat.eq_zero_or_pos w.heap.size with h0|h
  ·simp[World.cell?,h0]at hg
  ·exact h
 have hg2:((w.alloc (.cells #[.pointer (some t)] 121)).alloc (.cells #[.pointer (some ⟨1,121,none⟩),.pointer (some ⟨w.heap.size,0,none⟩),.int .u64 150] 143)).cell? ⟨0,0,none⟩=some (.iface 170 (.agg #[.pointer (some ⟨1,115,none⟩)])):=by rw[World.cell?_alloc_lt _ _ ⟨0,0,none⟩ (by simp),World.cell?_alloc_lt _ _ ⟨0,0,none⟩ hlt];exact hg
 have htl:t.block<w.heap.size:=by
  rcases Nat.lt_or_ge t.block w.heap.size with h|h
  ·exact h
  ·simp[World.cell?,Array.getElem?_eq_none h]at ht0
 have el:=Tryz.elemV27 ⟨w.heap.size,0,none⟩ t (((w.alloc (.cells #[.pointer (some t)] 121)).alloc (.cells #[.pointer (some ⟨1,121,none⟩),.pointer (some ⟨w.heap.size,0,none⟩),.int .u64 150] 143)).alloc (.cells #[.pointer (some ⟨1,121,none⟩),.pointer (some ⟨w.heap.size,0,none⟩),.int .u64 150] 143)) (by rw[World.cell?_alloc_lt _ _ ⟨w.heap.size,0,none⟩ (by simp;omega)];simp)
 have st:=Tryz.set25 t ⟨w.heap.size+1+1+1,0,none⟩ e old ((((w.alloc (.cells #[.pointer (some t)] 121)).alloc (.cells #[.pointer (some ⟨1,121,none⟩),.pointer (some ⟨w.heap.size,0,none⟩),.int .u64 150] 143)).alloc (.cells #[.pointer (some ⟨1,121,none⟩),.pointer (some ⟨w.heap.size,0,none⟩),.int .u64 150] 143)).alloc (.cells #[.string e] 119))
  (by rw[World.cell?_alloc_at _ _ _ _ (by simp)];rfl)
  (by rw[World.cell?_alloc_lt _ _ t (by simp;omega),World.cell?_alloc_lt _ _ t (by simp;omega),World.cell?_alloc_lt _ _ t (by simp;omega),World.cell?_alloc_lt _ _ t htl];exact ht0)
  (by rw[World.frozen?_alloc_old _ _ t (by simp;omega),World.frozen?_alloc_old _ _ t (by simp;omega),World.frozen?_alloc_old _ _ t (by simp;omega),World.frozen?_alloc_old _ _ t (Nat.ne_of_lt htl)];exact hf0)
 go_enter Tryz.func76,Tryz.ntmps76
 go_wp2
 refine wp_loop_rounds 1 ?_;rw[rounds_succ]
 go_wp2
 go_ret
 exact⟨rfl,rfl⟩
end Go.Proofs.NaAs
namespace Go.Bm
open Go.Proofs Go.RowKit
theorem blv : Tryz.prog.globalNamed "errors.errorType" = some 0 := by kernel_rfl
theorem blj : (Tryz.prog.cutTypes.find? (·.1 == "internal/reflectlite.rtype")).map (·.2) = some 170 := by kernel_rfl
theorem bhu:((List.range 242).filter fun t=>Tryz.prog.rowNamed t [101,114,114,111,114])=[115]:=by kernel_rfl
theorem bhb:Tryz.prog.types.size=242:=by kernel_rfl
theorem bil{A:Nat->Prop}{w:World}(h:ErrG Tryz.prog A w):w.cell? ⟨0,0,none⟩=some (.iface 170 (.agg #[.pointer (some ⟨1,115,none⟩)])):=by
 obtain⟨h1,rt,et,e2,e3,e4,e5⟩:=h 0 blv;obtain rfl:=a20 (blj.symm.trans e2);have hm:et∈(List.range 242).filter fun t=>Tryz.prog.rowNamed t [101,114,114,111,114]:=a38.2 ⟨List.mem_range.2 (by rw[←bhb];exact e3),e4⟩;rw[bhu]at hm;obtain rfl:=a0x.1 hm;have hh:typeHandle Tryz.prog 115=.pointer (some ⟨1,115,none⟩):=by kernel_rfl
 rw[hh]at e5;exact e5
def prO:O:=(.pt (.p (.fz (.pt SchemaT)) (.p (.p (.fz (.int .i64)) (.p (.sl (.fz (.int .i64))) (.p (.sl (.fz (.int .i64))) (.p (.sl (.fz (.int .i64))) (.sl (.sl (.fz (.int .i64)))))))) (.p (.sl (.fz (.int .i64))) (.sl (.fz PathT))))))
theorem bar{A:Nat->Prop}{w:World}{t:T}{us:List Value}{x:d3 [t]}(hr:nh A w [false] [t] x us):∃u,us=[u]:=by obtain⟨u,us',vs,rfl,_,_,_,h⟩:=hr;have h:us'=[]:=h;subst h;exact⟨u,rfl⟩
theorem bm8{A:Nat->Prop}{w:World}{u:Value}{x:d3 [T.pt SchemaT]}(hE:ErrG Tryz.prog A w)(hA:∀b,A b->b<w.heap.size)(hr:nh A w [false] [.pt SchemaT] x [u])(h1:qb x.1=true)(h2:az x.1=true) :
  Calls Tryz.prog 75 #[u] w fun e w'=>∃v1 S,e=.returned (.tuple #[v1,.nilIface])/\Ext w w'/\(∀b,S b->w.heap.size<=b/\b<w'.heap.size)/\
   Rel (fun b=>b<w'.heap.size/\(true=true/\A b\/w.heap.size<=b)/\¬S b) w' prO (r8 x.1) S [v1]:=by
 refine (za.2.1 A w [u] x hE hA hr ⟨h1,h2,trivial⟩).mono ?_;rintro e w' ⟨rs,S,rfl,hext,hS,hres⟩;obtain⟨u1,us1,vs1,S1,S2,rfl,_,g2,s1,_,_,r1,r2⟩:=hres;obtain⟨u2,us2,vs2,S3,S4,rfl,_,g2',_,_,_,q1,q2⟩:=r2;have q2:us2=[]:=q2;subst q2;have g2:=g2 rfl;have g2':=g2' rfl;subst g2;subst g2';simp only[Rel,ah]at q1;have q1:(false=false/\[u2]=[Value.nilIface])\/∃s,false=true/\[u2]=[Value.iface 119 (.agg #[.string s])]:=q1
 have e2:u2=.nilIface:=by
  rcases q1 with⟨_,h⟩|⟨s,h,_⟩
  ·simpa using h
  ·cases h
 subst e2;exact⟨u1,S1,rfl,hext,fun b hb=>hS b (s1 b hb),Rel.keep (fun b hb=>⟨⟨hb.1,hb.2.1,fun h=>hb.2.2 (s1 b h)⟩,rfl⟩) _ _ _ _ (fun _ _=>rfl) r1⟩
theorem bmf{A:Nat->Prop}{w:World}{u:Value}{x:d3 [T.pt SchemaT]}(hE:ErrG Tryz.prog A w)(hA:∀b,A b->b<w.heap.size)(hr:nh A w [false] [.pt SchemaT] x [u])(h1:qb x.1=false)(h2:az x.1=true) :
  Calls Tryz.prog 75 #[u] w fun e w'=>∃v1 s,e=.returned (.tuple #[v1,.iface 119 (.agg #[.string s])])/\Ext w w':=by
 refine (za.2.2 A w [u] x hE hA hr ⟨h1,h2,trivial⟩).mono ?_;rintro e w' ⟨rs,S,rfl,hext,hS,hres⟩;obtain⟨u1,us1,vs1,S1,S2,rfl,_,g2,s1,_,_,r1,r2⟩:=hres;obtain⟨u2,us2,vs2,S3,S4,rfl,_,g2',_,_,_,q1,q2⟩:=r2;have q2:us2=[]:=q2;subst q2;have g2':=g2' rfl;subst g2';simp only[Rel,ah]at q1;have q1:(true=false/\[u2]=[Value.nilIface])\/∃s,true=true/\[u2]=[Value.iface 119 (.agg #[.string s])]:=q1;rcases q1 with⟨h,_⟩|⟨s,_,h⟩
 ·cases h
 ·have e2:u2=.iface 119 (.agg #[.string s]):=by simpa using h
  subst e2;exact⟨u1,s,rfl,hext⟩
theorem zx{w w':World}{o:Obj}(h:Ext w w'):Ext w (w'.alloc o):=by
 have hs:(w'.alloc o).heap=w'.heap.push o:=rfl;refine⟨h.os,⟨h.tape.1,h.tape.2⟩,h.output,?_,fun b hb=>?_⟩
 ·rw[hs,a4t];have:=h.size;omega
 ·rw[hs,Array.getElem?_push,ds (by have:=h.size;omega)];exact h.old b hb
theorem avi{w:World}{o:Obj}{b:Nat}(hb:b<w.heap.size):(w.alloc o).heap[b]? = w.heap[b]?:=by have hs:(w.alloc o).heap=w.heap.push o:=rfl;rw[hs,Array.getElem?_push,ds (by omega)]
theorem bmk:bz Tryz.prog 46 ajq:=by
 refine⟨tz (fn:=Tryz.f46) (c:=bg Tryz.f46) (by kernel_rfl) (by kernel_rfl) (by kernel_rfl),fun A w us x hE hA hr hp=>?_⟩;obtain⟨h1,h2,_⟩:=hp;obtain⟨u,rfl⟩:=bar hr;have hpres:=bm8 hE hA hr h1 h2;show Calls Tryz.prog 46 #[u] w _
 go_enter Tryz.func46,Tryz.ntmps46
 go_wp2_with (first|(go_at_call 75;refine hpres.mono ?_;rintro e w' ⟨v1,S,rfl,hext,hS,hrel⟩)|(go_at_call 76;refine (NaAs.as_nil _ _).mono ?_;rintro e w' ⟨rfl,rfl⟩))
 go_ret2
 refine⟨[v1,.int .i64 0],S,rfl,zx hext,fun b hb=>?_,?_⟩
 ·have:=hS b hb;have hs:(w'.alloc (.cells #[.string ByteArray.empty] 119)).heap.size=w'.heap.size+1:=by show (w'.heap.push _).size=_;rw[a4t]
  exact⟨this.1,by have:=this.2;exact a19 this (by show _<=(w'.heap.push _).size;rw[a4t];omega)⟩
 ·refine⟨v1,[.int .i64 0],[v1],S,fun _=>False,rfl,(fun h=>by cases h),fun _=>rfl,fun b hb=>hb,(fun b hb=>hb.elim),(fun b _ h=>h.elim),?_,.int .i64 0,[],[.int .i64 0],fun _=>False,fun _=>False,rfl,(fun h=>by cases h),fun _=>rfl,fun b hb=>hb,fun b hb=>hb,(fun b hb=>hb.elim),?_,rfl⟩
  ·refine Rel.keep (fun b hb=>⟨⟨?_,hb.2.1.elim (fun h=>.inl ⟨rfl,h.2⟩) .inr,hb.2.2⟩,avi hb.1⟩) _ _ _ _ (fun b hb=>avi (hS b hb).2) hrel;show _<(w'.heap.push _).size;rw[a4t];have:=hb.1;omega
  ·simp only[Rel,dh];have h:inK .i64 (0:Int):=by unfold inK;decide
   exact⟨rfl,h⟩
theorem bm9:bz Tryz.prog 46 akg:=by
 refine⟨tz (fn:=Tryz.f46) (c:=bg Tryz.f46) (by kernel_rfl) (by kernel_rfl) (by kernel_rfl),fun A w us x hE hA hr hp=>?_⟩;obtain⟨h1,h2,_⟩:=hp;obtain⟨u,rfl⟩:=bar hr;have hpres:=bmf hE hA hr h1 h2;have hg:=bil hE;have h0:0<w.heap.size:=cell_lt hg;show Calls Tryz.prog 46 #[u] w _
 go_enter Tryz.func46,Tryz.ntmps46
 go_wp2_with (first|(go_at_call 75;refine hpres.mono ?_;rintro e w' ⟨v1,s,rfl,hext⟩)|(go_at_call 76;refine (NaAs.as_hit s _ (.string ⟨#[]⟩) _ ?_ ?_ ?_).mono ?_;rotate_left 3;rintro e w' ⟨rfl,rfl⟩))
 ·go_ret2
  refine⟨[.pointer none,.int .i64 3],fun _=>False,rfl,zx (zx (zx (zx (zx hext)))),(fun b hb=>hb.elim),?_⟩;refine⟨.pointer none,[.int .i64 3],[.pointer none],fun _=>False,fun _=>False,rfl,(fun h=>by cases h),fun _=>rfl,fun b hb=>hb,fun b hb=>hb,(fun b hb=>hb.elim),?_,.int .i64 3,[],[.int .i64 3],fun _=>False,fun _=>False,rfl,(fun h=>by cases h),fun _=>rfl,fun b hb=>hb,fun b hb=>hb,(fun b hb=>hb.elim),?_,rfl⟩
  ·simp only[Rel,ah];exact⟨_,rfl,rfl⟩
  ·simp only[Rel,dh];have h:inK .i64 (3:Int):=by unfold inK;decide
   exact⟨rfl,h⟩
 ·have hs:=hext.size;rw[World.cell?_alloc_lt _ _ ⟨0,0,none⟩ (by show 0<w'.heap.size;omega),au1 (hext.old 0 h0)];exact hg
 ·simp
 ·simp
theorem abe:bz Tryz.prog 46 xo:=ar7 bmk bm9
def aep(s:ab)(l:List ac):Bool:=l.all fun p=>l8 s p
def vz(s:ab)(l:List ac):Bool:=az s&&aep s l&&qb s
def zc(s:ab)(l:List ac):Int:=if (az s&&aep s l)=true then 3 else 1
theorem bg7{s:ab}{l:List ac}(h:aep s l=true){i:Int}(i0:0<=i)(i1:i<l.length):l8 s (l.getD i.toNat (0,[]))=true:=by unfold aep at h;rw[a1d]at h;exact h _ (im l (0,[]) i0 i1)
def rp:Sp:=⟨[(.pt SchemaT),(.sl PathT)],[false,false],true,fun x=>vz x.1 x.2.1,fun x=>[],[(false,(.pt (.p (.fz (.pt SchemaT)) (.p (.p (.fz (.int .i64)) (.p (.sl (.fz (.int .i64))) (.p (.sl (.fz (.int .i64))) (.p (.sl (.fz (.int .i64))) (.sl (.sl (.fz (.int .i64)))))))) (.p (.sl (.fz (.int .i64))) (.sl (.fz PathT))))))),(false,(.fz (.int .i64)))],fun x=>(r8 x.1,0,()),[(false,(.fz .any)),(false,(.fz (.int .i64)))],fun x=>((),zc x.1 x.2.1,())⟩
def lw:Ct:=o6 rp true
def ln:Ct:=o6 rp false
def aga:Ct:=spC rp
def xf(s:ab)(list:List ac)(K:jc lw.rt->Prop):Prop:=(cnd (!(az s)) False (be (S:=bpd) (fun s1=>(fun next=>((inK IntKind.i64 s1.1.1)->(cnd (decide (s1.1.1<((list.length:Nat):Int))) (((0:Int)<=s1.1.1)/\((s1.1.1<((list.length:Nat):Int))/\(cnd (!(l8 s (list.getD s1.1.1.toNat ((0:Int),([]:List Int))))) False ((inK IntKind.i64 (s1.1.1+(1:Int)))/\(next (((s1.1.1+(1:Int)),()),())))))) (cnd (qb s) (((qb s)=Bool.true)/\(((az s)=Bool.true)/\(K ((r8 s),((0:Int),()))))) (((qb s)=Bool.false)/\(((az s)=Bool.true)/\False))))))) (((0:Int),()),())))
theorem ama(s:ab)(list:List ac)(hok:ae (okL lw.args (s,list,())))(hpre:ae (lw.pre (s,list,()))):xf s list (fun r=>r=lw.res (s,list,())):=by
 simp only[lw,o6,rp,okL,T.oks,T.ok,ap,ae,a0e,a0c,a0i]at hok hpre
 try dsimp only[T.den]at hok hpre
 unfold xf;have hs:vz s list=true:=hpre;have hl:list.length<=140737488355328:=by simp only[cj]at hok;omega
 clear hok;unfold vz at hs;rw[a0a,a0a]at hs;obtain⟨⟨hS,hA⟩,hP⟩:=hs;refine bc (fun h=>by rw[hS]at h;cases h) (fun _=>?_);refine ld (n:=(list.length:Int)) (fun _=>True) (by omega) trivial ?_ ?_
 ·intro i next i0 i1 _ hn
  intros
  try dsimp only at hn⊢
  refine aq (fun _=>⟨i0,i1,bc (fun h=>by rw[bg7 hA i0 i1]at h;cases h) (fun _=>⟨by rw[al];(try dsimp only);omega,hn trivial⟩)⟩) (fun hx=>absurd i1 hx)
 intro next _
 intros
 try dsimp only
 refine aq (fun hx=>absurd hx (by omega)) (fun _=>?_);exact bc (fun _=>⟨hP,hS,rfl⟩) (fun h=>by rw[hP]at h;cases h)
theorem ak1:bz Tryz.prog 50 lw:=ci (Φ:=lkp [(78,gv),(45,dg),(46,xo)]) (ai z7 (ai sj (ai abe ao))) bm (by kernel_rfl) (fn:=Tryz.f50) (c:=bg Tryz.f50) (by kernel_rfl) (by kernel_rfl) (by kernel_rfl) lw rfl (.s .n (.s .n (.s (.s .n (.l [(13,(.d (.int .i64)))] [] [0,11,12] .n)) .n))) (cu [(9,1500)]) (by kernel_rfl) (by kernel_rfl) (by kernel_rfl) (by decide) (fun x K=>xf x.1 x.2.1 K) (fun _ _=>by kernel_rfl) (fun x h1 h2=>ama x.1 x.2.1 h1 h2)
def xp(s:ab)(list:List ac)(K:jc ln.rt->Prop):Prop:=(cnd (!(az s)) (K ((),((1:Int),()))) (be (S:=bpd) (fun s1=>(fun next=>((inK IntKind.i64 s1.1.1)->(cnd (decide (s1.1.1<((list.length:Nat):Int))) (((0:Int)<=s1.1.1)/\((s1.1.1<((list.length:Nat):Int))/\(cnd (!(l8 s (list.getD s1.1.1.toNat ((0:Int),([]:List Int))))) (K ((),((1:Int),()))) ((inK IntKind.i64 (s1.1.1+(1:Int)))/\(next (((s1.1.1+(1:Int)),()),())))))) (cnd (qb s) (((qb s)=Bool.true)/\(((az s)=Bool.true)/\False)) (((qb s)=Bool.false)/\(((az s)=Bool.true)/\(K ((),((3:Int),())))))))))) (((0:Int),()),())))
theorem ak7(s:ab)(list:List ac)(hok:ae (okL ln.args (s,list,())))(hpre:ae (ln.pre (s,list,()))):xp s list (fun r=>r=ln.res (s,list,())):=by
 simp only[ln,o6,rp,okL,T.oks,T.ok,ap,ae,a0e,a0c,a0i]at hok hpre
 try dsimp only[T.den]at hok hpre
 unfold xp;have hs:vz s list=false:=hpre;have hl:list.length<=140737488355328:=by simp only[cj]at hok;omega
 clear hok hpre;unfold vz at hs;have e1:∀n:Int,zc s list=n->((),n,())=((),zc s list,()):=fun n h=>by rw[h]
 refine bc (fun h=>?_) (fun h=>?_)
 ·have h:az s=false:=by simpa using h
  exact e1 1 (by unfold zc;rw[h];rfl)
 have hS:az s=true:=by simpa using h
 refine ld (n:=(list.length:Int)) (fun i=>∀k:Int,0<=k->k<i->l8 s (list.getD k.toNat (0,[]))=true) (by omega) (fun k k0 k1=>by omega) ?_ ?_
 ·intro i next i0 i1 ha hn
  intros
  try dsimp only at ha hn⊢
  refine aq (fun _=>⟨i0,i1,bc (fun h=>?_) (fun h=>⟨by rw[al];(try dsimp only);omega,hn fun k k0 k1=>?_⟩)⟩) (fun hx=>absurd i1 hx)
  ·have h:l8 s (list.getD i.toNat (0,[]))=false:=by simpa using h
   refine e1 1 ?_;unfold zc;rw[ds];rw[a0a];rintro⟨_,hA⟩;rw[bg7 hA i0 i1]at h;cases h
  ·by_cases e:k=i
   ·subst e;simpa using h
   ·exact ha k k0 (by omega)
 intro next ha
 intros
 try dsimp only
 have hA:aep s list=true:=by unfold aep;rw[a1d];intro p hp;obtain⟨k,hk,rfl⟩:=a2e hp;have:=ha (k:Int) (by omega) (by omega);rw[a0m,a0o,a0n hk]at this;exact this
 refine aq (fun hx=>absurd hx (by omega)) (fun _=>?_);rw[hS,hA,a1x,a1x]at hs;refine bc (fun h=>by rw[hs]at h;cases h) (fun h=>⟨h,hS,e1 3 ?_⟩);unfold zc;rw[hS,hA];rfl
theorem akx:bz Tryz.prog 50 ln:=ci (Φ:=lkp [(78,gv),(45,dg),(46,xo)]) (ai z7 (ai sj (ai abe ao))) bm (by kernel_rfl) (fn:=Tryz.f50) (c:=bg Tryz.f50) (by kernel_rfl) (by kernel_rfl) (by kernel_rfl) ln rfl (.s .n (.s .n (.s (.s .n (.l [(13,(.d (.int .i64)))] [] [0,11,12] .n)) .n))) (cu [(9,1500)]) (by kernel_rfl) (by kernel_rfl) (by kernel_rfl) (by decide) (fun x K=>xp x.1 x.2.1 K) (fun _ _=>by kernel_rfl) (fun x h1 h2=>ak7 x.1 x.2.1 h1 h2)
theorem an0:bz Tryz.prog 50 aga:=ar7 ak1 akx
def ahy(s:ab)(p:ac):Int×Int:=if vz s [p]=true then (kv (pz s (pcR s)) (mq s (pcR s) s.2.1.length) p,0)else (0,zc s [p])
theorem aj8{s:ab}{p:ac}(h:l8 s p=true):az s=true/\(aw s p).2=true:=by unfold l8 at h;rw[a0a]at h;exact h
theorem bam{s:ab}(hS:az s=true)(hP:qb s=true){p:ac}(hp:(aw s p).2=true):AroP ((r8 s).2.1,((r8 s).2.2.2,(r8 s).2.2.1)) p:=by unfold qb at hP;rw[a0a,a0a]at hP;have hc:=hP.2;unfold w4 at hc;rw[a0a,a0a]at hc;exact alv (adh hS hP.1.1) hc.1.1 hp
theorem bkv{s:ab}{l:List ac}(h:vz s l=true){p:ac}(hp:p∈l):AroP ((r8 s).2.1,((r8 s).2.2.2,(r8 s).2.2.1)) p:=by unfold vz aep at h;rw[a0a,a0a,a1d]at h;exact bam h.1.1 h.2 (aj8 (h.1.2 p hp)).2
theorem bmh{s:ab}{l:List ac}(h:(zc s l != 0)=false):False:=by unfold zc at h;split at h <;> simp at h
def jt:Ct:=⟨[SchemaT,PathT],[true,true],fun x=>[],[(false,(.fz (.int .i64))),(false,(.fz (.int .i64)))],fun x=>((ahy x.1 x.2.1).1,(ahy x.1 x.2.1).2,()),false,none⟩
def ant:FuncId->Option Ct:=lkp [(51,fo),(50,aga)]
def zm(s:ab)(p:ac)(K:Int×Int×Unit->Prop):Prop:=(cnd (vz s (p::([]:List bo9))) (((vz s (p::([]:List bo9)))=true)/\(cnd ((0:Int) != 0) (K (0,(0,()))) ((AroP ((r8 s).2.1,((r8 s).2.2.2,(r8 s).2.2.1)) p)/\(K ((kv (r8 s).2.1 (r8 s).2.2.1 p),(0,())))))) (((vz s (p::([]:List bo9)))=false)/\(cnd ((zc s (p::([]:List bo9))) != 0) (K (0,((zc s (p::([]:List bo9))),()))) (False/\False))))
theorem apf(s:ab)(p:ac)(hok:ae (okL jt.args (s,p,())))(hpre:ae (jt.pre (s,p,()))):zm s p (fun r=>r=jt.res (s,p,())):=by
 simp only[jt,okL,T.oks,T.ok,ap,ae,a0e,a0c,a0i]at hok hpre
 try dsimp only[T.den]at hok hpre
 unfold zm;clear hok hpre;refine bc (fun h=>⟨h,bc (fun h0=>by cases h0) (fun _=>⟨bkv h (by simp),?_⟩)⟩) (fun h=>⟨h,bc (fun _=>?_) (fun h0=>(bmh h0).elim)⟩)
 ·simp only[jt,ahy];rw[d0 h];rfl
 ·simp only[jt,ahy];rw[ds (by rw[h];decide)]
theorem anu:bz Tryz.prog 25 jt:=ci (Φ:=ant) (ai ym (ai an0 ao)) bm (by kernel_rfl) (fn:=Tryz.f25) (c:=bg Tryz.f25) (by kernel_rfl) (by kernel_rfl) (by kernel_rfl) jt rfl .n (cu [(1,1500)]) (by kernel_rfl) (by kernel_rfl) (by kernel_rfl) (by decide) (fun x K=>zm x.1 x.2.1 K) (fun _ _=>by kernel_rfl) (fun x h1 h2=>apf x.1 x.2.1 h1 h2)
def iy:Ct:=⟨[(.sl (.int .i64)),(.sl (.int .i64))],[false,false],fun x=>[],[(false,(.fz .bool))],fun x=>(eqR (.sl (.int .i64)) x.1 x.2.1,()),false,none⟩
def apw:Ann:=(.s .n (.s .n (.s (.s .n (.l [(5,(.d (.int .i64)))] [] [0,1] .n)) .n)))
def aam(a:List Int)(b:List Int)(K:Bool×Unit->Prop):Prop:=(cnd (((a.length:Nat):Int) != ((b.length:Nat):Int)) (K (false,())) (be (S:=bpd) (fun s=>(fun next=>((inK .i64 s.1.1)->(cnd (decide (s.1.1<((a.length:Nat):Int))) ((0<=s.1.1)/\((s.1.1<((a.length:Nat):Int))/\((0<=s.1.1)/\((s.1.1<((b.length:Nat):Int))/\(cnd ((a.getD s.1.1.toNat 0) != (b.getD s.1.1.toNat 0)) (K (false,())) ((inK .i64 (s.1.1+1))/\(next (((s.1.1+1),()),())))))))) (K (true,())))))) ((0,()),())))
theorem aqs(a:List Int)(b:List Int)(hok:ae (okL iy.args (a,b,())))(hpre:ae (iy.pre (a,b,()))):aam a b (fun r=>r=iy.res (a,b,())):=by
 simp only[iy,okL,T.oks,T.ok,ap,ae,a0e,a0c,a0i]at hok hpre
 try dsimp only[T.den]at hok hpre
 unfold aam;refine bc (fun hc=>?_) (fun hc=>?_)
 ·simp only[iy,a0k,a0c];rw[aco];rintro rfl;simp at hc
 have hl:a.length=b.length:=by simp at hc;omega
 refine br (fun (s:bpd)=>0<=s.1.1/\s.1.1<=a.length/\a.take s.1.1.toNat=b.take s.1.1.toNat) (fun (s:bpd)=>(a.length-s.1.1).toNat) ?_ (by simp);rintro⟨⟨i,_⟩,_⟩ next ⟨h0,h1,h2⟩ hn hin
 simp only at h0 h1 h2 hn⊢;refine aq (fun hc=>?_) (fun hc=>?_)
 ·have ha:=mt a (0:Int) h0 hc;have hb:=mt b (0:Int) h0 (by omega);refine⟨by omega,by omega,by omega,by omega,bc (fun hd=>?_) (fun hd=>?_)⟩
  ·simp only[iy,a0k,a0c];rw[aco];rintro rfl;simp at hd
  ·refine⟨by grind[cnd,cj,al],hn _ ⟨(by first|omega|(dsimp only;omega)),(by first|omega|(dsimp only;omega)),?_⟩ (by first|omega|(dsimp only;omega))⟩;simp only[a2d,ff,a1j]at hd;simp only[ha,hb,h2,hd]
 ·rw[qv a (by omega),qv b (by omega)]at h2;simp[h2,iy]
theorem af8:bz Tryz.prog 12 iy:=ci (Φ:=lkp []) ao bm (by kernel_rfl) (fn:=Tryz.f12) (c:=bg Tryz.f12) (by kernel_rfl) (by kernel_rfl) (by kernel_rfl) iy rfl apw (cu [(6,9)]) (by kernel_rfl) (by kernel_rfl) (by kernel_rfl) (by decide) (fun x K=>aam x.1 x.2.1 K) (fun _ _=>by kernel_rfl) (fun x h1 h2=>aqs x.1 x.2.1 h1 h2)
end Go.Bm
