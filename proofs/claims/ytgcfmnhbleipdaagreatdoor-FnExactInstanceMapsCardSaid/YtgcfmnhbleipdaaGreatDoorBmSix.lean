/- The typed machine that the walks of this claim go by: its data, its operations and the proof that each is sound. No condition. -/
import Derived.Test.YtgcfmnhbleipdaaGreatDoorBmFive
import Derived.ScopeJumps
set_option linter.unusedVariables false
set_option linter.unusedSimpArgs false
set_option linter.unusedSectionVars false
/- The du machine:what a walk asks picks one end:so a law that bounds the results names them. -/
namespace Go.Bm
open Go.RowKit
section
variable {R R':Type}
end
section
variable {B:Tab} {Φ:FuncId->Option Ct} {R:Type}
end
end Go.Bm
/- The du machine:data has a world;a law that bounds the results names them. -/
namespace Go.Bm
open Go.RowKit
abbrev lt(w:World):Nat->Prop:=fun b=>b<w.heap.size
section
variable {P:Program} {B:Tab} {Φ:FuncId->Option Ct}
end
end Go.Bm
/- The du machine:a function whose code jumps back to labels. -/
namespace Go.Bm
open Go.RowKit
section
variable {F:Fr} {p:Ow} {env:Env} {M:Mem} {a:Act} {w:World} {P:Program} {B:Tab} {Φ:FuncId->Option Ct}
def spC(s:Sp):Ct:=⟨[],[],fun _=>[],[],fun _=>(),false,some (.s s)⟩
theorem ba6{f:FuncId}{s:Sp}(h1:bn P f (ti s true))(h0:bn P f (ti s false)):bn P f (spC s):=⟨h1.1,h1.2,h0.2⟩
end
end Go.Bm
/- Numbers written into data one after the other,and read back. No condition. -/
namespace Go.Bm
def sx{α:Type}(f:α->Int->α×Int):List α->Int->List α×Int
 |[],n=>([],n)
 |x::r,n=>((f x n).1::(sx f r (f x n).2).1,(sx f r (f x n).2).2)
def mkR:(t:T)->t.den->Int->t.den×Int
 |.int _,_,n=>(n,n+1)
 |.p a b,x,n=>(((mkR a x.1 n).1,(mkR b x.2 (mkR a x.1 n).2).1),(mkR b x.2 (mkR a x.1 n).2).2)
 |.sl e,l,n=>sx (mkR e) l n
 |.bool,x,n=>(x,n)
 |.str,x,n=>(x,n)
 |.u,x,n=>(x,n)
 |.pt _,x,n=>(x,n)
 |.fn _ _,x,n=>(x,n)
 |.ifc _ _,x,n=>(x,n)
 |.mp _ _,x,n=>(x,n)
 |.op _,x,n=>(x,n)
 |.ns _,x,n=>(x,n)
 |.er _,x,n=>(x,n)
 |.any,x,n=>(x,n)
def mtR:(t:T)->t.den->Int->t.den×Int
 |.int _,x,n=>(x,n)
 |.p a b,x,n=>(((mtR a x.1 n).1,(mtR b x.2 (mtR a x.1 n).2).1),(mtR b x.2 (mtR a x.1 n).2).2)
 |.sl e,l,n=>mkR (.sl e) l n
 |.bool,x,n=>(x,n)
 |.str,x,n=>(x,n)
 |.u,x,n=>(x,n)
 |.pt _,x,n=>(x,n)
 |.fn _ _,x,n=>(x,n)
 |.ifc _ _,x,n=>(x,n)
 |.mp _ _,x,n=>(x,n)
 |.op _,x,n=>(x,n)
 |.ns _,x,n=>(x,n)
 |.er _,x,n=>(x,n)
 |.any,x,n=>(x,n)
def hdL{α:Type}(f:α->Int->Int):List α->Int->Int
 |[],n=>n
 |x::r,n=>if f x n<0 then -1 else hdL f r (f x n)
def hdR:(t:T)->t.den->Int->Int
 |.int _,x,n=>if (x:Int)=n then n+1 else -1
 |.p a b,x,n=>if hdR a x.1 n<0 then -1 else hdR b x.2 (hdR a x.1 n)
 |.sl e,l,n=>hdL (hdR e) l n
 |.bool,_,n=>n
 |.str,_,n=>n
 |.u,_,n=>n
 |.pt _,_,n=>n
 |.fn _ _,_,n=>n
 |.ifc _ _,_,n=>n
 |.mp _ _,_,n=>n
 |.op _,_,n=>n
 |.ns _,_,n=>n
 |.er _,_,n=>n
 |.any,_,n=>n
def ckR:(t:T)->t.den->Nat
 |.int _,_=>1
 |.p a b,x=>ckR a x.1+ckR b x.2
 |.sl e,l=>(l.map (ckR e)).sum
 |.bool,_=>0
 |.str,_=>0
 |.u,_=>0
 |.pt _,_=>0
 |.fn _ _,_=>0
 |.ifc _ _,_=>0
 |.mp _ _,_=>0
 |.op _,_=>0
 |.ns _,_=>0
 |.er _,_=>0
 |.any,_=>0
def ctR:(t:T)->t.den->Nat
 |.int _,_=>0
 |.p a b,x=>ctR a x.1+ctR b x.2
 |.sl e,l=>ckR (.sl e) l
 |.bool,_=>0
 |.str,_=>0
 |.u,_=>0
 |.pt _,_=>0
 |.fn _ _,_=>0
 |.ifc _ _,_=>0
 |.mp _ _,_=>0
 |.op _,_=>0
 |.ns _,_=>0
 |.er _,_=>0
 |.any,_=>0
theorem bcb{α:Type}{f:α->Int->α×Int}:∀(l:List α) (n:Int),(sx f l n).1.length=l.length
 |[],_=>rfl
 |x::r,n=>by simp only[sx,a0l];rw[bcb r]
theorem as6{α:Type}{f:α->Int->α×Int}(x:α):∀(l:List α) (n:Int),sx f (l++[x]) n=((sx f l n).1++[(f x (sx f l n).2).1],(f x (sx f l n).2).2)
 |[],n=>rfl
 |y::r,n=>by simp only[a2i,sx];rw[as6 x r]
theorem atr{α:Type}{f:α->Int->α×Int}{c:α->Nat}(h:∀x n,(f x n).2=n+c x):∀(l:List α) (n:Int),(sx f l n).2=n+(l.map c).sum
 |[],n=>by simp[sx]
 |x::r,n=>by simp only[sx,a05,a2e];rw[atr h r,h];omega
theorem abm:(t:T)->(x:t.den)->(n:Int)->(mkR t x n).2=n+ckR t x
 |.int _,x,n=>by simp[mkR,ckR]
 |.p a b,x,n=>by simp only[mkR,ckR];rw[abm b,abm a];omega
 |.sl e,l,n=>by simp only[mkR,ckR];exact atr (abm e) l n
 |.bool,x,n=>by simp[mkR,ckR]
 |.str,x,n=>by simp[mkR,ckR]
 |.u,x,n=>by simp[mkR,ckR]
 |.pt _,x,n=>by simp[mkR,ckR]
 |.fn _ _,x,n=>by simp[mkR,ckR]
 |.ifc _ _,x,n=>by simp[mkR,ckR]
 |.mp _ _,x,n=>by simp[mkR,ckR]
 |.op _,x,n=>by simp[mkR,ckR]
 |.ns _,x,n=>by simp[mkR,ckR]
 |.er _,x,n=>by simp[mkR,ckR]
 |.any,x,n=>by simp[mkR,ckR]
theorem alp:(t:T)->(x:t.den)->(n:Int)->(mtR t x n).2=n+ctR t x
 |.int _,x,n=>by simp[mtR,ctR]
 |.p a b,x,n=>by simp only[mtR,ctR];rw[alp b,alp a];omega
 |.sl e,l,n=>by simp only[mtR,ctR];exact abm (.sl e) l n
 |.bool,x,n=>by simp[mtR,ctR]
 |.str,x,n=>by simp[mtR,ctR]
 |.u,x,n=>by simp[mtR,ctR]
 |.pt _,x,n=>by simp[mtR,ctR]
 |.fn _ _,x,n=>by simp[mtR,ctR]
 |.ifc _ _,x,n=>by simp[mtR,ctR]
 |.mp _ _,x,n=>by simp[mtR,ctR]
 |.op _,x,n=>by simp[mtR,ctR]
 |.ns _,x,n=>by simp[mtR,ctR]
 |.er _,x,n=>by simp[mtR,ctR]
 |.any,x,n=>by simp[mtR,ctR]
theorem bc9{α:Type}{f:α->Int->α×Int}{g:α->Int->Int}(h:∀x n,0<=n->g (f x n).1 n=(f x n).2/\n<=(f x n).2):∀(l:List α) (n:Int),0<=n->hdL g (sx f l n).1 n=(sx f l n).2/\n<=(sx f l n).2
 |[],n,_=>by simp[sx,hdL]
 |x::r,n,hn=>by obtain⟨h1,h2⟩:=h x n hn;obtain⟨h3,h4⟩:=bc9 h r (f x n).2 (by omega);simp only[sx,hdL,h1];rw[ds (by omega)];exact⟨h3,by omega⟩
theorem ba3:(t:T)->(x:t.den)->(n:Int)->0<=n->hdR t (mkR t x n).1 n=(mkR t x n).2/\n<=(mkR t x n).2
 |.int _,x,n,_=>by simp[mkR,hdR];omega
 |.p a b,x,n,hn=>by obtain⟨h1,h2⟩:=ba3 a x.1 n hn;obtain⟨h3,h4⟩:=ba3 b x.2 (mkR a x.1 n).2 (by omega);simp only[mkR,hdR,h1];rw[ds (by omega)];exact⟨h3,by omega⟩
 |.sl e,l,n,hn=>by simp only[mkR,hdR];exact bc9 (ba3 e) l n hn
 |.bool,x,n,_=>by simp[mkR,hdR]
 |.str,x,n,_=>by simp[mkR,hdR]
 |.u,x,n,_=>by simp[mkR,hdR]
 |.pt _,x,n,_=>by simp[mkR,hdR]
 |.fn _ _,x,n,_=>by simp[mkR,hdR]
 |.ifc _ _,x,n,_=>by simp[mkR,hdR]
 |.mp _ _,x,n,_=>by simp[mkR,hdR]
 |.op _,x,n,_=>by simp[mkR,hdR]
 |.ns _,x,n,_=>by simp[mkR,hdR]
 |.er _,x,n,_=>by simp[mkR,hdR]
 |.any,x,n,_=>by simp[mkR,hdR]
theorem bfe{α:Type}{g:α->Int->Int}{c:α->Nat}(h:∀x n,0<=n->g x n=-1\/g x n=n+c x):∀(l:List α) (n:Int),0<=n->hdL g l n=-1\/hdL g l n=n+(l.map c).sum
 |[],n,_=>by simp[hdL]
 |x::r,n,hn=>by
  simp only[hdL,a05,a2e];rcases h x n hn with e|e
  ·rw[e];simp
  ·rw[e,ds (by omega)];rcases bfe h r (n+c x) (by omega)with e'|e' <;> omega
theorem avy:(t:T)->(x:t.den)->(n:Int)->0<=n->hdR t x n=-1\/hdR t x n=n+ckR t x
 |.int _,x,n,_=>by simp only[hdR,ckR];split <;> simp
 |.p a b,x,n,hn=>by
  simp only[hdR,ckR];rcases avy a x.1 n hn with e|e
  ·rw[e];simp
  ·rw[e,ds (by omega)];rcases avy b x.2 (n+ckR a x.1) (by omega)with e'|e' <;> omega
 |.sl e,l,n,hn=>by simp only[hdR,ckR];exact bfe (avy e) l n hn
 |.bool,x,n,_=>by simp[hdR,ckR]
 |.str,x,n,_=>by simp[hdR,ckR]
 |.u,x,n,_=>by simp[hdR,ckR]
 |.pt _,x,n,_=>by simp[hdR,ckR]
 |.fn _ _,x,n,_=>by simp[hdR,ckR]
 |.ifc _ _,x,n,_=>by simp[hdR,ckR]
 |.mp _ _,x,n,_=>by simp[hdR,ckR]
 |.op _,x,n,_=>by simp[hdR,ckR]
 |.ns _,x,n,_=>by simp[hdR,ckR]
 |.er _,x,n,_=>by simp[hdR,ckR]
 |.any,x,n,_=>by simp[hdR,ckR]
theorem bfd{α:Type}{f:α->Int->α×Int}{c:α->Nat}(h:∀x n,c (f x n).1=c x):∀(l:List α) (n:Int),((sx f l n).1.map c).sum=(l.map c).sum
 |[],n=>rfl
 |x::r,n=>by simp only[sx,a05,a2e];rw[bfd h r,h]
theorem avg:(t:T)->(x:t.den)->(n:Int)->ckR t (mkR t x n).1=ckR t x
 |.int _,x,n=>rfl
 |.p a b,x,n=>by simp only[mkR,ckR];rw[avg a,avg b]
 |.sl e,l,n=>by simp only[mkR,ckR];exact bfd (avg e) l n
 |.bool,x,n=>rfl
 |.str,x,n=>rfl
 |.u,x,n=>rfl
 |.pt _,x,n=>rfl
 |.fn _ _,x,n=>rfl
 |.ifc _ _,x,n=>rfl
 |.mp _ _,x,n=>rfl
 |.op _,x,n=>rfl
 |.ns _,x,n=>rfl
 |.er _,x,n=>rfl
 |.any,x,n=>rfl
theorem bje:(t:T)->(x:t.den)->(n:Int)->ctR t (mtR t x n).1=ctR t x
 |.int _,x,n=>rfl
 |.p a b,x,n=>by simp only[mtR,ctR];rw[bje a,bje b]
 |.sl e,l,n=>by simp only[mtR,ctR];exact avg (.sl e) l n
 |.bool,x,n=>rfl
 |.str,x,n=>rfl
 |.u,x,n=>rfl
 |.pt _,x,n=>rfl
 |.fn _ _,x,n=>rfl
 |.ifc _ _,x,n=>rfl
 |.mp _ _,x,n=>rfl
 |.op _,x,n=>rfl
 |.ns _,x,n=>rfl
 |.er _,x,n=>rfl
 |.any,x,n=>rfl
def aod:T->Nat
 |.int _=>1
 |.p a b=>aod a+aod b
 |_=>0
def aj7:T->Bool
 |.sl e=>aj7 e&&decide (aod e<=1)
 |.p a b=>aj7 a&&aj7 b
 |_=>true
theorem bal:(t:T)->aj7 t=true->(x:t.den)->ckR t x<=aod t+wR t x
 |.int _,_,x=>by simp[ckR,aod]
 |.p a b,h,x=>by simp only[aj7,a0a]at h;have h1:=bal a h.1 x.1;have h2:=bal b h.2 x.2;simp only[ckR,aod,wR];omega
 |.sl e,h,l=>by
  simp only[aj7,a0a,a06]at h;simp only[ckR,aod,wR]
  have:∀l:List e.den,(l.map (ckR e)).sum<=l.length+(l.map (wR e)).sum:=by
   intro l
   induction l with
   |nil=>simp
   |cons y l ih=>simp only[a05,a2e,a0l];have:=bal e h.1 y;omega
  have:=this l;omega
 |.bool,_,x=>by simp[ckR]
 |.str,_,x=>by simp[ckR]
 |.u,_,x=>by simp[ckR]
 |.pt _,_,x=>by simp[ckR]
 |.fn _ _,_,x=>by simp[ckR]
 |.ifc _ _,_,x=>by simp[ckR]
 |.mp _ _,_,x=>by simp[ckR]
 |.op _,_,x=>by simp[ckR]
 |.ns _,_,x=>by simp[ckR]
 |.er _,_,x=>by simp[ckR]
 |.any,_,x=>by simp[ckR]
theorem ban:(t:T)->aj7 t=true->(x:t.den)->ctR t x<=wR t x
 |.int _,_,x=>by simp[ctR]
 |.p a b,h,x=>by simp only[aj7,a0a]at h;have h1:=ban a h.1 x.1;have h2:=ban b h.2 x.2;simp only[ctR,wR];omega
 |.sl e,h,l=>by have:=bal (.sl e) h l;simp only[ctR,aod]at this⊢;omega
 |.bool,_,x=>by simp[ctR]
 |.str,_,x=>by simp[ctR]
 |.u,_,x=>by simp[ctR]
 |.pt _,_,x=>by simp[ctR]
 |.fn _ _,_,x=>by simp[ctR]
 |.ifc _ _,_,x=>by simp[ctR]
 |.mp _ _,_,x=>by simp[ctR]
 |.op _,_,x=>by simp[ctR]
 |.ns _,_,x=>by simp[ctR]
 |.er _,_,x=>by simp[ctR]
 |.any,_,x=>by simp[ctR]
theorem bqb{k:IntKind}(l:List Int):ckR (.sl (.int k)) l=l.length:=by
 simp only[ckR]
 induction l with
 |nil=>rfl
 |cons x l ih=>simp only[a05,a2e,a0l,ih];omega
theorem bqv{k:IntKind}{B:Nat}:∀(l:List (List Int)),(∀r∈l,r.length<=B)->ckR (.sl (.sl (.int k))) l<=l.length*B:=by
 intro l
 induction l with
 |nil=>intro _;simp[ckR]
 |cons r l ih=>intro h;have h1:=h r (by simp);have h2:=ih fun x hx=>h x (by simp[hx]);have h3:=bqb (k:=k) r;simp only[ckR]at h2 h3⊢;simp only[a05,a2e,a0l,a1q,h3];omega
theorem bp1{α:Type}(A l:List α)(y:α){i:Nat}(h:A.length=i)(hi:i<l.length):(A++l.drop i).set i y=(A++[y])++l.drop (i+1):=by rw[List.set_append,ds (by omega),h,Nat.sub_self,a4d hi,a4v,a07,a2i,a2s]
theorem bri{α:Type}(A l:List α)(d:α){i:Nat}(h:A.length=i):(A++l.drop i).getD i d=l.getD i d:=by rw[a0n,a0n,a1x (by omega),h,Nat.sub_self,a1c,a21]
theorem bou{α:Type}{c:α->Nat}(l:List α)(d:α){i:Int}(h0:0<=i)(h1:i<l.length):((l.take i.toNat).map c).sum+c (l.getD i.toNat d)<=(l.map c).sum:=by
 have h:=a10 i.toNat l;have e:(l.map c).sum=((l.take i.toNat).map c).sum+((l.drop i.toNat).map c).sum:=by rw[←List.sum_append,←a2o,h]
 rw[e,mn l d h0 h1];simp only[a05,a2e];omega
theorem aoj{e:T}(d:e.den)(a:List e.den)(k0:Int){body:(Unit×(Int×(Int×Unit)))×(List e.den×Unit)->((Unit×(Int×(Int×Unit)))×(List e.den×Unit)->Prop)->Prop}
  (hk:0<=k0) (hb:k0+ckR (.sl e) a<=4611686018427387904)
  (hs:∀(k i:Int) (l:List e.den) next,0<=i->i<l.length->l.length=a.length->l.getD i.toNat d=a.getD i.toNat d->0<=k->k+ckR e (a.getD i.toNat d)<=4611686018427387904->
   next (((),((mkR e (a.getD i.toNat d) k).2,(i+1,()))),(l.set i.toNat (mkR e (a.getD i.toNat d) k).1,()))->body (((),(k,(i,()))),(l,())) next)
  (he:∀(i:Int) (l:List e.den) next,(l.length:Int)<=i->l=(mkR (.sl e) a k0).1->body (((),((mkR (.sl e) a k0).2,(i,()))),(l,())) next):bc body (((),(k0,(0,()))),(a,())):=by
 refine bz (fun (s:(Unit×(Int×(Int×Unit)))×(List e.den×Unit))=>0<=s.1.2.2.1/\s.1.2.2.1<=a.length/\s.2.1=(sx (mkR e) (a.take s.1.2.2.1.toNat) k0).1++a.drop s.1.2.2.1.toNat/\s.1.2.1=(sx (mkR e) (a.take s.1.2.2.1.toNat) k0).2) (fun s=>((a.length:Int)-s.1.2.2.1).toNat) ?_ ⟨a0r _,by simp,by simp[sx],by simp[sx]⟩;rintro⟨⟨_,k,i,_⟩,l,_⟩ next ⟨h0,h1,h2,h3⟩ hn
 dsimp only at h0 h1 h2 h3 hn;have hl:(sx (mkR e) (a.take i.toNat) k0).1.length=i.toNat:=by rw[bcb,a1d];omega
 have hll:l.length=a.length:=by rw[h2,a0q,hl,a1n];omega
 by_cases hc:i<a.length
 ·have hg:l.getD i.toNat d=a.getD i.toNat d:=by rw[h2];exact bri _ a d hl
  have hkn:k=k0+((a.take i.toNat).map (ckR e)).sum:=by rw[h3];exact atr (abm e) _ _
  have hts:=bou (c:=ckR e) a d h0 hc;simp only[ckR]at hb;have ht:a.take (i+1).toNat=a.take i.toNat++[a.getD i.toNat d]:=ii a d h0 hc;refine hs k i l next h0 (by omega) hll hg (by omega) (by omega) (hn _ ⟨by dsimp only;omega,by dsimp only;omega,?_,?_⟩ (by dsimp only;omega))
  ·dsimp only;rw[ht,as6,h2,bp1 _ a _ hl (by omega),←h3,show (i+1).toNat=i.toNat+1 from by omega]
  ·dsimp only;rw[ht,as6,←h3]
 ·have e1:a.take i.toNat=a:=jr a (by omega);have e2:a.drop i.toNat=[]:=pc a (by omega);rw[e1]at h2 h3;rw[e2,a2k]at h2;rw[h3];exact he i l next (by omega) h2
theorem br4{k:IntKind}(x n:Int):hdR (.int k) x n=if x=n then n+1 else -1:=rfl
theorem ayw{e:T}(d:e.den)(a:List e.den)(k0:Int){body:(Int×(Int×Unit))×Unit->((Int×(Int×Unit))×Unit->Prop)->Prop}
  (hk:0<=k0) (hb:k0+ckR (.sl e) a<=4611686018427387904)
  (hs:∀(k i:Int) next,0<=i->i<a.length->0<=k->k+ckR e (a.getD i.toNat d)<=4611686018427387904->(hdR e (a.getD i.toNat d) k<0->hdR (.sl e) a k0=-1)->
   (¬hdR e (a.getD i.toNat d) k<0->next ((hdR e (a.getD i.toNat d) k,(i+1,())),()))->body ((k,(i,())),()) next)
  (he:∀(i:Int) next,(a.length:Int)<=i->body ((hdR (.sl e) a k0,(i,())),()) next):bc body ((k0,(0,())),()):=by
 refine bz (fun (s:(Int×(Int×Unit))×Unit)=>0<=s.1.2.1/\s.1.2.1<=a.length/\hdR (.sl e) a k0=hdL (hdR e) (a.drop s.1.2.1.toNat) s.1.1/\0<=s.1.1/\s.1.1+((a.drop s.1.2.1.toNat).map (ckR e)).sum<=4611686018427387904) (fun s=>((a.length:Int)-s.1.2.1).toNat) ?_ ⟨a0r _,by simp,by simp[hdR],hk,by simpa[ckR]using hb⟩;rintro⟨⟨k,i,_⟩,_⟩ next ⟨h0,h1,h2,h3,h4⟩ hn
 dsimp only at h0 h1 h2 h3 h4 hn;by_cases hc:i<a.length
 ·rw[mn a d h0 hc]at h2 h4;simp only[a05,a2e]at h4;refine hs k i next h0 hc h3 (by omega) (fun hx=>by rw[h2];simp only[hdL];rw[d0 hx]) (fun hx=>?_)
  have hv:=avy e (a.getD i.toNat d) k h3;have hv2:hdR e (a.getD i.toNat d) k=k+ckR e (a.getD i.toNat d):=by omega
  exact hn _ ⟨by dsimp only;omega,by dsimp only;omega,by dsimp only;rw[h2];simp only[hdL];rw[ds hx],by dsimp only;omega,by dsimp only;omega⟩ (by dsimp only;omega)
 ·have e2:a.drop i.toNat=[]:=pc a (by omega);rw[e2]at h2;simp only[hdL]at h2;rw[←h2];exact he i next (by omega)
end Go.Bm
/- The data of the types of the program. No condition. -/
namespace Go.Bm
abbrev az:T:=(.p (.int .i64) (.p (.sl (.int .i64)) (.p (.sl (.int .i64)) (.p (.sl (.int .i64)) (.sl (.sl (.int .i64)))))))
abbrev a8:Type:=Int×((List Int)×((List Int)×((List Int)×(List (List Int)))))
abbrev aps:O:=(.p (.fz (.int .i64)) (.p (.sl (.fz (.int .i64))) (.p (.sl (.fz (.int .i64))) (.p (.sl (.fz (.int .i64))) (.sl (.sl (.fz (.int .i64))))))))
abbrev SetFunctorT:T:=(.p az (.p (.sl (.int .i64)) (.sl (.sl (.int .i64)))))
abbrev bf:Type:=a8×((List Int)×(List (List Int)))
abbrev ar6:O:=(.p aps (.p (.sl (.fz (.int .i64))) (.sl (.sl (.fz (.int .i64))))))
abbrev aq:T:=(.p (.int .i64) (.sl (.int .i64)))
abbrev ae:Type:=Int×(List Int)
abbrev aua:O:=(.p (.fz (.int .i64)) (.sl (.fz (.int .i64))))
abbrev SchemaT:T:=(.p (.int .i64) (.p (.sl (.int .i64)) (.p (.sl (.int .i64)) (.p (.sl aq) (.sl aq)))))
abbrev ac:Type:=Int×((List Int)×((List Int)×((List ae)×(List ae))))
abbrev bgj:O:=(.p (.fz (.int .i64)) (.p (.sl (.fz (.int .i64))) (.p (.sl (.fz (.int .i64))) (.p (.sl aua) (.sl aua)))))
abbrev nz:T:=(.p (.mp .str (.int .i64)) (.p (.sl (.int .i64)) (.sl aq)))
abbrev ak:Type:=(List (ByteArray×Int))×((List Int)×(List ae))
abbrev g8:T:=(.p (.pt SchemaT) (.p az (.p (.sl (.int .i64)) (.sl aq))))
abbrev bt5:T:=(.p (.int .i64) (.int .i64))
abbrev btk:Type:=Int×Int
abbrev ak1:T:=(.p az (.p (.sl aq) (.sl (.int .i64))))
abbrev t6:Type:=a8×((List ae)×(List Int))
end Go.Bm
/- Small facts about lists,for the walks. No condition. -/
namespace Go.Bm
def inR(n lo hi:Int):Bool:=decide (lo<=n)&&decide (n<=hi)
theorem pz{n lo hi:Int}:inR n lo hi=true<->lo<=n/\n<=hi:=by simp[inR]
def bj(l:List Int)(n:Int):Bool:=l.all fun y=>inR y 0 (n-1)
theorem iv{l:List Int}{n:Int}:bj l n=true<->∀i:Int,0<=i->i<l.length->0<=l.getD i.toNat 0/\l.getD i.toNat 0<n:=by
 simp only[bj,a1l,inR,a0a,a06];constructor
 ·intro h i h0 h1;have:=h _ (fb l 0 h0 h1);omega
 ·intro h x hx;obtain⟨k,hk,rfl⟩:=a2f hx;have:=h k (by omega) (by omega);rw[a0m,a0n,a0o hk]at this;simp only[a0z]at this;omega
theorem avi{α β:Type}{B:Nat}{f:α->List β}:∀{L:List α},(∀l∈L,(f l).length<=B)->(L.flatMap f).length<=L.length*B
 |[],_=>by simp
 |l::L,h=>by have h1:=h l (by simp);have h2:=avi (L:=L) fun x hx=>h x (by simp[hx]);simp only[List.flatMap_cons,a0q,a0l,a1q];omega
def rm:Nat->(Int->Bool)->Bool
 |0,_=>true
 |n+1,p=>rm n p&&p n
theorem aex{p:Int->Bool}:∀{n:Nat},rm n p=true<->∀i:Int,0<=i->i<n->p i=true
 |0=>by simp only[rm,true_iff];intro i h0 h1;omega
 |n+1=>by
  simp only[rm,a0a,aex (n:=n)];constructor
  ·rintro⟨h1,h2⟩ i h0 hi;by_cases e:i=n
   ·rw[e];exact h2
   ·exact h1 i h0 (by omega)
  ·intro h;exact⟨fun i h0 h1=>h i h0 (by omega),h n (by omega) (by omega)⟩
def d8{α:Type}(p:Int->Option α):Nat->Int->Option α
 |0,_=>none
 |k+1,i=>match p i with|some r=>some r|none=>d8 p k (i+1)
theorem qi{α:Type}{p:Int->Option α}{n i:Int}{r:α}(h:i<n)(hp:p i=some r):d8 p (n-i).toNat i=some r:=by rw[show (n-i).toNat=(n-(i+1)).toNat+1 from by omega,d8,hp]
theorem qh{α:Type}{p:Int->Option α}{n i:Int}(h:i<n)(hp:p i=none):d8 p (n-i).toNat i=d8 p (n-(i+1)).toNat (i+1):=by rw[show (n-i).toNat=(n-(i+1)).toNat+1 from by omega,d8,hp]
theorem qf{α:Type}{p:Int->Option α}{n:Int}:d8 p (n-n).toNat n=none:=by rw[show (n-n).toNat=0 from by omega,d8]
theorem x9{α:Type}{p:Int->Option α}{n:Nat}:d8 p n 0=d8 p ((n:Int)-0).toNat 0:=by rw[show ((n:Int)-0).toNat=n from by omega]
def orR{α:Type}:Option α->α->α
 |some x,_=>x
 |none,y=>y
theorem ab3{α:Type}(l:List α)(k y:Nat)(x d:α)(hk:k<l.length):(l.set k x).getD y d=if k=y then x else l.getD y d:=by
 rw[a0n,a0n,a3m];split
 ·rename_i h;subst h;simp[hk]
 ·rfl
def dv{α:Type}:Nat->(Int->α)->List α
 |0,_=>[]
 |n+1,f=>dv n f++[f n]
theorem br{α:Type}{f:Int->α}:∀n:Nat,(dv n f).length=n
 |0=>rfl
 |n+1=>by simp[dv,br n]
theorem wu{α:Type}{f:Int->α}{i:Int}(h0:0<=i):dv (i+1).toNat f=dv i.toNat f++[f i]:=by rw[show (i+1).toNat=i.toNat+1 from by omega,dv,show ((i.toNat:Nat):Int)=i from by omega]
theorem pw{α:Type}{f:Int->α}{d:α}{i:Int}:∀{n:Nat},0<=i->i<n->(dv n f).getD i.toNat d=f i
 |0,h0,h1=>by omega
 |n+1,h0,h1=>by
  unfold dv;by_cases e:i=n
  ·subst e;rw[a0n,a1x (by rw[br];omega),br];simp
  ·rw[a0n,a1g (by rw[br];omega),←a0n];exact pw h0 (by omega)
theorem qy{α:Type}{f:Int->α}{x:α}:∀{n:Nat},x∈dv n f<->∃i:Int,0<=i/\i<n/\x=f i
 |0=>by simp only[dv,a4c,false_iff];rintro⟨i,h0,h1,_⟩;omega
 |n+1=>by
  unfold dv;rw[a04,qy,a0u];constructor
  ·rintro (⟨i,h0,h1,h⟩|h)
   ·exact⟨i,h0,by omega,h⟩
   ·exact⟨n,by omega,by omega,h⟩
  ·rintro⟨i,h0,h1,h⟩;by_cases e:i=n
   ·subst e;exact .inr h
   ·exact .inl ⟨i,h0,by omega,h⟩
theorem dg{α:Type}{f g:Int->α}:∀{n:Nat},(∀i:Int,0<=i->i<n->f i=g i)->dv n f=dv n g
 |0,_=>rfl
 |n+1,h=>by unfold dv;rw[h n (by omega) (by omega),dg fun i h0 h1=>h i h0 (by omega)]
theorem ahu{α:Type}(x:α):∀n:Nat,List.replicate n x=dv n fun _=>x
 |0=>rfl
 |n+1=>by rw[List.replicate_succ',dv,ahu x n]
theorem aah{α:Type}{f:Int->α}{x:α}{k:Int}:∀{n:Nat},0<=k->k<n->(dv n f).set k.toNat x=dv n fun y=>if y=k then x else f y
 |0,h0,h1=>by omega
 |n+1,h0,h1=>by
  unfold dv;by_cases e:k=n
  ·subst e;rw[List.set_append,ds (by rw[br];omega),br];simp only[a0m,Nat.sub_self,a4v,a01];rw[dg (g:=fun y=>if y=(n:Int)then x else f y) fun i i0 i1=>by rw[ds (by omega)]]
  ·rw[List.set_append,d0 (by rw[br];omega),aah h0 (by omega)];dsimp only;rw[ds (a0w e)]
theorem boc{α:Type}{p:α->Bool}(l:List α)(d:α){i:Int}(h0:0<=i)(h1:i<l.length):(l.take (i+1).toNat).all p=((l.take i.toNat).all p&&p (l.getD i.toNat d)):=by rw[ii l d h0 h1,a4h];simp
theorem c7{n m b:Nat}(h:(n+m)*b<=140737488355328):ey n m b:=by unfold ey;rw[b9];exact h
theorem bbc{p:Int->Bool}{i:Int}(h0:0<=i):rm (i+1).toNat p=(rm i.toNat p&&p i):=by rw[show (i+1).toNat=i.toNat+1 from by omega,rm,show ((i.toNat:Nat):Int)=i from by omega]
theorem zq{α:Type}(F:Int->α){n i0:Int}{a0:α}{body:(Unit×(Int×Unit))×(α×Unit)->((Unit×(Int×Unit))×(α×Unit)->Prop)->Prop}(hn:i0<=n)(h0:a0=F i0)
  (hs:∀i next,i0<=i->i<n->next (((),(i+1,())),(F (i+1),()))->body (((),(i,())),(F i,())) next) (he:∀next,body (((),(n,())),(F n,())) next):bc body (((),(i0,())),(a0,())):=by
 refine bz (fun s=>s.2.1=F s.1.2.1/\i0<=s.1.2.1/\s.1.2.1<=n) (fun s=>(n-s.1.2.1).toNat) ?_ ⟨h0,a0r _,hn⟩;rintro⟨⟨_,i,_⟩,y,_⟩ next ⟨hy,h1,h2⟩ hnx
 dsimp only at hy h1 h2 hnx;subst hy;by_cases e:i=n
 ·subst e;exact he next
 ·exact hs i next h1 (by omega) (hnx _ ⟨rfl,by dsimp only;omega,by dsimp only;omega⟩ (by dsimp only;omega))
theorem bn0{α:Type}(l:List α)(d:α)(p:α->Bool){body:(Int×Unit)×Unit->((Int×Unit)×Unit->Prop)->Prop}
  (hs:∀(i:Int) next,0<=i->i<l.length->(p (l.getD i.toNat d)=false->l.all p=false)->(p (l.getD i.toNat d)=true->next ((i+1,()),()))->body ((i,()),()) next)
  (he:∀next,l.all p=true->body (((l.length:Int),()),()) next):bc body ((0,()),()):=by
 refine fx (n:=l.length) (fun i=>(l.take i.toNat).all p=true) (by omega) (by simp) ?_ ?_
 ·intro i next i0 i1 hP hn
  have ht:=boc (p:=p) l d i0 i1;rw[hP,a1u]at ht;rw[ht]at hn;exact hs i next i0 i1 (fun h=>by rw[List.all_eq_false];exact⟨_,fb l d i0 i1,by rw[h];simp⟩) hn
 ·intro next hP
  rw[jr _ (a0r _)]at hP;exact he next hP
theorem ajo(n:Nat)(p:Int->Bool){body:(Int×Unit)×Unit->((Int×Unit)×Unit->Prop)->Prop}
  (hs:∀(i:Int) next,0<=i->i<n->(p i=false->rm n p=false)->(p i=true->next ((i+1,()),()))->body ((i,()),()) next)
  (he:∀next,rm n p=true->body (((n:Int),()),()) next):bc body ((0,()),()):=by
 refine fx (n:=n) (fun i=>rm i.toNat p=true) (by omega) rfl ?_ ?_
 ·intro i next i0 i1 hP hn
  rw[bbc i0,hP,a1u]at hn;refine hs i next i0 i1 (fun h=>?_) hn
  cases hb:rm n p with
  |false=>rfl
  |true=>rw[aex.1 hb i i0 i1]at h;cases h
 ·intro next hP
  exact he next hP
theorem bcx{α β:Type}(l:List α)(d:α)(g:α->List β)(A:List β)(B:Nat)(hB:∀x∈l,(g x).length<=B){body:(Unit×(Int×Unit))×(List β×Unit)->((Unit×(Int×Unit))×(List β×Unit)->Prop)->Prop}
  (hs:∀(i:Int) (out:List β) next,0<=i->i<l.length->out.length+(g (l.getD i.toNat d)).length<=A.length+l.length*B->next (((),(i+1,())),(out++g (l.getD i.toNat d),()))->body (((),(i,())),(out,())) next)
  (he:∀next,body (((),((l.length:Int),())),(A++l.flatMap g,())) next):bc body (((),(0,())),(A,())):=by
 refine zq (fun i=>A++(l.take i.toNat).flatMap g) (n:=l.length) (by omega) (by simp) ?_ ?_
 ·intro i next i0 i1 hn
  have hk:(l.take (i+1).toNat).flatMap g=(l.take i.toNat).flatMap g++g (l.getD i.toNat d):=by rw[ii l d i0 i1,List.flatMap_append];simp
  rw[hk,←a07]at hn;refine hs i _ next i0 i1 ?_ hn
  have h1:=@avi α β B g (l.take (i+1).toNat) fun x hx=>hB x (List.mem_of_mem_take hx);rw[hk,a0q]at h1;have h2:(l.take (i+1).toNat).length<=l.length:=by rw[a1d];omega
  have h3:=a1z B h2;rw[a0q];omega
 ·intro next
  rw[jr _ (a0r _)];exact he next
theorem boa{α:Type}{k:(Unit×Unit)×(List α×Unit)->Prop}{f:((Unit×Unit)×(List α×Unit)->Prop)->Prop}(r:List α)(hk:∀s,s.2.1=r->k s)(hf:∀k',(∀s:List α,s=r->k' (((),()),(s,())))->f k'):jd k f:=g7 (fun s=>s.2.1=r) hk fun k' h=>hf k' fun s hs=>h _ hs
theorem bc3{k v:T}{x y:k.den}{z:v.den}:∀{l:List (k.den×v.den)},rj k v (jq k v l x z) y=if eqR k y x=true then z else rj k v l y
 |[]=>by unfold rj;simp only[jq];rw[jl];split <;> rfl
 |e::r=>by
  have ih:=@bc3 k v x y z r;unfold rj at ih⊢;simp only[jq];by_cases h:eqR k x e.1=true
  ·rw[d0 h,jl,jl];have e1:=dc.1 h;rw[←e1];split <;> rfl
  ·rw[ds h,jl,jl];by_cases h2:eqR k y e.1=true
   ·rw[d0 h2,d0 h2,ds]
    ·intro h3;rw[dc]at h2 h3;exact h (dc.2 (h3▸h2))
   ·rw[ds h2,ds h2];exact ih
theorem bmv{k v:T}{x:k.den}{z:v.den}{l:List (k.den×v.den)}:(jq k v l x z).length<=l.length+1:=(@arc k v l x z l).1
theorem bb6{k v:T}{x:k.den}{z:v.den}:∀{l:List (k.den×v.den)},x∉l.map (·.1)->(jq k v l x z).length=l.length+1
 |[],_=>rfl
 |e::r,h=>by simp only[a05,a0s,not_or]at h;simp only[jq];rw[ds (fun h1=>h.1 (dc.1 h1))];simp only[a0l,@bb6 k v x z r h.2]
end Go.Bm
