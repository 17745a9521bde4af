/- The typed machine that the walks of this claim go by: its data, its operations and the proof that each is sound. No condition. -/
import Derived.Test.YtgcfmnhbleipdaaGreatDoorBmFive
import Derived.ScopeJumps
set_option linter.unusedVariables false
set_option linter.unusedSimpArgs false
set_option linter.unusedSectionVars false
/- The du machine:what a walk asks picks one end:so a law that bounds the results names them. -/
namespace Go.Bm
open Go.RowKit
section
variable {R R':Type}
end
section
variable {B:Tab} {Φ:FuncId->Option Ct} {R:Type}
end
end Go.Bm
/- The du machine:data has a world;a law that bounds the results names them. -/
namespace Go.Bm
open Go.RowKit
abbrev lt(w:World):Nat->Prop:=fun b=>b<w.heap.size
section
variable {P:Program} {B:Tab} {Φ:FuncId->Option Ct}
end
end Go.Bm
/- The du machine:a function whose code jumps back to labels. -/
namespace Go.Bm
open Go.RowKit
section
variable {F:Fr} {p:Ow} {env:Env} {M:Mem} {a:Act} {w:World} {P:Program} {B:Tab} {Φ:FuncId->Option Ct}
def spC(s:Sp):Ct:=⟨[],[],fun _=>[],[],fun _=>(),false,some (.s s)⟩
theorem asi{f:FuncId}{s:Sp}(h1:bt P f (o7 s true))(h0:bt P f (o7 s false)):bt P f (spC s):=⟨h1.1,h1.2,h0.2⟩
end
end Go.Bm
/- Numbers written into data one after the other,and read back. No condition. -/
namespace Go.Bm
end Go.Bm
/- The data of the types of the program. No condition. -/
namespace Go.Bm
abbrev gn:T:=(.p (.int .i64) (.p (.sl (.int .i64)) (.p (.sl (.int .i64)) (.p (.sl (.int .i64)) (.sl (.sl (.int .i64)))))))
abbrev bo:Type:=Int×((List Int)×((List Int)×((List Int)×(List (List Int)))))
abbrev PathT:T:=(.p (.int .i64) (.sl (.int .i64)))
abbrev ab:Type:=Int×(List Int)
abbrev awh:O:=(.p (.fz (.int .i64)) (.sl (.fz (.int .i64))))
abbrev SchemaT:T:=(.p (.int .i64) (.p (.sl (.int .i64)) (.p (.sl (.int .i64)) (.p (.sl PathT) (.sl PathT)))))
abbrev ac:Type:=Int×((List Int)×((List Int)×((List ab)×(List ab))))
abbrev bl4:O:=(.p (.fz (.int .i64)) (.p (.sl (.fz (.int .i64))) (.p (.sl (.fz (.int .i64))) (.p (.sl awh) (.sl awh)))))
abbrev mz:T:=(.p (.mp .str (.int .i64)) (.p (.sl (.int .i64)) (.sl PathT)))
abbrev aj:Type:=(List (ByteArray×Int))×((List Int)×(List ab))
abbrev kq:T:=(.p (.pt SchemaT) (.p gn (.p (.sl (.int .i64)) (.sl PathT))))
abbrev boy:T:=(.p (.int .i64) (.int .i64))
abbrev boc:Type:=Int×Int
abbrev aio:T:=(.p gn (.p (.sl PathT) (.sl (.int .i64))))
abbrev pi:Type:=bo×((List ab)×(List Int))
end Go.Bm
/- Small facts about lists,for the walks. No condition. -/
namespace Go.Bm
def inR(n lo hi:Int):Bool:=decide (lo<=n)&&decide (n<=hi)
theorem ow{n lo hi:Int}:inR n lo hi=true<->lo<=n/\n<=hi:=by simp[inR]
def bm(l:List Int)(n:Int):Bool:=l.all fun y=>inR y 0 (n-1)
theorem kv{l:List Int}{n:Int}:bm l n=true<->∀i:Int,0<=i->i<l.length->0<=l.getD i.toNat 0/\l.getD i.toNat 0<n:=by
 simp only[bm,a1d,inR,a0a,a04];constructor
 ·intro h i h0 h1;have:=h _ (ip l 0 h0 h1);omega
 ·intro h x hx;obtain⟨k,hk,rfl⟩:=a2e hx;have:=h k (by omega) (by omega);rw[a0m,a0o,a0n hk]at this;simp only[a02]at this;omega
theorem arx{α β:Type}{B:Nat}{f:α->List β}:∀{L:List α},(∀l∈L,(f l).length<=B)->(L.flatMap f).length<=L.length*B
 |[],_=>by simp
 |l::L,h=>by have h1:=h l (by simp);have h2:=arx (L:=L) fun x hx=>h x (by simp[hx]);simp only[List.flatMap_cons,a0q,a0l,a1r];omega
def rn:Nat->(Int->Bool)->Bool
 |0,_=>true
 |n+1,p=>rn n p&&p n
theorem agk{p:Int->Bool}:∀{n:Nat},rn n p=true<->∀i:Int,0<=i->i<n->p i=true
 |0=>by simp only[rn,true_iff];intro i h0 h1;omega
 |n+1=>by
  simp only[rn,a0a,agk (n:=n)];constructor
  ·rintro⟨h1,h2⟩ i h0 hi;by_cases e:i=n
   ·rw[e];exact h2
   ·exact h1 i h0 (by omega)
  ·intro h;exact⟨fun i h0 h1=>h i h0 (by omega),h n (by omega) (by omega)⟩
def lq{α:Type}(p:Int->Option α):Nat->Int->Option α
 |0,_=>none
 |k+1,i=>match p i with|some r=>some r|none=>lq p k (i+1)
theorem adz{α:Type}{p:Int->Option α}{n i:Int}{r:α}(h:i<n)(hp:p i=some r):lq p (n-i).toNat i=some r:=by rw[show (n-i).toNat=(n-(i+1)).toNat+1 from by omega,lq,hp]
theorem adp{α:Type}{p:Int->Option α}{n i:Int}(h:i<n)(hp:p i=none):lq p (n-i).toNat i=lq p (n-(i+1)).toNat (i+1):=by rw[show (n-i).toNat=(n-(i+1)).toNat+1 from by omega,lq,hp]
theorem adi{α:Type}{p:Int->Option α}{n:Int}:lq p (n-n).toNat n=none:=by rw[show (n-n).toNat=0 from by omega,lq]
theorem ady{α:Type}{p:Int->Option α}{n:Nat}:lq p n 0=lq p ((n:Int)-0).toNat 0:=by rw[show ((n:Int)-0).toNat=n from by omega]
def orR{α:Type}:Option α->α->α
 |some x,_=>x
 |none,y=>y
theorem act{α:Type}(l:List α)(k y:Nat)(x d:α)(hk:k<l.length):(l.set k x).getD y d=if k=y then x else l.getD y d:=by
 rw[a0o,a0o,a3f];split
 ·rename_i h;subst h;simp[hk]
 ·rfl
def dv{α:Type}:Nat->(Int->α)->List α
 |0,_=>[]
 |n+1,f=>dv n f++[f n]
theorem bh{α:Type}{f:Int->α}:∀n:Nat,(dv n f).length=n
 |0=>rfl
 |n+1=>by simp[dv,bh n]
theorem uv{α:Type}{f:Int->α}{i:Int}(h0:0<=i):dv (i+1).toNat f=dv i.toNat f++[f i]:=by rw[show (i+1).toNat=i.toNat+1 from by omega,dv,show ((i.toNat:Nat):Int)=i from by omega]
theorem ov{α:Type}{f:Int->α}{d:α}{i:Int}:∀{n:Nat},0<=i->i<n->(dv n f).getD i.toNat d=f i
 |0,h0,h1=>by omega
 |n+1,h0,h1=>by
  unfold dv;by_cases e:i=n
  ·subst e;rw[a0o,a1u (by rw[bh];omega),bh];simp
  ·rw[a0o,a1e (by rw[bh];omega),←a0o];exact ov h0 (by omega)
theorem pj{α:Type}{f:Int->α}{x:α}:∀{n:Nat},x∈dv n f<->∃i:Int,0<=i/\i<n/\x=f i
 |0=>by simp only[dv,a34,false_iff];rintro⟨i,h0,h1,_⟩;omega
 |n+1=>by
  unfold dv;rw[a1m,pj,a0x];constructor
  ·rintro (⟨i,h0,h1,h⟩|h)
   ·exact⟨i,h0,by omega,h⟩
   ·exact⟨n,by omega,by omega,h⟩
  ·rintro⟨i,h0,h1,h⟩;by_cases e:i=n
   ·subst e;exact .inr h
   ·exact .inl ⟨i,h0,by omega,h⟩
theorem df{α:Type}{f g:Int->α}:∀{n:Nat},(∀i:Int,0<=i->i<n->f i=g i)->dv n f=dv n g
 |0,_=>rfl
 |n+1,h=>by unfold dv;rw[h n (by omega) (by omega),df fun i h0 h1=>h i h0 (by omega)]
theorem afk{α:Type}(x:α):∀n:Nat,List.replicate n x=dv n fun _=>x
 |0=>rfl
 |n+1=>by rw[List.replicate_succ',dv,afk x n]
theorem x7{α:Type}{f:Int->α}{x:α}{k:Int}:∀{n:Nat},0<=k->k<n->(dv n f).set k.toNat x=dv n fun y=>if y=k then x else f y
 |0,h0,h1=>by omega
 |n+1,h0,h1=>by
  unfold dv;by_cases e:k=n
  ·subst e;rw[List.set_append,ds (by rw[bh];omega),bh];simp only[a0m,Nat.sub_self,a4z,a03];rw[df (g:=fun y=>if y=(n:Int)then x else f y) fun i i0 i1=>by rw[ds (by omega)]]
  ·rw[List.set_append,d0 (by rw[bh];omega),x7 h0 (by omega)];dsimp only;rw[ds (a0v e)]
theorem c9{n m b:Nat}(h:(n+m)*b<=140737488355328):e9 n m b:=by unfold e9;rw[cg];exact h
theorem aw8{p:Int->Bool}{i:Int}(h0:0<=i):rn (i+1).toNat p=(rn i.toNat p&&p i):=by rw[show (i+1).toNat=i.toNat+1 from by omega,rn,show ((i.toNat:Nat):Int)=i from by omega]
theorem aca{α:Type}(F:Int->α){n i0:Int}{a0:α}{body:(Unit×(Int×Unit))×(α×Unit)->((Unit×(Int×Unit))×(α×Unit)->Prop)->Prop}(hn:i0<=n)(h0:a0=F i0)
  (hs:∀i next,i0<=i->i<n->next (((),(i+1,())),(F (i+1),()))->body (((),(i,())),(F i,())) next) (he:∀next,body (((),(n,())),(F n,())) next):bi body (((),(i0,())),(a0,())):=by
 refine bq (fun s=>s.2.1=F s.1.2.1/\i0<=s.1.2.1/\s.1.2.1<=n) (fun s=>(n-s.1.2.1).toNat) ?_ ⟨h0,a0r _,hn⟩;rintro⟨⟨_,i,_⟩,y,_⟩ next ⟨hy,h1,h2⟩ hnx
 dsimp only at hy h1 h2 hnx;subst hy;by_cases e:i=n
 ·subst e;exact he next
 ·exact hs i next h1 (by omega) (hnx _ ⟨rfl,by dsimp only;omega,by dsimp only;omega⟩ (by dsimp only;omega))
theorem auy(n:Nat)(p:Int->Bool){body:(Int×Unit)×Unit->((Int×Unit)×Unit->Prop)->Prop}
  (hs:∀(i:Int) next,0<=i->i<n->(p i=false->rn n p=false)->(p i=true->next ((i+1,()),()))->body ((i,()),()) next)
  (he:∀next,rn n p=true->body (((n:Int),()),()) next):bi body ((0,()),()):=by
 refine lk (n:=n) (fun i=>rn i.toNat p=true) (by omega) rfl ?_ ?_
 ·intro i next i0 i1 hP hn
  rw[aw8 i0,hP,a1x]at hn;refine hs i next i0 i1 (fun h=>?_) hn
  cases hb:rn n p with
  |false=>rfl
  |true=>rw[agk.1 hb i i0 i1]at h;cases h
 ·intro next hP
  exact he next hP
theorem ays{α β:Type}(l:List α)(d:α)(g:α->List β)(A:List β)(B:Nat)(hB:∀x∈l,(g x).length<=B){body:(Unit×(Int×Unit))×(List β×Unit)->((Unit×(Int×Unit))×(List β×Unit)->Prop)->Prop}
  (hs:∀(i:Int) (out:List β) next,0<=i->i<l.length->out.length+(g (l.getD i.toNat d)).length<=A.length+l.length*B->next (((),(i+1,())),(out++g (l.getD i.toNat d),()))->body (((),(i,())),(out,())) next)
  (he:∀next,body (((),((l.length:Int),())),(A++l.flatMap g,())) next):bi body (((),(0,())),(A,())):=by
 refine aca (fun i=>A++(l.take i.toNat).flatMap g) (n:=l.length) (by omega) (by simp) ?_ ?_
 ·intro i next i0 i1 hn
  have hk:(l.take (i+1).toNat).flatMap g=(l.take i.toNat).flatMap g++g (l.getD i.toNat d):=by rw[mo l d i0 i1,List.flatMap_append];simp
  rw[hk,←a06]at hn;refine hs i _ next i0 i1 ?_ hn
  have h1:=@arx α β B g (l.take (i+1).toNat) fun x hx=>hB x (List.mem_of_mem_take hx);rw[hk,a0q]at h1;have h2:(l.take (i+1).toNat).length<=l.length:=by rw[a1c];omega
  have h3:=a1t B h2;rw[a0q];omega
 ·intro next
  rw[qw _ (a0r _)];exact he next
theorem bje{α:Type}{k:(Unit×Unit)×(List α×Unit)->Prop}{f:((Unit×Unit)×(List α×Unit)->Prop)->Prop}(r:List α)(hk:∀s,s.2.1=r->k s)(hf:∀k',(∀s:List α,s=r->k' (((),()),(s,())))->f k'):jd k f:=g8 (fun s=>s.2.1=r) hk fun k' h=>hf k' fun s hs=>h _ hs
theorem ayz{k v:T}{x y:k.den}{z:v.den}:∀{l:List (k.den×v.den)},pp k v (jh k v l x z) y=if eqR k y x=true then z else pp k v l y
 |[]=>by unfold pp;simp only[jh];rw[iv];split <;> rfl
 |e::r=>by
  have ih:=@ayz k v x y z r;unfold pp at ih⊢;simp only[jh];by_cases h:eqR k x e.1=true
  ·rw[d0 h,iv,iv];have e1:=fe.1 h;rw[←e1];split <;> rfl
  ·rw[ds h,iv,iv];by_cases h2:eqR k y e.1=true
   ·rw[d0 h2,d0 h2,ds]
    ·intro h3;rw[fe]at h2 h3;exact h (fe.2 (h3▸h2))
   ·rw[ds h2,ds h2];exact ih
theorem bh2{k v:T}{x:k.den}{z:v.den}{l:List (k.den×v.den)}:(jh k v l x z).length<=l.length+1:=(@an7 k v l x z l).1
theorem ax0{k v:T}{x:k.den}{z:v.den}:∀{l:List (k.den×v.den)},x∉l.map (·.1)->(jh k v l x z).length=l.length+1
 |[],_=>rfl
 |e::r,h=>by simp only[a1h,a0u,not_or]at h;simp only[jh];rw[ds (fun h1=>h.1 (fe.1 h1))];simp only[a0l,@ax0 k v x z r h.2]
end Go.Bm
