/- The typed machine that the walks of this claim go by: its data, its operations and the proof that each is sound. No condition. -/
import Derived.WalkKit
set_option linter.unusedVariables false
set_option linter.unusedSimpArgs false
set_option linter.unusedSectionVars false
/- The du machine:data with Lean types,trees of own memory,abstract values. -/
namespace Go.Bm
open Go.RowKit
abbrev a0g:=@cond_false
abbrev a2r:=@Bool.and_self
abbrev a0k:=@Bool.and_true
abbrev a3z:=@Nat.beq_refl
abbrev a0a:=@Bool.and_eq_true
abbrev a0t:=@beq_iff_eq
abbrev a0d:=@Option.some.injEq
abbrev a1w:=@Nat.zero_add
abbrev a0q:=@List.length_append
abbrev a2f:=@List.getElem_of_mem
abbrev a0o:=@List.getElem?_eq_getElem
abbrev a0u:=@List.mem_singleton
abbrev a04:=@List.mem_append
abbrev a1e:=@List.getElem?_take
abbrev a1c:=@List.getElem?_drop
abbrev a3k:=@Nat.add_assoc
abbrev a19:=@cell_of_row
abbrev a4k:=@List.take_left
abbrev a2a:=@List.ext_getElem?
abbrev a1b:=@List.getElem?_map
abbrev a2g:=@List.getElem?_range
abbrev a00:=@Option.map_some
abbrev a1p:=@List.getElem?_eq_none
abbrev a1z:=@Nat.mul_le_mul_right
abbrev a1q:=@Nat.add_mul
abbrev d0:=@if_pos
abbrev a07:=@List.append_assoc
abbrev a1g:=@List.getElem?_append_left
abbrev ds:=@if_neg
abbrev a1x:=@List.getElem?_append_right
abbrev a10:=@List.take_append_drop
abbrev a44:=@List.take_append_of_le_length
abbrev a30:=@List.drop_append_of_le_length
abbrev a29:=@List.take_of_length_le
abbrev a4l:=@List.drop_of_length_le
abbrev a1n:=@List.length_drop
abbrev a2s:=@List.nil_append
abbrev a47:=@Nat.add_sub_cancel_left
abbrev a1k:=@List.getElem?_eq_some_iff
abbrev a0j:=@Prod.mk.injEq
abbrev a14:=@Array.length_toList
abbrev a4m:=@List.drop_take
abbrev a3l:=@List.drop_drop
abbrev a1d:=@List.length_take
abbrev a0f:=@Nat.le_refl
abbrev a2k:=@List.append_nil
abbrev a0n:=@List.getD_eq_getElem?_getD
abbrev a1h:=@List.length_set
abbrev a0w:=@Ne.symm
abbrev a3m:=@List.getElem?_set
abbrev a01:=@if_true
abbrev a0v:=@Nat.eq_of_beq_eq_true
abbrev a48:=@Option.isSome_iff_exists
abbrev a08:=@Nat.le_trans
def nb:Nat:=140737488355328
def inK(k:IntKind)(n:Int):Prop:=k.min<=n/\n<=k.max
def ap{α:Type}:List α->List α->List α
 |[],b=>b
 |x::a,b=>x::ap a b
theorem ic{α:Type}(a b:List α):ap a b=a++b:=by
 induction a with
 |nil=>rfl
 |cons x a ih=>rw[ap,ih];rfl
def len{α:Type}:List α->Nat
 |[]=>0
 |_::r=>Nat.succ (len r)
theorem aol{α:Type}(a:List α):len a=a.length:=by
 induction a with
 |nil=>rfl
 |cons x a ih=>rw[len,ih];rfl
def m5{α:Type}:List α->Nat->Option α
 |[],_=>none
 |x::_,0=>some x
 |_::r,n+1=>m5 r n
theorem ab9{α:Type}(a:List α)(i:Nat):m5 a i=a[i]?:=by
 induction a generalizing i with
 |nil=>rfl
 |cons x a ih=>cases i with
  |zero=>rfl
  |succ i=>rw[m5,ih];rfl
def fk{α:Type}:Nat->List α->List α
 |0,_=>[]
 |_+1,[]=>[]
 |n+1,x::r=>x::fk n r
theorem anf{α:Type}(n:Nat)(a:List α):fk n a=a.take n:=by
 induction n generalizing a with
 |zero=>rfl
 |succ n ih=>cases a with
  |nil=>rfl
  |cons x a=>rw[fk,ih];rfl
def tj{α:Type}:Nat->List α->List α
 |0,a=>a
 |_+1,[]=>[]
 |n+1,_::r=>tj n r
theorem asj{α:Type}(n:Nat)(a:List α):tj n a=a.drop n:=by
 induction n generalizing a with
 |zero=>rfl
 |succ n ih=>cases a with
  |nil=>rfl
  |cons x a=>rw[tj,ih];rfl
def ac0{α:Type}(x:α):Nat->List α
 |0=>[]
 |n+1=>x::ac0 x n
def aos{α:Type}:List α->Nat->α->List α
 |[],_,_=>[]
 |_::r,0,y=>y::r
 |x::r,n+1,y=>x::aos r n y
def bbu{α:Type}(p:α->Bool):List α->Bool
 |[]=>true
 |x::r=>bif p x then bbu p r else false
def toL{α:Type}:Array α->List α
 |⟨l⟩=>l
def ake:Nat->Nat->Nat
 |0,b=>b
 |a+1,b=>Nat.succ (ake a b)
@[simp] theorem aqm (a b:Nat):ake a b=a+b:=by
 induction a with
 |zero=>simp[ake]
 |succ a ih=>rw[ake,ih];omega
def isZ:Nat->Bool
 |0=>true
 |_+1=>false
def bpj:Nat->Nat
 |0=>0
 |n+1=>n
def dz:Nat->Nat->Bool
 |0,b=>isZ b
 |a+1,b=>bif isZ b then false else dz a (bpj b)
@[simp] theorem fe (a b:Nat):dz a b=(a==b):=by
 induction a generalizing b with
 |zero=>cases b <;> rfl
 |succ a ih=>cases b with
  |zero=>rfl
  |succ b=>simp only[dz,isZ,bpj,a0g];rw[ih];simp
def nob(a b:Bool):Bool:=bif a then b else false
def neg(a:Bool):Bool:=bif a then false else true
def orb(a b:Bool):Bool:=bif a then true else b
def wm{α β:Type}(f:α->β):Option α->Option β
 |none=>none
 |some x=>some (f x)
def isN{α:Type}:Option α->Bool
 |none=>true
 |some _=>false
@[simp] theorem am (a b:Bool):nob a b=(a&&b):=by cases a <;> rfl
@[simp] theorem mi (a b:Bool):orb a b=(a||b):=by cases a <;> rfl
@[simp] theorem kh (a:Bool):neg a=!a:=by cases a <;> rfl
inductive T where
 |int (k:IntKind)
 |bool
 |str
 |u
 |p (a b:T)
 |sl (e:T)
 |pt (t:T)
 |fn (f:FuncId) (t:T)
 |ifc (i:TypeId) (t:T)
 |mp (k v:T)
 |op (t:T)
 |ns (t:T)
 |er (i:TypeId)
 |any
@[reducible] def T.den:T->Type
 |.int _=>Int
 |.bool=>Bool
 |.str=>ByteArray
 |.u=>Unit
 |.p a b=>a.den×b.den
 |.sl e=>List e.den
 |.pt t=>t.den
 |.fn _ t=>t.den
 |.ifc _ t=>t.den
 |.mp k v=>List (k.den×v.den)
 |.op t=>Option t.den
 |.ns t=>Option t.den
 |.er _=>Bool
 |.any=>Unit
def T.dflt:(t:T)->t.den
 |.int _=>(0:Int)
 |.bool=>false
 |.str=>ByteArray.empty
 |.u=>()
 |.p a b=>(a.dflt,b.dflt)
 |.sl _=>[]
 |.pt t=>t.dflt
 |.fn _ t=>t.dflt
 |.ifc _ t=>t.dflt
 |.mp _ _=>[]
 |.op _=>none
 |.ns _=>none
 |.er _=>false
 |.any=>()
def T.size:T->Nat
 |.u=>0
 |.p a b=>ake a.size b.size
 |.op t=>t.size
 |_=>1
def aad:IntKind->IntKind->Bool
 |.i8,.i8=>true
 |.i16,.i16=>true
 |.i32,.i32=>true
 |.i64,.i64=>true
 |.u8,.u8=>true
 |.u16,.u16=>true
 |.u32,.u32=>true
 |.u64,.u64=>true
 |_,_=>false
theorem we{a b:IntKind}(h:aad a b=true):a=b:=by cases a <;> cases b <;> first|rfl|(simp[aad]at h)
theorem aoz(a:IntKind):aad a a=true:=by cases a <;> rfl
def T.beq:T->T->Bool
 |.int k,.int k'=>aad k k'
 |.bool,.bool=>true
 |.str,.str=>true
 |.u,.u=>true
 |.p a b,.p a' b'=>nob (a.beq a') (b.beq b')
 |.sl e,.sl e'=>e.beq e'
 |.pt e,.pt e'=>e.beq e'
 |.fn f t,.fn f' t'=>nob (Nat.beq f f') (t.beq t')
 |.ifc f t,.ifc f' t'=>nob (Nat.beq f f') (t.beq t')
 |.mp k v,.mp k' v'=>nob (k.beq k') (v.beq v')
 |.op e,.op e'=>e.beq e'
 |.ns e,.ns e'=>e.beq e'
 |.er i,.er j=>Nat.beq i j
 |.any,.any=>true
 |_,_=>false
theorem T.beq_eq:{a b:T}->a.beq b=true->a=b
 |.int k,b,h=>by cases b <;> simp[T.beq]at h;rw[we h]
 |.bool,b,h=>by cases b <;> simp[T.beq]at h;rfl
 |.str,b,h=>by cases b <;> simp[T.beq]at h;rfl
 |.u,b,h=>by cases b <;> simp[T.beq]at h;rfl
 |.p a1 a2,b,h=>by cases b <;> simp[T.beq]at h;rw[T.beq_eq h.1,T.beq_eq h.2]
 |.sl e,b,h=>by cases b <;> simp[T.beq]at h;rw[T.beq_eq h]
 |.pt e,b,h=>by cases b <;> simp[T.beq]at h;rw[T.beq_eq h]
 |.fn f t,b,h=>by cases b <;> simp[T.beq]at h;rw[h.1,T.beq_eq h.2]
 |.ifc f t,b,h=>by cases b <;> simp[T.beq]at h;rw[h.1,T.beq_eq h.2]
 |.mp k v,b,h=>by cases b <;> simp[T.beq]at h;rw[T.beq_eq h.1,T.beq_eq h.2]
 |.op e,b,h=>by cases b <;> simp[T.beq]at h;rw[T.beq_eq h]
 |.ns e,b,h=>by cases b <;> simp[T.beq]at h;rw[T.beq_eq h]
 |.er i,b,h=>by cases b <;> simp[T.beq]at h;rw[h]
 |.any,b,h=>by cases b <;> simp[T.beq]at h;rfl
def od{a:T}(b:T)(x:a.den):Option b.den:=
 match h:a.beq b with
 |true=>some (T.beq_eq h▸x)
 |false=>none
theorem T.beq_refl:(a:T)->a.beq a=true
 |.int k=>aoz k
 |.bool=>rfl
 |.str=>rfl
 |.u=>rfl
 |.p a b=>by simp only[T.beq,T.beq_refl a,T.beq_refl b,am,a2r]
 |.sl e=>by simp only[T.beq];exact T.beq_refl e
 |.pt e=>by simp only[T.beq];exact T.beq_refl e
 |.fn f t=>by simp only[T.beq,T.beq_refl t,am,a0k];exact a3z f
 |.ifc f t=>by simp only[T.beq,T.beq_refl t,am,a0k];exact a3z f
 |.mp k v=>by simp only[T.beq,T.beq_refl k,T.beq_refl v,am,a2r]
 |.op e=>by simp only[T.beq,T.beq_refl e]
 |.ns e=>by simp only[T.beq,T.beq_refl e]
 |.er i=>by simp only[T.beq];exact a3z i
 |.any=>rfl
theorem xg{a:T}(x:a.den):od a x=some x:=by
 unfold od;split
 ·rfl
 ·rename_i h;rw[T.beq_refl a]at h;cases h
def T.dec:(t:T)->DecidableEq t.den
 |.int _=>fun a b=>decEq (α:=Int) a b
 |.bool=>fun a b=>decEq (α:=Bool) a b
 |.str=>fun a b=>decEq (α:=ByteArray) a b
 |.u=>fun _ _=>isTrue rfl
 |.p a b=>@instDecidableEqProd a.den b.den a.dec b.dec
 |.sl e=>@instDecidableEqList e.den e.dec
 |.pt t=>t.dec
 |.fn _ t=>t.dec
 |.ifc _ t=>t.dec
 |.mp k v=>@instDecidableEqList (k.den×v.den) (@instDecidableEqProd k.den v.den k.dec v.dec)
 |.op t=>@Option.instDecidableEq t.den t.dec
 |.ns t=>@Option.instDecidableEq t.den t.dec
 |.er _=>fun a b=>decEq (α:=Bool) a b
 |.any=>fun _ _=>isTrue rfl
def eqR(t:T)(a b:t.den):Bool:=@decide (a=b) (t.dec a b)
theorem dc{t:T}{a b:t.den}:eqR t a b=true<->a=b:=by simp[eqR]
@[simp] theorem aby {t:T} (a:t.den):eqR t a a=true:=dc.2 rfl
theorem vz{t:T}{a b:t.den}(h:a≠b):eqR t a b=false:=by
 cases h':eqR t a b with
 |false=>rfl
 |true=>exact absurd (dc.1 h') h
def s9(k v:T)(l:List (k.den×v.den))(x:k.den):Option v.den:=(l.find? fun e=>eqR k x e.1).map (·.2)
def aj5(k v:T)(l:List (k.den×v.den))(x:k.den):Bool:=(s9 k v l x).isSome
def rj(k v:T)(l:List (k.den×v.den))(x:k.den):v.den:=(s9 k v l x).getD v.dflt
def jq(k v:T):List (k.den×v.den)->k.den->v.den->List (k.den×v.den)
 |[],x,y=>[(x,y)]
 |e::r,x,y=>if eqR k x e.1=true then (x,y)::r else e::jq k v r x y
def T.intsN:T->Nat
 |.int _=>1
 |.p (.int _) b=>(match b.intsN with|0=>0|n+1=>Nat.succ (Nat.succ n))
 |_=>0
def T.ok:(t:T)->t.den->Prop
 |.int k,n=>inK k n
 |.str,s=>s.size<=nb
 |.p a b,x=>a.ok x.1/\b.ok x.2
 |.sl e,l=>l.length<=nb/\∀y∈l,e.ok y
 |.pt t,x=>t.ok x
 |.fn _ t,x=>t.ok x
 |.ifc _ t,x=>t.ok x
 |.mp k v,l=>l.length<=nb/\∀y∈l,k.ok y.1/\v.ok y.2
 |.op t,x=>∀y,x=some y->t.ok y
 |.ns t,x=>∀y,x=some y->t.ok y
 |.er _,_=>True
 |.bool,_=>True
 |.u,_=>True
 |.any,_=>True
inductive O where
 |fz (t:T)
 |p (a b:O)
 |sl (e:O)
 |pt (t:O)
 |mp (k v:T)
 |op (e:O)
@[reducible] def O.strip:O->T
 |.fz t=>t
 |.p a b=>.p a.strip b.strip
 |.sl e=>.sl e.strip
 |.pt t=>.pt t.strip
 |.mp k v=>.mp k v
 |.op e=>.op e.strip
def O.beq:O->O->Bool
 |.fz t,.fz t'=>t.beq t'
 |.p a b,.p a' b'=>nob (a.beq a') (b.beq b')
 |.sl e,.sl e'=>e.beq e'
 |.pt e,.pt e'=>e.beq e'
 |.mp k v,.mp k' v'=>nob (k.beq k') (v.beq v')
 |.op e,.op e'=>e.beq e'
 |_,_=>false
theorem O.beq_eq:{a b:O}->a.beq b=true->a=b
 |.fz t,b,h=>by cases b <;> simp[O.beq]at h;rw[T.beq_eq h]
 |.p a1 a2,b,h=>by cases b <;> simp[O.beq]at h;rw[O.beq_eq h.1,O.beq_eq h.2]
 |.sl e,b,h=>by cases b <;> simp[O.beq]at h;rw[O.beq_eq h]
 |.pt e,b,h=>by cases b <;> simp[O.beq]at h;rw[O.beq_eq h]
 |.mp k v,b,h=>by cases b <;> simp[O.beq]at h;rw[T.beq_eq h.1,T.beq_eq h.2]
 |.op e,b,h=>by cases b <;> simp[O.beq]at h;rw[O.beq_eq h]
theorem O.beq_refl:(o:O)->o.beq o=true
 |.fz t=>by simp only[O.beq];exact T.beq_refl t
 |.p a b=>by simp only[O.beq,O.beq_refl a,O.beq_refl b,am,a2r]
 |.sl e=>by simp only[O.beq];exact O.beq_refl e
 |.pt e=>by simp only[O.beq];exact O.beq_refl e
 |.mp k v=>by simp only[O.beq,T.beq_refl k,T.beq_refl v,am,a2r]
 |.op e=>by simp only[O.beq];exact O.beq_refl e
def O.wk:O->O->Bool
 |.p a b,.p a' b'=>nob (a.wk a') (b.wk b')
 |.sl e,.sl e'=>e.wk e'
 |.pt e,.pt e'=>e.wk e'
 |.mp k v,.mp k' v'=>nob (k.beq k') (v.beq v')
 |.op e,.op e'=>e.beq e'
 |o,.fz t=>o.strip.beq t
 |.fz (.p a b),.p a' b'=>nob (O.wk (.fz a) a') (O.wk (.fz b) b')
 |_,_=>false
structure Ob where
 o:O
 x:o.strip.den
def ri(q:Ob)(o:O):Option o.strip.den:=
 match h:q.o.beq o with
 |true=>some (O.beq_eq h▸q.x)
 |false=>none
def mkP(a b:Ob):Ob:=
 match a,b with
 |⟨.fz s,x⟩,⟨.fz t,y⟩=>⟨.fz (.p s t),(x,y)⟩
 |⟨o,x⟩,⟨o',y⟩=>⟨.p o o',(x,y)⟩
def T.deep:T->O
 |.p a b=>(match a.deep,b.deep with
  |.fz s,.fz t=>.fz (.p s t)
  |o,o'=>.p o o')
 |.sl e=>.sl e.deep
 |.mp k v=>.mp k v
 |t=>.fz t
theorem T.deep_strip:(t:T)->t.deep.strip=t
 |.p a b=>by
  have h1:=T.deep_strip a;have h2:=T.deep_strip b;simp only[T.deep];split
  ·rename_i h h';rw[h]at h1;rw[h']at h2;simp only[O.strip]at h1 h2⊢;rw[h1,h2]
  ·simp only[O.strip,h1,h2]
 |.sl e=>by simp only[T.deep,O.strip,T.deep_strip e]
 |.int _=>rfl
 |.bool=>rfl
 |.str=>rfl
 |.u=>rfl
 |.pt _=>rfl
 |.fn _ _=>rfl
 |.ifc _ _=>rfl
 |.mp _ _=>rfl
 |.op _=>rfl
 |.ns _=>rfl
 |.er _=>rfl
 |.any=>rfl
def O.dflt:(o:O)->o.strip.den
 |.fz t=>t.dflt
 |.p a b=>(a.dflt,b.dflt)
 |.sl _=>[]
 |.pt t=>t.dflt
 |.mp _ _=>[]
 |.op _=>none
inductive Step where
 |l
 |r
 |de
 |ix (i:Nat)
abbrev bq:=List Step
def get:bq->(o:O)->o.strip.den->Option Ob
 |[],o,x=>some ⟨o,x⟩
 |.l::π,.p a _,x=>get π a x.1
 |.r::π,.p _ b,x=>get π b x.2
 |.l::π,.fz (.p a _),x=>get π (.fz a) x.1
 |.r::π,.fz (.p _ b),x=>get π (.fz b) x.2
 |.ix i::π,.sl e,x=>get π e (x.getD i e.dflt)
 |.de::π,.pt t,x=>get π t x
 |_,_,_=>none
def set:bq->(o:O)->o.strip.den->Ob->Option Ob
 |[],_,_,n=>some n
 |.l::π,.p a b,x,n=>(match set π a x.1 n with|some q=>some (mkP q ⟨b,x.2⟩)|none=>none)
 |.r::π,.p a b,x,n=>(match set π b x.2 n with|some q=>some (mkP ⟨a,x.1⟩ q)|none=>none)
 |.l::π,.fz (.p a b),x,n=>(match set π (.fz a) x.1 n with|some q=>some (mkP q ⟨.fz b,x.2⟩)|none=>none)
 |.r::π,.fz (.p a b),x,n=>(match set π (.fz b) x.2 n with|some q=>some (mkP ⟨.fz a,x.1⟩ q)|none=>none)
 |.ix i::π,.sl e,x,n=>(match set π e (x.getD i e.dflt) n with
  |some q=>(match ri q e with|some y=>some ⟨.sl e,x.set i y⟩|none=>none)
  |none=>none)
 |.de::π,.pt t,x,n=>(match set π t x n with|some q=>some ⟨.pt q.o,q.x⟩|none=>none)
 |_,_,_,_=>none
def ahf:bq->Bool
 |[]=>false
 |.ix _::_=>true
 |_::π=>ahf π
inductive V where
 |any
 |nl
 |np
 |u
 |d (t:T) (x:t.den)
 |ref (k:Nat) (π:bq)
 |ad (k:Nat) (π:bq)
 |p (a b:V)
 |ag (v:V)
 |tup (v:V)
 |gd (j:Nat) (w:Bool) (P:Prop) (v:V)
 |fn (f:FuncId) (v:V)
 |ifc (t:TypeId) (v:V)
 |bx (v:V)
abbrev Env:=List (Nat×V)
abbrev Mem:=List (Nat×Ob)
def gt:Env->Nat->V
 |[],_=>.any
 |(k,v)::r,t=>bif Nat.beq k t then v else gt r t
def go:Mem->Nat->Option Ob
 |[],_=>none
 |(k,v)::r,t=>bif Nat.beq k t then some v else go r t
def del(k:Nat):Mem->Mem
 |[]=>[]
 |(j,o)::r=>bif Nat.beq j k then del k r else (j,o)::del k r
def put(k:Nat)(o:Ob):Mem->Mem
 |[]=>[]
 |(j,x)::r=>bif Nat.beq j k then (k,o)::r else (j,x)::put k o r
def my(M:Mem)(k:Nat)(π:bq):Option Ob:=
 match go M k with
 |some ob=>get π ob.o ob.x
 |none=>none
def kg:(t:T)->t.den->V
 |.p a b,x=>.p (kg a x.1) (kg b x.2)
 |.u,_=>.u
 |t,x=>.d t x
def toV(k:Nat):bq->(o:O)->o.strip.den->V
 |_,.fz t,x=>kg t x
 |π,.pt _,_=>.ad k (ap π [.de])
 |π,_,_=>.ref k π
def peq:bq->bq->Bool
 |[],[]=>true
 |.l::a,.l::b=>peq a b
 |.r::a,.r::b=>peq a b
 |.de::a,.de::b=>peq a b
 |_,_=>false
def gu:bq->O->Option Nat
 |[],_=>some 0
 |.l::π,.p a _=>gu π a
 |.r::π,.p a b=>(match gu π b with|some n=>some (ake a.strip.size n)|none=>none)
 |.l::π,.fz (.p a _)=>gu π (.fz a)
 |.r::π,.fz (.p a b)=>(match gu π (.fz b)with|some n=>some (ake a.size n)|none=>none)
 |_,_=>none
def qu:bq->O->Option Nat
 |.de::π,.pt o=>gu π o
 |_,_=>none
def y7:Option Nat->Option Nat->Bool
 |some a,some b=>dz a b
 |_,_=>false
def w8:bq->Bool
 |[]=>true
 |_=>false
def O.hole:O->T
 |.fz t=>t
 |.p a b=>.p a.hole b.hole
 |.sl _=>.any
 |.pt _=>.any
 |.mp _ _=>.any
 |.op e=>.op e.strip
def O.holeX:(o:O)->o.strip.den->o.hole.den
 |.fz _,x=>x
 |.p a b,x=>(a.holeX x.1,b.holeX x.2)
 |.sl _,_=>()
 |.pt _,_=>()
 |.mp _ _,_=>()
 |.op _,_=>none
def trk:bq->O->Option (List Nat)
 |[],_=>some []
 |.l::π,.p a _=>(match trk π a with|some l=>some (0::a.strip.size::l)|none=>none)
 |.r::π,.p a b=>(match trk π b with|some l=>some (1::a.strip.size::l)|none=>none)
 |.de::π,.pt t=>(match trk π t with|some l=>some (2::t.strip.size::l)|none=>none)
 |_,_=>none
def bay:List Nat->List Nat->Bool
 |[],[]=>true
 |a::l,b::r=>nob (dz a b) (bay l r)
 |_,_=>false
theorem bbe:∀{a b:List Nat},bay a b=true->a=b
 |[],[],_=>rfl
 |a::l,b::r,h=>by simp only[bay,am,a0a,fe,a0t]at h;rw[h.1,bbe h.2]
 |[],_::_,h=>by cases h
 |_::_,[],h=>by cases h
def bap:Option (List Nat)->Option (List Nat)->Bool
 |some a,some b=>bay a b
 |_,_=>false
inductive Ev where
 |mv (r k:Nat)
 |kl (k:Nat)
 |cut (k:Nat) (o o':O)
 |fz (k:Nat) (ob:Ob)
 |un (k j:Nat)
 |tk (k:Nat) (o o':O)
def Ev.ref(k:Nat)(π:bq):Ev->V
 |.mv r k'=>bif Nat.beq k r then .ref k' π else .ref k π
 |.kl r=>bif Nat.beq k r then .any else .ref k π
 |.cut r _ _=>bif Nat.beq k r then (bif w8 π then .ref k π else .any)else .ref k π
 |.fz r ob=>bif Nat.beq k r then (match get π ob.o ob.x with|some q=>kg q.o.strip q.x|none=>.any)else .ref k π
 |.un r _=>bif Nat.beq k r then .any else .ref k π
 |.tk r o o'=>bif Nat.beq k r then (bif orb (w8 π) (bap (trk π o) (trk π o'))then .ref k π else .any)else .ref k π
def Ev.ad(k:Nat)(π:bq):Ev->V
 |.mv r k'=>bif Nat.beq k r then .ad k' π else .ad k π
 |.kl r=>bif Nat.beq k r then .any else .ad k π
 |.cut r o o'=>bif Nat.beq k r then (bif y7 (qu π o) (qu π o')then .ad k π else .any)else .ad k π
 |.fz r ob=>bif Nat.beq k r then (match get π ob.o ob.x with|some q=>.d (.pt q.o.strip) q.x|none=>.any)else .ad k π
 |.un r j=>bif Nat.beq k r then (match π with|[.de]=>.bx (.ad j [.de])|_=>.any)else .ad k π
 |.tk r o o'=>bif Nat.beq k r then (bif y7 (qu π o) (qu π o')then .ad k π else .any)else .ad k π
def V.ev(e:Ev):V->V
 |.ref k π=>e.ref k π
 |.ad k π=>e.ad k π
 |.p a b=>.p (a.ev e) (b.ev e)
 |.ag v=>.ag (v.ev e)
 |.tup v=>.tup (v.ev e)
 |.gd j w P v=>.gd j w P (v.ev e)
 |.fn f v=>.fn f (v.ev e)
 |.ifc t v=>.ifc t (v.ev e)
 |.bx v=>.bx (v.ev e)
 |v=>v
def V.evs(v:V):List Ev->V
 |[]=>v
 |e::r=>(v.ev e).evs r
def evE(e:Ev):Env->Env
 |[]=>[]
 |(t,v)::r=>(t,v.ev e)::evE e r
def rp(env:Env):List Ev->Env
 |[]=>env
 |e::r=>rp (evE e env) r
end Go.Bm
/- The du machine:what the operations give. -/
namespace Go.Bm
open Go.RowKit
structure Ty where
 ok:Bool
 agg:Bool
 bl:Bool
 st:Bool
 sz:Bool
 size:Nat
 bytes:Nat
 el:Option TypeId
 int:Option IntKind
 mp:Option (TypeId×TypeId)
 fld:List (Nat×TypeId×Nat)
 arr:Option (TypeId×Nat)
 ifc:Bool
def nw(P:Program)(i:TypeInfo)(u:TypeDesc):Ty:={
 ok:=true
 agg:=(match u with|.struct _=>true|.array _ _=>true|_=>false)
 bl:=(match u with|.bool=>true|_=>false)
 st:=(match u with|.string=>true|_=>false)
 sz:=(match u with|.struct fs=>fs.toList.all fun f=>(P.info? f.type).isSome|_=>false)
 size:=i.size
 bytes:=i.bytes
 el:=(match u with|.slice e=>some e|_=>none)
 int:=(match u with|.int k=>some k|_=>none)
 mp:=(match u with|.map k e=>(match P.info? e with|some ie=>(match ie.zero with|some (.agg _)=>none|some _=>some (k,e)|none=>none)|none=>none)|_=>none)
 fld:=(match u with|.struct fs=>fs.toList.map fun f=>(f.offset,f.type,P.cellsOf f.type)|_=>[])
 arr:=(match u with|.array n e=>some (e,n)|_=>none)
 ifc:=(match u with|.interface _=>true|_=>false) }
def bhx:Ty:=⟨false,false,false,false,false,0,0,none,none,none,[],none,false⟩
def ty(P:Program)(t:TypeId):Ty:=
 match P.info? t,P.underlying t with
 |some i,some u=>nw P i u
 |_,_=>bhx
def tyZ(P:Program)(t:TypeId):Option (List Value):=
 match P.info? t with
 |some i=>(match i.zero with|some z=>some z.cells.toList|none=>none)
 |none=>none
structure Mth where
 t:TypeId
 i:TypeId
 name:String
 f:FuncId
structure Tab where
 τ:TypeId->Ty
 σ:TypeId->T
 z:TypeId->Bool
 q:TypeId->Nat
 m:List Mth
def bcl:List Mth->TypeId->TypeId->Bool
 |[],_,_=>false
 |e::r,t,i=>orb (nob (Nat.beq e.t t) (Nat.beq e.i i)) (bcl r t i)
def av1:List Mth->TypeId->String->Option FuncId
 |[],_,_=>none
 |e::r,t,n=>bif nob (Nat.beq e.t t) (e.name==n)then some e.f else av1 r t n
def ahb:Nat->Nat->bq
 |0,_=>[]
 |1,_=>[]
 |_+2,0=>[.l]
 |n+2,i+1=>.r::ahb (Nat.succ n) i
def cg:bq->T->Option Nat
 |[],_=>some 0
 |.l::π,.p a _=>cg π a
 |.r::π,.p a b=>(match cg π b with|some n=>some (ake a.size n)|none=>none)
 |_,_=>none
def as7:bq->(t:T)->t.den->Option ((t:T)×t.den)
 |[],t,x=>some ⟨t,x⟩
 |.l::π,.p a _,x=>as7 π a x.1
 |.r::π,.p _ b,x=>as7 π b x.2
 |_,_,_=>none
structure Rs where
 vc:List Prop
 av:V
 ev:List Ev
 M:Mem
def b8(M:Mem):Rs:=⟨[False],.any,[],M⟩
def cq(q:List Prop×V)(M:Mem):Rs:=⟨q.1,q.2,[],M⟩
def bad:List Prop×V:=([False],.any)
def ci(v:V):List Prop×V:=([],v)
def bg:List Bool->Bool
 |[]=>true
 |b::r=>bif b then bg r else false
def inKb(k:IntKind)(n:Int):Bool:=bg [decide (k.min<=n),decide (n<=k.max)]
def rdV:Value->V
 |.int k n=>.d (.int k) n
 |.bool b=>.d .bool b
 |.string s=>.d .str s
 |.slice none n m=>bif nob (Nat.beq n 0) (Nat.beq m 0)then .nl else .any
 |.pointer none=>.np
 |.nilIface=>.d (.er 0) false
 |_=>.any
def rd(env:Env):Operand->V
 |.tmp t=>gt env t
 |.const v=>rdV v
 |.func f=>.fn f .u
 |.global _=>.any
def bi0:Value->Bool
 |.int k n=>inKb k n
 |.string s=>Nat.ble s.size nb
 |_=>true
def aao:Operand->Bool
 |.const v=>bi0 v
 |_=>true
def V.boolV:V->Bool
 |.d .bool b=>b
 |_=>false
def V.isB:V->Bool
 |.d .bool _=>true
 |_=>false
def V.strip:V->V
 |.gd _ _ _ v=>v
 |v=>v
def ar(k:IntKind)(n:Int):List Prop×V:=
 match k with
 |.i64=>([inK .i64 n],.d (.int .i64) n)
 |k=>([],.d (.int k) (k.wrap n))
def bmr(k:IntKind)(a b:Int):Int:=k.wrap ((BitVec.ofInt k.bits a &&& BitVec.ofInt k.bits b).toNat:Nat)
def bhd(k:IntKind)(a b:Int):Int:=a.fdiv (2 ^ (min b.toNat k.bits))
def aat(op:BinOp)(k:IntKind)(a b:Int):List Prop×V:=
 match op with
 |.and=>ci (.d (.int k) (bmr k a b))
 |.shr=>([0<=b,inK k (bhd k a b)],.d (.int k) (bhd k a b))
 |.add=>ar k (a+b)
 |.sub=>ar k (a-b)
 |.mul=>ar k (a*b)
 |.quo=>(match ar k (a.tdiv b)with|(l,v)=>((b≠0)::l,v))
 |.rem=>([b≠0,inK k (a.tmod b)],.d (.int k) (a.tmod b))
 |.eql=>ci (.d .bool (a==b))
 |.neq=>ci (.d .bool (a != b))
 |.lss=>ci (.d .bool (decide (a<b)))
 |.leq=>ci (.d .bool (decide (a<=b)))
 |.gtr=>ci (.d .bool (decide (b<a)))
 |.geq=>ci (.d .bool (decide (b<=a)))
 |_=>bad
def mxR(a b:Int):Int:=if b>a then b else a
def mnR(a b:Int):Int:=if b<a then b else a
def bbg(g:Bool)(x y:V):List Prop×V:=
 match x,y with
 |.d (.int k) a,.d (.int k') b=>bif aad k k' then ci (.d (.int k) (bif g then mxR a b else mnR a b))else bad
 |_,_=>bad
def afa(op:BinOp)(a b:ByteArray):List Prop×V:=
 match op with
 |.add=>([a.size+b.size<=nb],.d .str (a++b))
 |.eql=>ci (.d .bool (a.toList==b.toList))
 |.neq=>ci (.d .bool (!(a.toList==b.toList)))
 |.lss=>ci (.d .bool (Op.bytesLess a.toList b.toList))
 |.leq=>ci (.d .bool (Op.bytesLess a.toList b.toList||a.toList==b.toList))
 |.gtr=>ci (.d .bool (!(Op.bytesLess a.toList b.toList||a.toList==b.toList)))
 |.geq=>ci (.d .bool (!(Op.bytesLess a.toList b.toList)))
 |_=>bad
def bah(τ:Ty)(op:BinOp)(x y:V):List Prop×V:=
 match x,y with
 |.d (.int k) a,.d (.int k') b=>bif aad k k' then aat op k a b else bad
 |.d .bool a,.d .bool b=>bif bg [τ.ok,τ.bl]then (match op with
  |.eql=>ci (.d .bool (a==b))
  |.neq=>ci (.d .bool (a != b))
  |_=>bad)else bad
 |.d .str a,.d .str b=>afa op a b
 |_,_=>bad
def x4:Nat->V->V->Option Bool
 |1,.d (.int k) x,.d (.int k') y=>bif aad k k' then some (x==y)else none
 |Nat.succ (Nat.succ n),.p (.d (.int k) x) a,.p (.d (.int k') y) b=>(match x4 (Nat.succ n) a b with
  |some r=>bif aad k k' then some ((x==y)&&r)else none
  |none=>none)
 |_,_,_=>none
def bp0(n:Nat)(op:BinOp)(a b:V):List Prop×V:=
 match op,x4 n a b with
 |.eql,some r=>ci (.d .bool r)
 |.neq,some r=>ci (.d .bool (!r))
 |_,_=>bad
def av3(B:Tab)(t:TypeId)(op:BinOp)(x y:V):List Prop×V:=
 match x,y with
 |.ag a,.ag b=>bp0 (B.q t) op a b
 |x,y=>bah (B.τ t) op x y
def bj3:Operand->Bool
 |.const .nilIface=>true
 |_=>false
def bcu:Operand->Bool
 |.const (.slice none n m)=>nob (Nat.beq n 0) (Nat.beq m 0)
 |_=>false
def am0{α:Type}:Option (List α)->Bool
 |none=>true
 |some l=>!l.isEmpty
def awh(B:Tab)(t:TypeId)(op:BinOp)(z zi:Bool)(x y:V):List Prop×V:=
 match z,x,op with
 |true,.d (.ns (.sl _)) l,.eql=>bif bg [(B.τ t).ok,neg (isN (B.τ t).el)]then ([am0 l=true],.d .bool l.isNone)else bad
 |true,.d (.ns (.sl _)) l,.neq=>bif bg [(B.τ t).ok,neg (isN (B.τ t).el)]then ([am0 l=true],.d .bool l.isSome)else bad
 |_,.d (.er _) b,.eql=>bif bg [zi,(B.τ t).ok,(B.τ t).ifc]then ci (.d .bool (!b))else bad
 |_,.d (.er _) b,.neq=>bif bg [zi,(B.τ t).ok,(B.τ t).ifc]then ci (.d .bool b)else bad
 |_,_,_=>av3 B t op x y
def bil(op:UnOp)(x:V):List Prop×V:=
 match op,x with
 |.not,.d .bool b=>ci (.d .bool (!b))
 |.neg,.d (.int k) n=>ar k (0-n)
 |_,_=>bad
def av7(τ σ:Ty)(x:V):List Prop×V:=
 match x,τ.int,σ.int with
 |.d (.int k) n,some k1,some k'=>bif bg [τ.ok,σ.ok,aad k1 k]then (bif aad k k' then ci (.d (.int k) n)else ci (.d (.int k') (k'.wrap n)))else bad
 |_,_,_=>bad
def aii(l:List Int):ByteArray:=⟨(l.map fun n=>UInt8.ofNat n.toNat).toArray⟩
def ayc(M:Mem):V->Option (List Int)
 |.ref k π=>(match my M k π with|some ⟨.sl (.fz (.int .u8)),l⟩=>some l|_=>none)
 |_=>none
def bm8:Option IntKind->Bool
 |some .u8=>true
 |_=>false
def ae5(B:Tab)(s d:TypeId)(M:Mem)(x:V):List Prop×V:=
 match (B.τ s).el,ayc M x with
 |some e,some l=>bif bg [(B.τ s).ok,(B.τ d).ok,(B.τ d).st,(B.τ e).ok,bm8 (B.τ e).int]then ci (.d .str (aii l))else bad
 |_,_=>av7 (B.τ s) (B.τ d) x
def nth:V->Nat->Option V
 |.p a _,0=>some a
 |.p _ b,i+1=>nth b i
 |_,_=>none
def aq0(x:V)(i:Nat):List Prop×V:=
 match x with
 |.tup v=>(match nth v i with|some y=>ci y|none=>bad)
 |_=>bad
def baj(x:V):List Prop×V:=
 match x with
 |.d (.pt t) y=>ci (.d (.pt t) y)
 |.ad k π=>ci (.ad k π)
 |.bx v=>ci (.bx v)
 |_=>bad
def bmt:Option Nat->Option Nat->Option Nat
 |some a,some b=>some (ake a b)
 |_,_=>none
def V.size(M:Mem):V->Option Nat
 |.p a b=>bmt (a.size M) (b.size M)
 |.u=>some 0
 |.ref k π=>(match my M k π with|some q=>some q.o.strip.size|none=>none)
 |.d t _=>some t.size
 |.ad _ _=>some 1
 |.nl=>some 1
 |.np=>some 1
 |.fn _ _=>some 1
 |.ifc _ _=>some 1
 |.bx _=>some 1
 |_=>none
def jx(M:Mem)(v:V)(n:Nat):Bool:=match v.size M with|some m=>dz m n|none=>false
def gv(M:Mem):bq->V->Option (Nat×V)
 |[],v=>some (0,v)
 |.l::π,.p a _=>gv M π a
 |.r::π,.p a b=>(match a.size M,gv M π b with|some m,some (n,v)=>some (ake m n,v)|_,_=>none)
 |π,.ref k ρ=>(match my M k ρ,my M k (ap ρ π)with
  |some q,some q'=>(match cg π q.o.strip with|some n=>some (n,toV k (ap ρ π) q'.o q'.x)|none=>none)
  |_,_=>none)
 |_,_=>none
def ams(M:Mem)(x:V)(π:bq)(off:Nat):List Prop×V:=
 match x with
 |.d (.pt t) y=>(match cg π t,as7 π t y with
  |some n,some q=>bif dz n off then ci (.d (.pt q.1) q.2)else bad
  |_,_=>bad)
 |.ad k ρ=>(match my M k ρ with
  |some q=>(match cg π q.o.strip with
   |some n=>bif dz n off then ci (.ad k (ap ρ π))else bad
   |none=>bad)
  |none=>bad)
 |.bx v=>(match gv M π v with
  |some q=>bif dz q.1 off then ci (.bx q.2)else bad
  |none=>bad)
 |_=>bad
def aiw(τ:Ty)(M:Mem)(x:V)(i:Nat):List Prop×V:=
 match m5 τ.fld i with
 |some (off,_,fsz)=>bif bg [τ.ok,neg (Nat.beq fsz 0)]then ams M x (ahb (len τ.fld) i) off else bad
 |none=>bad
def xd(agg:Bool)(v:V):V:=bif agg then .ag v else v
def amp(B:Tab)(τ:Ty)(M:Mem)(x:V)(i:Nat):List Prop×V:=
 match m5 τ.fld i,x with
 |some (off,ft,_),.ag v=>
  (match gv M (ahb (len τ.fld) i) v with
  |some (n,w)=>bif bg [τ.ok,(B.τ ft).ok,dz n off,jx M w (B.τ ft).size,orb (B.τ ft).agg (dz (B.τ ft).size 1)]then ci (xd (B.τ ft).agg w)else bad
  |none=>bad)
 |_,_=>bad
def amr(B:Tab)(τ:Ty)(M:Mem)(x i:V):List Prop×V:=
 match τ.el,i with
 |some e,.d (.int _) n=>
  (match x with
  |.d (.sl t) l=>bif bg [τ.ok,(B.τ e).ok,dz t.size (B.τ e).size]then ([0<=n,n<l.length],.d (.pt t) (l.getD n.toNat t.dflt))else bad
  |.ref k π=>(match my M k π with
   |some ⟨.sl o,l⟩=>bif bg [τ.ok,(B.τ e).ok,dz o.strip.size (B.τ e).size]then ([0<=n,n<l.length],.ad k (ap π [.ix n.toNat]))else bad
   |some ⟨.fz (.sl t),l⟩=>bif bg [τ.ok,(B.τ e).ok,dz t.size (B.τ e).size]then ([0<=n,n<l.length],.d (.pt t) (l.getD n.toNat t.dflt))else bad
   |_=>bad)
  |_=>bad)
 |_,_=>bad
def bhk(B:Tab)(τ:Ty)(e:TypeId)(n:Nat)(M:Mem)(x i:V):List Prop×V:=
 match i with
 |.d (.int _) m=>bif bg [τ.ok,(B.τ e).ok]then (match ams M x (ahb n m.toNat) (Nat.mul m.toNat (B.τ e).size)with
  |(l,v)=>(((0:Int)<=m)::(m<(n:Int))::l,v))else bad
 |_=>bad
def al8(B:Tab)(τ:Ty)(M:Mem)(x i:V):List Prop×V:=
 match τ.arr with
 |some (e,n)=>bhk B τ e n M x i
 |none=>amr B τ M x i
def bhb(τ:Ty)(x i:V):List Prop×V:=
 match x,i with
 |.d .str s,.d (.int _) n=>bif bg [τ.ok,τ.st]then ([0<=n,n<s.size],.d (.int .u8) ((s.data.toList.getD n.toNat 0).toNat))else bad
 |_,_=>bad
def x8(τ:Ty)(M:Mem)(x:V):List Prop×V:=
 match x with
 |.d (.pt t) y=>bif bg [τ.ok,dz t.size τ.size,orb τ.agg (dz t.size 1)]then ci (xd τ.agg (kg t y))else bad
 |.ad k π=>(match my M k π with
  |some q=>bif bg [τ.ok,dz q.o.strip.size τ.size,orb τ.agg (dz q.o.strip.size 1)]then ci (xd τ.agg (toV k π q.o q.x))else bad
  |none=>bad)
 |.bx v=>bif bg [τ.ok,jx M v τ.size,orb τ.agg (dz τ.size 1)]then ci (xd τ.agg v)else bad
 |_=>bad
def ab1{α:Type}(l:List α):List (Option α):=l.map some
def bi6{α:Type}(l:List α)(i:Nat):List (Option α):=(l.map some).set i none
def bl5{α:Type}(l:List (Option α))(i:Nat):Bool:=(l.getD i none).isSome
def alb{α:Type}(z:α)(l:List (Option α))(i:Nat):α:=(l.getD i none).getD z
def bh8{α:Type}(l:List (Option α)):Bool:=l.all Option.isSome
def asb{α:Type}(z:α)(l:List (Option α)):List α:=l.map fun x=>x.getD z
def gid:Nat:=1000000
def abx(τ:Ty)(M:Mem)(d:Option Nat)(x:V):Option Rs:=
 match x,d with
 |.ad k [.ix i],some d=>(match go M k with
  |some ⟨.sl (.op (.sl o)),l⟩=>some (bif bg [τ.ok,dz τ.size 1,neg τ.agg,neg (Nat.beq d k),Nat.ble (Nat.succ k) gid]then
    ⟨[bl5 l i=true],.ref d [],[.cut k (.sl (.op (.sl o))) (.sl (.op (.sl o))),.kl d],(d,⟨.sl o,alb [] l i⟩)::del d (put k ⟨.sl (.op (.sl o)),l.set i none⟩ M)⟩else b8 M)
  |_=>none)
 |_,_=>none
def tz(τ:Ty)(M:Mem)(d:Option Nat)(x:V):Rs:=
 match abx τ M d x with
 |some r=>r
 |none=>cq (x8 τ M x) M
def aml(τ:Ty)(M:Mem)(x:V):List Prop×V:=
 match x with
 |.d .str s=>bif bg [τ.ok,τ.st]then ci (.d (.int .i64) s.size)else bad
 |.d (.sl _) l=>bif bg [τ.ok,neg (isN τ.el)]then ci (.d (.int .i64) l.length)else bad
 |.d (.mp _ _) l=>bif bg [τ.ok,neg (isN τ.mp)]then ci (.d (.int .i64) l.length)else bad
 |.d (.ns (.sl _)) l=>bif bg [τ.ok,neg (isN τ.el)]then ci (.d (.int .i64) (l.getD []).length)else bad
 |.nl=>bif bg [τ.ok,neg (isN τ.el)]then ci (.d (.int .i64) (0:Int))else bad
 |.ref k π=>(match my M k π with
  |some ⟨.sl _,l⟩=>bif bg [τ.ok,neg (isN τ.el)]then ci (.d (.int .i64) l.length)else bad
  |some ⟨.fz (.sl _),l⟩=>bif bg [τ.ok,neg (isN τ.el)]then ci (.d (.int .i64) l.length)else bad
  |some ⟨.mp _ _,l⟩=>bif bg [τ.ok,neg (isN τ.mp)]then ci (.d (.int .i64) l.length)else bad
  |_=>bad)
 |_=>bad
def bbs(B:Tab)(τ:Ty)(x:V)(lo hi:Option V):List Prop×V:=
 match x,τ.el with
 |.d (.sl t) l,some e=>bif bg [τ.ok,(B.τ e).ok,dz t.size (B.τ e).size]then
   (match lo,hi with
   |none,none=>ci (.d (.sl t) l)
   |some (.d (.int _) a),none=>([0<=a,a<=l.length],.d (.sl t) (l.drop a.toNat))
   |none,some (.d (.int _) b)=>([0<=b,b<=l.length],.d (.sl t) (l.take b.toNat))
   |some (.d (.int _) a),some (.d (.int _) b)=>([0<=a,a<=b,b<=l.length],.d (.sl t) ((l.take b.toNat).drop a.toNat))
   |_,_=>bad)else bad
 |_,_=>bad
def ca(M:Mem):V->List Ev×Mem
 |.ref k _=>(match go M k with|some ob=>([.fz k ob],del k M)|none=>([],M))
 |.ad k _=>(match go M k with|some ob=>([.fz k ob],del k M)|none=>([],M))
 |.p a b=>(match ca M a with|(e,M')=>(match ca M' b with|(e',M'')=>(ap e e',M'')))
 |.ag v=>ca M v
 |.fn _ v=>ca M v
 |.ifc _ v=>ca M v
 |.bx v=>ca M v
 |.tup v=>ca M v
 |.gd _ _ _ v=>ca M v
 |_=>([],M)
def o9{α β:Type}(l:List (α×Option (List β))):List (α×List β):=l.map fun x=>(x.1,x.2.getD [])
def boy(s:T)(x:s.den)(t:T):Option t.den:=
 match s,x,t with
 |.ns (.sl a),x,.sl b=>od (.sl b) (a:=.sl a) (x.getD [])
 |.sl (.ns (.sl a)),x,.sl (.sl b)=>od (.sl (.sl b)) (a:=.sl (.sl a)) (asb [] x)
 |.sl (.p c (.ns (.sl a))),x,.sl (.p d (.sl b))=>od (.sl (.p d (.sl b))) (a:=.sl (.p c (.sl a))) (o9 x)
 |.sl a,x,.ns (.sl b)=>(match od (.sl b) (a:=.sl a) x with|some y=>some (some y)|none=>none)
 |.er i,x,.er j=>bif Nat.beq i j then some x else (match x with|false=>some false|true=>none)
 |_,x,t=>od t x
def coD:(s:T)->(x:s.den)->(t:T)->Option t.den
 |.p a b,x,.p c d=>(match coD a x.1 c,coD b x.2 d with|some y,some z=>some (y,z)|_,_=>none)
 |.pt a,x,.pt b=>coD a x b
 |s,x,t=>boy s x t
def asD(s:T)(x:s.den)(t:T):Option t.den:=
 match od t x with
 |some y=>some y
 |none=>coD s x t
def V.as:V->(t:T)->Option t.den
 |.d s x,t=>asD s x t
 |.nl,.sl _=>some []
 |.u,.u=>some ()
 |.p a b,.p t s=>(match a.as t,b.as s with|some x,some y=>some (x,y)|_,_=>none)
 |.fn f v,.fn f' t=>bif Nat.beq f f' then v.as t else none
 |.ifc f v,.ifc f' t=>bif Nat.beq f f' then v.as t else none
 |.bx v,.pt t=>v.as t
 |.np,.any=>some ()
 |_,_=>none
def apl(M:Mem)(k:Nat)(π:bq)(t:T):Option t.den:=match my M k π with|some q=>asD q.o.strip q.x t|none=>none
def V.view(M:Mem):V->(t:T)->Option t.den
 |.d s x,t=>asD s x t
 |.nl,.sl _=>some []
 |.u,.u=>some ()
 |.p a b,.p t s=>(match a.view M t,b.view M s with|some x,some y=>some (x,y)|_,_=>none)
 |.fn f v,.fn f' t=>bif Nat.beq f f' then v.view M t else none
 |.ifc f v,.ifc f' t=>bif Nat.beq f f' then v.view M t else none
 |.bx v,.pt t=>v.view M t
 |.ref k π,t=>apl M k π t
 |.ad k π,.pt t=>apl M k π t
 |.np,.any=>some ()
 |_,_=>none
def og(r k:Nat):Bool:=bg [neg (Nat.beq r k),Nat.ble (Nat.succ r) gid]
def aap(k r:Nat)(ρ:bq)(M:Mem):Option (Ob×List Ev×Mem):=
 bif neg (og r k)then none else
  (match go M r with
  |some ob=>(match get ρ ob.o ob.x with
   |some q=>(match ρ with
    |[]=>some (q,[.kl r],del r M)
    |_=>bif ahf ρ then some (⟨.fz q.o.strip,q.x⟩,[.fz r ob],del r M)else
     (match set ρ ob.o ob.x ⟨.fz q.o.hole,q.o.holeX q.x⟩with
     |some ob'=>some (q,[.tk r ob.o ob'.o],put r ob' M)
     |none=>none))
   |none=>none)
  |none=>none)
def aox(k r:Nat)(ρ:bq)(M:Mem):Option (Ob×List Ev×Mem):=
 bif neg (og r k)then none else
  (match go M r,ρ with
  |some ⟨.pt o,x⟩,[.de]=>some (⟨.pt o,x⟩,[.kl r],del r M)
  |some ob,ρ=>(match get ρ ob.o ob.x with|some q=>some (⟨.fz (.pt q.o.strip),q.x⟩,[.fz r ob],del r M)|none=>none)
  |none,_=>none)
def conv(k:Nat):T->V->Mem->Option (Ob×List Ev×Mem)
 |.p t s,.p a b,M=>(match conv k t a M with
  |some (q,e,M')=>(match conv k s (b.evs e) M' with
   |some (q',e',M'')=>some (mkP q q',ap e e',M'')
   |none=>none)
  |none=>none)
 |_,.u,M=>some (⟨.fz .u,()⟩,[],M)
 |_,.d t x,M=>some (⟨.fz t,x⟩,[],M)
 |.sl t,.nl,M=>some (⟨.sl t.deep,[]⟩,[],M)
 |_,.np,M=>some (⟨.fz .any,()⟩,[],M)
 |_,.ref r ρ,M=>aap k r ρ M
 |_,.ad r ρ,M=>aox k r ρ M
 |_,.fn f .u,M=>some (⟨.fz (.fn f .u),()⟩,[],M)
 |_,_,_=>none
def adp(k:Nat)(o:O)(v:V)(M:Mem):Option (o.strip.den×List Ev×Mem):=
 match o with
 |.fz t=>(match ca M v with|(e,M')=>(match (v.evs e).as t with|some x=>some (x,e,M')|none=>none))
 |o=>(match conv k o.strip v M with
  |some (q,e,M')=>(match ri q o with|some x=>some (x,e,M')|none=>none)
  |none=>none)
def ahl(k:Nat)(o:O)(v:V)(M:Mem):Option (o.strip.den×List Ev×Mem):=
 match o with
 |.op e=>(match adp k e v M with|some (x,ev,M')=>some (some x,ev,M')|none=>none)
 |o=>adp k o v M
def ug:bq->Option (bq×Nat)
 |[.ix i]=>some ([],i)
 |.l::π=>(match ug π with|some (p,i)=>some (.l::p,i)|none=>none)
 |.r::π=>(match ug π with|some (p,i)=>some (.r::p,i)|none=>none)
 |.de::π=>(match ug π with|some (p,i)=>some (.de::p,i)|none=>none)
 |_=>none
def bnn(π:bq)(ob:Ob):Option Ob:=
 match ug π with
 |some (p,i)=>(match get p ob.o ob.x with
  |some ⟨.sl e,l⟩=>set p ob.o ob.x ⟨.sl (.op e),bi6 l i⟩
  |_=>none)
 |none=>none
def biy(π:bq)(ob:Ob):Option (Prop×Ob):=
 match ug π with
 |some (p,_)=>(match get p ob.o ob.x with
  |some ⟨.sl (.op e),l⟩=>(match set p ob.o ob.x ⟨.sl e,asb e.dflt l⟩with
   |some ob2=>some (bh8 l=true,ob2)
   |none=>none)
  |_=>none)
 |none=>none
def up:T->V
 |.p a b=>.p (up a) (up b)
 |.sl _=>.nl
 |.u=>.u
 |.pt _=>.d .any ()
 |.fn _ _=>.d .any ()
 |.er _=>.d .any ()
 |.any=>.d .any ()
 |t=>.d t t.dflt
def jb:bq->V->V->Option V
 |[],_,n=>some n
 |.l::π,.p a b,n=>(match jb π a n with|some q=>some (.p q b)|none=>none)
 |.r::π,.p a b,n=>(match jb π b n with|some q=>some (.p a q)|none=>none)
 |_,_,_=>none
def V.cells:V->V
 |.ag v=>v
 |v=>v
@[reducible] def dy:List T->Type
 |[]=>Unit
 |t::r=>t.den×dy r
@[reducible] def je:List (Bool×O)->Type
 |[]=>Unit
 |q::r=>q.2.strip.den×je r
def inN(k:Nat):List Nat->Bool
 |[]=>false
 |j::r=>bif Nat.beq j k then true else inN k r
def ya:List Nat->Bool
 |[]=>true
 |k::r=>bif inN k r then false else ya r
structure Mt where
 o:O
 g:Bool
 pre:o.strip.den->Int->List Prop
 res:o.strip.den->Int->o.strip.den×Int
structure Wt where
 o:O
 as:List T
 ag:List Bool
 pre:o.strip.den->dy as->List Prop
 new:o.strip.den->dy as->o.strip.den
 rt:List (Bool×O)
 res:o.strip.den->dy as->je rt
structure Sp where
 args:List T
 ga:List Bool
 sh:Bool
 b:dy args->Bool
 pre:dy args->List Prop
 rt1:List (Bool×O)
 res1:dy args->je rt1
 rt0:List (Bool×O)
 res0:dy args->je rt0
structure Wa where
 o:O
 way:bq
 as:List T
 pre:o.strip.den->dy as->List Prop
 new:o.strip.den->dy as->o.strip.den
structure Wc where
 o:O
 i:Nat
 as:List T
 ag:List Bool
 pre:o.strip.den->dy as->List Prop
 new:o.strip.den->dy as->o.strip.den
inductive Mu where
 |c (c:Wc)
 |m (m:Mt)
 |w (w:Wt)
 |s (s:Sp)
 |a (a:Wa)
structure Ct where
 args:List T
 ga:List Bool
 pre:dy args->List Prop
 rt:List (Bool×O)
 res:dy args->je rt
 sh:Bool
 mu:Option Mu
def ti(s:Sp):Bool->Ct
 |true=>⟨s.args,s.ga,fun x=>(s.b x=true)::s.pre x,s.rt1,s.res1,s.sh,none⟩
 |false=>⟨s.args,s.ga,fun x=>(s.b x=false)::s.pre x,s.rt0,s.res0,s.sh,none⟩
def v6(M:Mem):List V->(ts:List T)->Option (dy ts)
 |[],[]=>some ()
 |v::r,t::ts=>(match v.cells.view M t,v6 M r ts with|some x,some y=>some (x,y)|_,_=>none)
 |_,_=>none
def cid(d j:Nat):Nat:=Nat.add (Nat.add 100000 (Nat.mul 100 d)) j
def fo(d:Nat):Nat->(o:O)->o.strip.den->V×Mem×Nat
 |j,.fz t,x=>(kg t x,[],j)
 |j,.p a b,x=>(match fo d j a x.1 with
  |(v,M,j')=>(match fo d j' b x.2 with
   |(v',M',j'')=>(.p v v',ap M' M,j'')))
 |j,.sl e,x=>(.ref (cid d j) [],[(cid d j,⟨.sl e,x⟩)],Nat.succ j)
 |j,.pt o,x=>(.ad (cid d j) [.de],[(cid d j,⟨.pt o,x⟩)],Nat.succ j)
 |j,.mp k v,x=>(.ref (cid d j) [],[(cid d j,⟨.mp k v,x⟩)],Nat.succ j)
 |j,.op _,_=>(.any,[],j)
def newL(d:Nat):Nat->(rs:List (Bool×O))->je rs->V×Mem×Nat
 |j,[],_=>(.u,[],j)
 |j,q::r,x=>(match fo d j q.2 x.1 with
  |(v,M,j')=>(match newL d j' r x.2 with
   |(v',M',j'')=>(.p (xd q.1 v) v',ap M' M,j'')))
def apd:List (Bool×O)->V->V
 |[_],.p a _=>a
 |_,v=>.tup v
def qr:List Nat->Mem->Mem
 |[],M=>M
 |k::r,M=>qr r (del k M)
def cc:Mem->List Nat
 |[]=>[]
 |(k,_)::r=>k::cc r
def klL:List Nat->List Ev
 |[]=>[]
 |k::r=>.kl k::klL r
def mw(M:Mem):List V->List Ev×Mem
 |[]=>([],M)
 |v::r=>(match ca M v with|(e,M')=>(match mw M' r with|(e',M'')=>(ap e e',M'')))
def rn(e:List Ev):List V->List V
 |[]=>[]
 |v::r=>v.evs e::rn e r
def rz(f:Operand->V):List Operand->List V
 |[]=>[]
 |x::r=>f x::rz f r
def asL:List V->(ts:List T)->Option (dy ts)
 |[],[]=>some ()
 |v::r,t::ts=>(match v.cells.as t,asL r ts with|some x,some y=>some (x,y)|_,_=>none)
 |_,_=>none
def qd:V->Bool
 |.ag _=>true
 |_=>false
def shp:List V->List Bool->Bool
 |[],[]=>true
 |v::r,g::gs=>bif qd v then (bif g then shp r gs else false)else (bif g then false else shp r gs)
 |_,_=>false
def gz:V->List Nat
 |.ref k _=>[k]
 |.p a b=>ap (gz a) (gz b)
 |_=>[]
def bia(M:Mem)(k:Nat)(π:bq)(o:O):Option o.strip.den:=match my M k π with|some q=>ri q o|none=>none
def uu(M:Mem):(o:O)->V->Option o.strip.den
 |.fz t,v=>v.as t
 |.p a b,.p v v2=>(match uu M a v,uu M b v2 with|some x,some y=>some (x,y)|_,_=>none)
 |.p a b,.ref k π=>bia M k π (.p a b)
 |.sl e,.ref k π=>bia M k π (.sl e)
 |_,_=>none
def arb(k:Nat)(π:bq)(o:O)(x:o.strip.den)(M:Mem):Option (List Ev×Mem):=
 match go M k with
 |some ob=>(match set π ob.o ob.x ⟨o,x⟩with|some ob'=>some ([.cut k ob.o ob'.o],put k ob' M)|none=>none)
 |none=>none
def xk:(o:O)->V->o.strip.den->Mem->Option (List Ev×Mem)
 |.fz _,_,_,M=>some ([],M)
 |.p a b,.p v v2,x,M=>(match xk a v x.1 M with
  |some (e,M')=>(match xk b v2 x.2 M' with|some (e',M'')=>some (ap e e',M'')|none=>none)
  |none=>none)
 |.p a b,.ref k π,x,M=>arb k π (.p a b) x M
 |.sl e,.ref k π,x,M=>arb k π (.sl e) x M
 |_,_,_,_=>none
def al6:List Nat->Bool
 |[]=>true
 |_=>false
def ajv:List Nat->Bool
 |[]=>true
 |[_]=>true
 |k::k'::r=>bif Nat.ble gid k then (bif Nat.ble gid k' then ajv (k'::r)else false)else (bif Nat.ble gid k' then false else ajv (k'::r))
def akz(m:Mt)(vs:List V)(M:Mem):Rs:=
 match vs with
 |[v,kv]=>bif bg [shp [v,kv] [m.g,false],ya (gz v.cells),neg (al6 (gz v.cells)),ajv (gz v.cells)]then (match uu M m.o v.cells,kv.cells.as (.int .i64)with
   |some x,some k=>(match xk m.o v.cells (m.res x k).1 M with
    |some (.cut c o o'::e,M')=>⟨m.pre x k,.d (.int .i64) (m.res x k).2,.cut c o o'::e,M'⟩
    |_=>b8 M)
   |_,_=>b8 M)else b8 M
 |_=>b8 M
def ab2:bq->Bool
 |[.de]=>true
 |_=>false
def bih:bq->Bool
 |[]=>true
 |_=>false
def afg:V->Option Nat
 |.ad k π=>bif ab2 π then some k else none
 |.ref k π=>bif bih π then some k else none
 |_=>none
def al9:O->Bool
 |.pt _=>true
 |.sl _=>true
 |_=>false
def deK:V->Option Nat
 |.ref k π=>bif ab2 π then some k else none
 |_=>none
def slO:O->Bool
 |.sl _=>true
 |_=>false
def pbW(W:Wt):Wt:=⟨.pt W.o,W.as,W.ag,W.pre,W.new,W.rt,W.res⟩
def w5(k:Nat)(W:Wt)(d:Nat)(r:List V)(M:Mem):Rs:=
 bif shp r W.ag then (match mw M r with
   |(e,M1)=>(match go M1 k,asL (rn e r) W.as with
    |some ob,some y=>(match ri ob W.o with
     |some x=>(match newL d 0 W.rt (W.res x y)with
      |(v,N,_)=>bif inN k (cc N)then b8 M else
       ⟨W.pre x y,apd W.rt v,ap e (.cut k W.o W.o::klL (cc N)),ap N (qr (cc N) (put k ⟨W.o,W.new x y⟩ M1))⟩)
     |none=>b8 M)
    |_,_=>b8 M))else b8 M
def acg(W:Wt)(d:Nat)(vs:List V)(M:Mem):Rs:=
 match vs with
 |v0::r=>(match afg v0 with
  |some k=>bif al9 W.o then w5 k W d r M else b8 M
  |none=>(match deK v0 with
   |some k=>bif slO W.o then w5 k (pbW W) d r M else b8 M
   |none=>b8 M))
 |_=>b8 M
def lrP:bq->Bool
 |[]=>true
 |.l::π=>lrP π
 |.r::π=>lrP π
 |_=>false
def ag7(o:O):bq->Bool
 |.de::π=>(match o with|.pt _=>lrP π|_=>false)
 |_=>false
def au0(π:bq):V->Option Nat
 |.ad k ρ=>bif peq π ρ then some k else none
 |_=>none
def awq(k:Nat):V->Bool
 |.ad j π=>nob (Nat.beq j k) (ab2 π)
 |_=>false
def afk(k:Nat):V->V
 |.bx v=>bif awq k v then .bx (.d .any ())else .bx v
 |.p a b=>.p (afk k a) (afk k b)
 |.fn f v=>.fn f (afk k v)
 |v=>v
def aaj(k:Nat):List V->List V
 |[]=>[]
 |v::r=>afk k v::aaj k r
def aj2:T->Bool
 |.any=>true
 |_=>false
def akd:T->Bool
 |.pt t=>neg (aj2 t)
 |.p a b=>nob (akd a) (akd b)
 |.fn _ t=>akd t
 |_=>true
def pe(k:Nat):V->T->Bool
 |.bx v,.pt t=>bif awq k v then aj2 t else neg (aj2 t)
 |.p a b,.p t s=>nob (pe k a t) (pe k b s)
 |.fn _ v,.fn _ t=>pe k v t
 |.ad _ _,t=>nob (akd t) (Nat.beq t.size 1)
 |.d s _,t=>nob (akd t) (Nat.beq s.size t.size)
 |.u,.u=>true
 |_,_=>false
def aqq(k:Nat):List V->List T->Bool
 |[],[]=>true
 |v::r,t::ts=>nob (pe k v t) (aqq k r ts)
 |_,_=>false
def aaa:List T->List Bool
 |[]=>[]
 |_::r=>false::aaa r
def ahr(W:Wa)(vs:List V)(M:Mem):Rs:=
 match vs with
 |v0::r=>(match au0 W.way v0 with
  |some k=>bif bg [ag7 W.o W.way,aqq k r W.as,shp (aaj k r) (aaa W.as)]then (match mw M (aaj k r)with
   |(e,M1)=>(match go M1 k,asL (rn e (aaj k r)) W.as with
    |some ob,some y=>(match ri ob W.o with
     |some x=>⟨W.pre x y,.tup .u,ap e [.cut k W.o W.o],put k ⟨W.o,W.new x y⟩ M1⟩
     |none=>b8 M)
    |_,_=>b8 M))else b8 M
  |none=>b8 M)
 |_=>b8 M
def bjb:T->V->Option Nat
 |.any,.ad k π=>bif ab2 π then some k else none
 |.p a b,.p v w=>(match bjb a v with|some k=>some k|none=>bjb b w)
 |.fn _ t,.fn _ v=>bjb t v
 |_,_=>none
def ajy(k:Nat):T->V->Bool
 |.any,.ad j π=>nob (Nat.beq j k) (ab2 π)
 |.any,_=>false
 |.p a b,.p v w=>nob (ajy k a v) (ajy k b w)
 |.fn f t,.fn g v=>nob (Nat.beq f g) (ajy k t v)
 |.p _ _,_=>false
 |.fn _ _,_=>false
 |_,_=>true
def ais:T->V->V
 |.any,.ad _ _=>.np
 |.p a b,.p v w=>.p (ais a v) (ais b w)
 |.fn _ t,.fn g v=>.fn g (ais t v)
 |_,v=>v
def zu(k:Nat):List Bool->List T->List V->Bool
 |[],[],[]=>true
 |true::gs,_::ts,_::vs=>zu k gs ts vs
 |false::gs,t::ts,v::vs=>nob (ajy k t v) (zu k gs ts vs)
 |_,_,_=>false
def akq:List Bool->List T->List V->List V
 |true::gs,_::ts,v::vs=>v::akq gs ts vs
 |false::gs,t::ts,v::vs=>ais t v::akq gs ts vs
 |_,_,vs=>vs
def yj{α:Type}(x:α):List α->Nat->α
 |[],_=>x
 |y::_,0=>y
 |_::r,Nat.succ n=>yj x r n
def boxI(W:Wc)(vs:List V):Option Nat:=bif yj true W.ag W.i then none else bjb (yj .u W.as W.i) (yj .u vs W.i)
def ajq(W:Wc)(vs:List V)(M:Mem):Rs:=
 match boxI W vs with
 |some k=>bif nob (zu k W.ag W.as vs) (shp (akq W.ag W.as vs) W.ag)then (match go M k,v6 (del k M) (akq W.ag W.as vs) W.as with
   |some ob,some y=>(match ri ob W.o with
    |some x=>⟨W.pre x y,.tup .u,[.cut k W.o W.o],put k ⟨W.o,W.new x y⟩ M⟩
    |none=>b8 M)
   |_,_=>b8 M)else b8 M
 |none=>b8 M
def zc(ct:Ct)(d:Nat)(vs:List V)(M:Mem):Rs:=
 match ct.mu with
 |some (.c W)=>ajq W vs M
 |some (.m m)=>akz m vs M
 |some (.w W)=>acg W d vs M
 |some (.s _)=>b8 M
 |some (.a W)=>ahr W vs M
 |none=>
 bif shp vs ct.ga then
 (match ct.sh with
 |false=>(match v6 M vs ct.args with
  |some x=>(match newL d 0 ct.rt (ct.res x)with
   |(v,N,_)=>⟨ct.pre x,apd ct.rt v,klL (cc N),ap N (qr (cc N) M)⟩)
  |none=>b8 M)
 |true=>(match mw M vs with
  |(e,M')=>(match asL (rn e vs) ct.args with
   |some x=>(match newL d 0 ct.rt (ct.res x)with
    |(v,N,_)=>⟨ct.pre x,apd ct.rt v,ap e (klL (cc N)),ap N (qr (cc N) M')⟩)
   |none=>b8 M)))else b8 M
def ano(B:Tab)(τ:Ty)(ρ:Operand->V)(x:Operand)(lo hi:Option Operand)(M:Mem):Rs:=
 match ρ x with
 |.ref r π=>(match aap gid r π M with
  |some (q,e,M')=>(match bbs B τ (.d q.o.strip q.x) (wm (fun y=>(ρ y).evs e) lo) (wm (fun y=>(ρ y).evs e) hi)with
   |(l,v)=>⟨l,v,e,M'⟩)
  |none=>b8 M)
 |v=>cq (bbs B τ v (wm ρ lo) (wm ρ hi)) M
def nsT:T->Bool
 |.ns _=>true
 |_=>false
def ahh(B:Tab)(τ:Ty)(d:Option Nat)(ρ:Operand->V)(x:Operand)(lo hi:Option Operand)(M:Mem):Rs:=
 match ρ x,d,wm ρ lo,hi,τ.el with
 |.ref r [],some d,some (.d (.int _) a),none,some e=>(match go M r with
  |some ⟨.sl o,l⟩=>bif bg [og r d,τ.ok,(B.τ e).ok,dz o.strip.size (B.τ e).size]then
    ⟨[0<=a,a<=l.length],.ref d [],[.kl r,.kl d],(d,⟨.sl o,l.drop a.toNat⟩)::del d (del r M)⟩else b8 M
  |_=>b8 M)
 |_,_,_,_,_=>b8 M
def xq(B:Tab)(t:TypeId)(d:Option Nat)(ρ:Operand->V)(x:Operand)(lo hi:Option Operand)(M:Mem):Rs:=bif nsT (B.σ t)then ahh B (B.τ t) d ρ x lo hi M else ano B (B.τ t) ρ x lo hi M
inductive Src where
 |own (j:Nat) (e:O) (l:List e.strip.den)
 |dat (e:List Ev) (M:Mem) (t:T) (l:List t.den)
 |nil
def ahe(M:Mem):V->Option Src
 |.nl=>some .nil
 |.d (.sl t) l=>some (.dat [] M t l)
 |.ref j π=>(match go M j,π with
  |some ⟨.sl e,l⟩,[]=>some (.own j e l)
  |some ob,π=>(match get π ob.o ob.x with
   |some ⟨.sl e,l⟩=>some (.dat [.fz j ob] (del j M) e.strip l)
   |some ⟨.fz (.sl t),l⟩=>some (.dat [.fz j ob] (del j M) t l)
   |_=>none)
  |none,_=>none)
 |_=>none
def ey(n m b:Nat):Prop:=(n+m)*b<=nb
def afm(b:Nat)(k:Nat)(e:O)(l:List e.strip.den)(j:Nat)(e':O)(m:List e'.strip.den)(ev:List Ev)(M:Mem)(M0:Mem):Rs:=
 match e'.beq e,ri ⟨.sl e',m⟩ (.sl e)with
 |true,some m=>⟨[ey l.length m.length b],.ref k [],ap ev [.kl j,.kl k],(k,⟨.sl e,l++m⟩)::del k (del j M)⟩
 |_,_=>(match od (.sl e.strip) (a:=.sl e'.strip) m with
  |some m1=>⟨[ey l.length m1.length b],.ref k [],ap ev [.fz j ⟨.sl e',m⟩,.kl k],(k,⟨.sl (.fz e.strip),l++m1⟩)::del k (del j M)⟩
  |none=>b8 M0)
def af4(b:Nat)(k:Nat)(e:O)(l:List e.strip.den)(t:T)(m:List t.den)(ev:List Ev)(M:Mem)(M0:Mem):Rs:=
 match od (.sl e.strip) (a:=.sl t) m with
 |some m=>⟨[ey l.length m.length b],.ref k [],ap ev [.kl k],(k,⟨.sl (.fz e.strip),l++m⟩)::del k M⟩
 |none=>b8 M0
def ae7(B:Tab)(dst:Option Nat)(t:TypeId)(s x:V)(M:Mem):Rs:=
 match (B.τ t).el,dst,ahe M x with
 |some e,some d,some src=>
  bif bg [(B.τ t).ok,(B.τ e).ok,neg (Nat.beq (B.τ e).bytes 0),B.z e,dz (B.σ e).size (B.τ e).size]then
   (match s with
   |.nl=>(match src with
    |.nil=>⟨[],.nl,[],M⟩
    |.own j e' m=>bif bg [og j d,dz e'.strip.size (B.τ e).size]then⟨[ey 0 m.length (B.τ e).bytes],.ref d [],[.kl j,.kl d],(d,⟨.sl e',m⟩)::del d (del j M)⟩else b8 M
    |.dat ev M' t' m=>bif dz t'.size (B.τ e).size then⟨[ey 0 m.length (B.τ e).bytes],.ref d [],ap ev [.kl d],(d,⟨.sl (.fz t'),m⟩)::del d M'⟩else b8 M)
   |.ref k π=>(match go M k,π with
    |some ⟨.sl o,l⟩,[]=>bif bg [dz o.strip.size (B.τ e).size,Nat.ble (Nat.succ k) gid]then (match src with
     |.nil=>⟨[],.ref k [],[],M⟩
     |.own j e' m=>bif neg (og j k)then b8 M else afm (B.τ e).bytes k o l j e' m [.kl k] (del k M) M
     |.dat ev M' t' m=>(match go M' k with|some _=>af4 (B.τ e).bytes k o l t' m (ap ev [.kl k]) (del k M') M|none=>b8 M))else b8 M
    |some ob,π=>(match get π ob.o ob.x,set π ob.o ob.x ⟨.fz .any,()⟩with
     |some ⟨.sl o,l⟩,some ob'=>bif bg [dz o.strip.size (B.τ e).size,neg (Nat.beq d k),Nat.ble (Nat.succ k) gid]then (match src with
      |.nil=>⟨[],.ref k π,[],M⟩
      |.own j e' m=>bif bg [og j k,og j d]then afm (B.τ e).bytes d o l j e' m [.cut k ob.o ob'.o] (put k ob' M) M else b8 M
      |.dat ev M' t' m=>(match go M' k with|some _=>af4 (B.τ e).bytes d o l t' m (ap ev [.cut k ob.o ob'.o]) (put k ob' M') M|none=>b8 M))else b8 M
     |some ⟨.sl o,l⟩,none=>(match bnn π ob with
      |some ob'=>bif bg [dz o.strip.size (B.τ e).size,neg (Nat.beq d k),Nat.ble (Nat.succ k) gid]then (match src with
       |.nil=>b8 M
       |.own j e' m=>bif bg [og j k,og j d]then afm (B.τ e).bytes d o l j e' m [.tk k ob.o ob'.o] (put k ob' M) M else b8 M
       |.dat ev M' t' m=>(match go M' k with|some _=>af4 (B.τ e).bytes d o l t' m (ap ev [.tk k ob.o ob'.o]) (put k ob' M') M|none=>b8 M))else b8 M
      |none=>b8 M)
     |_,_=>b8 M)
    |none,_=>b8 M)
   |_=>b8 M)
  else b8 M
 |_,_,_=>b8 M
def ae8(B:Tab)(kty:TypeId):T->Bool
 |.int q=>(match (B.τ kty).int with|some q'=>bg [(B.τ kty).ok,aad q' q]|none=>false)
 |.str=>bg [(B.τ kty).ok,(B.τ kty).st]
 |.p a b=>nob (nob (B.τ kty).ok (isN (B.τ kty).arr)) (nob (neg (isZ (T.p a b).intsN)) (dz (T.p a b).intsN (B.q kty)))
 |_=>false
def wi(B:Tab)(ety:TypeId):T->Bool
 |.int q=>bg [(B.τ ety).ok,B.z ety,(B.σ ety).beq (.int q)]
 |.bool=>bg [(B.τ ety).ok,B.z ety,(B.σ ety).beq .bool]
 |_=>false
def aix:V->T->Bool
 |.ag _,.p _ _=>true
 |.ag _,_=>false
 |_,.p _ _=>false
 |_,_=>true
structure Mp where
 k:T
 v:T
 l:(T.mp k v).den
def bno(M:Mem):V->Option Mp
 |.d (.mp k v) l=>some ⟨k,v,l⟩
 |.ref r π=>(match my M r π with
  |some ⟨.mp k v,l⟩=>some ⟨k,v,l⟩
  |some ⟨.fz (.mp k v),l⟩=>some ⟨k,v,l⟩
  |_=>none)
 |_=>none
def aut(B:Tab)(t:TypeId)(M:Mem)(x i:V)(ok:Bool):List Prop×V:=
 match (B.τ t).mp,bno M x with
 |some (kty,ety),some ⟨k,v,l⟩=>bif bg [(B.τ t).ok,ae8 B kty k,wi B ety v,aix i k]then
   (match i.cells.as k with
   |some y=>ci (bif ok then .tup (.p (.d v (rj k v l y)) (.p (.d .bool (aj5 k v l y)) .u))else .d v (rj k v l y))
   |none=>bad)else bad
 |_,_=>bad
def ap8(B:Tab)(t:TypeId)(d:Option Nat)(M:Mem):Rs:=
 match (B.τ t).mp,d with
 |some (kty,ety),some d=>bif bg [(B.τ t).ok]then⟨[],.ref d [],[.kl d],(d,⟨.mp (B.σ kty) (B.σ ety),[]⟩)::del d M⟩else b8 M
 |_,_=>b8 M
def aqi(B:Tab)(t:TypeId)(m i x:V)(M:Mem):Rs:=
 match (B.τ t).mp,m with
 |some (kty,ety),.ref r π=>(match go M r with
  |some ob=>(match get π ob.o ob.x with
   |some ⟨.mp k v,l⟩=>bif bg [(B.τ t).ok,ae8 B kty k,wi B ety v,aix i k,neg (qd x)]then
     (match i.cells.as k,x.cells.as v with
     |some y,some z=>(match set π ob.o ob.x ⟨.mp k v,jq k v l y z⟩with
      |some ob'=>(match ri ob' ob.o with
       |some x'=>⟨[ey l.length 1 1],.any,[.cut r ob.o ob.o],put r ⟨ob.o,x'⟩ M⟩
       |none=>b8 M)
      |none=>b8 M)
     |_,_=>b8 M)else b8 M
   |_=>b8 M)
  |none=>b8 M)
 |_,_=>b8 M
def ge:T->List Value->Bool
 |.p a b,zs=>nob (ge a (fk a.size zs)) (ge b (tj a.size zs))
 |.u,[]=>true
 |.int k,[.int k' (.ofNat 0)]=>aad k k'
 |.bool,[.bool b]=>neg b
 |.str,[.string s]=>Nat.beq s.size 0
 |.sl _,[.slice none 0 0]=>true
 |.ns _,[.slice none 0 0]=>true
 |.any,[v]=>v.oneCell'
 |_,_=>false
def bce(B:Tab)(t:TypeId)(o:Option Nat)(M:Mem):Rs:=
 match o with
 |some k=>bif bg [(B.τ t).ok,B.z t]then
   ⟨[],.ad k [.de],[.kl k],(k,⟨.pt (B.σ t).deep,(B.σ t).deep.dflt⟩)::del k M⟩else b8 M
 |none=>b8 M
def bau(B:Tab)(t:TypeId)(o:Option Nat)(x:V)(M:Mem):Rs:=
 match o with
 |some k=>(match conv k (B.σ t) (x.cells.ev (.kl k)) (del k M)with
  |some (q,e,M')=>⟨[],.ad k [.de],.kl k::e,(k,⟨.pt q.o,q.x⟩)::M'⟩
  |none=>bif neg (isN (x.cells.size M))then⟨[],.bx x.cells,[],M⟩else b8 M)
 |none=>b8 M
def t7(M:Mem)(place:Nat->Option (bq×Nat×Nat))(f:Operand->V):List (Nat×Operand)->V->Option V
 |[],v=>some v
 |(i,x)::r,v=>(match place i with
  |some (π,off,n)=>(match gv M π v with
   |some (m,w)=>bif bg [dz m off,jx M w n,jx M (f x).cells n]then (match jb π v (f x).cells with|some v'=>t7 M place f r v'|none=>none)else none
   |none=>none)
  |none=>none)
def bi9(B:Tab)(τ:Ty)(i:Nat):Option (bq×Nat×Nat):=
 match τ.arr with
 |some (e,n)=>bif Nat.ble (Nat.succ i) n then some (ahb n i,Nat.mul i (B.τ e).size,(B.τ e).size)else none
 |none=>(match m5 τ.fld i with|some q=>some (ahb (len τ.fld) i,q.1,q.2.2)|none=>none)
def aq9(B:Tab)(τ:Ty):Bool:=
 match τ.arr with
 |some (e,_)=>(B.τ e).ok
 |none=>τ.sz
def yf(B:Tab)(t:TypeId)(parts:List (Nat×Operand))(f:Operand->V)(M:Mem):Rs:=
 bif bg [(B.τ t).ok,aq9 B (B.τ t),B.z t]then
   (match t7 M (bi9 B (B.τ t)) f parts (up (B.σ t))with
   |some v=>⟨[],.ag v,[],M⟩
   |none=>b8 M)else b8 M
def o6(k:Nat)(o:O):List Ev->List V->Mem->Option (List o.strip.den×List Ev×Mem)
 |ev,[],M=>some ([],ev,M)
 |ev,v::r,M=>(match ahl k o (v.evs ev) M with
  |some (x,e,M')=>(match o6 k o (ap ev e) r M' with
   |some (l,e',M'')=>some (x::l,e',M'')
   |none=>none)
  |none=>none)
def p8(M:Mem)(sz:Nat)(f:Operand->V):List (Nat×Operand)->List V->Option (List V)
 |[],l=>some l
 |(i,x)::r,l=>bif nob (Nat.ble (Nat.succ i) (len l)) (jx M (f x).cells sz)then p8 M sz f r (aos l i (f x).cells)else none
def bjv:T->V
 |.ns (.sl e)=>.d (.ns (.sl e)) (some [])
 |_=>.nl
def abr(B:Tab)(t:TypeId)(n:Nat)(parts:List (Nat×Operand))(f:Operand->V)(o:Option Nat)(M:Mem):Rs:=
 match o,(B.τ t).el with
 |some k,some e=>
  (match p8 M (B.τ e).size f parts (ac0 (up (B.σ e)) n)with
  |some l=>bif bg [(B.τ t).ok,(B.τ e).ok,B.z e,Nat.ble (Nat.mul n (B.τ e).size) 16777216,Nat.ble n nb,dz (B.σ e).size (B.τ e).size]then
    (match rn [.kl k] l with
    |[]=>⟨[],bjv (B.σ t),[],M⟩
    |v::r=>(match conv k (B.σ e) v (del k M)with
     |some (q,_,_)=>(match o6 k q.o [] (v::r) (del k M)with
      |some (x,ev,M')=>⟨[],.ref k [],.kl k::ev,(k,⟨.sl q.o,x⟩)::M'⟩
      |none=>(match o6 k (.fz (B.σ e)) [] (v::r) (del k M)with
       |some (x,ev,M')=>⟨[],.ref k [],.kl k::ev,(k,⟨.sl (.fz (B.σ e)),x⟩)::M'⟩
       |none=>b8 M))
     |none=>b8 M))else b8 M
  |none=>b8 M)
 |_,_=>b8 M
def ap0(B:Tab)(t:TypeId)(l c:V)(o:Option Nat)(M:Mem):Rs:=
 match o,(B.τ t).el,l,c with
 |some k,some e,.d (.int _) nl,.d (.int _) nc=>
  bif bg [(B.τ t).ok,(B.τ e).ok,B.z e,dz (B.σ e).size (B.τ e).size]then
    ⟨[0<=nl,nl<=nc,nc<=nb,nc*(B.τ e).bytes<=nb],.ref k [],[.kl k],(k,⟨.sl (B.σ e).deep,List.replicate nl.toNat (B.σ e).deep.dflt⟩)::del k M⟩else b8 M
 |_,_,_,_=>b8 M
def aee(B:Tab)(t:TypeId)(x y:V)(M:Mem):Rs:=
 match x with
 |.ad k π=>(match go M k,my M k π with
  |some ob,some q=>bif bg [(B.τ t).ok,jx M y.cells (B.τ t).size,dz q.o.strip.size (B.τ t).size,neg (isZ (B.τ t).size)]then
    (match (bif ahf π then (match ahl k q.o y.cells M with
      |some (z,e,M')=>some (⟨q.o,z⟩,e,M')
      |none=>none)else conv k (B.σ t) y.cells M)with
     |some (z,e,M')=>(match go M' k,set π ob.o ob.x z with
      |some _,some ob'=>bif dz z.o.strip.size (B.τ t).size then (match biy π ob' with
      |some (c,ob2)=>⟨[c],.any,ap e [.cut k ob.o ob'.o,.cut k ob'.o ob2.o],put k ob2 M'⟩
      |none=>⟨[],.any,ap e [.cut k ob.o ob'.o],put k ob' M'⟩)else b8 M
      |_,_=>b8 M)
     |none=>b8 M)else b8 M
  |_,_=>b8 M)
 |_=>b8 M
def abe(x y:V)(M:Mem)(r:Rs):Rs:=
 match x,y with
 |.ad k [.de],.ad j [.de]=>(match go M k,go r.M k with
  |some ⟨.pt (.fz .any),_⟩,some ⟨.pt (.pt o),z⟩=>bif nob (Nat.blt k gid) (isN (go r.M j))then⟨r.vc,.any,ap r.ev [.un k j],(j,⟨.pt o,z⟩)::del k r.M⟩else r
  |_,_=>r)
 |_,_=>r
def ako:V->Option (FuncId×V)
 |.fn f v=>some (f,v)
 |.d (.fn f t) x=>some (f,kg t x)
 |_=>none
def qv(M:Mem):V->Option (List V)
 |.u=>some []
 |.p a b=>(match qv M b with|some r=>bif jx M a 1 then some (a::r)else none|none=>none)
 |_=>none
def ayj(M:Mem):List V->Option V
 |[]=>some .u
 |v::r=>(match ayj M r with|some c=>bif nob (neg (qd v)) (jx M v 1)then some (.p v c)else none|none=>none)
def awi(M:Mem)(fn:Fn)(first:List Operand)(vs:List V):List Prop×V:=
 match fn,first,ayj M vs with
 |.func f,[],some c=>ci (.fn f c)
 |_,_,_=>bad
def ba0(B:Tab)(t:TypeId)(M:Mem)(x:V):List Prop×V:=
 match x with
 |.ag (.d .str _)=>bif bg [(B.τ t).ok,(B.τ t).agg]then ci (.d (.er t) true)else bad
 |x=>bif bg [(B.τ t).ok,neg (isN (B.τ t).el),neg (qd x),jx M x 1]then ci (.ifc t x)else bad
def inI:V->Option (TypeId×V)
 |.ifc t v=>some (t,v)
 |.d (.ifc t T) y=>some (t,kg T y)
 |_=>none
def ba4(B:Tab)(i:TypeId)(ok:Bool)(x:V):List Prop×V:=
 match inI x with
 |some (t,_)=>bif bcl B.m t i then ci (bif ok then .tup (.p x (.p (.d .bool true) .u))else x)else bad
 |none=>bad
def c6(B:Tab)(Φ:FuncId->Option Ct)(o:Oper)(ρ:Operand->V)(M:Mem):Rs:=
 match o.op with
 |.move x=>cq ([],ρ x) M
 |.assign x=>cq ([],ρ x) M
 |.nilCheck x=>cq (baj (ρ x)) M
 |.load t x=>tz (B.τ t) M o.dst (ρ x)
 |.fieldAddr t x i=>cq (aiw (B.τ t) M (ρ x) i) M
 |.field t x i=>cq (amp B (B.τ t) M (ρ x) i) M
 |.indexAddr t x i=>cq (al8 B (B.τ t) M (ρ x) (ρ i)) M
 |.index t x i=>cq (bhb (B.τ t) (ρ x) (ρ i)) M
 |.binOp op t x y _=>cq (awh B t op (bcu y) (bj3 y) (ρ x) (ρ y)) M
 |.unOp op _ x=>cq (bil op (ρ x)) M
 |.convert s d x=>cq (ae5 B s d M (ρ x)) M
 |.extract x i=>cq (aq0 (ρ x) i) M
 |.slice t x lo hi none=>xq B t o.dst ρ x lo hi M
 |.alloc e=>bce B e o.dst M
 |.box e x=>bau B e o.dst (ρ x) M
 |.build t parts=>yf B t (toL parts) ρ M
 |.buildSlice t n parts=>abr B t n (toL parts) ρ o.dst M
 |.makeSlice t l c=>ap0 B t (ρ l) (ρ c) o.dst M
 |.store t x y=>abe (ρ x) (ρ y) M (aee B t (ρ x) (ρ y) M)
 |.lookup t x i ok=>cq (aut B t M (ρ x) (ρ i) ok) M
 |.makeMap t none=>ap8 B t o.dst M
 |.makeInterface t x=>cq (ba0 B t M (ρ x)) M
 |.typeAssert x _ i ok=>cq (ba4 B i ok (ρ x)) M
 |.mapUpdate t m i x=>aqi B t (ρ m) (ρ i) (ρ x) M
 |.makeFunc fn fs cs=>cq (awi M fn (toL fs) (rz ρ (toL cs))) M
 |.call c=>(match c.callee with
  |.builtin .len=>(match toL c.args,toL c.argTypes with
   |[x],[t]=>cq (aml (B.τ t) M (ρ x)) M
   |_,_=>b8 M)
  |.builtin .max=>(match toL c.args with
   |[x,y]=>cq (bbg true (ρ x) (ρ y)) M
   |_=>b8 M)
  |.builtin .min=>(match toL c.args with
   |[x,y]=>cq (bbg false (ρ x) (ρ y)) M
   |_=>b8 M)
  |.builtin .append=>(match toL c.args,toL c.argTypes with
   |[x,y],[t,t']=>bif Nat.beq t t' then ae7 B o.dst t (ρ x) (ρ y) M else b8 M
   |_,_=>b8 M)
  |.value cx=>(match ako (ρ cx),o.dst with
   |some (f,v),some d=>(match Φ f,qv M v with
    |some ct,some cs=>zc ct d (ap (rz ρ (toL c.args)) cs) M
    |_,_=>b8 M)
   |_,_=>b8 M)
  |.invoke r name=>(match inI (ρ r),o.dst with
   |some (t,v),some d=>(match av1 B.m t name with
    |some f=>(match Φ f with
     |some ct=>zc ct d (v::rz ρ (toL c.args)) M
     |none=>b8 M)
    |none=>b8 M)
   |_,_=>b8 M)
  |_=>b8 M)
 |_=>b8 M
end Go.Bm
/- The du machine:regions,code,loops. -/
namespace Go.Bm
open Go.RowKit
def aka:List Prop->Prop->Prop
 |[],K=>K
 |p::r,K=>p/\aka r K
def imp(g:Prop):List Prop->Prop->Prop
 |[],K=>K
 |p::r,K=>(g->aka r p)/\K
def cnd(b:Bool)(x y:Prop):Prop:=(b=true->x)/\(b=false->y)
def wr(d:Option Nat)(x:V)(env:Env):Env:=
 match d with
 |some d=>(d,x)::env
 |none=>env
def gc:V->Bool->Prop
 |.d .bool b,w=>b=w
 |.gd _ _ P v,w=>P/\gc v w
 |_,_=>False
def ko:V->Bool
 |.d .bool _=>true
 |.gd _ _ _ v=>ko v
 |_=>false
def ayh(a b:Bool):Bool:=bif a then b else neg b
def rh(f:Operand->V):List Operand->List Prop
 |[]=>[]
 |x::r=>(match f x with
  |.gd _ _ P _=>P::rh f r
  |_=>rh f r)
def n9(o:Oper):Bool:=
 match o.op with
 |.store _ _ _=>false
 |.mapUpdate _ _ _ _=>false
 |.call c=>(match c.callee with
  |.builtin .append=>false
  |_=>true)
 |_=>true
def fm(M:Mem):List Ev->Bool
 |[]=>true
 |.kl k::r=>nob (isN (go M k)) (fm M r)
 |_=>false
def avF(M0 M:Mem):V->V
 |.ref k π=>(match go M0 k with|some _=>.ref k π|none=>(match my M k π with|some q=>kg q.o.strip q.x|none=>.any))
 |.ad k π=>(match go M0 k with|some _=>.ad k π|none=>(match my M k π with|some q=>.d (.pt q.o.strip) q.x|none=>.any))
 |.p a b=>.p (avF M0 M a) (avF M0 M b)
 |.ag v=>.ag (avF M0 M v)
 |.tup v=>.tup (avF M0 M v)
 |.fn f v=>.fn f (avF M0 M v)
 |.ifc t v=>.ifc t (avF M0 M v)
 |.bx v=>.bx (avF M0 M v)
 |.gd _ _ _ _=>.any
 |v=>v
def vg(ops:List Oper)(j:Nat):Option Nat:=
 match m5 ops j with
 |some o=>o.dst
 |none=>none
def afi(cb:Bool)(side:Bool):V->List Prop
 |.gd _ _ P _=>[cb=side->P]
 |_=>[]
def bak(cb:Bool)(a b:Operand)(av bv:Bool):Bool:=
 match a,b with
 |.const (.bool true),_=>cb||bv
 |_,.const (.bool false)=>cb&&av
 |_,_=>(bif cb then av else bv)
def af3(env:Env)(c a b:Operand):List Prop×V:=
 bif bg [(rd env c).strip.isB,(rd env a).strip.isB,(rd env b).strip.isB]then
  (ap (rh (rd env) [c]) (ap (afi (rd env c).strip.boolV true (rd env a)) (afi (rd env c).strip.boolV false (rd env b))),
   .d .bool (bak (rd env c).strip.boolV a b (rd env a).strip.boolV (rd env b).strip.boolV))
 else bad
def cd:Op->List Operand
 |.move x=>[x]
 |.assign x=>[x]
 |.nilCheck x=>[x]
 |.load _ x=>[x]
 |.fieldAddr _ x _=>[x]
 |.field _ x _=>[x]
 |.indexAddr _ x i=>[x,i]
 |.index _ x i=>[x,i]
 |.binOp _ _ x y _=>[x,y]
 |.unOp _ _ x=>[x]
 |.convert _ _ x=>[x]
 |.extract x _=>[x]
 |.slice _ x lo hi _=>x::ap (optL lo) (optL hi)
 |.box _ x=>[x]
 |.build _ ps=>snds (toL ps)
 |.buildSlice _ _ ps=>snds (toL ps)
 |.makeSlice _ l c=>[l,c]
 |.store _ x y=>[x,y]
 |.lookup _ m i _=>[m,i]
 |.mapUpdate _ m i x=>[m,i,x]
 |.makeFunc _ fs cs=>ap (toL fs) (toL cs)
 |.call c=>ap (calO c.callee) (toL c.args)
 |.makeInterface _ x=>[x]
 |.typeAssert x _ _ _=>[x]
 |_=>[]
where
 calO:Callee->List Operand
  |.value x=>[x]
  |.invoke x _=>[x]
  |_=>[]
 optL:Option Operand->List Operand
  |none=>[]
  |some x=>[x]
 snds:List (Nat×Operand)->List Operand
  |[]=>[]
  |(_,x)::r=>x::snds r
def evR(B:Tab)(Φ:FuncId->Option Ct)(o:Oper)(env:Env)(M:Mem):Rs:=
 match o.op with
 |.pick c a b=>cq (af3 env c a b) M
 |_=>(match c6 B Φ o (fun x=>(rd env x).strip) M with
  |⟨vc,v,e,M'⟩=>⟨ap (rh (rd env) (cd o.op)) vc,v,e,M'⟩)
def tw(B:Tab)(Φ:FuncId->Option Ct)(all:List Oper):List Oper->Env->Mem->(Env->Mem->Prop)->Prop
 |[],env,M,K=>K env M
 |o::rest,env,M,K=>
  (match o.guard with
  |none=>(match evR B Φ o env M with
   |⟨vc,v,e,M'⟩=>aka vc (tw B Φ all rest (wr o.dst v (rp env e)) M' K))
  |some (j,want)=>(match vg all j,evR B Φ o env M with
   |some dj,⟨vc,v,e,M'⟩=>bif bg [ko (gt env dj),n9 o,fm M e]then
     imp (gc (gt env dj) want) vc (tw B Φ all rest (wr o.dst (.gd j want (gc (gt env dj) want) (avF M M' v)) env) M K)else False
   |none,_=>False))
def dw(B:Tab)(Φ:FuncId->Option Ct)(all:List Oper):List Oper->Env->Mem->(Env->Prop)->Prop
 |[],env,_,K=>K env
 |o::rest,env,M,K=>
  (match o.guard with
  |none=>(match evR B Φ o env M with
   |⟨vc,v,e,M'⟩=>bif bg [n9 o,fm M e]then aka vc (dw B Φ all rest (wr o.dst (avF M M' v) env) M K)else False)
  |some (j,want)=>(match vg all j,evR B Φ o env M with
   |some dj,⟨vc,v,e,M'⟩=>bif bg [ko (gt env dj),n9 o,fm M e]then
     imp (gc (gt env dj) want) vc (dw B Φ all rest (wr o.dst (.gd j want (gc (gt env dj) want) (avF M M' v)) env) M K)else False
   |none,_=>False))
def atx:List (Nat×Bool)->Nat->Bool->Bool
 |[],_,_=>false
 |(i,w)::r,j,w'=>bif nob (Nat.beq i j) (ayh w w')then true else atx r j w'
def unG(fs:List (Nat×Bool)):V->V
 |.gd j w P v=>bif atx fs j w then v else .gd j w P v
 |v=>v
def vo:V->Bool
 |.gd _ _ _ _=>true
 |_=>false
def um(all:List Oper)(env:Env):Nat->Nat->Bool->List (Nat×Bool)
 |0,_,_=>[]
 |n+1,j,w=>(j,w)::(match vg all j with
  |some d=>(match gt env d with
   |.gd i w' _ _=>um all env n i w'
   |_=>[])
  |none=>[])
def anj(t:Nat):Option Nat->Bool
 |some d=>Nat.beq d t
 |none=>false
def bao(all:List Oper)(c:Operand)(side:Bool)(v:V):V:=
 match c,v with
 |.tmp t,.gd j w P x=>bif nob (anj t (vg all j)) (ayh w side)then x else .gd j w P x
 |_,v=>v
def ba7(all:List Oper)(fs:List (Nat×Bool))(env:Env)(c a b:Operand):List Prop×V:=
 bif bg [(rd env c).strip.isB,(rd env a).strip.isB,(rd env b).strip.isB]then
  (ap (rh (fun x=>unG fs (rd env x)) [c]) (ap (afi (rd env c).strip.boolV true (bao all c true (unG fs (rd env a)))) (afi (rd env c).strip.boolV false (bao all c false (unG fs (rd env b))))),
   .d .bool (bak (rd env c).strip.boolV a b (rd env a).strip.boolV (rd env b).strip.boolV))
 else bad
def evG(B:Tab)(Φ:FuncId->Option Ct)(all:List Oper)(fs:List (Nat×Bool))(o:Oper)(env:Env)(M:Mem):Rs:=
 match o.op with
 |.pick c a b=>cq (ba7 all fs env c a b) M
 |_=>(match c6 B Φ o (fun x=>(rd env x).strip) M with
  |⟨vc,v,e,M'⟩=>⟨ap (rh (fun x=>unG fs (rd env x)) (cd o.op)) vc,v,e,M'⟩)
def wIn(d:Nat):List Oper->Bool
 |[]=>false
 |o::r=>bif anj d o.dst then true else wIn d r
def twG(B:Tab)(Φ:FuncId->Option Ct)(all:List Oper):List Oper->Env->Mem->(Env->Mem->Prop)->Prop
 |[],env,M,K=>K env M
 |o::rest,env,M,K=>
  (match o.guard with
  |none=>(match evG B Φ all [] o env M with
   |⟨vc,v,e,M'⟩=>bif vo v then False else aka vc (twG B Φ all rest (wr o.dst v (rp env e)) M' K))
  |some (j,want)=>(match vg all j,evG B Φ all (um all env 8 j want) o env M with
   |some dj,⟨vc,v,e,M'⟩=>bif bg [ko (gt env dj),n9 o,fm M e,neg (wIn dj (o::rest))]then
     imp (gc (gt env dj) want) vc (twG B Φ all rest (wr o.dst (.gd j want (gc (gt env dj) want) (avF M M' v)) env) M K)else False
   |none,_=>False))
def dwG(B:Tab)(Φ:FuncId->Option Ct)(all tl:List Oper):List Oper->Env->Mem->(Env->Prop)->Prop
 |[],env,_,K=>K env
 |o::rest,env,M,K=>
  (match o.guard with
  |none=>(match evG B Φ all [] o env M with
   |⟨vc,v,e,M'⟩=>bif bg [n9 o,fm M e]then aka vc (dwG B Φ all tl rest (wr o.dst (avF M M' v) env) M K)else False)
  |some (j,want)=>(match vg all j,evG B Φ all (um all env 8 j want) o env M with
   |some dj,⟨vc,v,e,M'⟩=>bif bg [ko (gt env dj),n9 o,fm M e,neg (wIn dj (o::rest)),neg (wIn dj tl)]then
     imp (gc (gt env dj) want) vc (dwG B Φ all tl rest (wr o.dst (.gd j want (gc (gt env dj) want) (avF M M' v)) env) M K)else False
   |none,_=>False))
def nogd:Env->Bool
 |[]=>true
 |(_,v)::r=>bif vo v then false else nogd r
def zb:Op->Bool
 |.move _=>true
 |.assign _=>true
 |.nilCheck _=>true
 |.load _ _=>true
 |.fieldAddr _ _ _=>true
 |.field _ _ _=>true
 |.indexAddr _ _ _=>true
 |.index _ _ _=>true
 |.binOp _ _ _ _ _=>true
 |.unOp _ _ _=>true
 |.convert _ _ _=>true
 |_=>false
def cu:V->Bool
 |.d _ _=>true
 |.nl=>true
 |.np=>true
 |.u=>true
 |.p a b=>nob (cu a) (cu b)
 |.ag v=>cu v
 |.fn _ v=>cu v
 |.bx v=>cu v
 |_=>false
def ai6(env:Env):List Operand->Bool
 |[]=>true
 |x::r=>nob (cu (rd env x)) (ai6 env r)
def bph(B:Tab)(e:TypeId):Ob:=⟨.pt (B.σ e).deep,(B.σ e).deep.dflt⟩
def bt2(d:Nat):V->Bool
 |.ad k [.de]=>Nat.beq k d
 |_=>false
def one1(d:Nat):Rs->Option Ob
 |⟨[],_,_,[(k,ob)]⟩=>bif Nat.beq k d then some ob else none
 |_=>none
def bx(_:Tab)(_:FuncId->Option Ct)(_:List Oper)(_:Env)(_:Mem)(_:Env->Mem->Prop):Prop:=False
def ae6:Op->Bool
 |.move _=>true
 |.assign _=>true
 |.extract _ _=>true
 |_=>false
def newK:Op->Bool
 |.alloc _=>true
 |.build _ _=>true
 |.makeSlice _ _ _=>true
 |.buildSlice _ n p=>nob (Nat.beq n 0) (Nat.beq (len (toL p)) 0)
 |.call c=>(match c.callee with
  |.value _=>true
  |.builtin .len=>true
  |_=>false)
 |_=>false
def aco(M:Mem):V->Bool
 |.p a b=>nob (aco M a) (aco M b)
 |.ag v=>aco M v
 |.fn _ v=>aco M v
 |.bx v=>aco M v
 |.ref k _=>neg (isN (go M k))
 |.ad k _=>neg (isN (go M k))
 |.gd _ _ _ _=>false
 |.ifc _ _=>false
 |.tup _=>false
 |_=>true
def alm(M:Mem)(env:Env):List Operand->Bool
 |[]=>true
 |x::r=>nob (aco M (rd env x)) (alm M env r)
def sldK(o:Op)(env:Env):Bool:=
 match o with
 |.slice _ _ _ _ none=>ai6 env (cd o)
 |_=>false
def litK(o:Op)(env:Env):Bool:=
 match o with
 |.buildSlice _ _ _=>ai6 env (cd o)
 |.call c=>(match c.callee with
  |.builtin .append=>ai6 env (cd o)
  |_=>false)
 |_=>false
def aj9(M:Mem)(o:Op)(env:Env):Bool:=orb (ae6 o) (orb (orb (sldK o env) (litK o env)) (nob (orb (zb o) (newK o)) (alm M env (cd o))))
def klB:List Ev->Mem->Bool
 |[],[]=>true
 |.kl k::r,(j,_)::N=>nob (Nat.beq k j) (klB r N)
 |_,_=>false
def ahk:List Nat->Mem->Bool
 |[],_=>true
 |k::r,M=>nob (isN (go M k)) (ahk r M)
def vl:V->Bool
 |.p a b=>nob (vl a) (vl b)
 |.ag v=>vl v
 |.tup v=>vl v
 |.fn _ v=>vl v
 |.ifc _ v=>vl v
 |.bx v=>vl v
 |.gd _ _ _ _=>false
 |_=>true
def y9:Env->Bool
 |[]=>true
 |(_,v)::r=>nob (vl v) (y9 r)
def abu:Op->Bool
 |.build _ _=>true
 |.slice _ _ _ _ none=>true
 |.call c=>(match c.callee with
  |.builtin .len=>true
  |_=>false)
 |_=>false
def uy(o:Op):Bool:=nob (orb (zb o) (abu o)) (neg (ae6 o))
def ksV(ks:List Nat):V->Bool
 |.d _ _=>true
 |.nl=>true
 |.np=>true
 |.u=>true
 |.p a b=>nob (ksV ks a) (ksV ks b)
 |.ag v=>ksV ks v
 |.fn _ v=>ksV ks v
 |.bx v=>ksV ks v
 |.ref k _=>inN k ks
 |.ad k _=>inN k ks
 |_=>false
def u7(ks:List Nat)(env:Env):List Operand->Bool
 |[]=>true
 |x::r=>nob (ksV ks (rd env x)) (u7 ks env r)
def apn(env:Env):List Oper->List Nat
 |[]=>[]
 |o::r=>(match o.op with
  |.load _ (.tmp t)=>(match gt env t with
   |.bx (.ad k _)=>k::apn env r
   |_=>apn env r)
  |_=>apn env r)
def bhc(τ:Ty):Bool:=bg [τ.ok,dz τ.size 1,neg τ.agg]
def bxK(B:Tab)(as:List Nat)(o:Op)(env:Env):Bool:=
 match o with
 |.load t (.tmp t0)=>(match gt env t0 with
  |.bx (.ad k π)=>bg [ab2 π,inN k as,bhc (B.τ t)]
  |_=>false)
 |_=>false
def ahm(as:List Nat):Ev->Bool
 |.kl k=>neg (inN k as)
 |.fz k _=>neg (inN k as)
 |.cut k o o'=>orb (neg (inN k as)) (y7 (qu [.de] o) (qu [.de] o'))
 |.mv j _=>neg (inN j as)
 |.un j _=>neg (inN j as)
 |.tk k o o'=>orb (neg (inN k as)) (y7 (qu [.de] o) (qu [.de] o'))
def amt(as:List Nat):List Ev->Bool
 |[]=>true
 |e::r=>nob (ahm as e) (amt as r)
def alo(ms:List Nat)(o:Oper):Nat:=o.after.toList.foldl (fun m e=>if Region.binds .any e then m |||(1 <<< e.on) |||(ms.getD e.on 0)else m) 0
def ew:List Nat->List Oper->List Nat
 |ms,[]=>ms
 |ms,o::r=>ew (ms++[alo ms o]) r
def tc(n:Nat)(ms:List Nat)(m i:Nat):Bool:=(List.range n).any fun j=>!(Nat.blt j m)&&!((ms.getD j 0).testBit i)
def bax(l:List Oper)(m:Nat):List Bool:=(List.range m).map fun i=>tc (len l) (ew [] l) m i
def aj3:List Bool->Bool
 |[]=>false
 |b::_=>b
def ajx:List Bool->List Bool
 |[]=>[]
 |_::r=>r
def hx(D:List Bool)(ks as:List Nat)(B:Tab)(Φ:FuncId->Option Ct)(M0:Mem):List Oper->Env->Mem->(Env->Mem->Prop)->Prop
 |[],env,X,K=>K env X
 |o::r,env,X,K=>
  (match o.guard,o.dst with
  |none,some d=>bif aj9 (ap X M0) o.op env then (match evR B Φ o env (ap X M0)with
   |⟨vc,v,e,N⟩=>bif bg [klB e (fk (len e) N),ahk (cc (fk (len e) N)) M0,ahk (cc (fk (len e) N)) X,vl v,orb (neg (aj3 D)) (orb (neg (uy o.op)) (orb (bxK B as o.op env) (nob (u7 ks env (cd o.op)) (ksV ks v))))]then aka vc (hx (ajx D) ks as B Φ M0 r ((d,v)::env) (ap (fk (len e) N) X) K)else False)else False
  |_,_=>False)
def bt1(o:Oper):Bool:=
 match o.op with
 |.call c=>(match c.callee with
  |.value _=>true
  |_=>false)
 |_=>false
def au3(o:Oper):Bool:=
 match o.op with
 |.call c=>(match c.callee with
  |.value _=>true
  |.builtin .append=>true
  |_=>false)
 |.buildSlice _ _ _=>true
 |.binOp _ _ _ _ _=>true
 |.unOp _ _ _=>true
 |.convert _ _ _=>true
 |_=>false
def ip(ks:List Nat):Ev->Bool
 |.kl k=>neg (inN k ks)
 |.fz k _=>neg (inN k ks)
 |.cut k _ _=>neg (inN k ks)
 |.mv j k=>nob (neg (inN j ks)) (neg (inN k ks))
 |.un j k=>nob (neg (inN j ks)) (neg (inN k ks))
 |.tk k _ _=>neg (inN k ks)
def cz(ks:List Nat):List Ev->Bool
 |[]=>true
 |e::r=>nob (ip ks e) (cz ks r)
def adj(l:List Oper)(m:Nat):List Bool:=(List.range (Nat.sub (len l) m)).map fun j=>(List.range m).any fun i=>!(((ew [] l).getD (Nat.add m j) 0).testBit i)
def aqk:List Bool->List Oper->List Oper
 |b::bs,o::r=>bif nob b (uy o.op)then o::aqk bs r else aqk bs r
 |_,_=>[]
def ac4(l:List Oper)(m:Nat):List (List Oper):=(List.range (Nat.sub (len l) m)).map fun j=>aqk ((List.range m).map fun i=>!(((ew [] l).getD (Nat.add m j) 0).testBit i)) (fk m l)
def hdP:List (List Oper)->List Oper
 |[]=>[]
 |a::_=>a
def tlP:List (List Oper)->List (List Oper)
 |[]=>[]
 |_::r=>r
def apy:bq->bq->Bool
 |[],[]=>true
 |.l::a,.l::b=>apy a b
 |.r::a,.r::b=>apy a b
 |.de::a,.de::b=>apy a b
 |.ix i::a,.ix j::b=>nob (Nat.beq i j) (apy a b)
 |_,_=>false
def bm3:V->V->Bool
 |.ref k π,.ref j ρ=>nob (Nat.beq k j) (apy π ρ)
 |.ad k π,.ad j ρ=>nob (Nat.beq k j) (apy π ρ)
 |_,_=>false
def stB(B:Tab)(Φ:FuncId->Option Ct)(ks:List Nat):List Oper->Env->Mem->Bool
 |[],_,_=>true
 |o::r,env,M=>(match o.dst,evR B Φ o env M with
  |some d,⟨[],v,[],_⟩=>nob (nob (aj9 M o.op env) (nob (u7 ks env (cd o.op)) (ksV ks v))) (nob (bm3 v (gt env d)) (stB B Φ ks r env M))
  |_,_=>false)
def bcy(o:Oper):Bool:=
 match o.op with
 |.store _ _ _=>true
 |_=>false
def bat:List Oper->Bool
 |[]=>true
 |o::r=>nob (neg (uy o.op)) (bat r)
def agk(ks as:List Nat)(B:Tab)(Φ:FuncId->Option Ct):List (List Oper)->List Bool->List Oper->Env->Mem->Bool
 |_,_,[],_,_=>true
 |ls,fs,o::r,env,M=>(match evR B Φ o env M with
  |⟨_,v,e,M'⟩=>nob (nob (nob (amt as e) (orb (neg (aj3 fs)) (orb (al6 ks) (orb (neg (au3 o)) (orb (cz ks e) (stB B Φ ks (hdP ls) (wr o.dst v (rp env e)) M')))))) (orb (neg (bcy o)) (orb (al6 ks) (orb (bat (hdP ls)) (orb (cz ks e) (stB B Φ ks (hdP ls) (wr o.dst v (rp env e)) M')))))) (agk ks as B Φ (tlP ls) (ajx fs) r (wr o.dst v (rp env e)) M'))
def aen:List Oper->List Nat
 |[]=>[]
 |o::r=>(match o.op,o.dst with
  |.alloc _,some d=>d::aen r
  |_,_=>aen r)
def tgt(o:Oper):Option Nat:=
 match o.op with
 |.store _ (.tmp d) _=>some d
 |_=>none
def bix:List Oper->List Nat
 |[]=>[]
 |o::r=>(match tgt o with
  |some d=>d::bix r
  |none=>bix r)
def avw(env:Env):List Operand->List Nat
 |[]=>[]
 |x::r=>(match rd env x with
  |.ad k _=>k::avw env r
  |.ref k _=>k::avw env r
  |_=>avw env r)
def aib(env:Env):List Oper->List Nat
 |[]=>[]
 |o::r=>ap (avw env (cd o.op)) (aib env r)
def klE:List Nat->Env->Env
 |[],env=>env
 |k::r,env=>klE r (evE (.kl k) env)
def klM:List Nat->Mem->Mem
 |[],M=>M
 |k::r,M=>klM r (del k M)
def clr:Env->Env
 |[]=>[]
 |(t,v)::r=>(match v with|.gd _ _ _ _=>(t,.any)::clr r|v=>(t,v)::clr r)
def bhy(Φ:FuncId->Option Ct)(f:FuncId)(ct:Ct):FuncId->Option Ct:=fun g=>bif Nat.beq g f then some ct else Φ g
structure Spl where
 b:Bool
 f:FuncId
 s:Sp
def argX(s:Sp)(vs:List V)(M:Mem):Option (dy s.args):=
 match s.sh with
 |false=>v6 M vs s.args
 |true=>(match mw M vs with|(e,_)=>asL (rn e vs) s.args)
def aqv(Φ:FuncId->Option Ct)(o:Oper)(env:Env)(M:Mem):Option Spl:=
 match o.op with
 |.call c=>(match c.callee with
  |.value cx=>(match ako (rd env cx).strip with
   |some (f,v)=>(match Φ f,qv M v with
    |some ct,some cs=>(match ct.mu with
     |some (.s s)=>(match argX s (ap (rz (fun x=>(rd env x).strip) (toL c.args)) cs) M with
      |some x=>some ⟨s.b x,f,s⟩
      |none=>none)
     |_=>none)
    |_,_=>none)
   |none=>none)
  |_=>none)
 |_=>none
def twS(B:Tab)(Φ:FuncId->Option Ct)(all:List Oper):List Oper->Env->Mem->(Env->Mem->Prop)->Prop
 |[],env,M,K=>K env M
 |o::rest,env,M,K=>bif nob (nogd env) (isN o.guard)then
  (match aqv Φ o env M with
  |some q=>cnd q.b (twG B (bhy Φ q.f (ti q.s true)) all [o] env M (fun env M=>twS B Φ all rest env M K)) (twG B (bhy Φ q.f (ti q.s false)) all [o] env M (fun env M=>twS B Φ all rest env M K))
  |none=>twG B Φ all [o] env M (fun env M=>twS B Φ all rest env M K))else False
def twQ(_:Tab)(_:FuncId->Option Ct)(_:List Oper)(_:List Oper)(_:Env)(_:Mem)(_:Env->Mem->Prop):Prop:=False
def plc:List Nat->Nat->Nat
 |[],_=>0
 |k::r,i=>bif Nat.beq k i then 0 else Nat.succ (plc r i)
def bji{α β:Type}(f:α->β):List α->List β
 |[]=>[]
 |x::r=>f x::bji f r
def bmo(σ:List Nat)(e:Edge):Edge:={ e with on:=plc σ e.on }
def alz(σ:List Nat)(o:Oper):Oper:={ o with after:=⟨bji (bmo σ) (toL o.after)⟩ }
def abq(σ:List Nat)(l:List Oper):List Nat->List Oper
 |[]=>[]
 |k::r=>(match m5 l k with|some o=>alz σ o::abq σ l r|none=>abq σ l r)
def bpq(f:List Nat):List Edge->Bool
 |[]=>false
 |e::r=>bif nob (Region.binds .any e) (inN e.on f)then true else bpq f r
def slow(R:Bool)(o:Oper):Bool:=orb (neg (n9 o)) (orb (nob R (bt1 o)) (match o.op with
 |.box _ _=>true
 |_=>false))
def axc(R:Bool):Nat->List Oper->List Nat->List Nat
 |_,[],f=>f
 |j,o::r,f=>bif orb (slow R o) (bpq f (toL o.after))then axc R (Nat.succ j) r (ap f [j])else axc R (Nat.succ j) r f
def bms(f:List Nat):Nat->List Oper->List Nat
 |_,[]=>[]
 |j,_::r=>bif inN j f then bms f (Nat.succ j) r else j::bms f (Nat.succ j) r
def aui(R:Bool)(l:List Oper):List Nat:=match axc R 0 l []with|f=>ap (bms f 0 l) f
def im(R:Bool)(l:List Oper):List Oper:=match aui R l with|σ=>abq σ l σ
inductive Sh where
 |d (t:T)
 |ref (k:Nat) (π:bq)
 |ad (k:Nat) (π:bq)
 |fn (f:FuncId)
 |bx (s:Sh)
 |fc (f:FuncId) (s:Sh)
 |pr (a b:Sh)
 |u
@[reducible] def Sh.den:Sh->Type
 |.d t=>t.den
 |.bx s=>s.den
 |.fc _ s=>s.den
 |.pr a b=>a.den×b.den
 |_=>Unit
def oOf(k:Nat):List (Nat×O)->Option O
 |[]=>none
 |(j,o)::r=>bif Nat.beq j k then some o else oOf k r
def ba2(M:Mem)(os:List (Nat×O))(k:Nat)(π:bq):Bool:=
 match go M k,oOf k os with
 |some q,some o=>orb (w8 π) (q.o.beq o)
 |_,_=>false
def bhp(M:Mem)(os:List (Nat×O))(k:Nat)(π:bq):Bool:=
 match go M k,oOf k os with
 |some q,some o=>orb (y7 (qu π q.o) (qu π o)) (q.o.beq o)
 |_,_=>false
def Sh.read(M:Mem)(os:List (Nat×O)):(s:Sh)->V->Option s.den
 |.d t,v=>v.as t
 |.ref k π,.ref k' π'=>bif nob (ba2 M os k π) (nob (Nat.beq k k') (peq π π'))then some ()else none
 |.ad k π,.ad k' π'=>bif nob (bhp M os k π) (nob (Nat.beq k k') (peq π π'))then some ()else none
 |.fn f,.fn f' .u=>bif Nat.beq f f' then some ()else none
 |.bx s,.bx v=>s.read M os v
 |.fc f s,.fn f' v=>bif Nat.beq f f' then s.read M os v else none
 |.pr a b,.p v v'=>(match a.read M os v,b.read M os v' with|some x,some y=>some (x,y)|_,_=>none)
 |.u,.u=>some ()
 |_,_=>none
def Sh.put:(s:Sh)->s.den->V
 |.d t,x=>kg t x
 |.ref k π,_=>.ref k π
 |.ad k π,_=>.ad k π
 |.fn f,_=>.fn f .u
 |.bx s,x=>.bx (s.put x)
 |.fc f s,x=>.fn f (s.put x)
 |.pr a b,x=>.p (a.put x.1) (b.put x.2)
 |.u,_=>.u
abbrev Shs:=List (Nat×Sh)
abbrev Obs:=List (Nat×O)
@[reducible] def aba:Shs->Type
 |[]=>Unit
 |(_,s)::r=>s.den×aba r
@[reducible] def tg:Obs->Type
 |[]=>Unit
 |(_,o)::r=>o.strip.den×tg r
def aq5(M:Mem)(os:Obs)(env:Env):(l:Shs)->Option (aba l)
 |[]=>some ()
 |(t,s)::r=>(match s.read M os (gt env t),aq5 M os env r with|some x,some y=>some (x,y)|_,_=>none)
def al5:(l:Shs)->aba l->Env
 |[],_=>[]
 |(t,s)::r,x=>(t,s.put x.1)::al5 r x.2
def wkO(q:Ob)(o:O):Option o.strip.den:=bif q.o.wk o then od o.strip q.x else none
def xh(M:Mem):(l:Obs)->Option (tg l)
 |[]=>some ()
 |(k,o)::r=>(match go M k with
  |some q=>(match wkO q o,xh M r with|some x,some y=>some (x,y)|_,_=>none)
  |none=>none)
def lu:(l:Obs)->tg l->Mem
 |[],_=>[]
 |(k,o)::r,x=>(k,⟨o,x.1⟩)::lu r x.2
def inO(k:Nat):Obs->Bool
 |[]=>false
 |(j,_)::r=>orb (Nat.beq j k) (inO k r)
def qk(os:Obs):List Nat->Mem->Env->Env×Mem
 |[],M,env=>(env,M)
 |k::r,M,env=>bif inO k os then qk os r M env else (match go M k with
  |some ob=>qk os r (del k M) (evE (.fz k ob) env)
  |none=>qk os r M env)
def sd(os:Obs):Shs->Env->Mem->Env×Mem
 |[],env,M=>(env,M)
 |(t,.ref k [])::r,env,M=>(match gt env t,oOf k os with
  |.nl,some (.sl o)=>sd os r ((t,.ref k [])::evE (.kl k) env) ((k,⟨.sl o,[]⟩)::del k M)
  |.ref j [],_=>bif orb (Nat.beq j k) (neg (Nat.ble (Nat.succ j) gid))then sd os r env M else (match go M j with
   |some ob=>sd os r (evE (.mv j k) (evE (.kl k) env)) ((k,ob)::del j (del k M))
   |none=>sd os r env M)
  |_,_=>sd os r env M)
 |_::r,env,M=>sd os r env M
def afj:Obs->Env->Mem->Env×Mem
 |[],env,M=>(env,M)
 |(k,.sl (.op e))::r,env,M=>(match go M k with
  |some ⟨.sl e',l⟩=>(match ri ⟨.sl e',l⟩ (.sl e)with
   |some l'=>afj r (evE (.cut k (.sl e') (.sl (.op e))) env) (put k ⟨.sl (.op e),ab1 l'⟩ M)
   |none=>afj r env M)
  |_=>afj r env M)
 |_::r,env,M=>afj r env M
def ajr(ss:Shs)(os:Obs)(env:Env)(M:Mem):Option ((aba ss×tg os)×Env):=
 match sd os ss env M with
 |(env0,M0)=>match afj os env0 M0 with
 |(env1,M1)=>(match qk os (cc M1) M1 env1 with
  |(env2,M2)=>(match aq5 M2 os env2 ss,xh M2 os with
   |some x,some y=>some ((x,y),env2)
   |_,_=>none))
def ah8(env:Env):List Nat->Env
 |[]=>[]
 |t::r=>bif cu (gt env t)then (t,gt env t)::ah8 env r else ah8 env r
def vn(k:Nat):List Nat->Bool
 |[]=>false
 |j::r=>orb (Nat.beq j k) (vn k r)
def bbl(ks:List Nat):List Oper->Bool
 |[]=>true
 |o::r=>(match o.dst with
  |some d=>bif vn d ks then false else bbl ks r
  |none=>bbl ks r)
def noW(ks:List Nat):Code->Bool
 |.region _ ops _=>bbl ks (toL ops)
 |.seq a b=>nob (noW ks a) (noW ks b)
 |.cond _ a b=>nob (noW ks a) (noW ks b)
 |.block _ c=>noW ks c
 |.loop c=>noW ks c
 |.scope c=>noW ks c
 |.label _=>true
 |.skip=>true
 |.ret=>true
 |.exit _=>true
 |.goto _=>true
 |_=>false
def T.oks:(t:T)->t.den->List Prop
 |.int k,n=>[inK k n]
 |.p a b,x=>ap (a.oks x.1) (b.oks x.2)
 |.sl e,l=>[(T.sl e).ok l]
 |.pt t,x=>t.oks x
 |.fn _ t,x=>t.oks x
 |.ifc _ t,x=>t.oks x
 |.mp k v,l=>[(T.mp k v).ok l]
 |.op t,x=>[(T.op t).ok x]
 |.ns t,x=>[(T.ns t).ok x]
 |.str,s=>[s.size<=nb]
 |.er _,_=>[]
 |.bool,_=>[]
 |.u,_=>[]
 |.any,_=>[]
def Sh.oks:(s:Sh)->s.den->List Prop
 |.d t,x=>t.oks x
 |.bx s,x=>s.oks x
 |.fc _ s,x=>s.oks x
 |.pr a b,x=>ap (a.oks x.1) (b.oks x.2)
 |.ref _ _,_=>[]
 |.ad _ _,_=>[]
 |.fn _,_=>[]
 |.u,_=>[]
def okS:(l:Shs)->aba l->List Prop
 |[],_=>[]
 |(_,s)::r,x=>ap (s.oks x.1) (okS r x.2)
def okO:(l:Obs)->tg l->List Prop
 |[],_=>[]
 |(_,o)::r,x=>ap (o.strip.oks x.1) (okO r x.2)
def aki:List Prop->Prop->Prop
 |[],K=>K
 |p::r,K=>p->aki r K
def anc{S:Type}(body:S->(S->Prop)->Prop):Nat->S->Prop
 |0,_=>False
 |n+1,s=>body s (anc body n)
def bc{S:Type}(body:S->(S->Prop)->Prop)(s:S):Prop:=∃n,anc body n s
def jd{S:Type}(k:S->Prop)(f:(S->Prop)->Prop):Prop:=f k
inductive Ann where
 |n
 |s (a b:Ann)
 |l (ss:Shs) (os:Obs) (ks:List Nat) (a:Ann)
 |j (ss:Shs) (os:Obs) (ks:List Nat) (a:Ann)
def Ann.fst:Ann->Ann
 |.s a _=>a
 |a=>a
def Ann.snd:Ann->Ann
 |.s _ b=>b
 |a=>a
inductive Ex where
 |nm
 |ex (id:Nat)
 |rt
 |go (l:Nat)
def bij(ss:Shs)(os:Obs)(env:Env)(M:Mem)(k:aba ss×tg os->Prop):Prop:=
 match ajr ss os env M with
 |some s=>k s.1
 |none=>False
def bcg(next:Env->Mem->Prop)(K:Ex->Env->Mem->Prop):Ex->Env->Mem->Prop
 |.nm,env,M=>next env M
 |.ex id,env,M=>K (.ex id) env M
 |.rt,env,M=>K .rt env M
 |.go l,env,M=>K (.go l) env M
def ahn(ss:Shs)(os:Obs)(k:aba ss×tg os->Prop)(K:Ex->Env->Mem->Prop):Ex->Env->Mem->Prop
 |.nm,env,M=>bij ss os env M k
 |.ex id,env,M=>K (.ex id) env M
 |.rt,env,M=>K .rt env M
 |.go l,env,M=>K (.go l) env M
def bcv(id:Nat)(K:Ex->Env->Mem->Prop):Ex->Env->Mem->Prop
 |.nm,env,M=>K .nm env M
 |.ex id',env,M=>bif Nat.beq id' id then K .nm env M else K (.ex id') env M
 |.rt,env,M=>K .rt env M
 |.go l,env,M=>K (.go l) env M
def scpK(K:Ex->Env->Mem->Prop):Ex->Env->Mem->Prop
 |.nm,env,M=>K .nm env M
 |.ex id,env,M=>K (.ex id) env M
 |.rt,env,M=>K .rt env M
 |.go _,_,_=>False
def onK(ss:Shs)(os:Obs)(ks:List Nat)(env:Env)(K:Ex->Env->Mem->Prop)(s:aba ss×tg os):Prop:=aki (okS ss s.1) (aki (okO os s.2) (K .nm (ap (al5 ss s.1) (ah8 env ks)) (lu os s.2)))
def decN:Nat->Nat->List Nat
 |0,_=>[]
 |f+1,n=>bif Nat.beq n 0 then []else Nat.sub (Nat.mod n 10000000) 1::decN f (Nat.div n 10000000)
def decK(n:Nat):List Nat:=decN 20 (Nat.div n 10000)
def hrC(n:Nat):Bool:=neg (Nat.ble 5000 (Nat.mod n 10000))
def mC(n:Nat):Nat:=Nat.mod n 2500
def bnc(n:Nat):Nat:=bif Nat.ble 5000 n then 5000 else bif Nat.ble 3000 n then 3000 else 2000
def bor(n:Nat):Bool:=nob (Nat.ble 3000 n) (neg (Nat.ble 5000 n))
def fzL:List (Bool×O)->List (Bool×O)
 |[]=>[]
 |q::r=>(q.1,.fz q.2.strip)::fzL r
def fzX:(rt:List (Bool×O))->je rt->je (fzL rt)
 |[],_=>()
 |_::r,x=>(x.1,fzX r x.2)
def fzCt(ct:Ct):Ct:=⟨ct.args,ct.ga,ct.pre,fzL ct.rt,fun x=>fzX ct.rt (ct.res x),true,none⟩
def biw(Φ:FuncId->Option Ct):FuncId->Option Ct:=fun f=>match Φ f with
 |some ct=>(match ct.mu with
  |none=>some (fzCt ct)
  |some _=>some ct)
 |none=>none
def bcq(env:Env):List Operand->List Nat
 |[]=>[]
 |x::r=>(match rd env x with
  |.ref k _=>k::bcq env r
  |_=>bcq env r)
def aub(env:Env):List Oper->List Nat
 |[]=>[]
 |o::r=>ap (bcq env (cd o.op)) (aub env r)
def amy:Nat->List Oper->Nat
 |i,[]=>i
 |i,o::r=>(match o.op with
  |.alloc _=>i
  |_=>amy (Nat.succ i) r)
def ab4:Nat->List Oper->Nat
 |i,[]=>i
 |i,o::r=>bif n9 o then ab4 (Nat.succ i) r else i
def bo2(i:Nat)(o:Oper):Oper:={ o with after:=⟨ap (toL o.after) [⟨i,.data⟩]⟩ }
def bm7:Nat->Nat->List Oper->List Oper
 |_,_,[]=>[]
 |0,i,o::r=>bo2 i o::r
 |Nat.succ j,i,o::r=>o::bm7 j i r
def bim:Nat->Nat->List Nat
 |_,0=>[]
 |a,Nat.succ k=>a::bim (Nat.succ a) k
def mvS(i j n:Nat):List Nat:=ap (bim 0 i) (j::ap (bim i (Nat.sub j i)) (bim (Nat.succ j) (Nat.sub n (Nat.succ j))))
def bhs(l:List Oper):List Oper:=bm7 (amy 0 l) (ab4 0 l) l
def bis(l:List Oper):List Oper:=abq (mvS (ab4 0 l) (amy 0 l) (len l)) (bm7 (ab4 0 l) (amy 0 l) l) (mvS (ab4 0 l) (amy 0 l) (len l))
def hxT(_:Tab)(_:FuncId->Option Ct)(_:List Oper)(_:Nat)(_:Env)(_:Mem)(_:Env->Mem->Prop):Prop:=False
def ev(B:Tab)(Φ:FuncId->Option Ct)(cut:Nat->Nat):Code->Ann->(Ex->Env->Mem->Prop)->Env->Mem->Prop
 |.skip,_,K,env,M=>K .nm env M
 |.ret,_,K,env,M=>K .rt env M
 |.exit id,_,K,env,M=>K (.ex id) env M
 |.goto l,_,K,env,M=>K (.go l) env M
 |.label _,_,K,env,M=>K .nm env M
 |.scope c,A,K,env,M=>ev B Φ cut c A (scpK K) env M
 |.seq x y,.j ss os ks A,K,env,M=>bif noW ks x then
   jd (onK ss os ks env (bcg (fun env M=>ev B Φ cut y A.snd K env M) K)) (fun k=>ev B Φ cut x A.fst (ahn ss os k (bcg (fun env M=>ev B Φ cut y A.snd K env M) K)) env M)else False
 |.seq x y,A,K,env,M=>ev B Φ cut x A.fst (bcg (fun env M=>ev B Φ cut y A.snd K env M) K) env M
 |.region id ops draw,_,K,env,M=>
  (match draw with
  |false=>bif Nat.beq (cut id) 1600 then (bif nogd env then twQ B Φ (toL ops) (toL ops) env M (fun env M=>K .nm (clr env) M)else False)else
   bif Nat.beq (cut id) 1500 then twS B Φ (toL ops) (toL ops) env M (fun env M=>K .nm (clr env) M)else
   bif nogd env then twG B Φ (toL ops) (toL ops) env M (fun env M=>K .nm (clr env) M)else False
  |true=>bif Nat.beq (cut id) 999999 then (match qk [] (aib env (toL ops)) M env with
    |(env1,M1)=>bx B Φ (toL ops) (klE (aen (toL ops)) env1) [] (fun env X=>K .nm (clr env) (ap X (klM (aen (toL ops)) M1))))else
   bif Nat.beq (cut id) 999998 then (hxT B Φ (bhs (toL ops)) (ab4 0 (toL ops)) env M (fun env M=>K .nm (clr env) M)/\hxT B Φ (bis (toL ops)) (Nat.succ (ab4 0 (toL ops))) env M (fun env M=>K .nm (clr env) M))else
   bif Nat.ble 10000 (cut id)then
    (match decK (cut id),hrC (cut id),mC (cut id)with
    |ks,hr,m=>bif y9 env then hx (bax (im hr (toL ops)) m) ks [] B Φ M (fk m (im hr (toL ops))) env [] (fun env X=>bif nob (nogd env) (agk ks [] B Φ (ac4 (im hr (toL ops)) m) (adj (im hr (toL ops)) m) (tj m (im hr (toL ops))) env (ap X M))then twG B Φ (im hr (toL ops)) (tj m (im hr (toL ops))) env (ap X M) (fun env M=>K .nm (clr env) M)else False)else False)else
   bif Nat.ble 2000 (cut id)then
    (match (bif bor (cut id)then qk [] (aib env (toL ops)) M env else (env,M)),Nat.sub (cut id) (bnc (cut id)),(bif Nat.ble 5000 (cut id)then apn env (toL ops)else [])with
    |(env,M),m,as=>bif y9 env then hx (bax (im false (toL ops)) m) [] as B Φ M (fk m (im false (toL ops))) env [] (fun env X=>bif nob (nogd env) (agk [] as B Φ (ac4 (im false (toL ops)) m) (adj (im false (toL ops)) m) (tj m (im false (toL ops))) env (ap X M))then twG B Φ (im false (toL ops)) (tj m (im false (toL ops))) env (ap X M) (fun env M=>K .nm (clr env) M)else False)else False)else
   bif Nat.ble 1000 (cut id)then
    (match qk [] (aub env (toL ops)) M env with
    |(env,M)=>bif y9 env then hx [] [] [] B (biw Φ) M (fk (Nat.sub (cut id) 1000) (toL ops)) env [] (fun env X=>bif nogd env then twG B (biw Φ) (toL ops) (tj (Nat.sub (cut id) 1000) (toL ops)) env (ap X M) (fun env M=>K .nm (clr env) M)else False)else False)else
   bif Nat.ble 500 (cut id)then
    (bif y9 env then hx [] [] [] B Φ M (fk (Nat.sub (cut id) 500) (toL ops)) env [] (fun env X=>bif nogd env then twG B Φ (toL ops) (tj (Nat.sub (cut id) 500) (toL ops)) env (ap X M) (fun env M=>K .nm (clr env) M)else False)else False)else
   bif nogd env then dwG B Φ (toL ops) (tj (cut id) (toL ops)) (fk (cut id) (toL ops)) env M (fun env=>twG B Φ (toL ops) (tj (cut id) (toL ops)) env M (fun env M=>K .nm (clr env) M))else False)
 |.cond (.tmp t) x y,.j ss os ks A,K,env,M=>bif bg [(gt env t).isB,noW ks x,noW ks y]then
   jd (onK ss os ks env K) (fun k=>cnd (gt env t).boolV (ev B Φ cut x A.fst (ahn ss os k K) env M) (ev B Φ cut y A.snd (ahn ss os k K) env M))else False
 |.cond (.tmp t) x y,A,K,env,M=>bif (gt env t).isB then cnd (gt env t).boolV (ev B Φ cut x A.fst K env M) (ev B Φ cut y A.snd K env M)else False
 |.block id c,.j ss os ks A,K,env,M=>bif noW ks c then
   jd (onK ss os ks env K) (fun k=>ev B Φ cut c A (bcv id (ahn ss os k K)) env M)else False
 |.block id c,A,K,env,M=>ev B Φ cut c A (bcv id K) env M
 |.loop c,.l ss os ks A,K,env,M=>bif noW ks c then (match ajr ss os env M with
  |some q=>bc (S:=aba ss×tg os) (fun s next=>aki (okS ss s.1) (aki (okO os s.2) (ev B Φ cut c A (ahn ss os next K) (ap (al5 ss s.1) (ah8 q.2 ks)) (lu os s.2)))) q.1
  |none=>False)else False
 |_,_,_,_,_=>False
def aa4:Nat->List V->Env
 |_,[]=>[]
 |i,v::r=>(i,v)::aa4 (Nat.succ i) r
def xj(B:Tab):List TypeId->(ts:List T)->dy ts->List V
 |_,[],_=>[]
 |[],t::ts,x=>kg t x.1::xj B [] ts x.2
 |q::qs,t::ts,x=>xd (B.τ q).agg (kg t x.1)::xj B qs ts x.2
def agL(B:Tab)(fn:Func):List Bool:=ap ((toL fn.params).map (fun q=>(B.τ q).agg)) (ac0 false fn.nfree)
def okL:(ts:List T)->dy ts->List Prop
 |[],_=>[]
 |t::ts,x=>ap (t.oks x.1) (okL ts x.2)
def bjh(M:Mem)(o:O)(v:V):Option (o.strip.den×List Ev×Mem):=
 match o with
 |.fz t=>(match ca M v with|(e,M')=>(match (v.evs e).as t with|some x=>some (x,e,M')|none=>none))
 |o=>(match conv gid o.strip v M with
  |some (q,e,M')=>(match wkO q o with|some x=>some (x,e,M')|none=>none)
  |none=>none)
def aw6(B:Tab)(env:Env)(M:Mem):ResultVar->Option V
 |.tmp t=>some (gt env t)
 |.cell t q=>(match x8 (B.τ q) M (gt env t)with|([],v)=>some v|_=>none)
def kw:V->Bool
 |.any=>false
 |.tup _=>false
 |.gd _ _ _ _=>false
 |_=>true
def mo(g:Bool):V->V
 |.ag v=>bif g then v else .any
 |v=>bif g then .any else v
def apk(B:Tab)(env:Env)(M:Mem):List ResultVar->(rs:List (Bool×O))->Option (je rs)
 |[],[]=>some ()
 |r::rs,q::qs=>(match aw6 B env M r with
  |some v=>bif kw (mo q.1 v)then (match bjh M q.2 (mo q.1 v)with
   |some (x,e,M')=>(match apk B (rp env e) M' rs qs with
    |some y=>some (x,y)
    |none=>none)
   |none=>none)else none
  |none=>none)
 |_,_=>none
def bir{rt:List (Bool×O)}(o:Option (je rt))(K:je rt->Prop):Prop:=
 match o with
 |some r=>K r
 |none=>False
def bop(B:Tab)(rs:List ResultVar)(rt:List (Bool×O))(K:je rt->Prop):Ex->Env->Mem->Prop
 |.ex _,_,_=>False
 |.go _,_,_=>False
 |.nm,env,M=>bir (apk B env M rs rt) K
 |.rt,env,M=>bir (apk B env M rs rt) K
def evF(B:Tab)(Φ:FuncId->Option Ct)(cut:Nat->Nat)(fn:Func)(c:Code)(A:Ann)(ct:Ct)(x:dy ct.args)(K:je ct.rt->Prop):Prop:=ev B Φ cut c A (bop B (toL fn.results) ct.rt K) (aa4 0 (xj B (toL fn.params) ct.args x)) []
def afc:Option TypeDesc->Bool
 |some (.int _)=>true
 |_=>false
def ac8(P:Program):List Field->Nat->Bool
 |[],_=>true
 | f :: r, i => bif bg [neg (f.name == "_"), Nat.beq f.offset i, afc (P.underlying f.type)] then ac8 P r (Nat.succ i) else false
def ax1(P:Program)(t:TypeId):Nat:=
 match P.underlying t with
 |some (.struct fs)=>bif bg [neg (P.stoodInHeld t),neg (P.eqGuardType P.depth t),ac8 P (toL fs) 0]then len (toL fs)else 0
 |some (.array n e)=>bif bg [neg (P.eqGuardType P.depth t),afc (P.underlying e),Nat.beq (P.cellsOf e) 1]then n else 0
 |_=>0
def aw5:Option TypeDesc->Bool
 |some (.slice _)=>true
 |_=>false
def bn1(P:Program)(ms:Array Method):Option TypeDesc->Bool
 |some (.interface want)=>isN (Instr.missingMethod want ms)
 |_=>false
def isM(f:FuncId):Option Method->Bool
 |some m=>(match toL m.path,m.func with
  |[],some (g,b)=>nob (Nat.beq f g) (neg b)
  |_,_=>false)
 |none=>false
def bh3(P:Program)(e:Mth):Bool:=
 match P.info? e.t with
 |some inf=>bg [aw5 (P.underlying e.t),bn1 P inf.methods (P.underlying e.i),isM e.f (inf.methods.find? (·.name==e.name))]
 |none=>false
def apt(P:Program):List Mth->Bool
 |[]=>true
 |e::r=>nob (bh3 P e) (apt P r)
structure TabOk (P:Program) (B:Tab):Prop where
 τ:∀t,(B.τ t).ok=true->ty P t=B.τ t
 z:∀t,B.z t=true->∃zs,tyZ P t=some zs/\ge (B.σ t) zs=true
 q:∀t,isZ (B.q t)=false->ax1 P t=B.q t
 m:apt P B.m=true
def zOk(P:Program)(t:TypeId)(d:T):Bool:=match tyZ P t with|some zs=>ge d zs|none=>false
def tyL(P:Program):Nat->Nat->List Ty
 |0,_=>[]
 |n+1,i=>ty P i::tyL P n (Nat.succ i)
def zL(P:Program):Nat->List T->List Bool
 |_,[]=>[]
 |i,d::r=>zOk P i d::zL P (Nat.succ i) r
theorem bb3(P:Program):∀(n i t:Nat) (x:Ty),m5 (tyL P n i) t=some x->x=ty P (i+t)
 |0,_,_,_,h=>by simp[tyL,m5]at h
 |n+1,i,0,x,h=>by simp only[tyL,m5,a0d]at h;exact h.symm
 |n+1,i,t+1,x,h=>by simp only[tyL,m5]at h;have:=bb3 P n _ t x h;rw[this];exact congrArg (ty P) (Nat.succ_add i t)
def qL(P:Program):Nat->Nat->List Nat
 |0,_=>[]
 |n+1,i=>ax1 P i::qL P n (Nat.succ i)
theorem bga(P:Program):∀(n i t:Nat) (x:Nat),m5 (qL P n i) t=some x->x=ax1 P (i+t)
 |0,_,_,_,h=>by simp[qL,m5]at h
 |n+1,i,0,x,h=>by simp only[qL,m5,a0d]at h;exact h.symm
 |n+1,i,t+1,x,h=>by simp only[qL,m5]at h;have:=bga P n _ t x h;rw[this];exact congrArg (ax1 P) (Nat.succ_add i t)
theorem bf0(P:Program):∀(l:List T) (i t:Nat) (d:T),m5 l t=some d->m5 (zL P i l) t=some (zOk P (i+t) d)
 |[],_,_,_,h=>by simp[m5]at h
 |e::r,i,0,d,h=>by simp only[m5,a0d]at h;subst h;simp[zL,m5]
 |e::r,i,t+1,d,h=>by simp only[m5]at h;simp only[zL,m5];rw[bf0 P r _ t d h,show Nat.succ i+t=i+(t+1)from Nat.succ_add i t]
def aoe(l:List Ty)(d:List T)(z:List Bool)(q:List Nat)(m:List Mth):Tab:=
 ⟨fun t=>match m5 l t with|some x=>x|none=>bhx,fun t=>match m5 d t with|some x=>x|none=>.any,
  fun t=>match m5 d t with|some _=>(match m5 z t with|some x=>x|none=>false)|none=>false,fun t=>match m5 q t with|some x=>x|none=>0,m⟩
def bhz(l:List Ty)(d:List T)(z:List Bool)(q:List Nat):Tab:=aoe l d z q []
theorem bjx{P:Program}(n:Nat)(l:List Ty)(d:List T)(z:List Bool)(q:List Nat)(m:List Mth)(h:tyL P n 0=l)(hz:zL P 0 d=z)(hq:qL P n 0=q)(hm:apt P m=true):TabOk P (aoe l d z q m):=by
 constructor
 ·intro t ht;simp only[aoe]at ht⊢;split at ht
  ·rename_i x hx;rw[←h]at hx;have:=bb3 P n 0 t x hx;rw[this,a1w]
  ·simp[bhx]at ht
 ·intro t ht;simp only[aoe]at ht⊢;split at ht
  ·rename_i e he;have:=bf0 P d 0 t e he;rw[hz,a1w]at this;rw[this]at ht;simp only[zOk]at ht;split at ht
   ·rename_i zs hzs;exact⟨zs,hzs,ht⟩
   ·cases ht
  ·cases ht
 ·intro t ht;simp only[aoe]at ht⊢;split at ht
  ·rename_i x hx;rw[←hq]at hx;have:=bga P n 0 t x hx;rw[this,a1w]
  ·cases ht
 ·exact hm
theorem bba{P:Program}(n:Nat)(l:List Ty)(d:List T)(z:List Bool)(q:List Nat)(h:tyL P n 0=l)(hz:zL P 0 d=z)(hq:qL P n 0=q):TabOk P (bhz l d z q):=bjx n l d z q [] h hz hq rfl
end Go.Bm
/- The du machine:what data and own trees have to do with memory. -/
namespace Go.Bm
open Go.RowKit
def jz:Value->Option Nat
 |.slice (some a) _ (_+1)=>some a.block
 |.pointer (some a)=>some a.block
 |_=>none
theorem avc{a:Addr}{N K b:Nat}(h:jz (.slice (some a) N K)=some b):b=a.block:=by
 cases K with
 |zero=>cases h
 |succ k=>simp only[jz,a0d]at h;exact h.symm
def ve(w:World)(ety:TypeId)(sz:Nat)(v:Value)(n:Nat)(xs:List Value):Prop:=xs.length=n*sz/\((n=0/\∃oa,v=.slice oa 0 0)\/∃g off c cur,v=.slice (some ⟨g,off,none⟩) n (c+1)/\w.heap[g]? = some (.cells cur ety (0,0))/\n<=c+1/\c+1<=maxLen/\cur.size=off+(c+1)*sz/\(cur.toList.drop off).take (n*sz)=xs)
theorem awg{w:World}{ety:TypeId}{sz:Nat}{v:Value}{n:Nat}{xs:List Value}(h:w.ownsRow 0 ety sz v n xs):ve w ety sz v n xs:=by
 refine⟨h.1,?_⟩;rcases h.2 with⟨hv,hn⟩|⟨g,cap,cur,hv,hb,hg,h1,h2,h3,h4⟩
 ·exact .inl ⟨hn,none,hv⟩
 ·cases cap with
  |zero=>exact .inl ⟨by omega,some ⟨g,0,none⟩,by rw[hv,show n=0 from by omega]⟩
  |succ c=>exact .inr ⟨g,0,c,cur,hv,hg,h1,h2,by rw[h3,a1w],by simpa using h4⟩
def oy(w:World)(b o:Nat)(us:List Value):Prop:=∀(j:Nat) (u:Value),us[j]? = some u->w.cell? ⟨b,o+j,none⟩=some u
def sv:(t:T)->t.den->List Value
 |.int k,n=>[.int k n]
 |.bool,b=>[.bool b]
 |.str,s=>[.string s]
 |.p a b,x=>sv a x.1++sv b x.2
 |_,_=>[]
def isP:T->Bool
 |.p _ _=>true
 |_=>false
def d4(t:T)(x:t.den):Value:=bif isP t then .agg (sv t x).toArray else (sv t x).headD undef
def agh(k v:T)(es:Array MapEntry)(l:List (k.den×v.den)):Prop:=es.toList.map (fun e=>(e.key,e.val))=l.map fun x=>(d4 k x.1,d4 v x.2)
def ai(Im:Nat->Prop)(w:World):(t:T)->t.den->List Value->Prop
 |.int k,n,vs=>vs=[.int k n]/\inK k n
 |.bool,b,vs=>vs=[.bool b]
 |.str,s,vs=>vs=[.string s]/\s.size<=nb
 |.u,_,vs=>vs=[]
 |.p a b,x,vs=>∃va vb,vs=va++vb/\ai Im w a x.1 va/\ai Im w b x.2 vb
 |.sl e,l,vs=>∃oa cap,vs=[.slice oa l.length cap]/\(l.length<=nb/\l.length<=cap)/\(oa=none->l.length=0/\cap=0)/\
   ∀a,oa=some a->0<l.length->a.spot=none/\Im a.block/\∀(i:Nat) (x:e.den),l[i]? = some x->∃us,oy w a.block (a.off+i*e.size) us/\ai Im w e x us
 |.pt t,x,vs=>∃b o us,vs=[.pointer (some ⟨b,o,none⟩)]/\Im b/\oy w b o us/\ai Im w t x us
 |.fn f t,x,vs=>∃us:List Value,vs=[.func (.func f) #[] us.toArray]/\ai Im w t x us
 |.ifc i t,x,vs=>∃u:Value,vs=[.iface i u]/\ai Im w t x [u]
 |.mp k v,l,vs=>∃r es n,vs=[.map (some r)]/\Im r/\w.heap[r]? = some (.map es n)/\(T.mp k v).ok l/\agh k v es l
 |.op t,x,vs=>vs.length=t.size/\(∀v∈vs,v.oneCell'=true)/\∀y,x=some y->ai Im w t y vs
 |.ns t,x,vs=>(x=none/\vs=[.slice none 0 0])\/∃y a n c,x=some y/\vs=[.slice a n c]/\ai Im w t y vs
 |.er i,x,vs=>(x=false/\vs=[.nilIface])\/∃s,x=true/\vs=[.iface i (.agg #[.string s])]
 |.any,_,vs=>∃v:Value,vs=[v]/\v.oneCell'=true
def O.size(o:O):Nat:=o.strip.size
def Rel(Im:Nat->Prop)(w:World):(o:O)->o.strip.den->(Nat->Prop)->List Value->Prop
 |.fz t,x,_,vs=>ai Im w t x vs
 |.p a b,x,S,vs=>∃va vb,∃S1 S2:Nat->Prop,vs=va++vb/\(∀c,S1 c->S c)/\(∀c,S2 c->S c)/\(∀c,S1 c->¬S2 c)/\Rel Im w a x.1 S1 va/\Rel Im w b x.2 S2 vb
 |.sl e,l,S,vs=>∃v ety xs,∃T:Nat->Nat->Prop,vs=[v]/\ve w ety e.size v l.length xs/\l.length<=nb/\(∀c,jz v=some c->S c)/\(∀i c,T i c->S c/\jz v≠some c)/\
   (∀i j c,i≠j->T i c->¬T j c)/\∀(i:Nat) (x:e.strip.den),l[i]? = some x->Rel Im w e x (T i) ((xs.drop (i*e.size)).take e.size)
 |.mp k v,l,S,vs=>∃r es n,vs=[.map (some r)]/\S r/\w.heap[r]? = some (.map es n)/\(T.mp k v).ok l/\agh k v es l
 |.op e,x,S,vs=>vs.length=e.size/\(∀v∈vs,v.oneCell'=true)/\∀y,x=some y->Rel Im w e y S vs
 |.pt o,x,S,vs=>∃b us ty' S',vs=[.pointer (some ⟨b,0,none⟩)]/\S b/\w.heap[b]? = some (.cells (us:List Value).toArray ty' (0,0))/\(∀c,S' c->S c/\c≠b)/\Rel Im w o x S' us
def gn(Im Im':Nat->Prop)(w w':World):Prop:=∀b,Im b->Im' b/\w'.heap[b]? = w.heap[b]?
theorem gn.refl(Im:Nat->Prop)(w:World):gn Im Im w w:=fun _ h=>⟨h,rfl⟩
theorem gn.trans{I1 I2 I3:Nat->Prop}{a b c:World}(h:gn I1 I2 a b)(k:gn I2 I3 b c):gn I1 I3 a c:=fun x hx=>⟨(k x (h x hx).1).1,((k x (h x hx).1).2).trans (h x hx).2⟩
theorem oy.keep{w w':World}{b o:Nat}{us:List Value}(h:w'.heap[b]? = w.heap[b]?)(r:oy w b o us):oy w' b o us:=fun j u hu=>by rw[←r j u hu];simp[World.cell?,h]
theorem ai.keep{Im Im':Nat->Prop}{w w':World}(h:gn Im Im' w w'):(t:T)->(x:t.den)->(vs:List Value)->ai Im w t x vs->ai Im' w' t x vs
 |.int _,_,_,r=>by simpa only [ai]using r
 |.bool,_,_,r=>by simpa only [ai]using r
 |.str,_,_,r=>by simpa only [ai]using r
 |.u,_,_,r=>by simpa only [ai]using r
 |.any,_,_,r=>by simpa only [ai]using r
 |.p a b,x,vs,r=>by simp only[ai]at r⊢;obtain⟨va,vb,h1,h2,h3⟩:=r;exact⟨va,vb,h1,ai.keep h a _ _ h2,ai.keep h b _ _ h3⟩
 |.sl e,l,vs,r=>by simp only[ai]at r⊢;obtain⟨oa,cap,h1,h2,h3,h4⟩:=r;refine⟨oa,cap,h1,h2,h3,fun a ha hpos=>?_⟩;obtain⟨k1,k2,k3⟩:=h4 a ha hpos;refine⟨k1,(h _ k2).1,fun i x hx=>?_⟩;obtain⟨us,u1,u2⟩:=k3 i x hx;exact⟨us,u1.keep (h _ k2).2,ai.keep h e x us u2⟩
 |.pt t,x,vs,r=>by simp only[ai]at r⊢;obtain⟨b,o,us,h1,h2,h3,h4⟩:=r;exact⟨b,o,us,h1,(h _ h2).1,h3.keep (h _ h2).2,ai.keep h t x us h4⟩
 |.fn f t,x,vs,r=>by simp only[ai]at r⊢;obtain⟨us,h1,h2⟩:=r;exact⟨us,h1,ai.keep h t x us h2⟩
 |.ifc i t,x,vs,r=>by simp only[ai]at r⊢;obtain⟨u,h1,h2⟩:=r;exact⟨u,h1,ai.keep h t x _ h2⟩
 |.op t,x,vs,r=>by simp only[ai]at r⊢;exact⟨r.1,r.2.1,fun y hy=>ai.keep h t y vs (r.2.2 y hy)⟩
 |.ns t,x,vs,r=>by
  simp only[ai]at r⊢;rcases r with r|⟨y,a,n,c,h1,h2,h3⟩
  ·exact .inl r
  ·exact .inr ⟨y,a,n,c,h1,h2,ai.keep h t y vs h3⟩
 |.er _,_,_,r=>by simpa only [ai]using r
 |.mp k v,l,vs,r=>by simp only[ai]at r⊢;obtain⟨b,es,n,h1,h2,h3,h4⟩:=r;exact⟨b,es,n,h1,(h _ h2).1,by rw[(h _ h2).2];exact h3,h4⟩
theorem ai.len{Im:Nat->Prop}{w:World}:(t:T)->(x:t.den)->(vs:List Value)->ai Im w t x vs->vs.length=t.size
 |.int _,_,_,r=>by simp only[ai]at r;rw[r.1];rfl
 |.bool,_,_,r=>by simp only[ai]at r;rw[r];rfl
 |.str,_,_,r=>by simp only[ai]at r;rw[r.1];rfl
 |.u,_,_,r=>by simp only[ai]at r;rw[r];rfl
 |.any,_,_,r=>by simp only[ai]at r;obtain⟨v,h,_⟩:=r;rw[h];rfl
 |.p a b,x,vs,r=>by simp only[ai]at r;obtain⟨va,vb,h1,h2,h3⟩:=r;rw[h1,a0q,ai.len a _ _ h2,ai.len b _ _ h3];simp[T.size]
 |.sl e,l,vs,r=>by simp only[ai]at r;obtain⟨oa,cap,h,_⟩:=r;rw[h];rfl
 |.pt t,x,vs,r=>by simp only[ai]at r;obtain⟨b,o,us,h,_⟩:=r;rw[h];rfl
 |.fn f t,x,vs,r=>by simp only[ai]at r;obtain⟨us,h,_⟩:=r;rw[h];rfl
 |.ifc i t,x,vs,r=>by simp only[ai]at r;obtain⟨u,h,_⟩:=r;rw[h];rfl
 |.mp k v,l,vs,r=>by simp only[ai]at r;obtain⟨b,es,n,h,_⟩:=r;rw[h];rfl
 |.op t,x,vs,r=>by simp only[ai]at r;exact r.1
 |.ns t,x,vs,r=>by simp only[ai]at r;rcases r with⟨_,r⟩|⟨y,a,n,c,_,r,_⟩ <;> (rw[r];rfl)
 |.er i,x,vs,r=>by simp only[ai]at r;rcases r with⟨_,r⟩|⟨s,_,r⟩ <;> (rw[r];rfl)
theorem ai.ok{Im:Nat->Prop}{w:World}:(t:T)->(x:t.den)->(vs:List Value)->ai Im w t x vs->t.ok x
 |.int _,_,_,r=>by simp only[ai]at r;simp only[T.ok];exact r.2
 |.bool,_,_,r=>by simp only[T.ok]
 |.str,_,_,r=>by simp only[ai]at r;simp only[T.ok];exact r.2
 |.u,_,_,r=>by simp only[T.ok]
 |.any,_,_,r=>by simp only[T.ok]
 |.p a b,x,vs,r=>by simp only[ai]at r;obtain⟨va,vb,h1,h2,h3⟩:=r;simp only[T.ok];exact⟨ai.ok a _ _ h2,ai.ok b _ _ h3⟩
 |.sl e,l,vs,r=>by
  simp only[ai]at r;obtain⟨oa,cap,h1,h2,h3,h4⟩:=r;simp only[T.ok];refine⟨h2.1,fun y hy=>?_⟩;obtain⟨i,hi,rfl⟩:=a2f hy
  cases oa with
  |none=>have:=(h3 rfl).1;omega
  |some a=>obtain⟨us,_,u2⟩:=(h4 a rfl (by omega)).2.2 i l[i] (a0o hi);exact ai.ok e _ us u2
 |.pt t,x,vs,r=>by simp only[ai]at r;obtain⟨b,o,us,_,_,_,h⟩:=r;simp only[T.ok];exact ai.ok t x us h
 |.fn f t,x,vs,r=>by simp only[ai]at r;obtain⟨us,_,h⟩:=r;simp only[T.ok];exact ai.ok t x us h
 |.ifc i t,x,vs,r=>by simp only[ai]at r;obtain⟨u,_,h⟩:=r;simp only[T.ok];exact ai.ok t x _ h
 |.op t,x,vs,r=>by simp only[ai]at r;simp only[T.ok];exact fun y hy=>ai.ok t y vs (r.2.2 y hy)
 |.ns t,x,vs,r=>by
  simp only[ai]at r;simp only[T.ok];rcases r with⟨rfl,_⟩|⟨y,a,n,c,rfl,_,r⟩
  ·exact fun y hy=>by cases hy
  ·exact fun z hz=>by cases hz;exact ai.ok t y vs r
 |.er _,x,vs,r=>by simp only[T.ok]
 |.mp k v,l,vs,r=>by simp only[ai]at r;obtain⟨b,es,n,_,_,_,h4,_⟩:=r;exact h4
theorem ai.one{Im:Nat->Prop}{w:World}:(t:T)->(x:t.den)->(vs:List Value)->ai Im w t x vs->∀v∈vs,v.oneCell'=true
 |.int _,_,_,r=>by simp only[ai]at r;rw[r.1];intro v hv;rw[a0u.1 hv];rfl
 |.bool,_,_,r=>by simp only[ai]at r;rw[r];intro v hv;rw[a0u.1 hv];rfl
 |.str,_,_,r=>by simp only[ai]at r;rw[r.1];intro v hv;rw[a0u.1 hv];rfl
 |.u,_,_,r=>by simp only[ai]at r;rw[r];intro v hv;cases hv
 |.any,_,_,r=>by simp only[ai]at r;obtain⟨u,h,h1⟩:=r;rw[h];intro v hv;rw[a0u.1 hv];exact h1
 |.p a b,x,vs,r=>by
  simp only[ai]at r;obtain⟨va,vb,h1,h2,h3⟩:=r;rw[h1];intro v hv;rcases a04.1 hv with hv|hv
  ·exact ai.one a _ _ h2 v hv
  ·exact ai.one b _ _ h3 v hv
 |.sl e,l,vs,r=>by simp only[ai]at r;obtain⟨oa,cap,h,_⟩:=r;rw[h];intro v hv;rw[a0u.1 hv];rfl
 |.pt t,x,vs,r=>by simp only[ai]at r;obtain⟨b,o,us,h,_⟩:=r;rw[h];intro v hv;rw[a0u.1 hv];rfl
 |.fn f t,x,vs,r=>by simp only[ai]at r;obtain⟨us,h,_⟩:=r;rw[h];intro v hv;rw[a0u.1 hv];rfl
 |.ifc i t,x,vs,r=>by simp only[ai]at r;obtain⟨u,h,_⟩:=r;rw[h];intro v hv;rw[a0u.1 hv];rfl
 |.mp k v,l,vs,r=>by simp only[ai]at r;obtain⟨b,es,n,h,_⟩:=r;rw[h];intro v hv;rw[a0u.1 hv];rfl
 |.op t,x,vs,r=>by simp only[ai]at r;exact r.2.1
 |.ns t,x,vs,r=>by simp only[ai]at r;rcases r with⟨_,r⟩|⟨y,a,n,c,_,r,_⟩ <;> (rw[r];intro v hv;rw[a0u.1 hv];rfl)
 |.er i,x,vs,r=>by simp only[ai]at r;rcases r with⟨_,r⟩|⟨s,_,r⟩ <;> (rw[r];intro v hv;rw[a0u.1 hv];rfl)
theorem apf{w w':World}{e:TypeId}{sz n:Nat}{v:Value}{xs:List Value}(hr:∀b,jz v=some b->w'.heap[b]? = w.heap[b]?)(hown:ve w e sz v n xs):ve w' e sz v n xs:=by
 refine⟨hown.1,?_⟩;rcases hown.2 with hnil|⟨g,off,cap,cur,hv,hg,rest⟩
 ·exact .inl hnil
 ·exact .inr ⟨g,off,cap,cur,hv,by rw[hr g (by rw[hv];rfl)];exact hg,rest⟩
theorem Rel.keep{Im Im':Nat->Prop}{w w':World}(h:gn Im Im' w w'):(o:O)->(x:o.strip.den)->(S:Nat->Prop)->(vs:List Value)->(∀b,S b->w'.heap[b]? = w.heap[b]?)->Rel Im w o x S vs->Rel Im' w' o x S vs
 |.fz t,x,S,vs,_,r=>by simp only[Rel]at r⊢;exact ai.keep h t x vs r
 |.p a b,x,S,vs,hS,r=>by simp only[Rel]at r⊢;obtain⟨va,vb,S1,S2,h1,h2,h3,h4,h5,h6⟩:=r;exact⟨va,vb,S1,S2,h1,h2,h3,h4,Rel.keep h a _ S1 _ (fun c hc=>hS c (h2 c hc)) h5,Rel.keep h b _ S2 _ (fun c hc=>hS c (h3 c hc)) h6⟩
 |.sl e,l,S,vs,hS,r=>by simp only[Rel]at r⊢;obtain⟨v,ety,xs,T,h1,h2,h3,h4,h5,h6,h7⟩:=r;exact⟨v,ety,xs,T,h1,apf (fun c hc=>hS c (h4 c hc)) h2,h3,h4,h5,h6,fun i x hx=>Rel.keep h e x (T i) _ (fun c hc=>hS c (h5 i c hc).1) (h7 i x hx)⟩
 |.pt o,x,S,vs,hS,r=>by simp only[Rel]at r⊢;obtain⟨b,us,ty',S',h1,h2,h3,h4,h5⟩:=r;exact⟨b,us,ty',S',h1,h2,by rw[hS b h2];exact h3,h4,Rel.keep h o x S' us (fun c hc=>hS c (h4 c hc).1) h5⟩
 |.op e,x,S,vs,hS,r=>by simp only[Rel]at r⊢;exact⟨r.1,r.2.1,fun y hy=>Rel.keep h e y S vs hS (r.2.2 y hy)⟩
 |.mp k v,l,S,vs,hS,r=>by simp only[Rel]at r⊢;obtain⟨b,es,n,h1,h2,h3,h4⟩:=r;exact⟨b,es,n,h1,h2,by rw[hS b h2];exact h3,h4⟩
theorem Rel.wide{Im:Nat->Prop}{w:World}:(o:O)->(x:o.strip.den)->(S S':Nat->Prop)->(vs:List Value)->(∀b,S b->S' b)->Rel Im w o x S vs->Rel Im w o x S' vs
 |.fz t,x,S,S',vs,_,r=>by simpa only [Rel]using r
 |.p a b,x,S,S',vs,hS,r=>by simp only[Rel]at r⊢;obtain⟨va,vb,S1,S2,h1,h2,h3,h4,h5,h6⟩:=r;exact⟨va,vb,S1,S2,h1,fun c hc=>hS c (h2 c hc),fun c hc=>hS c (h3 c hc),h4,h5,h6⟩
 |.sl e,l,S,S',vs,hS,r=>by simp only[Rel]at r⊢;obtain⟨v,ety,xs,T,h1,h2,h3,h4,h5,h6,h7⟩:=r;exact⟨v,ety,xs,T,h1,h2,h3,fun c hc=>hS c (h4 c hc),fun i c hc=>⟨hS c (h5 i c hc).1,(h5 i c hc).2⟩,h6,h7⟩
 |.pt o,x,S,S',vs,hS,r=>by simp only[Rel]at r⊢;obtain⟨b,us,ty',S0,h1,h2,h3,h4,h5⟩:=r;exact⟨b,us,ty',S0,h1,hS b h2,h3,fun c hc=>⟨hS c (h4 c hc).1,(h4 c hc).2⟩,h5⟩
 |.op e,x,S,S',vs,hS,r=>by simp only[Rel]at r⊢;exact⟨r.1,r.2.1,fun y hy=>Rel.wide e y S S' vs hS (r.2.2 y hy)⟩
 |.mp k v,l,S,S',vs,hS,r=>by simp only[Rel]at r⊢;obtain⟨b,es,n,h1,h2,h3⟩:=r;exact⟨b,es,n,h1,hS b h2,h3⟩
theorem Rel.len{Im:Nat->Prop}{w:World}:(o:O)->(x:o.strip.den)->(S:Nat->Prop)->(vs:List Value)->Rel Im w o x S vs->vs.length=o.size
 |.fz t,x,S,vs,r=>by simp only[Rel]at r;exact ai.len t x vs r
 |.p a b,x,S,vs,r=>by simp only[Rel]at r;obtain⟨va,vb,S1,S2,h1,h2,h3,h4,h5,h6⟩:=r;rw[h1,a0q,Rel.len a _ _ _ h5,Rel.len b _ _ _ h6];simp[O.size,T.size]
 |.sl e,l,S,vs,r=>by simp only[Rel]at r;obtain⟨v,ety,xs,T,h,_⟩:=r;rw[h];rfl
 |.pt o,x,S,vs,r=>by simp only[Rel]at r;obtain⟨b,us,ty',S',h,_⟩:=r;rw[h];rfl
 |.mp k v,l,S,vs,r=>by simp only[Rel]at r;obtain⟨b,es,n,h,_⟩:=r;rw[h];rfl
 |.op e,x,S,vs,r=>by simp only[Rel]at r;exact r.1
theorem arz{w:World}{e:TypeId}{sz n:Nat}{v:Value}{xs:List Value}(h:ve w e sz v n xs):v.oneCell'=true:=by rcases h.2 with⟨_,oa,h⟩|⟨g,off,cap,cur,h,_⟩ <;> rw[h] <;> rfl
theorem Rel.one{Im:Nat->Prop}{w:World}:(o:O)->(x:o.strip.den)->(S:Nat->Prop)->(vs:List Value)->Rel Im w o x S vs->∀v∈vs,v.oneCell'=true
 |.fz t,x,S,vs,r=>by simp only[Rel]at r;exact ai.one t x vs r
 |.p a b,x,S,vs,r=>by
  simp only[Rel]at r;obtain⟨va,vb,S1,S2,h1,h2,h3,h4,h5,h6⟩:=r;rw[h1];intro v hv;rcases a04.1 hv with hv|hv
  ·exact Rel.one a _ _ _ h5 v hv
  ·exact Rel.one b _ _ _ h6 v hv
 |.sl e,l,S,vs,r=>by simp only[Rel]at r;obtain⟨v,ety,xs,T,h,h2,_⟩:=r;rw[h];intro u hu;rw[a0u.1 hu];exact arz h2
 |.pt o,x,S,vs,r=>by simp only[Rel]at r;obtain⟨b,us,ty',S',h,_⟩:=r;rw[h];intro u hu;rw[a0u.1 hu];rfl
 |.mp k v,l,S,vs,r=>by simp only[Rel]at r;obtain⟨b,es,n,h,_⟩:=r;rw[h];intro u hu;rw[a0u.1 hu];rfl
 |.op e,x,S,vs,r=>by simp only[Rel]at r;exact r.2.1
theorem zr{w:World}{e:TypeId}{sz n:Nat}{v:Value}{xs:List Value}(h:ve w e sz v n xs) :
  (n=0/\∃oa,v=.slice oa 0 0)\/∃g off c cur,v=.slice (some ⟨g,off,none⟩) n (c+1)/\w.heap[g]? = some (.cells cur e (0,0))/\n<=c+1/\c+1<=maxLen/\cur.size=off+(c+1)*sz/\(cur.toList.drop off).take (n*sz)=xs:=h.2
theorem ali{cur:Array Value}{xs:List Value}{n i sz j off:Nat}{u:Value}(hx:(cur.toList.drop off).take (n*sz)=xs)(h:((xs.drop (i*sz)).take sz)[j]? = some u):cur[off+i*sz+j]? = some u:=by
 rw[a1e]at h;split at h
 ·rw[a1c,←hx,a1e]at h;split at h
  ·rw[a1c]at h;rw[a3k];simpa using h
  ·cases h
 ·cases h
theorem Rel.frz{Im Im':Nat->Prop}{w:World}(hI:∀b,Im b->Im' b):(o:O)->(x:o.strip.den)->(S:Nat->Prop)->(vs:List Value)->(∀b,S b->Im' b)->Rel Im w o x S vs->ai Im' w o.strip x vs
 |.fz t,x,S,vs,_,r=>by simp only[Rel]at r;exact ai.keep (fun b hb=>⟨hI b hb,rfl⟩) t x vs r
 |.p a b,x,S,vs,hS,r=>by simp only[Rel]at r;obtain⟨va,vb,S1,S2,h1,h2,h3,h4,h5,h6⟩:=r;simp only[ai];exact⟨va,vb,h1,Rel.frz hI a _ S1 _ (fun c hc=>hS c (h2 c hc)) h5,Rel.frz hI b _ S2 _ (fun c hc=>hS c (h3 c hc)) h6⟩
 |.sl e,l,S,vs,hS,r=>by
  simp only[Rel]at r;obtain⟨v,ety,xs,T,h1,h2,h3,h4,h5,h6,h7⟩:=r;simp only[ai];rcases zr h2 with⟨hn,hv⟩|⟨g,off,cap,cur,hv,hg,hc1,hc2,hc3,hc4⟩
  ·obtain⟨oa,hv⟩:=hv;exact⟨oa,0,by rw[h1,hv,hn],⟨h3,by omega⟩,fun _=>⟨hn,rfl⟩,fun a ha hpos=>by omega⟩
  ·refine⟨some ⟨g,off,none⟩,cap+1,by rw[h1,hv],⟨h3,hc1⟩,fun h=>by (cases h),fun a ha hpos=>?_⟩;cases ha;refine⟨rfl,hS g (h4 g (by rw[hv];rfl)),fun i x hx=>⟨_,?_,Rel.frz hI e x (T i) _ (fun c hc=>hS c (h5 i c hc).1) (h7 i x hx)⟩⟩;intro j u hu;rw[a19 w g _ cur ety (0,0) hg];have:=ali hc4 hu;simpa[O.size]using this
 |.pt o,x,S,vs,hS,r=>by simp only[Rel]at r;obtain⟨b,us,ty',S',h1,h2,h3,h4,h5⟩:=r;simp only[ai];refine⟨b,0,us,h1,hS b h2,fun j u hu=>?_,Rel.frz hI o x S' us (fun c hc=>hS c (h4 c hc).1) h5⟩;rw[a19 w b _ _ ty' (0,0) h3];simpa using hu
 |.op e,x,S,vs,hS,r=>by simp only[Rel]at r;simp only[ai];exact⟨r.1,r.2.1,fun y hy=>Rel.frz hI e y S vs hS (r.2.2 y hy)⟩
 |.mp k v,l,S,vs,hS,r=>by simp only[Rel]at r;obtain⟨b,es,n,h1,h2,h3,h4⟩:=r;simp only[ai];exact⟨b,es,n,h1,hS b h2,h3,h4⟩
end Go.Bm
/- The du machine:a part of an own tree,looked at and replaced. -/
namespace Go.Bm
open Go.RowKit
theorem Rel.ok{Im:Nat->Prop}{w:World}{o:O}{x:o.strip.den}{S:Nat->Prop}{vs:List Value}(r:Rel Im w o x S vs):o.strip.ok x:=ai.ok _ _ _ (Rel.frz (Im':=fun _=>True) (fun _ _=>trivial) o x S vs (fun _ _=>trivial) r)
def gok:bq->(o:O)->o.strip.den->Prop
 |[],_,_=>True
 |.l::π,.p a _,x=>gok π a x.1
 |.r::π,.p _ b,x=>gok π b x.2
 |.l::π,.fz (.p a _),x=>gok π (.fz a) x.1
 |.r::π,.fz (.p _ b),x=>gok π (.fz b) x.2
 |.ix i::π,.sl e,x=>i<x.length/\gok π e (x.getD i e.dflt)
 |.de::π,.pt t,x=>gok π t x
 |_,_,_=>False
def cellsOf(w:World)(b o n:Nat):List Value:=(List.range n).map fun j=>(w.cell? ⟨b,o+j,none⟩).getD undef
abbrev Pl:=Option (Nat×Nat)
def Pl.plus(p:Pl)(n:Nat):Pl:=p.map fun q=>(q.1,q.2+n)
def res(w:World):bq->O->List Value->Pl->Option (List Value×Pl)
 |[],_,vs,ad=>some (vs,ad)
 |.l::π,.p a _,vs,ad=>res w π a (vs.take a.size) ad
 |.r::π,.p a b,vs,ad=>res w π b (vs.drop a.size) (ad.plus a.size)
 |.l::π,.fz (.p a _),vs,ad=>res w π (.fz a) (vs.take a.size) ad
 |.r::π,.fz (.p a b),vs,ad=>res w π (.fz b) (vs.drop a.size) (ad.plus a.size)
 |.ix i::π,.sl e,vs,_=>(match vs with
  |[.slice (some a) _ _]=>res w π e (cellsOf w a.block (a.off+i*e.size) e.size) (some (a.block,a.off+i*e.size))
  |_=>none)
 |.de::π,.pt t,vs,_=>(match vs with
  |[.pointer (some a)]=>res w π t (cellsOf w a.block a.off t.size) (some (a.block,a.off))
  |_=>none)
 |_,_,_,_=>none
def cm:bq->Bool
 |[]=>false
 |.l::π=>cm π
 |.r::π=>cm π
 |.ix _::_=>true
 |.de::_=>true
def d3(l:List Value)(n:Nat)(us:List Value):List Value:=l.take n++us++l.drop (n+us.length)
def di:bq->O->List Value->List Value->List Value
 |[],_,_,us=>us
 |.l::π,.p a _,vs,us=>di π a (vs.take a.size) us++vs.drop a.size
 |.r::π,.p a b,vs,us=>vs.take a.size++di π b (vs.drop a.size) us
 |.l::π,.fz (.p a _),vs,us=>di π (.fz a) (vs.take a.size) us++vs.drop a.size
 |.r::π,.fz (.p a b),vs,us=>vs.take a.size++di π (.fz b) (vs.drop a.size) us
 |_,_,vs,_=>vs
theorem aq2{Im:Nat->Prop}{w:World}{a b:Ob}{S1 S2 S:Nat->Prop}{va vb:List Value}(h1:∀c,S1 c->S c)(h2:∀c,S2 c->S c)(h3:∀c,S1 c->¬S2 c)
  (ha:Rel Im w a.o a.x S1 va) (hb:Rel Im w b.o b.x S2 vb):Rel Im w (mkP a b).o (mkP a b).x S (va++vb):=by
 obtain⟨oa,xa⟩:=a;obtain⟨ob,xb⟩:=b;have key:Rel Im w (.p oa ob) (xa,xb) S (va++vb):=by simp only[Rel];exact⟨va,vb,S1,S2,rfl,h1,h2,h3,ha,hb⟩
 cases oa <;> cases ob <;> first|exact key|skip
 simp only[mkP,Rel,ai]at ha hb⊢;exact⟨va,vb,rfl,ha,hb⟩
theorem bds(a b:Ob):(mkP a b).o.size=a.o.size+b.o.size:=by obtain⟨oa,xa⟩:=a;obtain⟨ob,xb⟩:=b;cases oa <;> cases ob <;> simp[mkP,O.size,T.size]
theorem z6{va vb:List Value}{n:Nat}(h:va.length=n):(va++vb).take n=va:=by rw[←h];exact a4k
theorem zm{va vb:List Value}{n:Nat}(h:va.length=n):(va++vb).drop n=vb:=by rw[←h];exact List.drop_left
theorem xe{w:World}{b o n:Nat}{us:List Value}(hl:us.length=n)(h:oy w b o us):cellsOf w b o n=us:=by
 unfold cellsOf;apply a2a;intro j;rw[a1b];by_cases hj:j<n
 ·rw[a2g hj,a0o (by omega)];simp only[a00];rw[h j us[j] (a0o (by omega))];rfl
 ·rw[a1p (by simpa using hj),a1p (by omega)];rfl
theorem bfl{xs row':List Value}{n sz i i':Nat}(hx:xs.length=n*sz)(hi:i<n)(hr:row'.length=sz) :
  ((d3 xs (i*sz) row').drop (i'*sz)).take sz=if i'=i then row' else (xs.drop (i'*sz)).take sz:=by
 have hle:i*sz+sz<=n*sz:=by have:=a1z sz (show i+1<=n from hi);rw[a1q]at this;omega
 have hs:(d3 xs (i*sz) row').length=n*sz:=by simp[d3,hr];omega
 have hget:∀j,(d3 xs (i*sz) row')[j]? = if j<i*sz then xs[j]? else if j<i*sz+sz then row'[j-i*sz]? else xs[j]?:=by
  intro j;unfold d3;by_cases h1:j<i*sz
  ·rw[d0 h1,a07,a1g (by simp;omega),a1e,d0 h1]
  ·rw[ds h1];by_cases h2:j<i*sz+sz
   ·rw[d0 h2,a1g (by simp;omega),a1x (by simp;omega)];congr 1;simp;omega
   ·rw[ds h2,a1x (by simp;omega),a1c];congr 1;simp;omega
 by_cases e:i'=i
 ·subst e;rw[d0 rfl];apply a2a;intro j;rw[a1e,a1c,hget];by_cases hj:j<sz
  ·rw[d0 hj,ds (by omega),d0 (by omega)];congr 1;omega
  ·rw[ds hj,a1p (by omega)]
 ·rw[ds e];apply a2a;intro j;rw[a1e,a1e,a1c,a1c,hget];by_cases hj:j<sz
  ·simp only[d0 hj];rcases Nat.lt_or_gt_of_ne e with hlt|hlt
   ·have:=a1z sz (show i'+1<=i from hlt);rw[a1q]at this;rw[d0 (by omega)]
   ·have:=a1z sz (show i+1<=i' from hlt);rw[a1q]at this;rw[ds (by omega),ds (by omega)]
  ·simp only[ds hj]
theorem nq:∀(π:bq) (o:O) (vs us:List Value),cm π=true->di π o vs us=vs
 |[],_,_,_,h=>by simp[cm]at h
 |.l::π,.p a b,vs,us,h=>by simp only[di];rw[nq π a _ us (by simpa[cm]using h),a10]
 |.r::π,.p a b,vs,us,h=>by simp only[di];rw[nq π b _ us (by simpa[cm]using h),a10]
 |.l::π,.fz (.p a b),vs,us,h=>by simp only[di];rw[nq π (.fz a) _ us (by simpa[cm]using h),a10]
 |.r::π,.fz (.p a b),vs,us,h=>by simp only[di];rw[nq π (.fz b) _ us (by simpa[cm]using h),a10]
 |.l::π,.sl e,vs,us,h=>by simp only[di]
 |.r::π,.sl e,vs,us,h=>by simp only[di]
 |.l::π,.pt e,vs,us,h=>by simp only[di]
 |.l::π,.mp _ _,vs,us,h=>by simp only[di]
 |.l::π,.op _,vs,us,h=>by simp only[di]
 |.r::π,.pt e,vs,us,h=>by simp only[di]
 |.r::π,.mp _ _,vs,us,h=>by simp only[di]
 |.r::π,.op _,vs,us,h=>by simp only[di]
 |.l::π,.fz (.int _),vs,us,h=>by simp only[di]
 |.l::π,.fz .bool,vs,us,h=>by simp only[di]
 |.l::π,.fz .str,vs,us,h=>by simp only[di]
 |.l::π,.fz .u,vs,us,h=>by simp only[di]
 |.l::π,.fz (.sl _),vs,us,h=>by simp only[di]
 |.l::π,.fz (.pt _),vs,us,h=>by simp only[di]
 |.l::π,.fz (.fn _ _),vs,us,h=>by simp only[di]
 |.l::π,.fz (.ifc _ _),vs,us,h=>by simp only[di]
 |.l::π,.fz (.mp _ _),vs,us,h=>by simp only[di]
 |.l::π,.fz (.op _),vs,us,h=>by simp only[di]
 |.l::π,.fz (.ns _),vs,us,h=>by simp only[di]
 |.l::π,.fz (.er _),vs,us,h=>by simp only[di]
 |.l::π,.fz .any,vs,us,h=>by simp only[di]
 |.r::π,.fz (.int _),vs,us,h=>by simp only[di]
 |.r::π,.fz .bool,vs,us,h=>by simp only[di]
 |.r::π,.fz .str,vs,us,h=>by simp only[di]
 |.r::π,.fz .u,vs,us,h=>by simp only[di]
 |.r::π,.fz (.sl _),vs,us,h=>by simp only[di]
 |.r::π,.fz (.pt _),vs,us,h=>by simp only[di]
 |.r::π,.fz (.fn _ _),vs,us,h=>by simp only[di]
 |.r::π,.fz (.ifc _ _),vs,us,h=>by simp only[di]
 |.r::π,.fz (.mp _ _),vs,us,h=>by simp only[di]
 |.r::π,.fz (.op _),vs,us,h=>by simp only[di]
 |.r::π,.fz (.ns _),vs,us,h=>by simp only[di]
 |.r::π,.fz (.er _),vs,us,h=>by simp only[di]
 |.r::π,.fz .any,vs,us,h=>by simp only[di]
 |.ix _::_,_,vs,us,h=>by simp only[di]
 |.de::_,_,vs,us,h=>by simp only[di]
def At(w:World)(S:Nat->Prop)(vs:List Value)(ad:Pl):Prop:=∀b off,ad=some (b,off)->¬S b/\∃cur ty',w.heap[b]? = some (.cells cur ty' (0,0))/\∀(j:Nat) (u:Value),vs[j]? = some u->cur[off+j]? = some u
def Wand(Im:Nat->Prop)(w:World)(π:bq)(o:O)(x:o.strip.den)(S S':Nat->Prop)(q:Ob)(vs:List Value)(pl:Pl):Prop:=
 ∀(Im':Nat->Prop) (w':World) (n:Ob) (S'':Nat->Prop) (us':List Value) (ob':Ob),set π o x n=some ob'->n.o.size=q.o.size->Rel Im' w' n.o n.x S'' us'->gn Im Im' w w'->(∀c,S'' c->S c->S' c)->
  (cm π=true->∀b off,pl=some (b,off)->∀cur ty',w.heap[b]? = some (.cells cur ty' (0,0))->w'.heap[b]? = some (.cells (d3 cur.toList off us').toArray ty' (0,0)))->
  (∀c,S c->¬S' c->(∀b off,pl=some (b,off)->cm π=true->c≠b)->w'.heap[c]? = w.heap[c]?)->
  ob'.o.size=o.size/\Rel Im' w' ob'.o ob'.x (fun c=>(S c/\¬S' c)\/S'' c) (di π o vs us')
def Foc(Im:Nat->Prop)(w:World)(π:bq)(o:O)(x:o.strip.den)(S:Nat->Prop)(vs:List Value)(ad:Pl)(q:Ob):Prop:=
 ∃us pl,∃S':Nat->Prop,res w π o vs ad=some (us,pl)/\(∀c,S' c->S c)/\Rel Im w q.o q.x S' us/\
  (cm π=true->∃b off cur ty',pl=some (b,off)/\S b/\¬S' b/\w.heap[b]? = some (.cells cur ty' (0,0))/\∀(j:Nat) (u:Value),us[j]? = some u->cur[off+j]? = some u)/\
  (cm π=false->∃n,gu π o=some n/\pl=ad.plus n/\us=(vs.drop n).take us.length/\n+us.length<=vs.length/\∀us':List Value,us'.length=us.length->di π o vs us'=d3 vs n us')/\
  Wand Im w π o x S S' q vs pl
theorem bbm{va vb us:List Value}{n:Nat}(h:n+us.length<=va.length):d3 va n us++vb=d3 (va++vb) n us:=by unfold d3;rw[a44 (by omega),a30 (by omega)];simp
theorem bc1{va vb us:List Value}{n:Nat}:va++d3 vb n us=d3 (va++vb) (va.length+n) us:=by unfold d3;rw[List.take_append,List.drop_append];have h1:va.take (va.length+n)=va:=a29 (by omega);have h2:va.drop (va.length+n+us.length)=[]:=a4l (by omega);rw[h1,h2,show va.length+n-va.length=n by omega,show va.length+n+us.length-va.length=n+us.length by omega];simp
theorem Foc.left{Im:Nat->Prop}{w:World}{π:bq}{a:O}{xa:a.strip.den}{b:Ob}{S S1 S2:Nat->Prop}{va vb:List Value}{ad:Pl}{q:Ob}{o:O}{x:o.strip.den}
  (hres:res w (.l::π) o (va++vb) ad=res w π a va ad) (hset:∀n,set (.l::π) o x n=(set π a xa n).map fun q=>mkP q b) (hsz:o.size=a.size+b.o.size)
  (hoff:gu (.l::π) o=gu π a) (hout:∀us,di (.l::π) o (va++vb) us=di π a va us++vb)
  (h1:∀c,S1 c->S c) (h2:∀c,S2 c->S c) (h3:∀c,S1 c->¬S2 c) (hb:Rel Im w b.o b.x S2 vb) (h:Foc Im w π a xa S1 va ad q):Foc Im w (.l::π) o x S (va++vb) ad q:=by
 obtain⟨us,pl,S',e1,e2,e3,e4,e5,e6⟩:=h;refine⟨us,pl,S',by rw[hres,e1],fun c hc=>h1 c (e2 c hc),e3,fun hh=>?_,fun hh=>?_,?_⟩
 ·obtain⟨bb,off,cur,ty',k1,k2,k3,k4,k5⟩:=e4 (by simpa[cm]using hh);exact⟨bb,off,cur,ty',k1,h1 _ k2,k3,k4,k5⟩
 ·obtain⟨n,k1,k2,k3,k4,k5⟩:=e5 (by simpa[cm]using hh);refine⟨n,by rw[hoff,k1],k2,?_,by rw[a0q];omega,fun us' hl=>?_⟩
  ·rw[a30 (by omega),a44 (by rw[a1n];omega)];exact k3
  ·rw[hout,k5 us' hl,bbm (by omega)]
 ·intro Im' w' n S'' us' ob' f1 f2 f3 f4 f5 f6 f7;rw[hset]at f1
  cases hs:set π a xa n with
  |none=>rw[hs]at f1;cases f1
  |some qn=>
   rw[hs]at f1;simp only[a00,a0d]at f1;subst f1;obtain⟨g1,g2⟩:=e6 Im' w' n S'' us' qn hs f2 f3 f4 (fun c hc h=>f5 c hc (h1 c h)) (fun hh=>f6 (by simpa[cm]using hh)) (fun c hc hn hne=>f7 c (h1 c hc) hn (fun bb off hp hh=>hne bb off hp (by simpa[cm]using hh)));refine⟨by rw[bds,g1,hsz],?_⟩;rw[hout];refine aq2 (S1:=fun c=>(S1 c/\¬S' c)\/S'' c) (S2:=S2) (fun c hc=>?_) (fun c hc=>?_) (fun c hc hc2=>?_) g2 (Rel.keep f4 _ _ S2 _ (fun c hc=>?_) hb)
   ·rcases hc with⟨hc,hn⟩|hc
    ·exact .inl ⟨h1 c hc,hn⟩
    ·exact .inr hc
   ·exact .inl ⟨h2 c hc,fun hs'=>h3 c (e2 c hs') hc⟩
   ·rcases hc with⟨hc,_⟩|hc
    ·exact h3 c hc hc2
    ·exact h3 c (e2 c (f5 c hc (h2 c hc2))) hc2
   ·refine f7 c (h2 c hc) (fun hs'=>h3 c (e2 c hs') hc) (fun bb off hp hh e=>?_);obtain⟨b',off',cur,ty',k1,k2,_⟩:=e4 (by simpa[cm]using hh);rw[k1]at hp;cases hp;exact h3 _ k2 (e▸hc)
theorem Foc.right{Im:Nat->Prop}{w:World}{π:bq}{b:O}{xb:b.strip.den}{a:Ob}{S S1 S2:Nat->Prop}{va vb:List Value}{ad:Pl}{q:Ob}{o:O}{x:o.strip.den}
  (hva:va.length=a.o.size)
  (hres:res w (.r::π) o (va++vb) ad=res w π b vb (ad.plus a.o.size)) (hset:∀n,set (.r::π) o x n=(set π b xb n).map fun q=>mkP a q) (hsz:o.size=a.o.size+b.size)
  (hoff:gu (.r::π) o=(gu π b).map (a.o.size+·)) (hout:∀us,di (.r::π) o (va++vb) us=va++di π b vb us)
  (h1:∀c,S1 c->S c) (h2:∀c,S2 c->S c) (h3:∀c,S1 c->¬S2 c) (ha:Rel Im w a.o a.x S1 va) (h:Foc Im w π b xb S2 vb (ad.plus a.o.size) q):Foc Im w (.r::π) o x S (va++vb) ad q:=by
 obtain⟨us,pl,S',e1,e2,e3,e4,e5,e6⟩:=h;refine⟨us,pl,S',by rw[hres,e1],fun c hc=>h2 c (e2 c hc),e3,fun hh=>?_,fun hh=>?_,?_⟩
 ·obtain⟨bb,off,cur,ty',k1,k2,k3,k4,k5⟩:=e4 (by simpa[cm]using hh);exact⟨bb,off,cur,ty',k1,h2 _ k2,k3,k4,k5⟩
 ·obtain⟨n,k1,k2,k3,k4,k5⟩:=e5 (by simpa[cm]using hh);refine⟨a.o.size+n,by rw[hoff,k1];rfl,?_,?_,by rw[a0q];omega,fun us' hl=>?_⟩
  ·rw[k2];cases ad <;> simp[Pl.plus,a3k]
  ·rw[←hva,List.drop_append,a4l (by omega),a2s,a47];exact k3
  ·rw[hout,k5 us' hl,bc1,hva]
 ·intro Im' w' n S'' us' ob' f1 f2 f3 f4 f5 f6 f7;rw[hset]at f1
  cases hs:set π b xb n with
  |none=>rw[hs]at f1;cases f1
  |some qn=>
   rw[hs]at f1;simp only[a00,a0d]at f1;subst f1;obtain⟨g1,g2⟩:=e6 Im' w' n S'' us' qn hs f2 f3 f4 (fun c hc h=>f5 c hc (h2 c h)) (fun hh=>f6 (by simpa[cm]using hh)) (fun c hc hn hne=>f7 c (h2 c hc) hn (fun bb off hp hh=>hne bb off hp (by simpa[cm]using hh)));refine⟨by rw[bds,g1,hsz],?_⟩;rw[hout];refine aq2 (S2:=fun c=>(S2 c/\¬S' c)\/S'' c) (S1:=S1) (fun c hc=>?_) (fun c hc=>?_) (fun c hc2 hc=>?_) (Rel.keep f4 _ _ S1 _ (fun c hc=>?_) ha) g2
   ·exact .inl ⟨h1 c hc,fun hs'=>h3 c hc (e2 c hs')⟩
   ·rcases hc with⟨hc,hn⟩|hc
    ·exact .inl ⟨h2 c hc,hn⟩
    ·exact .inr hc
   ·rcases hc with⟨hc,_⟩|hc
    ·exact h3 c hc2 hc
    ·exact h3 c hc2 (e2 c (f5 c hc (h1 c hc2)))
   ·refine f7 c (h1 c hc) (fun hs'=>h3 c hc (e2 c hs')) (fun bb off hp hh e=>?_);obtain⟨b',off',cur,ty',k1,k2,_⟩:=e4 (by simpa[cm]using hh);rw[k1]at hp;cases hp;exact h3 _ (e▸hc) k2
end Go.Bm
/- The du machine:the look into an own tree. -/
namespace Go.Bm
open Go.RowKit
theorem At.left{w:World}{S S1:Nat->Prop}{va vb:List Value}{ad:Pl}(h1:∀c,S1 c->S c)(h:At w S (va++vb) ad):At w S1 va ad:=by intro b off e;obtain⟨k1,cur,ty',k2,k3⟩:=h b off e;refine⟨fun hc=>k1 (h1 b hc),cur,ty',k2,fun j u hu=>k3 j u ?_⟩;rw[a1g (a1k.1 hu).1];exact hu
theorem At.right{w:World}{S S2:Nat->Prop}{va vb:List Value}{ad:Pl}{n:Nat}(hn:va.length=n)(h2:∀c,S2 c->S c)(h:At w S (va++vb) ad):At w S2 vb (ad.plus n):=by
 intro b off e
 cases ad with
 |none=>cases e
 |some p=>obtain⟨b',off'⟩:=p;simp only[Pl.plus,a00,a0d,a0j]at e;obtain⟨rfl,rfl⟩:=e;obtain⟨k1,cur,ty',k2,k3⟩:=h b' off' rfl;refine⟨fun hc=>k1 (h2 b' hc),cur,ty',k2,fun j u hu=>?_⟩;have:=k3 (n+j) u (by rw[a1x (by omega)];rw[hn,a47];exact hu);rw[←this];congr 1;omega
theorem ayo{w':World}{ety:TypeId}{sz n:Nat}{g off cap:Nat}{cur:Array Value}{xs row':List Value}{i:Nat}(hxl:xs.length=n*sz)
  (h1:n<=cap+1) (h2:cap+1<=maxLen) (h3:cur.size=off+(cap+1)*sz) (h4:(cur.toList.drop off).take (n*sz)=xs) (hi:i<n) (hr:row'.length=sz) {m:Nat} {us':List Value} (hm:m+us'.length<=sz)
  (hrow:row'=d3 ((xs.drop (i*sz)).take sz) m us')
  (hg:w'.heap[g]? = some (.cells (d3 cur.toList (off+i*sz+m) us').toArray ety (0,0))):ve w' ety sz (.slice (some ⟨g,off,none⟩) n (cap+1)) n (d3 xs (i*sz) row'):=by
 have hle:i*sz+sz<=n*sz:=by have:=a1z sz (show i+1<=n from hi);rw[a1q]at this;omega
 have hlc:off+n*sz<=cur.size:=by rw[h3];exact Nat.add_le_add_left (a1z _ h1) _
 have hcl:cur.toList.length=cur.size:=a14;refine⟨by simp[d3,hr];omega,.inr ⟨g,off,cap,_,rfl,hg,h1,h2,?_,?_⟩⟩
 ·rw[List.size_toArray,←h3,←hcl];simp[d3];omega
 ·show ((d3 cur.toList (off+i*sz+m) us').drop off).take (n*sz)=_;subst hrow;subst h4
  have e0:(d3 cur.toList (off+i*sz+m) us').drop off=d3 (cur.toList.drop off) (i*sz+m) us':=by
   unfold d3;rw[a07,a30 (by simp;omega),a4m,a07,a3l];congr 2
   ·omega
   ·congr 1;omega
  rw[e0];have hdl:(cur.toList.drop off).length=cur.size-off:=by rw[a1n,hcl]
  generalize cur.toList.drop off=D at *;have hA:(D.take (n*sz)).length=n*sz:=hxl
  have e1:d3 (D.take (n*sz)) (i*sz) (d3 (((D.take (n*sz)).drop (i*sz)).take sz) m us')=d3 (D.take (n*sz)) (i*sz+m) us':=by
   generalize D.take (n*sz)=A at hA hr⊢;have hsl:(d3 ((A.drop (i*sz)).take sz) m us').length=sz:=hr;apply a2a;intro j
   have hget:∀(B us:List Value) (p:Nat),p+us.length<=B.length->∀j,(d3 B p us)[j]? = if j<p then B[j]? else if j<p+us.length then us[j-p]? else B[j]?:=by
    intro B us p hp j;unfold d3;by_cases q1:j<p
    ·rw[d0 q1,a07,a1g (by simp;omega),a1e,d0 q1]
    ·rw[ds q1];by_cases q2:j<p+us.length
     ·rw[d0 q2,a1g (by simp;omega),a1x (by simp;omega)];congr 1;simp;omega
     ·rw[ds q2,a1x (by simp;omega),a1c];congr 1;simp;omega
   have hrl:((A.drop (i*sz)).take sz).length=sz:=by simp;omega
   rw[hget A _ (i*sz) (by omega) j,hget A us' (i*sz+m) (by omega) j,hsl];by_cases q1:j<i*sz
   ·rw[d0 q1,d0 (by omega)]
   ·rw[ds q1];by_cases q2:j<i*sz+sz
    ·rw[d0 q2,hget _ us' m (by omega)];by_cases q3:j<i*sz+m
     ·rw[d0 (by omega),d0 q3,a1e,d0 (by omega),a1c];congr 1;omega
     ·rw[ds (by omega),ds q3];by_cases q4:j<i*sz+m+us'.length
      ·rw[d0 (by omega),d0 q4];congr 1;omega
      ·rw[ds (by omega),ds q4,a1e,d0 (by omega),a1c];congr 1;omega
    ·rw[ds q2,ds (by omega),ds (by omega)]
  rw[e1];unfold d3;rw[a07,List.take_append,List.take_append,List.take_take,a4m];simp only[a1d,hdl];rw[show min (i*sz+m) (cur.size-off)=i*sz+m by omega,show min (n*sz) (i*sz+m)=i*sz+m by omega,List.take_take,show min (i*sz+m) (n*sz)=i*sz+m by omega];rw[a29 (l:=us') (by omega),a07];congr 3;omega
set_option maxRecDepth 4000 in
theorem aff{Im:Nat->Prop}{w:World}:(π:bq)->(o:O)->(x:o.strip.den)->(S:Nat->Prop)->(vs:List Value)->(ad:Pl)->(q:Ob)->Rel Im w o x S vs->gok π o x->get π o x=some q->At w S vs ad->Foc Im w π o x S vs ad q
 |[],o,x,S,vs,ad,q,hr,_,hg,hat=>by
  simp only[get,a0d]at hg;subst hg;refine⟨vs,ad,S,rfl,fun _ h=>h,hr,fun h=>by simp[cm]at h,fun _=>⟨0,rfl,by cases ad <;> simp[Pl.plus],by simp,by omega,fun us' hl=>?_⟩,?_⟩
  ·simp only[di,d3,List.take_zero,a2s,a1w];rw[hl,a4l (a0f _),a2k]
  ·intro Im' w' n S'' us' ob' f1 f2 f3 f4 f5 _ _;simp only[set,a0d]at f1;subst f1;exact⟨f2,Rel.wide _ _ S'' _ _ (fun c hc=>.inr hc) f3⟩
 |.l::π,.p a b,x,S,vs,ad,q,hr,hk,hg,hat=>by
  simp only[Rel]at hr;obtain⟨va,vb,S1,S2,rfl,h1,h2,h3,ha,hb⟩:=hr;have hl:=Rel.len a _ _ _ ha
  refine Foc.left (b:=⟨b,x.2⟩) (S1:=S1) (S2:=S2) (by simp only[res];rw[z6 hl]) (fun n=>by simp only[set];cases set π a x.1 n <;> rfl) (by simp[O.size,T.size]) (by simp only[gu]) (fun us=>by simp only[di];rw[z6 hl,zm hl]) h1 h2 h3 hb
   (aff π a x.1 S1 va ad q ha (by simpa only [gok]using hk) (by simpa only [get]using hg) (hat.left h1))
 |.r::π,.p a b,x,S,vs,ad,q,hr,hk,hg,hat=>by
  simp only[Rel]at hr;obtain⟨va,vb,S1,S2,rfl,h1,h2,h3,ha,hb⟩:=hr;have hl:=Rel.len a _ _ _ ha
  refine Foc.right (a:=⟨a,x.1⟩) (S1:=S1) (S2:=S2) hl (by simp only[res];rw[zm hl]) (fun n=>by simp only[set];cases set π b x.2 n <;> rfl) (by simp[O.size,T.size])
   (by simp only[gu];cases gu π b <;> simp[O.size]) (fun us=>by simp only[di];rw[z6 hl,zm hl]) h1 h2 h3 ha
   (aff π b x.2 S2 vb (ad.plus a.size) q hb (by simpa only [gok]using hk) (by simpa only [get]using hg) (hat.right hl h2))
 |.l::π,.fz (.p a b),x,S,vs,ad,q,hr,hk,hg,hat=>by
  simp only[Rel,ai]at hr;obtain⟨va,vb,rfl,ha,hb⟩:=hr;have hl:=ai.len a _ _ ha
  refine Foc.left (a:=.fz a) (b:=⟨.fz b,x.2⟩) (S1:=fun _=>False) (S2:=fun _=>False) (by simp only[res];rw[z6 hl]) (fun n=>by simp only[set];cases set π (.fz a) x.1 n <;> rfl) (by simp[O.size,T.size]) (by simp only[gu]) (fun us=>by simp only[di];rw[z6 hl,zm hl])
   (fun _ h=>h.elim) (fun _ h=>h.elim) (fun _ h=>h.elim) (by simpa only [Rel]using hb)
   (aff π (.fz a) x.1 _ va ad q (by simpa only [Rel]using ha) (by simpa only [gok]using hk) (by simpa only [get]using hg) (hat.left (fun _ h=>h.elim)))
 |.r::π,.fz (.p a b),x,S,vs,ad,q,hr,hk,hg,hat=>by
  simp only[Rel,ai]at hr;obtain⟨va,vb,rfl,ha,hb⟩:=hr;have hl:=ai.len a _ _ ha
  refine Foc.right (b:=.fz b) (a:=⟨.fz a,x.1⟩) (S1:=fun _=>False) (S2:=fun _=>False) hl (by simp only[res];rw[zm hl];rfl) (fun n=>by simp only[set];cases set π (.fz b) x.2 n <;> rfl) (by simp[O.size,T.size])
   (by simp only[gu];cases gu π (.fz b) <;> simp[O.size]) (fun us=>by simp only[di];rw[z6 hl,zm hl])
   (fun _ h=>h.elim) (fun _ h=>h.elim) (fun _ h=>h.elim) (by simpa only [Rel]using ha)
   (aff π (.fz b) x.2 _ vb (ad.plus a.size) q (by simpa only [Rel]using hb) (by simpa only [gok]using hk) (by simpa only [get]using hg) (hat.right hl (fun _ h=>h.elim)))
 |.ix i::π,.sl e,x,S,vs,ad,q,hr,hk,hg,hat=>by
  simp only[Rel]at hr;obtain⟨v,ety,xs,T,rfl,h2,h3,h4,h5,h6,h7⟩:=hr;simp only[gok]at hk;simp only[get]at hg;obtain⟨hi,hk⟩:=hk;rcases zr h2 with⟨hn,_⟩|⟨g,off0,cap,cur,hv,hgg,hc1,hc2,hc3,hc4⟩
  ·omega
  have hxi:x[i]? = some (x.getD i e.dflt):=by rw[a0n,a0o hi];rfl
  have hrow:=h7 i _ hxi;have hrl:=Rel.len e _ _ _ hrow;have hcells:oy w g (off0+i*e.size) ((xs.drop (i*e.size)).take e.size):=fun j u hu=>by rw[a19 w g _ cur ety (0,0) hgg];exact ali hc4 hu
  have hat':At w (T i) ((xs.drop (i*e.size)).take e.size) (some (g,off0+i*e.size)):=by intro b off hh;cases hh;refine⟨fun hc=>(h5 i g hc).2 (by rw[hv];rfl),cur,ety,hgg,fun j u hu=>?_⟩;exact ali hc4 hu
  obtain⟨us,pl,S',e1,e2,e3,e4,e5,e6⟩:=aff π e _ (T i) _ (some (g,off0+i*e.size)) q hrow hk hg hat';have hSg:S g:=h4 g (by rw[hv];rfl);have hgT:¬T i g:=fun hc=>(h5 i g hc).2 (by rw[hv];rfl);have hres:res w (.ix i::π) (.sl e) [v] ad=some (us,pl):=by rw[hv];simp only[res,a1w];rw[xe hrl hcells];exact e1
  refine⟨us,pl,S',hres,fun c hc=>(h5 i c (e2 c hc)).1,e3,fun _=>?_,fun h=>by simp[cm]at h,?_⟩
  ·cases hh:cm π with
   |true=>obtain⟨b,off,cur',ty',k1,k2,k3,k4,k5⟩:=e4 hh;exact⟨b,off,cur',ty',k1,(h5 i b k2).1,k3,k4,k5⟩
   |false=>
    obtain⟨n,k1,k2,k3,k4,k5⟩:=e5 hh;refine⟨g,off0+i*e.size+n,cur,ety,by rw[k2];rfl,hSg,fun hc=>hgT (e2 g hc),hgg,fun j u hu=>?_⟩;rw[k3,a1e]at hu;split at hu
    ·rw[a1c]at hu;have:=ali hc4 hu;rw[←this];congr 1;omega
    ·cases hu
  ·intro Im' w' n S'' us' ob' f1 f2 f3 f4 f5 f6 f7;simp only[set]at f1
   cases hs:set π e (x.getD i e.dflt) n with
   |none=>rw[hs]at f1;cases f1
   |some qn=>
    rw[hs]at f1;simp only at f1
    cases hcst:ri qn e with
    |none=>rw[hcst]at f1;cases f1
    |some y=>
     rw[hcst]at f1;simp only[a0d]at f1;subst f1
     have hcast:∃h:qn.o=e,y=h▸qn.x:=by
      unfold ri at hcst;split at hcst
      ·rename_i h;exact⟨O.beq_eq h,by simpa using hcst.symm⟩
      ·cases hcst
     have hul:us'.length=us.length:=by rw[Rel.len _ _ _ _ f3,Rel.len _ _ _ _ e3];exact f2
     obtain⟨g1,g2⟩:=e6 Im' w' n S'' us' qn hs f2 f3 f4 (fun c hc h=>f5 c hc (h5 i c h).1) (fun hh b off hp=>f6 rfl b off hp)
      (fun c hc hn hne=>f7 c (h5 i c hc).1 hn (fun b off hp _=>by
       cases hh:cm π with
       |true=>exact hne b off hp hh
       |false=>obtain⟨m,k1,k2,_⟩:=e5 hh;rw[k2]at hp;simp only[Pl.plus,a00,a0d,a0j]at hp;obtain⟨rfl,_⟩:=hp;exact fun ec=>hgT (ec▸hc)))
     obtain⟨rfl,rfl⟩:=hcast;have hol:(di π qn.o ((xs.drop (i*qn.o.size)).take qn.o.size) us').length=qn.o.size:=Rel.len _ _ _ _ g2;refine⟨rfl,?_⟩;simp only[di]
     -- the row in the new world
     have hnew:∃xs',ve w' ety qn.o.size v x.length xs'/\∀i',(xs'.drop (i'*qn.o.size)).take qn.o.size=if i'=i then di π qn.o ((xs.drop (i*qn.o.size)).take qn.o.size) us' else (xs.drop (i'*qn.o.size)).take qn.o.size:=by
      cases hh:cm π with
      |true=>
       obtain⟨b,off,cur',ty',k1,k2,k3,k4,k5⟩:=e4 hh;refine⟨xs,apf (fun b' hb'=>?_) h2,fun i'=>?_⟩
       ·have hbg:b'=g:=by rw[hv]at hb';simpa[jz]using hb'.symm
        subst hbg;refine f7 b' hSg (fun hc=>hgT (e2 b' hc)) (fun b2 off2 hp _=>?_);rw[k1]at hp;simp only[a0d,a0j]at hp;intro ec;exact hgT (by rw[ec,←hp.1];exact k2)
       ·rw[nq _ _ _ _ hh];split
        ·rename_i ei;rw[ei]
        ·rfl
      |false=>
       obtain⟨m,k1,k2,k3,k4,k5⟩:=e5 hh;have hpl:pl=some (g,off0+i*qn.o.size+m):=by rw[k2];rfl
       have hgw:=f6 rfl g _ hpl cur ety hgg;have hor:=k5 us' hul;rw[hrl]at k4;refine⟨d3 xs (i*qn.o.size) (di π qn.o ((xs.drop (i*qn.o.size)).take qn.o.size) us'),?_,fun i'=>bfl h2.1 hi hol⟩;rw[hv];exact ayo h2.1 hc1 hc2 hc3 hc4 hi hol (m:=m) (us':=us') (by omega) hor hgw
     obtain⟨xs',hx1,hx2⟩:=hnew;simp only[Rel];refine⟨v,ety,xs',fun i' c=>if i'=i then (T i c/\¬S' c)\/S'' c else T i' c,rfl,by rw[a1h];exact hx1,by rw[a1h];exact h3,fun c hc=>?_,fun i' c hc=>?_,fun i1 i2 c hne hc1' hc2'=>?_,fun i' y hy=>?_⟩
     ·refine .inl ⟨h4 c hc,fun hs'=>(h5 i c (e2 c hs')).2 hc⟩
     ·simp only at hc;by_cases ei:i'=i
      ·rw[d0 ei]at hc;rcases hc with⟨hc,hn⟩|hc
       ·exact⟨.inl ⟨(h5 i c hc).1,hn⟩,(h5 i c hc).2⟩
       ·refine⟨.inr hc,fun hr=>?_⟩;exact (h5 i c (e2 c (f5 c hc (h4 c hr)))).2 hr
      ·rw[ds ei]at hc;exact⟨.inl ⟨(h5 i' c hc).1,fun hs'=>h6 i' i c ei hc (e2 c hs')⟩,(h5 i' c hc).2⟩
     ·simp only at hc1' hc2';by_cases e1':i1=i
      ·rw[d0 e1']at hc1';have e2':i2≠i:=fun h=>hne (e1'.trans h.symm);rw[ds e2']at hc2';rcases hc1' with⟨hc,_⟩|hc
       ·exact h6 i i2 c (a0w e2') hc hc2'
       ·exact h6 i i2 c (a0w e2') (e2 c (f5 c hc (h5 i2 c hc2').1)) hc2'
      ·rw[ds e1']at hc1';by_cases e2':i2=i
       ·rw[d0 e2']at hc2';rcases hc2' with⟨hc,_⟩|hc
        ·exact h6 i1 i c e1' hc1' hc
        ·exact h6 i1 i c e1' hc1' (e2 c (f5 c hc (h5 i1 c hc1').1))
       ·rw[ds e2']at hc2';exact h6 i1 i2 c hne hc1' hc2'
     ·rw[hx2 i'];by_cases ei:i'=i
      ·subst ei;rw[a3m]at hy;simp only[hi,a01,a0d]at hy;subst hy;simp only[a01];exact g2
      ·simp only[ds ei];rw[a3m,ds (a0w ei)]at hy;refine Rel.keep f4 _ y (T i') _ (fun c hc=>f7 c (h5 i' c hc).1 (fun hs'=>h6 i' i c ei hc (e2 c hs')) (fun b off hp _ ec=>?_)) (h7 i' y hy)
       cases hh:cm π with
       |true=>obtain⟨b2,off2,cur',ty',k1,k2,_⟩:=e4 hh;rw[k1]at hp;simp only[a0d,a0j]at hp;exact h6 i' i c ei hc (by rw[ec,←hp.1];exact k2)
       |false=>obtain⟨m,k1,k2,_⟩:=e5 hh;rw[k2]at hp;simp only[Pl.plus,a00,a0d,a0j]at hp;exact (h5 i' c hc).2 (by rw[hv,ec,←hp.1];rfl)
 |.de::π,.pt t,x,S,vs,ad,q,hr,hk,hg,hat=>by
  simp only[Rel]at hr;obtain⟨b0,us0,ty0,S0,rfl,h2,h3,h4,h5⟩:=hr;simp only[gok]at hk;simp only[get]at hg;have hlen:=Rel.len t _ _ _ h5;have hcells:oy w b0 0 us0:=fun j u hu=>by rw[a19 w b0 _ us0.toArray ty0 (0,0) h3];simpa using hu
  have hat':At w S0 us0 (some (b0,0)):=by intro b off hh;cases hh;exact⟨fun hc=>(h4 b0 hc).2 rfl,us0.toArray,ty0,h3,fun j u hu=>by simpa using hu⟩
  obtain⟨us,pl,S',e1,e2,e3,e4,e5,e6⟩:=aff π t _ S0 us0 (some (b0,0)) q h5 hk hg hat';have hb0:¬S0 b0:=fun hc=>(h4 b0 hc).2 rfl;refine⟨us,pl,S',?_,fun c hc=>(h4 c (e2 c hc)).1,e3,fun _=>?_,fun h=>by simp[cm]at h,?_⟩
  ·simp only[res];rw[xe hlen hcells];exact e1
  ·cases hh:cm π with
   |true=>obtain⟨b,off,cur',ty',k1,k2,k3,k4,k5⟩:=e4 hh;exact⟨b,off,cur',ty',k1,(h4 b k2).1,k3,k4,k5⟩
   |false=>
    obtain⟨n,k1,k2,k3,k4,k5⟩:=e5 hh;refine⟨b0,n,us0.toArray,ty0,by rw[k2];simp[Pl.plus],h2,fun hc=>hb0 (e2 b0 hc),h3,fun j u hu=>?_⟩;rw[k3,a1e]at hu;split at hu
    ·rw[a1c]at hu;simpa using hu
    ·cases hu
  ·intro Im' w' n S'' us' ob' f1 f2 f3 f4 f5 f6 f7;simp only[set]at f1
   cases hs:set π t x n with
   |none=>rw[hs]at f1;cases f1
   |some qn=>
    rw[hs]at f1;simp only[a0d]at f1;subst f1;have hul:us'.length=us.length:=by rw[Rel.len _ _ _ _ f3,Rel.len _ _ _ _ e3];exact f2
    obtain⟨g1,g2⟩:=e6 Im' w' n S'' us' qn hs f2 f3 f4 (fun c hc h=>f5 c hc (h4 c h).1) (fun hh b off hp=>f6 rfl b off hp)
     (fun c hc hn hne=>f7 c (h4 c hc).1 hn (fun b off hp _=>by
      cases hh:cm π with
      |true=>exact hne b off hp hh
      |false=>obtain⟨m,k1,k2,_⟩:=e5 hh;rw[k2]at hp;simp only[Pl.plus,a00,a0d,a0j]at hp;obtain⟨rfl,_⟩:=hp;exact (h4 c hc).2))
    refine⟨rfl,?_⟩;simp only[di,Rel]
    have hnew:w'.heap[b0]? = some (.cells (di π t us0 us').toArray ty0 (0,0)):=by
     cases hh:cm π with
     |true=>
      obtain⟨b,off,cur',ty',k1,k2,k3,k4,k5⟩:=e4 hh;rw[nq _ _ _ _ hh,f7 b0 h2 (fun hc=>hb0 (e2 b0 hc)) (fun b2 off2 hp _=>?_)]
      ·exact h3
      ·rw[k1]at hp;simp only[a0d,a0j]at hp;intro ec;exact hb0 (by rw[ec,←hp.1];exact k2)
     |false=>obtain⟨m,k1,k2,k3,k4,k5⟩:=e5 hh;have:=f6 rfl b0 m (by rw[k2];simp[Pl.plus]) us0.toArray ty0 h3;rw[this,k5 us' hul]
    refine⟨b0,_,ty0,fun c=>(S0 c/\¬S' c)\/S'' c,rfl,.inl ⟨h2,fun hc=>hb0 (e2 b0 hc)⟩,hnew,fun c hc=>?_,g2⟩;rcases hc with⟨hc,hn⟩|hc
    ·exact⟨.inl ⟨(h4 c hc).1,hn⟩,(h4 c hc).2⟩
    ·exact⟨.inr hc,fun ec=>hb0 (e2 b0 (f5 b0 (ec▸hc) h2))⟩
 |.l::_,.sl _,_,_,_,_,_,_,hk,_,_=>by simp only[gok]at hk
 |.l::_,.pt _,_,_,_,_,_,_,hk,_,_=>by simp only[gok]at hk
 |.l::_,.fz (.int _),_,_,_,_,_,_,hk,_,_=>by simp only[gok]at hk
 |.l::_,.fz .bool,_,_,_,_,_,_,hk,_,_=>by simp only[gok]at hk
 |.l::_,.fz .str,_,_,_,_,_,_,hk,_,_=>by simp only[gok]at hk
 |.l::_,.fz .u,_,_,_,_,_,_,hk,_,_=>by simp only[gok]at hk
 |.l::_,.fz (.sl _),_,_,_,_,_,_,hk,_,_=>by simp only[gok]at hk
 |.l::_,.fz (.pt _),_,_,_,_,_,_,hk,_,_=>by simp only[gok]at hk
 |.l::_,.fz (.fn _ _),_,_,_,_,_,_,hk,_,_=>by simp only[gok]at hk
 |.l::_,.fz .any,_,_,_,_,_,_,hk,_,_=>by simp only[gok]at hk
 |.r::_,.sl _,_,_,_,_,_,_,hk,_,_=>by simp only[gok]at hk
 |.r::_,.pt _,_,_,_,_,_,_,hk,_,_=>by simp only[gok]at hk
 |.r::_,.fz (.int _),_,_,_,_,_,_,hk,_,_=>by simp only[gok]at hk
 |.r::_,.fz .bool,_,_,_,_,_,_,hk,_,_=>by simp only[gok]at hk
 |.r::_,.fz .str,_,_,_,_,_,_,hk,_,_=>by simp only[gok]at hk
 |.r::_,.fz .u,_,_,_,_,_,_,hk,_,_=>by simp only[gok]at hk
 |.r::_,.fz (.sl _),_,_,_,_,_,_,hk,_,_=>by simp only[gok]at hk
 |.r::_,.fz (.pt _),_,_,_,_,_,_,hk,_,_=>by simp only[gok]at hk
 |.r::_,.fz (.fn _ _),_,_,_,_,_,_,hk,_,_=>by simp only[gok]at hk
 |.r::_,.fz .any,_,_,_,_,_,_,hk,_,_=>by simp only[gok]at hk
 |.ix _::_,.fz _,_,_,_,_,_,_,hk,_,_=>by simp only[gok]at hk
 |.ix _::_,.p _ _,_,_,_,_,_,_,hk,_,_=>by simp only[gok]at hk
 |.ix _::_,.pt _,_,_,_,_,_,_,hk,_,_=>by simp only[gok]at hk
 |.de::_,.fz _,_,_,_,_,_,_,hk,_,_=>by simp only[gok]at hk
 |.de::_,.p _ _,_,_,_,_,_,_,hk,_,_=>by simp only[gok]at hk
 |.de::_,.sl _,_,_,_,_,_,_,hk,_,_=>by simp only[gok]at hk
end Go.Bm
/- The du machine:the state. -/
namespace Go.Bm
open Go.RowKit
theorem zt{Im:Nat->Prop}{w w':World}:(π:bq)->(o:O)->(x:o.strip.den)->(S:Nat->Prop)->(vs:List Value)->(ad:Pl)->Rel Im w o x S vs->gok π o x->(∀b,S b->w'.heap[b]? = w.heap[b]?)->res w' π o vs ad=res w π o vs ad
 |[],o,x,S,vs,ad,_,_,_=>by simp only[res]
 |.l::π,.p a b,x,S,vs,ad,hr,hk,hS=>by simp only[Rel]at hr;obtain⟨va,vb,S1,S2,rfl,h1,h2,h3,ha,hb⟩:=hr;simp only[res];rw[z6 (Rel.len a _ _ _ ha)];exact zt π a x.1 S1 va ad ha (by simpa only [gok]using hk) (fun c hc=>hS c (h1 c hc))
 |.r::π,.p a b,x,S,vs,ad,hr,hk,hS=>by simp only[Rel]at hr;obtain⟨va,vb,S1,S2,rfl,h1,h2,h3,ha,hb⟩:=hr;simp only[res];rw[zm (Rel.len a _ _ _ ha)];exact zt π b x.2 S2 vb _ hb (by simpa only [gok]using hk) (fun c hc=>hS c (h2 c hc))
 |.l::π,.fz (.p a b),x,S,vs,ad,hr,hk,hS=>by simp only[Rel,ai]at hr;obtain⟨va,vb,rfl,ha,hb⟩:=hr;simp only[res];rw[z6 (ai.len a _ _ ha)];exact zt π (.fz a) x.1 (fun _=>False) va ad (by simpa only [Rel]using ha) (by simpa only [gok]using hk) (fun c hc=>hc.elim)
 |.r::π,.fz (.p a b),x,S,vs,ad,hr,hk,hS=>by simp only[Rel,ai]at hr;obtain⟨va,vb,rfl,ha,hb⟩:=hr;simp only[res];rw[zm (ai.len a _ _ ha)];exact zt π (.fz b) x.2 (fun _=>False) vb _ (by simpa only [Rel]using hb) (by simpa only [gok]using hk) (fun c hc=>hc.elim)
 |.ix i::π,.sl e,x,S,vs,ad,hr,hk,hS=>by
  simp only[Rel]at hr;obtain⟨v,ety,xs,T,rfl,h2,h3,h4,h5,h6,h7⟩:=hr;simp only[gok]at hk;obtain⟨hi,hk⟩:=hk;rcases zr h2 with⟨hn,_⟩|⟨g,off0,cap,cur,hv,hgg,hc1,hc2,hc3,hc4⟩
  ·omega
  have hxi:x[i]? = some (x.getD i e.dflt):=by rw[a0n,a0o hi];rfl
  have hrow:=h7 i _ hxi;have hrl:=Rel.len e _ _ _ hrow;have hcells:oy w g (off0+i*e.size) ((xs.drop (i*e.size)).take e.size):=fun j u hu=>by rw[a19 w g _ cur ety (0,0) hgg];exact ali hc4 hu
  have hcells':=hcells.keep (w':=w') (hS g (h4 g (by rw[hv];rfl)));rw[hv];simp only[res,a1w];rw[xe hrl hcells,xe hrl hcells'];exact zt π e _ (T i) _ _ hrow hk (fun c hc=>hS c (h5 i c hc).1)
 |.de::π,.pt t,x,S,vs,ad,hr,hk,hS=>by
  simp only[Rel]at hr;obtain⟨b0,us0,ty0,S0,rfl,h2,h3,h4,h5⟩:=hr;simp only[gok]at hk;have hlen:=Rel.len t _ _ _ h5;have hcells:oy w b0 0 us0:=fun j u hu=>by rw[a19 w b0 _ us0.toArray ty0 (0,0) h3];simpa using hu
  have hcells':=hcells.keep (w':=w') (hS b0 h2);simp only[res];rw[xe hlen hcells,xe hlen hcells'];exact zt π t x S0 us0 _ h5 hk (fun c hc=>hS c (h4 c hc).1)
 |.l::_,.sl _,_,_,_,_,_,_,_=>by simp only[res]
 |.l::_,.pt _,_,_,_,_,_,_,_=>by simp only[res]
 |.l::_,.fz (.int _),_,_,_,_,_,_,_=>by simp only[res]
 |.l::_,.fz .bool,_,_,_,_,_,_,_=>by simp only[res]
 |.l::_,.fz .str,_,_,_,_,_,_,_=>by simp only[res]
 |.l::_,.fz .u,_,_,_,_,_,_,_=>by simp only[res]
 |.l::_,.fz (.sl _),_,_,_,_,_,_,_=>by simp only[res]
 |.l::_,.fz (.pt _),_,_,_,_,_,_,_=>by simp only[res]
 |.l::_,.fz (.fn _ _),_,_,_,_,_,_,_=>by simp only[res]
 |.l::_,.fz .any,_,_,_,_,_,_,_=>by simp only[res]
 |.r::_,.sl _,_,_,_,_,_,_,_=>by simp only[res]
 |.r::_,.pt _,_,_,_,_,_,_,_=>by simp only[res]
 |.r::_,.fz (.int _),_,_,_,_,_,_,_=>by simp only[res]
 |.r::_,.fz .bool,_,_,_,_,_,_,_=>by simp only[res]
 |.r::_,.fz .str,_,_,_,_,_,_,_=>by simp only[res]
 |.r::_,.fz .u,_,_,_,_,_,_,_=>by simp only[res]
 |.r::_,.fz (.sl _),_,_,_,_,_,_,_=>by simp only[res]
 |.r::_,.fz (.pt _),_,_,_,_,_,_,_=>by simp only[res]
 |.r::_,.fz (.fn _ _),_,_,_,_,_,_,_=>by simp only[res]
 |.r::_,.fz .any,_,_,_,_,_,_,_=>by simp only[res]
 |.ix _::_,.fz _,_,_,_,_,_,_,_=>by simp only[res]
 |.ix _::_,.p _ _,_,_,_,_,_,_,_=>by simp only[res]
 |.ix _::_,.pt _,_,_,_,_,_,_,_=>by simp only[res]
 |.de::_,.fz _,_,_,_,_,_,_,_=>by simp only[res]
 |.de::_,.p _ _,_,_,_,_,_,_,_=>by simp only[res]
 |.de::_,.sl _,_,_,_,_,_,_,_=>by simp only[res]
def Ref(β:Nat->Value)(M:Mem)(w:World)(k:Nat)(π:bq)(vs:List Value):Prop:=∃ob pl,go M k=some ob/\gok π ob.o ob.x/\(∃q,get π ob.o ob.x=some q)/\res w π ob.o [β k] none=some (vs,pl)
def Adr(β:Nat->Value)(M:Mem)(w:World)(k:Nat)(π:bq)(v:Value):Prop:=∃ob us b off,go M k=some ob/\gok π ob.o ob.x/\(∃q,get π ob.o ob.x=some q)/\cm π=true/\res w π ob.o [β k] none=some (us,some (b,off))/\v=.pointer (some ⟨b,off,none⟩)
def aa(β:Nat->Value)(M:Mem)(Im:Nat->Prop)(w:World):V->List Value->Prop
 |.p a b,vs=>∃va vb,vs=va++vb/\aa β M Im w a va/\aa β M Im w b vb
 |.u,vs=>vs=[]
 |.ref k π,vs=>Ref β M w k π vs
 |.ad k π,vs=>∃v,vs=[v]/\Adr β M w k π v
 |.d t x,vs=>ai Im w t x vs
 |.nl,vs=>∃oa,vs=[.slice oa 0 0]
 |.np,vs=>vs=[.pointer none]
 |.any,vs=>∀u∈vs,u.oneCell'=true
 |.fn f v,vs=>∃us:List Value,vs=[.func (.func f) #[] us.toArray]/\aa β M Im w v us
 |.bx v,vs=>∃b o us,vs=[.pointer (some ⟨b,o,none⟩)]/\Im b/\oy w b o us/\aa β M Im w v us
 |.ag _,_=>False
 |.tup _,_=>False
 |.gd _ _ _ _,_=>False
 |.ifc t v,vs=>∃u:Value,vs=[.iface t u]/\aa β M Im w v [u]
mutual
def ah(β:Nat->Value)(M:Mem)(Im:Nat->Prop)(w:World):V->Value->Prop
 |.any,_=>True
 |.ag x,v=>∃vs:List Value,v=.agg vs.toArray/\aa β M Im w x vs
 |.tup x,v=>∃vs:List Value,v=.tuple vs.toArray/\cf β M Im w x vs
 |.gd _ _ P x,v=>(P->ah β M Im w x v)/\(¬P->v=undef)
 |.ifc t x,v=>aa β M Im w (.ifc t x) [v]
 |.p a b,v=>aa β M Im w (.p a b) [v]
 |.u,v=>aa β M Im w .u [v]
 |.ref k π,v=>aa β M Im w (.ref k π) [v]
 |.ad k π,v=>aa β M Im w (.ad k π) [v]
 |.d t x,v=>aa β M Im w (.d t x) [v]
 |.nl,v=>aa β M Im w .nl [v]
 |.np,v=>aa β M Im w .np [v]
 |.fn f x,v=>aa β M Im w (.fn f x) [v]
 |.bx x,v=>aa β M Im w (.bx x) [v]
def cf(β:Nat->Value)(M:Mem)(Im:Nat->Prop)(w:World):V->List Value->Prop
 |.p a b,vs=>∃u us,vs=u::us/\ah β M Im w a u/\cf β M Im w b us
 |.u,vs=>vs=[]
 |_,_=>False
end
section
variable {β β':Nat->Value} {M M':Mem} {Im Im':Nat->Prop} {w w':World}
theorem a7{x:V}{v:Value}(h:aa β M Im w x [v]):ah β M Im w x v:=by
 cases x with
 |any=>simp only[ah]
 |ag y=>simp only[aa]at h
 |tup y=>simp only[aa]at h
 |gd _ _ _ y=>simp only[aa]at h
 |ifc _ y=>simpa only [ah]using h
 |p a b=>simpa only [ah]using h
 |u=>simpa only [ah]using h
 |ref k π=>simpa only [ah]using h
 |ad k π=>simpa only [ah]using h
 |d t y=>simpa only [ah]using h
 |nl=>simpa only [ah]using h
 |np=>simpa only [ah]using h
 |fn f y=>simpa only [ah]using h
 |bx y=>simpa only [ah]using h
theorem aa.ev{e:Ev}(hk:gn Im Im' w w')(href:∀k π vs,Ref β M w k π vs->aa β' M' Im' w' (e.ref k π) vs)(had:∀k π v,Adr β M w k π v->aa β' M' Im' w' (e.ad k π) [v]) :
  (x:V)->(vs:List Value)->aa β M Im w x vs->aa β' M' Im' w' (x.ev e) vs
 |.p a b,vs,r=>by simp only[aa,V.ev]at r⊢;obtain⟨va,vb,h1,h2,h3⟩:=r;exact⟨va,vb,h1,aa.ev hk href had a va h2,aa.ev hk href had b vb h3⟩
 |.u,vs,r=>by simpa only [aa,V.ev]using r
 |.ref k π,vs,r=>by simp only[aa,V.ev]at r⊢;exact href k π vs r
 |.ad k π,vs,r=>by simp only[aa,V.ev]at r⊢;obtain⟨v,rfl,h⟩:=r;exact had k π v h
 |.d t x,vs,r=>by simp only[aa,V.ev]at r⊢;exact ai.keep hk t x vs r
 |.nl,vs,r=>by simpa only [aa,V.ev]using r
 |.np,vs,r=>by simpa only [aa,V.ev]using r
 |.any,vs,r=>by simpa only [aa,V.ev]using r
 |.fn f v,vs,r=>by simp only[aa,V.ev]at r⊢;obtain⟨us,h1,h2⟩:=r;exact⟨us,h1,aa.ev hk href had v us h2⟩
 |.bx v,vs,r=>by simp only[aa,V.ev]at r⊢;obtain⟨b,o,us,h1,h2,h3,h4⟩:=r;exact⟨b,o,us,h1,(hk b h2).1,h3.keep (hk b h2).2,aa.ev hk href had v us h4⟩
 |.ag _,vs,r=>by simp only[aa]at r
 |.tup _,vs,r=>by simp only[aa]at r
 |.gd _ _ _ _,vs,r=>by simp only[aa]at r
 |.ifc t v,vs,r=>by simp only[aa,V.ev]at r⊢;obtain⟨u,h1,h2⟩:=r;exact⟨u,h1,aa.ev hk href had v [u] h2⟩
mutual
theorem ah.ev{e:Ev}(hk:gn Im Im' w w')(href:∀k π vs,Ref β M w k π vs->aa β' M' Im' w' (e.ref k π) vs)(had:∀k π v,Adr β M w k π v->aa β' M' Im' w' (e.ad k π) [v]) :
  (x:V)->(v:Value)->ah β M Im w x v->ah β' M' Im' w' (x.ev e) v
 |.any,v,r=>by simp only[V.ev,ah]
 |.ag x,v,r=>by simp only[ah,V.ev]at r⊢;obtain⟨vs,h1,h2⟩:=r;exact⟨vs,h1,aa.ev hk href had x vs h2⟩
 |.tup x,v,r=>by simp only[ah,V.ev]at r⊢;obtain⟨vs,h1,h2⟩:=r;exact⟨vs,h1,cf.ev hk href had x vs h2⟩
 |.gd j b P x,v,r=>by simp only[ah,V.ev]at r⊢;exact⟨fun hp=>ah.ev hk href had x v (r.1 hp),r.2⟩
 |.ifc t x,v,r=>by simp only[ah]at r;exact a7 (aa.ev hk href had _ _ r)
 |.p a b,v,r=>by simp only[ah]at r;exact a7 (aa.ev hk href had _ _ r)
 |.u,v,r=>by simp only[ah]at r;exact a7 (aa.ev hk href had _ _ r)
 |.ref k π,v,r=>by simp only[ah]at r;exact a7 (aa.ev hk href had _ _ r)
 |.ad k π,v,r=>by simp only[ah]at r;exact a7 (aa.ev hk href had _ _ r)
 |.d t x,v,r=>by simp only[ah]at r;exact a7 (aa.ev hk href had _ _ r)
 |.nl,v,r=>by simp only[ah]at r;exact a7 (aa.ev hk href had _ _ r)
 |.np,v,r=>by simp only[ah]at r;exact a7 (aa.ev hk href had _ _ r)
 |.fn f x,v,r=>by simp only[ah]at r;exact a7 (aa.ev hk href had _ _ r)
 |.bx x,v,r=>by simp only[ah]at r;exact a7 (aa.ev hk href had _ _ r)
theorem cf.ev{e:Ev}(hk:gn Im Im' w w')(href:∀k π vs,Ref β M w k π vs->aa β' M' Im' w' (e.ref k π) vs)(had:∀k π v,Adr β M w k π v->aa β' M' Im' w' (e.ad k π) [v]) :
  (x:V)->(vs:List Value)->cf β M Im w x vs->cf β' M' Im' w' (x.ev e) vs
 |.p a b,vs,r=>by simp only[cf,V.ev]at r⊢;obtain⟨u,us,h1,h2,h3⟩:=r;exact⟨u,us,h1,ah.ev hk href had a u h2,cf.ev hk href had b us h3⟩
 |.u,vs,r=>by simpa only [cf,V.ev]using r
 |.any,vs,r=>by simp only[cf]at r
 |.ag x,vs,r=>by simp only[cf]at r
 |.tup x,vs,r=>by simp only[cf]at r
 |.gd j b P x,vs,r=>by simp only[cf]at r
 |.ifc t x,vs,r=>by simp only[cf]at r
 |.ref k π,vs,r=>by simp only[cf]at r
 |.ad k π,vs,r=>by simp only[cf]at r
 |.d t x,vs,r=>by simp only[cf]at r
 |.nl,vs,r=>by simp only[cf]at r
 |.np,vs,r=>by simp only[cf]at r
 |.fn f x,vs,r=>by simp only[cf]at r
 |.bx x,vs,r=>by simp only[cf]at r
end
theorem aa.keep(hk:gn Im Im' w w')(href:∀k π vs,Ref β M w k π vs->Ref β' M' w' k π vs)(had:∀k π v,Adr β M w k π v->Adr β' M' w' k π v) :
  (x:V)->(vs:List Value)->aa β M Im w x vs->aa β' M' Im' w' x vs
 |.p a b,vs,r=>by simp only[aa]at r⊢;obtain⟨va,vb,h1,h2,h3⟩:=r;exact⟨va,vb,h1,aa.keep hk href had a va h2,aa.keep hk href had b vb h3⟩
 |.u,vs,r=>by simpa only [aa]using r
 |.ref k π,vs,r=>by simp only[aa]at r⊢;exact href k π vs r
 |.ad k π,vs,r=>by simp only[aa]at r⊢;obtain⟨v,rfl,h⟩:=r;exact⟨v,rfl,had k π v h⟩
 |.d t x,vs,r=>by simp only[aa]at r⊢;exact ai.keep hk t x vs r
 |.nl,vs,r=>by simpa only [aa]using r
 |.np,vs,r=>by simpa only [aa]using r
 |.any,vs,r=>by simpa only [aa]using r
 |.fn f v,vs,r=>by simp only[aa]at r⊢;obtain⟨us,h1,h2⟩:=r;exact⟨us,h1,aa.keep hk href had v us h2⟩
 |.bx v,vs,r=>by simp only[aa]at r⊢;obtain⟨b,o,us,h1,h2,h3,h4⟩:=r;exact⟨b,o,us,h1,(hk b h2).1,h3.keep (hk b h2).2,aa.keep hk href had v us h4⟩
 |.ag _,vs,r=>by simp only[aa]at r
 |.tup _,vs,r=>by simp only[aa]at r
 |.gd _ _ _ _,vs,r=>by simp only[aa]at r
 |.ifc t v,vs,r=>by simp only[aa]at r⊢;obtain⟨u,h1,h2⟩:=r;exact⟨u,h1,aa.keep hk href had v [u] h2⟩
mutual
theorem ah.keep(hk:gn Im Im' w w')(href:∀k π vs,Ref β M w k π vs->Ref β' M' w' k π vs)(had:∀k π v,Adr β M w k π v->Adr β' M' w' k π v) :
  (x:V)->(v:Value)->ah β M Im w x v->ah β' M' Im' w' x v
 |.any,v,r=>by simp only[ah]
 |.ag x,v,r=>by simp only[ah]at r⊢;obtain⟨vs,h1,h2⟩:=r;exact⟨vs,h1,aa.keep hk href had x vs h2⟩
 |.tup x,v,r=>by simp only[ah]at r⊢;obtain⟨vs,h1,h2⟩:=r;exact⟨vs,h1,cf.keep hk href had x vs h2⟩
 |.gd j b P x,v,r=>by simp only[ah]at r⊢;exact⟨fun hp=>ah.keep hk href had x v (r.1 hp),r.2⟩
 |.ifc t x,v,r=>by simp only[ah]at r;exact a7 (aa.keep hk href had _ _ r)
 |.p a b,v,r=>by simp only[ah]at r;exact a7 (aa.keep hk href had _ _ r)
 |.u,v,r=>by simp only[ah]at r;exact a7 (aa.keep hk href had _ _ r)
 |.ref k π,v,r=>by simp only[ah]at r;exact a7 (aa.keep hk href had _ _ r)
 |.ad k π,v,r=>by simp only[ah]at r;exact a7 (aa.keep hk href had _ _ r)
 |.d t x,v,r=>by simp only[ah]at r;exact a7 (aa.keep hk href had _ _ r)
 |.nl,v,r=>by simp only[ah]at r;exact a7 (aa.keep hk href had _ _ r)
 |.np,v,r=>by simp only[ah]at r;exact a7 (aa.keep hk href had _ _ r)
 |.fn f x,v,r=>by simp only[ah]at r;exact a7 (aa.keep hk href had _ _ r)
 |.bx x,v,r=>by simp only[ah]at r;exact a7 (aa.keep hk href had _ _ r)
theorem cf.keep(hk:gn Im Im' w w')(href:∀k π vs,Ref β M w k π vs->Ref β' M' w' k π vs)(had:∀k π v,Adr β M w k π v->Adr β' M' w' k π v) :
  (x:V)->(vs:List Value)->cf β M Im w x vs->cf β' M' Im' w' x vs
 |.p a b,vs,r=>by simp only[cf]at r⊢;obtain⟨u,us,h1,h2,h3⟩:=r;exact⟨u,us,h1,ah.keep hk href had a u h2,cf.keep hk href had b us h3⟩
 |.u,vs,r=>by simpa only [cf]using r
 |.any,vs,r=>by simp only[cf]at r
 |.ag x,vs,r=>by simp only[cf]at r
 |.tup x,vs,r=>by simp only[cf]at r
 |.gd j b P x,vs,r=>by simp only[cf]at r
 |.ifc t x,vs,r=>by simp only[cf]at r
 |.ref k π,vs,r=>by simp only[cf]at r
 |.ad k π,vs,r=>by simp only[cf]at r
 |.d t x,vs,r=>by simp only[cf]at r
 |.nl,vs,r=>by simp only[cf]at r
 |.np,vs,r=>by simp only[cf]at r
 |.fn f x,vs,r=>by simp only[cf]at r
 |.bx x,vs,r=>by simp only[cf]at r
end
end
theorem amu{a b:Nat}(h:¬a=b):Nat.beq a b=false:=by
 cases hb:Nat.beq a b with
 |false=>rfl
 |true=>exact absurd (a0v hb) h
theorem km(k:Nat)(v:V)(r:Env)(t:Nat):gt ((k,v)::r) t=if k=t then v else gt r t:=by
 simp only[gt];by_cases h:k=t
 ·simp[h]
 ·rw[ds h];have:Nat.beq k t=false:=amu h;rw[this];rfl
theorem c8(k:Nat)(v:Ob)(r:Mem)(t:Nat):go ((k,v)::r) t=if k=t then some v else go r t:=by
 simp only[go];by_cases h:k=t
 ·simp[h]
 ·rw[ds h];have:Nat.beq k t=false:=amu h;rw[this];rfl
theorem ck{α:Type}(j k:Nat)(x y:α):(bif Nat.beq j k then x else y)=if j=k then x else y:=by
 by_cases h:j=k
 ·simp[h]
 ·rw[ds h];have:Nat.beq j k=false:=amu h;rw[this];rfl
def bt(M:Mem)(k:Nat):Prop:=(go M k).isSome=true
theorem bo{M:Mem}{k:Nat}{o:Ob}(h:go M k=some o):bt M k:=by unfold bt;rw[h];rfl
theorem ahx{M:Mem}{k:Nat}(h:bt M k):∃o,go M k=some o:=a48.1 h
theorem cy(k:Nat):∀M:Mem,go (del k M) k=none
 |[]=>rfl
 |(j,o)::r=>by
  simp only[del,ck];split
  ·exact cy k r
  ·rename_i h;rw[c8,ds h];exact cy k r
theorem dm{k j:Nat}(h:j≠k):∀M:Mem,go (del k M) j=go M j
 |[]=>rfl
 |(i,o)::r=>by
  simp only[del,ck];by_cases e:i=k
  ·subst e;rw[d0 rfl,c8,ds (a0w h)];exact dm h r
  ·rw[ds e,c8,c8,dm h r]
theorem pi{k j:Nat}{M:Mem}:bt (del k M) j<->j≠k/\bt M j:=by
 unfold bt;by_cases h:j=k
 ·subst h;simp[cy]
 ·simp[dm h,h]
theorem ng{k j:Nat}(o:Ob)(h:j≠k):∀M:Mem,go (put k o M) j=go M j
 |[]=>rfl
 |(i,x)::r=>by
  simp only[put,ck];by_cases e:i=k
  ·subst e;rw[d0 rfl,c8,c8,ds (a0w h),ds (a0w h)]
  ·rw[ds e,c8,c8,ng o h r]
theorem mq{k:Nat}(o:Ob):∀M:Mem,bt M k->go (put k o M) k=some o
 |[],h=>by simp[bt,go]at h
 |(i,x)::r,h=>by
  simp only[put,ck];by_cases e:i=k
  ·subst e;rw[d0 rfl,c8,d0 rfl]
  ·rw[ds e,c8,ds e];refine mq o r ?_;unfold bt at h⊢
   rwa [c8,ds e]at h
theorem uf{k j:Nat}{o:Ob}{M:Mem}:bt (put k o M) j<->bt M j:=by
 by_cases e:j=k
 ·subst e;by_cases h:bt M j
  ·exact⟨fun _=>h,fun _=>bo (mq o M h)⟩
  ·refine⟨fun h'=>?_,fun h'=>absurd h' h⟩;exfalso
   have:∀M:Mem,¬bt M j->¬bt (put j o M) j:=by
    intro M
    induction M with
    |nil=>intro h;exact h
    |cons q r ih=>
     obtain⟨i,x⟩:=q;intro hn hl;unfold bt at hn hl ih;simp only[put,ck]at hl;by_cases e:i=j
     ·subst e;rw[c8,d0 rfl]at hn;exact hn rfl
     ·rw[ds e,c8,ds e]at hl;rw[c8,ds e]at hn;exact ih hn hl
   exact this M h h'
 ·unfold bt;rw[ng o e]
theorem bkt(e:Ev)(t:Nat):∀env:Env,gt (evE e env) t=(gt env t).ev e
 |[]=>by simp[evE,gt,V.ev]
 |(j,v)::r=>by
  simp only[evE,km];split
  ·rfl
  ·exact bkt e t r
structure Fr where
 w0:World
 wk:World
 A:Nat->Prop
 R:Nat->Prop
 I:Nat->Prop
 nt:Nat
 fv:Nat->Option Value
def Fr.RR(F:Fr)(b:Nat):Prop:=F.R b
def Fr.ok(F:Fr)(k:Nat):Prop:=k<F.nt/\F.fv k=none
structure Ow where
 β:Nat->Value
 σ:Nat->Nat->Prop
 L:Nat->Prop
structure TD (w' w:World):Prop where
 t:w'.tape=w.tape
 d:w.drawn<=w'.drawn
theorem TD.refl(w:World):TD w w:=⟨rfl,a0f _⟩
theorem TD.trans{a b c:World}(h:TD c b)(k:TD b a):TD c a:=⟨h.t.trans k.t,a08 k.d h.d⟩
def Imm(F:Fr)(p:Ow)(M:Mem)(w:World):Nat->Prop:=fun b=>b<w.heap.size/\(F.A b\/F.RR b\/F.w0.heap.size<=b)/\¬p.L b/\∀k,bt M k->¬p.σ k b
structure Hp (F:Fr) (p:Ow) (M:Mem) (w:World):Prop where
 objs:∀k ob,go M k=some ob->Rel (Imm F p M w) w ob.o ob.x (p.σ k) [p.β k]
 sep:∀k k' b,k≠k'->bt M k->bt M k'->p.σ k b->¬p.σ k' b
 own:∀k b,bt M k->p.σ k b->b<w.heap.size/\(gid<=k/\F.RR b\/F.w0.heap.size<=b)
 lim:∀b,p.L b->b<w.heap.size/\F.w0.heap.size<=b/\∀k,bt M k->¬p.σ k b
 os:w.os=F.w0.os
 tape:TD w F.w0
 output:w.output=F.w0.output
 size:F.w0.heap.size<=w.heap.size
 old:∀b,b<F.w0.heap.size->¬F.RR b->w.heap[b]? = F.w0.heap[b]?
structure St (F:Fr) (p:Ow) (env:Env) (M:Mem) (a:Act) (w:World):Prop where
 defers:a.defers=[]
 nt:a.tmps.size=F.nt
 fix:∀t v,F.fv t=some v->a.tmps.getD t undef=v
 ik:∀b,F.I b->Imm F p M w b/\w.heap[b]? = F.wk.heap[b]?
 lz:∀b,¬p.L b
 slots:∀t,ah p.β M (Imm F p M w) w (gt env t) (a.tmps.getD t undef)
 hp:Hp F p M w
structure Tr (F:Fr) (p:Ow) (M:Mem) (w:World) (e:List Ev) (p':Ow) (M':Mem) (w':World):Prop where
 keep:gn (Imm F p M w) (Imm F p' M' w') w w'
 c:∀v vs,aa p.β M (Imm F p M w) w v vs->aa p'.β M' (Imm F p' M' w') w' (v.evs e) vs
 s:∀v u,ah p.β M (Imm F p M w) w v u->ah p'.β M' (Imm F p' M' w') w' (v.evs e) u
 hp:Hp F p' M' w'
theorem zz(v:V):∀(e e':List Ev),v.evs (ap e e')=(v.evs e).evs e'
 |[],e'=>rfl
 |x::e,e'=>by simp only[ap,V.evs];exact zz _ e e'
theorem u5(t:Nat):∀(e:List Ev) (env:Env),gt (rp env e) t=(gt env t).evs e
 |[],env=>rfl
 |x::e,env=>by simp only[rp,V.evs];rw[u5 t e,bkt]
section
variable {F:Fr} {p p' p'':Ow} {env:Env} {M M' M'':Mem} {a:Act} {w w' w'':World}
theorem Tr.trans{e e':List Ev}(h:Tr F p M w e p' M' w')(k:Tr F p' M' w' e' p'' M'' w''):Tr F p M w (ap e e') p'' M'' w'':=⟨h.keep.trans k.keep,fun v vs r=>by rw[zz];exact k.c _ _ (h.c v vs r),fun v u r=>by rw[zz];exact k.s _ _ (h.s v u r),k.hp⟩
theorem Tr.one(e:Ev)(hk:gn (Imm F p M w) (Imm F p' M' w') w w')
  (href:∀k π vs,Ref p.β M w k π vs->aa p'.β M' (Imm F p' M' w') w' (e.ref k π) vs) (had:∀k π v,Adr p.β M w k π v->aa p'.β M' (Imm F p' M' w') w' (e.ad k π) [v]) (hp':Hp F p' M' w'):Tr F p M w [e] p' M' w':=
 ⟨hk,fun v vs r=>by simp only[V.evs];exact aa.ev hk href had v vs r,fun v u r=>by simp only[V.evs];exact ah.ev hk href had v u r,hp'⟩
theorem Tr.zero(hk:gn (Imm F p M w) (Imm F p' M' w') w w')
  (href:∀k π vs,Ref p.β M w k π vs->Ref p'.β M' w' k π vs) (had:∀k π v,Adr p.β M w k π v->Adr p'.β M' w' k π v) (hp':Hp F p' M' w'):Tr F p M w [] p' M' w':=
 ⟨hk,fun v vs r=>by simp only[V.evs];exact aa.keep hk href had v vs r,fun v u r=>by simp only[V.evs];exact ah.keep hk href had v u r,hp'⟩
theorem Tr.refl(h:Hp F p M w):Tr F p M w [] p M w:=Tr.zero (gn.refl _ _) (fun _ _ _ r=>r) (fun _ _ _ r=>r) h
theorem St.tr{e:List Ev}(h:St F p env M a w)(t:Tr F p M w e p' M' w')(hL:∀b,¬p'.L b):St F p' (rp env e) M' a w':=by refine⟨h.defers,h.nt,h.fix,fun b hb=>⟨(t.keep b (h.ik b hb).1).1,((t.keep b (h.ik b hb).1).2).trans (h.ik b hb).2⟩,hL,fun n=>?_,t.hp⟩;rw[u5];exact t.s _ _ (h.slots n)
theorem Ref.same(hp:Hp F p M w){k:Nat}{π:bq}{vs:List Value}(h:Ref p.β M w k π vs)(hM:go M' k=go M k)(hβ:p'.β k=p.β k)(hb:bt M k->∀b,p.σ k b->w'.heap[b]? = w.heap[b]?):Ref p'.β M' w' k π vs:=by obtain⟨ob,pl,h1,h2,h3,h4⟩:=h;refine⟨ob,pl,by rw[hM,h1],h2,h3,?_⟩;rw[hβ,zt π ob.o ob.x (p.σ k) _ none (hp.objs k ob h1) h2 (hb (bo h1))];exact h4
theorem Adr.same(hp:Hp F p M w){k:Nat}{π:bq}{v:Value}(h:Adr p.β M w k π v)(hM:go M' k=go M k)(hβ:p'.β k=p.β k)(hb:bt M k->∀b,p.σ k b->w'.heap[b]? = w.heap[b]?):Adr p'.β M' w' k π v:=by obtain⟨ob,us,b,off,h1,h2,h3,h4,h5,h6⟩:=h;refine⟨ob,us,b,off,by rw[hM,h1],h2,h3,h4,?_,h6⟩;rw[hβ,zt π ob.o ob.x (p.σ k) _ none (hp.objs k ob h1) h2 (hb (bo h1))];exact h5
theorem St.write(h:St F p env M a w)(d:Nat)(x:V)(v:Value)(hx:ah p.β M (Imm F p M w) w x v)(hd:F.ok d):St F p ((d,x)::env) M (a.put (some d) v) w:=by
 refine⟨by simpa[Act.put]using h.defers,by simpa[Act.put]using h.nt,fun t v' ht=>?_,h.ik,h.lz,fun t=>?_,h.hp⟩
 ·have hne:d≠t:=fun e=>by have:=hd.2;rw[e,ht]at this;cases this
  have:=h.fix t v' ht;simpa[Act.put,hne]using this
 rw[km];simp only[Act.put];by_cases e:d=t
 ·subst e;rw[d0 rfl];simpa[h.nt,hd.1]using hx
 ·rw[ds e];have:=h.slots t;simpa[e]using this
theorem St.weak{env':Env}(h:St F p env M a w)(he:∀t,gt env' t=.any\/gt env' t=gt env t):St F p env' M a w:=by
 refine⟨h.defers,h.nt,h.fix,h.ik,h.lz,fun t=>?_,h.hp⟩;rcases he t with e|e
 ·rw[e];simp only[ah]
 ·rw[e];exact h.slots t
theorem look(hp:Hp F p M w){k:Nat}{ob:Ob}{π:bq}{q:Ob}(h1:go M k=some ob)(h2:gok π ob.o ob.x)(h3:get π ob.o ob.x=some q):Foc (Imm F p M w) w π ob.o ob.x (p.σ k) [p.β k] none q:=aff π ob.o ob.x (p.σ k) [p.β k] none q (hp.objs k ob h1) h2 h3 (fun b off e=>by cases e)
theorem Ref.one(hp:Hp F p M w){k:Nat}{π:bq}{vs:List Value}(h:Ref p.β M w k π vs):∀u∈vs,u.oneCell'=true:=by obtain⟨ob,pl,h1,h2,⟨q,h3⟩,h4⟩:=h;obtain⟨us,pl',S',e1,e2,e3,_⟩:=look hp h1 h2 h3;rw[e1]at h4;cases h4;exact Rel.one _ _ _ _ e3
theorem Adr.one{k:Nat}{π:bq}{v:Value}(h:Adr p.β M w k π v):v.oneCell'=true:=by obtain⟨_,_,_,_,_,_,_,_,_,rfl⟩:=h;rfl
structure Ext (w w':World):Prop where
 os:w'.os=w.os
 tape:TD w' w
 output:w'.output=w.output
 size:w.heap.size<=w'.heap.size
 old:∀b,b<w.heap.size->w'.heap[b]? = w.heap[b]?
theorem Ext.refl(w:World):Ext w w:=⟨rfl,TD.refl w,rfl,a0f _,fun _ _=>rfl⟩
theorem Ext.of_grown{w w':World}(h:w.grownBy w' none)(hd:w.drawn<=w'.drawn):Ext w w':=⟨h.os,⟨h.tape,hd⟩,h.output,h.size,fun b hb=>h.block b hb (by simp)⟩
theorem Tr.ext(h:Hp F p M w)(e:Ext w w'):Tr F p M w [] p M w':=by
 have hk:gn (Imm F p M w) (Imm F p M w') w w':=fun b hb=>⟨⟨by have:=e.size;have:=hb.1;omega,hb.2⟩,e.old b hb.1⟩
 refine Tr.zero hk (fun _ _ _ r=>r.same h rfl rfl (fun hl b hb=>e.old b (h.own _ b hl hb).1)) (fun _ _ _ r=>r.same h rfl rfl (fun hl b hb=>e.old b (h.own _ b hl hb).1))
  ⟨fun k ob hg=>Rel.keep hk _ _ _ _ (fun b hb=>e.old b (h.own k b (bo hg) hb).1) (h.objs k ob hg),h.sep,fun k b h1 h2=>?_,fun b hb=>?_,e.os.trans h.os,e.tape.trans h.tape,e.output.trans h.output,a08 h.size e.size,fun b hb hR=>?_⟩
 ·have:=h.own k b h1 h2;exact⟨by have:=e.size;omega,this.2⟩
 ·have:=h.lim b hb;exact⟨by have:=e.size;omega,this.2⟩
 ·rw[e.old b (by have:=h.size;omega)];exact h.old b hb hR
theorem St.ext(h:St F p env M a w)(e:Ext w w'):St F p env M a w':=by simpa[rp]using h.tr (Tr.ext h.hp e) h.lz
theorem Hp.del(h:Hp F p M w)(k:Nat):Hp F p (del k M) w/\gn (Imm F p M w) (Imm F p (del k M) w) w w:=by
 have hk:gn (Imm F p M w) (Imm F p (Bm.del k M) w) w w:=fun b hb=>⟨⟨hb.1,hb.2.1,hb.2.2.1,fun j hj=>hb.2.2.2 j (pi.1 hj).2⟩,rfl⟩;refine⟨⟨fun j ob hg=>?_,fun j j' b hne hj hj'=>h.sep j j' b hne (pi.1 hj).2 (pi.1 hj').2,fun j b hj=>h.own j b (pi.1 hj).2,fun b hb=>⟨(h.lim b hb).1,(h.lim b hb).2.1,fun j hj=>(h.lim b hb).2.2 j (pi.1 hj).2⟩,h.os,h.tape,h.output,h.size,h.old⟩,hk⟩;have hjk:j≠k:=by rintro rfl;rw[cy]at hg;cases hg
 rw[dm hjk]at hg;exact Rel.keep hk _ _ _ _ (fun _ _=>rfl) (h.objs j ob hg)
theorem Tr.kl(h:Hp F p M w)(k:Nat):Tr F p M w [.kl k] p (del k M) w:=by
 refine Tr.one (.kl k) (h.del k).2 (fun j π vs r=>?_) (fun j π v r=>?_) (h.del k).1
 ·simp only[Ev.ref,ck];split
  ·simp only[aa];exact r.one h
  ·rename_i hne;simp only[aa];exact r.same h (dm hne M) rfl (fun _ _ _=>rfl)
 ·simp only[Ev.ad,ck];split
  ·simp only[aa];intro u hu;rw[a0u.1 hu];exact r.one
  ·rename_i hne;simp only[aa];exact⟨v,rfl,r.same h (dm hne M) rfl (fun _ _ _=>rfl)⟩
theorem aer(h:Hp F p M w){k b:Nat}(hl:bt M k)(hb:p.σ k b):Imm F p (del k M) w b:=by obtain⟨h1,h2⟩:=h.own k b hl hb;exact⟨h1,h2.elim (fun h=>.inr (.inl h.2)) (fun h=>.inr (.inr h)),fun hL=>(h.lim b hL).2.2 k hl hb,fun j hj=>h.sep k j b (a0w (pi.1 hj).1) hl (pi.1 hj).2 hb⟩
theorem fw{β:Nat->Value}{Im:Nat->Prop}:(t:T)->(x:t.den)->(vs:List Value)->ai Im w t x vs->aa β M Im w (kg t x) vs
 |.p a b,x,vs,r=>by simp only[ai]at r;obtain⟨va,vb,h1,h2,h3⟩:=r;simp only[kg,aa];exact⟨va,vb,h1,fw a _ va h2,fw b _ vb h3⟩
 |.u,x,vs,r=>by simpa only [kg,aa,ai]using r
 |.int _,x,vs,r=>by simpa only [kg,aa]using r
 |.bool,x,vs,r=>by simpa only [kg,aa]using r
 |.str,x,vs,r=>by simpa only [kg,aa]using r
 |.sl _,x,vs,r=>by simpa only [kg,aa]using r
 |.pt _,x,vs,r=>by simpa only [kg,aa]using r
 |.fn _ _,x,vs,r=>by simpa only [kg,aa]using r
 |.ifc _ _,x,vs,r=>by simpa only [kg,aa]using r
 |.mp _ _,x,vs,r=>by simpa only [kg,aa]using r
 |.op _,x,vs,r=>by simpa only [kg,aa]using r
 |.ns _,x,vs,r=>by simpa only [kg,aa]using r
 |.er _,x,vs,r=>by simpa only [kg,aa]using r
 |.any,x,vs,r=>by simpa only [kg,aa]using r
theorem Tr.frz(h:Hp F p M w)(k:Nat)(ob:Ob)(hk:go M k=some ob):Tr F p M w [.fz k ob] p (del k M) w:=by
 have hl:=bo hk;refine Tr.one (.fz k ob) (h.del k).2 (fun j π vs r=>?_) (fun j π v r=>?_) (h.del k).1
 ·simp only[Ev.ref,ck];split
  ·rename_i e;subst e;obtain⟨ob',pl,h1,h2,⟨q,h3⟩,h4⟩:=r;rw[hk]at h1;cases h1;rw[h3];obtain⟨us,pl',S',e1,e2,e3,_⟩:=look h hk h2 h3;rw[e1]at h4;cases h4;exact fw _ _ _ (Rel.frz (fun b hb=>((h.del j).2 b hb).1) _ _ S' _ (fun b hb=>aer h hl (e2 b hb)) e3)
  ·rename_i hne;simp only[aa];exact r.same h (dm hne M) rfl (fun _ _ _=>rfl)
 ·simp only[Ev.ad,ck];split
  ·rename_i e;subst e;obtain⟨ob',us0,b0,off0,h1,h2,⟨q,h3⟩,h4,h5,rfl⟩:=r;rw[hk]at h1;cases h1;rw[h3];obtain⟨us,pl',S',e1,e2,e3,e4,_⟩:=look h hk h2 h3;rw[e1]at h5;simp only[a0d,a0j]at h5;obtain⟨rfl,rfl⟩:=h5;obtain⟨b,off,cur,ty',k1,k2,k3,k4,k5⟩:=e4 h4;simp only[a0d,a0j]at k1;obtain⟨rfl,rfl⟩:=k1;simp only[aa,ai];refine⟨b0,off0,us,rfl,aer h hl k2,fun j' u hu=>?_,Rel.frz (fun b hb=>((h.del j).2 b hb).1) _ _ S' _ (fun b hb=>aer h hl (e2 b hb)) e3⟩;rw[a19 w b0 _ cur ty' (0,0) k4];exact k5 j' u hu
  ·rename_i hne;simp only[aa];exact⟨v,rfl,r.same h (dm hne M) rfl (fun _ _ _=>rfl)⟩
theorem Tr.lim(h:Hp F p M w)(k:Nat)(hl:bt M k)(hg:k<gid):Tr F p M w [.kl k] ⟨p.β,p.σ,fun b=>p.L b\/p.σ k b⟩ (del k M) w:=by
 have hI:∀b,Imm F p M w b->Imm F ⟨p.β,p.σ,fun b=>p.L b\/p.σ k b⟩ (Bm.del k M) w b:=fun b hb=>⟨hb.1,hb.2.1,fun hc=>hc.elim hb.2.2.1 (hb.2.2.2 k hl),fun j hj=>hb.2.2.2 j (pi.1 hj).2⟩;have hk:gn (Imm F p M w) (Imm F ⟨p.β,p.σ,fun b=>p.L b\/p.σ k b⟩ (Bm.del k M) w) w w:=fun b hb=>⟨hI b hb,rfl⟩;refine Tr.one (.kl k) hk (fun j π vs r=>?_) (fun j π v r=>?_) ⟨fun j ob hgo=>?_,fun j j' b hne hj hj'=>h.sep j j' b hne (pi.1 hj).2 (pi.1 hj').2,fun j b hj=>h.own j b (pi.1 hj).2,fun b hb=>?_,h.os,h.tape,h.output,h.size,h.old⟩
 ·simp only[Ev.ref,ck];split
  ·simp only[aa];exact r.one h
  ·rename_i hne;simp only[aa];exact r.same (p':=⟨p.β,p.σ,_⟩) h (dm hne M) rfl (fun _ _ _=>rfl)
 ·simp only[Ev.ad,ck];split
  ·simp only[aa];intro u hu;rw[a0u.1 hu];exact r.one
  ·rename_i hne;simp only[aa];exact⟨v,rfl,r.same (p':=⟨p.β,p.σ,_⟩) h (dm hne M) rfl (fun _ _ _=>rfl)⟩
 ·have hjk:j≠k:=by rintro rfl;rw[cy]at hgo;cases hgo
  rw[dm hjk]at hgo;exact Rel.keep hk _ _ _ _ (fun _ _=>rfl) (h.objs j ob hgo)
 ·rcases hb with hb|hb
  ·exact⟨(h.lim b hb).1,(h.lim b hb).2.1,fun j hj=>(h.lim b hb).2.2 j (pi.1 hj).2⟩
  ·obtain⟨k1,k2⟩:=h.own k b hl hb;refine⟨k1,k2.elim (fun h=>by have:=h.1;omega) id,fun j hj=>h.sep k j b (a0w (pi.1 hj).1) hl (pi.1 hj).2 hb⟩
def Ow.updL(p:Ow)(k:Nat)(v:Value)(r L':Nat->Prop):Ow:=⟨fun j=>if j=k then v else p.β j,fun j=>if j=k then r else p.σ j,L'⟩
def Ow.upd(p:Ow)(k:Nat)(v:Value)(r:Nat->Prop):Ow:=p.updL k v r fun _=>False
structure ExtL (w w':World) (L:Nat->Prop):Prop where
 os:w'.os=w.os
 tape:TD w' w
 output:w'.output=w.output
 size:w.heap.size<=w'.heap.size
 old:∀b,b<w.heap.size->¬L b->w'.heap[b]? = w.heap[b]?
theorem Ext.toL{w w':World}(h:Ext w w')(L:Nat->Prop):ExtL w w' L:=⟨h.os,h.tape,h.output,h.size,fun b hb _=>h.old b hb⟩
theorem Tr.newL(h:Hp F p M w)(k:Nat)(hk:go M k=none)(v:Value)(r L':Nat->Prop)(ob:Ob)(hg:ExtL w w' p.L)
  (hL':∀b,L' b->p.L b/\¬r b) (hr:∀b,r b->w.heap.size<=b/\b<w'.heap.size\/p.L b)
  (ho:gn (Imm F p M w) (Imm F (p.updL k v r L') ((k,ob)::M) w') w w'->Rel (Imm F (p.updL k v r L') ((k,ob)::M) w') w' ob.o ob.x r [v]) :
  Tr F p M w [] (p.updL k v r L') ((k,ob)::M) w':=by
 have hnl:¬bt M k:=by unfold bt;rw[hk];simp
 have hlive:∀j,bt ((k,ob)::M) j<->j=k\/bt M j:=fun j=>by
  unfold bt;rw[c8];by_cases e:k=j
  ·simp[e]
  ·rw[ds e];simp[a0w e]
 have hβ:∀j,j≠k->(p.updL k v r L').β j=p.β j:=fun j hj=>by simp[Ow.updL,hj]
 have hσ:∀j,j≠k->(p.updL k v r L').σ j=p.σ j:=fun j hj=>by simp[Ow.updL,hj]
 have hβk:(p.updL k v r L').β k=v:=by simp[Ow.updL]
 have hσk:(p.updL k v r L').σ k=r:=by simp[Ow.updL]
 have hkeep:gn (Imm F p M w) (Imm F (p.updL k v r L') ((k,ob)::M) w') w w':=fun b hb=>by
  refine⟨⟨by have:=hg.size;have:=hb.1;omega,hb.2.1,fun h=>hb.2.2.1 (hL' b h).1,fun j hj=>?_⟩,hg.old b hb.1 hb.2.2.1⟩;rcases (hlive j).1 hj with rfl|hj
  ·rw[hσk];intro hrb;rcases hr b hrb with h1|h1
   ·have:=hb.1;omega
   ·exact hb.2.2.1 h1
  ·have hne:j≠k:=fun e=>hnl (e▸hj);rw[hσ j hne];exact hb.2.2.2 j hj
 have hgo:∀j,j≠k->go ((k,ob)::M) j=go M j:=fun j hj=>by rw[c8,ds (a0w hj)]
 have hblk:∀j,bt M j->∀b,p.σ j b->w'.heap[b]? = w.heap[b]?:=fun j hj b hb=>hg.old b (h.own j b hj hb).1 (fun hL=>(h.lim b hL).2.2 j hj hb);refine Tr.zero hkeep (fun j π vs q=>?_) (fun j π v' q=>?_) ⟨fun j o hj=>?_,fun j j' b hne hj hj' hb=>?_,fun j b hj hb=>?_,fun b hb=>?_,hg.os.trans h.os,hg.tape.trans h.tape,hg.output.trans h.output,a08 h.size hg.size,fun b hb hR=>?_⟩
 ·have hne:j≠k:=by rintro rfl;obtain⟨o,_,h1,_⟩:=q;rw[hk]at h1;cases h1
  exact q.same h (hgo j hne) (hβ j hne) (hblk j)
 ·have hne:j≠k:=by rintro rfl;obtain⟨o,_,_,_,h1,_⟩:=q;rw[hk]at h1;cases h1
  exact q.same h (hgo j hne) (hβ j hne) (hblk j)
 ·by_cases e:j=k
  ·subst e;rw[c8,d0 rfl]at hj;cases hj;rw[hβk,hσk];exact ho hkeep
  ·rw[hgo j e]at hj;rw[hβ j e,hσ j e];exact Rel.keep hkeep _ _ _ _ (hblk j (bo hj)) (h.objs j o hj)
 ·rcases (hlive j).1 hj with ej|hj0
  ·rw[ej,hσk]at hb;rcases (hlive j').1 hj' with ej'|hj0'
   ·exact absurd (ej.trans ej'.symm) hne
   ·have hn':j'≠k:=fun e=>hnl (e▸hj0');rw[hσ j' hn'];intro hb';rcases hr b hb with h1|h1
    ·have:=(h.own j' b hj0' hb').1;omega
    ·exact (h.lim b h1).2.2 j' hj0' hb'
  ·have hn:j≠k:=fun e=>hnl (e▸hj0);rw[hσ j hn]at hb;rcases (hlive j').1 hj' with ej'|hj0'
   ·rw[ej',hσk];intro hb';rcases hr b hb' with h1|h1
    ·have:=(h.own j b hj0 hb).1;omega
    ·exact (h.lim b h1).2.2 j hj0 hb
   ·have hn':j'≠k:=fun e=>hnl (e▸hj0');rw[hσ j' hn'];exact h.sep j j' b hne hj0 hj0' hb
 ·rcases (hlive j).1 hj with ej|hj
  ·subst ej;rw[hσk]at hb;rcases hr b hb with h1|h1
   ·exact⟨h1.2,.inr (a08 h.size h1.1)⟩
   ·exact⟨by have:=(h.lim b h1).1;have:=hg.size;omega,.inr (h.lim b h1).2.1⟩
  ·have hn:j≠k:=fun e=>hnl (e▸hj);rw[hσ j hn]at hb;have:=h.own j b hj hb;exact⟨by have:=hg.size;omega,this.2⟩
 ·have hb':=hL' b hb;refine⟨by have:=(h.lim b hb'.1).1;have:=hg.size;omega,(h.lim b hb'.1).2.1,fun j hj=>?_⟩;rcases (hlive j).1 hj with ej|hj
  ·rw[ej,hσk];exact hb'.2
  ·have hn:j≠k:=fun e=>hnl (e▸hj);rw[hσ j hn];exact (h.lim b hb'.1).2.2 j hj
 ·rw[hg.old b (by have:=h.size;omega) (fun hL=>by have:=(h.lim b hL).2.1;omega)];exact h.old b hb hR
theorem Tr.new(h:Hp F p M w)(k:Nat)(hk:go M k=none)(v:Value)(r:Nat->Prop)(ob:Ob)(hg:ExtL w w' p.L)
  (hr:∀b,r b->w.heap.size<=b/\b<w'.heap.size\/p.L b)
  (ho:gn (Imm F p M w) (Imm F (p.upd k v r) ((k,ob)::M) w') w w'->Rel (Imm F (p.upd k v r) ((k,ob)::M) w') w' ob.o ob.x r [v]) :
  Tr F p M w [] (p.upd k v r) ((k,ob)::M) w':=Tr.newL h k hk v r (fun _=>False) ob hg (fun _ hb=>hb.elim) hr ho
theorem Tr.drop(h:Hp F p M w)(L':Nat->Prop)(hL:∀b,L' b->p.L b):Tr F p M w [] ⟨p.β,p.σ,L'⟩ M w:=by have hk:gn (Imm F p M w) (Imm F ⟨p.β,p.σ,L'⟩ M w) w w:=fun b hb=>⟨⟨hb.1,hb.2.1,fun h=>hb.2.2.1 (hL b h),hb.2.2.2⟩,rfl⟩;refine Tr.zero hk (fun _ _ _ r=>r) (fun _ _ _ r=>r) ⟨fun k ob hg=>Rel.keep hk _ _ _ _ (fun _ _=>rfl) (h.objs k ob hg),h.sep,h.own,fun b hb=>h.lim b (hL b hb),h.os,h.tape,h.output,h.size,h.old⟩
theorem Tr.grow(h:Hp F p M w)(hL:∀b,¬p.L b)(e:Ext w w')(L':Nat->Prop)(hn:∀b,L' b->w.heap.size<=b/\b<w'.heap.size):Tr F p M w [] ⟨p.β,p.σ,L'⟩ M w':=by
 have hk:gn (Imm F p M w) (Imm F ⟨p.β,p.σ,L'⟩ M w') w w':=fun b hb=>⟨⟨by have:=e.size;have:=hb.1;omega,hb.2.1,fun h=>by have:=(hn b h).1;have:=hb.1;omega,hb.2.2.2⟩,e.old b hb.1⟩
 refine Tr.zero hk (fun _ _ _ r=>r.same h rfl rfl (fun hl b hb=>e.old b (h.own _ b hl hb).1)) (fun _ _ _ r=>r.same h rfl rfl (fun hl b hb=>e.old b (h.own _ b hl hb).1))
  ⟨fun k ob hg=>Rel.keep hk _ _ _ _ (fun b hb=>e.old b (h.own k b (bo hg) hb).1) (h.objs k ob hg),h.sep,fun k b h1 h2=>?_,fun b hb=>?_,e.os.trans h.os,e.tape.trans h.tape,e.output.trans h.output,a08 h.size e.size,fun b hb hR=>?_⟩
 ·have:=h.own k b h1 h2;exact⟨by have:=e.size;omega,this.2⟩
 ·refine⟨(hn b hb).2,by have:=(hn b hb).1;have:=h.size;omega,fun k hk hs=>?_⟩;have:=(h.own k b hk hs).1;have:=(hn b hb).1;omega
 ·rw[e.old b (by have:=h.size;omega)];exact h.old b hb hR
end
end Go.Bm
