/- The typed machine that the walks of this claim go by: its data, its operations and the proof that each is sound. No condition. -/
import Derived.WalkKit
set_option linter.unusedVariables false
set_option linter.unusedSimpArgs false
set_option linter.unusedSectionVars false
/- The du machine:data with Lean types,trees of own memory,abstract values. -/
namespace Go.Bm
open Go.RowKit
abbrev a0g:=@cond_false
abbrev a2k:=@Bool.and_self
abbrev a0j:=@Bool.and_true
abbrev a3n:=@Nat.beq_refl
abbrev a0a:=@Bool.and_eq_true
abbrev a0s:=@beq_iff_eq
abbrev a0d:=@Option.some.injEq
abbrev a1z:=@Nat.zero_add
abbrev a0q:=@List.length_append
abbrev a2e:=@List.getElem_of_mem
abbrev a0n:=@List.getElem?_eq_getElem
abbrev a0x:=@List.mem_singleton
abbrev a1m:=@List.mem_append
abbrev a08:=@List.getElem?_take
abbrev a09:=@List.getElem?_drop
abbrev a3d:=@Nat.add_assoc
abbrev a15:=@cell_of_row
abbrev a4b:=@List.take_left
abbrev a16:=@List.ext_getElem?
abbrev a05:=@List.getElem?_map
abbrev a2b:=@List.getElem?_range
abbrev a0z:=@Option.map_some
abbrev a1o:=@List.getElem?_eq_none
abbrev a1t:=@Nat.mul_le_mul_right
abbrev a1r:=@Nat.add_mul
abbrev d0:=@if_pos
abbrev a06:=@List.append_assoc
abbrev a1e:=@List.getElem?_append_left
abbrev ds:=@if_neg
abbrev a1u:=@List.getElem?_append_right
abbrev a10:=@List.take_append_drop
abbrev a4u:=@List.take_append_of_le_length
abbrev a3o:=@List.drop_append_of_le_length
abbrev a23:=@List.take_of_length_le
abbrev a4c:=@List.drop_of_length_le
abbrev a1n:=@List.length_drop
abbrev a2u:=@List.nil_append
abbrev a4v:=@Nat.add_sub_cancel_left
abbrev a1k:=@List.getElem?_eq_some_iff
abbrev a0k:=@Prod.mk.injEq
abbrev a11:=@Array.length_toList
abbrev a4d:=@List.drop_take
abbrev a3e:=@List.drop_drop
abbrev a1c:=@List.length_take
abbrev a0f:=@Nat.le_refl
abbrev a2l:=@List.append_nil
abbrev a0o:=@List.getD_eq_getElem?_getD
abbrev a1i:=@List.length_set
abbrev a0v:=@Ne.symm
abbrev a3f:=@List.getElem?_set
abbrev a03:=@if_true
abbrev a0t:=@Nat.eq_of_beq_eq_true
abbrev a4w:=@Option.isSome_iff_exists
abbrev a1a:=@Nat.le_trans
def nb:Nat:=140737488355328
def inK(k:IntKind)(n:Int):Prop:=k.min<=n/\n<=k.max
def ap{α:Type}:List α->List α->List α
 |[],b=>b
 |x::a,b=>x::ap a b
theorem jy{α:Type}(a b:List α):ap a b=a++b:=by
 induction a with
 |nil=>rfl
 |cons x a ih=>rw[ap,ih];rfl
def len{α:Type}:List α->Nat
 |[]=>0
 |_::r=>Nat.succ (len r)
theorem alu{α:Type}(a:List α):len a=a.length:=by
 induction a with
 |nil=>rfl
 |cons x a ih=>rw[len,ih];rfl
def mf{α:Type}:List α->Nat->Option α
 |[],_=>none
 |x::_,0=>some x
 |_::r,n+1=>mf r n
theorem z8{α:Type}(a:List α)(i:Nat):mf a i=a[i]?:=by
 induction a generalizing i with
 |nil=>rfl
 |cons x a ih=>cases i with
  |zero=>rfl
  |succ i=>rw[mf,ih];rfl
def fa{α:Type}:Nat->List α->List α
 |0,_=>[]
 |_+1,[]=>[]
 |n+1,x::r=>x::fa n r
theorem ak1{α:Type}(n:Nat)(a:List α):fa n a=a.take n:=by
 induction n generalizing a with
 |zero=>rfl
 |succ n ih=>cases a with
  |nil=>rfl
  |cons x a=>rw[fa,ih];rfl
def q9{α:Type}:Nat->List α->List α
 |0,a=>a
 |_+1,[]=>[]
 |n+1,_::r=>q9 n r
theorem ao0{α:Type}(n:Nat)(a:List α):q9 n a=a.drop n:=by
 induction n generalizing a with
 |zero=>rfl
 |succ n ih=>cases a with
  |nil=>rfl
  |cons x a=>rw[q9,ih];rfl
def aav{α:Type}(x:α):Nat->List α
 |0=>[]
 |n+1=>x::aav x n
def alz{α:Type}:List α->Nat->α->List α
 |[],_,_=>[]
 |_::r,0,y=>y::r
 |x::r,n+1,y=>x::alz r n y
def axp{α:Type}(p:α->Bool):List α->Bool
 |[]=>true
 |x::r=>bif p x then axp p r else false
def toL{α:Type}:Array α->List α
 |⟨l⟩=>l
def ah1:Nat->Nat->Nat
 |0,b=>b
 |a+1,b=>Nat.succ (ah1 a b)
@[simp] theorem anj (a b:Nat):ah1 a b=a+b:=by
 induction a with
 |zero=>simp[ah1]
 |succ a ih=>rw[ah1,ih];omega
def isZ:Nat->Bool
 |0=>true
 |_+1=>false
def bkh:Nat->Nat
 |0=>0
 |n+1=>n
def dy:Nat->Nat->Bool
 |0,b=>isZ b
 |a+1,b=>bif isZ b then false else dy a (bkh b)
@[simp] theorem ew (a b:Nat):dy a b=(a==b):=by
 induction a generalizing b with
 |zero=>cases b <;> rfl
 |succ a ih=>cases b with
  |zero=>rfl
  |succ b=>simp only[dy,isZ,bkh,a0g];rw[ih];simp
def nob(a b:Bool):Bool:=bif a then b else false
def neg(a:Bool):Bool:=bif a then false else true
def orb(a b:Bool):Bool:=bif a then true else b
def up{α β:Type}(f:α->β):Option α->Option β
 |none=>none
 |some x=>some (f x)
def isN{α:Type}:Option α->Bool
 |none=>true
 |some _=>false
@[simp] theorem ak (a b:Bool):nob a b=(a&&b):=by cases a <;> rfl
@[simp] theorem lu (a b:Bool):orb a b=(a||b):=by cases a <;> rfl
@[simp] theorem jq (a:Bool):neg a=!a:=by cases a <;> rfl
inductive T where
 |int (k:IntKind)
 |bool
 |str
 |u
 |p (a b:T)
 |sl (e:T)
 |pt (t:T)
 |fn (f:FuncId) (t:T)
 |ifc (i:TypeId) (t:T)
 |mp (k v:T)
 |op (t:T)
 |ns (t:T)
 |er (i:TypeId)
 |any
@[reducible] def T.den:T->Type
 |.int _=>Int
 |.bool=>Bool
 |.str=>ByteArray
 |.u=>Unit
 |.p a b=>a.den×b.den
 |.sl e=>List e.den
 |.pt t=>t.den
 |.fn _ t=>t.den
 |.ifc _ t=>t.den
 |.mp k v=>List (k.den×v.den)
 |.op t=>Option t.den
 |.ns t=>Option t.den
 |.er _=>Bool
 |.any=>Unit
def T.dflt:(t:T)->t.den
 |.int _=>(0:Int)
 |.bool=>false
 |.str=>ByteArray.empty
 |.u=>()
 |.p a b=>(a.dflt,b.dflt)
 |.sl _=>[]
 |.pt t=>t.dflt
 |.fn _ t=>t.dflt
 |.ifc _ t=>t.dflt
 |.mp _ _=>[]
 |.op _=>none
 |.ns _=>none
 |.er _=>false
 |.any=>()
def T.size:T->Nat
 |.u=>0
 |.p a b=>ah1 a.size b.size
 |.op t=>t.size
 |_=>1
def xy:IntKind->IntKind->Bool
 |.i8,.i8=>true
 |.i16,.i16=>true
 |.i32,.i32=>true
 |.i64,.i64=>true
 |.u8,.u8=>true
 |.u16,.u16=>true
 |.u32,.u32=>true
 |.u64,.u64=>true
 |_,_=>false
theorem uj{a b:IntKind}(h:xy a b=true):a=b:=by cases a <;> cases b <;> first|rfl|(simp[xy]at h)
theorem al5(a:IntKind):xy a a=true:=by cases a <;> rfl
def T.beq:T->T->Bool
 |.int k,.int k'=>xy k k'
 |.bool,.bool=>true
 |.str,.str=>true
 |.u,.u=>true
 |.p a b,.p a' b'=>nob (a.beq a') (b.beq b')
 |.sl e,.sl e'=>e.beq e'
 |.pt e,.pt e'=>e.beq e'
 |.fn f t,.fn f' t'=>nob (Nat.beq f f') (t.beq t')
 |.ifc f t,.ifc f' t'=>nob (Nat.beq f f') (t.beq t')
 |.mp k v,.mp k' v'=>nob (k.beq k') (v.beq v')
 |.op e,.op e'=>e.beq e'
 |.ns e,.ns e'=>e.beq e'
 |.er i,.er j=>Nat.beq i j
 |.any,.any=>true
 |_,_=>false
theorem T.beq_eq:{a b:T}->a.beq b=true->a=b
 |.int k,b,h=>by cases b <;> simp[T.beq]at h;rw[uj h]
 |.bool,b,h=>by cases b <;> simp[T.beq]at h;rfl
 |.str,b,h=>by cases b <;> simp[T.beq]at h;rfl
 |.u,b,h=>by cases b <;> simp[T.beq]at h;rfl
 |.p a1 a2,b,h=>by cases b <;> simp[T.beq]at h;rw[T.beq_eq h.1,T.beq_eq h.2]
 |.sl e,b,h=>by cases b <;> simp[T.beq]at h;rw[T.beq_eq h]
 |.pt e,b,h=>by cases b <;> simp[T.beq]at h;rw[T.beq_eq h]
 |.fn f t,b,h=>by cases b <;> simp[T.beq]at h;rw[h.1,T.beq_eq h.2]
 |.ifc f t,b,h=>by cases b <;> simp[T.beq]at h;rw[h.1,T.beq_eq h.2]
 |.mp k v,b,h=>by cases b <;> simp[T.beq]at h;rw[T.beq_eq h.1,T.beq_eq h.2]
 |.op e,b,h=>by cases b <;> simp[T.beq]at h;rw[T.beq_eq h]
 |.ns e,b,h=>by cases b <;> simp[T.beq]at h;rw[T.beq_eq h]
 |.er i,b,h=>by cases b <;> simp[T.beq]at h;rw[h]
 |.any,b,h=>by cases b <;> simp[T.beq]at h;rfl
def n5{a:T}(b:T)(x:a.den):Option b.den:=
 match h:a.beq b with
 |true=>some (T.beq_eq h▸x)
 |false=>none
theorem T.beq_refl:(a:T)->a.beq a=true
 |.int k=>al5 k
 |.bool=>rfl
 |.str=>rfl
 |.u=>rfl
 |.p a b=>by simp only[T.beq,T.beq_refl a,T.beq_refl b,ak,a2k]
 |.sl e=>by simp only[T.beq];exact T.beq_refl e
 |.pt e=>by simp only[T.beq];exact T.beq_refl e
 |.fn f t=>by simp only[T.beq,T.beq_refl t,ak,a0j];exact a3n f
 |.ifc f t=>by simp only[T.beq,T.beq_refl t,ak,a0j];exact a3n f
 |.mp k v=>by simp only[T.beq,T.beq_refl k,T.beq_refl v,ak,a2k]
 |.op e=>by simp only[T.beq,T.beq_refl e]
 |.ns e=>by simp only[T.beq,T.beq_refl e]
 |.er i=>by simp only[T.beq];exact a3n i
 |.any=>rfl
theorem vl{a:T}(x:a.den):n5 a x=some x:=by
 unfold n5;split
 ·rfl
 ·rename_i h;rw[T.beq_refl a]at h;cases h
def T.dec:(t:T)->DecidableEq t.den
 |.int _=>fun a b=>decEq (α:=Int) a b
 |.bool=>fun a b=>decEq (α:=Bool) a b
 |.str=>fun a b=>decEq (α:=ByteArray) a b
 |.u=>fun _ _=>isTrue rfl
 |.p a b=>@instDecidableEqProd a.den b.den a.dec b.dec
 |.sl e=>@instDecidableEqList e.den e.dec
 |.pt t=>t.dec
 |.fn _ t=>t.dec
 |.ifc _ t=>t.dec
 |.mp k v=>@instDecidableEqList (k.den×v.den) (@instDecidableEqProd k.den v.den k.dec v.dec)
 |.op t=>@Option.instDecidableEq t.den t.dec
 |.ns t=>@Option.instDecidableEq t.den t.dec
 |.er _=>fun a b=>decEq (α:=Bool) a b
 |.any=>fun _ _=>isTrue rfl
def eqR(t:T)(a b:t.den):Bool:=@decide (a=b) (t.dec a b)
theorem fe{t:T}{a b:t.den}:eqR t a b=true<->a=b:=by simp[eqR]
@[simp] theorem aph {t:T} (a:t.den):eqR t a a=true:=fe.2 rfl
theorem ac1{t:T}{a b:t.den}(h:a≠b):eqR t a b=false:=by
 cases h':eqR t a b with
 |false=>rfl
 |true=>exact absurd (fe.1 h') h
def qy(k v:T)(l:List (k.den×v.den))(x:k.den):Option v.den:=(l.find? fun e=>eqR k x e.1).map (·.2)
def ahu(k v:T)(l:List (k.den×v.den))(x:k.den):Bool:=(qy k v l x).isSome
def pp(k v:T)(l:List (k.den×v.den))(x:k.den):v.den:=(qy k v l x).getD v.dflt
def jh(k v:T):List (k.den×v.den)->k.den->v.den->List (k.den×v.den)
 |[],x,y=>[(x,y)]
 |e::r,x,y=>if eqR k x e.1=true then (x,y)::r else e::jh k v r x y
def T.intsN:T->Nat
 |.int _=>1
 |.p (.int _) b=>(match b.intsN with|0=>0|n+1=>Nat.succ (Nat.succ n))
 |_=>0
def T.ok:(t:T)->t.den->Prop
 |.int k,n=>inK k n
 |.str,s=>s.size<=nb
 |.p a b,x=>a.ok x.1/\b.ok x.2
 |.sl e,l=>l.length<=nb/\∀y∈l,e.ok y
 |.pt t,x=>t.ok x
 |.fn _ t,x=>t.ok x
 |.ifc _ t,x=>t.ok x
 |.mp k v,l=>l.length<=nb/\∀y∈l,k.ok y.1/\v.ok y.2
 |.op t,x=>∀y,x=some y->t.ok y
 |.ns t,x=>∀y,x=some y->t.ok y
 |.er _,_=>True
 |.bool,_=>True
 |.u,_=>True
 |.any,_=>True
inductive O where
 |fz (t:T)
 |p (a b:O)
 |sl (e:O)
 |pt (t:O)
 |mp (k v:T)
 |op (e:O)
@[reducible] def O.strip:O->T
 |.fz t=>t
 |.p a b=>.p a.strip b.strip
 |.sl e=>.sl e.strip
 |.pt t=>.pt t.strip
 |.mp k v=>.mp k v
 |.op e=>.op e.strip
def O.beq:O->O->Bool
 |.fz t,.fz t'=>t.beq t'
 |.p a b,.p a' b'=>nob (a.beq a') (b.beq b')
 |.sl e,.sl e'=>e.beq e'
 |.pt e,.pt e'=>e.beq e'
 |.mp k v,.mp k' v'=>nob (k.beq k') (v.beq v')
 |.op e,.op e'=>e.beq e'
 |_,_=>false
theorem O.beq_eq:{a b:O}->a.beq b=true->a=b
 |.fz t,b,h=>by cases b <;> simp[O.beq]at h;rw[T.beq_eq h]
 |.p a1 a2,b,h=>by cases b <;> simp[O.beq]at h;rw[O.beq_eq h.1,O.beq_eq h.2]
 |.sl e,b,h=>by cases b <;> simp[O.beq]at h;rw[O.beq_eq h]
 |.pt e,b,h=>by cases b <;> simp[O.beq]at h;rw[O.beq_eq h]
 |.mp k v,b,h=>by cases b <;> simp[O.beq]at h;rw[T.beq_eq h.1,T.beq_eq h.2]
 |.op e,b,h=>by cases b <;> simp[O.beq]at h;rw[O.beq_eq h]
theorem O.beq_refl:(o:O)->o.beq o=true
 |.fz t=>by simp only[O.beq];exact T.beq_refl t
 |.p a b=>by simp only[O.beq,O.beq_refl a,O.beq_refl b,ak,a2k]
 |.sl e=>by simp only[O.beq];exact O.beq_refl e
 |.pt e=>by simp only[O.beq];exact O.beq_refl e
 |.mp k v=>by simp only[O.beq,T.beq_refl k,T.beq_refl v,ak,a2k]
 |.op e=>by simp only[O.beq];exact O.beq_refl e
def O.wk:O->O->Bool
 |.p a b,.p a' b'=>nob (a.wk a') (b.wk b')
 |.sl e,.sl e'=>e.wk e'
 |.pt e,.pt e'=>e.wk e'
 |.mp k v,.mp k' v'=>nob (k.beq k') (v.beq v')
 |.op e,.op e'=>e.beq e'
 |o,.fz t=>o.strip.beq t
 |.fz (.p a b),.p a' b'=>nob (O.wk (.fz a) a') (O.wk (.fz b) b')
 |_,_=>false
structure Ob where
 o:O
 x:o.strip.den
def qk(q:Ob)(o:O):Option o.strip.den:=
 match h:q.o.beq o with
 |true=>some (O.beq_eq h▸q.x)
 |false=>none
def mkP(a b:Ob):Ob:=
 match a,b with
 |⟨.fz s,x⟩,⟨.fz t,y⟩=>⟨.fz (.p s t),(x,y)⟩
 |⟨o,x⟩,⟨o',y⟩=>⟨.p o o',(x,y)⟩
def T.deep:T->O
 |.p a b=>(match a.deep,b.deep with
  |.fz s,.fz t=>.fz (.p s t)
  |o,o'=>.p o o')
 |.sl e=>.sl e.deep
 |.mp k v=>.mp k v
 |t=>.fz t
theorem T.deep_strip:(t:T)->t.deep.strip=t
 |.p a b=>by
  have h1:=T.deep_strip a;have h2:=T.deep_strip b;simp only[T.deep];split
  ·rename_i h h';rw[h]at h1;rw[h']at h2;simp only[O.strip]at h1 h2⊢;rw[h1,h2]
  ·simp only[O.strip,h1,h2]
 |.sl e=>by simp only[T.deep,O.strip,T.deep_strip e]
 |.int _=>rfl
 |.bool=>rfl
 |.str=>rfl
 |.u=>rfl
 |.pt _=>rfl
 |.fn _ _=>rfl
 |.ifc _ _=>rfl
 |.mp _ _=>rfl
 |.op _=>rfl
 |.ns _=>rfl
 |.er _=>rfl
 |.any=>rfl
def O.dflt:(o:O)->o.strip.den
 |.fz t=>t.dflt
 |.p a b=>(a.dflt,b.dflt)
 |.sl _=>[]
 |.pt t=>t.dflt
 |.mp _ _=>[]
 |.op _=>none
inductive Step where
 |l
 |r
 |de
 |ix (i:Nat)
abbrev bg:=List Step
def get:bg->(o:O)->o.strip.den->Option Ob
 |[],o,x=>some ⟨o,x⟩
 |.l::π,.p a _,x=>get π a x.1
 |.r::π,.p _ b,x=>get π b x.2
 |.l::π,.fz (.p a _),x=>get π (.fz a) x.1
 |.r::π,.fz (.p _ b),x=>get π (.fz b) x.2
 |.ix i::π,.sl e,x=>get π e (x.getD i e.dflt)
 |.de::π,.pt t,x=>get π t x
 |_,_,_=>none
def set:bg->(o:O)->o.strip.den->Ob->Option Ob
 |[],_,_,n=>some n
 |.l::π,.p a b,x,n=>(match set π a x.1 n with|some q=>some (mkP q ⟨b,x.2⟩)|none=>none)
 |.r::π,.p a b,x,n=>(match set π b x.2 n with|some q=>some (mkP ⟨a,x.1⟩ q)|none=>none)
 |.l::π,.fz (.p a b),x,n=>(match set π (.fz a) x.1 n with|some q=>some (mkP q ⟨.fz b,x.2⟩)|none=>none)
 |.r::π,.fz (.p a b),x,n=>(match set π (.fz b) x.2 n with|some q=>some (mkP ⟨.fz a,x.1⟩ q)|none=>none)
 |.ix i::π,.sl e,x,n=>(match set π e (x.getD i e.dflt) n with
  |some q=>(match qk q e with|some y=>some ⟨.sl e,x.set i y⟩|none=>none)
  |none=>none)
 |.de::π,.pt t,x,n=>(match set π t x n with|some q=>some ⟨.pt q.o,q.x⟩|none=>none)
 |_,_,_,_=>none
def ae3:bg->Bool
 |[]=>false
 |.ix _::_=>true
 |_::π=>ae3 π
inductive V where
 |any
 |nl
 |np
 |u
 |d (t:T) (x:t.den)
 |ref (k:Nat) (π:bg)
 |ad (k:Nat) (π:bg)
 |p (a b:V)
 |ag (v:V)
 |tup (v:V)
 |gd (j:Nat) (w:Bool) (P:Prop) (v:V)
 |fn (f:FuncId) (v:V)
 |ifc (t:TypeId) (v:V)
 |bx (v:V)
abbrev Env:=List (Nat×V)
abbrev Mem:=List (Nat×Ob)
def gt:Env->Nat->V
 |[],_=>.any
 |(k,v)::r,t=>bif Nat.beq k t then v else gt r t
def go:Mem->Nat->Option Ob
 |[],_=>none
 |(k,v)::r,t=>bif Nat.beq k t then some v else go r t
def del(k:Nat):Mem->Mem
 |[]=>[]
 |(j,o)::r=>bif Nat.beq j k then del k r else (j,o)::del k r
def put(k:Nat)(o:Ob):Mem->Mem
 |[]=>[]
 |(j,x)::r=>bif Nat.beq j k then (k,o)::r else (j,x)::put k o r
def mt(M:Mem)(k:Nat)(π:bg):Option Ob:=
 match go M k with
 |some ob=>get π ob.o ob.x
 |none=>none
def jp:(t:T)->t.den->V
 |.p a b,x=>.p (jp a x.1) (jp b x.2)
 |.u,_=>.u
 |t,x=>.d t x
def toV(k:Nat):bg->(o:O)->o.strip.den->V
 |_,.fz t,x=>jp t x
 |π,.pt _,_=>.ad k (ap π [.de])
 |π,_,_=>.ref k π
def peq:bg->bg->Bool
 |[],[]=>true
 |.l::a,.l::b=>peq a b
 |.r::a,.r::b=>peq a b
 |.de::a,.de::b=>peq a b
 |_,_=>false
def gk:bg->O->Option Nat
 |[],_=>some 0
 |.l::π,.p a _=>gk π a
 |.r::π,.p a b=>(match gk π b with|some n=>some (ah1 a.strip.size n)|none=>none)
 |.l::π,.fz (.p a _)=>gk π (.fz a)
 |.r::π,.fz (.p a b)=>(match gk π (.fz b)with|some n=>some (ah1 a.size n)|none=>none)
 |_,_=>none
def qp:bg->O->Option Nat
 |.de::π,.pt o=>gk π o
 |_,_=>none
def yg:Option Nat->Option Nat->Bool
 |some a,some b=>dy a b
 |_,_=>false
def yv:bg->Bool
 |[]=>true
 |_=>false
def O.hole:O->T
 |.fz t=>t
 |.p a b=>.p a.hole b.hole
 |.sl _=>.any
 |.pt _=>.any
 |.mp _ _=>.any
 |.op e=>.op e.strip
def O.holeX:(o:O)->o.strip.den->o.hole.den
 |.fz _,x=>x
 |.p a b,x=>(a.holeX x.1,b.holeX x.2)
 |.sl _,_=>()
 |.pt _,_=>()
 |.mp _ _,_=>()
 |.op _,_=>none
def trk:bg->O->Option (List Nat)
 |[],_=>some []
 |.l::π,.p a _=>(match trk π a with|some l=>some (0::a.strip.size::l)|none=>none)
 |.r::π,.p a b=>(match trk π b with|some l=>some (1::a.strip.size::l)|none=>none)
 |.de::π,.pt t=>(match trk π t with|some l=>some (2::t.strip.size::l)|none=>none)
 |_,_=>none
def awx:List Nat->List Nat->Bool
 |[],[]=>true
 |a::l,b::r=>nob (dy a b) (awx l r)
 |_,_=>false
theorem axa:∀{a b:List Nat},awx a b=true->a=b
 |[],[],_=>rfl
 |a::l,b::r,h=>by simp only[awx,ak,a0a,ew,a0s]at h;rw[h.1,axa h.2]
 |[],_::_,h=>by cases h
 |_::_,[],h=>by cases h
def awn:Option (List Nat)->Option (List Nat)->Bool
 |some a,some b=>awx a b
 |_,_=>false
inductive Ev where
 |mv (r k:Nat)
 |kl (k:Nat)
 |cut (k:Nat) (o o':O)
 |fz (k:Nat) (ob:Ob)
 |un (k j:Nat)
 |tk (k:Nat) (o o':O)
def Ev.ref(k:Nat)(π:bg):Ev->V
 |.mv r k'=>bif Nat.beq k r then .ref k' π else .ref k π
 |.kl r=>bif Nat.beq k r then .any else .ref k π
 |.cut r _ _=>bif Nat.beq k r then (bif yv π then .ref k π else .any)else .ref k π
 |.fz r ob=>bif Nat.beq k r then (match get π ob.o ob.x with|some q=>jp q.o.strip q.x|none=>.any)else .ref k π
 |.un r _=>bif Nat.beq k r then .any else .ref k π
 |.tk r o o'=>bif Nat.beq k r then (bif orb (yv π) (awn (trk π o) (trk π o'))then .ref k π else .any)else .ref k π
def Ev.ad(k:Nat)(π:bg):Ev->V
 |.mv r k'=>bif Nat.beq k r then .ad k' π else .ad k π
 |.kl r=>bif Nat.beq k r then .any else .ad k π
 |.cut r o o'=>bif Nat.beq k r then (bif yg (qp π o) (qp π o')then .ad k π else .any)else .ad k π
 |.fz r ob=>bif Nat.beq k r then (match get π ob.o ob.x with|some q=>.d (.pt q.o.strip) q.x|none=>.any)else .ad k π
 |.un r j=>bif Nat.beq k r then (match π with|[.de]=>.bx (.ad j [.de])|_=>.any)else .ad k π
 |.tk r o o'=>bif Nat.beq k r then (bif yg (qp π o) (qp π o')then .ad k π else .any)else .ad k π
def V.ev(e:Ev):V->V
 |.ref k π=>e.ref k π
 |.ad k π=>e.ad k π
 |.p a b=>.p (a.ev e) (b.ev e)
 |.ag v=>.ag (v.ev e)
 |.tup v=>.tup (v.ev e)
 |.gd j w P v=>.gd j w P (v.ev e)
 |.fn f v=>.fn f (v.ev e)
 |.ifc t v=>.ifc t (v.ev e)
 |.bx v=>.bx (v.ev e)
 |v=>v
def V.evs(v:V):List Ev->V
 |[]=>v
 |e::r=>(v.ev e).evs r
def evE(e:Ev):Env->Env
 |[]=>[]
 |(t,v)::r=>(t,v.ev e)::evE e r
def pz(env:Env):List Ev->Env
 |[]=>env
 |e::r=>pz (evE e env) r
end Go.Bm
/- The du machine:what the operations give. -/
namespace Go.Bm
open Go.RowKit
structure Ty where
 ok:Bool
 agg:Bool
 bl:Bool
 st:Bool
 sz:Bool
 size:Nat
 bytes:Nat
 el:Option TypeId
 int:Option IntKind
 mp:Option (TypeId×TypeId)
 fld:List (Nat×TypeId×Nat)
 arr:Option (TypeId×Nat)
 ifc:Bool
def mn(P:Program)(i:TypeInfo)(u:TypeDesc):Ty:={
 ok:=true
 agg:=(match u with|.struct _=>true|.array _ _=>true|_=>false)
 bl:=(match u with|.bool=>true|_=>false)
 st:=(match u with|.string=>true|_=>false)
 sz:=(match u with|.struct fs=>fs.toList.all fun f=>(P.info? f.type).isSome|_=>false)
 size:=i.size
 bytes:=i.bytes
 el:=(match u with|.slice e=>some e|_=>none)
 int:=(match u with|.int k=>some k|_=>none)
 mp:=(match u with|.map k e=>(match P.info? e with|some ie=>(match ie.zero with|some (.agg _)=>none|some _=>some (k,e)|none=>none)|none=>none)|_=>none)
 fld:=(match u with|.struct fs=>fs.toList.map fun f=>(f.offset,f.type,P.cellsOf f.type)|_=>[])
 arr:=(match u with|.array n e=>some (e,n)|_=>none)
 ifc:=(match u with|.interface _=>true|_=>false) }
def bdj:Ty:=⟨false,false,false,false,false,0,0,none,none,none,[],none,false⟩
def ty(P:Program)(t:TypeId):Ty:=
 match P.info? t,P.underlying t with
 |some i,some u=>mn P i u
 |_,_=>bdj
def tyZ(P:Program)(t:TypeId):Option (List Value):=
 match P.info? t with
 |some i=>(match i.zero with|some z=>some z.cells.toList|none=>none)
 |none=>none
structure Mth where
 t:TypeId
 i:TypeId
 name:String
 f:FuncId
structure Tab where
 τ:TypeId->Ty
 σ:TypeId->T
 z:TypeId->Bool
 q:TypeId->Nat
 m:List Mth
def ayf:List Mth->TypeId->TypeId->Bool
 |[],_,_=>false
 |e::r,t,i=>orb (nob (Nat.beq e.t t) (Nat.beq e.i i)) (ayf r t i)
def asd:List Mth->TypeId->String->Option FuncId
 |[],_,_=>none
 |e::r,t,n=>bif nob (Nat.beq e.t t) (e.name==n)then some e.f else asd r t n
def ae1:Nat->Nat->bg
 |0,_=>[]
 |1,_=>[]
 |_+2,0=>[.l]
 |n+2,i+1=>.r::ae1 (Nat.succ n) i
def ca:bg->T->Option Nat
 |[],_=>some 0
 |.l::π,.p a _=>ca π a
 |.r::π,.p a b=>(match ca π b with|some n=>some (ah1 a.size n)|none=>none)
 |_,_=>none
def apq:bg->(t:T)->t.den->Option ((t:T)×t.den)
 |[],t,x=>some ⟨t,x⟩
 |.l::π,.p a _,x=>apq π a x.1
 |.r::π,.p _ b,x=>apq π b x.2
 |_,_,_=>none
structure Rs where
 vc:List Prop
 av:V
 ev:List Ev
 M:Mem
def bp(M:Mem):Rs:=⟨[False],.any,[],M⟩
def cp(q:List Prop×V)(M:Mem):Rs:=⟨q.1,q.2,[],M⟩
def bad:List Prop×V:=([False],.any)
def cc(v:V):List Prop×V:=([],v)
def ba:List Bool->Bool
 |[]=>true
 |b::r=>bif b then ba r else false
def inKb(k:IntKind)(n:Int):Bool:=ba [decide (k.min<=n),decide (n<=k.max)]
def rdV:Value->V
 |.int k n=>.d (.int k) n
 |.bool b=>.d .bool b
 |.string s=>.d .str s
 |.slice none n m=>bif nob (Nat.beq n 0) (Nat.beq m 0)then .nl else .any
 |.pointer none=>.np
 |.nilIface=>.d (.er 0) false
 |_=>.any
def rd(env:Env):Operand->V
 |.tmp t=>gt env t
 |.const v=>rdV v
 |.func f=>.fn f .u
 |.global _=>.any
def bec:Value->Bool
 |.int k n=>inKb k n
 |.string s=>Nat.ble s.size nb
 |_=>true
def yd:Operand->Bool
 |.const v=>bec v
 |_=>true
def V.boolV:V->Bool
 |.d .bool b=>b
 |_=>false
def V.isB:V->Bool
 |.d .bool _=>true
 |_=>false
def V.strip:V->V
 |.gd _ _ _ v=>v
 |v=>v
def ar(k:IntKind)(n:Int):List Prop×V:=
 match k with
 |.i64=>([inK .i64 n],.d (.int .i64) n)
 |k=>([],.d (.int k) (k.wrap n))
def bhy(k:IntKind)(a b:Int):Int:=k.wrap ((BitVec.ofInt k.bits a &&& BitVec.ofInt k.bits b).toNat:Nat)
def bc2(k:IntKind)(a b:Int):Int:=a.fdiv (2 ^ (min b.toNat k.bits))
def yk(op:BinOp)(k:IntKind)(a b:Int):List Prop×V:=
 match op with
 |.and=>cc (.d (.int k) (bhy k a b))
 |.shr=>([0<=b,inK k (bc2 k a b)],.d (.int k) (bc2 k a b))
 |.add=>ar k (a+b)
 |.sub=>ar k (a-b)
 |.mul=>ar k (a*b)
 |.quo=>(match ar k (a.tdiv b)with|(l,v)=>((b≠0)::l,v))
 |.rem=>([b≠0,inK k (a.tmod b)],.d (.int k) (a.tmod b))
 |.eql=>cc (.d .bool (a==b))
 |.neq=>cc (.d .bool (a != b))
 |.lss=>cc (.d .bool (decide (a<b)))
 |.leq=>cc (.d .bool (decide (a<=b)))
 |.gtr=>cc (.d .bool (decide (b<a)))
 |.geq=>cc (.d .bool (decide (b<=a)))
 |_=>bad
def mxR(a b:Int):Int:=if b>a then b else a
def mnR(a b:Int):Int:=if b<a then b else a
def axc(g:Bool)(x y:V):List Prop×V:=
 match x,y with
 |.d (.int k) a,.d (.int k') b=>bif xy k k' then cc (.d (.int k) (bif g then mxR a b else mnR a b))else bad
 |_,_=>bad
def ac2(op:BinOp)(a b:ByteArray):List Prop×V:=
 match op with
 |.add=>([a.size+b.size<=nb],.d .str (a++b))
 |.eql=>cc (.d .bool (a.toList==b.toList))
 |.neq=>cc (.d .bool (!(a.toList==b.toList)))
 |.lss=>cc (.d .bool (Op.bytesLess a.toList b.toList))
 |.leq=>cc (.d .bool (Op.bytesLess a.toList b.toList||a.toList==b.toList))
 |.gtr=>cc (.d .bool (!(Op.bytesLess a.toList b.toList||a.toList==b.toList)))
 |.geq=>cc (.d .bool (!(Op.bytesLess a.toList b.toList)))
 |_=>bad
def awg(τ:Ty)(op:BinOp)(x y:V):List Prop×V:=
 match x,y with
 |.d (.int k) a,.d (.int k') b=>bif xy k k' then yk op k a b else bad
 |.d .bool a,.d .bool b=>bif ba [τ.ok,τ.bl]then (match op with
  |.eql=>cc (.d .bool (a==b))
  |.neq=>cc (.d .bool (a != b))
  |_=>bad)else bad
 |.d .str a,.d .str b=>ac2 op a b
 |_,_=>bad
def wa:Nat->V->V->Option Bool
 |1,.d (.int k) x,.d (.int k') y=>bif xy k k' then some (x==y)else none
 |Nat.succ (Nat.succ n),.p (.d (.int k) x) a,.p (.d (.int k') y) b=>(match wa (Nat.succ n) a b with
  |some r=>bif xy k k' then some ((x==y)&&r)else none
  |none=>none)
 |_,_,_=>none
def bkx(n:Nat)(op:BinOp)(a b:V):List Prop×V:=
 match op,wa n a b with
 |.eql,some r=>cc (.d .bool r)
 |.neq,some r=>cc (.d .bool (!r))
 |_,_=>bad
def asf(B:Tab)(t:TypeId)(op:BinOp)(x y:V):List Prop×V:=
 match x,y with
 |.ag a,.ag b=>bkx (B.q t) op a b
 |x,y=>awg (B.τ t) op x y
def bfg:Operand->Bool
 |.const .nilIface=>true
 |_=>false
def ayo:Operand->Bool
 |.const (.slice none n m)=>nob (Nat.beq n 0) (Nat.beq m 0)
 |_=>false
def akq{α:Type}:Option (List α)->Bool
 |none=>true
 |some l=>!l.isEmpty
def ass(B:Tab)(t:TypeId)(op:BinOp)(z zi:Bool)(x y:V):List Prop×V:=
 match z,x,op with
 |true,.d (.ns (.sl _)) l,.eql=>bif ba [(B.τ t).ok,neg (isN (B.τ t).el)]then ([akq l=true],.d .bool l.isNone)else bad
 |true,.d (.ns (.sl _)) l,.neq=>bif ba [(B.τ t).ok,neg (isN (B.τ t).el)]then ([akq l=true],.d .bool l.isSome)else bad
 |_,.d (.er _) b,.eql=>bif ba [zi,(B.τ t).ok,(B.τ t).ifc]then cc (.d .bool (!b))else bad
 |_,.d (.er _) b,.neq=>bif ba [zi,(B.τ t).ok,(B.τ t).ifc]then cc (.d .bool b)else bad
 |_,_,_=>asf B t op x y
def bd0(op:UnOp)(x:V):List Prop×V:=
 match op,x with
 |.not,.d .bool b=>cc (.d .bool (!b))
 |.neg,.d (.int k) n=>ar k (0-n)
 |_,_=>bad
def asj(τ σ:Ty)(x:V):List Prop×V:=
 match x,τ.int,σ.int with
 |.d (.int k) n,some k1,some k'=>bif ba [τ.ok,σ.ok,xy k1 k]then (bif xy k k' then cc (.d (.int k) n)else cc (.d (.int k') (k'.wrap n)))else bad
 |_,_,_=>bad
def af7(l:List Int):ByteArray:=⟨(l.map fun n=>UInt8.ofNat n.toNat).toArray⟩
def auf(M:Mem):V->Option (List Int)
 |.ref k π=>(match mt M k π with|some ⟨.sl (.fz (.int .u8)),l⟩=>some l|_=>none)
 |_=>none
def bih:Option IntKind->Bool
 |some .u8=>true
 |_=>false
def acw(B:Tab)(s d:TypeId)(M:Mem)(x:V):List Prop×V:=
 match (B.τ s).el,auf M x with
 |some e,some l=>bif ba [(B.τ s).ok,(B.τ d).ok,(B.τ d).st,(B.τ e).ok,bih (B.τ e).int]then cc (.d .str (af7 l))else bad
 |_,_=>asj (B.τ s) (B.τ d) x
def nth:V->Nat->Option V
 |.p a _,0=>some a
 |.p _ b,i+1=>nth b i
 |_,_=>none
def anv(x:V)(i:Nat):List Prop×V:=
 match x with
 |.tup v=>(match nth v i with|some y=>cc y|none=>bad)
 |_=>bad
def awj(x:V):List Prop×V:=
 match x with
 |.d (.pt t) y=>cc (.d (.pt t) y)
 |.ad k π=>cc (.ad k π)
 |.bx v=>cc (.bx v)
 |_=>bad
def bh0:Option Nat->Option Nat->Option Nat
 |some a,some b=>some (ah1 a b)
 |_,_=>none
def V.size(M:Mem):V->Option Nat
 |.p a b=>bh0 (a.size M) (b.size M)
 |.u=>some 0
 |.ref k π=>(match mt M k π with|some q=>some q.o.strip.size|none=>none)
 |.d t _=>some t.size
 |.ad _ _=>some 1
 |.nl=>some 1
 |.np=>some 1
 |.fn _ _=>some 1
 |.ifc _ _=>some 1
 |.bx _=>some 1
 |_=>none
def jl(M:Mem)(v:V)(n:Nat):Bool:=match v.size M with|some m=>dy m n|none=>false
def gm(M:Mem):bg->V->Option (Nat×V)
 |[],v=>some (0,v)
 |.l::π,.p a _=>gm M π a
 |.r::π,.p a b=>(match a.size M,gm M π b with|some m,some (n,v)=>some (ah1 m n,v)|_,_=>none)
 |π,.ref k ρ=>(match mt M k ρ,mt M k (ap ρ π)with
  |some q,some q'=>(match ca π q.o.strip with|some n=>some (n,toV k (ap ρ π) q'.o q'.x)|none=>none)
  |_,_=>none)
 |_,_=>none
def akh(M:Mem)(x:V)(π:bg)(off:Nat):List Prop×V:=
 match x with
 |.d (.pt t) y=>(match ca π t,apq π t y with
  |some n,some q=>bif dy n off then cc (.d (.pt q.1) q.2)else bad
  |_,_=>bad)
 |.ad k ρ=>(match mt M k ρ with
  |some q=>(match ca π q.o.strip with
   |some n=>bif dy n off then cc (.ad k (ap ρ π))else bad
   |none=>bad)
  |none=>bad)
 |.bx v=>(match gm M π v with
  |some q=>bif dy q.1 off then cc (.bx q.2)else bad
  |none=>bad)
 |_=>bad
def agi(τ:Ty)(M:Mem)(x:V)(i:Nat):List Prop×V:=
 match mf τ.fld i with
 |some (off,_,fsz)=>bif ba [τ.ok,neg (Nat.beq fsz 0)]then akh M x (ae1 (len τ.fld) i) off else bad
 |none=>bad
def zt(agg:Bool)(v:V):V:=bif agg then .ag v else v
def ake(B:Tab)(τ:Ty)(M:Mem)(x:V)(i:Nat):List Prop×V:=
 match mf τ.fld i,x with
 |some (off,ft,_),.ag v=>
  (match gm M (ae1 (len τ.fld) i) v with
  |some (n,w)=>bif ba [τ.ok,(B.τ ft).ok,dy n off,jl M w (B.τ ft).size,orb (B.τ ft).agg (dy (B.τ ft).size 1)]then cc (zt (B.τ ft).agg w)else bad
  |none=>bad)
 |_,_=>bad
def akg(B:Tab)(τ:Ty)(M:Mem)(x i:V):List Prop×V:=
 match τ.el,i with
 |some e,.d (.int _) n=>
  (match x with
  |.d (.sl t) l=>bif ba [τ.ok,(B.τ e).ok,dy t.size (B.τ e).size]then ([0<=n,n<l.length],.d (.pt t) (l.getD n.toNat t.dflt))else bad
  |.ref k π=>(match mt M k π with
   |some ⟨.sl o,l⟩=>bif ba [τ.ok,(B.τ e).ok,dy o.strip.size (B.τ e).size]then ([0<=n,n<l.length],.ad k (ap π [.ix n.toNat]))else bad
   |some ⟨.fz (.sl t),l⟩=>bif ba [τ.ok,(B.τ e).ok,dy t.size (B.τ e).size]then ([0<=n,n<l.length],.d (.pt t) (l.getD n.toNat t.dflt))else bad
   |_=>bad)
  |_=>bad)
 |_,_=>bad
def bc7(B:Tab)(τ:Ty)(e:TypeId)(n:Nat)(M:Mem)(x i:V):List Prop×V:=
 match i with
 |.d (.int _) m=>bif ba [τ.ok,(B.τ e).ok]then (match akh M x (ae1 n m.toNat) (Nat.mul m.toNat (B.τ e).size)with
  |(l,v)=>(((0:Int)<=m)::(m<(n:Int))::l,v))else bad
 |_=>bad
def aj0(B:Tab)(τ:Ty)(M:Mem)(x i:V):List Prop×V:=
 match τ.arr with
 |some (e,n)=>bc7 B τ e n M x i
 |none=>akg B τ M x i
def bc0(τ:Ty)(x i:V):List Prop×V:=
 match x,i with
 |.d .str s,.d (.int _) n=>bif ba [τ.ok,τ.st]then ([0<=n,n<s.size],.d (.int .u8) ((s.data.toList.getD n.toNat 0).toNat))else bad
 |_,_=>bad
def wg(τ:Ty)(M:Mem)(x:V):List Prop×V:=
 match x with
 |.d (.pt t) y=>bif ba [τ.ok,dy t.size τ.size,orb τ.agg (dy t.size 1)]then cc (zt τ.agg (jp t y))else bad
 |.ad k π=>(match mt M k π with
  |some q=>bif ba [τ.ok,dy q.o.strip.size τ.size,orb τ.agg (dy q.o.strip.size 1)]then cc (zt τ.agg (toV k π q.o q.x))else bad
  |none=>bad)
 |.bx v=>bif ba [τ.ok,jl M v τ.size,orb τ.agg (dy τ.size 1)]then cc (zt τ.agg v)else bad
 |_=>bad
def zv{α:Type}(l:List α):List (Option α):=l.map some
def bei{α:Type}(l:List α)(i:Nat):List (Option α):=(l.map some).set i none
def bhe{α:Type}(l:List (Option α))(i:Nat):Bool:=(l.getD i none).isSome
def ai6{α:Type}(z:α)(l:List (Option α))(i:Nat):α:=(l.getD i none).getD z
def bds{α:Type}(l:List (Option α)):Bool:=l.all Option.isSome
def aou{α:Type}(z:α)(l:List (Option α)):List α:=l.map fun x=>x.getD z
def gid:Nat:=1000000
def zr(τ:Ty)(M:Mem)(d:Option Nat)(x:V):Option Rs:=
 match x,d with
 |.ad k [.ix i],some d=>(match go M k with
  |some ⟨.sl (.op (.sl o)),l⟩=>some (bif ba [τ.ok,dy τ.size 1,neg τ.agg,neg (Nat.beq d k),Nat.ble (Nat.succ k) gid]then
    ⟨[bhe l i=true],.ref d [],[.cut k (.sl (.op (.sl o))) (.sl (.op (.sl o))),.kl d],(d,⟨.sl o,ai6 [] l i⟩)::del d (put k ⟨.sl (.op (.sl o)),l.set i none⟩ M)⟩else bp M)
  |_=>none)
 |_,_=>none
def rk(τ:Ty)(M:Mem)(d:Option Nat)(x:V):Rs:=
 match zr τ M d x with
 |some r=>r
 |none=>cp (wg τ M x) M
def akb(τ:Ty)(M:Mem)(x:V):List Prop×V:=
 match x with
 |.d .str s=>bif ba [τ.ok,τ.st]then cc (.d (.int .i64) s.size)else bad
 |.d (.sl _) l=>bif ba [τ.ok,neg (isN τ.el)]then cc (.d (.int .i64) l.length)else bad
 |.d (.mp _ _) l=>bif ba [τ.ok,neg (isN τ.mp)]then cc (.d (.int .i64) l.length)else bad
 |.d (.ns (.sl _)) l=>bif ba [τ.ok,neg (isN τ.el)]then cc (.d (.int .i64) (l.getD []).length)else bad
 |.nl=>bif ba [τ.ok,neg (isN τ.el)]then cc (.d (.int .i64) (0:Int))else bad
 |.ref k π=>(match mt M k π with
  |some ⟨.sl _,l⟩=>bif ba [τ.ok,neg (isN τ.el)]then cc (.d (.int .i64) l.length)else bad
  |some ⟨.fz (.sl _),l⟩=>bif ba [τ.ok,neg (isN τ.el)]then cc (.d (.int .i64) l.length)else bad
  |some ⟨.mp _ _,l⟩=>bif ba [τ.ok,neg (isN τ.mp)]then cc (.d (.int .i64) l.length)else bad
  |_=>bad)
 |_=>bad
def axo(B:Tab)(τ:Ty)(x:V)(lo hi:Option V):List Prop×V:=
 match x,τ.el with
 |.d (.sl t) l,some e=>bif ba [τ.ok,(B.τ e).ok,dy t.size (B.τ e).size]then
   (match lo,hi with
   |none,none=>cc (.d (.sl t) l)
   |some (.d (.int _) a),none=>([0<=a,a<=l.length],.d (.sl t) (l.drop a.toNat))
   |none,some (.d (.int _) b)=>([0<=b,b<=l.length],.d (.sl t) (l.take b.toNat))
   |some (.d (.int _) a),some (.d (.int _) b)=>([0<=a,a<=b,b<=l.length],.d (.sl t) ((l.take b.toNat).drop a.toNat))
   |_,_=>bad)else bad
 |_,_=>bad
def br(M:Mem):V->List Ev×Mem
 |.ref k _=>(match go M k with|some ob=>([.fz k ob],del k M)|none=>([],M))
 |.ad k _=>(match go M k with|some ob=>([.fz k ob],del k M)|none=>([],M))
 |.p a b=>(match br M a with|(e,M')=>(match br M' b with|(e',M'')=>(ap e e',M'')))
 |.ag v=>br M v
 |.fn _ v=>br M v
 |.ifc _ v=>br M v
 |.bx v=>br M v
 |.tup v=>br M v
 |.gd _ _ _ v=>br M v
 |_=>([],M)
def n7{α β:Type}(l:List (α×Option (List β))):List (α×List β):=l.map fun x=>(x.1,x.2.getD [])
def bjy(s:T)(x:s.den)(t:T):Option t.den:=
 match s,x,t with
 |.ns (.sl a),x,.sl b=>n5 (.sl b) (a:=.sl a) (x.getD [])
 |.sl (.ns (.sl a)),x,.sl (.sl b)=>n5 (.sl (.sl b)) (a:=.sl (.sl a)) (aou [] x)
 |.sl (.p c (.ns (.sl a))),x,.sl (.p d (.sl b))=>n5 (.sl (.p d (.sl b))) (a:=.sl (.p c (.sl a))) (n7 x)
 |.sl a,x,.ns (.sl b)=>(match n5 (.sl b) (a:=.sl a) x with|some y=>some (some y)|none=>none)
 |.er i,x,.er j=>bif Nat.beq i j then some x else (match x with|false=>some false|true=>none)
 |_,x,t=>n5 t x
def coD:(s:T)->(x:s.den)->(t:T)->Option t.den
 |.p a b,x,.p c d=>(match coD a x.1 c,coD b x.2 d with|some y,some z=>some (y,z)|_,_=>none)
 |.pt a,x,.pt b=>coD a x b
 |s,x,t=>bjy s x t
def asD(s:T)(x:s.den)(t:T):Option t.den:=
 match n5 t x with
 |some y=>some y
 |none=>coD s x t
def V.as:V->(t:T)->Option t.den
 |.d s x,t=>asD s x t
 |.nl,.sl _=>some []
 |.u,.u=>some ()
 |.p a b,.p t s=>(match a.as t,b.as s with|some x,some y=>some (x,y)|_,_=>none)
 |.fn f v,.fn f' t=>bif Nat.beq f f' then v.as t else none
 |.ifc f v,.ifc f' t=>bif Nat.beq f f' then v.as t else none
 |.bx v,.pt t=>v.as t
 |.np,.any=>some ()
 |_,_=>none
def amn(M:Mem)(k:Nat)(π:bg)(t:T):Option t.den:=match mt M k π with|some q=>asD q.o.strip q.x t|none=>none
def V.view(M:Mem):V->(t:T)->Option t.den
 |.d s x,t=>asD s x t
 |.nl,.sl _=>some []
 |.u,.u=>some ()
 |.p a b,.p t s=>(match a.view M t,b.view M s with|some x,some y=>some (x,y)|_,_=>none)
 |.fn f v,.fn f' t=>bif Nat.beq f f' then v.view M t else none
 |.ifc f v,.ifc f' t=>bif Nat.beq f f' then v.view M t else none
 |.bx v,.pt t=>v.view M t
 |.ref k π,t=>amn M k π t
 |.ad k π,.pt t=>amn M k π t
 |.np,.any=>some ()
 |_,_=>none
def m9(r k:Nat):Bool:=ba [neg (Nat.beq r k),Nat.ble (Nat.succ r) gid]
def ye(k r:Nat)(ρ:bg)(M:Mem):Option (Ob×List Ev×Mem):=
 bif neg (m9 r k)then none else
  (match go M r with
  |some ob=>(match get ρ ob.o ob.x with
   |some q=>(match ρ with
    |[]=>some (q,[.kl r],del r M)
    |_=>bif ae3 ρ then some (⟨.fz q.o.strip,q.x⟩,[.fz r ob],del r M)else
     (match set ρ ob.o ob.x ⟨.fz q.o.hole,q.o.holeX q.x⟩with
     |some ob'=>some (q,[.tk r ob.o ob'.o],put r ob' M)
     |none=>none))
   |none=>none)
  |none=>none)
def al3(k r:Nat)(ρ:bg)(M:Mem):Option (Ob×List Ev×Mem):=
 bif neg (m9 r k)then none else
  (match go M r,ρ with
  |some ⟨.pt o,x⟩,[.de]=>some (⟨.pt o,x⟩,[.kl r],del r M)
  |some ob,ρ=>(match get ρ ob.o ob.x with|some q=>some (⟨.fz (.pt q.o.strip),q.x⟩,[.fz r ob],del r M)|none=>none)
  |none,_=>none)
def conv(k:Nat):T->V->Mem->Option (Ob×List Ev×Mem)
 |.p t s,.p a b,M=>(match conv k t a M with
  |some (q,e,M')=>(match conv k s (b.evs e) M' with
   |some (q',e',M'')=>some (mkP q q',ap e e',M'')
   |none=>none)
  |none=>none)
 |_,.u,M=>some (⟨.fz .u,()⟩,[],M)
 |_,.d t x,M=>some (⟨.fz t,x⟩,[],M)
 |.sl t,.nl,M=>some (⟨.sl t.deep,[]⟩,[],M)
 |_,.np,M=>some (⟨.fz .any,()⟩,[],M)
 |_,.ref r ρ,M=>ye k r ρ M
 |_,.ad r ρ,M=>al3 k r ρ M
 |_,.fn f .u,M=>some (⟨.fz (.fn f .u),()⟩,[],M)
 |_,_,_=>none
def abh(k:Nat)(o:O)(v:V)(M:Mem):Option (o.strip.den×List Ev×Mem):=
 match o with
 |.fz t=>(match br M v with|(e,M')=>(match (v.evs e).as t with|some x=>some (x,e,M')|none=>none))
 |o=>(match conv k o.strip v M with
  |some (q,e,M')=>(match qk q o with|some x=>some (x,e,M')|none=>none)
  |none=>none)
def afa(k:Nat)(o:O)(v:V)(M:Mem):Option (o.strip.den×List Ev×Mem):=
 match o with
 |.op e=>(match abh k e v M with|some (x,ev,M')=>some (some x,ev,M')|none=>none)
 |o=>abh k o v M
def ru:bg->Option (bg×Nat)
 |[.ix i]=>some ([],i)
 |.l::π=>(match ru π with|some (p,i)=>some (.l::p,i)|none=>none)
 |.r::π=>(match ru π with|some (p,i)=>some (.r::p,i)|none=>none)
 |.de::π=>(match ru π with|some (p,i)=>some (.de::p,i)|none=>none)
 |_=>none
def bis(π:bg)(ob:Ob):Option Ob:=
 match ru π with
 |some (p,i)=>(match get p ob.o ob.x with
  |some ⟨.sl e,l⟩=>set p ob.o ob.x ⟨.sl (.op e),bei l i⟩
  |_=>none)
 |none=>none
def bea(π:bg)(ob:Ob):Option (Prop×Ob):=
 match ru π with
 |some (p,_)=>(match get p ob.o ob.x with
  |some ⟨.sl (.op e),l⟩=>(match set p ob.o ob.x ⟨.sl e,aou e.dflt l⟩with
   |some ob2=>some (bds l=true,ob2)
   |none=>none)
  |_=>none)
 |none=>none
def sd:T->V
 |.p a b=>.p (sd a) (sd b)
 |.sl _=>.nl
 |.u=>.u
 |.pt _=>.d .any ()
 |.fn _ _=>.d .any ()
 |.er _=>.d .any ()
 |.any=>.d .any ()
 |t=>.d t t.dflt
def ig:bg->V->V->Option V
 |[],_,n=>some n
 |.l::π,.p a b,n=>(match ig π a n with|some q=>some (.p q b)|none=>none)
 |.r::π,.p a b,n=>(match ig π b n with|some q=>some (.p a q)|none=>none)
 |_,_,_=>none
def V.cells:V->V
 |.ag v=>v
 |v=>v
@[reducible] def d3:List T->Type
 |[]=>Unit
 |t::r=>t.den×d3 r
@[reducible] def gx:List (Bool×O)->Type
 |[]=>Unit
 |q::r=>q.2.strip.den×gx r
def inN(k:Nat):List Nat->Bool
 |[]=>false
 |j::r=>bif Nat.beq j k then true else inN k r
def ayp:List Nat->Bool
 |[]=>true
 |k::r=>bif inN k r then false else ayp r
structure Mt where
 o:O
 g:Bool
 pre:o.strip.den->Int->List Prop
 res:o.strip.den->Int->o.strip.den×Int
structure Wt where
 o:O
 as:List T
 ag:List Bool
 pre:o.strip.den->d3 as->List Prop
 new:o.strip.den->d3 as->o.strip.den
 rt:List (Bool×O)
 res:o.strip.den->d3 as->gx rt
structure Sp where
 args:List T
 ga:List Bool
 sh:Bool
 b:d3 args->Bool
 pre:d3 args->List Prop
 rt1:List (Bool×O)
 res1:d3 args->gx rt1
 rt0:List (Bool×O)
 res0:d3 args->gx rt0
structure Wa where
 o:O
 way:bg
 as:List T
 pre:o.strip.den->d3 as->List Prop
 new:o.strip.den->d3 as->o.strip.den
structure Wc where
 o:O
 i:Nat
 as:List T
 ag:List Bool
 pre:o.strip.den->d3 as->List Prop
 new:o.strip.den->d3 as->o.strip.den
inductive Mu where
 |c (c:Wc)
 |m (m:Mt)
 |w (w:Wt)
 |s (s:Sp)
 |a (a:Wa)
structure Ct where
 args:List T
 ga:List Bool
 pre:d3 args->List Prop
 rt:List (Bool×O)
 res:d3 args->gx rt
 sh:Bool
 mu:Option Mu
def o7(s:Sp):Bool->Ct
 |true=>⟨s.args,s.ga,fun x=>(s.b x=true)::s.pre x,s.rt1,s.res1,s.sh,none⟩
 |false=>⟨s.args,s.ga,fun x=>(s.b x=false)::s.pre x,s.rt0,s.res0,s.sh,none⟩
def ua(M:Mem):List V->(ts:List T)->Option (d3 ts)
 |[],[]=>some ()
 |v::r,t::ts=>(match v.cells.view M t,ua M r ts with|some x,some y=>some (x,y)|_,_=>none)
 |_,_=>none
def cid(d j:Nat):Nat:=Nat.add (Nat.add 100000 (Nat.mul 100 d)) j
def lh(d:Nat):Nat->(o:O)->o.strip.den->V×Mem×Nat
 |j,.fz t,x=>(jp t x,[],j)
 |j,.p a b,x=>(match lh d j a x.1 with
  |(v,M,j')=>(match lh d j' b x.2 with
   |(v',M',j'')=>(.p v v',ap M' M,j'')))
 |j,.sl e,x=>(.ref (cid d j) [],[(cid d j,⟨.sl e,x⟩)],Nat.succ j)
 |j,.pt o,x=>(.ad (cid d j) [.de],[(cid d j,⟨.pt o,x⟩)],Nat.succ j)
 |j,.mp k v,x=>(.ref (cid d j) [],[(cid d j,⟨.mp k v,x⟩)],Nat.succ j)
 |j,.op _,_=>(.any,[],j)
def newL(d:Nat):Nat->(rs:List (Bool×O))->gx rs->V×Mem×Nat
 |j,[],_=>(.u,[],j)
 |j,q::r,x=>(match lh d j q.2 x.1 with
  |(v,M,j')=>(match newL d j' r x.2 with
   |(v',M',j'')=>(.p (zt q.1 v) v',ap M' M,j'')))
def amf:List (Bool×O)->V->V
 |[_],.p a _=>a
 |_,v=>.tup v
def pf:List Nat->Mem->Mem
 |[],M=>M
 |k::r,M=>pf r (del k M)
def bz:Mem->List Nat
 |[]=>[]
 |(k,_)::r=>k::bz r
def klL:List Nat->List Ev
 |[]=>[]
 |k::r=>.kl k::klL r
def l8(M:Mem):List V->List Ev×Mem
 |[]=>([],M)
 |v::r=>(match br M v with|(e,M')=>(match l8 M' r with|(e',M'')=>(ap e e',M'')))
def pu(e:List Ev):List V->List V
 |[]=>[]
 |v::r=>v.evs e::pu e r
def qc(f:Operand->V):List Operand->List V
 |[]=>[]
 |x::r=>f x::qc f r
def asL:List V->(ts:List T)->Option (d3 ts)
 |[],[]=>some ()
 |v::r,t::ts=>(match v.cells.as t,asL r ts with|some x,some y=>some (x,y)|_,_=>none)
 |_,_=>none
def ph:V->Bool
 |.ag _=>true
 |_=>false
def shp:List V->List Bool->Bool
 |[],[]=>true
 |v::r,g::gs=>bif ph v then (bif g then shp r gs else false)else (bif g then false else shp r gs)
 |_,_=>false
def bh5:List Nat->Bool
 |[]=>true
 |_=>false
def axq(_:Mt)(_:List V)(M:Mem):Rs:=bp M
def zw:bg->Bool
 |[.de]=>true
 |_=>false
def bdw:bg->Bool
 |[]=>true
 |_=>false
def ac9:V->Option Nat
 |.ad k π=>bif zw π then some k else none
 |.ref k π=>bif bdw π then some k else none
 |_=>none
def aj1:O->Bool
 |.pt _=>true
 |.sl _=>true
 |_=>false
def deK:V->Option Nat
 |.ref k π=>bif zw π then some k else none
 |_=>none
def slO:O->Bool
 |.sl _=>true
 |_=>false
def pbW(W:Wt):Wt:=⟨.pt W.o,W.as,W.ag,W.pre,W.new,W.rt,W.res⟩
def u5(k:Nat)(W:Wt)(d:Nat)(r:List V)(M:Mem):Rs:=
 bif shp r W.ag then (match l8 M r with
   |(e,M1)=>(match go M1 k,asL (pu e r) W.as with
    |some ob,some y=>(match qk ob W.o with
     |some x=>(match newL d 0 W.rt (W.res x y)with
      |(v,N,_)=>bif inN k (bz N)then bp M else
       ⟨W.pre x y,amf W.rt v,ap e (.cut k W.o W.o::klL (bz N)),ap N (pf (bz N) (put k ⟨W.o,W.new x y⟩ M1))⟩)
     |none=>bp M)
    |_,_=>bp M))else bp M
def aae(W:Wt)(d:Nat)(vs:List V)(M:Mem):Rs:=
 match vs with
 |v0::r=>(match ac9 v0 with
  |some k=>bif aj1 W.o then u5 k W d r M else bp M
  |none=>(match deK v0 with
   |some k=>bif slO W.o then u5 k (pbW W) d r M else bp M
   |none=>bp M))
 |_=>bp M
def lrP:bg->Bool
 |[]=>true
 |.l::π=>lrP π
 |.r::π=>lrP π
 |_=>false
def aex(o:O):bg->Bool
 |.de::π=>(match o with|.pt _=>lrP π|_=>false)
 |_=>false
def arg(π:bg):V->Option Nat
 |.ad k ρ=>bif peq π ρ then some k else none
 |_=>none
def asz(k:Nat):V->Bool
 |.ad j π=>nob (Nat.beq j k) (zw π)
 |_=>false
def ade(k:Nat):V->V
 |.bx v=>bif asz k v then .bx (.d .any ())else .bx v
 |.p a b=>.p (ade k a) (ade k b)
 |.fn f v=>.fn f (ade k v)
 |v=>v
def x8(k:Nat):List V->List V
 |[]=>[]
 |v::r=>ade k v::x8 k r
def ahr:T->Bool
 |.any=>true
 |_=>false
def ah0:T->Bool
 |.pt t=>neg (ahr t)
 |.p a b=>nob (ah0 a) (ah0 b)
 |.fn _ t=>ah0 t
 |_=>true
def od(k:Nat):V->T->Bool
 |.bx v,.pt t=>bif asz k v then ahr t else neg (ahr t)
 |.p a b,.p t s=>nob (od k a t) (od k b s)
 |.fn _ v,.fn _ t=>od k v t
 |.ad _ _,t=>nob (ah0 t) (Nat.beq t.size 1)
 |.d s _,t=>nob (ah0 t) (Nat.beq s.size t.size)
 |.u,.u=>true
 |_,_=>false
def anm(k:Nat):List V->List T->Bool
 |[],[]=>true
 |v::r,t::ts=>nob (od k v t) (anm k r ts)
 |_,_=>false
def xv:List T->List Bool
 |[]=>[]
 |_::r=>false::xv r
def afh(W:Wa)(vs:List V)(M:Mem):Rs:=
 match vs with
 |v0::r=>(match arg W.way v0 with
  |some k=>bif ba [aex W.o W.way,anm k r W.as,shp (x8 k r) (xv W.as)]then (match l8 M (x8 k r)with
   |(e,M1)=>(match go M1 k,asL (pu e (x8 k r)) W.as with
    |some ob,some y=>(match qk ob W.o with
     |some x=>⟨W.pre x y,.tup .u,ap e [.cut k W.o W.o],put k ⟨W.o,W.new x y⟩ M1⟩
     |none=>bp M)
    |_,_=>bp M))else bp M
  |none=>bp M)
 |_=>bp M
def beo:T->V->Option Nat
 |.any,.ad k π=>bif zw π then some k else none
 |.p a b,.p v w=>(match beo a v with|some k=>some k|none=>beo b w)
 |.fn _ t,.fn _ v=>beo t v
 |_,_=>none
def aho(k:Nat):T->V->Bool
 |.any,.ad j π=>nob (Nat.beq j k) (zw π)
 |.any,_=>false
 |.p a b,.p v w=>nob (aho k a v) (aho k b w)
 |.fn f t,.fn g v=>nob (Nat.beq f g) (aho k t v)
 |.p _ _,_=>false
 |.fn _ _,_=>false
 |_,_=>true
def agf:T->V->V
 |.any,.ad _ _=>.np
 |.p a b,.p v w=>.p (agf a v) (agf b w)
 |.fn _ t,.fn g v=>.fn g (agf t v)
 |_,v=>v
def xm(k:Nat):List Bool->List T->List V->Bool
 |[],[],[]=>true
 |true::gs,_::ts,_::vs=>xm k gs ts vs
 |false::gs,t::ts,v::vs=>nob (aho k t v) (xm k gs ts vs)
 |_,_,_=>false
def aie:List Bool->List T->List V->List V
 |true::gs,_::ts,v::vs=>v::aie gs ts vs
 |false::gs,t::ts,v::vs=>agf t v::aie gs ts vs
 |_,_,vs=>vs
def wn{α:Type}(x:α):List α->Nat->α
 |[],_=>x
 |y::_,0=>y
 |_::r,Nat.succ n=>wn x r n
def boxI(W:Wc)(vs:List V):Option Nat:=bif wn true W.ag W.i then none else beo (wn .u W.as W.i) (wn .u vs W.i)
def ahh(W:Wc)(vs:List V)(M:Mem):Rs:=
 match boxI W vs with
 |some k=>bif nob (xm k W.ag W.as vs) (shp (aie W.ag W.as vs) W.ag)then (match go M k,ua (del k M) (aie W.ag W.as vs) W.as with
   |some ob,some y=>(match qk ob W.o with
    |some x=>⟨W.pre x y,.tup .u,[.cut k W.o W.o],put k ⟨W.o,W.new x y⟩ M⟩
    |none=>bp M)
   |_,_=>bp M)else bp M
 |none=>bp M
def w5(ct:Ct)(d:Nat)(vs:List V)(M:Mem):Rs:=
 match ct.mu with
 |some (.c W)=>ahh W vs M
 |some (.m m)=>axq m vs M
 |some (.w W)=>aae W d vs M
 |some (.s _)=>bp M
 |some (.a W)=>afh W vs M
 |none=>
 bif shp vs ct.ga then
 (match ct.sh with
 |false=>(match ua M vs ct.args with
  |some x=>(match newL d 0 ct.rt (ct.res x)with
   |(v,N,_)=>⟨ct.pre x,amf ct.rt v,klL (bz N),ap N (pf (bz N) M)⟩)
  |none=>bp M)
 |true=>(match l8 M vs with
  |(e,M')=>(match asL (pu e vs) ct.args with
   |some x=>(match newL d 0 ct.rt (ct.res x)with
    |(v,N,_)=>⟨ct.pre x,amf ct.rt v,ap e (klL (bz N)),ap N (pf (bz N) M')⟩)
   |none=>bp M)))else bp M
def ak9(B:Tab)(τ:Ty)(ρ:Operand->V)(x:Operand)(lo hi:Option Operand)(M:Mem):Rs:=
 match ρ x with
 |.ref r π=>(match ye gid r π M with
  |some (q,e,M')=>(match axo B τ (.d q.o.strip q.x) (up (fun y=>(ρ y).evs e) lo) (up (fun y=>(ρ y).evs e) hi)with
   |(l,v)=>⟨l,v,e,M'⟩)
  |none=>bp M)
 |v=>cp (axo B τ v (up ρ lo) (up ρ hi)) M
def nsT:T->Bool
 |.ns _=>true
 |_=>false
def ae6(B:Tab)(τ:Ty)(d:Option Nat)(ρ:Operand->V)(x:Operand)(lo hi:Option Operand)(M:Mem):Rs:=
 match ρ x,d,up ρ lo,hi,τ.el with
 |.ref r [],some d,some (.d (.int _) a),none,some e=>(match go M r with
  |some ⟨.sl o,l⟩=>bif ba [m9 r d,τ.ok,(B.τ e).ok,dy o.strip.size (B.τ e).size]then
    ⟨[0<=a,a<=l.length],.ref d [],[.kl r,.kl d],(d,⟨.sl o,l.drop a.toNat⟩)::del d (del r M)⟩else bp M
  |_=>bp M)
 |_,_,_,_,_=>bp M
def vx(B:Tab)(t:TypeId)(d:Option Nat)(ρ:Operand->V)(x:Operand)(lo hi:Option Operand)(M:Mem):Rs:=bif nsT (B.σ t)then ae6 B (B.τ t) d ρ x lo hi M else ak9 B (B.τ t) ρ x lo hi M
inductive Src where
 |own (j:Nat) (e:O) (l:List e.strip.den)
 |dat (e:List Ev) (M:Mem) (t:T) (l:List t.den)
 |nil
def ae2(M:Mem):V->Option Src
 |.nl=>some .nil
 |.d (.sl t) l=>some (.dat [] M t l)
 |.ref j π=>(match go M j,π with
  |some ⟨.sl e,l⟩,[]=>some (.own j e l)
  |some ob,π=>(match get π ob.o ob.x with
   |some ⟨.sl e,l⟩=>some (.dat [.fz j ob] (del j M) e.strip l)
   |some ⟨.fz (.sl t),l⟩=>some (.dat [.fz j ob] (del j M) t l)
   |_=>none)
  |none,_=>none)
 |_=>none
def e9(n m b:Nat):Prop:=(n+m)*b<=nb
def adh(b:Nat)(k:Nat)(e:O)(l:List e.strip.den)(j:Nat)(e':O)(m:List e'.strip.den)(ev:List Ev)(M:Mem)(M0:Mem):Rs:=
 match e'.beq e,qk ⟨.sl e',m⟩ (.sl e)with
 |true,some m=>⟨[e9 l.length m.length b],.ref k [],ap ev [.kl j,.kl k],(k,⟨.sl e,l++m⟩)::del k (del j M)⟩
 |_,_=>(match n5 (.sl e.strip) (a:=.sl e'.strip) m with
  |some m1=>⟨[e9 l.length m1.length b],.ref k [],ap ev [.fz j ⟨.sl e',m⟩,.kl k],(k,⟨.sl (.fz e.strip),l++m1⟩)::del k (del j M)⟩
  |none=>bp M0)
def ad8(b:Nat)(k:Nat)(e:O)(l:List e.strip.den)(t:T)(m:List t.den)(ev:List Ev)(M:Mem)(M0:Mem):Rs:=
 match n5 (.sl e.strip) (a:=.sl t) m with
 |some m=>⟨[e9 l.length m.length b],.ref k [],ap ev [.kl k],(k,⟨.sl (.fz e.strip),l++m⟩)::del k M⟩
 |none=>bp M0
def acy(B:Tab)(dst:Option Nat)(t:TypeId)(s x:V)(M:Mem):Rs:=
 match (B.τ t).el,dst,ae2 M x with
 |some e,some d,some src=>
  bif ba [(B.τ t).ok,(B.τ e).ok,neg (Nat.beq (B.τ e).bytes 0),B.z e,dy (B.σ e).size (B.τ e).size]then
   (match s with
   |.nl=>(match src with
    |.nil=>⟨[],.nl,[],M⟩
    |.own j e' m=>bif ba [m9 j d,dy e'.strip.size (B.τ e).size]then⟨[e9 0 m.length (B.τ e).bytes],.ref d [],[.kl j,.kl d],(d,⟨.sl e',m⟩)::del d (del j M)⟩else bp M
    |.dat ev M' t' m=>bif dy t'.size (B.τ e).size then⟨[e9 0 m.length (B.τ e).bytes],.ref d [],ap ev [.kl d],(d,⟨.sl (.fz t'),m⟩)::del d M'⟩else bp M)
   |.ref k π=>(match go M k,π with
    |some ⟨.sl o,l⟩,[]=>bif ba [dy o.strip.size (B.τ e).size,Nat.ble (Nat.succ k) gid]then (match src with
     |.nil=>⟨[],.ref k [],[],M⟩
     |.own j e' m=>bif neg (m9 j k)then bp M else adh (B.τ e).bytes k o l j e' m [.kl k] (del k M) M
     |.dat ev M' t' m=>(match go M' k with|some _=>ad8 (B.τ e).bytes k o l t' m (ap ev [.kl k]) (del k M') M|none=>bp M))else bp M
    |some ob,π=>(match get π ob.o ob.x,set π ob.o ob.x ⟨.fz .any,()⟩with
     |some ⟨.sl o,l⟩,some ob'=>bif ba [dy o.strip.size (B.τ e).size,neg (Nat.beq d k),Nat.ble (Nat.succ k) gid]then (match src with
      |.nil=>⟨[],.ref k π,[],M⟩
      |.own j e' m=>bif ba [m9 j k,m9 j d]then adh (B.τ e).bytes d o l j e' m [.cut k ob.o ob'.o] (put k ob' M) M else bp M
      |.dat ev M' t' m=>(match go M' k with|some _=>ad8 (B.τ e).bytes d o l t' m (ap ev [.cut k ob.o ob'.o]) (put k ob' M') M|none=>bp M))else bp M
     |some ⟨.sl o,l⟩,none=>(match bis π ob with
      |some ob'=>bif ba [dy o.strip.size (B.τ e).size,neg (Nat.beq d k),Nat.ble (Nat.succ k) gid]then (match src with
       |.nil=>bp M
       |.own j e' m=>bif ba [m9 j k,m9 j d]then adh (B.τ e).bytes d o l j e' m [.tk k ob.o ob'.o] (put k ob' M) M else bp M
       |.dat ev M' t' m=>(match go M' k with|some _=>ad8 (B.τ e).bytes d o l t' m (ap ev [.tk k ob.o ob'.o]) (put k ob' M') M|none=>bp M))else bp M
      |none=>bp M)
     |_,_=>bp M)
    |none,_=>bp M)
   |_=>bp M)
  else bp M
 |_,_,_=>bp M
def acz(B:Tab)(kty:TypeId):T->Bool
 |.int q=>(match (B.τ kty).int with|some q'=>ba [(B.τ kty).ok,xy q' q]|none=>false)
 |.str=>ba [(B.τ kty).ok,(B.τ kty).st]
 |.p a b=>nob (nob (B.τ kty).ok (isN (B.τ kty).arr)) (nob (neg (isZ (T.p a b).intsN)) (dy (T.p a b).intsN (B.q kty)))
 |_=>false
def ul(B:Tab)(ety:TypeId):T->Bool
 |.int q=>ba [(B.τ ety).ok,B.z ety,(B.σ ety).beq (.int q)]
 |.bool=>ba [(B.τ ety).ok,B.z ety,(B.σ ety).beq .bool]
 |_=>false
def agj:V->T->Bool
 |.ag _,.p _ _=>true
 |.ag _,_=>false
 |_,.p _ _=>false
 |_,_=>true
structure Mp where
 k:T
 v:T
 l:(T.mp k v).den
def bit(M:Mem):V->Option Mp
 |.d (.mp k v) l=>some ⟨k,v,l⟩
 |.ref r π=>(match mt M r π with
  |some ⟨.mp k v,l⟩=>some ⟨k,v,l⟩
  |some ⟨.fz (.mp k v),l⟩=>some ⟨k,v,l⟩
  |_=>none)
 |_=>none
def aq8(B:Tab)(t:TypeId)(M:Mem)(x i:V)(ok:Bool):List Prop×V:=
 match (B.τ t).mp,bit M x with
 |some (kty,ety),some ⟨k,v,l⟩=>bif ba [(B.τ t).ok,acz B kty k,ul B ety v,agj i k]then
   (match i.cells.as k with
   |some y=>cc (bif ok then .tup (.p (.d v (pp k v l y)) (.p (.d .bool (ahu k v l y)) .u))else .d v (pp k v l y))
   |none=>bad)else bad
 |_,_=>bad
def am4(B:Tab)(t:TypeId)(d:Option Nat)(M:Mem):Rs:=
 match (B.τ t).mp,d with
 |some (kty,ety),some d=>bif ba [(B.τ t).ok]then⟨[],.ref d [],[.kl d],(d,⟨.mp (B.σ kty) (B.σ ety),[]⟩)::del d M⟩else bp M
 |_,_=>bp M
def anf(B:Tab)(t:TypeId)(m i x:V)(M:Mem):Rs:=
 match (B.τ t).mp,m with
 |some (kty,ety),.ref r π=>(match go M r with
  |some ob=>(match get π ob.o ob.x with
   |some ⟨.mp k v,l⟩=>bif ba [(B.τ t).ok,acz B kty k,ul B ety v,agj i k,neg (ph x)]then
     (match i.cells.as k,x.cells.as v with
     |some y,some z=>(match set π ob.o ob.x ⟨.mp k v,jh k v l y z⟩with
      |some ob'=>(match qk ob' ob.o with
       |some x'=>⟨[e9 l.length 1 1],.any,[.cut r ob.o ob.o],put r ⟨ob.o,x'⟩ M⟩
       |none=>bp M)
      |none=>bp M)
     |_,_=>bp M)else bp M
   |_=>bp M)
  |none=>bp M)
 |_,_=>bp M
def fg:T->List Value->Bool
 |.p a b,zs=>nob (fg a (fa a.size zs)) (fg b (q9 a.size zs))
 |.u,[]=>true
 |.int k,[.int k' (.ofNat 0)]=>xy k k'
 |.bool,[.bool b]=>neg b
 |.str,[.string s]=>Nat.beq s.size 0
 |.sl _,[.slice none 0 0]=>true
 |.ns _,[.slice none 0 0]=>true
 |.any,[v]=>v.oneCell'
 |_,_=>false
def ax8(B:Tab)(t:TypeId)(o:Option Nat)(M:Mem):Rs:=
 match o with
 |some k=>bif ba [(B.τ t).ok,B.z t]then
   ⟨[],.ad k [.de],[.kl k],(k,⟨.pt (B.σ t).deep,(B.σ t).deep.dflt⟩)::del k M⟩else bp M
 |none=>bp M
def aws(B:Tab)(t:TypeId)(o:Option Nat)(x:V)(M:Mem):Rs:=
 match o with
 |some k=>(match conv k (B.σ t) (x.cells.ev (.kl k)) (del k M)with
  |some (q,e,M')=>⟨[],.ad k [.de],.kl k::e,(k,⟨.pt q.o,q.x⟩)::M'⟩
  |none=>bif neg (isN (x.cells.size M))then⟨[],.bx x.cells,[],M⟩else bp M)
 |none=>bp M
def rm(M:Mem)(place:Nat->Option (bg×Nat×Nat))(f:Operand->V):List (Nat×Operand)->V->Option V
 |[],v=>some v
 |(i,x)::r,v=>(match place i with
  |some (π,off,n)=>(match gm M π v with
   |some (m,w)=>bif ba [dy m off,jl M w n,jl M (f x).cells n]then (match ig π v (f x).cells with|some v'=>rm M place f r v'|none=>none)else none
   |none=>none)
  |none=>none)
def bem(B:Tab)(τ:Ty)(i:Nat):Option (bg×Nat×Nat):=
 match τ.arr with
 |some (e,n)=>bif Nat.ble (Nat.succ i) n then some (ae1 n i,Nat.mul i (B.τ e).size,(B.τ e).size)else none
 |none=>(match mf τ.fld i with|some q=>some (ae1 (len τ.fld) i,q.1,q.2.2)|none=>none)
def an5(B:Tab)(τ:Ty):Bool:=
 match τ.arr with
 |some (e,_)=>(B.τ e).ok
 |none=>τ.sz
def wl(B:Tab)(t:TypeId)(parts:List (Nat×Operand))(f:Operand->V)(M:Mem):Rs:=
 bif ba [(B.τ t).ok,an5 B (B.τ t),B.z t]then
   (match rm M (bem B (B.τ t)) f parts (sd (B.σ t))with
   |some v=>⟨[],.ag v,[],M⟩
   |none=>bp M)else bp M
def ny(k:Nat)(o:O):List Ev->List V->Mem->Option (List o.strip.den×List Ev×Mem)
 |ev,[],M=>some ([],ev,M)
 |ev,v::r,M=>(match afa k o (v.evs ev) M with
  |some (x,e,M')=>(match ny k o (ap ev e) r M' with
   |some (l,e',M'')=>some (x::l,e',M'')
   |none=>none)
  |none=>none)
def oy(M:Mem)(sz:Nat)(f:Operand->V):List (Nat×Operand)->List V->Option (List V)
 |[],l=>some l
 |(i,x)::r,l=>bif nob (Nat.ble (Nat.succ i) (len l)) (jl M (f x).cells sz)then oy M sz f r (alz l i (f x).cells)else none
def be8:T->V
 |.ns (.sl e)=>.d (.ns (.sl e)) (some [])
 |_=>.nl
def zn(B:Tab)(t:TypeId)(n:Nat)(parts:List (Nat×Operand))(f:Operand->V)(o:Option Nat)(M:Mem):Rs:=
 match o,(B.τ t).el with
 |some k,some e=>
  (match oy M (B.τ e).size f parts (aav (sd (B.σ e)) n)with
  |some l=>bif ba [(B.τ t).ok,(B.τ e).ok,B.z e,Nat.ble (Nat.mul n (B.τ e).size) 16777216,Nat.ble n nb,dy (B.σ e).size (B.τ e).size]then
    (match pu [.kl k] l with
    |[]=>⟨[],be8 (B.σ t),[],M⟩
    |v::r=>(match conv k (B.σ e) v (del k M)with
     |some (q,_,_)=>(match ny k q.o [] (v::r) (del k M)with
      |some (x,ev,M')=>⟨[],.ref k [],.kl k::ev,(k,⟨.sl q.o,x⟩)::M'⟩
      |none=>(match ny k (.fz (B.σ e)) [] (v::r) (del k M)with
       |some (x,ev,M')=>⟨[],.ref k [],.kl k::ev,(k,⟨.sl (.fz (B.σ e)),x⟩)::M'⟩
       |none=>bp M))
     |none=>bp M))else bp M
  |none=>bp M)
 |_,_=>bp M
def amx(B:Tab)(t:TypeId)(l c:V)(o:Option Nat)(M:Mem):Rs:=
 match o,(B.τ t).el,l,c with
 |some k,some e,.d (.int _) nl,.d (.int _) nc=>
  bif ba [(B.τ t).ok,(B.τ e).ok,B.z e,dy (B.σ e).size (B.τ e).size]then
    ⟨[0<=nl,nl<=nc,nc<=nb,nc*(B.τ e).bytes<=nb],.ref k [],[.kl k],(k,⟨.sl (B.σ e).deep,List.replicate nl.toNat (B.σ e).deep.dflt⟩)::del k M⟩else bp M
 |_,_,_,_=>bp M
def ab3(B:Tab)(t:TypeId)(x y:V)(M:Mem):Rs:=
 match x with
 |.ad k π=>(match go M k,mt M k π with
  |some ob,some q=>bif ba [(B.τ t).ok,jl M y.cells (B.τ t).size,dy q.o.strip.size (B.τ t).size,neg (isZ (B.τ t).size)]then
    (match (bif ae3 π then (match afa k q.o y.cells M with
      |some (z,e,M')=>some (⟨q.o,z⟩,e,M')
      |none=>none)else conv k (B.σ t) y.cells M)with
     |some (z,e,M')=>(match go M' k,set π ob.o ob.x z with
      |some _,some ob'=>bif dy z.o.strip.size (B.τ t).size then (match bea π ob' with
      |some (c,ob2)=>⟨[c],.any,ap e [.cut k ob.o ob'.o,.cut k ob'.o ob2.o],put k ob2 M'⟩
      |none=>⟨[],.any,ap e [.cut k ob.o ob'.o],put k ob' M'⟩)else bp M
      |_,_=>bp M)
     |none=>bp M)else bp M
  |_,_=>bp M)
 |_=>bp M
def y9(x y:V)(M:Mem)(r:Rs):Rs:=
 match x,y with
 |.ad k [.de],.ad j [.de]=>(match go M k,go r.M k with
  |some ⟨.pt (.fz .any),_⟩,some ⟨.pt (.pt o),z⟩=>bif nob (Nat.blt k gid) (isN (go r.M j))then⟨r.vc,.any,ap r.ev [.un k j],(j,⟨.pt o,z⟩)::del k r.M⟩else r
  |_,_=>r)
 |_,_=>r
def aic:V->Option (FuncId×V)
 |.fn f v=>some (f,v)
 |.d (.fn f t) x=>some (f,jp t x)
 |_=>none
def pg(M:Mem):V->Option (List V)
 |.u=>some []
 |.p a b=>(match pg M b with|some r=>bif jl M a 1 then some (a::r)else none|none=>none)
 |_=>none
def aum(M:Mem):List V->Option V
 |[]=>some .u
 |v::r=>(match aum M r with|some c=>bif nob (neg (ph v)) (jl M v 1)then some (.p v c)else none|none=>none)
def ast(M:Mem)(fn:Fn)(first:List Operand)(vs:List V):List Prop×V:=
 match fn,first,aum M vs with
 |.func f,[],some c=>cc (.fn f c)
 |_,_,_=>bad
def awz(B:Tab)(t:TypeId)(M:Mem)(x:V):List Prop×V:=
 match x with
 |.ag (.d .str _)=>bif ba [(B.τ t).ok,(B.τ t).agg]then cc (.d (.er t) true)else bad
 |x=>bif ba [(B.τ t).ok,neg (isN (B.τ t).el),neg (ph x),jl M x 1]then cc (.ifc t x)else bad
def inI:V->Option (TypeId×V)
 |.ifc t v=>some (t,v)
 |.d (.ifc t T) y=>some (t,jp T y)
 |_=>none
def aw1(B:Tab)(i:TypeId)(ok:Bool)(x:V):List Prop×V:=
 match inI x with
 |some (t,_)=>bif ayf B.m t i then cc (bif ok then .tup (.p x (.p (.d .bool true) .u))else x)else bad
 |none=>bad
def c6(B:Tab)(Φ:FuncId->Option Ct)(o:Oper)(ρ:Operand->V)(M:Mem):Rs:=
 match o.op with
 |.move x=>cp ([],ρ x) M
 |.assign x=>cp ([],ρ x) M
 |.nilCheck x=>cp (awj (ρ x)) M
 |.load t x=>rk (B.τ t) M o.dst (ρ x)
 |.fieldAddr t x i=>cp (agi (B.τ t) M (ρ x) i) M
 |.field t x i=>cp (ake B (B.τ t) M (ρ x) i) M
 |.indexAddr t x i=>cp (aj0 B (B.τ t) M (ρ x) (ρ i)) M
 |.index t x i=>cp (bc0 (B.τ t) (ρ x) (ρ i)) M
 |.binOp op t x y _=>cp (ass B t op (ayo y) (bfg y) (ρ x) (ρ y)) M
 |.unOp op _ x=>cp (bd0 op (ρ x)) M
 |.convert s d x=>cp (acw B s d M (ρ x)) M
 |.extract x i=>cp (anv (ρ x) i) M
 |.slice t x lo hi none=>vx B t o.dst ρ x lo hi M
 |.alloc e=>ax8 B e o.dst M
 |.box e x=>aws B e o.dst (ρ x) M
 |.build t parts=>wl B t (toL parts) ρ M
 |.buildSlice t n parts=>zn B t n (toL parts) ρ o.dst M
 |.makeSlice t l c=>amx B t (ρ l) (ρ c) o.dst M
 |.store t x y=>y9 (ρ x) (ρ y) M (ab3 B t (ρ x) (ρ y) M)
 |.lookup t x i ok=>cp (aq8 B t M (ρ x) (ρ i) ok) M
 |.makeMap t none=>am4 B t o.dst M
 |.makeInterface t x=>cp (awz B t M (ρ x)) M
 |.typeAssert x _ i ok=>cp (aw1 B i ok (ρ x)) M
 |.mapUpdate t m i x=>anf B t (ρ m) (ρ i) (ρ x) M
 |.makeFunc fn fs cs=>cp (ast M fn (toL fs) (qc ρ (toL cs))) M
 |.call c=>(match c.callee with
  |.builtin .len=>(match toL c.args,toL c.argTypes with
   |[x],[t]=>cp (akb (B.τ t) M (ρ x)) M
   |_,_=>bp M)
  |.builtin .max=>(match toL c.args with
   |[x,y]=>cp (axc true (ρ x) (ρ y)) M
   |_=>bp M)
  |.builtin .min=>(match toL c.args with
   |[x,y]=>cp (axc false (ρ x) (ρ y)) M
   |_=>bp M)
  |.builtin .append=>(match toL c.args,toL c.argTypes with
   |[x,y],[t,t']=>bif Nat.beq t t' then acy B o.dst t (ρ x) (ρ y) M else bp M
   |_,_=>bp M)
  |.value cx=>(match aic (ρ cx),o.dst with
   |some (f,v),some d=>(match Φ f,pg M v with
    |some ct,some cs=>w5 ct d (ap (qc ρ (toL c.args)) cs) M
    |_,_=>bp M)
   |_,_=>bp M)
  |.invoke r name=>(match inI (ρ r),o.dst with
   |some (t,v),some d=>(match asd B.m t name with
    |some f=>(match Φ f with
     |some ct=>w5 ct d (v::qc ρ (toL c.args)) M
     |none=>bp M)
    |none=>bp M)
   |_,_=>bp M)
  |_=>bp M)
 |_=>bp M
end Go.Bm
/- The du machine:regions,code,loops. -/
namespace Go.Bm
open Go.RowKit
def ahy:List Prop->Prop->Prop
 |[],K=>K
 |p::r,K=>p/\ahy r K
def imp(g:Prop):List Prop->Prop->Prop
 |[],K=>K
 |p::r,K=>(g->ahy r p)/\K
def cnd(b:Bool)(x y:Prop):Prop:=(b=true->x)/\(b=false->y)
def wr(d:Option Nat)(x:V)(env:Env):Env:=
 match d with
 |some d=>(d,x)::env
 |none=>env
def gc:V->Bool->Prop
 |.d .bool b,w=>b=w
 |.gd _ _ P v,w=>P/\gc v w
 |_,_=>False
def ju:V->Bool
 |.d .bool _=>true
 |.gd _ _ _ v=>ju v
 |_=>false
def auk(a b:Bool):Bool:=bif a then b else neg b
def po(f:Operand->V):List Operand->List Prop
 |[]=>[]
 |x::r=>(match f x with
  |.gd _ _ P _=>P::po f r
  |_=>po f r)
def m6(o:Oper):Bool:=
 match o.op with
 |.store _ _ _=>false
 |.mapUpdate _ _ _ _=>false
 |.call c=>(match c.callee with
  |.builtin .append=>false
  |_=>true)
 |_=>true
def fb(M:Mem):List Ev->Bool
 |[]=>true
 |.kl k::r=>nob (isN (go M k)) (fb M r)
 |_=>false
def avF(M0 M:Mem):V->V
 |.ref k π=>(match go M0 k with|some _=>.ref k π|none=>(match mt M k π with|some q=>jp q.o.strip q.x|none=>.any))
 |.ad k π=>(match go M0 k with|some _=>.ad k π|none=>(match mt M k π with|some q=>.d (.pt q.o.strip) q.x|none=>.any))
 |.p a b=>.p (avF M0 M a) (avF M0 M b)
 |.ag v=>.ag (avF M0 M v)
 |.tup v=>.tup (avF M0 M v)
 |.fn f v=>.fn f (avF M0 M v)
 |.ifc t v=>.ifc t (avF M0 M v)
 |.bx v=>.bx (avF M0 M v)
 |.gd _ _ _ _=>.any
 |v=>v
def tb(ops:List Oper)(j:Nat):Option Nat:=
 match mf ops j with
 |some o=>o.dst
 |none=>none
def adb(cb:Bool)(side:Bool):V->List Prop
 |.gd _ _ P _=>[cb=side->P]
 |_=>[]
def awk(cb:Bool)(a b:Operand)(av bv:Bool):Bool:=
 match a,b with
 |.const (.bool true),_=>cb||bv
 |_,.const (.bool false)=>cb&&av
 |_,_=>(bif cb then av else bv)
def ad6(env:Env)(c a b:Operand):List Prop×V:=
 bif ba [(rd env c).strip.isB,(rd env a).strip.isB,(rd env b).strip.isB]then
  (ap (po (rd env) [c]) (ap (adb (rd env c).strip.boolV true (rd env a)) (adb (rd env c).strip.boolV false (rd env b))),
   .d .bool (awk (rd env c).strip.boolV a b (rd env a).strip.boolV (rd env b).strip.boolV))
 else bad
def b8:Op->List Operand
 |.move x=>[x]
 |.assign x=>[x]
 |.nilCheck x=>[x]
 |.load _ x=>[x]
 |.fieldAddr _ x _=>[x]
 |.field _ x _=>[x]
 |.indexAddr _ x i=>[x,i]
 |.index _ x i=>[x,i]
 |.binOp _ _ x y _=>[x,y]
 |.unOp _ _ x=>[x]
 |.convert _ _ x=>[x]
 |.extract x _=>[x]
 |.slice _ x lo hi _=>x::ap (optL lo) (optL hi)
 |.box _ x=>[x]
 |.build _ ps=>snds (toL ps)
 |.buildSlice _ _ ps=>snds (toL ps)
 |.makeSlice _ l c=>[l,c]
 |.store _ x y=>[x,y]
 |.lookup _ m i _=>[m,i]
 |.mapUpdate _ m i x=>[m,i,x]
 |.makeFunc _ fs cs=>ap (toL fs) (toL cs)
 |.call c=>ap (calO c.callee) (toL c.args)
 |.makeInterface _ x=>[x]
 |.typeAssert x _ _ _=>[x]
 |_=>[]
where
 calO:Callee->List Operand
  |.value x=>[x]
  |.invoke x _=>[x]
  |_=>[]
 optL:Option Operand->List Operand
  |none=>[]
  |some x=>[x]
 snds:List (Nat×Operand)->List Operand
  |[]=>[]
  |(_,x)::r=>x::snds r
def evR(B:Tab)(Φ:FuncId->Option Ct)(o:Oper)(env:Env)(M:Mem):Rs:=
 match o.op with
 |.pick c a b=>cp (ad6 env c a b) M
 |_=>(match c6 B Φ o (fun x=>(rd env x).strip) M with
  |⟨vc,v,e,M'⟩=>⟨ap (po (rd env) (b8 o.op)) vc,v,e,M'⟩)
def tw(B:Tab)(Φ:FuncId->Option Ct)(all:List Oper):List Oper->Env->Mem->(Env->Mem->Prop)->Prop
 |[],env,M,K=>K env M
 |o::rest,env,M,K=>
  (match o.guard with
  |none=>(match evR B Φ o env M with
   |⟨vc,v,e,M'⟩=>ahy vc (tw B Φ all rest (wr o.dst v (pz env e)) M' K))
  |some (j,want)=>(match tb all j,evR B Φ o env M with
   |some dj,⟨vc,v,e,M'⟩=>bif ba [ju (gt env dj),m6 o,fb M e]then
     imp (gc (gt env dj) want) vc (tw B Φ all rest (wr o.dst (.gd j want (gc (gt env dj) want) (avF M M' v)) env) M K)else False
   |none,_=>False))
def dw(B:Tab)(Φ:FuncId->Option Ct)(all:List Oper):List Oper->Env->Mem->(Env->Prop)->Prop
 |[],env,_,K=>K env
 |o::rest,env,M,K=>
  (match o.guard with
  |none=>(match evR B Φ o env M with
   |⟨vc,v,e,M'⟩=>bif ba [m6 o,fb M e]then ahy vc (dw B Φ all rest (wr o.dst (avF M M' v) env) M K)else False)
  |some (j,want)=>(match tb all j,evR B Φ o env M with
   |some dj,⟨vc,v,e,M'⟩=>bif ba [ju (gt env dj),m6 o,fb M e]then
     imp (gc (gt env dj) want) vc (dw B Φ all rest (wr o.dst (.gd j want (gc (gt env dj) want) (avF M M' v)) env) M K)else False
   |none,_=>False))
def aqd:List (Nat×Bool)->Nat->Bool->Bool
 |[],_,_=>false
 |(i,w)::r,j,w'=>bif nob (Nat.beq i j) (auk w w')then true else aqd r j w'
def unG(fs:List (Nat×Bool)):V->V
 |.gd j w P v=>bif aqd fs j w then v else .gd j w P v
 |v=>v
def tj:V->Bool
 |.gd _ _ _ _=>true
 |_=>false
def r8(all:List Oper)(env:Env):Nat->Nat->Bool->List (Nat×Bool)
 |0,_,_=>[]
 |n+1,j,w=>(j,w)::(match tb all j with
  |some d=>(match gt env d with
   |.gd i w' _ _=>r8 all env n i w'
   |_=>[])
  |none=>[])
def ak5(t:Nat):Option Nat->Bool
 |some d=>Nat.beq d t
 |none=>false
def awm(all:List Oper)(c:Operand)(side:Bool)(v:V):V:=
 match c,v with
 |.tmp t,.gd j w P x=>bif nob (ak5 t (tb all j)) (auk w side)then x else .gd j w P x
 |_,v=>v
def aw3(all:List Oper)(fs:List (Nat×Bool))(env:Env)(c a b:Operand):List Prop×V:=
 bif ba [(rd env c).strip.isB,(rd env a).strip.isB,(rd env b).strip.isB]then
  (ap (po (fun x=>unG fs (rd env x)) [c]) (ap (adb (rd env c).strip.boolV true (awm all c true (unG fs (rd env a)))) (adb (rd env c).strip.boolV false (awm all c false (unG fs (rd env b))))),
   .d .bool (awk (rd env c).strip.boolV a b (rd env a).strip.boolV (rd env b).strip.boolV))
 else bad
def evG(B:Tab)(Φ:FuncId->Option Ct)(all:List Oper)(fs:List (Nat×Bool))(o:Oper)(env:Env)(M:Mem):Rs:=
 match o.op with
 |.pick c a b=>cp (aw3 all fs env c a b) M
 |_=>(match c6 B Φ o (fun x=>(rd env x).strip) M with
  |⟨vc,v,e,M'⟩=>⟨ap (po (fun x=>unG fs (rd env x)) (b8 o.op)) vc,v,e,M'⟩)
def wIn(d:Nat):List Oper->Bool
 |[]=>false
 |o::r=>bif ak5 d o.dst then true else wIn d r
def twG(B:Tab)(Φ:FuncId->Option Ct)(all:List Oper):List Oper->Env->Mem->(Env->Mem->Prop)->Prop
 |[],env,M,K=>K env M
 |o::rest,env,M,K=>
  (match o.guard with
  |none=>(match evG B Φ all [] o env M with
   |⟨vc,v,e,M'⟩=>bif tj v then False else ahy vc (twG B Φ all rest (wr o.dst v (pz env e)) M' K))
  |some (j,want)=>(match tb all j,evG B Φ all (r8 all env 8 j want) o env M with
   |some dj,⟨vc,v,e,M'⟩=>bif ba [ju (gt env dj),m6 o,fb M e,neg (wIn dj (o::rest))]then
     imp (gc (gt env dj) want) vc (twG B Φ all rest (wr o.dst (.gd j want (gc (gt env dj) want) (avF M M' v)) env) M K)else False
   |none,_=>False))
def dwG(B:Tab)(Φ:FuncId->Option Ct)(all tl:List Oper):List Oper->Env->Mem->(Env->Prop)->Prop
 |[],env,_,K=>K env
 |o::rest,env,M,K=>
  (match o.guard with
  |none=>(match evG B Φ all [] o env M with
   |⟨vc,v,e,M'⟩=>bif ba [m6 o,fb M e]then ahy vc (dwG B Φ all tl rest (wr o.dst (avF M M' v) env) M K)else False)
  |some (j,want)=>(match tb all j,evG B Φ all (r8 all env 8 j want) o env M with
   |some dj,⟨vc,v,e,M'⟩=>bif ba [ju (gt env dj),m6 o,fb M e,neg (wIn dj (o::rest)),neg (wIn dj tl)]then
     imp (gc (gt env dj) want) vc (dwG B Φ all tl rest (wr o.dst (.gd j want (gc (gt env dj) want) (avF M M' v)) env) M K)else False
   |none,_=>False))
def nogd:Env->Bool
 |[]=>true
 |(_,v)::r=>bif tj v then false else nogd r
def w4:Op->Bool
 |.move _=>true
 |.assign _=>true
 |.nilCheck _=>true
 |.load _ _=>true
 |.fieldAddr _ _ _=>true
 |.field _ _ _=>true
 |.indexAddr _ _ _=>true
 |.index _ _ _=>true
 |.binOp _ _ _ _ _=>true
 |.unOp _ _ _=>true
 |.convert _ _ _=>true
 |_=>false
def cw:V->Bool
 |.d _ _=>true
 |.nl=>true
 |.np=>true
 |.u=>true
 |.p a b=>nob (cw a) (cw b)
 |.ag v=>cw v
 |.fn _ v=>cw v
 |.bx v=>cw v
 |_=>false
def agx(env:Env):List Operand->Bool
 |[]=>true
 |x::r=>nob (cw (rd env x)) (agx env r)
def bkf(B:Tab)(e:TypeId):Ob:=⟨.pt (B.σ e).deep,(B.σ e).deep.dflt⟩
def bou(d:Nat):V->Bool
 |.ad k [.de]=>Nat.beq k d
 |_=>false
def one1(d:Nat):Rs->Option Ob
 |⟨[],_,_,[(k,ob)]⟩=>bif Nat.beq k d then some ob else none
 |_=>none
def bx(_:Tab)(_:FuncId->Option Ct)(_:List Oper)(_:Env)(_:Mem)(_:Env->Mem->Prop):Prop:=False
def acx:Op->Bool
 |.move _=>true
 |.assign _=>true
 |.extract _ _=>true
 |_=>false
def newK:Op->Bool
 |.alloc _=>true
 |.build _ _=>true
 |.makeSlice _ _ _=>true
 |.buildSlice _ n p=>nob (Nat.beq n 0) (Nat.beq (len (toL p)) 0)
 |.call c=>(match c.callee with
  |.value _=>true
  |.builtin .len=>true
  |_=>false)
 |_=>false
def aam(M:Mem):V->Bool
 |.p a b=>nob (aam M a) (aam M b)
 |.ag v=>aam M v
 |.fn _ v=>aam M v
 |.bx v=>aam M v
 |.ref k _=>neg (isN (go M k))
 |.ad k _=>neg (isN (go M k))
 |.gd _ _ _ _=>false
 |.ifc _ _=>false
 |.tup _=>false
 |_=>true
def ajg(M:Mem)(env:Env):List Operand->Bool
 |[]=>true
 |x::r=>nob (aam M (rd env x)) (ajg M env r)
def sldK(o:Op)(env:Env):Bool:=
 match o with
 |.slice _ _ _ _ none=>agx env (b8 o)
 |_=>false
def litK(o:Op)(env:Env):Bool:=
 match o with
 |.buildSlice _ _ _=>agx env (b8 o)
 |.call c=>(match c.callee with
  |.builtin .append=>agx env (b8 o)
  |_=>false)
 |_=>false
def ahx(M:Mem)(o:Op)(env:Env):Bool:=orb (acx o) (orb (orb (sldK o env) (litK o env)) (nob (orb (w4 o) (newK o)) (ajg M env (b8 o))))
def klB:List Ev->Mem->Bool
 |[],[]=>true
 |.kl k::r,(j,_)::N=>nob (Nat.beq k j) (klB r N)
 |_,_=>false
def ae9:List Nat->Mem->Bool
 |[],_=>true
 |k::r,M=>nob (isN (go M k)) (ae9 r M)
def tg:V->Bool
 |.p a b=>nob (tg a) (tg b)
 |.ag v=>tg v
 |.tup v=>tg v
 |.fn _ v=>tg v
 |.ifc _ v=>tg v
 |.bx v=>tg v
 |.gd _ _ _ _=>false
 |_=>true
def wy:Env->Bool
 |[]=>true
 |(_,v)::r=>nob (tg v) (wy r)
def zp:Op->Bool
 |.build _ _=>true
 |.slice _ _ _ _ none=>true
 |.call c=>(match c.callee with
  |.builtin .len=>true
  |_=>false)
 |_=>false
def sn(o:Op):Bool:=nob (orb (w4 o) (zp o)) (neg (acx o))
def ksV(ks:List Nat):V->Bool
 |.d _ _=>true
 |.nl=>true
 |.np=>true
 |.u=>true
 |.p a b=>nob (ksV ks a) (ksV ks b)
 |.ag v=>ksV ks v
 |.fn _ v=>ksV ks v
 |.bx v=>ksV ks v
 |.ref k _=>inN k ks
 |.ad k _=>inN k ks
 |_=>false
def sw(ks:List Nat)(env:Env):List Operand->Bool
 |[]=>true
 |x::r=>nob (ksV ks (rd env x)) (sw ks env r)
def amo(env:Env):List Oper->List Nat
 |[]=>[]
 |o::r=>(match o.op with
  |.load _ (.tmp t)=>(match gt env t with
   |.bx (.ad k _)=>k::amo env r
   |_=>amo env r)
  |_=>amo env r)
def bc1(τ:Ty):Bool:=ba [τ.ok,dy τ.size 1,neg τ.agg]
def bxK(B:Tab)(as:List Nat)(o:Op)(env:Env):Bool:=
 match o with
 |.load t (.tmp t0)=>(match gt env t0 with
  |.bx (.ad k π)=>ba [zw π,inN k as,bc1 (B.τ t)]
  |_=>false)
 |_=>false
def afb(as:List Nat):Ev->Bool
 |.kl k=>neg (inN k as)
 |.fz k _=>neg (inN k as)
 |.cut k o o'=>orb (neg (inN k as)) (yg (qp [.de] o) (qp [.de] o'))
 |.mv j _=>neg (inN j as)
 |.un j _=>neg (inN j as)
 |.tk k o o'=>orb (neg (inN k as)) (yg (qp [.de] o) (qp [.de] o'))
def aki(as:List Nat):List Ev->Bool
 |[]=>true
 |e::r=>nob (afb as e) (aki as r)
def aji(ms:List Nat)(o:Oper):Nat:=o.after.toList.foldl (fun m e=>if Region.binds .any e then m |||(1 <<< e.on) |||(ms.getD e.on 0)else m) 0
def d9:List Nat->List Oper->List Nat
 |ms,[]=>ms
 |ms,o::r=>d9 (ms++[aji ms o]) r
def qz(n:Nat)(ms:List Nat)(m i:Nat):Bool:=(List.range n).any fun j=>!(Nat.blt j m)&&!((ms.getD j 0).testBit i)
def awv(l:List Oper)(m:Nat):List Bool:=(List.range m).map fun i=>qz (len l) (d9 [] l) m i
def ahs:List Bool->Bool
 |[]=>false
 |b::_=>b
def ahn:List Bool->List Bool
 |[]=>[]
 |_::r=>r
def hx(D:List Bool)(ks as:List Nat)(B:Tab)(Φ:FuncId->Option Ct)(M0:Mem):List Oper->Env->Mem->(Env->Mem->Prop)->Prop
 |[],env,X,K=>K env X
 |o::r,env,X,K=>
  (match o.guard,o.dst with
  |none,some d=>bif ahx (ap X M0) o.op env then (match evR B Φ o env (ap X M0)with
   |⟨vc,v,e,N⟩=>bif ba [klB e (fa (len e) N),ae9 (bz (fa (len e) N)) M0,ae9 (bz (fa (len e) N)) X,tg v,orb (neg (ahs D)) (orb (neg (sn o.op)) (orb (bxK B as o.op env) (nob (sw ks env (b8 o.op)) (ksV ks v))))]then ahy vc (hx (ahn D) ks as B Φ M0 r ((d,v)::env) (ap (fa (len e) N) X) K)else False)else False
  |_,_=>False)
def bot(o:Oper):Bool:=
 match o.op with
 |.call c=>(match c.callee with
  |.value _=>true
  |_=>false)
 |_=>false
def arj(o:Oper):Bool:=
 match o.op with
 |.call c=>(match c.callee with
  |.value _=>true
  |.builtin .append=>true
  |_=>false)
 |.buildSlice _ _ _=>true
 |.binOp _ _ _ _ _=>true
 |.unOp _ _ _=>true
 |.convert _ _ _=>true
 |_=>false
def ij(ks:List Nat):Ev->Bool
 |.kl k=>neg (inN k ks)
 |.fz k _=>neg (inN k ks)
 |.cut k _ _=>neg (inN k ks)
 |.mv j k=>nob (neg (inN j ks)) (neg (inN k ks))
 |.un j k=>nob (neg (inN j ks)) (neg (inN k ks))
 |.tk k _ _=>neg (inN k ks)
def c7(ks:List Nat):List Ev->Bool
 |[]=>true
 |e::r=>nob (ij ks e) (c7 ks r)
def abe(l:List Oper)(m:Nat):List Bool:=(List.range (Nat.sub (len l) m)).map fun j=>(List.range m).any fun i=>!(((d9 [] l).getD (Nat.add m j) 0).testBit i)
def anh:List Bool->List Oper->List Oper
 |b::bs,o::r=>bif nob b (sn o.op)then o::anh bs r else anh bs r
 |_,_=>[]
def aaz(l:List Oper)(m:Nat):List (List Oper):=(List.range (Nat.sub (len l) m)).map fun j=>anh ((List.range m).map fun i=>!(((d9 [] l).getD (Nat.add m j) 0).testBit i)) (fa m l)
def hdP:List (List Oper)->List Oper
 |[]=>[]
 |a::_=>a
def tlP:List (List Oper)->List (List Oper)
 |[]=>[]
 |_::r=>r
def amw:bg->bg->Bool
 |[],[]=>true
 |.l::a,.l::b=>amw a b
 |.r::a,.r::b=>amw a b
 |.de::a,.de::b=>amw a b
 |.ix i::a,.ix j::b=>nob (Nat.beq i j) (amw a b)
 |_,_=>false
def bib:V->V->Bool
 |.ref k π,.ref j ρ=>nob (Nat.beq k j) (amw π ρ)
 |.ad k π,.ad j ρ=>nob (Nat.beq k j) (amw π ρ)
 |_,_=>false
def stB(B:Tab)(Φ:FuncId->Option Ct)(ks:List Nat):List Oper->Env->Mem->Bool
 |[],_,_=>true
 |o::r,env,M=>(match o.dst,evR B Φ o env M with
  |some d,⟨[],v,[],_⟩=>nob (nob (ahx M o.op env) (nob (sw ks env (b8 o.op)) (ksV ks v))) (nob (bib v (gt env d)) (stB B Φ ks r env M))
  |_,_=>false)
def ayt(o:Oper):Bool:=
 match o.op with
 |.store _ _ _=>true
 |_=>false
def awr:List Oper->Bool
 |[]=>true
 |o::r=>nob (neg (sn o.op)) (awr r)
def aek(ks as:List Nat)(B:Tab)(Φ:FuncId->Option Ct):List (List Oper)->List Bool->List Oper->Env->Mem->Bool
 |_,_,[],_,_=>true
 |ls,fs,o::r,env,M=>(match evR B Φ o env M with
  |⟨_,v,e,M'⟩=>nob (nob (nob (aki as e) (orb (neg (ahs fs)) (orb (bh5 ks) (orb (neg (arj o)) (orb (c7 ks e) (stB B Φ ks (hdP ls) (wr o.dst v (pz env e)) M')))))) (orb (neg (ayt o)) (orb (bh5 ks) (orb (awr (hdP ls)) (orb (c7 ks e) (stB B Φ ks (hdP ls) (wr o.dst v (pz env e)) M')))))) (aek ks as B Φ (tlP ls) (ahn fs) r (wr o.dst v (pz env e)) M'))
def ace:List Oper->List Nat
 |[]=>[]
 |o::r=>(match o.op,o.dst with
  |.alloc _,some d=>d::ace r
  |_,_=>ace r)
def tgt(o:Oper):Option Nat:=
 match o.op with
 |.store _ (.tmp d) _=>some d
 |_=>none
def bd9:List Oper->List Nat
 |[]=>[]
 |o::r=>(match tgt o with
  |some d=>d::bd9 r
  |none=>bd9 r)
def ar8(env:Env):List Operand->List Nat
 |[]=>[]
 |x::r=>(match rd env x with
  |.ad k _=>k::ar8 env r
  |.ref k _=>k::ar8 env r
  |_=>ar8 env r)
def afz(env:Env):List Oper->List Nat
 |[]=>[]
 |o::r=>ap (ar8 env (b8 o.op)) (afz env r)
def klE:List Nat->Env->Env
 |[],env=>env
 |k::r,env=>klE r (evE (.kl k) env)
def klM:List Nat->Mem->Mem
 |[],M=>M
 |k::r,M=>klM r (del k M)
def clr:Env->Env
 |[]=>[]
 |(t,v)::r=>(match v with|.gd _ _ _ _=>(t,.any)::clr r|v=>(t,v)::clr r)
def bdk(Φ:FuncId->Option Ct)(f:FuncId)(ct:Ct):FuncId->Option Ct:=fun g=>bif Nat.beq g f then some ct else Φ g
structure Spl where
 b:Bool
 f:FuncId
 s:Sp
def argX(s:Sp)(vs:List V)(M:Mem):Option (d3 s.args):=
 match s.sh with
 |false=>ua M vs s.args
 |true=>(match l8 M vs with|(e,_)=>asL (pu e vs) s.args)
def anq(Φ:FuncId->Option Ct)(o:Oper)(env:Env)(M:Mem):Option Spl:=
 match o.op with
 |.call c=>(match c.callee with
  |.value cx=>(match aic (rd env cx).strip with
   |some (f,v)=>(match Φ f,pg M v with
    |some ct,some cs=>(match ct.mu with
     |some (.s s)=>(match argX s (ap (qc (fun x=>(rd env x).strip) (toL c.args)) cs) M with
      |some x=>some ⟨s.b x,f,s⟩
      |none=>none)
     |_=>none)
    |_,_=>none)
   |none=>none)
  |_=>none)
 |_=>none
def twS(B:Tab)(Φ:FuncId->Option Ct)(all:List Oper):List Oper->Env->Mem->(Env->Mem->Prop)->Prop
 |[],env,M,K=>K env M
 |o::rest,env,M,K=>bif nob (nogd env) (isN o.guard)then
  (match anq Φ o env M with
  |some q=>cnd q.b (twG B (bdk Φ q.f (o7 q.s true)) all [o] env M (fun env M=>twS B Φ all rest env M K)) (twG B (bdk Φ q.f (o7 q.s false)) all [o] env M (fun env M=>twS B Φ all rest env M K))
  |none=>twG B Φ all [o] env M (fun env M=>twS B Φ all rest env M K))else False
def twQ(_:Tab)(_:FuncId->Option Ct)(_:List Oper)(_:List Oper)(_:Env)(_:Mem)(_:Env->Mem->Prop):Prop:=False
def plc:List Nat->Nat->Nat
 |[],_=>0
 |k::r,i=>bif Nat.beq k i then 0 else Nat.succ (plc r i)
def bev{α β:Type}(f:α->β):List α->List β
 |[]=>[]
 |x::r=>f x::bev f r
def bhw(σ:List Nat)(e:Edge):Edge:={ e with on:=plc σ e.on }
def ajr(σ:List Nat)(o:Oper):Oper:={ o with after:=⟨bev (bhw σ) (toL o.after)⟩ }
def zk(σ:List Nat)(l:List Oper):List Nat->List Oper
 |[]=>[]
 |k::r=>(match mf l k with|some o=>ajr σ o::zk σ l r|none=>zk σ l r)
def bkn(f:List Nat):List Edge->Bool
 |[]=>false
 |e::r=>bif nob (Region.binds .any e) (inN e.on f)then true else bkn f r
def slow(R:Bool)(o:Oper):Bool:=orb (neg (m6 o)) (orb (nob R (bot o)) (match o.op with
 |.box _ _=>true
 |_=>false))
def atj(R:Bool):Nat->List Oper->List Nat->List Nat
 |_,[],f=>f
 |j,o::r,f=>bif orb (slow R o) (bkn f (toL o.after))then atj R (Nat.succ j) r (ap f [j])else atj R (Nat.succ j) r f
def bhz(f:List Nat):Nat->List Oper->List Nat
 |_,[]=>[]
 |j,_::r=>bif inN j f then bhz f (Nat.succ j) r else j::bhz f (Nat.succ j) r
def aqw(R:Bool)(l:List Oper):List Nat:=match atj R 0 l []with|f=>ap (bhz f 0 l) f
def gz(R:Bool)(l:List Oper):List Oper:=match aqw R l with|σ=>zk σ l σ
inductive Sh where
 |d (t:T)
 |ref (k:Nat) (π:bg)
 |ad (k:Nat) (π:bg)
 |fn (f:FuncId)
 |bx (s:Sh)
 |fc (f:FuncId) (s:Sh)
 |pr (a b:Sh)
 |u
@[reducible] def Sh.den:Sh->Type
 |.d t=>t.den
 |.bx s=>s.den
 |.fc _ s=>s.den
 |.pr a b=>a.den×b.den
 |_=>Unit
def oOf(k:Nat):List (Nat×O)->Option O
 |[]=>none
 |(j,o)::r=>bif Nat.beq j k then some o else oOf k r
def aw0(M:Mem)(os:List (Nat×O))(k:Nat)(π:bg):Bool:=
 match go M k,oOf k os with
 |some q,some o=>orb (yv π) (q.o.beq o)
 |_,_=>false
def bdc(M:Mem)(os:List (Nat×O))(k:Nat)(π:bg):Bool:=
 match go M k,oOf k os with
 |some q,some o=>orb (yg (qp π q.o) (qp π o)) (q.o.beq o)
 |_,_=>false
def Sh.read(M:Mem)(os:List (Nat×O)):(s:Sh)->V->Option s.den
 |.d t,v=>v.as t
 |.ref k π,.ref k' π'=>bif nob (aw0 M os k π) (nob (Nat.beq k k') (peq π π'))then some ()else none
 |.ad k π,.ad k' π'=>bif nob (bdc M os k π) (nob (Nat.beq k k') (peq π π'))then some ()else none
 |.fn f,.fn f' .u=>bif Nat.beq f f' then some ()else none
 |.bx s,.bx v=>s.read M os v
 |.fc f s,.fn f' v=>bif Nat.beq f f' then s.read M os v else none
 |.pr a b,.p v v'=>(match a.read M os v,b.read M os v' with|some x,some y=>some (x,y)|_,_=>none)
 |.u,.u=>some ()
 |_,_=>none
def Sh.put:(s:Sh)->s.den->V
 |.d t,x=>jp t x
 |.ref k π,_=>.ref k π
 |.ad k π,_=>.ad k π
 |.fn f,_=>.fn f .u
 |.bx s,x=>.bx (s.put x)
 |.fc f s,x=>.fn f (s.put x)
 |.pr a b,x=>.p (a.put x.1) (b.put x.2)
 |.u,_=>.u
abbrev Shs:=List (Nat×Sh)
abbrev Obs:=List (Nat×O)
@[reducible] def y4:Shs->Type
 |[]=>Unit
 |(_,s)::r=>s.den×y4 r
@[reducible] def q6:Obs->Type
 |[]=>Unit
 |(_,o)::r=>o.strip.den×q6 r
def an1(M:Mem)(os:Obs)(env:Env):(l:Shs)->Option (y4 l)
 |[]=>some ()
 |(t,s)::r=>(match s.read M os (gt env t),an1 M os env r with|some x,some y=>some (x,y)|_,_=>none)
def ajx:(l:Shs)->y4 l->Env
 |[],_=>[]
 |(t,s)::r,x=>(t,s.put x.1)::ajx r x.2
def wkO(q:Ob)(o:O):Option o.strip.den:=bif q.o.wk o then n5 o.strip q.x else none
def vm(M:Mem):(l:Obs)->Option (q6 l)
 |[]=>some ()
 |(k,o)::r=>(match go M k with
  |some q=>(match wkO q o,vm M r with|some x,some y=>some (x,y)|_,_=>none)
  |none=>none)
def kj:(l:Obs)->q6 l->Mem
 |[],_=>[]
 |(k,o)::r,x=>(k,⟨o,x.1⟩)::kj r x.2
def inO(k:Nat):Obs->Bool
 |[]=>false
 |(j,_)::r=>orb (Nat.beq j k) (inO k r)
def pb(os:Obs):List Nat->Mem->Env->Env×Mem
 |[],M,env=>(env,M)
 |k::r,M,env=>bif inO k os then pb os r M env else (match go M k with
  |some ob=>pb os r (del k M) (evE (.fz k ob) env)
  |none=>pb os r M env)
def qf(os:Obs):Shs->Env->Mem->Env×Mem
 |[],env,M=>(env,M)
 |(t,.ref k [])::r,env,M=>(match gt env t,oOf k os with
  |.nl,some (.sl o)=>qf os r ((t,.ref k [])::evE (.kl k) env) ((k,⟨.sl o,[]⟩)::del k M)
  |.ref j [],_=>bif orb (Nat.beq j k) (neg (Nat.ble (Nat.succ j) gid))then qf os r env M else (match go M j with
   |some ob=>qf os r (evE (.mv j k) (evE (.kl k) env)) ((k,ob)::del j (del k M))
   |none=>qf os r env M)
  |_,_=>qf os r env M)
 |_::r,env,M=>qf os r env M
def adc:Obs->Env->Mem->Env×Mem
 |[],env,M=>(env,M)
 |(k,.sl (.op e))::r,env,M=>(match go M k with
  |some ⟨.sl e',l⟩=>(match qk ⟨.sl e',l⟩ (.sl e)with
   |some l'=>adc r (evE (.cut k (.sl e') (.sl (.op e))) env) (put k ⟨.sl (.op e),zv l'⟩ M)
   |none=>adc r env M)
  |_=>adc r env M)
 |_::r,env,M=>adc r env M
def ahi(ss:Shs)(os:Obs)(env:Env)(M:Mem):Option ((y4 ss×q6 os)×Env):=
 match qf os ss env M with
 |(env0,M0)=>match adc os env0 M0 with
 |(env1,M1)=>(match pb os (bz M1) M1 env1 with
  |(env2,M2)=>(match an1 M2 os env2 ss,vm M2 os with
   |some x,some y=>some ((x,y),env2)
   |_,_=>none))
def afw(env:Env):List Nat->Env
 |[]=>[]
 |t::r=>bif cw (gt env t)then (t,gt env t)::afw env r else afw env r
def u7(k:Nat):List Nat->Bool
 |[]=>false
 |j::r=>orb (Nat.beq j k) (u7 k r)
def axh(ks:List Nat):List Oper->Bool
 |[]=>true
 |o::r=>(match o.dst with
  |some d=>bif u7 d ks then false else axh ks r
  |none=>axh ks r)
def noW(ks:List Nat):Code->Bool
 |.region _ ops _=>axh ks (toL ops)
 |.seq a b=>nob (noW ks a) (noW ks b)
 |.cond _ a b=>nob (noW ks a) (noW ks b)
 |.block _ c=>noW ks c
 |.loop c=>noW ks c
 |.scope c=>noW ks c
 |.label _=>true
 |.skip=>true
 |.ret=>true
 |.exit _=>true
 |.goto _=>true
 |_=>false
def T.oks:(t:T)->t.den->List Prop
 |.int k,n=>[inK k n]
 |.p a b,x=>ap (a.oks x.1) (b.oks x.2)
 |.sl e,l=>[(T.sl e).ok l]
 |.pt t,x=>t.oks x
 |.fn _ t,x=>t.oks x
 |.ifc _ t,x=>t.oks x
 |.mp k v,l=>[(T.mp k v).ok l]
 |.op t,x=>[(T.op t).ok x]
 |.ns t,x=>[(T.ns t).ok x]
 |.str,s=>[s.size<=nb]
 |.er _,_=>[]
 |.bool,_=>[]
 |.u,_=>[]
 |.any,_=>[]
def Sh.oks:(s:Sh)->s.den->List Prop
 |.d t,x=>t.oks x
 |.bx s,x=>s.oks x
 |.fc _ s,x=>s.oks x
 |.pr a b,x=>ap (a.oks x.1) (b.oks x.2)
 |.ref _ _,_=>[]
 |.ad _ _,_=>[]
 |.fn _,_=>[]
 |.u,_=>[]
def okS:(l:Shs)->y4 l->List Prop
 |[],_=>[]
 |(_,s)::r,x=>ap (s.oks x.1) (okS r x.2)
def okO:(l:Obs)->q6 l->List Prop
 |[],_=>[]
 |(_,o)::r,x=>ap (o.strip.oks x.1) (okO r x.2)
def ah5:List Prop->Prop->Prop
 |[],K=>K
 |p::r,K=>p->ah5 r K
def akz{S:Type}(body:S->(S->Prop)->Prop):Nat->S->Prop
 |0,_=>False
 |n+1,s=>body s (akz body n)
def bi{S:Type}(body:S->(S->Prop)->Prop)(s:S):Prop:=∃n,akz body n s
def jd{S:Type}(k:S->Prop)(f:(S->Prop)->Prop):Prop:=f k
inductive Ann where
 |n
 |s (a b:Ann)
 |l (ss:Shs) (os:Obs) (ks:List Nat) (a:Ann)
 |j (ss:Shs) (os:Obs) (ks:List Nat) (a:Ann)
def Ann.fst:Ann->Ann
 |.s a _=>a
 |a=>a
def Ann.snd:Ann->Ann
 |.s _ b=>b
 |a=>a
inductive Ex where
 |nm
 |ex (id:Nat)
 |rt
 |go (l:Nat)
def bdy(ss:Shs)(os:Obs)(env:Env)(M:Mem)(k:y4 ss×q6 os->Prop):Prop:=
 match ahi ss os env M with
 |some s=>k s.1
 |none=>False
def aya(next:Env->Mem->Prop)(K:Ex->Env->Mem->Prop):Ex->Env->Mem->Prop
 |.nm,env,M=>next env M
 |.ex id,env,M=>K (.ex id) env M
 |.rt,env,M=>K .rt env M
 |.go l,env,M=>K (.go l) env M
def afd(ss:Shs)(os:Obs)(k:y4 ss×q6 os->Prop)(K:Ex->Env->Mem->Prop):Ex->Env->Mem->Prop
 |.nm,env,M=>bdy ss os env M k
 |.ex id,env,M=>K (.ex id) env M
 |.rt,env,M=>K .rt env M
 |.go l,env,M=>K (.go l) env M
def ayq(id:Nat)(K:Ex->Env->Mem->Prop):Ex->Env->Mem->Prop
 |.nm,env,M=>K .nm env M
 |.ex id',env,M=>bif Nat.beq id' id then K .nm env M else K (.ex id') env M
 |.rt,env,M=>K .rt env M
 |.go l,env,M=>K (.go l) env M
def scpK(K:Ex->Env->Mem->Prop):Ex->Env->Mem->Prop
 |.nm,env,M=>K .nm env M
 |.ex id,env,M=>K (.ex id) env M
 |.rt,env,M=>K .rt env M
 |.go _,_,_=>False
def onK(ss:Shs)(os:Obs)(ks:List Nat)(env:Env)(K:Ex->Env->Mem->Prop)(s:y4 ss×q6 os):Prop:=ah5 (okS ss s.1) (ah5 (okO os s.2) (K .nm (ap (ajx ss s.1) (afw env ks)) (kj os s.2)))
def decN:Nat->Nat->List Nat
 |0,_=>[]
 |f+1,n=>bif Nat.beq n 0 then []else Nat.sub (Nat.mod n 10000000) 1::decN f (Nat.div n 10000000)
def decK(n:Nat):List Nat:=decN 20 (Nat.div n 10000)
def hrC(n:Nat):Bool:=neg (Nat.ble 5000 (Nat.mod n 10000))
def mC(n:Nat):Nat:=Nat.mod n 2500
def bij(n:Nat):Nat:=bif Nat.ble 5000 n then 5000 else bif Nat.ble 3000 n then 3000 else 2000
def bjt(n:Nat):Bool:=nob (Nat.ble 3000 n) (neg (Nat.ble 5000 n))
def fzL:List (Bool×O)->List (Bool×O)
 |[]=>[]
 |q::r=>(q.1,.fz q.2.strip)::fzL r
def fzX:(rt:List (Bool×O))->gx rt->gx (fzL rt)
 |[],_=>()
 |_::r,x=>(x.1,fzX r x.2)
def fzCt(ct:Ct):Ct:=⟨ct.args,ct.ga,ct.pre,fzL ct.rt,fun x=>fzX ct.rt (ct.res x),true,none⟩
def bd8(Φ:FuncId->Option Ct):FuncId->Option Ct:=fun f=>match Φ f with
 |some ct=>(match ct.mu with
  |none=>some (fzCt ct)
  |some _=>some ct)
 |none=>none
def ayk(env:Env):List Operand->List Nat
 |[]=>[]
 |x::r=>(match rd env x with
  |.ref k _=>k::ayk env r
  |_=>ayk env r)
def aqo(env:Env):List Oper->List Nat
 |[]=>[]
 |o::r=>ap (ayk env (b8 o.op)) (aqo env r)
def ako:Nat->List Oper->Nat
 |i,[]=>i
 |i,o::r=>(match o.op with
  |.alloc _=>i
  |_=>ako (Nat.succ i) r)
def zy:Nat->List Oper->Nat
 |i,[]=>i
 |i,o::r=>bif m6 o then zy (Nat.succ i) r else i
def bj2(i:Nat)(o:Oper):Oper:={ o with after:=⟨ap (toL o.after) [⟨i,.data⟩]⟩ }
def big:Nat->Nat->List Oper->List Oper
 |_,_,[]=>[]
 |0,i,o::r=>bj2 i o::r
 |Nat.succ j,i,o::r=>o::big j i r
def bd1:Nat->Nat->List Nat
 |_,0=>[]
 |a,Nat.succ k=>a::bd1 (Nat.succ a) k
def mvS(i j n:Nat):List Nat:=ap (bd1 0 i) (j::ap (bd1 i (Nat.sub j i)) (bd1 (Nat.succ j) (Nat.sub n (Nat.succ j))))
def bdf(l:List Oper):List Oper:=big (ako 0 l) (zy 0 l) l
def bd5(l:List Oper):List Oper:=zk (mvS (zy 0 l) (ako 0 l) (len l)) (big (zy 0 l) (ako 0 l) l) (mvS (zy 0 l) (ako 0 l) (len l))
def hxT(_:Tab)(_:FuncId->Option Ct)(_:List Oper)(_:Nat)(_:Env)(_:Mem)(_:Env->Mem->Prop):Prop:=False
def ev(B:Tab)(Φ:FuncId->Option Ct)(cut:Nat->Nat):Code->Ann->(Ex->Env->Mem->Prop)->Env->Mem->Prop
 |.skip,_,K,env,M=>K .nm env M
 |.ret,_,K,env,M=>K .rt env M
 |.exit id,_,K,env,M=>K (.ex id) env M
 |.goto l,_,K,env,M=>K (.go l) env M
 |.label _,_,K,env,M=>K .nm env M
 |.scope c,A,K,env,M=>ev B Φ cut c A (scpK K) env M
 |.seq x y,.j ss os ks A,K,env,M=>bif noW ks x then
   jd (onK ss os ks env (aya (fun env M=>ev B Φ cut y A.snd K env M) K)) (fun k=>ev B Φ cut x A.fst (afd ss os k (aya (fun env M=>ev B Φ cut y A.snd K env M) K)) env M)else False
 |.seq x y,A,K,env,M=>ev B Φ cut x A.fst (aya (fun env M=>ev B Φ cut y A.snd K env M) K) env M
 |.region id ops draw,_,K,env,M=>
  (match draw with
  |false=>bif Nat.beq (cut id) 1600 then (bif nogd env then twQ B Φ (toL ops) (toL ops) env M (fun env M=>K .nm (clr env) M)else False)else
   bif Nat.beq (cut id) 1500 then twS B Φ (toL ops) (toL ops) env M (fun env M=>K .nm (clr env) M)else
   bif nogd env then twG B Φ (toL ops) (toL ops) env M (fun env M=>K .nm (clr env) M)else False
  |true=>bif Nat.beq (cut id) 999999 then (match pb [] (afz env (toL ops)) M env with
    |(env1,M1)=>bx B Φ (toL ops) (klE (ace (toL ops)) env1) [] (fun env X=>K .nm (clr env) (ap X (klM (ace (toL ops)) M1))))else
   bif Nat.beq (cut id) 999998 then (hxT B Φ (bdf (toL ops)) (zy 0 (toL ops)) env M (fun env M=>K .nm (clr env) M)/\hxT B Φ (bd5 (toL ops)) (Nat.succ (zy 0 (toL ops))) env M (fun env M=>K .nm (clr env) M))else
   bif Nat.ble 10000 (cut id)then
    (match decK (cut id),hrC (cut id),mC (cut id)with
    |ks,hr,m=>bif wy env then hx (awv (gz hr (toL ops)) m) ks [] B Φ M (fa m (gz hr (toL ops))) env [] (fun env X=>bif nob (nogd env) (aek ks [] B Φ (aaz (gz hr (toL ops)) m) (abe (gz hr (toL ops)) m) (q9 m (gz hr (toL ops))) env (ap X M))then twG B Φ (gz hr (toL ops)) (q9 m (gz hr (toL ops))) env (ap X M) (fun env M=>K .nm (clr env) M)else False)else False)else
   bif Nat.ble 2000 (cut id)then
    (match (bif bjt (cut id)then pb [] (afz env (toL ops)) M env else (env,M)),Nat.sub (cut id) (bij (cut id)),(bif Nat.ble 5000 (cut id)then amo env (toL ops)else [])with
    |(env,M),m,as=>bif wy env then hx (awv (gz false (toL ops)) m) [] as B Φ M (fa m (gz false (toL ops))) env [] (fun env X=>bif nob (nogd env) (aek [] as B Φ (aaz (gz false (toL ops)) m) (abe (gz false (toL ops)) m) (q9 m (gz false (toL ops))) env (ap X M))then twG B Φ (gz false (toL ops)) (q9 m (gz false (toL ops))) env (ap X M) (fun env M=>K .nm (clr env) M)else False)else False)else
   bif Nat.ble 1000 (cut id)then
    (match pb [] (aqo env (toL ops)) M env with
    |(env,M)=>bif wy env then hx [] [] [] B (bd8 Φ) M (fa (Nat.sub (cut id) 1000) (toL ops)) env [] (fun env X=>bif nogd env then twG B (bd8 Φ) (toL ops) (q9 (Nat.sub (cut id) 1000) (toL ops)) env (ap X M) (fun env M=>K .nm (clr env) M)else False)else False)else
   bif Nat.ble 500 (cut id)then
    (bif wy env then hx [] [] [] B Φ M (fa (Nat.sub (cut id) 500) (toL ops)) env [] (fun env X=>bif nogd env then twG B Φ (toL ops) (q9 (Nat.sub (cut id) 500) (toL ops)) env (ap X M) (fun env M=>K .nm (clr env) M)else False)else False)else
   bif nogd env then dwG B Φ (toL ops) (q9 (cut id) (toL ops)) (fa (cut id) (toL ops)) env M (fun env=>twG B Φ (toL ops) (q9 (cut id) (toL ops)) env M (fun env M=>K .nm (clr env) M))else False)
 |.cond (.tmp t) x y,.j ss os ks A,K,env,M=>bif ba [(gt env t).isB,noW ks x,noW ks y]then
   jd (onK ss os ks env K) (fun k=>cnd (gt env t).boolV (ev B Φ cut x A.fst (afd ss os k K) env M) (ev B Φ cut y A.snd (afd ss os k K) env M))else False
 |.cond (.tmp t) x y,A,K,env,M=>bif (gt env t).isB then cnd (gt env t).boolV (ev B Φ cut x A.fst K env M) (ev B Φ cut y A.snd K env M)else False
 |.block id c,.j ss os ks A,K,env,M=>bif noW ks c then
   jd (onK ss os ks env K) (fun k=>ev B Φ cut c A (ayq id (afd ss os k K)) env M)else False
 |.block id c,A,K,env,M=>ev B Φ cut c A (ayq id K) env M
 |.loop c,.l ss os ks A,K,env,M=>bif noW ks c then (match ahi ss os env M with
  |some q=>bi (S:=y4 ss×q6 os) (fun s next=>ah5 (okS ss s.1) (ah5 (okO os s.2) (ev B Φ cut c A (afd ss os next K) (ap (ajx ss s.1) (afw q.2 ks)) (kj os s.2)))) q.1
  |none=>False)else False
 |_,_,_,_,_=>False
def aay:Nat->List V->Env
 |_,[]=>[]
 |i,v::r=>(i,v)::aay (Nat.succ i) r
def vq(B:Tab):List TypeId->(ts:List T)->d3 ts->List V
 |_,[],_=>[]
 |[],t::ts,x=>jp t x.1::vq B [] ts x.2
 |q::qs,t::ts,x=>zt (B.τ q).agg (jp t x.1)::vq B qs ts x.2
def agL(B:Tab)(fn:Func):List Bool:=ap ((toL fn.params).map (fun q=>(B.τ q).agg)) (aav false fn.nfree)
def okL:(ts:List T)->d3 ts->List Prop
 |[],_=>[]
 |t::ts,x=>ap (t.oks x.1) (okL ts x.2)
def beu(M:Mem)(o:O)(v:V):Option (o.strip.den×List Ev×Mem):=
 match o with
 |.fz t=>(match br M v with|(e,M')=>(match (v.evs e).as t with|some x=>some (x,e,M')|none=>none))
 |o=>(match conv gid o.strip v M with
  |some (q,e,M')=>(match wkO q o with|some x=>some (x,e,M')|none=>none)
  |none=>none)
def ax1(B:Tab)(env:Env)(M:Mem):ResultVar->Option V
 |.tmp t=>some (gt env t)
 |.cell t q=>(match wg (B.τ q) M (gt env t)with|([],v)=>some v|_=>none)
def kz:V->Bool
 |.any=>false
 |.tup _=>false
 |.gd _ _ _ _=>false
 |_=>true
def l6(g:Bool):V->V
 |.ag v=>bif g then v else .any
 |v=>bif g then .any else v
def amm(B:Tab)(env:Env)(M:Mem):List ResultVar->(rs:List (Bool×O))->Option (gx rs)
 |[],[]=>some ()
 |r::rs,q::qs=>(match ax1 B env M r with
  |some v=>bif kz (l6 q.1 v)then (match beu M q.2 (l6 q.1 v)with
   |some (x,e,M')=>(match amm B (pz env e) M' rs qs with
    |some y=>some (x,y)
    |none=>none)
   |none=>none)else none
  |none=>none)
 |_,_=>none
def bd4{rt:List (Bool×O)}(o:Option (gx rt))(K:gx rt->Prop):Prop:=
 match o with
 |some r=>K r
 |none=>False
def bjr(B:Tab)(rs:List ResultVar)(rt:List (Bool×O))(K:gx rt->Prop):Ex->Env->Mem->Prop
 |.ex _,_,_=>False
 |.go _,_,_=>False
 |.nm,env,M=>bd4 (amm B env M rs rt) K
 |.rt,env,M=>bd4 (amm B env M rs rt) K
def evF(B:Tab)(Φ:FuncId->Option Ct)(cut:Nat->Nat)(fn:Func)(c:Code)(A:Ann)(ct:Ct)(x:d3 ct.args)(K:gx ct.rt->Prop):Prop:=ev B Φ cut c A (bjr B (toL fn.results) ct.rt K) (aay 0 (vq B (toL fn.params) ct.args x)) []
def ac5:Option TypeDesc->Bool
 |some (.int _)=>true
 |_=>false
def aa4(P:Program):List Field->Nat->Bool
 |[],_=>true
 | f :: r, i => bif ba [neg (f.name == "_"), Nat.beq f.offset i, ac5 (P.underlying f.type)] then aa4 P r (Nat.succ i) else false
def at4(P:Program)(t:TypeId):Nat:=
 match P.underlying t with
 |some (.struct fs)=>bif ba [neg (P.stoodInHeld t),neg (P.eqGuardType P.depth t),aa4 P (toL fs) 0]then len (toL fs)else 0
 |some (.array n e)=>bif ba [neg (P.eqGuardType P.depth t),ac5 (P.underlying e),Nat.beq (P.cellsOf e) 1]then n else 0
 |_=>0
def ate:Option TypeDesc->Bool
 |some (.slice _)=>true
 |_=>false
def bi5(P:Program)(ms:Array Method):Option TypeDesc->Bool
 |some (.interface want)=>isN (Instr.missingMethod want ms)
 |_=>false
def isM(f:FuncId):Option Method->Bool
 |some m=>(match toL m.path,m.func with
  |[],some (g,b)=>nob (Nat.beq f g) (neg b)
  |_,_=>false)
 |none=>false
def bdp(P:Program)(e:Mth):Bool:=
 match P.info? e.t with
 |some inf=>ba [ate (P.underlying e.t),bi5 P inf.methods (P.underlying e.i),isM e.f (inf.methods.find? (·.name==e.name))]
 |none=>false
def amt(P:Program):List Mth->Bool
 |[]=>true
 |e::r=>nob (bdp P e) (amt P r)
structure TabOk (P:Program) (B:Tab):Prop where
 τ:∀t,(B.τ t).ok=true->ty P t=B.τ t
 z:∀t,B.z t=true->∃zs,tyZ P t=some zs/\fg (B.σ t) zs=true
 q:∀t,isZ (B.q t)=false->at4 P t=B.q t
 m:amt P B.m=true
def zOk(P:Program)(t:TypeId)(d:T):Bool:=match tyZ P t with|some zs=>fg d zs|none=>false
def tyL(P:Program):Nat->Nat->List Ty
 |0,_=>[]
 |n+1,i=>ty P i::tyL P n (Nat.succ i)
def zL(P:Program):Nat->List T->List Bool
 |_,[]=>[]
 |i,d::r=>zOk P i d::zL P (Nat.succ i) r
theorem axy(P:Program):∀(n i t:Nat) (x:Ty),mf (tyL P n i) t=some x->x=ty P (i+t)
 |0,_,_,_,h=>by simp[tyL,mf]at h
 |n+1,i,0,x,h=>by simp only[tyL,mf,a0d]at h;exact h.symm
 |n+1,i,t+1,x,h=>by simp only[tyL,mf]at h;have:=axy P n _ t x h;rw[this];exact congrArg (ty P) (Nat.succ_add i t)
def qL(P:Program):Nat->Nat->List Nat
 |0,_=>[]
 |n+1,i=>at4 P i::qL P n (Nat.succ i)
theorem bb1(P:Program):∀(n i t:Nat) (x:Nat),mf (qL P n i) t=some x->x=at4 P (i+t)
 |0,_,_,_,h=>by simp[qL,mf]at h
 |n+1,i,0,x,h=>by simp only[qL,mf,a0d]at h;exact h.symm
 |n+1,i,t+1,x,h=>by simp only[qL,mf]at h;have:=bb1 P n _ t x h;rw[this];exact congrArg (at4 P) (Nat.succ_add i t)
theorem bbq(P:Program):∀(l:List T) (i t:Nat) (d:T),mf l t=some d->mf (zL P i l) t=some (zOk P (i+t) d)
 |[],_,_,_,h=>by simp[mf]at h
 |e::r,i,0,d,h=>by simp only[mf,a0d]at h;subst h;simp[zL,mf]
 |e::r,i,t+1,d,h=>by simp only[mf]at h;simp only[zL,mf];rw[bbq P r _ t d h,show Nat.succ i+t=i+(t+1)from Nat.succ_add i t]
def alo(l:List Ty)(d:List T)(z:List Bool)(q:List Nat)(m:List Mth):Tab:=
 ⟨fun t=>match mf l t with|some x=>x|none=>bdj,fun t=>match mf d t with|some x=>x|none=>.any,
  fun t=>match mf d t with|some _=>(match mf z t with|some x=>x|none=>false)|none=>false,fun t=>match mf q t with|some x=>x|none=>0,m⟩
def bdl(l:List Ty)(d:List T)(z:List Bool)(q:List Nat):Tab:=alo l d z q []
theorem bfa{P:Program}(n:Nat)(l:List Ty)(d:List T)(z:List Bool)(q:List Nat)(m:List Mth)(h:tyL P n 0=l)(hz:zL P 0 d=z)(hq:qL P n 0=q)(hm:amt P m=true):TabOk P (alo l d z q m):=by
 constructor
 ·intro t ht;simp only[alo]at ht⊢;split at ht
  ·rename_i x hx;rw[←h]at hx;have:=axy P n 0 t x hx;rw[this,a1z]
  ·simp[bdj]at ht
 ·intro t ht;simp only[alo]at ht⊢;split at ht
  ·rename_i e he;have:=bbq P d 0 t e he;rw[hz,a1z]at this;rw[this]at ht;simp only[zOk]at ht;split at ht
   ·rename_i zs hzs;exact⟨zs,hzs,ht⟩
   ·cases ht
  ·cases ht
 ·intro t ht;simp only[alo]at ht⊢;split at ht
  ·rename_i x hx;rw[←hq]at hx;have:=bb1 P n 0 t x hx;rw[this,a1z]
  ·cases ht
 ·exact hm
theorem aw6{P:Program}(n:Nat)(l:List Ty)(d:List T)(z:List Bool)(q:List Nat)(h:tyL P n 0=l)(hz:zL P 0 d=z)(hq:qL P n 0=q):TabOk P (bdl l d z q):=bfa n l d z q [] h hz hq rfl
end Go.Bm
/- The du machine:what data and own trees have to do with memory. -/
namespace Go.Bm
open Go.RowKit
def jn:Value->Option Nat
 |.slice (some a) _ (_+1)=>some a.block
 |.pointer (some a)=>some a.block
 |_=>none
theorem art{a:Addr}{N K b:Nat}(h:jn (.slice (some a) N K)=some b):b=a.block:=by
 cases K with
 |zero=>cases h
 |succ k=>simp only[jn,a0d]at h;exact h.symm
def s9(w:World)(ety:TypeId)(sz:Nat)(v:Value)(n:Nat)(xs:List Value):Prop:=xs.length=n*sz/\((n=0/\∃oa,v=.slice oa 0 0)\/∃g off c cur,v=.slice (some ⟨g,off,none⟩) n (c+1)/\w.heap[g]? = some (.cells cur ety (0,0))/\n<=c+1/\c+1<=maxLen/\cur.size=off+(c+1)*sz/\(cur.toList.drop off).take (n*sz)=xs)
theorem asr{w:World}{ety:TypeId}{sz:Nat}{v:Value}{n:Nat}{xs:List Value}(h:w.ownsRow 0 ety sz v n xs):s9 w ety sz v n xs:=by
 refine⟨h.1,?_⟩;rcases h.2 with⟨hv,hn⟩|⟨g,cap,cur,hv,hb,hg,h1,h2,h3,h4⟩
 ·exact .inl ⟨hn,none,hv⟩
 ·cases cap with
  |zero=>exact .inl ⟨by omega,some ⟨g,0,none⟩,by rw[hv,show n=0 from by omega]⟩
  |succ c=>exact .inr ⟨g,0,c,cur,hv,hg,h1,h2,by rw[h3,a1z],by simpa using h4⟩
def nv(w:World)(b o:Nat)(us:List Value):Prop:=∀(j:Nat) (u:Value),us[j]? = some u->w.cell? ⟨b,o+j,none⟩=some u
def qr:(t:T)->t.den->List Value
 |.int k,n=>[.int k n]
 |.bool,b=>[.bool b]
 |.str,s=>[.string s]
 |.p a b,x=>qr a x.1++qr b x.2
 |_,_=>[]
def isP:T->Bool
 |.p _ _=>true
 |_=>false
def d4(t:T)(x:t.den):Value:=bif isP t then .agg (qr t x).toArray else (qr t x).headD undef
def aei(k v:T)(es:Array MapEntry)(l:List (k.den×v.den)):Prop:=es.toList.map (fun e=>(e.key,e.val))=l.map fun x=>(d4 k x.1,d4 v x.2)
def ah(Im:Nat->Prop)(w:World):(t:T)->t.den->List Value->Prop
 |.int k,n,vs=>vs=[.int k n]/\inK k n
 |.bool,b,vs=>vs=[.bool b]
 |.str,s,vs=>vs=[.string s]/\s.size<=nb
 |.u,_,vs=>vs=[]
 |.p a b,x,vs=>∃va vb,vs=va++vb/\ah Im w a x.1 va/\ah Im w b x.2 vb
 |.sl e,l,vs=>∃oa cap,vs=[.slice oa l.length cap]/\(l.length<=nb/\l.length<=cap)/\(oa=none->l.length=0/\cap=0)/\
   ∀a,oa=some a->0<l.length->a.spot=none/\Im a.block/\∀(i:Nat) (x:e.den),l[i]? = some x->∃us,nv w a.block (a.off+i*e.size) us/\ah Im w e x us
 |.pt t,x,vs=>∃b o us,vs=[.pointer (some ⟨b,o,none⟩)]/\Im b/\nv w b o us/\ah Im w t x us
 |.fn f t,x,vs=>∃us:List Value,vs=[.func (.func f) #[] us.toArray]/\ah Im w t x us
 |.ifc i t,x,vs=>∃u:Value,vs=[.iface i u]/\ah Im w t x [u]
 |.mp k v,l,vs=>∃r es n,vs=[.map (some r)]/\Im r/\w.heap[r]? = some (.map es n)/\(T.mp k v).ok l/\aei k v es l
 |.op t,x,vs=>vs.length=t.size/\(∀v∈vs,v.oneCell'=true)/\∀y,x=some y->ah Im w t y vs
 |.ns t,x,vs=>(x=none/\vs=[.slice none 0 0])\/∃y a n c,x=some y/\vs=[.slice a n c]/\ah Im w t y vs
 |.er i,x,vs=>(x=false/\vs=[.nilIface])\/∃s,x=true/\vs=[.iface i (.agg #[.string s])]
 |.any,_,vs=>∃v:Value,vs=[v]/\v.oneCell'=true
def O.size(o:O):Nat:=o.strip.size
def Rel(Im:Nat->Prop)(w:World):(o:O)->o.strip.den->(Nat->Prop)->List Value->Prop
 |.fz t,x,_,vs=>ah Im w t x vs
 |.p a b,x,S,vs=>∃va vb,∃S1 S2:Nat->Prop,vs=va++vb/\(∀c,S1 c->S c)/\(∀c,S2 c->S c)/\(∀c,S1 c->¬S2 c)/\Rel Im w a x.1 S1 va/\Rel Im w b x.2 S2 vb
 |.sl e,l,S,vs=>∃v ety xs,∃T:Nat->Nat->Prop,vs=[v]/\s9 w ety e.size v l.length xs/\l.length<=nb/\(∀c,jn v=some c->S c)/\(∀i c,T i c->S c/\jn v≠some c)/\
   (∀i j c,i≠j->T i c->¬T j c)/\∀(i:Nat) (x:e.strip.den),l[i]? = some x->Rel Im w e x (T i) ((xs.drop (i*e.size)).take e.size)
 |.mp k v,l,S,vs=>∃r es n,vs=[.map (some r)]/\S r/\w.heap[r]? = some (.map es n)/\(T.mp k v).ok l/\aei k v es l
 |.op e,x,S,vs=>vs.length=e.size/\(∀v∈vs,v.oneCell'=true)/\∀y,x=some y->Rel Im w e y S vs
 |.pt o,x,S,vs=>∃b us ty' S',vs=[.pointer (some ⟨b,0,none⟩)]/\S b/\w.heap[b]? = some (.cells (us:List Value).toArray ty' (0,0))/\(∀c,S' c->S c/\c≠b)/\Rel Im w o x S' us
def gl(Im Im':Nat->Prop)(w w':World):Prop:=∀b,Im b->Im' b/\w'.heap[b]? = w.heap[b]?
theorem gl.refl(Im:Nat->Prop)(w:World):gl Im Im w w:=fun _ h=>⟨h,rfl⟩
theorem gl.trans{I1 I2 I3:Nat->Prop}{a b c:World}(h:gl I1 I2 a b)(k:gl I2 I3 b c):gl I1 I3 a c:=fun x hx=>⟨(k x (h x hx).1).1,((k x (h x hx).1).2).trans (h x hx).2⟩
theorem nv.keep{w w':World}{b o:Nat}{us:List Value}(h:w'.heap[b]? = w.heap[b]?)(r:nv w b o us):nv w' b o us:=fun j u hu=>by rw[←r j u hu];simp[World.cell?,h]
theorem ah.keep{Im Im':Nat->Prop}{w w':World}(h:gl Im Im' w w'):(t:T)->(x:t.den)->(vs:List Value)->ah Im w t x vs->ah Im' w' t x vs
 |.int _,_,_,r=>by simpa only [ah]using r
 |.bool,_,_,r=>by simpa only [ah]using r
 |.str,_,_,r=>by simpa only [ah]using r
 |.u,_,_,r=>by simpa only [ah]using r
 |.any,_,_,r=>by simpa only [ah]using r
 |.p a b,x,vs,r=>by simp only[ah]at r⊢;obtain⟨va,vb,h1,h2,h3⟩:=r;exact⟨va,vb,h1,ah.keep h a _ _ h2,ah.keep h b _ _ h3⟩
 |.sl e,l,vs,r=>by simp only[ah]at r⊢;obtain⟨oa,cap,h1,h2,h3,h4⟩:=r;refine⟨oa,cap,h1,h2,h3,fun a ha hpos=>?_⟩;obtain⟨k1,k2,k3⟩:=h4 a ha hpos;refine⟨k1,(h _ k2).1,fun i x hx=>?_⟩;obtain⟨us,u1,u2⟩:=k3 i x hx;exact⟨us,u1.keep (h _ k2).2,ah.keep h e x us u2⟩
 |.pt t,x,vs,r=>by simp only[ah]at r⊢;obtain⟨b,o,us,h1,h2,h3,h4⟩:=r;exact⟨b,o,us,h1,(h _ h2).1,h3.keep (h _ h2).2,ah.keep h t x us h4⟩
 |.fn f t,x,vs,r=>by simp only[ah]at r⊢;obtain⟨us,h1,h2⟩:=r;exact⟨us,h1,ah.keep h t x us h2⟩
 |.ifc i t,x,vs,r=>by simp only[ah]at r⊢;obtain⟨u,h1,h2⟩:=r;exact⟨u,h1,ah.keep h t x _ h2⟩
 |.op t,x,vs,r=>by simp only[ah]at r⊢;exact⟨r.1,r.2.1,fun y hy=>ah.keep h t y vs (r.2.2 y hy)⟩
 |.ns t,x,vs,r=>by
  simp only[ah]at r⊢;rcases r with r|⟨y,a,n,c,h1,h2,h3⟩
  ·exact .inl r
  ·exact .inr ⟨y,a,n,c,h1,h2,ah.keep h t y vs h3⟩
 |.er _,_,_,r=>by simpa only [ah]using r
 |.mp k v,l,vs,r=>by simp only[ah]at r⊢;obtain⟨b,es,n,h1,h2,h3,h4⟩:=r;exact⟨b,es,n,h1,(h _ h2).1,by rw[(h _ h2).2];exact h3,h4⟩
theorem ah.len{Im:Nat->Prop}{w:World}:(t:T)->(x:t.den)->(vs:List Value)->ah Im w t x vs->vs.length=t.size
 |.int _,_,_,r=>by simp only[ah]at r;rw[r.1];rfl
 |.bool,_,_,r=>by simp only[ah]at r;rw[r];rfl
 |.str,_,_,r=>by simp only[ah]at r;rw[r.1];rfl
 |.u,_,_,r=>by simp only[ah]at r;rw[r];rfl
 |.any,_,_,r=>by simp only[ah]at r;obtain⟨v,h,_⟩:=r;rw[h];rfl
 |.p a b,x,vs,r=>by simp only[ah]at r;obtain⟨va,vb,h1,h2,h3⟩:=r;rw[h1,a0q,ah.len a _ _ h2,ah.len b _ _ h3];simp[T.size]
 |.sl e,l,vs,r=>by simp only[ah]at r;obtain⟨oa,cap,h,_⟩:=r;rw[h];rfl
 |.pt t,x,vs,r=>by simp only[ah]at r;obtain⟨b,o,us,h,_⟩:=r;rw[h];rfl
 |.fn f t,x,vs,r=>by simp only[ah]at r;obtain⟨us,h,_⟩:=r;rw[h];rfl
 |.ifc i t,x,vs,r=>by simp only[ah]at r;obtain⟨u,h,_⟩:=r;rw[h];rfl
 |.mp k v,l,vs,r=>by simp only[ah]at r;obtain⟨b,es,n,h,_⟩:=r;rw[h];rfl
 |.op t,x,vs,r=>by simp only[ah]at r;exact r.1
 |.ns t,x,vs,r=>by simp only[ah]at r;rcases r with⟨_,r⟩|⟨y,a,n,c,_,r,_⟩ <;> (rw[r];rfl)
 |.er i,x,vs,r=>by simp only[ah]at r;rcases r with⟨_,r⟩|⟨s,_,r⟩ <;> (rw[r];rfl)
theorem ah.ok{Im:Nat->Prop}{w:World}:(t:T)->(x:t.den)->(vs:List Value)->ah Im w t x vs->t.ok x
 |.int _,_,_,r=>by simp only[ah]at r;simp only[T.ok];exact r.2
 |.bool,_,_,r=>by simp only[T.ok]
 |.str,_,_,r=>by simp only[ah]at r;simp only[T.ok];exact r.2
 |.u,_,_,r=>by simp only[T.ok]
 |.any,_,_,r=>by simp only[T.ok]
 |.p a b,x,vs,r=>by simp only[ah]at r;obtain⟨va,vb,h1,h2,h3⟩:=r;simp only[T.ok];exact⟨ah.ok a _ _ h2,ah.ok b _ _ h3⟩
 |.sl e,l,vs,r=>by
  simp only[ah]at r;obtain⟨oa,cap,h1,h2,h3,h4⟩:=r;simp only[T.ok];refine⟨h2.1,fun y hy=>?_⟩;obtain⟨i,hi,rfl⟩:=a2e hy
  cases oa with
  |none=>have:=(h3 rfl).1;omega
  |some a=>obtain⟨us,_,u2⟩:=(h4 a rfl (by omega)).2.2 i l[i] (a0n hi);exact ah.ok e _ us u2
 |.pt t,x,vs,r=>by simp only[ah]at r;obtain⟨b,o,us,_,_,_,h⟩:=r;simp only[T.ok];exact ah.ok t x us h
 |.fn f t,x,vs,r=>by simp only[ah]at r;obtain⟨us,_,h⟩:=r;simp only[T.ok];exact ah.ok t x us h
 |.ifc i t,x,vs,r=>by simp only[ah]at r;obtain⟨u,_,h⟩:=r;simp only[T.ok];exact ah.ok t x _ h
 |.op t,x,vs,r=>by simp only[ah]at r;simp only[T.ok];exact fun y hy=>ah.ok t y vs (r.2.2 y hy)
 |.ns t,x,vs,r=>by
  simp only[ah]at r;simp only[T.ok];rcases r with⟨rfl,_⟩|⟨y,a,n,c,rfl,_,r⟩
  ·exact fun y hy=>by cases hy
  ·exact fun z hz=>by cases hz;exact ah.ok t y vs r
 |.er _,x,vs,r=>by simp only[T.ok]
 |.mp k v,l,vs,r=>by simp only[ah]at r;obtain⟨b,es,n,_,_,_,h4,_⟩:=r;exact h4
theorem ah.one{Im:Nat->Prop}{w:World}:(t:T)->(x:t.den)->(vs:List Value)->ah Im w t x vs->∀v∈vs,v.oneCell'=true
 |.int _,_,_,r=>by simp only[ah]at r;rw[r.1];intro v hv;rw[a0x.1 hv];rfl
 |.bool,_,_,r=>by simp only[ah]at r;rw[r];intro v hv;rw[a0x.1 hv];rfl
 |.str,_,_,r=>by simp only[ah]at r;rw[r.1];intro v hv;rw[a0x.1 hv];rfl
 |.u,_,_,r=>by simp only[ah]at r;rw[r];intro v hv;cases hv
 |.any,_,_,r=>by simp only[ah]at r;obtain⟨u,h,h1⟩:=r;rw[h];intro v hv;rw[a0x.1 hv];exact h1
 |.p a b,x,vs,r=>by
  simp only[ah]at r;obtain⟨va,vb,h1,h2,h3⟩:=r;rw[h1];intro v hv;rcases a1m.1 hv with hv|hv
  ·exact ah.one a _ _ h2 v hv
  ·exact ah.one b _ _ h3 v hv
 |.sl e,l,vs,r=>by simp only[ah]at r;obtain⟨oa,cap,h,_⟩:=r;rw[h];intro v hv;rw[a0x.1 hv];rfl
 |.pt t,x,vs,r=>by simp only[ah]at r;obtain⟨b,o,us,h,_⟩:=r;rw[h];intro v hv;rw[a0x.1 hv];rfl
 |.fn f t,x,vs,r=>by simp only[ah]at r;obtain⟨us,h,_⟩:=r;rw[h];intro v hv;rw[a0x.1 hv];rfl
 |.ifc i t,x,vs,r=>by simp only[ah]at r;obtain⟨u,h,_⟩:=r;rw[h];intro v hv;rw[a0x.1 hv];rfl
 |.mp k v,l,vs,r=>by simp only[ah]at r;obtain⟨b,es,n,h,_⟩:=r;rw[h];intro v hv;rw[a0x.1 hv];rfl
 |.op t,x,vs,r=>by simp only[ah]at r;exact r.2.1
 |.ns t,x,vs,r=>by simp only[ah]at r;rcases r with⟨_,r⟩|⟨y,a,n,c,_,r,_⟩ <;> (rw[r];intro v hv;rw[a0x.1 hv];rfl)
 |.er i,x,vs,r=>by simp only[ah]at r;rcases r with⟨_,r⟩|⟨s,_,r⟩ <;> (rw[r];intro v hv;rw[a0x.1 hv];rfl)
theorem amh{w w':World}{e:TypeId}{sz n:Nat}{v:Value}{xs:List Value}(hr:∀b,jn v=some b->w'.heap[b]? = w.heap[b]?)(hown:s9 w e sz v n xs):s9 w' e sz v n xs:=by
 refine⟨hown.1,?_⟩;rcases hown.2 with hnil|⟨g,off,cap,cur,hv,hg,rest⟩
 ·exact .inl hnil
 ·exact .inr ⟨g,off,cap,cur,hv,by rw[hr g (by rw[hv];rfl)];exact hg,rest⟩
theorem Rel.keep{Im Im':Nat->Prop}{w w':World}(h:gl Im Im' w w'):(o:O)->(x:o.strip.den)->(S:Nat->Prop)->(vs:List Value)->(∀b,S b->w'.heap[b]? = w.heap[b]?)->Rel Im w o x S vs->Rel Im' w' o x S vs
 |.fz t,x,S,vs,_,r=>by simp only[Rel]at r⊢;exact ah.keep h t x vs r
 |.p a b,x,S,vs,hS,r=>by simp only[Rel]at r⊢;obtain⟨va,vb,S1,S2,h1,h2,h3,h4,h5,h6⟩:=r;exact⟨va,vb,S1,S2,h1,h2,h3,h4,Rel.keep h a _ S1 _ (fun c hc=>hS c (h2 c hc)) h5,Rel.keep h b _ S2 _ (fun c hc=>hS c (h3 c hc)) h6⟩
 |.sl e,l,S,vs,hS,r=>by simp only[Rel]at r⊢;obtain⟨v,ety,xs,T,h1,h2,h3,h4,h5,h6,h7⟩:=r;exact⟨v,ety,xs,T,h1,amh (fun c hc=>hS c (h4 c hc)) h2,h3,h4,h5,h6,fun i x hx=>Rel.keep h e x (T i) _ (fun c hc=>hS c (h5 i c hc).1) (h7 i x hx)⟩
 |.pt o,x,S,vs,hS,r=>by simp only[Rel]at r⊢;obtain⟨b,us,ty',S',h1,h2,h3,h4,h5⟩:=r;exact⟨b,us,ty',S',h1,h2,by rw[hS b h2];exact h3,h4,Rel.keep h o x S' us (fun c hc=>hS c (h4 c hc).1) h5⟩
 |.op e,x,S,vs,hS,r=>by simp only[Rel]at r⊢;exact⟨r.1,r.2.1,fun y hy=>Rel.keep h e y S vs hS (r.2.2 y hy)⟩
 |.mp k v,l,S,vs,hS,r=>by simp only[Rel]at r⊢;obtain⟨b,es,n,h1,h2,h3,h4⟩:=r;exact⟨b,es,n,h1,h2,by rw[hS b h2];exact h3,h4⟩
theorem Rel.wide{Im:Nat->Prop}{w:World}:(o:O)->(x:o.strip.den)->(S S':Nat->Prop)->(vs:List Value)->(∀b,S b->S' b)->Rel Im w o x S vs->Rel Im w o x S' vs
 |.fz t,x,S,S',vs,_,r=>by simpa only [Rel]using r
 |.p a b,x,S,S',vs,hS,r=>by simp only[Rel]at r⊢;obtain⟨va,vb,S1,S2,h1,h2,h3,h4,h5,h6⟩:=r;exact⟨va,vb,S1,S2,h1,fun c hc=>hS c (h2 c hc),fun c hc=>hS c (h3 c hc),h4,h5,h6⟩
 |.sl e,l,S,S',vs,hS,r=>by simp only[Rel]at r⊢;obtain⟨v,ety,xs,T,h1,h2,h3,h4,h5,h6,h7⟩:=r;exact⟨v,ety,xs,T,h1,h2,h3,fun c hc=>hS c (h4 c hc),fun i c hc=>⟨hS c (h5 i c hc).1,(h5 i c hc).2⟩,h6,h7⟩
 |.pt o,x,S,S',vs,hS,r=>by simp only[Rel]at r⊢;obtain⟨b,us,ty',S0,h1,h2,h3,h4,h5⟩:=r;exact⟨b,us,ty',S0,h1,hS b h2,h3,fun c hc=>⟨hS c (h4 c hc).1,(h4 c hc).2⟩,h5⟩
 |.op e,x,S,S',vs,hS,r=>by simp only[Rel]at r⊢;exact⟨r.1,r.2.1,fun y hy=>Rel.wide e y S S' vs hS (r.2.2 y hy)⟩
 |.mp k v,l,S,S',vs,hS,r=>by simp only[Rel]at r⊢;obtain⟨b,es,n,h1,h2,h3⟩:=r;exact⟨b,es,n,h1,hS b h2,h3⟩
theorem Rel.len{Im:Nat->Prop}{w:World}:(o:O)->(x:o.strip.den)->(S:Nat->Prop)->(vs:List Value)->Rel Im w o x S vs->vs.length=o.size
 |.fz t,x,S,vs,r=>by simp only[Rel]at r;exact ah.len t x vs r
 |.p a b,x,S,vs,r=>by simp only[Rel]at r;obtain⟨va,vb,S1,S2,h1,h2,h3,h4,h5,h6⟩:=r;rw[h1,a0q,Rel.len a _ _ _ h5,Rel.len b _ _ _ h6];simp[O.size,T.size]
 |.sl e,l,S,vs,r=>by simp only[Rel]at r;obtain⟨v,ety,xs,T,h,_⟩:=r;rw[h];rfl
 |.pt o,x,S,vs,r=>by simp only[Rel]at r;obtain⟨b,us,ty',S',h,_⟩:=r;rw[h];rfl
 |.mp k v,l,S,vs,r=>by simp only[Rel]at r;obtain⟨b,es,n,h,_⟩:=r;rw[h];rfl
 |.op e,x,S,vs,r=>by simp only[Rel]at r;exact r.1
theorem aoi{w:World}{e:TypeId}{sz n:Nat}{v:Value}{xs:List Value}(h:s9 w e sz v n xs):v.oneCell'=true:=by rcases h.2 with⟨_,oa,h⟩|⟨g,off,cap,cur,h,_⟩ <;> rw[h] <;> rfl
theorem Rel.one{Im:Nat->Prop}{w:World}:(o:O)->(x:o.strip.den)->(S:Nat->Prop)->(vs:List Value)->Rel Im w o x S vs->∀v∈vs,v.oneCell'=true
 |.fz t,x,S,vs,r=>by simp only[Rel]at r;exact ah.one t x vs r
 |.p a b,x,S,vs,r=>by
  simp only[Rel]at r;obtain⟨va,vb,S1,S2,h1,h2,h3,h4,h5,h6⟩:=r;rw[h1];intro v hv;rcases a1m.1 hv with hv|hv
  ·exact Rel.one a _ _ _ h5 v hv
  ·exact Rel.one b _ _ _ h6 v hv
 |.sl e,l,S,vs,r=>by simp only[Rel]at r;obtain⟨v,ety,xs,T,h,h2,_⟩:=r;rw[h];intro u hu;rw[a0x.1 hu];exact aoi h2
 |.pt o,x,S,vs,r=>by simp only[Rel]at r;obtain⟨b,us,ty',S',h,_⟩:=r;rw[h];intro u hu;rw[a0x.1 hu];rfl
 |.mp k v,l,S,vs,r=>by simp only[Rel]at r;obtain⟨b,es,n,h,_⟩:=r;rw[h];intro u hu;rw[a0x.1 hu];rfl
 |.op e,x,S,vs,r=>by simp only[Rel]at r;exact r.2.1
theorem xk{w:World}{e:TypeId}{sz n:Nat}{v:Value}{xs:List Value}(h:s9 w e sz v n xs) :
  (n=0/\∃oa,v=.slice oa 0 0)\/∃g off c cur,v=.slice (some ⟨g,off,none⟩) n (c+1)/\w.heap[g]? = some (.cells cur e (0,0))/\n<=c+1/\c+1<=maxLen/\cur.size=off+(c+1)*sz/\(cur.toList.drop off).take (n*sz)=xs:=h.2
theorem ajc{cur:Array Value}{xs:List Value}{n i sz j off:Nat}{u:Value}(hx:(cur.toList.drop off).take (n*sz)=xs)(h:((xs.drop (i*sz)).take sz)[j]? = some u):cur[off+i*sz+j]? = some u:=by
 rw[a08]at h;split at h
 ·rw[a09,←hx,a08]at h;split at h
  ·rw[a09]at h;rw[a3d];simpa using h
  ·cases h
 ·cases h
theorem Rel.frz{Im Im':Nat->Prop}{w:World}(hI:∀b,Im b->Im' b):(o:O)->(x:o.strip.den)->(S:Nat->Prop)->(vs:List Value)->(∀b,S b->Im' b)->Rel Im w o x S vs->ah Im' w o.strip x vs
 |.fz t,x,S,vs,_,r=>by simp only[Rel]at r;exact ah.keep (fun b hb=>⟨hI b hb,rfl⟩) t x vs r
 |.p a b,x,S,vs,hS,r=>by simp only[Rel]at r;obtain⟨va,vb,S1,S2,h1,h2,h3,h4,h5,h6⟩:=r;simp only[ah];exact⟨va,vb,h1,Rel.frz hI a _ S1 _ (fun c hc=>hS c (h2 c hc)) h5,Rel.frz hI b _ S2 _ (fun c hc=>hS c (h3 c hc)) h6⟩
 |.sl e,l,S,vs,hS,r=>by
  simp only[Rel]at r;obtain⟨v,ety,xs,T,h1,h2,h3,h4,h5,h6,h7⟩:=r;simp only[ah];rcases xk h2 with⟨hn,hv⟩|⟨g,off,cap,cur,hv,hg,hc1,hc2,hc3,hc4⟩
  ·obtain⟨oa,hv⟩:=hv;exact⟨oa,0,by rw[h1,hv,hn],⟨h3,by omega⟩,fun _=>⟨hn,rfl⟩,fun a ha hpos=>by omega⟩
  ·refine⟨some ⟨g,off,none⟩,cap+1,by rw[h1,hv],⟨h3,hc1⟩,fun h=>by (cases h),fun a ha hpos=>?_⟩;cases ha;refine⟨rfl,hS g (h4 g (by rw[hv];rfl)),fun i x hx=>⟨_,?_,Rel.frz hI e x (T i) _ (fun c hc=>hS c (h5 i c hc).1) (h7 i x hx)⟩⟩;intro j u hu;rw[a15 w g _ cur ety (0,0) hg];have:=ajc hc4 hu;simpa[O.size]using this
 |.pt o,x,S,vs,hS,r=>by simp only[Rel]at r;obtain⟨b,us,ty',S',h1,h2,h3,h4,h5⟩:=r;simp only[ah];refine⟨b,0,us,h1,hS b h2,fun j u hu=>?_,Rel.frz hI o x S' us (fun c hc=>hS c (h4 c hc).1) h5⟩;rw[a15 w b _ _ ty' (0,0) h3];simpa using hu
 |.op e,x,S,vs,hS,r=>by simp only[Rel]at r;simp only[ah];exact⟨r.1,r.2.1,fun y hy=>Rel.frz hI e y S vs hS (r.2.2 y hy)⟩
 |.mp k v,l,S,vs,hS,r=>by simp only[Rel]at r;obtain⟨b,es,n,h1,h2,h3,h4⟩:=r;simp only[ah];exact⟨b,es,n,h1,hS b h2,h3,h4⟩
end Go.Bm
/- The du machine:a part of an own tree,looked at and replaced. -/
namespace Go.Bm
open Go.RowKit
theorem Rel.ok{Im:Nat->Prop}{w:World}{o:O}{x:o.strip.den}{S:Nat->Prop}{vs:List Value}(r:Rel Im w o x S vs):o.strip.ok x:=ah.ok _ _ _ (Rel.frz (Im':=fun _=>True) (fun _ _=>trivial) o x S vs (fun _ _=>trivial) r)
def gok:bg->(o:O)->o.strip.den->Prop
 |[],_,_=>True
 |.l::π,.p a _,x=>gok π a x.1
 |.r::π,.p _ b,x=>gok π b x.2
 |.l::π,.fz (.p a _),x=>gok π (.fz a) x.1
 |.r::π,.fz (.p _ b),x=>gok π (.fz b) x.2
 |.ix i::π,.sl e,x=>i<x.length/\gok π e (x.getD i e.dflt)
 |.de::π,.pt t,x=>gok π t x
 |_,_,_=>False
def cellsOf(w:World)(b o n:Nat):List Value:=(List.range n).map fun j=>(w.cell? ⟨b,o+j,none⟩).getD undef
abbrev Pl:=Option (Nat×Nat)
def Pl.plus(p:Pl)(n:Nat):Pl:=p.map fun q=>(q.1,q.2+n)
def res(w:World):bg->O->List Value->Pl->Option (List Value×Pl)
 |[],_,vs,ad=>some (vs,ad)
 |.l::π,.p a _,vs,ad=>res w π a (vs.take a.size) ad
 |.r::π,.p a b,vs,ad=>res w π b (vs.drop a.size) (ad.plus a.size)
 |.l::π,.fz (.p a _),vs,ad=>res w π (.fz a) (vs.take a.size) ad
 |.r::π,.fz (.p a b),vs,ad=>res w π (.fz b) (vs.drop a.size) (ad.plus a.size)
 |.ix i::π,.sl e,vs,_=>(match vs with
  |[.slice (some a) _ _]=>res w π e (cellsOf w a.block (a.off+i*e.size) e.size) (some (a.block,a.off+i*e.size))
  |_=>none)
 |.de::π,.pt t,vs,_=>(match vs with
  |[.pointer (some a)]=>res w π t (cellsOf w a.block a.off t.size) (some (a.block,a.off))
  |_=>none)
 |_,_,_,_=>none
def cm:bg->Bool
 |[]=>false
 |.l::π=>cm π
 |.r::π=>cm π
 |.ix _::_=>true
 |.de::_=>true
def dz(l:List Value)(n:Nat)(us:List Value):List Value:=l.take n++us++l.drop (n+us.length)
def dl:bg->O->List Value->List Value->List Value
 |[],_,_,us=>us
 |.l::π,.p a _,vs,us=>dl π a (vs.take a.size) us++vs.drop a.size
 |.r::π,.p a b,vs,us=>vs.take a.size++dl π b (vs.drop a.size) us
 |.l::π,.fz (.p a _),vs,us=>dl π (.fz a) (vs.take a.size) us++vs.drop a.size
 |.r::π,.fz (.p a b),vs,us=>vs.take a.size++dl π (.fz b) (vs.drop a.size) us
 |_,_,vs,_=>vs
theorem anx{Im:Nat->Prop}{w:World}{a b:Ob}{S1 S2 S:Nat->Prop}{va vb:List Value}(h1:∀c,S1 c->S c)(h2:∀c,S2 c->S c)(h3:∀c,S1 c->¬S2 c)
  (ha:Rel Im w a.o a.x S1 va) (hb:Rel Im w b.o b.x S2 vb):Rel Im w (mkP a b).o (mkP a b).x S (va++vb):=by
 obtain⟨oa,xa⟩:=a;obtain⟨ob,xb⟩:=b;have key:Rel Im w (.p oa ob) (xa,xb) S (va++vb):=by simp only[Rel];exact⟨va,vb,S1,S2,rfl,h1,h2,h3,ha,hb⟩
 cases oa <;> cases ob <;> first|exact key|skip
 simp only[mkP,Rel,ah]at ha hb⊢;exact⟨va,vb,rfl,ha,hb⟩
theorem azn(a b:Ob):(mkP a b).o.size=a.o.size+b.o.size:=by obtain⟨oa,xa⟩:=a;obtain⟨ob,xb⟩:=b;cases oa <;> cases ob <;> simp[mkP,O.size,T.size]
theorem xp{va vb:List Value}{n:Nat}(h:va.length=n):(va++vb).take n=va:=by rw[←h];exact a4b
theorem xf{va vb:List Value}{n:Nat}(h:va.length=n):(va++vb).drop n=vb:=by rw[←h];exact List.drop_left
theorem vg{w:World}{b o n:Nat}{us:List Value}(hl:us.length=n)(h:nv w b o us):cellsOf w b o n=us:=by
 unfold cellsOf;apply a16;intro j;rw[a05];by_cases hj:j<n
 ·rw[a2b hj,a0n (by omega)];simp only[a0z];rw[h j us[j] (a0n (by omega))];rfl
 ·rw[a1o (by simpa using hj),a1o (by omega)];rfl
theorem bbb{xs row':List Value}{n sz i i':Nat}(hx:xs.length=n*sz)(hi:i<n)(hr:row'.length=sz) :
  ((dz xs (i*sz) row').drop (i'*sz)).take sz=if i'=i then row' else (xs.drop (i'*sz)).take sz:=by
 have hle:i*sz+sz<=n*sz:=by have:=a1t sz (show i+1<=n from hi);rw[a1r]at this;omega
 have hs:(dz xs (i*sz) row').length=n*sz:=by simp[dz,hr];omega
 have hget:∀j,(dz xs (i*sz) row')[j]? = if j<i*sz then xs[j]? else if j<i*sz+sz then row'[j-i*sz]? else xs[j]?:=by
  intro j;unfold dz;by_cases h1:j<i*sz
  ·rw[d0 h1,a06,a1e (by simp;omega),a08,d0 h1]
  ·rw[ds h1];by_cases h2:j<i*sz+sz
   ·rw[d0 h2,a1e (by simp;omega),a1u (by simp;omega)];congr 1;simp;omega
   ·rw[ds h2,a1u (by simp;omega),a09];congr 1;simp;omega
 by_cases e:i'=i
 ·subst e;rw[d0 rfl];apply a16;intro j;rw[a08,a09,hget];by_cases hj:j<sz
  ·rw[d0 hj,ds (by omega),d0 (by omega)];congr 1;omega
  ·rw[ds hj,a1o (by omega)]
 ·rw[ds e];apply a16;intro j;rw[a08,a08,a09,a09,hget];by_cases hj:j<sz
  ·simp only[d0 hj];rcases Nat.lt_or_gt_of_ne e with hlt|hlt
   ·have:=a1t sz (show i'+1<=i from hlt);rw[a1r]at this;rw[d0 (by omega)]
   ·have:=a1t sz (show i+1<=i' from hlt);rw[a1r]at this;rw[ds (by omega),ds (by omega)]
  ·simp only[ds hj]
theorem nw:∀(π:bg) (o:O) (vs us:List Value),cm π=true->dl π o vs us=vs
 |[],_,_,_,h=>by simp[cm]at h
 |.l::π,.p a b,vs,us,h=>by simp only[dl];rw[nw π a _ us (by simpa[cm]using h),a10]
 |.r::π,.p a b,vs,us,h=>by simp only[dl];rw[nw π b _ us (by simpa[cm]using h),a10]
 |.l::π,.fz (.p a b),vs,us,h=>by simp only[dl];rw[nw π (.fz a) _ us (by simpa[cm]using h),a10]
 |.r::π,.fz (.p a b),vs,us,h=>by simp only[dl];rw[nw π (.fz b) _ us (by simpa[cm]using h),a10]
 |.l::π,.sl e,vs,us,h=>by simp only[dl]
 |.r::π,.sl e,vs,us,h=>by simp only[dl]
 |.l::π,.pt e,vs,us,h=>by simp only[dl]
 |.l::π,.mp _ _,vs,us,h=>by simp only[dl]
 |.l::π,.op _,vs,us,h=>by simp only[dl]
 |.r::π,.pt e,vs,us,h=>by simp only[dl]
 |.r::π,.mp _ _,vs,us,h=>by simp only[dl]
 |.r::π,.op _,vs,us,h=>by simp only[dl]
 |.l::π,.fz (.int _),vs,us,h=>by simp only[dl]
 |.l::π,.fz .bool,vs,us,h=>by simp only[dl]
 |.l::π,.fz .str,vs,us,h=>by simp only[dl]
 |.l::π,.fz .u,vs,us,h=>by simp only[dl]
 |.l::π,.fz (.sl _),vs,us,h=>by simp only[dl]
 |.l::π,.fz (.pt _),vs,us,h=>by simp only[dl]
 |.l::π,.fz (.fn _ _),vs,us,h=>by simp only[dl]
 |.l::π,.fz (.ifc _ _),vs,us,h=>by simp only[dl]
 |.l::π,.fz (.mp _ _),vs,us,h=>by simp only[dl]
 |.l::π,.fz (.op _),vs,us,h=>by simp only[dl]
 |.l::π,.fz (.ns _),vs,us,h=>by simp only[dl]
 |.l::π,.fz (.er _),vs,us,h=>by simp only[dl]
 |.l::π,.fz .any,vs,us,h=>by simp only[dl]
 |.r::π,.fz (.int _),vs,us,h=>by simp only[dl]
 |.r::π,.fz .bool,vs,us,h=>by simp only[dl]
 |.r::π,.fz .str,vs,us,h=>by simp only[dl]
 |.r::π,.fz .u,vs,us,h=>by simp only[dl]
 |.r::π,.fz (.sl _),vs,us,h=>by simp only[dl]
 |.r::π,.fz (.pt _),vs,us,h=>by simp only[dl]
 |.r::π,.fz (.fn _ _),vs,us,h=>by simp only[dl]
 |.r::π,.fz (.ifc _ _),vs,us,h=>by simp only[dl]
 |.r::π,.fz (.mp _ _),vs,us,h=>by simp only[dl]
 |.r::π,.fz (.op _),vs,us,h=>by simp only[dl]
 |.r::π,.fz (.ns _),vs,us,h=>by simp only[dl]
 |.r::π,.fz (.er _),vs,us,h=>by simp only[dl]
 |.r::π,.fz .any,vs,us,h=>by simp only[dl]
 |.ix _::_,_,vs,us,h=>by simp only[dl]
 |.de::_,_,vs,us,h=>by simp only[dl]
def At(w:World)(S:Nat->Prop)(vs:List Value)(ad:Pl):Prop:=∀b off,ad=some (b,off)->¬S b/\∃cur ty',w.heap[b]? = some (.cells cur ty' (0,0))/\∀(j:Nat) (u:Value),vs[j]? = some u->cur[off+j]? = some u
def Wand(Im:Nat->Prop)(w:World)(π:bg)(o:O)(x:o.strip.den)(S S':Nat->Prop)(q:Ob)(vs:List Value)(pl:Pl):Prop:=
 ∀(Im':Nat->Prop) (w':World) (n:Ob) (S'':Nat->Prop) (us':List Value) (ob':Ob),set π o x n=some ob'->n.o.size=q.o.size->Rel Im' w' n.o n.x S'' us'->gl Im Im' w w'->(∀c,S'' c->S c->S' c)->
  (cm π=true->∀b off,pl=some (b,off)->∀cur ty',w.heap[b]? = some (.cells cur ty' (0,0))->w'.heap[b]? = some (.cells (dz cur.toList off us').toArray ty' (0,0)))->
  (∀c,S c->¬S' c->(∀b off,pl=some (b,off)->cm π=true->c≠b)->w'.heap[c]? = w.heap[c]?)->
  ob'.o.size=o.size/\Rel Im' w' ob'.o ob'.x (fun c=>(S c/\¬S' c)\/S'' c) (dl π o vs us')
def Foc(Im:Nat->Prop)(w:World)(π:bg)(o:O)(x:o.strip.den)(S:Nat->Prop)(vs:List Value)(ad:Pl)(q:Ob):Prop:=
 ∃us pl,∃S':Nat->Prop,res w π o vs ad=some (us,pl)/\(∀c,S' c->S c)/\Rel Im w q.o q.x S' us/\
  (cm π=true->∃b off cur ty',pl=some (b,off)/\S b/\¬S' b/\w.heap[b]? = some (.cells cur ty' (0,0))/\∀(j:Nat) (u:Value),us[j]? = some u->cur[off+j]? = some u)/\
  (cm π=false->∃n,gk π o=some n/\pl=ad.plus n/\us=(vs.drop n).take us.length/\n+us.length<=vs.length/\∀us':List Value,us'.length=us.length->dl π o vs us'=dz vs n us')/\
  Wand Im w π o x S S' q vs pl
theorem axi{va vb us:List Value}{n:Nat}(h:n+us.length<=va.length):dz va n us++vb=dz (va++vb) n us:=by unfold dz;rw[a4u (by omega),a3o (by omega)];simp
theorem ayx{va vb us:List Value}{n:Nat}:va++dz vb n us=dz (va++vb) (va.length+n) us:=by unfold dz;rw[List.take_append,List.drop_append];have h1:va.take (va.length+n)=va:=a23 (by omega);have h2:va.drop (va.length+n+us.length)=[]:=a4c (by omega);rw[h1,h2,show va.length+n-va.length=n by omega,show va.length+n+us.length-va.length=n+us.length by omega];simp
theorem Foc.left{Im:Nat->Prop}{w:World}{π:bg}{a:O}{xa:a.strip.den}{b:Ob}{S S1 S2:Nat->Prop}{va vb:List Value}{ad:Pl}{q:Ob}{o:O}{x:o.strip.den}
  (hres:res w (.l::π) o (va++vb) ad=res w π a va ad) (hset:∀n,set (.l::π) o x n=(set π a xa n).map fun q=>mkP q b) (hsz:o.size=a.size+b.o.size)
  (hoff:gk (.l::π) o=gk π a) (hout:∀us,dl (.l::π) o (va++vb) us=dl π a va us++vb)
  (h1:∀c,S1 c->S c) (h2:∀c,S2 c->S c) (h3:∀c,S1 c->¬S2 c) (hb:Rel Im w b.o b.x S2 vb) (h:Foc Im w π a xa S1 va ad q):Foc Im w (.l::π) o x S (va++vb) ad q:=by
 obtain⟨us,pl,S',e1,e2,e3,e4,e5,e6⟩:=h;refine⟨us,pl,S',by rw[hres,e1],fun c hc=>h1 c (e2 c hc),e3,fun hh=>?_,fun hh=>?_,?_⟩
 ·obtain⟨bb,off,cur,ty',k1,k2,k3,k4,k5⟩:=e4 (by simpa[cm]using hh);exact⟨bb,off,cur,ty',k1,h1 _ k2,k3,k4,k5⟩
 ·obtain⟨n,k1,k2,k3,k4,k5⟩:=e5 (by simpa[cm]using hh);refine⟨n,by rw[hoff,k1],k2,?_,by rw[a0q];omega,fun us' hl=>?_⟩
  ·rw[a3o (by omega),a4u (by rw[a1n];omega)];exact k3
  ·rw[hout,k5 us' hl,axi (by omega)]
 ·intro Im' w' n S'' us' ob' f1 f2 f3 f4 f5 f6 f7;rw[hset]at f1
  cases hs:set π a xa n with
  |none=>rw[hs]at f1;cases f1
  |some qn=>
   rw[hs]at f1;simp only[a0z,a0d]at f1;subst f1;obtain⟨g1,g2⟩:=e6 Im' w' n S'' us' qn hs f2 f3 f4 (fun c hc h=>f5 c hc (h1 c h)) (fun hh=>f6 (by simpa[cm]using hh)) (fun c hc hn hne=>f7 c (h1 c hc) hn (fun bb off hp hh=>hne bb off hp (by simpa[cm]using hh)));refine⟨by rw[azn,g1,hsz],?_⟩;rw[hout];refine anx (S1:=fun c=>(S1 c/\¬S' c)\/S'' c) (S2:=S2) (fun c hc=>?_) (fun c hc=>?_) (fun c hc hc2=>?_) g2 (Rel.keep f4 _ _ S2 _ (fun c hc=>?_) hb)
   ·rcases hc with⟨hc,hn⟩|hc
    ·exact .inl ⟨h1 c hc,hn⟩
    ·exact .inr hc
   ·exact .inl ⟨h2 c hc,fun hs'=>h3 c (e2 c hs') hc⟩
   ·rcases hc with⟨hc,_⟩|hc
    ·exact h3 c hc hc2
    ·exact h3 c (e2 c (f5 c hc (h2 c hc2))) hc2
   ·refine f7 c (h2 c hc) (fun hs'=>h3 c (e2 c hs') hc) (fun bb off hp hh e=>?_);obtain⟨b',off',cur,ty',k1,k2,_⟩:=e4 (by simpa[cm]using hh);rw[k1]at hp;cases hp;exact h3 _ k2 (e▸hc)
theorem Foc.right{Im:Nat->Prop}{w:World}{π:bg}{b:O}{xb:b.strip.den}{a:Ob}{S S1 S2:Nat->Prop}{va vb:List Value}{ad:Pl}{q:Ob}{o:O}{x:o.strip.den}
  (hva:va.length=a.o.size)
  (hres:res w (.r::π) o (va++vb) ad=res w π b vb (ad.plus a.o.size)) (hset:∀n,set (.r::π) o x n=(set π b xb n).map fun q=>mkP a q) (hsz:o.size=a.o.size+b.size)
  (hoff:gk (.r::π) o=(gk π b).map (a.o.size+·)) (hout:∀us,dl (.r::π) o (va++vb) us=va++dl π b vb us)
  (h1:∀c,S1 c->S c) (h2:∀c,S2 c->S c) (h3:∀c,S1 c->¬S2 c) (ha:Rel Im w a.o a.x S1 va) (h:Foc Im w π b xb S2 vb (ad.plus a.o.size) q):Foc Im w (.r::π) o x S (va++vb) ad q:=by
 obtain⟨us,pl,S',e1,e2,e3,e4,e5,e6⟩:=h;refine⟨us,pl,S',by rw[hres,e1],fun c hc=>h2 c (e2 c hc),e3,fun hh=>?_,fun hh=>?_,?_⟩
 ·obtain⟨bb,off,cur,ty',k1,k2,k3,k4,k5⟩:=e4 (by simpa[cm]using hh);exact⟨bb,off,cur,ty',k1,h2 _ k2,k3,k4,k5⟩
 ·obtain⟨n,k1,k2,k3,k4,k5⟩:=e5 (by simpa[cm]using hh);refine⟨a.o.size+n,by rw[hoff,k1];rfl,?_,?_,by rw[a0q];omega,fun us' hl=>?_⟩
  ·rw[k2];cases ad <;> simp[Pl.plus,a3d]
  ·rw[←hva,List.drop_append,a4c (by omega),a2u,a4v];exact k3
  ·rw[hout,k5 us' hl,ayx,hva]
 ·intro Im' w' n S'' us' ob' f1 f2 f3 f4 f5 f6 f7;rw[hset]at f1
  cases hs:set π b xb n with
  |none=>rw[hs]at f1;cases f1
  |some qn=>
   rw[hs]at f1;simp only[a0z,a0d]at f1;subst f1;obtain⟨g1,g2⟩:=e6 Im' w' n S'' us' qn hs f2 f3 f4 (fun c hc h=>f5 c hc (h2 c h)) (fun hh=>f6 (by simpa[cm]using hh)) (fun c hc hn hne=>f7 c (h2 c hc) hn (fun bb off hp hh=>hne bb off hp (by simpa[cm]using hh)));refine⟨by rw[azn,g1,hsz],?_⟩;rw[hout];refine anx (S2:=fun c=>(S2 c/\¬S' c)\/S'' c) (S1:=S1) (fun c hc=>?_) (fun c hc=>?_) (fun c hc2 hc=>?_) (Rel.keep f4 _ _ S1 _ (fun c hc=>?_) ha) g2
   ·exact .inl ⟨h1 c hc,fun hs'=>h3 c hc (e2 c hs')⟩
   ·rcases hc with⟨hc,hn⟩|hc
    ·exact .inl ⟨h2 c hc,hn⟩
    ·exact .inr hc
   ·rcases hc with⟨hc,_⟩|hc
    ·exact h3 c hc2 hc
    ·exact h3 c hc2 (e2 c (f5 c hc (h1 c hc2)))
   ·refine f7 c (h1 c hc) (fun hs'=>h3 c hc (e2 c hs')) (fun bb off hp hh e=>?_);obtain⟨b',off',cur,ty',k1,k2,_⟩:=e4 (by simpa[cm]using hh);rw[k1]at hp;cases hp;exact h3 _ (e▸hc) k2
end Go.Bm
/- The du machine:the look into an own tree. -/
namespace Go.Bm
open Go.RowKit
theorem At.left{w:World}{S S1:Nat->Prop}{va vb:List Value}{ad:Pl}(h1:∀c,S1 c->S c)(h:At w S (va++vb) ad):At w S1 va ad:=by intro b off e;obtain⟨k1,cur,ty',k2,k3⟩:=h b off e;refine⟨fun hc=>k1 (h1 b hc),cur,ty',k2,fun j u hu=>k3 j u ?_⟩;rw[a1e (a1k.1 hu).1];exact hu
theorem At.right{w:World}{S S2:Nat->Prop}{va vb:List Value}{ad:Pl}{n:Nat}(hn:va.length=n)(h2:∀c,S2 c->S c)(h:At w S (va++vb) ad):At w S2 vb (ad.plus n):=by
 intro b off e
 cases ad with
 |none=>cases e
 |some p=>obtain⟨b',off'⟩:=p;simp only[Pl.plus,a0z,a0d,a0k]at e;obtain⟨rfl,rfl⟩:=e;obtain⟨k1,cur,ty',k2,k3⟩:=h b' off' rfl;refine⟨fun hc=>k1 (h2 b' hc),cur,ty',k2,fun j u hu=>?_⟩;have:=k3 (n+j) u (by rw[a1u (by omega)];rw[hn,a4v];exact hu);rw[←this];congr 1;omega
theorem aur{w':World}{ety:TypeId}{sz n:Nat}{g off cap:Nat}{cur:Array Value}{xs row':List Value}{i:Nat}(hxl:xs.length=n*sz)
  (h1:n<=cap+1) (h2:cap+1<=maxLen) (h3:cur.size=off+(cap+1)*sz) (h4:(cur.toList.drop off).take (n*sz)=xs) (hi:i<n) (hr:row'.length=sz) {m:Nat} {us':List Value} (hm:m+us'.length<=sz)
  (hrow:row'=dz ((xs.drop (i*sz)).take sz) m us')
  (hg:w'.heap[g]? = some (.cells (dz cur.toList (off+i*sz+m) us').toArray ety (0,0))):s9 w' ety sz (.slice (some ⟨g,off,none⟩) n (cap+1)) n (dz xs (i*sz) row'):=by
 have hle:i*sz+sz<=n*sz:=by have:=a1t sz (show i+1<=n from hi);rw[a1r]at this;omega
 have hlc:off+n*sz<=cur.size:=by rw[h3];exact Nat.add_le_add_left (a1t _ h1) _
 have hcl:cur.toList.length=cur.size:=a11;refine⟨by simp[dz,hr];omega,.inr ⟨g,off,cap,_,rfl,hg,h1,h2,?_,?_⟩⟩
 ·rw[List.size_toArray,←h3,←hcl];simp[dz];omega
 ·show ((dz cur.toList (off+i*sz+m) us').drop off).take (n*sz)=_;subst hrow;subst h4
  have e0:(dz cur.toList (off+i*sz+m) us').drop off=dz (cur.toList.drop off) (i*sz+m) us':=by
   unfold dz;rw[a06,a3o (by simp;omega),a4d,a06,a3e];congr 2
   ·omega
   ·congr 1;omega
  rw[e0];have hdl:(cur.toList.drop off).length=cur.size-off:=by rw[a1n,hcl]
  generalize cur.toList.drop off=D at *;have hA:(D.take (n*sz)).length=n*sz:=hxl
  have e1:dz (D.take (n*sz)) (i*sz) (dz (((D.take (n*sz)).drop (i*sz)).take sz) m us')=dz (D.take (n*sz)) (i*sz+m) us':=by
   generalize D.take (n*sz)=A at hA hr⊢;have hsl:(dz ((A.drop (i*sz)).take sz) m us').length=sz:=hr;apply a16;intro j
   have hget:∀(B us:List Value) (p:Nat),p+us.length<=B.length->∀j,(dz B p us)[j]? = if j<p then B[j]? else if j<p+us.length then us[j-p]? else B[j]?:=by
    intro B us p hp j;unfold dz;by_cases q1:j<p
    ·rw[d0 q1,a06,a1e (by simp;omega),a08,d0 q1]
    ·rw[ds q1];by_cases q2:j<p+us.length
     ·rw[d0 q2,a1e (by simp;omega),a1u (by simp;omega)];congr 1;simp;omega
     ·rw[ds q2,a1u (by simp;omega),a09];congr 1;simp;omega
   have hrl:((A.drop (i*sz)).take sz).length=sz:=by simp;omega
   rw[hget A _ (i*sz) (by omega) j,hget A us' (i*sz+m) (by omega) j,hsl];by_cases q1:j<i*sz
   ·rw[d0 q1,d0 (by omega)]
   ·rw[ds q1];by_cases q2:j<i*sz+sz
    ·rw[d0 q2,hget _ us' m (by omega)];by_cases q3:j<i*sz+m
     ·rw[d0 (by omega),d0 q3,a08,d0 (by omega),a09];congr 1;omega
     ·rw[ds (by omega),ds q3];by_cases q4:j<i*sz+m+us'.length
      ·rw[d0 (by omega),d0 q4];congr 1;omega
      ·rw[ds (by omega),ds q4,a08,d0 (by omega),a09];congr 1;omega
    ·rw[ds q2,ds (by omega),ds (by omega)]
  rw[e1];unfold dz;rw[a06,List.take_append,List.take_append,List.take_take,a4d];simp only[a1c,hdl];rw[show min (i*sz+m) (cur.size-off)=i*sz+m by omega,show min (n*sz) (i*sz+m)=i*sz+m by omega,List.take_take,show min (i*sz+m) (n*sz)=i*sz+m by omega];rw[a23 (l:=us') (by omega),a06];congr 3;omega
set_option maxRecDepth 4000 in
theorem ac8{Im:Nat->Prop}{w:World}:(π:bg)->(o:O)->(x:o.strip.den)->(S:Nat->Prop)->(vs:List Value)->(ad:Pl)->(q:Ob)->Rel Im w o x S vs->gok π o x->get π o x=some q->At w S vs ad->Foc Im w π o x S vs ad q
 |[],o,x,S,vs,ad,q,hr,_,hg,hat=>by
  simp only[get,a0d]at hg;subst hg;refine⟨vs,ad,S,rfl,fun _ h=>h,hr,fun h=>by simp[cm]at h,fun _=>⟨0,rfl,by cases ad <;> simp[Pl.plus],by simp,by omega,fun us' hl=>?_⟩,?_⟩
  ·simp only[dl,dz,List.take_zero,a2u,a1z];rw[hl,a4c (a0f _),a2l]
  ·intro Im' w' n S'' us' ob' f1 f2 f3 f4 f5 _ _;simp only[set,a0d]at f1;subst f1;exact⟨f2,Rel.wide _ _ S'' _ _ (fun c hc=>.inr hc) f3⟩
 |.l::π,.p a b,x,S,vs,ad,q,hr,hk,hg,hat=>by
  simp only[Rel]at hr;obtain⟨va,vb,S1,S2,rfl,h1,h2,h3,ha,hb⟩:=hr;have hl:=Rel.len a _ _ _ ha
  refine Foc.left (b:=⟨b,x.2⟩) (S1:=S1) (S2:=S2) (by simp only[res];rw[xp hl]) (fun n=>by simp only[set];cases set π a x.1 n <;> rfl) (by simp[O.size,T.size]) (by simp only[gk]) (fun us=>by simp only[dl];rw[xp hl,xf hl]) h1 h2 h3 hb
   (ac8 π a x.1 S1 va ad q ha (by simpa only [gok]using hk) (by simpa only [get]using hg) (hat.left h1))
 |.r::π,.p a b,x,S,vs,ad,q,hr,hk,hg,hat=>by
  simp only[Rel]at hr;obtain⟨va,vb,S1,S2,rfl,h1,h2,h3,ha,hb⟩:=hr;have hl:=Rel.len a _ _ _ ha
  refine Foc.right (a:=⟨a,x.1⟩) (S1:=S1) (S2:=S2) hl (by simp only[res];rw[xf hl]) (fun n=>by simp only[set];cases set π b x.2 n <;> rfl) (by simp[O.size,T.size])
   (by simp only[gk];cases gk π b <;> simp[O.size]) (fun us=>by simp only[dl];rw[xp hl,xf hl]) h1 h2 h3 ha
   (ac8 π b x.2 S2 vb (ad.plus a.size) q hb (by simpa only [gok]using hk) (by simpa only [get]using hg) (hat.right hl h2))
 |.l::π,.fz (.p a b),x,S,vs,ad,q,hr,hk,hg,hat=>by
  simp only[Rel,ah]at hr;obtain⟨va,vb,rfl,ha,hb⟩:=hr;have hl:=ah.len a _ _ ha
  refine Foc.left (a:=.fz a) (b:=⟨.fz b,x.2⟩) (S1:=fun _=>False) (S2:=fun _=>False) (by simp only[res];rw[xp hl]) (fun n=>by simp only[set];cases set π (.fz a) x.1 n <;> rfl) (by simp[O.size,T.size]) (by simp only[gk]) (fun us=>by simp only[dl];rw[xp hl,xf hl])
   (fun _ h=>h.elim) (fun _ h=>h.elim) (fun _ h=>h.elim) (by simpa only [Rel]using hb)
   (ac8 π (.fz a) x.1 _ va ad q (by simpa only [Rel]using ha) (by simpa only [gok]using hk) (by simpa only [get]using hg) (hat.left (fun _ h=>h.elim)))
 |.r::π,.fz (.p a b),x,S,vs,ad,q,hr,hk,hg,hat=>by
  simp only[Rel,ah]at hr;obtain⟨va,vb,rfl,ha,hb⟩:=hr;have hl:=ah.len a _ _ ha
  refine Foc.right (b:=.fz b) (a:=⟨.fz a,x.1⟩) (S1:=fun _=>False) (S2:=fun _=>False) hl (by simp only[res];rw[xf hl];rfl) (fun n=>by simp only[set];cases set π (.fz b) x.2 n <;> rfl) (by simp[O.size,T.size])
   (by simp only[gk];cases gk π (.fz b) <;> simp[O.size]) (fun us=>by simp only[dl];rw[xp hl,xf hl])
   (fun _ h=>h.elim) (fun _ h=>h.elim) (fun _ h=>h.elim) (by simpa only [Rel]using ha)
   (ac8 π (.fz b) x.2 _ vb (ad.plus a.size) q (by simpa only [Rel]using hb) (by simpa only [gok]using hk) (by simpa only [get]using hg) (hat.right hl (fun _ h=>h.elim)))
 |.ix i::π,.sl e,x,S,vs,ad,q,hr,hk,hg,hat=>by
  simp only[Rel]at hr;obtain⟨v,ety,xs,T,rfl,h2,h3,h4,h5,h6,h7⟩:=hr;simp only[gok]at hk;simp only[get]at hg;obtain⟨hi,hk⟩:=hk;rcases xk h2 with⟨hn,_⟩|⟨g,off0,cap,cur,hv,hgg,hc1,hc2,hc3,hc4⟩
  ·omega
  have hxi:x[i]? = some (x.getD i e.dflt):=by rw[a0o,a0n hi];rfl
  have hrow:=h7 i _ hxi;have hrl:=Rel.len e _ _ _ hrow;have hcells:nv w g (off0+i*e.size) ((xs.drop (i*e.size)).take e.size):=fun j u hu=>by rw[a15 w g _ cur ety (0,0) hgg];exact ajc hc4 hu
  have hat':At w (T i) ((xs.drop (i*e.size)).take e.size) (some (g,off0+i*e.size)):=by intro b off hh;cases hh;refine⟨fun hc=>(h5 i g hc).2 (by rw[hv];rfl),cur,ety,hgg,fun j u hu=>?_⟩;exact ajc hc4 hu
  obtain⟨us,pl,S',e1,e2,e3,e4,e5,e6⟩:=ac8 π e _ (T i) _ (some (g,off0+i*e.size)) q hrow hk hg hat';have hSg:S g:=h4 g (by rw[hv];rfl);have hgT:¬T i g:=fun hc=>(h5 i g hc).2 (by rw[hv];rfl);have hres:res w (.ix i::π) (.sl e) [v] ad=some (us,pl):=by rw[hv];simp only[res,a1z];rw[vg hrl hcells];exact e1
  refine⟨us,pl,S',hres,fun c hc=>(h5 i c (e2 c hc)).1,e3,fun _=>?_,fun h=>by simp[cm]at h,?_⟩
  ·cases hh:cm π with
   |true=>obtain⟨b,off,cur',ty',k1,k2,k3,k4,k5⟩:=e4 hh;exact⟨b,off,cur',ty',k1,(h5 i b k2).1,k3,k4,k5⟩
   |false=>
    obtain⟨n,k1,k2,k3,k4,k5⟩:=e5 hh;refine⟨g,off0+i*e.size+n,cur,ety,by rw[k2];rfl,hSg,fun hc=>hgT (e2 g hc),hgg,fun j u hu=>?_⟩;rw[k3,a08]at hu;split at hu
    ·rw[a09]at hu;have:=ajc hc4 hu;rw[←this];congr 1;omega
    ·cases hu
  ·intro Im' w' n S'' us' ob' f1 f2 f3 f4 f5 f6 f7;simp only[set]at f1
   cases hs:set π e (x.getD i e.dflt) n with
   |none=>rw[hs]at f1;cases f1
   |some qn=>
    rw[hs]at f1;simp only at f1
    cases hcst:qk qn e with
    |none=>rw[hcst]at f1;cases f1
    |some y=>
     rw[hcst]at f1;simp only[a0d]at f1;subst f1
     have hcast:∃h:qn.o=e,y=h▸qn.x:=by
      unfold qk at hcst;split at hcst
      ·rename_i h;exact⟨O.beq_eq h,by simpa using hcst.symm⟩
      ·cases hcst
     have hul:us'.length=us.length:=by rw[Rel.len _ _ _ _ f3,Rel.len _ _ _ _ e3];exact f2
     obtain⟨g1,g2⟩:=e6 Im' w' n S'' us' qn hs f2 f3 f4 (fun c hc h=>f5 c hc (h5 i c h).1) (fun hh b off hp=>f6 rfl b off hp)
      (fun c hc hn hne=>f7 c (h5 i c hc).1 hn (fun b off hp _=>by
       cases hh:cm π with
       |true=>exact hne b off hp hh
       |false=>obtain⟨m,k1,k2,_⟩:=e5 hh;rw[k2]at hp;simp only[Pl.plus,a0z,a0d,a0k]at hp;obtain⟨rfl,_⟩:=hp;exact fun ec=>hgT (ec▸hc)))
     obtain⟨rfl,rfl⟩:=hcast;have hol:(dl π qn.o ((xs.drop (i*qn.o.size)).take qn.o.size) us').length=qn.o.size:=Rel.len _ _ _ _ g2;refine⟨rfl,?_⟩;simp only[dl]
     -- the row in the new world
     have hnew:∃xs',s9 w' ety qn.o.size v x.length xs'/\∀i',(xs'.drop (i'*qn.o.size)).take qn.o.size=if i'=i then dl π qn.o ((xs.drop (i*qn.o.size)).take qn.o.size) us' else (xs.drop (i'*qn.o.size)).take qn.o.size:=by
      cases hh:cm π with
      |true=>
       obtain⟨b,off,cur',ty',k1,k2,k3,k4,k5⟩:=e4 hh;refine⟨xs,amh (fun b' hb'=>?_) h2,fun i'=>?_⟩
       ·have hbg:b'=g:=by rw[hv]at hb';simpa[jn]using hb'.symm
        subst hbg;refine f7 b' hSg (fun hc=>hgT (e2 b' hc)) (fun b2 off2 hp _=>?_);rw[k1]at hp;simp only[a0d,a0k]at hp;intro ec;exact hgT (by rw[ec,←hp.1];exact k2)
       ·rw[nw _ _ _ _ hh];split
        ·rename_i ei;rw[ei]
        ·rfl
      |false=>
       obtain⟨m,k1,k2,k3,k4,k5⟩:=e5 hh;have hpl:pl=some (g,off0+i*qn.o.size+m):=by rw[k2];rfl
       have hgw:=f6 rfl g _ hpl cur ety hgg;have hor:=k5 us' hul;rw[hrl]at k4;refine⟨dz xs (i*qn.o.size) (dl π qn.o ((xs.drop (i*qn.o.size)).take qn.o.size) us'),?_,fun i'=>bbb h2.1 hi hol⟩;rw[hv];exact aur h2.1 hc1 hc2 hc3 hc4 hi hol (m:=m) (us':=us') (by omega) hor hgw
     obtain⟨xs',hx1,hx2⟩:=hnew;simp only[Rel];refine⟨v,ety,xs',fun i' c=>if i'=i then (T i c/\¬S' c)\/S'' c else T i' c,rfl,by rw[a1i];exact hx1,by rw[a1i];exact h3,fun c hc=>?_,fun i' c hc=>?_,fun i1 i2 c hne hc1' hc2'=>?_,fun i' y hy=>?_⟩
     ·refine .inl ⟨h4 c hc,fun hs'=>(h5 i c (e2 c hs')).2 hc⟩
     ·simp only at hc;by_cases ei:i'=i
      ·rw[d0 ei]at hc;rcases hc with⟨hc,hn⟩|hc
       ·exact⟨.inl ⟨(h5 i c hc).1,hn⟩,(h5 i c hc).2⟩
       ·refine⟨.inr hc,fun hr=>?_⟩;exact (h5 i c (e2 c (f5 c hc (h4 c hr)))).2 hr
      ·rw[ds ei]at hc;exact⟨.inl ⟨(h5 i' c hc).1,fun hs'=>h6 i' i c ei hc (e2 c hs')⟩,(h5 i' c hc).2⟩
     ·simp only at hc1' hc2';by_cases e1':i1=i
      ·rw[d0 e1']at hc1';have e2':i2≠i:=fun h=>hne (e1'.trans h.symm);rw[ds e2']at hc2';rcases hc1' with⟨hc,_⟩|hc
       ·exact h6 i i2 c (a0v e2') hc hc2'
       ·exact h6 i i2 c (a0v e2') (e2 c (f5 c hc (h5 i2 c hc2').1)) hc2'
      ·rw[ds e1']at hc1';by_cases e2':i2=i
       ·rw[d0 e2']at hc2';rcases hc2' with⟨hc,_⟩|hc
        ·exact h6 i1 i c e1' hc1' hc
        ·exact h6 i1 i c e1' hc1' (e2 c (f5 c hc (h5 i1 c hc1').1))
       ·rw[ds e2']at hc2';exact h6 i1 i2 c hne hc1' hc2'
     ·rw[hx2 i'];by_cases ei:i'=i
      ·subst ei;rw[a3f]at hy;simp only[hi,a03,a0d]at hy;subst hy;simp only[a03];exact g2
      ·simp only[ds ei];rw[a3f,ds (a0v ei)]at hy;refine Rel.keep f4 _ y (T i') _ (fun c hc=>f7 c (h5 i' c hc).1 (fun hs'=>h6 i' i c ei hc (e2 c hs')) (fun b off hp _ ec=>?_)) (h7 i' y hy)
       cases hh:cm π with
       |true=>obtain⟨b2,off2,cur',ty',k1,k2,_⟩:=e4 hh;rw[k1]at hp;simp only[a0d,a0k]at hp;exact h6 i' i c ei hc (by rw[ec,←hp.1];exact k2)
       |false=>obtain⟨m,k1,k2,_⟩:=e5 hh;rw[k2]at hp;simp only[Pl.plus,a0z,a0d,a0k]at hp;exact (h5 i' c hc).2 (by rw[hv,ec,←hp.1];rfl)
 |.de::π,.pt t,x,S,vs,ad,q,hr,hk,hg,hat=>by
  simp only[Rel]at hr;obtain⟨b0,us0,ty0,S0,rfl,h2,h3,h4,h5⟩:=hr;simp only[gok]at hk;simp only[get]at hg;have hlen:=Rel.len t _ _ _ h5;have hcells:nv w b0 0 us0:=fun j u hu=>by rw[a15 w b0 _ us0.toArray ty0 (0,0) h3];simpa using hu
  have hat':At w S0 us0 (some (b0,0)):=by intro b off hh;cases hh;exact⟨fun hc=>(h4 b0 hc).2 rfl,us0.toArray,ty0,h3,fun j u hu=>by simpa using hu⟩
  obtain⟨us,pl,S',e1,e2,e3,e4,e5,e6⟩:=ac8 π t _ S0 us0 (some (b0,0)) q h5 hk hg hat';have hb0:¬S0 b0:=fun hc=>(h4 b0 hc).2 rfl;refine⟨us,pl,S',?_,fun c hc=>(h4 c (e2 c hc)).1,e3,fun _=>?_,fun h=>by simp[cm]at h,?_⟩
  ·simp only[res];rw[vg hlen hcells];exact e1
  ·cases hh:cm π with
   |true=>obtain⟨b,off,cur',ty',k1,k2,k3,k4,k5⟩:=e4 hh;exact⟨b,off,cur',ty',k1,(h4 b k2).1,k3,k4,k5⟩
   |false=>
    obtain⟨n,k1,k2,k3,k4,k5⟩:=e5 hh;refine⟨b0,n,us0.toArray,ty0,by rw[k2];simp[Pl.plus],h2,fun hc=>hb0 (e2 b0 hc),h3,fun j u hu=>?_⟩;rw[k3,a08]at hu;split at hu
    ·rw[a09]at hu;simpa using hu
    ·cases hu
  ·intro Im' w' n S'' us' ob' f1 f2 f3 f4 f5 f6 f7;simp only[set]at f1
   cases hs:set π t x n with
   |none=>rw[hs]at f1;cases f1
   |some qn=>
    rw[hs]at f1;simp only[a0d]at f1;subst f1;have hul:us'.length=us.length:=by rw[Rel.len _ _ _ _ f3,Rel.len _ _ _ _ e3];exact f2
    obtain⟨g1,g2⟩:=e6 Im' w' n S'' us' qn hs f2 f3 f4 (fun c hc h=>f5 c hc (h4 c h).1) (fun hh b off hp=>f6 rfl b off hp)
     (fun c hc hn hne=>f7 c (h4 c hc).1 hn (fun b off hp _=>by
      cases hh:cm π with
      |true=>exact hne b off hp hh
      |false=>obtain⟨m,k1,k2,_⟩:=e5 hh;rw[k2]at hp;simp only[Pl.plus,a0z,a0d,a0k]at hp;obtain⟨rfl,_⟩:=hp;exact (h4 c hc).2))
    refine⟨rfl,?_⟩;simp only[dl,Rel]
    have hnew:w'.heap[b0]? = some (.cells (dl π t us0 us').toArray ty0 (0,0)):=by
     cases hh:cm π with
     |true=>
      obtain⟨b,off,cur',ty',k1,k2,k3,k4,k5⟩:=e4 hh;rw[nw _ _ _ _ hh,f7 b0 h2 (fun hc=>hb0 (e2 b0 hc)) (fun b2 off2 hp _=>?_)]
      ·exact h3
      ·rw[k1]at hp;simp only[a0d,a0k]at hp;intro ec;exact hb0 (by rw[ec,←hp.1];exact k2)
     |false=>obtain⟨m,k1,k2,k3,k4,k5⟩:=e5 hh;have:=f6 rfl b0 m (by rw[k2];simp[Pl.plus]) us0.toArray ty0 h3;rw[this,k5 us' hul]
    refine⟨b0,_,ty0,fun c=>(S0 c/\¬S' c)\/S'' c,rfl,.inl ⟨h2,fun hc=>hb0 (e2 b0 hc)⟩,hnew,fun c hc=>?_,g2⟩;rcases hc with⟨hc,hn⟩|hc
    ·exact⟨.inl ⟨(h4 c hc).1,hn⟩,(h4 c hc).2⟩
    ·exact⟨.inr hc,fun ec=>hb0 (e2 b0 (f5 b0 (ec▸hc) h2))⟩
 |.l::_,.sl _,_,_,_,_,_,_,hk,_,_=>by simp only[gok]at hk
 |.l::_,.pt _,_,_,_,_,_,_,hk,_,_=>by simp only[gok]at hk
 |.l::_,.fz (.int _),_,_,_,_,_,_,hk,_,_=>by simp only[gok]at hk
 |.l::_,.fz .bool,_,_,_,_,_,_,hk,_,_=>by simp only[gok]at hk
 |.l::_,.fz .str,_,_,_,_,_,_,hk,_,_=>by simp only[gok]at hk
 |.l::_,.fz .u,_,_,_,_,_,_,hk,_,_=>by simp only[gok]at hk
 |.l::_,.fz (.sl _),_,_,_,_,_,_,hk,_,_=>by simp only[gok]at hk
 |.l::_,.fz (.pt _),_,_,_,_,_,_,hk,_,_=>by simp only[gok]at hk
 |.l::_,.fz (.fn _ _),_,_,_,_,_,_,hk,_,_=>by simp only[gok]at hk
 |.l::_,.fz .any,_,_,_,_,_,_,hk,_,_=>by simp only[gok]at hk
 |.r::_,.sl _,_,_,_,_,_,_,hk,_,_=>by simp only[gok]at hk
 |.r::_,.pt _,_,_,_,_,_,_,hk,_,_=>by simp only[gok]at hk
 |.r::_,.fz (.int _),_,_,_,_,_,_,hk,_,_=>by simp only[gok]at hk
 |.r::_,.fz .bool,_,_,_,_,_,_,hk,_,_=>by simp only[gok]at hk
 |.r::_,.fz .str,_,_,_,_,_,_,hk,_,_=>by simp only[gok]at hk
 |.r::_,.fz .u,_,_,_,_,_,_,hk,_,_=>by simp only[gok]at hk
 |.r::_,.fz (.sl _),_,_,_,_,_,_,hk,_,_=>by simp only[gok]at hk
 |.r::_,.fz (.pt _),_,_,_,_,_,_,hk,_,_=>by simp only[gok]at hk
 |.r::_,.fz (.fn _ _),_,_,_,_,_,_,hk,_,_=>by simp only[gok]at hk
 |.r::_,.fz .any,_,_,_,_,_,_,hk,_,_=>by simp only[gok]at hk
 |.ix _::_,.fz _,_,_,_,_,_,_,hk,_,_=>by simp only[gok]at hk
 |.ix _::_,.p _ _,_,_,_,_,_,_,hk,_,_=>by simp only[gok]at hk
 |.ix _::_,.pt _,_,_,_,_,_,_,hk,_,_=>by simp only[gok]at hk
 |.de::_,.fz _,_,_,_,_,_,_,hk,_,_=>by simp only[gok]at hk
 |.de::_,.p _ _,_,_,_,_,_,_,hk,_,_=>by simp only[gok]at hk
 |.de::_,.sl _,_,_,_,_,_,_,hk,_,_=>by simp only[gok]at hk
end Go.Bm
/- The du machine:the state. -/
namespace Go.Bm
open Go.RowKit
theorem xl{Im:Nat->Prop}{w w':World}:(π:bg)->(o:O)->(x:o.strip.den)->(S:Nat->Prop)->(vs:List Value)->(ad:Pl)->Rel Im w o x S vs->gok π o x->(∀b,S b->w'.heap[b]? = w.heap[b]?)->res w' π o vs ad=res w π o vs ad
 |[],o,x,S,vs,ad,_,_,_=>by simp only[res]
 |.l::π,.p a b,x,S,vs,ad,hr,hk,hS=>by simp only[Rel]at hr;obtain⟨va,vb,S1,S2,rfl,h1,h2,h3,ha,hb⟩:=hr;simp only[res];rw[xp (Rel.len a _ _ _ ha)];exact xl π a x.1 S1 va ad ha (by simpa only [gok]using hk) (fun c hc=>hS c (h1 c hc))
 |.r::π,.p a b,x,S,vs,ad,hr,hk,hS=>by simp only[Rel]at hr;obtain⟨va,vb,S1,S2,rfl,h1,h2,h3,ha,hb⟩:=hr;simp only[res];rw[xf (Rel.len a _ _ _ ha)];exact xl π b x.2 S2 vb _ hb (by simpa only [gok]using hk) (fun c hc=>hS c (h2 c hc))
 |.l::π,.fz (.p a b),x,S,vs,ad,hr,hk,hS=>by simp only[Rel,ah]at hr;obtain⟨va,vb,rfl,ha,hb⟩:=hr;simp only[res];rw[xp (ah.len a _ _ ha)];exact xl π (.fz a) x.1 (fun _=>False) va ad (by simpa only [Rel]using ha) (by simpa only [gok]using hk) (fun c hc=>hc.elim)
 |.r::π,.fz (.p a b),x,S,vs,ad,hr,hk,hS=>by simp only[Rel,ah]at hr;obtain⟨va,vb,rfl,ha,hb⟩:=hr;simp only[res];rw[xf (ah.len a _ _ ha)];exact xl π (.fz b) x.2 (fun _=>False) vb _ (by simpa only [Rel]using hb) (by simpa only [gok]using hk) (fun c hc=>hc.elim)
 |.ix i::π,.sl e,x,S,vs,ad,hr,hk,hS=>by
  simp only[Rel]at hr;obtain⟨v,ety,xs,T,rfl,h2,h3,h4,h5,h6,h7⟩:=hr;simp only[gok]at hk;obtain⟨hi,hk⟩:=hk;rcases xk h2 with⟨hn,_⟩|⟨g,off0,cap,cur,hv,hgg,hc1,hc2,hc3,hc4⟩
  ·omega
  have hxi:x[i]? = some (x.getD i e.dflt):=by rw[a0o,a0n hi];rfl
  have hrow:=h7 i _ hxi;have hrl:=Rel.len e _ _ _ hrow;have hcells:nv w g (off0+i*e.size) ((xs.drop (i*e.size)).take e.size):=fun j u hu=>by rw[a15 w g _ cur ety (0,0) hgg];exact ajc hc4 hu
  have hcells':=hcells.keep (w':=w') (hS g (h4 g (by rw[hv];rfl)));rw[hv];simp only[res,a1z];rw[vg hrl hcells,vg hrl hcells'];exact xl π e _ (T i) _ _ hrow hk (fun c hc=>hS c (h5 i c hc).1)
 |.de::π,.pt t,x,S,vs,ad,hr,hk,hS=>by
  simp only[Rel]at hr;obtain⟨b0,us0,ty0,S0,rfl,h2,h3,h4,h5⟩:=hr;simp only[gok]at hk;have hlen:=Rel.len t _ _ _ h5;have hcells:nv w b0 0 us0:=fun j u hu=>by rw[a15 w b0 _ us0.toArray ty0 (0,0) h3];simpa using hu
  have hcells':=hcells.keep (w':=w') (hS b0 h2);simp only[res];rw[vg hlen hcells,vg hlen hcells'];exact xl π t x S0 us0 _ h5 hk (fun c hc=>hS c (h4 c hc).1)
 |.l::_,.sl _,_,_,_,_,_,_,_=>by simp only[res]
 |.l::_,.pt _,_,_,_,_,_,_,_=>by simp only[res]
 |.l::_,.fz (.int _),_,_,_,_,_,_,_=>by simp only[res]
 |.l::_,.fz .bool,_,_,_,_,_,_,_=>by simp only[res]
 |.l::_,.fz .str,_,_,_,_,_,_,_=>by simp only[res]
 |.l::_,.fz .u,_,_,_,_,_,_,_=>by simp only[res]
 |.l::_,.fz (.sl _),_,_,_,_,_,_,_=>by simp only[res]
 |.l::_,.fz (.pt _),_,_,_,_,_,_,_=>by simp only[res]
 |.l::_,.fz (.fn _ _),_,_,_,_,_,_,_=>by simp only[res]
 |.l::_,.fz .any,_,_,_,_,_,_,_=>by simp only[res]
 |.r::_,.sl _,_,_,_,_,_,_,_=>by simp only[res]
 |.r::_,.pt _,_,_,_,_,_,_,_=>by simp only[res]
 |.r::_,.fz (.int _),_,_,_,_,_,_,_=>by simp only[res]
 |.r::_,.fz .bool,_,_,_,_,_,_,_=>by simp only[res]
 |.r::_,.fz .str,_,_,_,_,_,_,_=>by simp only[res]
 |.r::_,.fz .u,_,_,_,_,_,_,_=>by simp only[res]
 |.r::_,.fz (.sl _),_,_,_,_,_,_,_=>by simp only[res]
 |.r::_,.fz (.pt _),_,_,_,_,_,_,_=>by simp only[res]
 |.r::_,.fz (.fn _ _),_,_,_,_,_,_,_=>by simp only[res]
 |.r::_,.fz .any,_,_,_,_,_,_,_=>by simp only[res]
 |.ix _::_,.fz _,_,_,_,_,_,_,_=>by simp only[res]
 |.ix _::_,.p _ _,_,_,_,_,_,_,_=>by simp only[res]
 |.ix _::_,.pt _,_,_,_,_,_,_,_=>by simp only[res]
 |.de::_,.fz _,_,_,_,_,_,_,_=>by simp only[res]
 |.de::_,.p _ _,_,_,_,_,_,_,_=>by simp only[res]
 |.de::_,.sl _,_,_,_,_,_,_,_=>by simp only[res]
def Ref(β:Nat->Value)(M:Mem)(w:World)(k:Nat)(π:bg)(vs:List Value):Prop:=∃ob pl,go M k=some ob/\gok π ob.o ob.x/\(∃q,get π ob.o ob.x=some q)/\res w π ob.o [β k] none=some (vs,pl)
def Adr(β:Nat->Value)(M:Mem)(w:World)(k:Nat)(π:bg)(v:Value):Prop:=∃ob us b off,go M k=some ob/\gok π ob.o ob.x/\(∃q,get π ob.o ob.x=some q)/\cm π=true/\res w π ob.o [β k] none=some (us,some (b,off))/\v=.pointer (some ⟨b,off,none⟩)
def aa(β:Nat->Value)(M:Mem)(Im:Nat->Prop)(w:World):V->List Value->Prop
 |.p a b,vs=>∃va vb,vs=va++vb/\aa β M Im w a va/\aa β M Im w b vb
 |.u,vs=>vs=[]
 |.ref k π,vs=>Ref β M w k π vs
 |.ad k π,vs=>∃v,vs=[v]/\Adr β M w k π v
 |.d t x,vs=>ah Im w t x vs
 |.nl,vs=>∃oa,vs=[.slice oa 0 0]
 |.np,vs=>vs=[.pointer none]
 |.any,vs=>∀u∈vs,u.oneCell'=true
 |.fn f v,vs=>∃us:List Value,vs=[.func (.func f) #[] us.toArray]/\aa β M Im w v us
 |.bx v,vs=>∃b o us,vs=[.pointer (some ⟨b,o,none⟩)]/\Im b/\nv w b o us/\aa β M Im w v us
 |.ag _,_=>False
 |.tup _,_=>False
 |.gd _ _ _ _,_=>False
 |.ifc t v,vs=>∃u:Value,vs=[.iface t u]/\aa β M Im w v [u]
mutual
def af(β:Nat->Value)(M:Mem)(Im:Nat->Prop)(w:World):V->Value->Prop
 |.any,_=>True
 |.ag x,v=>∃vs:List Value,v=.agg vs.toArray/\aa β M Im w x vs
 |.tup x,v=>∃vs:List Value,v=.tuple vs.toArray/\b9 β M Im w x vs
 |.gd _ _ P x,v=>(P->af β M Im w x v)/\(¬P->v=undef)
 |.ifc t x,v=>aa β M Im w (.ifc t x) [v]
 |.p a b,v=>aa β M Im w (.p a b) [v]
 |.u,v=>aa β M Im w .u [v]
 |.ref k π,v=>aa β M Im w (.ref k π) [v]
 |.ad k π,v=>aa β M Im w (.ad k π) [v]
 |.d t x,v=>aa β M Im w (.d t x) [v]
 |.nl,v=>aa β M Im w .nl [v]
 |.np,v=>aa β M Im w .np [v]
 |.fn f x,v=>aa β M Im w (.fn f x) [v]
 |.bx x,v=>aa β M Im w (.bx x) [v]
def b9(β:Nat->Value)(M:Mem)(Im:Nat->Prop)(w:World):V->List Value->Prop
 |.p a b,vs=>∃u us,vs=u::us/\af β M Im w a u/\b9 β M Im w b us
 |.u,vs=>vs=[]
 |_,_=>False
end
section
variable {β β':Nat->Value} {M M':Mem} {Im Im':Nat->Prop} {w w':World}
theorem au{x:V}{v:Value}(h:aa β M Im w x [v]):af β M Im w x v:=by
 cases x with
 |any=>simp only[af]
 |ag y=>simp only[aa]at h
 |tup y=>simp only[aa]at h
 |gd _ _ _ y=>simp only[aa]at h
 |ifc _ y=>simpa only [af]using h
 |p a b=>simpa only [af]using h
 |u=>simpa only [af]using h
 |ref k π=>simpa only [af]using h
 |ad k π=>simpa only [af]using h
 |d t y=>simpa only [af]using h
 |nl=>simpa only [af]using h
 |np=>simpa only [af]using h
 |fn f y=>simpa only [af]using h
 |bx y=>simpa only [af]using h
theorem aa.ev{e:Ev}(hk:gl Im Im' w w')(href:∀k π vs,Ref β M w k π vs->aa β' M' Im' w' (e.ref k π) vs)(had:∀k π v,Adr β M w k π v->aa β' M' Im' w' (e.ad k π) [v]) :
  (x:V)->(vs:List Value)->aa β M Im w x vs->aa β' M' Im' w' (x.ev e) vs
 |.p a b,vs,r=>by simp only[aa,V.ev]at r⊢;obtain⟨va,vb,h1,h2,h3⟩:=r;exact⟨va,vb,h1,aa.ev hk href had a va h2,aa.ev hk href had b vb h3⟩
 |.u,vs,r=>by simpa only [aa,V.ev]using r
 |.ref k π,vs,r=>by simp only[aa,V.ev]at r⊢;exact href k π vs r
 |.ad k π,vs,r=>by simp only[aa,V.ev]at r⊢;obtain⟨v,rfl,h⟩:=r;exact had k π v h
 |.d t x,vs,r=>by simp only[aa,V.ev]at r⊢;exact ah.keep hk t x vs r
 |.nl,vs,r=>by simpa only [aa,V.ev]using r
 |.np,vs,r=>by simpa only [aa,V.ev]using r
 |.any,vs,r=>by simpa only [aa,V.ev]using r
 |.fn f v,vs,r=>by simp only[aa,V.ev]at r⊢;obtain⟨us,h1,h2⟩:=r;exact⟨us,h1,aa.ev hk href had v us h2⟩
 |.bx v,vs,r=>by simp only[aa,V.ev]at r⊢;obtain⟨b,o,us,h1,h2,h3,h4⟩:=r;exact⟨b,o,us,h1,(hk b h2).1,h3.keep (hk b h2).2,aa.ev hk href had v us h4⟩
 |.ag _,vs,r=>by simp only[aa]at r
 |.tup _,vs,r=>by simp only[aa]at r
 |.gd _ _ _ _,vs,r=>by simp only[aa]at r
 |.ifc t v,vs,r=>by simp only[aa,V.ev]at r⊢;obtain⟨u,h1,h2⟩:=r;exact⟨u,h1,aa.ev hk href had v [u] h2⟩
mutual
theorem af.ev{e:Ev}(hk:gl Im Im' w w')(href:∀k π vs,Ref β M w k π vs->aa β' M' Im' w' (e.ref k π) vs)(had:∀k π v,Adr β M w k π v->aa β' M' Im' w' (e.ad k π) [v]) :
  (x:V)->(v:Value)->af β M Im w x v->af β' M' Im' w' (x.ev e) v
 |.any,v,r=>by simp only[V.ev,af]
 |.ag x,v,r=>by simp only[af,V.ev]at r⊢;obtain⟨vs,h1,h2⟩:=r;exact⟨vs,h1,aa.ev hk href had x vs h2⟩
 |.tup x,v,r=>by simp only[af,V.ev]at r⊢;obtain⟨vs,h1,h2⟩:=r;exact⟨vs,h1,b9.ev hk href had x vs h2⟩
 |.gd j b P x,v,r=>by simp only[af,V.ev]at r⊢;exact⟨fun hp=>af.ev hk href had x v (r.1 hp),r.2⟩
 |.ifc t x,v,r=>by simp only[af]at r;exact au (aa.ev hk href had _ _ r)
 |.p a b,v,r=>by simp only[af]at r;exact au (aa.ev hk href had _ _ r)
 |.u,v,r=>by simp only[af]at r;exact au (aa.ev hk href had _ _ r)
 |.ref k π,v,r=>by simp only[af]at r;exact au (aa.ev hk href had _ _ r)
 |.ad k π,v,r=>by simp only[af]at r;exact au (aa.ev hk href had _ _ r)
 |.d t x,v,r=>by simp only[af]at r;exact au (aa.ev hk href had _ _ r)
 |.nl,v,r=>by simp only[af]at r;exact au (aa.ev hk href had _ _ r)
 |.np,v,r=>by simp only[af]at r;exact au (aa.ev hk href had _ _ r)
 |.fn f x,v,r=>by simp only[af]at r;exact au (aa.ev hk href had _ _ r)
 |.bx x,v,r=>by simp only[af]at r;exact au (aa.ev hk href had _ _ r)
theorem b9.ev{e:Ev}(hk:gl Im Im' w w')(href:∀k π vs,Ref β M w k π vs->aa β' M' Im' w' (e.ref k π) vs)(had:∀k π v,Adr β M w k π v->aa β' M' Im' w' (e.ad k π) [v]) :
  (x:V)->(vs:List Value)->b9 β M Im w x vs->b9 β' M' Im' w' (x.ev e) vs
 |.p a b,vs,r=>by simp only[b9,V.ev]at r⊢;obtain⟨u,us,h1,h2,h3⟩:=r;exact⟨u,us,h1,af.ev hk href had a u h2,b9.ev hk href had b us h3⟩
 |.u,vs,r=>by simpa only [b9,V.ev]using r
 |.any,vs,r=>by simp only[b9]at r
 |.ag x,vs,r=>by simp only[b9]at r
 |.tup x,vs,r=>by simp only[b9]at r
 |.gd j b P x,vs,r=>by simp only[b9]at r
 |.ifc t x,vs,r=>by simp only[b9]at r
 |.ref k π,vs,r=>by simp only[b9]at r
 |.ad k π,vs,r=>by simp only[b9]at r
 |.d t x,vs,r=>by simp only[b9]at r
 |.nl,vs,r=>by simp only[b9]at r
 |.np,vs,r=>by simp only[b9]at r
 |.fn f x,vs,r=>by simp only[b9]at r
 |.bx x,vs,r=>by simp only[b9]at r
end
theorem aa.keep(hk:gl Im Im' w w')(href:∀k π vs,Ref β M w k π vs->Ref β' M' w' k π vs)(had:∀k π v,Adr β M w k π v->Adr β' M' w' k π v) :
  (x:V)->(vs:List Value)->aa β M Im w x vs->aa β' M' Im' w' x vs
 |.p a b,vs,r=>by simp only[aa]at r⊢;obtain⟨va,vb,h1,h2,h3⟩:=r;exact⟨va,vb,h1,aa.keep hk href had a va h2,aa.keep hk href had b vb h3⟩
 |.u,vs,r=>by simpa only [aa]using r
 |.ref k π,vs,r=>by simp only[aa]at r⊢;exact href k π vs r
 |.ad k π,vs,r=>by simp only[aa]at r⊢;obtain⟨v,rfl,h⟩:=r;exact⟨v,rfl,had k π v h⟩
 |.d t x,vs,r=>by simp only[aa]at r⊢;exact ah.keep hk t x vs r
 |.nl,vs,r=>by simpa only [aa]using r
 |.np,vs,r=>by simpa only [aa]using r
 |.any,vs,r=>by simpa only [aa]using r
 |.fn f v,vs,r=>by simp only[aa]at r⊢;obtain⟨us,h1,h2⟩:=r;exact⟨us,h1,aa.keep hk href had v us h2⟩
 |.bx v,vs,r=>by simp only[aa]at r⊢;obtain⟨b,o,us,h1,h2,h3,h4⟩:=r;exact⟨b,o,us,h1,(hk b h2).1,h3.keep (hk b h2).2,aa.keep hk href had v us h4⟩
 |.ag _,vs,r=>by simp only[aa]at r
 |.tup _,vs,r=>by simp only[aa]at r
 |.gd _ _ _ _,vs,r=>by simp only[aa]at r
 |.ifc t v,vs,r=>by simp only[aa]at r⊢;obtain⟨u,h1,h2⟩:=r;exact⟨u,h1,aa.keep hk href had v [u] h2⟩
mutual
theorem af.keep(hk:gl Im Im' w w')(href:∀k π vs,Ref β M w k π vs->Ref β' M' w' k π vs)(had:∀k π v,Adr β M w k π v->Adr β' M' w' k π v) :
  (x:V)->(v:Value)->af β M Im w x v->af β' M' Im' w' x v
 |.any,v,r=>by simp only[af]
 |.ag x,v,r=>by simp only[af]at r⊢;obtain⟨vs,h1,h2⟩:=r;exact⟨vs,h1,aa.keep hk href had x vs h2⟩
 |.tup x,v,r=>by simp only[af]at r⊢;obtain⟨vs,h1,h2⟩:=r;exact⟨vs,h1,b9.keep hk href had x vs h2⟩
 |.gd j b P x,v,r=>by simp only[af]at r⊢;exact⟨fun hp=>af.keep hk href had x v (r.1 hp),r.2⟩
 |.ifc t x,v,r=>by simp only[af]at r;exact au (aa.keep hk href had _ _ r)
 |.p a b,v,r=>by simp only[af]at r;exact au (aa.keep hk href had _ _ r)
 |.u,v,r=>by simp only[af]at r;exact au (aa.keep hk href had _ _ r)
 |.ref k π,v,r=>by simp only[af]at r;exact au (aa.keep hk href had _ _ r)
 |.ad k π,v,r=>by simp only[af]at r;exact au (aa.keep hk href had _ _ r)
 |.d t x,v,r=>by simp only[af]at r;exact au (aa.keep hk href had _ _ r)
 |.nl,v,r=>by simp only[af]at r;exact au (aa.keep hk href had _ _ r)
 |.np,v,r=>by simp only[af]at r;exact au (aa.keep hk href had _ _ r)
 |.fn f x,v,r=>by simp only[af]at r;exact au (aa.keep hk href had _ _ r)
 |.bx x,v,r=>by simp only[af]at r;exact au (aa.keep hk href had _ _ r)
theorem b9.keep(hk:gl Im Im' w w')(href:∀k π vs,Ref β M w k π vs->Ref β' M' w' k π vs)(had:∀k π v,Adr β M w k π v->Adr β' M' w' k π v) :
  (x:V)->(vs:List Value)->b9 β M Im w x vs->b9 β' M' Im' w' x vs
 |.p a b,vs,r=>by simp only[b9]at r⊢;obtain⟨u,us,h1,h2,h3⟩:=r;exact⟨u,us,h1,af.keep hk href had a u h2,b9.keep hk href had b us h3⟩
 |.u,vs,r=>by simpa only [b9]using r
 |.any,vs,r=>by simp only[b9]at r
 |.ag x,vs,r=>by simp only[b9]at r
 |.tup x,vs,r=>by simp only[b9]at r
 |.gd j b P x,vs,r=>by simp only[b9]at r
 |.ifc t x,vs,r=>by simp only[b9]at r
 |.ref k π,vs,r=>by simp only[b9]at r
 |.ad k π,vs,r=>by simp only[b9]at r
 |.d t x,vs,r=>by simp only[b9]at r
 |.nl,vs,r=>by simp only[b9]at r
 |.np,vs,r=>by simp only[b9]at r
 |.fn f x,vs,r=>by simp only[b9]at r
 |.bx x,vs,r=>by simp only[b9]at r
end
end
theorem akj{a b:Nat}(h:¬a=b):Nat.beq a b=false:=by
 cases hb:Nat.beq a b with
 |false=>rfl
 |true=>exact absurd (a0t hb) h
theorem jt(k:Nat)(v:V)(r:Env)(t:Nat):gt ((k,v)::r) t=if k=t then v else gt r t:=by
 simp only[gt];by_cases h:k=t
 ·simp[h]
 ·rw[ds h];have:Nat.beq k t=false:=akj h;rw[this];rfl
theorem dh(k:Nat)(v:Ob)(r:Mem)(t:Nat):go ((k,v)::r) t=if k=t then some v else go r t:=by
 simp only[go];by_cases h:k=t
 ·simp[h]
 ·rw[ds h];have:Nat.beq k t=false:=akj h;rw[this];rfl
theorem cq{α:Type}(j k:Nat)(x y:α):(bif Nat.beq j k then x else y)=if j=k then x else y:=by
 by_cases h:j=k
 ·simp[h]
 ·rw[ds h];have:Nat.beq j k=false:=akj h;rw[this];rfl
def ck(M:Mem)(k:Nat):Prop:=(go M k).isSome=true
theorem bw{M:Mem}{k:Nat}{o:Ob}(h:go M k=some o):ck M k:=by unfold ck;rw[h];rfl
theorem ai5{M:Mem}{k:Nat}(h:ck M k):∃o,go M k=some o:=a4w.1 h
theorem cz(k:Nat):∀M:Mem,go (del k M) k=none
 |[]=>rfl
 |(j,o)::r=>by
  simp only[del,cq];split
  ·exact cz k r
  ·rename_i h;rw[dh,ds h];exact cz k r
theorem dn{k j:Nat}(h:j≠k):∀M:Mem,go (del k M) j=go M j
 |[]=>rfl
 |(i,o)::r=>by
  simp only[del,cq];by_cases e:i=k
  ·subst e;rw[d0 rfl,dh,ds (a0v h)];exact dn h r
  ·rw[ds e,dh,dh,dn h r]
theorem oi{k j:Nat}{M:Mem}:ck (del k M) j<->j≠k/\ck M j:=by
 unfold ck;by_cases h:j=k
 ·subst h;simp[cz]
 ·simp[dn h,h]
theorem nh{k j:Nat}(o:Ob)(h:j≠k):∀M:Mem,go (put k o M) j=go M j
 |[]=>rfl
 |(i,x)::r=>by
  simp only[put,cq];by_cases e:i=k
  ·subst e;rw[d0 rfl,dh,dh,ds (a0v h),ds (a0v h)]
  ·rw[ds e,dh,dh,nh o h r]
theorem n9{k:Nat}(o:Ob):∀M:Mem,ck M k->go (put k o M) k=some o
 |[],h=>by simp[ck,go]at h
 |(i,x)::r,h=>by
  simp only[put,cq];by_cases e:i=k
  ·subst e;rw[d0 rfl,dh,d0 rfl]
  ·rw[ds e,dh,ds e];refine n9 o r ?_;unfold ck at h⊢
   rwa [dh,ds e]at h
theorem rq{k j:Nat}{o:Ob}{M:Mem}:ck (put k o M) j<->ck M j:=by
 by_cases e:j=k
 ·subst e;by_cases h:ck M j
  ·exact⟨fun _=>h,fun _=>bw (n9 o M h)⟩
  ·refine⟨fun h'=>?_,fun h'=>absurd h' h⟩;exfalso
   have:∀M:Mem,¬ck M j->¬ck (put j o M) j:=by
    intro M
    induction M with
    |nil=>intro h;exact h
    |cons q r ih=>
     obtain⟨i,x⟩:=q;intro hn hl;unfold ck at hn hl ih;simp only[put,cq]at hl;by_cases e:i=j
     ·subst e;rw[dh,d0 rfl]at hn;exact hn rfl
     ·rw[ds e,dh,ds e]at hl;rw[dh,ds e]at hn;exact ih hn hl
   exact this M h h'
 ·unfold ck;rw[nh o e]
theorem bf6(e:Ev)(t:Nat):∀env:Env,gt (evE e env) t=(gt env t).ev e
 |[]=>by simp[evE,gt,V.ev]
 |(j,v)::r=>by
  simp only[evE,jt];split
  ·rfl
  ·exact bf6 e t r
structure Fr where
 w0:World
 wk:World
 A:Nat->Prop
 R:Nat->Prop
 I:Nat->Prop
 nt:Nat
 fv:Nat->Option Value
def Fr.RR(F:Fr)(b:Nat):Prop:=F.R b
def Fr.ok(F:Fr)(k:Nat):Prop:=k<F.nt/\F.fv k=none
structure Ow where
 β:Nat->Value
 σ:Nat->Nat->Prop
 L:Nat->Prop
structure TD (w' w:World):Prop where
 t:w'.tape=w.tape
 d:w.drawn<=w'.drawn
theorem TD.refl(w:World):TD w w:=⟨rfl,a0f _⟩
theorem TD.trans{a b c:World}(h:TD c b)(k:TD b a):TD c a:=⟨h.t.trans k.t,a1a k.d h.d⟩
def Imm(F:Fr)(p:Ow)(M:Mem)(w:World):Nat->Prop:=fun b=>b<w.heap.size/\(F.A b\/F.RR b\/F.w0.heap.size<=b)/\¬p.L b/\∀k,ck M k->¬p.σ k b
structure Hp (F:Fr) (p:Ow) (M:Mem) (w:World):Prop where
 objs:∀k ob,go M k=some ob->Rel (Imm F p M w) w ob.o ob.x (p.σ k) [p.β k]
 sep:∀k k' b,k≠k'->ck M k->ck M k'->p.σ k b->¬p.σ k' b
 own:∀k b,ck M k->p.σ k b->b<w.heap.size/\(gid<=k/\F.RR b\/F.w0.heap.size<=b)
 lim:∀b,p.L b->b<w.heap.size/\F.w0.heap.size<=b/\∀k,ck M k->¬p.σ k b
 os:w.os=F.w0.os
 tape:TD w F.w0
 output:w.output=F.w0.output
 size:F.w0.heap.size<=w.heap.size
 old:∀b,b<F.w0.heap.size->¬F.RR b->w.heap[b]? = F.w0.heap[b]?
structure St (F:Fr) (p:Ow) (env:Env) (M:Mem) (a:Act) (w:World):Prop where
 defers:a.defers=[]
 nt:a.tmps.size=F.nt
 fix:∀t v,F.fv t=some v->a.tmps.getD t undef=v
 ik:∀b,F.I b->Imm F p M w b/\w.heap[b]? = F.wk.heap[b]?
 lz:∀b,¬p.L b
 slots:∀t,af p.β M (Imm F p M w) w (gt env t) (a.tmps.getD t undef)
 hp:Hp F p M w
structure Tr (F:Fr) (p:Ow) (M:Mem) (w:World) (e:List Ev) (p':Ow) (M':Mem) (w':World):Prop where
 keep:gl (Imm F p M w) (Imm F p' M' w') w w'
 c:∀v vs,aa p.β M (Imm F p M w) w v vs->aa p'.β M' (Imm F p' M' w') w' (v.evs e) vs
 s:∀v u,af p.β M (Imm F p M w) w v u->af p'.β M' (Imm F p' M' w') w' (v.evs e) u
 hp:Hp F p' M' w'
theorem ajf(v:V):∀(e e':List Ev),v.evs (ap e e')=(v.evs e).evs e'
 |[],e'=>rfl
 |x::e,e'=>by simp only[ap,V.evs];exact ajf _ e e'
theorem sv(t:Nat):∀(e:List Ev) (env:Env),gt (pz env e) t=(gt env t).evs e
 |[],env=>rfl
 |x::e,env=>by simp only[pz,V.evs];rw[sv t e,bf6]
section
variable {F:Fr} {p p' p'':Ow} {env:Env} {M M' M'':Mem} {a:Act} {w w' w'':World}
theorem Tr.trans{e e':List Ev}(h:Tr F p M w e p' M' w')(k:Tr F p' M' w' e' p'' M'' w''):Tr F p M w (ap e e') p'' M'' w'':=⟨h.keep.trans k.keep,fun v vs r=>by rw[ajf];exact k.c _ _ (h.c v vs r),fun v u r=>by rw[ajf];exact k.s _ _ (h.s v u r),k.hp⟩
theorem Tr.one(e:Ev)(hk:gl (Imm F p M w) (Imm F p' M' w') w w')
  (href:∀k π vs,Ref p.β M w k π vs->aa p'.β M' (Imm F p' M' w') w' (e.ref k π) vs) (had:∀k π v,Adr p.β M w k π v->aa p'.β M' (Imm F p' M' w') w' (e.ad k π) [v]) (hp':Hp F p' M' w'):Tr F p M w [e] p' M' w':=
 ⟨hk,fun v vs r=>by simp only[V.evs];exact aa.ev hk href had v vs r,fun v u r=>by simp only[V.evs];exact af.ev hk href had v u r,hp'⟩
theorem Tr.zero(hk:gl (Imm F p M w) (Imm F p' M' w') w w')
  (href:∀k π vs,Ref p.β M w k π vs->Ref p'.β M' w' k π vs) (had:∀k π v,Adr p.β M w k π v->Adr p'.β M' w' k π v) (hp':Hp F p' M' w'):Tr F p M w [] p' M' w':=
 ⟨hk,fun v vs r=>by simp only[V.evs];exact aa.keep hk href had v vs r,fun v u r=>by simp only[V.evs];exact af.keep hk href had v u r,hp'⟩
theorem Tr.refl(h:Hp F p M w):Tr F p M w [] p M w:=Tr.zero (gl.refl _ _) (fun _ _ _ r=>r) (fun _ _ _ r=>r) h
theorem St.tr{e:List Ev}(h:St F p env M a w)(t:Tr F p M w e p' M' w')(hL:∀b,¬p'.L b):St F p' (pz env e) M' a w':=by refine⟨h.defers,h.nt,h.fix,fun b hb=>⟨(t.keep b (h.ik b hb).1).1,((t.keep b (h.ik b hb).1).2).trans (h.ik b hb).2⟩,hL,fun n=>?_,t.hp⟩;rw[sv];exact t.s _ _ (h.slots n)
theorem Ref.same(hp:Hp F p M w){k:Nat}{π:bg}{vs:List Value}(h:Ref p.β M w k π vs)(hM:go M' k=go M k)(hβ:p'.β k=p.β k)(hb:ck M k->∀b,p.σ k b->w'.heap[b]? = w.heap[b]?):Ref p'.β M' w' k π vs:=by obtain⟨ob,pl,h1,h2,h3,h4⟩:=h;refine⟨ob,pl,by rw[hM,h1],h2,h3,?_⟩;rw[hβ,xl π ob.o ob.x (p.σ k) _ none (hp.objs k ob h1) h2 (hb (bw h1))];exact h4
theorem Adr.same(hp:Hp F p M w){k:Nat}{π:bg}{v:Value}(h:Adr p.β M w k π v)(hM:go M' k=go M k)(hβ:p'.β k=p.β k)(hb:ck M k->∀b,p.σ k b->w'.heap[b]? = w.heap[b]?):Adr p'.β M' w' k π v:=by obtain⟨ob,us,b,off,h1,h2,h3,h4,h5,h6⟩:=h;refine⟨ob,us,b,off,by rw[hM,h1],h2,h3,h4,?_,h6⟩;rw[hβ,xl π ob.o ob.x (p.σ k) _ none (hp.objs k ob h1) h2 (hb (bw h1))];exact h5
theorem St.write(h:St F p env M a w)(d:Nat)(x:V)(v:Value)(hx:af p.β M (Imm F p M w) w x v)(hd:F.ok d):St F p ((d,x)::env) M (a.put (some d) v) w:=by
 refine⟨by simpa[Act.put]using h.defers,by simpa[Act.put]using h.nt,fun t v' ht=>?_,h.ik,h.lz,fun t=>?_,h.hp⟩
 ·have hne:d≠t:=fun e=>by have:=hd.2;rw[e,ht]at this;cases this
  have:=h.fix t v' ht;simpa[Act.put,hne]using this
 rw[jt];simp only[Act.put];by_cases e:d=t
 ·subst e;rw[d0 rfl];simpa[h.nt,hd.1]using hx
 ·rw[ds e];have:=h.slots t;simpa[e]using this
theorem St.weak{env':Env}(h:St F p env M a w)(he:∀t,gt env' t=.any\/gt env' t=gt env t):St F p env' M a w:=by
 refine⟨h.defers,h.nt,h.fix,h.ik,h.lz,fun t=>?_,h.hp⟩;rcases he t with e|e
 ·rw[e];simp only[af]
 ·rw[e];exact h.slots t
theorem look(hp:Hp F p M w){k:Nat}{ob:Ob}{π:bg}{q:Ob}(h1:go M k=some ob)(h2:gok π ob.o ob.x)(h3:get π ob.o ob.x=some q):Foc (Imm F p M w) w π ob.o ob.x (p.σ k) [p.β k] none q:=ac8 π ob.o ob.x (p.σ k) [p.β k] none q (hp.objs k ob h1) h2 h3 (fun b off e=>by cases e)
theorem Ref.one(hp:Hp F p M w){k:Nat}{π:bg}{vs:List Value}(h:Ref p.β M w k π vs):∀u∈vs,u.oneCell'=true:=by obtain⟨ob,pl,h1,h2,⟨q,h3⟩,h4⟩:=h;obtain⟨us,pl',S',e1,e2,e3,_⟩:=look hp h1 h2 h3;rw[e1]at h4;cases h4;exact Rel.one _ _ _ _ e3
theorem Adr.one{k:Nat}{π:bg}{v:Value}(h:Adr p.β M w k π v):v.oneCell'=true:=by obtain⟨_,_,_,_,_,_,_,_,_,rfl⟩:=h;rfl
structure Ext (w w':World):Prop where
 os:w'.os=w.os
 tape:TD w' w
 output:w'.output=w.output
 size:w.heap.size<=w'.heap.size
 old:∀b,b<w.heap.size->w'.heap[b]? = w.heap[b]?
theorem Ext.refl(w:World):Ext w w:=⟨rfl,TD.refl w,rfl,a0f _,fun _ _=>rfl⟩
theorem Ext.of_grown{w w':World}(h:w.grownBy w' none)(hd:w.drawn<=w'.drawn):Ext w w':=⟨h.os,⟨h.tape,hd⟩,h.output,h.size,fun b hb=>h.block b hb (by simp)⟩
theorem Tr.ext(h:Hp F p M w)(e:Ext w w'):Tr F p M w [] p M w':=by
 have hk:gl (Imm F p M w) (Imm F p M w') w w':=fun b hb=>⟨⟨by have:=e.size;have:=hb.1;omega,hb.2⟩,e.old b hb.1⟩
 refine Tr.zero hk (fun _ _ _ r=>r.same h rfl rfl (fun hl b hb=>e.old b (h.own _ b hl hb).1)) (fun _ _ _ r=>r.same h rfl rfl (fun hl b hb=>e.old b (h.own _ b hl hb).1))
  ⟨fun k ob hg=>Rel.keep hk _ _ _ _ (fun b hb=>e.old b (h.own k b (bw hg) hb).1) (h.objs k ob hg),h.sep,fun k b h1 h2=>?_,fun b hb=>?_,e.os.trans h.os,e.tape.trans h.tape,e.output.trans h.output,a1a h.size e.size,fun b hb hR=>?_⟩
 ·have:=h.own k b h1 h2;exact⟨by have:=e.size;omega,this.2⟩
 ·have:=h.lim b hb;exact⟨by have:=e.size;omega,this.2⟩
 ·rw[e.old b (by have:=h.size;omega)];exact h.old b hb hR
theorem St.ext(h:St F p env M a w)(e:Ext w w'):St F p env M a w':=by simpa[pz]using h.tr (Tr.ext h.hp e) h.lz
theorem Hp.del(h:Hp F p M w)(k:Nat):Hp F p (del k M) w/\gl (Imm F p M w) (Imm F p (del k M) w) w w:=by
 have hk:gl (Imm F p M w) (Imm F p (Bm.del k M) w) w w:=fun b hb=>⟨⟨hb.1,hb.2.1,hb.2.2.1,fun j hj=>hb.2.2.2 j (oi.1 hj).2⟩,rfl⟩;refine⟨⟨fun j ob hg=>?_,fun j j' b hne hj hj'=>h.sep j j' b hne (oi.1 hj).2 (oi.1 hj').2,fun j b hj=>h.own j b (oi.1 hj).2,fun b hb=>⟨(h.lim b hb).1,(h.lim b hb).2.1,fun j hj=>(h.lim b hb).2.2 j (oi.1 hj).2⟩,h.os,h.tape,h.output,h.size,h.old⟩,hk⟩;have hjk:j≠k:=by rintro rfl;rw[cz]at hg;cases hg
 rw[dn hjk]at hg;exact Rel.keep hk _ _ _ _ (fun _ _=>rfl) (h.objs j ob hg)
theorem Tr.kl(h:Hp F p M w)(k:Nat):Tr F p M w [.kl k] p (del k M) w:=by
 refine Tr.one (.kl k) (h.del k).2 (fun j π vs r=>?_) (fun j π v r=>?_) (h.del k).1
 ·simp only[Ev.ref,cq];split
  ·simp only[aa];exact r.one h
  ·rename_i hne;simp only[aa];exact r.same h (dn hne M) rfl (fun _ _ _=>rfl)
 ·simp only[Ev.ad,cq];split
  ·simp only[aa];intro u hu;rw[a0x.1 hu];exact r.one
  ·rename_i hne;simp only[aa];exact⟨v,rfl,r.same h (dn hne M) rfl (fun _ _ _=>rfl)⟩
theorem aci(h:Hp F p M w){k b:Nat}(hl:ck M k)(hb:p.σ k b):Imm F p (del k M) w b:=by obtain⟨h1,h2⟩:=h.own k b hl hb;exact⟨h1,h2.elim (fun h=>.inr (.inl h.2)) (fun h=>.inr (.inr h)),fun hL=>(h.lim b hL).2.2 k hl hb,fun j hj=>h.sep k j b (a0v (oi.1 hj).1) hl (oi.1 hj).2 hb⟩
theorem fw{β:Nat->Value}{Im:Nat->Prop}:(t:T)->(x:t.den)->(vs:List Value)->ah Im w t x vs->aa β M Im w (jp t x) vs
 |.p a b,x,vs,r=>by simp only[ah]at r;obtain⟨va,vb,h1,h2,h3⟩:=r;simp only[jp,aa];exact⟨va,vb,h1,fw a _ va h2,fw b _ vb h3⟩
 |.u,x,vs,r=>by simpa only [jp,aa,ah]using r
 |.int _,x,vs,r=>by simpa only [jp,aa]using r
 |.bool,x,vs,r=>by simpa only [jp,aa]using r
 |.str,x,vs,r=>by simpa only [jp,aa]using r
 |.sl _,x,vs,r=>by simpa only [jp,aa]using r
 |.pt _,x,vs,r=>by simpa only [jp,aa]using r
 |.fn _ _,x,vs,r=>by simpa only [jp,aa]using r
 |.ifc _ _,x,vs,r=>by simpa only [jp,aa]using r
 |.mp _ _,x,vs,r=>by simpa only [jp,aa]using r
 |.op _,x,vs,r=>by simpa only [jp,aa]using r
 |.ns _,x,vs,r=>by simpa only [jp,aa]using r
 |.er _,x,vs,r=>by simpa only [jp,aa]using r
 |.any,x,vs,r=>by simpa only [jp,aa]using r
theorem Tr.frz(h:Hp F p M w)(k:Nat)(ob:Ob)(hk:go M k=some ob):Tr F p M w [.fz k ob] p (del k M) w:=by
 have hl:=bw hk;refine Tr.one (.fz k ob) (h.del k).2 (fun j π vs r=>?_) (fun j π v r=>?_) (h.del k).1
 ·simp only[Ev.ref,cq];split
  ·rename_i e;subst e;obtain⟨ob',pl,h1,h2,⟨q,h3⟩,h4⟩:=r;rw[hk]at h1;cases h1;rw[h3];obtain⟨us,pl',S',e1,e2,e3,_⟩:=look h hk h2 h3;rw[e1]at h4;cases h4;exact fw _ _ _ (Rel.frz (fun b hb=>((h.del j).2 b hb).1) _ _ S' _ (fun b hb=>aci h hl (e2 b hb)) e3)
  ·rename_i hne;simp only[aa];exact r.same h (dn hne M) rfl (fun _ _ _=>rfl)
 ·simp only[Ev.ad,cq];split
  ·rename_i e;subst e;obtain⟨ob',us0,b0,off0,h1,h2,⟨q,h3⟩,h4,h5,rfl⟩:=r;rw[hk]at h1;cases h1;rw[h3];obtain⟨us,pl',S',e1,e2,e3,e4,_⟩:=look h hk h2 h3;rw[e1]at h5;simp only[a0d,a0k]at h5;obtain⟨rfl,rfl⟩:=h5;obtain⟨b,off,cur,ty',k1,k2,k3,k4,k5⟩:=e4 h4;simp only[a0d,a0k]at k1;obtain⟨rfl,rfl⟩:=k1;simp only[aa,ah];refine⟨b0,off0,us,rfl,aci h hl k2,fun j' u hu=>?_,Rel.frz (fun b hb=>((h.del j).2 b hb).1) _ _ S' _ (fun b hb=>aci h hl (e2 b hb)) e3⟩;rw[a15 w b0 _ cur ty' (0,0) k4];exact k5 j' u hu
  ·rename_i hne;simp only[aa];exact⟨v,rfl,r.same h (dn hne M) rfl (fun _ _ _=>rfl)⟩
theorem Tr.lim(h:Hp F p M w)(k:Nat)(hl:ck M k)(hg:k<gid):Tr F p M w [.kl k] ⟨p.β,p.σ,fun b=>p.L b\/p.σ k b⟩ (del k M) w:=by
 have hI:∀b,Imm F p M w b->Imm F ⟨p.β,p.σ,fun b=>p.L b\/p.σ k b⟩ (Bm.del k M) w b:=fun b hb=>⟨hb.1,hb.2.1,fun hc=>hc.elim hb.2.2.1 (hb.2.2.2 k hl),fun j hj=>hb.2.2.2 j (oi.1 hj).2⟩;have hk:gl (Imm F p M w) (Imm F ⟨p.β,p.σ,fun b=>p.L b\/p.σ k b⟩ (Bm.del k M) w) w w:=fun b hb=>⟨hI b hb,rfl⟩;refine Tr.one (.kl k) hk (fun j π vs r=>?_) (fun j π v r=>?_) ⟨fun j ob hgo=>?_,fun j j' b hne hj hj'=>h.sep j j' b hne (oi.1 hj).2 (oi.1 hj').2,fun j b hj=>h.own j b (oi.1 hj).2,fun b hb=>?_,h.os,h.tape,h.output,h.size,h.old⟩
 ·simp only[Ev.ref,cq];split
  ·simp only[aa];exact r.one h
  ·rename_i hne;simp only[aa];exact r.same (p':=⟨p.β,p.σ,_⟩) h (dn hne M) rfl (fun _ _ _=>rfl)
 ·simp only[Ev.ad,cq];split
  ·simp only[aa];intro u hu;rw[a0x.1 hu];exact r.one
  ·rename_i hne;simp only[aa];exact⟨v,rfl,r.same (p':=⟨p.β,p.σ,_⟩) h (dn hne M) rfl (fun _ _ _=>rfl)⟩
 ·have hjk:j≠k:=by rintro rfl;rw[cz]at hgo;cases hgo
  rw[dn hjk]at hgo;exact Rel.keep hk _ _ _ _ (fun _ _=>rfl) (h.objs j ob hgo)
 ·rcases hb with hb|hb
  ·exact⟨(h.lim b hb).1,(h.lim b hb).2.1,fun j hj=>(h.lim b hb).2.2 j (oi.1 hj).2⟩
  ·obtain⟨k1,k2⟩:=h.own k b hl hb;refine⟨k1,k2.elim (fun h=>by have:=h.1;omega) id,fun j hj=>h.sep k j b (a0v (oi.1 hj).1) hl (oi.1 hj).2 hb⟩
def Ow.updL(p:Ow)(k:Nat)(v:Value)(r L':Nat->Prop):Ow:=⟨fun j=>if j=k then v else p.β j,fun j=>if j=k then r else p.σ j,L'⟩
def Ow.upd(p:Ow)(k:Nat)(v:Value)(r:Nat->Prop):Ow:=p.updL k v r fun _=>False
structure ExtL (w w':World) (L:Nat->Prop):Prop where
 os:w'.os=w.os
 tape:TD w' w
 output:w'.output=w.output
 size:w.heap.size<=w'.heap.size
 old:∀b,b<w.heap.size->¬L b->w'.heap[b]? = w.heap[b]?
theorem Ext.toL{w w':World}(h:Ext w w')(L:Nat->Prop):ExtL w w' L:=⟨h.os,h.tape,h.output,h.size,fun b hb _=>h.old b hb⟩
theorem Tr.newL(h:Hp F p M w)(k:Nat)(hk:go M k=none)(v:Value)(r L':Nat->Prop)(ob:Ob)(hg:ExtL w w' p.L)
  (hL':∀b,L' b->p.L b/\¬r b) (hr:∀b,r b->w.heap.size<=b/\b<w'.heap.size\/p.L b)
  (ho:gl (Imm F p M w) (Imm F (p.updL k v r L') ((k,ob)::M) w') w w'->Rel (Imm F (p.updL k v r L') ((k,ob)::M) w') w' ob.o ob.x r [v]) :
  Tr F p M w [] (p.updL k v r L') ((k,ob)::M) w':=by
 have hnl:¬ck M k:=by unfold ck;rw[hk];simp
 have hlive:∀j,ck ((k,ob)::M) j<->j=k\/ck M j:=fun j=>by
  unfold ck;rw[dh];by_cases e:k=j
  ·simp[e]
  ·rw[ds e];simp[a0v e]
 have hβ:∀j,j≠k->(p.updL k v r L').β j=p.β j:=fun j hj=>by simp[Ow.updL,hj]
 have hσ:∀j,j≠k->(p.updL k v r L').σ j=p.σ j:=fun j hj=>by simp[Ow.updL,hj]
 have hβk:(p.updL k v r L').β k=v:=by simp[Ow.updL]
 have hσk:(p.updL k v r L').σ k=r:=by simp[Ow.updL]
 have hkeep:gl (Imm F p M w) (Imm F (p.updL k v r L') ((k,ob)::M) w') w w':=fun b hb=>by
  refine⟨⟨by have:=hg.size;have:=hb.1;omega,hb.2.1,fun h=>hb.2.2.1 (hL' b h).1,fun j hj=>?_⟩,hg.old b hb.1 hb.2.2.1⟩;rcases (hlive j).1 hj with rfl|hj
  ·rw[hσk];intro hrb;rcases hr b hrb with h1|h1
   ·have:=hb.1;omega
   ·exact hb.2.2.1 h1
  ·have hne:j≠k:=fun e=>hnl (e▸hj);rw[hσ j hne];exact hb.2.2.2 j hj
 have hgo:∀j,j≠k->go ((k,ob)::M) j=go M j:=fun j hj=>by rw[dh,ds (a0v hj)]
 have hblk:∀j,ck M j->∀b,p.σ j b->w'.heap[b]? = w.heap[b]?:=fun j hj b hb=>hg.old b (h.own j b hj hb).1 (fun hL=>(h.lim b hL).2.2 j hj hb);refine Tr.zero hkeep (fun j π vs q=>?_) (fun j π v' q=>?_) ⟨fun j o hj=>?_,fun j j' b hne hj hj' hb=>?_,fun j b hj hb=>?_,fun b hb=>?_,hg.os.trans h.os,hg.tape.trans h.tape,hg.output.trans h.output,a1a h.size hg.size,fun b hb hR=>?_⟩
 ·have hne:j≠k:=by rintro rfl;obtain⟨o,_,h1,_⟩:=q;rw[hk]at h1;cases h1
  exact q.same h (hgo j hne) (hβ j hne) (hblk j)
 ·have hne:j≠k:=by rintro rfl;obtain⟨o,_,_,_,h1,_⟩:=q;rw[hk]at h1;cases h1
  exact q.same h (hgo j hne) (hβ j hne) (hblk j)
 ·by_cases e:j=k
  ·subst e;rw[dh,d0 rfl]at hj;cases hj;rw[hβk,hσk];exact ho hkeep
  ·rw[hgo j e]at hj;rw[hβ j e,hσ j e];exact Rel.keep hkeep _ _ _ _ (hblk j (bw hj)) (h.objs j o hj)
 ·rcases (hlive j).1 hj with ej|hj0
  ·rw[ej,hσk]at hb;rcases (hlive j').1 hj' with ej'|hj0'
   ·exact absurd (ej.trans ej'.symm) hne
   ·have hn':j'≠k:=fun e=>hnl (e▸hj0');rw[hσ j' hn'];intro hb';rcases hr b hb with h1|h1
    ·have:=(h.own j' b hj0' hb').1;omega
    ·exact (h.lim b h1).2.2 j' hj0' hb'
  ·have hn:j≠k:=fun e=>hnl (e▸hj0);rw[hσ j hn]at hb;rcases (hlive j').1 hj' with ej'|hj0'
   ·rw[ej',hσk];intro hb';rcases hr b hb' with h1|h1
    ·have:=(h.own j b hj0 hb).1;omega
    ·exact (h.lim b h1).2.2 j hj0 hb
   ·have hn':j'≠k:=fun e=>hnl (e▸hj0');rw[hσ j' hn'];exact h.sep j j' b hne hj0 hj0' hb
 ·rcases (hlive j).1 hj with ej|hj
  ·subst ej;rw[hσk]at hb;rcases hr b hb with h1|h1
   ·exact⟨h1.2,.inr (a1a h.size h1.1)⟩
   ·exact⟨by have:=(h.lim b h1).1;have:=hg.size;omega,.inr (h.lim b h1).2.1⟩
  ·have hn:j≠k:=fun e=>hnl (e▸hj);rw[hσ j hn]at hb;have:=h.own j b hj hb;exact⟨by have:=hg.size;omega,this.2⟩
 ·have hb':=hL' b hb;refine⟨by have:=(h.lim b hb'.1).1;have:=hg.size;omega,(h.lim b hb'.1).2.1,fun j hj=>?_⟩;rcases (hlive j).1 hj with ej|hj
  ·rw[ej,hσk];exact hb'.2
  ·have hn:j≠k:=fun e=>hnl (e▸hj);rw[hσ j hn];exact (h.lim b hb'.1).2.2 j hj
 ·rw[hg.old b (by have:=h.size;omega) (fun hL=>by have:=(h.lim b hL).2.1;omega)];exact h.old b hb hR
theorem Tr.new(h:Hp F p M w)(k:Nat)(hk:go M k=none)(v:Value)(r:Nat->Prop)(ob:Ob)(hg:ExtL w w' p.L)
  (hr:∀b,r b->w.heap.size<=b/\b<w'.heap.size\/p.L b)
  (ho:gl (Imm F p M w) (Imm F (p.upd k v r) ((k,ob)::M) w') w w'->Rel (Imm F (p.upd k v r) ((k,ob)::M) w') w' ob.o ob.x r [v]) :
  Tr F p M w [] (p.upd k v r) ((k,ob)::M) w':=Tr.newL h k hk v r (fun _=>False) ob hg (fun _ hb=>hb.elim) hr ho
theorem Tr.drop(h:Hp F p M w)(L':Nat->Prop)(hL:∀b,L' b->p.L b):Tr F p M w [] ⟨p.β,p.σ,L'⟩ M w:=by have hk:gl (Imm F p M w) (Imm F ⟨p.β,p.σ,L'⟩ M w) w w:=fun b hb=>⟨⟨hb.1,hb.2.1,fun h=>hb.2.2.1 (hL b h),hb.2.2.2⟩,rfl⟩;refine Tr.zero hk (fun _ _ _ r=>r) (fun _ _ _ r=>r) ⟨fun k ob hg=>Rel.keep hk _ _ _ _ (fun _ _=>rfl) (h.objs k ob hg),h.sep,h.own,fun b hb=>h.lim b (hL b hb),h.os,h.tape,h.output,h.size,h.old⟩
theorem Tr.grow(h:Hp F p M w)(hL:∀b,¬p.L b)(e:Ext w w')(L':Nat->Prop)(hn:∀b,L' b->w.heap.size<=b/\b<w'.heap.size):Tr F p M w [] ⟨p.β,p.σ,L'⟩ M w':=by
 have hk:gl (Imm F p M w) (Imm F ⟨p.β,p.σ,L'⟩ M w') w w':=fun b hb=>⟨⟨by have:=e.size;have:=hb.1;omega,hb.2.1,fun h=>by have:=(hn b h).1;have:=hb.1;omega,hb.2.2.2⟩,e.old b hb.1⟩
 refine Tr.zero hk (fun _ _ _ r=>r.same h rfl rfl (fun hl b hb=>e.old b (h.own _ b hl hb).1)) (fun _ _ _ r=>r.same h rfl rfl (fun hl b hb=>e.old b (h.own _ b hl hb).1))
  ⟨fun k ob hg=>Rel.keep hk _ _ _ _ (fun b hb=>e.old b (h.own k b (bw hg) hb).1) (h.objs k ob hg),h.sep,fun k b h1 h2=>?_,fun b hb=>?_,e.os.trans h.os,e.tape.trans h.tape,e.output.trans h.output,a1a h.size e.size,fun b hb hR=>?_⟩
 ·have:=h.own k b h1 h2;exact⟨by have:=e.size;omega,this.2⟩
 ·refine⟨(hn b hb).2,by have:=(hn b hb).1;have:=h.size;omega,fun k hk hs=>?_⟩;have:=(h.own k b hk hs).1;have:=(hn b hb).1;omega
 ·rw[e.old b (by have:=h.size;omega)];exact h.old b hb hR
end
end Go.Bm
