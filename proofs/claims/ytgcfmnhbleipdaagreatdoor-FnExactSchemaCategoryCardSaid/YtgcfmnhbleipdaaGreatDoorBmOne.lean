/- The typed machine that the walks of this claim go by: its data, its operations and the proof that each is sound. No condition. -/
import Derived.WalkKit
set_option linter.unusedVariables false
set_option linter.unusedSimpArgs false
set_option linter.unusedSectionVars false
/- The dv machine:data with Lean types,trees of own memory,abstract values. -/
namespace Go.Bm
open Go.RowKit
abbrev a0g:=@cond_false
abbrev a2o:=@Bool.and_self
abbrev a0k:=@Bool.and_true
abbrev a3v:=@Nat.beq_refl
abbrev a0a:=@Bool.and_eq_true
abbrev a0t:=@beq_iff_eq
abbrev a0d:=@Option.some.injEq
abbrev a10:=@Nat.zero_add
abbrev a0q:=@List.length_append
abbrev a2p:=@List.getElem_of_mem
abbrev a0o:=@List.getElem?_eq_getElem
abbrev a0u:=@List.mem_singleton
abbrev a05:=@List.mem_append
abbrev a1d:=@List.getElem?_take
abbrev a1b:=@List.getElem?_drop
abbrev a3h:=@Nat.add_assoc
abbrev a14:=@cell_of_row
abbrev a4g:=@List.take_left
abbrev a15:=@List.ext_getElem?
abbrev a1a:=@List.getElem?_map
abbrev a2c:=@List.getElem?_range
abbrev a0z:=@Option.map_some
abbrev a1q:=@List.getElem?_eq_none
abbrev a1w:=@Nat.mul_le_mul_right
abbrev a1o:=@Nat.add_mul
abbrev d0:=@if_pos
abbrev a08:=@List.append_assoc
abbrev a1g:=@List.getElem?_append_left
abbrev ds:=@if_neg
abbrev a1u:=@List.getElem?_append_right
abbrev a1x:=@List.take_append_drop
abbrev a41:=@List.take_append_of_le_length
abbrev a3w:=@List.drop_append_of_le_length
abbrev a27:=@List.take_of_length_le
abbrev a4h:=@List.drop_of_length_le
abbrev a1n:=@List.length_drop
abbrev a2q:=@List.nil_append
abbrev a42:=@Nat.add_sub_cancel_left
abbrev a1k:=@List.getElem?_eq_some_iff
abbrev a0j:=@Prod.mk.injEq
abbrev a11:=@Array.length_toList
abbrev a4i:=@List.drop_take
abbrev a3i:=@List.drop_drop
abbrev a1c:=@List.length_take
abbrev a0f:=@Nat.le_refl
abbrev a2h:=@List.append_nil
abbrev a0n:=@List.getD_eq_getElem?_getD
abbrev a1h:=@List.length_set
abbrev a0w:=@Ne.symm
abbrev a3j:=@List.getElem?_set
abbrev a00:=@if_true
abbrev a0v:=@Nat.eq_of_beq_eq_true
abbrev a43:=@Option.isSome_iff_exists
abbrev a09:=@Nat.le_trans
def nb:Nat:=140737488355328
def inK(k:IntKind)(n:Int):Prop:=k.min<=n/\n<=k.max
def ap{α:Type}:List α->List α->List α
 |[],b=>b
 |x::a,b=>x::ap a b
theorem g8{α:Type}(a b:List α):ap a b=a++b:=by
 induction a with
 |nil=>rfl
 |cons x a ih=>rw[ap,ih];rfl
def len{α:Type}:List α->Nat
 |[]=>0
 |_::r=>Nat.succ (len r)
theorem am3{α:Type}(a:List α):len a=a.length:=by
 induction a with
 |nil=>rfl
 |cons x a ih=>rw[len,ih];rfl
def mr{α:Type}:List α->Nat->Option α
 |[],_=>none
 |x::_,0=>some x
 |_::r,n+1=>mr r n
theorem aa3{α:Type}(a:List α)(i:Nat):mr a i=a[i]?:=by
 induction a generalizing i with
 |nil=>rfl
 |cons x a ih=>cases i with
  |zero=>rfl
  |succ i=>rw[mr,ih];rfl
def ff{α:Type}:Nat->List α->List α
 |0,_=>[]
 |_+1,[]=>[]
 |n+1,x::r=>x::ff n r
theorem al2{α:Type}(n:Nat)(a:List α):ff n a=a.take n:=by
 induction n generalizing a with
 |zero=>rfl
 |succ n ih=>cases a with
  |nil=>rfl
  |cons x a=>rw[ff,ih];rfl
def r8{α:Type}:Nat->List α->List α
 |0,a=>a
 |_+1,[]=>[]
 |n+1,_::r=>r8 n r
theorem aqv{α:Type}(n:Nat)(a:List α):r8 n a=a.drop n:=by
 induction n generalizing a with
 |zero=>rfl
 |succ n ih=>cases a with
  |nil=>rfl
  |cons x a=>rw[r8,ih];rfl
def abp{α:Type}(x:α):Nat->List α
 |0=>[]
 |n+1=>x::abp x n
def ana{α:Type}:List α->Nat->α->List α
 |[],_,_=>[]
 |_::r,0,y=>y::r
 |x::r,n+1,y=>x::ana r n y
def az0{α:Type}(p:α->Bool):List α->Bool
 |[]=>true
 |x::r=>bif p x then az0 p r else false
def toL{α:Type}:Array α->List α
 |⟨l⟩=>l
def ai2:Nat->Nat->Nat
 |0,b=>b
 |a+1,b=>Nat.succ (ai2 a b)
@[simp] theorem ao0 (a b:Nat):ai2 a b=a+b:=by
 induction a with
 |zero=>simp[ai2]
 |succ a ih=>rw[ai2,ih];omega
def isZ:Nat->Bool
 |0=>true
 |_+1=>false
def bm1:Nat->Nat
 |0=>0
 |n+1=>n
def dy:Nat->Nat->Bool
 |0,b=>isZ b
 |a+1,b=>bif isZ b then false else dy a (bm1 b)
@[simp] theorem fa (a b:Nat):dy a b=(a==b):=by
 induction a generalizing b with
 |zero=>cases b <;> rfl
 |succ a ih=>cases b with
  |zero=>rfl
  |succ b=>simp only[dy,isZ,bm1,a0g];rw[ih];simp
def nob(a b:Bool):Bool:=bif a then b else false
def neg(a:Bool):Bool:=bif a then false else true
def orb(a b:Bool):Bool:=bif a then true else b
def vj{α β:Type}(f:α->β):Option α->Option β
 |none=>none
 |some x=>some (f x)
def isN{α:Type}:Option α->Bool
 |none=>true
 |some _=>false
@[simp] theorem am (a b:Bool):nob a b=(a&&b):=by cases a <;> rfl
@[simp] theorem l8 (a b:Bool):orb a b=(a||b):=by cases a <;> rfl
@[simp] theorem jx (a:Bool):neg a=!a:=by cases a <;> rfl
inductive T where
 |int (k:IntKind)
 |bool
 |str
 |u
 |p (a b:T)
 |sl (e:T)
 |pt (t:T)
 |fn (f:FuncId) (t:T)
 |ifc (i:TypeId) (t:T)
 |mp (k v:T)
 |op (t:T)
 |ns (t:T)
 |er (i:TypeId)
 |any
@[reducible] def T.den:T->Type
 |.int _=>Int
 |.bool=>Bool
 |.str=>ByteArray
 |.u=>Unit
 |.p a b=>a.den×b.den
 |.sl e=>List e.den
 |.pt t=>t.den
 |.fn _ t=>t.den
 |.ifc _ t=>t.den
 |.mp k v=>List (k.den×v.den)
 |.op t=>Option t.den
 |.ns t=>Option t.den
 |.er _=>Bool
 |.any=>Unit
def T.dflt:(t:T)->t.den
 |.int _=>(0:Int)
 |.bool=>false
 |.str=>ByteArray.empty
 |.u=>()
 |.p a b=>(a.dflt,b.dflt)
 |.sl _=>[]
 |.pt t=>t.dflt
 |.fn _ t=>t.dflt
 |.ifc _ t=>t.dflt
 |.mp _ _=>[]
 |.op _=>none
 |.ns _=>none
 |.er _=>false
 |.any=>()
def T.size:T->Nat
 |.u=>0
 |.p a b=>ai2 a.size b.size
 |.op t=>t.size
 |_=>1
def yy:IntKind->IntKind->Bool
 |.i8,.i8=>true
 |.i16,.i16=>true
 |.i32,.i32=>true
 |.i64,.i64=>true
 |.u8,.u8=>true
 |.u16,.u16=>true
 |.u32,.u32=>true
 |.u64,.u64=>true
 |_,_=>false
theorem vd{a b:IntKind}(h:yy a b=true):a=b:=by cases a <;> cases b <;> first|rfl|(simp[yy]at h)
theorem anj(a:IntKind):yy a a=true:=by cases a <;> rfl
def T.beq:T->T->Bool
 |.int k,.int k'=>yy k k'
 |.bool,.bool=>true
 |.str,.str=>true
 |.u,.u=>true
 |.p a b,.p a' b'=>nob (a.beq a') (b.beq b')
 |.sl e,.sl e'=>e.beq e'
 |.pt e,.pt e'=>e.beq e'
 |.fn f t,.fn f' t'=>nob (Nat.beq f f') (t.beq t')
 |.ifc f t,.ifc f' t'=>nob (Nat.beq f f') (t.beq t')
 |.mp k v,.mp k' v'=>nob (k.beq k') (v.beq v')
 |.op e,.op e'=>e.beq e'
 |.ns e,.ns e'=>e.beq e'
 |.er i,.er j=>Nat.beq i j
 |.any,.any=>true
 |_,_=>false
theorem T.beq_eq:{a b:T}->a.beq b=true->a=b
 |.int k,b,h=>by cases b <;> simp[T.beq]at h;rw[vd h]
 |.bool,b,h=>by cases b <;> simp[T.beq]at h;rfl
 |.str,b,h=>by cases b <;> simp[T.beq]at h;rfl
 |.u,b,h=>by cases b <;> simp[T.beq]at h;rfl
 |.p a1 a2,b,h=>by cases b <;> simp[T.beq]at h;rw[T.beq_eq h.1,T.beq_eq h.2]
 |.sl e,b,h=>by cases b <;> simp[T.beq]at h;rw[T.beq_eq h]
 |.pt e,b,h=>by cases b <;> simp[T.beq]at h;rw[T.beq_eq h]
 |.fn f t,b,h=>by cases b <;> simp[T.beq]at h;rw[h.1,T.beq_eq h.2]
 |.ifc f t,b,h=>by cases b <;> simp[T.beq]at h;rw[h.1,T.beq_eq h.2]
 |.mp k v,b,h=>by cases b <;> simp[T.beq]at h;rw[T.beq_eq h.1,T.beq_eq h.2]
 |.op e,b,h=>by cases b <;> simp[T.beq]at h;rw[T.beq_eq h]
 |.ns e,b,h=>by cases b <;> simp[T.beq]at h;rw[T.beq_eq h]
 |.er i,b,h=>by cases b <;> simp[T.beq]at h;rw[h]
 |.any,b,h=>by cases b <;> simp[T.beq]at h;rfl
def nw{a:T}(b:T)(x:a.den):Option b.den:=
 match h:a.beq b with
 |true=>some (T.beq_eq h▸x)
 |false=>none
theorem T.beq_refl:(a:T)->a.beq a=true
 |.int k=>anj k
 |.bool=>rfl
 |.str=>rfl
 |.u=>rfl
 |.p a b=>by simp only[T.beq,T.beq_refl a,T.beq_refl b,am,a2o]
 |.sl e=>by simp only[T.beq];exact T.beq_refl e
 |.pt e=>by simp only[T.beq];exact T.beq_refl e
 |.fn f t=>by simp only[T.beq,T.beq_refl t,am,a0k];exact a3v f
 |.ifc f t=>by simp only[T.beq,T.beq_refl t,am,a0k];exact a3v f
 |.mp k v=>by simp only[T.beq,T.beq_refl k,T.beq_refl v,am,a2o]
 |.op e=>by simp only[T.beq,T.beq_refl e]
 |.ns e=>by simp only[T.beq,T.beq_refl e]
 |.er i=>by simp only[T.beq];exact a3v i
 |.any=>rfl
theorem we{a:T}(x:a.den):nw a x=some x:=by
 unfold nw;split
 ·rfl
 ·rename_i h;rw[T.beq_refl a]at h;cases h
def T.dec:(t:T)->DecidableEq t.den
 |.int _=>fun a b=>decEq (α:=Int) a b
 |.bool=>fun a b=>decEq (α:=Bool) a b
 |.str=>fun a b=>decEq (α:=ByteArray) a b
 |.u=>fun _ _=>isTrue rfl
 |.p a b=>@instDecidableEqProd a.den b.den a.dec b.dec
 |.sl e=>@instDecidableEqList e.den e.dec
 |.pt t=>t.dec
 |.fn _ t=>t.dec
 |.ifc _ t=>t.dec
 |.mp k v=>@instDecidableEqList (k.den×v.den) (@instDecidableEqProd k.den v.den k.dec v.dec)
 |.op t=>@Option.instDecidableEq t.den t.dec
 |.ns t=>@Option.instDecidableEq t.den t.dec
 |.er _=>fun a b=>decEq (α:=Bool) a b
 |.any=>fun _ _=>isTrue rfl
def eqR(t:T)(a b:t.den):Bool:=@decide (a=b) (t.dec a b)
theorem e9{t:T}{a b:t.den}:eqR t a b=true<->a=b:=by simp[eqR]
@[simp] theorem arc {t:T} (a:t.den):eqR t a a=true:=e9.2 rfl
theorem aaj{t:T}{a b:t.den}(h:a≠b):eqR t a b=false:=by
 cases h':eqR t a b with
 |false=>rfl
 |true=>exact absurd (e9.1 h') h
def rp(k v:T)(l:List (k.den×v.den))(x:k.den):Option v.den:=(l.find? fun e=>eqR k x e.1).map (·.2)
def ais(k v:T)(l:List (k.den×v.den))(x:k.den):Bool:=(rp k v l x).isSome
def qh(k v:T)(l:List (k.den×v.den))(x:k.den):v.den:=(rp k v l x).getD v.dflt
def jl(k v:T):List (k.den×v.den)->k.den->v.den->List (k.den×v.den)
 |[],x,y=>[(x,y)]
 |e::r,x,y=>if eqR k x e.1=true then (x,y)::r else e::jl k v r x y
def T.intsN:T->Nat
 |.int _=>1
 |.p (.int _) b=>(match b.intsN with|0=>0|n+1=>Nat.succ (Nat.succ n))
 |_=>0
def T.ok:(t:T)->t.den->Prop
 |.int k,n=>inK k n
 |.str,s=>s.size<=nb
 |.p a b,x=>a.ok x.1/\b.ok x.2
 |.sl e,l=>l.length<=nb/\∀y∈l,e.ok y
 |.pt t,x=>t.ok x
 |.fn _ t,x=>t.ok x
 |.ifc _ t,x=>t.ok x
 |.mp k v,l=>l.length<=nb/\∀y∈l,k.ok y.1/\v.ok y.2
 |.op t,x=>∀y,x=some y->t.ok y
 |.ns t,x=>∀y,x=some y->t.ok y
 |.er _,_=>True
 |.bool,_=>True
 |.u,_=>True
 |.any,_=>True
inductive O where
 |fz (t:T)
 |p (a b:O)
 |sl (e:O)
 |pt (t:O)
 |mp (k v:T)
 |op (e:O)
@[reducible] def O.strip:O->T
 |.fz t=>t
 |.p a b=>.p a.strip b.strip
 |.sl e=>.sl e.strip
 |.pt t=>.pt t.strip
 |.mp k v=>.mp k v
 |.op e=>.op e.strip
def O.beq:O->O->Bool
 |.fz t,.fz t'=>t.beq t'
 |.p a b,.p a' b'=>nob (a.beq a') (b.beq b')
 |.sl e,.sl e'=>e.beq e'
 |.pt e,.pt e'=>e.beq e'
 |.mp k v,.mp k' v'=>nob (k.beq k') (v.beq v')
 |.op e,.op e'=>e.beq e'
 |_,_=>false
theorem O.beq_eq:{a b:O}->a.beq b=true->a=b
 |.fz t,b,h=>by cases b <;> simp[O.beq]at h;rw[T.beq_eq h]
 |.p a1 a2,b,h=>by cases b <;> simp[O.beq]at h;rw[O.beq_eq h.1,O.beq_eq h.2]
 |.sl e,b,h=>by cases b <;> simp[O.beq]at h;rw[O.beq_eq h]
 |.pt e,b,h=>by cases b <;> simp[O.beq]at h;rw[O.beq_eq h]
 |.mp k v,b,h=>by cases b <;> simp[O.beq]at h;rw[T.beq_eq h.1,T.beq_eq h.2]
 |.op e,b,h=>by cases b <;> simp[O.beq]at h;rw[O.beq_eq h]
theorem O.beq_refl:(o:O)->o.beq o=true
 |.fz t=>by simp only[O.beq];exact T.beq_refl t
 |.p a b=>by simp only[O.beq,O.beq_refl a,O.beq_refl b,am,a2o]
 |.sl e=>by simp only[O.beq];exact O.beq_refl e
 |.pt e=>by simp only[O.beq];exact O.beq_refl e
 |.mp k v=>by simp only[O.beq,T.beq_refl k,T.beq_refl v,am,a2o]
 |.op e=>by simp only[O.beq];exact O.beq_refl e
def O.wk:O->O->Bool
 |.p a b,.p a' b'=>nob (a.wk a') (b.wk b')
 |.sl e,.sl e'=>e.wk e'
 |.pt e,.pt e'=>e.wk e'
 |.mp k v,.mp k' v'=>nob (k.beq k') (v.beq v')
 |.op e,.op e'=>e.beq e'
 |o,.fz t=>o.strip.beq t
 |.fz (.p a b),.p a' b'=>nob (O.wk (.fz a) a') (O.wk (.fz b) b')
 |_,_=>false
structure Ob where
 o:O
 x:o.strip.den
def qg(q:Ob)(o:O):Option o.strip.den:=
 match h:q.o.beq o with
 |true=>some (O.beq_eq h▸q.x)
 |false=>none
def mkP(a b:Ob):Ob:=
 match a,b with
 |⟨.fz s,x⟩,⟨.fz t,y⟩=>⟨.fz (.p s t),(x,y)⟩
 |⟨o,x⟩,⟨o',y⟩=>⟨.p o o',(x,y)⟩
def T.deep:T->O
 |.p a b=>(match a.deep,b.deep with
  |.fz s,.fz t=>.fz (.p s t)
  |o,o'=>.p o o')
 |.sl e=>.sl e.deep
 |.mp k v=>.mp k v
 |t=>.fz t
theorem T.deep_strip:(t:T)->t.deep.strip=t
 |.p a b=>by
  have h1:=T.deep_strip a;have h2:=T.deep_strip b;simp only[T.deep];split
  ·rename_i h h';rw[h]at h1;rw[h']at h2;simp only[O.strip]at h1 h2⊢;rw[h1,h2]
  ·simp only[O.strip,h1,h2]
 |.sl e=>by simp only[T.deep,O.strip,T.deep_strip e]
 |.int _=>rfl
 |.bool=>rfl
 |.str=>rfl
 |.u=>rfl
 |.pt _=>rfl
 |.fn _ _=>rfl
 |.ifc _ _=>rfl
 |.mp _ _=>rfl
 |.op _=>rfl
 |.ns _=>rfl
 |.er _=>rfl
 |.any=>rfl
def O.dflt:(o:O)->o.strip.den
 |.fz t=>t.dflt
 |.p a b=>(a.dflt,b.dflt)
 |.sl _=>[]
 |.pt t=>t.dflt
 |.mp _ _=>[]
 |.op _=>none
inductive Step where
 |l
 |r
 |de
 |ix (i:Nat)
abbrev br:=List Step
def get:br->(o:O)->o.strip.den->Option Ob
 |[],o,x=>some ⟨o,x⟩
 |.l::π,.p a _,x=>get π a x.1
 |.r::π,.p _ b,x=>get π b x.2
 |.l::π,.fz (.p a _),x=>get π (.fz a) x.1
 |.r::π,.fz (.p _ b),x=>get π (.fz b) x.2
 |.ix i::π,.sl e,x=>get π e (x.getD i e.dflt)
 |.de::π,.pt t,x=>get π t x
 |_,_,_=>none
def set:br->(o:O)->o.strip.den->Ob->Option Ob
 |[],_,_,n=>some n
 |.l::π,.p a b,x,n=>(match set π a x.1 n with|some q=>some (mkP q ⟨b,x.2⟩)|none=>none)
 |.r::π,.p a b,x,n=>(match set π b x.2 n with|some q=>some (mkP ⟨a,x.1⟩ q)|none=>none)
 |.l::π,.fz (.p a b),x,n=>(match set π (.fz a) x.1 n with|some q=>some (mkP q ⟨.fz b,x.2⟩)|none=>none)
 |.r::π,.fz (.p a b),x,n=>(match set π (.fz b) x.2 n with|some q=>some (mkP ⟨.fz a,x.1⟩ q)|none=>none)
 |.ix i::π,.sl e,x,n=>(match set π e (x.getD i e.dflt) n with
  |some q=>(match qg q e with|some y=>some ⟨.sl e,x.set i y⟩|none=>none)
  |none=>none)
 |.de::π,.pt t,x,n=>(match set π t x n with|some q=>some ⟨.pt q.o,q.x⟩|none=>none)
 |_,_,_,_=>none
def af0:br->Bool
 |[]=>false
 |.ix _::_=>true
 |_::π=>af0 π
inductive V where
 |any
 |nl
 |np
 |u
 |d (t:T) (x:t.den)
 |ref (k:Nat) (π:br)
 |ad (k:Nat) (π:br)
 |p (a b:V)
 |ag (v:V)
 |tup (v:V)
 |gd (j:Nat) (w:Bool) (P:Prop) (v:V)
 |fn (f:FuncId) (v:V)
 |ifc (t:TypeId) (v:V)
 |bx (v:V)
abbrev Env:=List (Nat×V)
abbrev Mem:=List (Nat×Ob)
def gt:Env->Nat->V
 |[],_=>.any
 |(k,v)::r,t=>bif Nat.beq k t then v else gt r t
def go:Mem->Nat->Option Ob
 |[],_=>none
 |(k,v)::r,t=>bif Nat.beq k t then some v else go r t
def del(k:Nat):Mem->Mem
 |[]=>[]
 |(j,o)::r=>bif Nat.beq j k then del k r else (j,o)::del k r
def put(k:Nat)(o:Ob):Mem->Mem
 |[]=>[]
 |(j,x)::r=>bif Nat.beq j k then (k,o)::r else (j,x)::put k o r
def ml(M:Mem)(k:Nat)(π:br):Option Ob:=
 match go M k with
 |some ob=>get π ob.o ob.x
 |none=>none
def jw:(t:T)->t.den->V
 |.p a b,x=>.p (jw a x.1) (jw b x.2)
 |.u,_=>.u
 |t,x=>.d t x
def toV(k:Nat):br->(o:O)->o.strip.den->V
 |_,.fz t,x=>jw t x
 |π,.pt _,_=>.ad k (ap π [.de])
 |π,_,_=>.ref k π
def peq:br->br->Bool
 |[],[]=>true
 |.l::a,.l::b=>peq a b
 |.r::a,.r::b=>peq a b
 |.de::a,.de::b=>peq a b
 |_,_=>false
def gp:br->O->Option Nat
 |[],_=>some 0
 |.l::π,.p a _=>gp π a
 |.r::π,.p a b=>(match gp π b with|some n=>some (ai2 a.strip.size n)|none=>none)
 |.l::π,.fz (.p a _)=>gp π (.fz a)
 |.r::π,.fz (.p a b)=>(match gp π (.fz b)with|some n=>some (ai2 a.size n)|none=>none)
 |_,_=>none
def p9:br->O->Option Nat
 |.de::π,.pt o=>gp π o
 |_,_=>none
def xq:Option Nat->Option Nat->Bool
 |some a,some b=>dy a b
 |_,_=>false
def v6:br->Bool
 |[]=>true
 |_=>false
def O.hole:O->T
 |.fz t=>t
 |.p a b=>.p a.hole b.hole
 |.sl _=>.any
 |.pt _=>.any
 |.mp _ _=>.any
 |.op e=>.op e.strip
def O.holeX:(o:O)->o.strip.den->o.hole.den
 |.fz _,x=>x
 |.p a b,x=>(a.holeX x.1,b.holeX x.2)
 |.sl _,_=>()
 |.pt _,_=>()
 |.mp _ _,_=>()
 |.op _,_=>none
def trk:br->O->Option (List Nat)
 |[],_=>some []
 |.l::π,.p a _=>(match trk π a with|some l=>some (0::a.strip.size::l)|none=>none)
 |.r::π,.p a b=>(match trk π b with|some l=>some (1::a.strip.size::l)|none=>none)
 |.de::π,.pt t=>(match trk π t with|some l=>some (2::t.strip.size::l)|none=>none)
 |_,_=>none
def ay3:List Nat->List Nat->Bool
 |[],[]=>true
 |a::l,b::r=>nob (dy a b) (ay3 l r)
 |_,_=>false
theorem azj:∀{a b:List Nat},ay3 a b=true->a=b
 |[],[],_=>rfl
 |a::l,b::r,h=>by simp only[ay3,am,a0a,fa,a0t]at h;rw[h.1,azj h.2]
 |[],_::_,h=>by cases h
 |_::_,[],h=>by cases h
def ayt:Option (List Nat)->Option (List Nat)->Bool
 |some a,some b=>ay3 a b
 |_,_=>false
inductive Ev where
 |mv (r k:Nat)
 |kl (k:Nat)
 |cut (k:Nat) (o o':O)
 |fz (k:Nat) (ob:Ob)
 |un (k j:Nat)
 |tk (k:Nat) (o o':O)
def Ev.ref(k:Nat)(π:br):Ev->V
 |.mv r k'=>bif Nat.beq k r then .ref k' π else .ref k π
 |.kl r=>bif Nat.beq k r then .any else .ref k π
 |.cut r _ _=>bif Nat.beq k r then (bif v6 π then .ref k π else .any)else .ref k π
 |.fz r ob=>bif Nat.beq k r then (match get π ob.o ob.x with|some q=>jw q.o.strip q.x|none=>.any)else .ref k π
 |.un r _=>bif Nat.beq k r then .any else .ref k π
 |.tk r o o'=>bif Nat.beq k r then (bif orb (v6 π) (ayt (trk π o) (trk π o'))then .ref k π else .any)else .ref k π
def Ev.ad(k:Nat)(π:br):Ev->V
 |.mv r k'=>bif Nat.beq k r then .ad k' π else .ad k π
 |.kl r=>bif Nat.beq k r then .any else .ad k π
 |.cut r o o'=>bif Nat.beq k r then (bif xq (p9 π o) (p9 π o')then .ad k π else .any)else .ad k π
 |.fz r ob=>bif Nat.beq k r then (match get π ob.o ob.x with|some q=>.d (.pt q.o.strip) q.x|none=>.any)else .ad k π
 |.un r j=>bif Nat.beq k r then (match π with|[.de]=>.bx (.ad j [.de])|_=>.any)else .ad k π
 |.tk r o o'=>bif Nat.beq k r then (bif xq (p9 π o) (p9 π o')then .ad k π else .any)else .ad k π
def V.ev(e:Ev):V->V
 |.ref k π=>e.ref k π
 |.ad k π=>e.ad k π
 |.p a b=>.p (a.ev e) (b.ev e)
 |.ag v=>.ag (v.ev e)
 |.tup v=>.tup (v.ev e)
 |.gd j w P v=>.gd j w P (v.ev e)
 |.fn f v=>.fn f (v.ev e)
 |.ifc t v=>.ifc t (v.ev e)
 |.bx v=>.bx (v.ev e)
 |v=>v
def V.evs(v:V):List Ev->V
 |[]=>v
 |e::r=>(v.ev e).evs r
def evE(e:Ev):Env->Env
 |[]=>[]
 |(t,v)::r=>(t,v.ev e)::evE e r
def ql(env:Env):List Ev->Env
 |[]=>env
 |e::r=>ql (evE e env) r
end Go.Bm
/- The dv machine:what the operations give. -/
namespace Go.Bm
open Go.RowKit
structure Ty where
 ok:Bool
 agg:Bool
 bl:Bool
 st:Bool
 sz:Bool
 size:Nat
 bytes:Nat
 el:Option TypeId
 int:Option IntKind
 mp:Option (TypeId×TypeId)
 fld:List (Nat×TypeId×Nat)
 arr:Option (TypeId×Nat)
 ifc:Bool
def nf(P:Program)(i:TypeInfo)(u:TypeDesc):Ty:={
 ok:=true
 agg:=(match u with|.struct _=>true|.array _ _=>true|_=>false)
 bl:=(match u with|.bool=>true|_=>false)
 st:=(match u with|.string=>true|_=>false)
 sz:=(match u with|.struct fs=>fs.toList.all fun f=>(P.info? f.type).isSome|_=>false)
 size:=i.size
 bytes:=i.bytes
 el:=(match u with|.slice e=>some e|_=>none)
 int:=(match u with|.int k=>some k|_=>none)
 mp:=(match u with|.map k e=>(match P.info? e with|some ie=>(match ie.zero with|some (.agg _)=>none|some _=>some (k,e)|none=>none)|none=>none)|_=>none)
 fld:=(match u with|.struct fs=>fs.toList.map fun f=>(f.offset,f.type,P.cellsOf f.type)|_=>[])
 arr:=(match u with|.array n e=>some (e,n)|_=>none)
 ifc:=(match u with|.interface _=>true|_=>false) }
def bfz:Ty:=⟨false,false,false,false,false,0,0,none,none,none,[],none,false⟩
def ty(P:Program)(t:TypeId):Ty:=
 match P.info? t,P.underlying t with
 |some i,some u=>nf P i u
 |_,_=>bfz
def tyZ(P:Program)(t:TypeId):Option (List Value):=
 match P.info? t with
 |some i=>(match i.zero with|some z=>some z.cells.toList|none=>none)
 |none=>none
structure Mth where
 t:TypeId
 i:TypeId
 name:String
 f:FuncId
structure Tab where
 τ:TypeId->Ty
 σ:TypeId->T
 z:TypeId->Bool
 q:TypeId->Nat
 m:List Mth
def baq:List Mth->TypeId->TypeId->Bool
 |[],_,_=>false
 |e::r,t,i=>orb (nob (Nat.beq e.t t) (Nat.beq e.i i)) (baq r t i)
def aub:List Mth->TypeId->String->Option FuncId
 |[],_,_=>none
 |e::r,t,n=>bif nob (Nat.beq e.t t) (e.name==n)then some e.f else aub r t n
def afx:Nat->Nat->br
 |0,_=>[]
 |1,_=>[]
 |_+2,0=>[.l]
 |n+2,i+1=>.r::afx (Nat.succ n) i
def ci:br->T->Option Nat
 |[],_=>some 0
 |.l::π,.p a _=>ci π a
 |.r::π,.p a b=>(match ci π b with|some n=>some (ai2 a.size n)|none=>none)
 |_,_=>none
def arm:br->(t:T)->t.den->Option ((t:T)×t.den)
 |[],t,x=>some ⟨t,x⟩
 |.l::π,.p a _,x=>arm π a x.1
 |.r::π,.p _ b,x=>arm π b x.2
 |_,_,_=>none
structure Rs where
 vc:List Prop
 av:V
 ev:List Ev
 M:Mem
def b9(M:Mem):Rs:=⟨[False],.any,[],M⟩
def cw(q:List Prop×V)(M:Mem):Rs:=⟨q.1,q.2,[],M⟩
def bad:List Prop×V:=([False],.any)
def cj(v:V):List Prop×V:=([],v)
def ba:List Bool->Bool
 |[]=>true
 |b::r=>bif b then ba r else false
def inKb(k:IntKind)(n:Int):Bool:=ba [decide (k.min<=n),decide (n<=k.max)]
def rdV:Value->V
 |.int k n=>.d (.int k) n
 |.bool b=>.d .bool b
 |.string s=>.d .str s
 |.slice none n m=>bif nob (Nat.beq n 0) (Nat.beq m 0)then .nl else .any
 |.pointer none=>.np
 |.nilIface=>.d (.er 0) false
 |_=>.any
def rd(env:Env):Operand->V
 |.tmp t=>gt env t
 |.const v=>rdV v
 |.func f=>.fn f .u
 |.global _=>.any
def bgt:Value->Bool
 |.int k n=>inKb k n
 |.string s=>Nat.ble s.size nb
 |_=>true
def zd:Operand->Bool
 |.const v=>bgt v
 |_=>true
def V.boolV:V->Bool
 |.d .bool b=>b
 |_=>false
def V.isB:V->Bool
 |.d .bool _=>true
 |_=>false
def V.strip:V->V
 |.gd _ _ _ v=>v
 |v=>v
def ar(k:IntKind)(n:Int):List Prop×V:=
 match k with
 |.i64=>([inK .i64 n],.d (.int .i64) n)
 |k=>([],.d (.int k) (k.wrap n))
def bkh(k:IntKind)(a b:Int):Int:=k.wrap ((BitVec.ofInt k.bits a &&& BitVec.ofInt k.bits b).toNat:Nat)
def bfe(k:IntKind)(a b:Int):Int:=a.fdiv (2 ^ (min b.toNat k.bits))
def zj(op:BinOp)(k:IntKind)(a b:Int):List Prop×V:=
 match op with
 |.and=>cj (.d (.int k) (bkh k a b))
 |.shr=>([0<=b,inK k (bfe k a b)],.d (.int k) (bfe k a b))
 |.add=>ar k (a+b)
 |.sub=>ar k (a-b)
 |.mul=>ar k (a*b)
 |.quo=>(match ar k (a.tdiv b)with|(l,v)=>((b≠0)::l,v))
 |.rem=>([b≠0,inK k (a.tmod b)],.d (.int k) (a.tmod b))
 |.eql=>cj (.d .bool (a==b))
 |.neq=>cj (.d .bool (a != b))
 |.lss=>cj (.d .bool (decide (a<b)))
 |.leq=>cj (.d .bool (decide (a<=b)))
 |.gtr=>cj (.d .bool (decide (b<a)))
 |.geq=>cj (.d .bool (decide (b<=a)))
 |_=>bad
def mxR(a b:Int):Int:=if b>a then b else a
def mnR(a b:Int):Int:=if b<a then b else a
def azl(g:Bool)(x y:V):List Prop×V:=
 match x,y with
 |.d (.int k) a,.d (.int k') b=>bif yy k k' then cj (.d (.int k) (bif g then mxR a b else mnR a b))else bad
 |_,_=>bad
def ady(op:BinOp)(a b:ByteArray):List Prop×V:=
 match op with
 |.add=>([a.size+b.size<=nb],.d .str (a++b))
 |.eql=>cj (.d .bool (a.toList==b.toList))
 |.neq=>cj (.d .bool (!(a.toList==b.toList)))
 |.lss=>cj (.d .bool (Op.bytesLess a.toList b.toList))
 |.leq=>cj (.d .bool (Op.bytesLess a.toList b.toList||a.toList==b.toList))
 |.gtr=>cj (.d .bool (!(Op.bytesLess a.toList b.toList||a.toList==b.toList)))
 |.geq=>cj (.d .bool (!(Op.bytesLess a.toList b.toList)))
 |_=>bad
def aym(τ:Ty)(op:BinOp)(x y:V):List Prop×V:=
 match x,y with
 |.d (.int k) a,.d (.int k') b=>bif yy k k' then zj op k a b else bad
 |.d .bool a,.d .bool b=>bif ba [τ.ok,τ.bl]then (match op with
  |.eql=>cj (.d .bool (a==b))
  |.neq=>cj (.d .bool (a != b))
  |_=>bad)else bad
 |.d .str a,.d .str b=>ady op a b
 |_,_=>bad
def wz:Nat->V->V->Option Bool
 |1,.d (.int k) x,.d (.int k') y=>bif yy k k' then some (x==y)else none
 |Nat.succ (Nat.succ n),.p (.d (.int k) x) a,.p (.d (.int k') y) b=>(match wz (Nat.succ n) a b with
  |some r=>bif yy k k' then some ((x==y)&&r)else none
  |none=>none)
 |_,_,_=>none
def bng(n:Nat)(op:BinOp)(a b:V):List Prop×V:=
 match op,wz n a b with
 |.eql,some r=>cj (.d .bool r)
 |.neq,some r=>cj (.d .bool (!r))
 |_,_=>bad
def aud(B:Tab)(t:TypeId)(op:BinOp)(x y:V):List Prop×V:=
 match x,y with
 |.ag a,.ag b=>bng (B.q t) op a b
 |x,y=>aym (B.τ t) op x y
def bhx:Operand->Bool
 |.const .nilIface=>true
 |_=>false
def baz:Operand->Bool
 |.const (.slice none n m)=>nob (Nat.beq n 0) (Nat.beq m 0)
 |_=>false
def alr{α:Type}:Option (List α)->Bool
 |none=>true
 |some l=>!l.isEmpty
def aup(B:Tab)(t:TypeId)(op:BinOp)(z zi:Bool)(x y:V):List Prop×V:=
 match z,x,op with
 |true,.d (.ns (.sl _)) l,.eql=>bif ba [(B.τ t).ok,neg (isN (B.τ t).el)]then ([alr l=true],.d .bool l.isNone)else bad
 |true,.d (.ns (.sl _)) l,.neq=>bif ba [(B.τ t).ok,neg (isN (B.τ t).el)]then ([alr l=true],.d .bool l.isSome)else bad
 |_,.d (.er _) b,.eql=>bif ba [zi,(B.τ t).ok,(B.τ t).ifc]then cj (.d .bool (!b))else bad
 |_,.d (.er _) b,.neq=>bif ba [zi,(B.τ t).ok,(B.τ t).ifc]then cj (.d .bool b)else bad
 |_,_,_=>aud B t op x y
def bgh(op:UnOp)(x:V):List Prop×V:=
 match op,x with
 |.not,.d .bool b=>cj (.d .bool (!b))
 |.neg,.d (.int k) n=>ar k (0-n)
 |_,_=>bad
def aug(τ σ:Ty)(x:V):List Prop×V:=
 match x,τ.int,σ.int with
 |.d (.int k) n,some k1,some k'=>bif ba [τ.ok,σ.ok,yy k1 k]then (bif yy k k' then cj (.d (.int k) n)else cj (.d (.int k') (k'.wrap n)))else bad
 |_,_,_=>bad
def ag5(l:List Int):ByteArray:=⟨(l.map fun n=>UInt8.ofNat n.toNat).toArray⟩
def awk(M:Mem):V->Option (List Int)
 |.ref k π=>(match ml M k π with|some ⟨.sl (.fz (.int .u8)),l⟩=>some l|_=>none)
 |_=>none
def bky:Option IntKind->Bool
 |some .u8=>true
 |_=>false
def adt(B:Tab)(s d:TypeId)(M:Mem)(x:V):List Prop×V:=
 match (B.τ s).el,awk M x with
 |some e,some l=>bif ba [(B.τ s).ok,(B.τ d).ok,(B.τ d).st,(B.τ e).ok,bky (B.τ e).int]then cj (.d .str (ag5 l))else bad
 |_,_=>aug (B.τ s) (B.τ d) x
def nth:V->Nat->Option V
 |.p a _,0=>some a
 |.p _ b,i+1=>nth b i
 |_,_=>none
def ape(x:V)(i:Nat):List Prop×V:=
 match x with
 |.tup v=>(match nth v i with|some y=>cj y|none=>bad)
 |_=>bad
def ayo(x:V):List Prop×V:=
 match x with
 |.d (.pt t) y=>cj (.d (.pt t) y)
 |.ad k π=>cj (.ad k π)
 |.bx v=>cj (.bx v)
 |_=>bad
def bkj:Option Nat->Option Nat->Option Nat
 |some a,some b=>some (ai2 a b)
 |_,_=>none
def V.size(M:Mem):V->Option Nat
 |.p a b=>bkj (a.size M) (b.size M)
 |.u=>some 0
 |.ref k π=>(match ml M k π with|some q=>some q.o.strip.size|none=>none)
 |.d t _=>some t.size
 |.ad _ _=>some 1
 |.nl=>some 1
 |.np=>some 1
 |.fn _ _=>some 1
 |.ifc _ _=>some 1
 |.bx _=>some 1
 |_=>none
def jq(M:Mem)(v:V)(n:Nat):Bool:=match v.size M with|some m=>dy m n|none=>false
def gr(M:Mem):br->V->Option (Nat×V)
 |[],v=>some (0,v)
 |.l::π,.p a _=>gr M π a
 |.r::π,.p a b=>(match a.size M,gr M π b with|some m,some (n,v)=>some (ai2 m n,v)|_,_=>none)
 |π,.ref k ρ=>(match ml M k ρ,ml M k (ap ρ π)with
  |some q,some q'=>(match ci π q.o.strip with|some n=>some (n,toV k (ap ρ π) q'.o q'.x)|none=>none)
  |_,_=>none)
 |_,_=>none
def ali(M:Mem)(x:V)(π:br)(off:Nat):List Prop×V:=
 match x with
 |.d (.pt t) y=>(match ci π t,arm π t y with
  |some n,some q=>bif dy n off then cj (.d (.pt q.1) q.2)else bad
  |_,_=>bad)
 |.ad k ρ=>(match ml M k ρ with
  |some q=>(match ci π q.o.strip with
   |some n=>bif dy n off then cj (.ad k (ap ρ π))else bad
   |none=>bad)
  |none=>bad)
 |.bx v=>(match gr M π v with
  |some q=>bif dy q.1 off then cj (.bx q.2)else bad
  |none=>bad)
 |_=>bad
def ahg(τ:Ty)(M:Mem)(x:V)(i:Nat):List Prop×V:=
 match mr τ.fld i with
 |some (off,_,fsz)=>bif ba [τ.ok,neg (Nat.beq fsz 0)]then ali M x (afx (len τ.fld) i) off else bad
 |none=>bad
def wa(agg:Bool)(v:V):V:=bif agg then .ag v else v
def alf(B:Tab)(τ:Ty)(M:Mem)(x:V)(i:Nat):List Prop×V:=
 match mr τ.fld i,x with
 |some (off,ft,_),.ag v=>
  (match gr M (afx (len τ.fld) i) v with
  |some (n,w)=>bif ba [τ.ok,(B.τ ft).ok,dy n off,jq M w (B.τ ft).size,orb (B.τ ft).agg (dy (B.τ ft).size 1)]then cj (wa (B.τ ft).agg w)else bad
  |none=>bad)
 |_,_=>bad
def alh(B:Tab)(τ:Ty)(M:Mem)(x i:V):List Prop×V:=
 match τ.el,i with
 |some e,.d (.int _) n=>
  (match x with
  |.d (.sl t) l=>bif ba [τ.ok,(B.τ e).ok,dy t.size (B.τ e).size]then ([0<=n,n<l.length],.d (.pt t) (l.getD n.toNat t.dflt))else bad
  |.ref k π=>(match ml M k π with
   |some ⟨.sl o,l⟩=>bif ba [τ.ok,(B.τ e).ok,dy o.strip.size (B.τ e).size]then ([0<=n,n<l.length],.ad k (ap π [.ix n.toNat]))else bad
   |some ⟨.fz (.sl t),l⟩=>bif ba [τ.ok,(B.τ e).ok,dy t.size (B.τ e).size]then ([0<=n,n<l.length],.d (.pt t) (l.getD n.toNat t.dflt))else bad
   |_=>bad)
  |_=>bad)
 |_,_=>bad
def bfk(B:Tab)(τ:Ty)(e:TypeId)(n:Nat)(M:Mem)(x i:V):List Prop×V:=
 match i with
 |.d (.int _) m=>bif ba [τ.ok,(B.τ e).ok]then (match ali M x (afx n m.toNat) (Nat.mul m.toNat (B.τ e).size)with
  |(l,v)=>(((0:Int)<=m)::(m<(n:Int))::l,v))else bad
 |_=>bad
def ak2(B:Tab)(τ:Ty)(M:Mem)(x i:V):List Prop×V:=
 match τ.arr with
 |some (e,n)=>bfk B τ e n M x i
 |none=>alh B τ M x i
def bfc(τ:Ty)(x i:V):List Prop×V:=
 match x,i with
 |.d .str s,.d (.int _) n=>bif ba [τ.ok,τ.st]then ([0<=n,n<s.size],.d (.int .u8) ((s.data.toList.getD n.toNat 0).toNat))else bad
 |_,_=>bad
def w7(τ:Ty)(M:Mem)(x:V):List Prop×V:=
 match x with
 |.d (.pt t) y=>bif ba [τ.ok,dy t.size τ.size,orb τ.agg (dy t.size 1)]then cj (wa τ.agg (jw t y))else bad
 |.ad k π=>(match ml M k π with
  |some q=>bif ba [τ.ok,dy q.o.strip.size τ.size,orb τ.agg (dy q.o.strip.size 1)]then cj (wa τ.agg (toV k π q.o q.x))else bad
  |none=>bad)
 |.bx v=>bif ba [τ.ok,jq M v τ.size,orb τ.agg (dy τ.size 1)]then cj (wa τ.agg v)else bad
 |_=>bad
def aau{α:Type}(l:List α):List (Option α):=l.map some
def bgz{α:Type}(l:List α)(i:Nat):List (Option α):=(l.map some).set i none
def bjy{α:Type}(l:List (Option α))(i:Nat):Bool:=(l.getD i none).isSome
def aj3{α:Type}(z:α)(l:List (Option α))(i:Nat):α:=(l.getD i none).getD z
def bf8{α:Type}(l:List (Option α)):Bool:=l.all Option.isSome
def aqo{α:Type}(z:α)(l:List (Option α)):List α:=l.map fun x=>x.getD z
def gid:Nat:=1000000
def aas(τ:Ty)(M:Mem)(d:Option Nat)(x:V):Option Rs:=
 match x,d with
 |.ad k [.ix i],some d=>(match go M k with
  |some ⟨.sl (.op (.sl o)),l⟩=>some (bif ba [τ.ok,dy τ.size 1,neg τ.agg,neg (Nat.beq d k),Nat.ble (Nat.succ k) gid]then
    ⟨[bjy l i=true],.ref d [],[.cut k (.sl (.op (.sl o))) (.sl (.op (.sl o))),.kl d],(d,⟨.sl o,aj3 [] l i⟩)::del d (put k ⟨.sl (.op (.sl o)),l.set i none⟩ M)⟩else b9 M)
  |_=>none)
 |_,_=>none
def si(τ:Ty)(M:Mem)(d:Option Nat)(x:V):Rs:=
 match aas τ M d x with
 |some r=>r
 |none=>cw (w7 τ M x) M
def alc(τ:Ty)(M:Mem)(x:V):List Prop×V:=
 match x with
 |.d .str s=>bif ba [τ.ok,τ.st]then cj (.d (.int .i64) s.size)else bad
 |.d (.sl _) l=>bif ba [τ.ok,neg (isN τ.el)]then cj (.d (.int .i64) l.length)else bad
 |.d (.mp _ _) l=>bif ba [τ.ok,neg (isN τ.mp)]then cj (.d (.int .i64) l.length)else bad
 |.d (.ns (.sl _)) l=>bif ba [τ.ok,neg (isN τ.el)]then cj (.d (.int .i64) (l.getD []).length)else bad
 |.nl=>bif ba [τ.ok,neg (isN τ.el)]then cj (.d (.int .i64) (0:Int))else bad
 |.ref k π=>(match ml M k π with
  |some ⟨.sl _,l⟩=>bif ba [τ.ok,neg (isN τ.el)]then cj (.d (.int .i64) l.length)else bad
  |some ⟨.fz (.sl _),l⟩=>bif ba [τ.ok,neg (isN τ.el)]then cj (.d (.int .i64) l.length)else bad
  |some ⟨.mp _ _,l⟩=>bif ba [τ.ok,neg (isN τ.mp)]then cj (.d (.int .i64) l.length)else bad
  |_=>bad)
 |_=>bad
def azx(B:Tab)(τ:Ty)(x:V)(lo hi:Option V):List Prop×V:=
 match x,τ.el with
 |.d (.sl t) l,some e=>bif ba [τ.ok,(B.τ e).ok,dy t.size (B.τ e).size]then
   (match lo,hi with
   |none,none=>cj (.d (.sl t) l)
   |some (.d (.int _) a),none=>([0<=a,a<=l.length],.d (.sl t) (l.drop a.toNat))
   |none,some (.d (.int _) b)=>([0<=b,b<=l.length],.d (.sl t) (l.take b.toNat))
   |some (.d (.int _) a),some (.d (.int _) b)=>([0<=a,a<=b,b<=l.length],.d (.sl t) ((l.take b.toNat).drop a.toNat))
   |_,_=>bad)else bad
 |_,_=>bad
def ca(M:Mem):V->List Ev×Mem
 |.ref k _=>(match go M k with|some ob=>([.fz k ob],del k M)|none=>([],M))
 |.ad k _=>(match go M k with|some ob=>([.fz k ob],del k M)|none=>([],M))
 |.p a b=>(match ca M a with|(e,M')=>(match ca M' b with|(e',M'')=>(ap e e',M'')))
 |.ag v=>ca M v
 |.fn _ v=>ca M v
 |.ifc _ v=>ca M v
 |.bx v=>ca M v
 |.tup v=>ca M v
 |.gd _ _ _ v=>ca M v
 |_=>([],M)
def oq{α β:Type}(l:List (α×Option (List β))):List (α×List β):=l.map fun x=>(x.1,x.2.getD [])
def bmi(s:T)(x:s.den)(t:T):Option t.den:=
 match s,x,t with
 |.ns (.sl a),x,.sl b=>nw (.sl b) (a:=.sl a) (x.getD [])
 |.sl (.ns (.sl a)),x,.sl (.sl b)=>nw (.sl (.sl b)) (a:=.sl (.sl a)) (aqo [] x)
 |.sl (.p c (.ns (.sl a))),x,.sl (.p d (.sl b))=>nw (.sl (.p d (.sl b))) (a:=.sl (.p c (.sl a))) (oq x)
 |.sl a,x,.ns (.sl b)=>(match nw (.sl b) (a:=.sl a) x with|some y=>some (some y)|none=>none)
 |.er i,x,.er j=>bif Nat.beq i j then some x else (match x with|false=>some false|true=>none)
 |_,x,t=>nw t x
def coD:(s:T)->(x:s.den)->(t:T)->Option t.den
 |.p a b,x,.p c d=>(match coD a x.1 c,coD b x.2 d with|some y,some z=>some (y,z)|_,_=>none)
 |.pt a,x,.pt b=>coD a x b
 |s,x,t=>bmi s x t
def asD(s:T)(x:s.den)(t:T):Option t.den:=
 match nw t x with
 |some y=>some y
 |none=>coD s x t
def V.as:V->(t:T)->Option t.den
 |.d s x,t=>asD s x t
 |.nl,.sl _=>some []
 |.u,.u=>some ()
 |.p a b,.p t s=>(match a.as t,b.as s with|some x,some y=>some (x,y)|_,_=>none)
 |.fn f v,.fn f' t=>bif Nat.beq f f' then v.as t else none
 |.ifc f v,.ifc f' t=>bif Nat.beq f f' then v.as t else none
 |.bx v,.pt t=>v.as t
 |.np,.any=>some ()
 |_,_=>none
def an4(M:Mem)(k:Nat)(π:br)(t:T):Option t.den:=match ml M k π with|some q=>asD q.o.strip q.x t|none=>none
def V.view(M:Mem):V->(t:T)->Option t.den
 |.d s x,t=>asD s x t
 |.nl,.sl _=>some []
 |.u,.u=>some ()
 |.p a b,.p t s=>(match a.view M t,b.view M s with|some x,some y=>some (x,y)|_,_=>none)
 |.fn f v,.fn f' t=>bif Nat.beq f f' then v.view M t else none
 |.ifc f v,.ifc f' t=>bif Nat.beq f f' then v.view M t else none
 |.bx v,.pt t=>v.view M t
 |.ref k π,t=>an4 M k π t
 |.ad k π,.pt t=>an4 M k π t
 |.np,.any=>some ()
 |_,_=>none
def nx(r k:Nat):Bool:=ba [neg (Nat.beq r k),Nat.ble (Nat.succ r) gid]
def ze(k r:Nat)(ρ:br)(M:Mem):Option (Ob×List Ev×Mem):=
 bif neg (nx r k)then none else
  (match go M r with
  |some ob=>(match get ρ ob.o ob.x with
   |some q=>(match ρ with
    |[]=>some (q,[.kl r],del r M)
    |_=>bif af0 ρ then some (⟨.fz q.o.strip,q.x⟩,[.fz r ob],del r M)else
     (match set ρ ob.o ob.x ⟨.fz q.o.hole,q.o.holeX q.x⟩with
     |some ob'=>some (q,[.tk r ob.o ob'.o],put r ob' M)
     |none=>none))
   |none=>none)
  |none=>none)
def anh(k r:Nat)(ρ:br)(M:Mem):Option (Ob×List Ev×Mem):=
 bif neg (nx r k)then none else
  (match go M r,ρ with
  |some ⟨.pt o,x⟩,[.de]=>some (⟨.pt o,x⟩,[.kl r],del r M)
  |some ob,ρ=>(match get ρ ob.o ob.x with|some q=>some (⟨.fz (.pt q.o.strip),q.x⟩,[.fz r ob],del r M)|none=>none)
  |none,_=>none)
def conv(k:Nat):T->V->Mem->Option (Ob×List Ev×Mem)
 |.p t s,.p a b,M=>(match conv k t a M with
  |some (q,e,M')=>(match conv k s (b.evs e) M' with
   |some (q',e',M'')=>some (mkP q q',ap e e',M'')
   |none=>none)
  |none=>none)
 |_,.u,M=>some (⟨.fz .u,()⟩,[],M)
 |_,.d t x,M=>some (⟨.fz t,x⟩,[],M)
 |.sl t,.nl,M=>some (⟨.sl t.deep,[]⟩,[],M)
 |_,.np,M=>some (⟨.fz .any,()⟩,[],M)
 |_,.ref r ρ,M=>ze k r ρ M
 |_,.ad r ρ,M=>anh k r ρ M
 |_,.fn f .u,M=>some (⟨.fz (.fn f .u),()⟩,[],M)
 |_,_,_=>none
def acb(k:Nat)(o:O)(v:V)(M:Mem):Option (o.strip.den×List Ev×Mem):=
 match o with
 |.fz t=>(match ca M v with|(e,M')=>(match (v.evs e).as t with|some x=>some (x,e,M')|none=>none))
 |o=>(match conv k o.strip v M with
  |some (q,e,M')=>(match qg q o with|some x=>some (x,e,M')|none=>none)
  |none=>none)
def af6(k:Nat)(o:O)(v:V)(M:Mem):Option (o.strip.den×List Ev×Mem):=
 match o with
 |.op e=>(match acb k e v M with|some (x,ev,M')=>some (some x,ev,M')|none=>none)
 |o=>acb k o v M
def sw:br->Option (br×Nat)
 |[.ix i]=>some ([],i)
 |.l::π=>(match sw π with|some (p,i)=>some (.l::p,i)|none=>none)
 |.r::π=>(match sw π with|some (p,i)=>some (.r::p,i)|none=>none)
 |.de::π=>(match sw π with|some (p,i)=>some (.de::p,i)|none=>none)
 |_=>none
def bk9(π:br)(ob:Ob):Option Ob:=
 match sw π with
 |some (p,i)=>(match get p ob.o ob.x with
  |some ⟨.sl e,l⟩=>set p ob.o ob.x ⟨.sl (.op e),bgz l i⟩
  |_=>none)
 |none=>none
def bgr(π:br)(ob:Ob):Option (Prop×Ob):=
 match sw π with
 |some (p,_)=>(match get p ob.o ob.x with
  |some ⟨.sl (.op e),l⟩=>(match set p ob.o ob.x ⟨.sl e,aqo e.dflt l⟩with
   |some ob2=>some (bf8 l=true,ob2)
   |none=>none)
  |_=>none)
 |none=>none
def th:T->V
 |.p a b=>.p (th a) (th b)
 |.sl _=>.nl
 |.u=>.u
 |.pt _=>.d .any ()
 |.fn _ _=>.d .any ()
 |.er _=>.d .any ()
 |.any=>.d .any ()
 |t=>.d t t.dflt
def iq:br->V->V->Option V
 |[],_,n=>some n
 |.l::π,.p a b,n=>(match iq π a n with|some q=>some (.p q b)|none=>none)
 |.r::π,.p a b,n=>(match iq π b n with|some q=>some (.p a q)|none=>none)
 |_,_,_=>none
def V.cells:V->V
 |.ag v=>v
 |v=>v
@[reducible] def d3:List T->Type
 |[]=>Unit
 |t::r=>t.den×d3 r
@[reducible] def jc:List (Bool×O)->Type
 |[]=>Unit
 |q::r=>q.2.strip.den×jc r
def inN(k:Nat):List Nat->Bool
 |[]=>false
 |j::r=>bif Nat.beq j k then true else inN k r
def w8:List Nat->Bool
 |[]=>true
 |k::r=>bif inN k r then false else w8 r
structure Mt where
 o:O
 g:Bool
 pre:o.strip.den->Int->List Prop
 res:o.strip.den->Int->o.strip.den×Int
structure Wt where
 o:O
 as:List T
 ag:List Bool
 pre:o.strip.den->d3 as->List Prop
 new:o.strip.den->d3 as->o.strip.den
 rt:List (Bool×O)
 res:o.strip.den->d3 as->jc rt
structure Sp where
 args:List T
 ga:List Bool
 sh:Bool
 b:d3 args->Bool
 pre:d3 args->List Prop
 rt1:List (Bool×O)
 res1:d3 args->jc rt1
 rt0:List (Bool×O)
 res0:d3 args->jc rt0
structure Wa where
 o:O
 way:br
 as:List T
 pre:o.strip.den->d3 as->List Prop
 new:o.strip.den->d3 as->o.strip.den
structure Wc where
 o:O
 i:Nat
 as:List T
 ag:List Bool
 pre:o.strip.den->d3 as->List Prop
 new:o.strip.den->d3 as->o.strip.den
inductive Mu where
 |c (c:Wc)
 |m (m:Mt)
 |w (w:Wt)
 |s (s:Sp)
 |a (a:Wa)
structure Ct where
 args:List T
 ga:List Bool
 pre:d3 args->List Prop
 rt:List (Bool×O)
 res:d3 args->jc rt
 sh:Bool
 mu:Option Mu
def rz(s:Sp):Bool->Ct
 |true=>⟨s.args,s.ga,fun x=>(s.b x=true)::s.pre x,s.rt1,s.res1,s.sh,none⟩
 |false=>⟨s.args,s.ga,fun x=>(s.b x=false)::s.pre x,s.rt0,s.res0,s.sh,none⟩
def ux(M:Mem):List V->(ts:List T)->Option (d3 ts)
 |[],[]=>some ()
 |v::r,t::ts=>(match v.cells.view M t,ux M r ts with|some x,some y=>some (x,y)|_,_=>none)
 |_,_=>none
def cid(d j:Nat):Nat:=Nat.add (Nat.add 100000 (Nat.mul 100 d)) j
def fh(d:Nat):Nat->(o:O)->o.strip.den->V×Mem×Nat
 |j,.fz t,x=>(jw t x,[],j)
 |j,.p a b,x=>(match fh d j a x.1 with
  |(v,M,j')=>(match fh d j' b x.2 with
   |(v',M',j'')=>(.p v v',ap M' M,j'')))
 |j,.sl e,x=>(.ref (cid d j) [],[(cid d j,⟨.sl e,x⟩)],Nat.succ j)
 |j,.pt o,x=>(.ad (cid d j) [.de],[(cid d j,⟨.pt o,x⟩)],Nat.succ j)
 |j,.mp k v,x=>(.ref (cid d j) [],[(cid d j,⟨.mp k v,x⟩)],Nat.succ j)
 |j,.op _,_=>(.any,[],j)
def newL(d:Nat):Nat->(rs:List (Bool×O))->jc rs->V×Mem×Nat
 |j,[],_=>(.u,[],j)
 |j,q::r,x=>(match fh d j q.2 x.1 with
  |(v,M,j')=>(match newL d j' r x.2 with
   |(v',M',j'')=>(.p (wa q.1 v) v',ap M' M,j'')))
def anv:List (Bool×O)->V->V
 |[_],.p a _=>a
 |_,v=>.tup v
def p8:List Nat->Mem->Mem
 |[],M=>M
 |k::r,M=>p8 r (del k M)
def cc:Mem->List Nat
 |[]=>[]
 |(k,_)::r=>k::cc r
def klL:List Nat->List Ev
 |[]=>[]
 |k::r=>.kl k::klL r
def mi(M:Mem):List V->List Ev×Mem
 |[]=>([],M)
 |v::r=>(match ca M v with|(e,M')=>(match mi M' r with|(e',M'')=>(ap e e',M'')))
def qj(e:List Ev):List V->List V
 |[]=>[]
 |v::r=>v.evs e::qj e r
def qu(f:Operand->V):List Operand->List V
 |[]=>[]
 |x::r=>f x::qu f r
def asL:List V->(ts:List T)->Option (d3 ts)
 |[],[]=>some ()
 |v::r,t::ts=>(match v.cells.as t,asL r ts with|some x,some y=>some (x,y)|_,_=>none)
 |_,_=>none
def po:V->Bool
 |.ag _=>true
 |_=>false
def shp:List V->List Bool->Bool
 |[],[]=>true
 |v::r,g::gs=>bif po v then (bif g then shp r gs else false)else (bif g then false else shp r gs)
 |_,_=>false
def gw:V->List Nat
 |.ref k _=>[k]
 |.p a b=>ap (gw a) (gw b)
 |_=>[]
def bga(M:Mem)(k:Nat)(π:br)(o:O):Option o.strip.den:=match ml M k π with|some q=>qg q o|none=>none
def tm(M:Mem):(o:O)->V->Option o.strip.den
 |.fz t,v=>v.as t
 |.p a b,.p v v2=>(match tm M a v,tm M b v2 with|some x,some y=>some (x,y)|_,_=>none)
 |.p a b,.ref k π=>bga M k π (.p a b)
 |.sl e,.ref k π=>bga M k π (.sl e)
 |_,_=>none
def apr(k:Nat)(π:br)(o:O)(x:o.strip.den)(M:Mem):Option (List Ev×Mem):=
 match go M k with
 |some ob=>(match set π ob.o ob.x ⟨o,x⟩with|some ob'=>some ([.cut k ob.o ob'.o],put k ob' M)|none=>none)
 |none=>none
def wl:(o:O)->V->o.strip.den->Mem->Option (List Ev×Mem)
 |.fz _,_,_,M=>some ([],M)
 |.p a b,.p v v2,x,M=>(match wl a v x.1 M with
  |some (e,M')=>(match wl b v2 x.2 M' with|some (e',M'')=>some (ap e e',M'')|none=>none)
  |none=>none)
 |.p a b,.ref k π,x,M=>apr k π (.p a b) x M
 |.sl e,.ref k π,x,M=>apr k π (.sl e) x M
 |_,_,_,_=>none
def akz:List Nat->Bool
 |[]=>true
 |_=>false
def aii:List Nat->Bool
 |[]=>true
 |[_]=>true
 |k::k'::r=>bif Nat.ble gid k then (bif Nat.ble gid k' then aii (k'::r)else false)else (bif Nat.ble gid k' then false else aii (k'::r))
def ajo(m:Mt)(vs:List V)(M:Mem):Rs:=
 match vs with
 |[v,kv]=>bif ba [shp [v,kv] [m.g,false],w8 (gw v.cells),neg (akz (gw v.cells)),aii (gw v.cells)]then (match tm M m.o v.cells,kv.cells.as (.int .i64)with
   |some x,some k=>(match wl m.o v.cells (m.res x k).1 M with
    |some (.cut c o o'::e,M')=>⟨m.pre x k,.d (.int .i64) (m.res x k).2,.cut c o o'::e,M'⟩
    |_=>b9 M)
   |_,_=>b9 M)else b9 M
 |_=>b9 M
def aaw:br->Bool
 |[.de]=>true
 |_=>false
def bgd:br->Bool
 |[]=>true
 |_=>false
def ad5:V->Option Nat
 |.ad k π=>bif aaw π then some k else none
 |.ref k π=>bif bgd π then some k else none
 |_=>none
def ak3:O->Bool
 |.pt _=>true
 |.sl _=>true
 |_=>false
def deK:V->Option Nat
 |.ref k π=>bif aaw π then some k else none
 |_=>none
def slO:O->Bool
 |.sl _=>true
 |_=>false
def pbW(W:Wt):Wt:=⟨.pt W.o,W.as,W.ag,W.pre,W.new,W.rt,W.res⟩
def vx(k:Nat)(W:Wt)(d:Nat)(r:List V)(M:Mem):Rs:=
 bif shp r W.ag then (match mi M r with
   |(e,M1)=>(match go M1 k,asL (qj e r) W.as with
    |some ob,some y=>(match qg ob W.o with
     |some x=>(match newL d 0 W.rt (W.res x y)with
      |(v,N,_)=>bif inN k (cc N)then b9 M else
       ⟨W.pre x y,anv W.rt v,ap e (.cut k W.o W.o::klL (cc N)),ap N (p8 (cc N) (put k ⟨W.o,W.new x y⟩ M1))⟩)
     |none=>b9 M)
    |_,_=>b9 M))else b9 M
def aa8(W:Wt)(d:Nat)(vs:List V)(M:Mem):Rs:=
 match vs with
 |v0::r=>(match ad5 v0 with
  |some k=>bif ak3 W.o then vx k W d r M else b9 M
  |none=>(match deK v0 with
   |some k=>bif slO W.o then vx k (pbW W) d r M else b9 M
   |none=>b9 M))
 |_=>b9 M
def lrP:br->Bool
 |[]=>true
 |.l::π=>lrP π
 |.r::π=>lrP π
 |_=>false
def aft(o:O):br->Bool
 |.de::π=>(match o with|.pt _=>lrP π|_=>false)
 |_=>false
def ate(π:br):V->Option Nat
 |.ad k ρ=>bif peq π ρ then some k else none
 |_=>none
def aux(k:Nat):V->Bool
 |.ad j π=>nob (Nat.beq j k) (aaw π)
 |_=>false
def ad9(k:Nat):V->V
 |.bx v=>bif aux k v then .bx (.d .any ())else .bx v
 |.p a b=>.p (ad9 k a) (ad9 k b)
 |.fn f v=>.fn f (ad9 k v)
 |v=>v
def y9(k:Nat):List V->List V
 |[]=>[]
 |v::r=>ad9 k v::y9 k r
def aip:T->Bool
 |.any=>true
 |_=>false
def aiz:T->Bool
 |.pt t=>neg (aip t)
 |.p a b=>nob (aiz a) (aiz b)
 |.fn _ t=>aiz t
 |_=>true
def ot(k:Nat):V->T->Bool
 |.bx v,.pt t=>bif aux k v then aip t else neg (aip t)
 |.p a b,.p t s=>nob (ot k a t) (ot k b s)
 |.fn _ v,.fn _ t=>ot k v t
 |.ad _ _,t=>nob (aiz t) (Nat.beq t.size 1)
 |.d s _,t=>nob (aiz t) (Nat.beq s.size t.size)
 |.u,.u=>true
 |_,_=>false
def ao4(k:Nat):List V->List T->Bool
 |[],[]=>true
 |v::r,t::ts=>nob (ot k v t) (ao4 k r ts)
 |_,_=>false
def yv:List T->List Bool
 |[]=>[]
 |_::r=>false::yv r
def agc(W:Wa)(vs:List V)(M:Mem):Rs:=
 match vs with
 |v0::r=>(match ate W.way v0 with
  |some k=>bif ba [aft W.o W.way,ao4 k r W.as,shp (y9 k r) (yv W.as)]then (match mi M (y9 k r)with
   |(e,M1)=>(match go M1 k,asL (qj e (y9 k r)) W.as with
    |some ob,some y=>(match qg ob W.o with
     |some x=>⟨W.pre x y,.tup .u,ap e [.cut k W.o W.o],put k ⟨W.o,W.new x y⟩ M1⟩
     |none=>b9 M)
    |_,_=>b9 M))else b9 M
  |none=>b9 M)
 |_=>b9 M
def bg4:T->V->Option Nat
 |.any,.ad k π=>bif aaw π then some k else none
 |.p a b,.p v w=>(match bg4 a v with|some k=>some k|none=>bg4 b w)
 |.fn _ t,.fn _ v=>bg4 t v
 |_,_=>none
def ail(k:Nat):T->V->Bool
 |.any,.ad j π=>nob (Nat.beq j k) (aaw π)
 |.any,_=>false
 |.p a b,.p v w=>nob (ail k a v) (ail k b w)
 |.fn f t,.fn g v=>nob (Nat.beq f g) (ail k t v)
 |.p _ _,_=>false
 |.fn _ _,_=>false
 |_,_=>true
def ahe:T->V->V
 |.any,.ad _ _=>.np
 |.p a b,.p v w=>.p (ahe a v) (ahe b w)
 |.fn _ t,.fn g v=>.fn g (ahe t v)
 |_,v=>v
def ym(k:Nat):List Bool->List T->List V->Bool
 |[],[],[]=>true
 |true::gs,_::ts,_::vs=>ym k gs ts vs
 |false::gs,t::ts,v::vs=>nob (ail k t v) (ym k gs ts vs)
 |_,_,_=>false
def ajh:List Bool->List T->List V->List V
 |true::gs,_::ts,v::vs=>v::ajh gs ts vs
 |false::gs,t::ts,v::vs=>ahe t v::ajh gs ts vs
 |_,_,vs=>vs
def xg{α:Type}(x:α):List α->Nat->α
 |[],_=>x
 |y::_,0=>y
 |_::r,Nat.succ n=>xg x r n
def boxI(W:Wc)(vs:List V):Option Nat:=bif xg true W.ag W.i then none else bg4 (xg .u W.as W.i) (xg .u vs W.i)
def aid(W:Wc)(vs:List V)(M:Mem):Rs:=
 match boxI W vs with
 |some k=>bif nob (ym k W.ag W.as vs) (shp (ajh W.ag W.as vs) W.ag)then (match go M k,ux (del k M) (ajh W.ag W.as vs) W.as with
   |some ob,some y=>(match qg ob W.o with
    |some x=>⟨W.pre x y,.tup .u,[.cut k W.o W.o],put k ⟨W.o,W.new x y⟩ M⟩
    |none=>b9 M)
   |_,_=>b9 M)else b9 M
 |none=>b9 M
def xz(ct:Ct)(d:Nat)(vs:List V)(M:Mem):Rs:=
 match ct.mu with
 |some (.c W)=>aid W vs M
 |some (.m m)=>ajo m vs M
 |some (.w W)=>aa8 W d vs M
 |some (.s _)=>b9 M
 |some (.a W)=>agc W vs M
 |none=>
 bif shp vs ct.ga then
 (match ct.sh with
 |false=>(match ux M vs ct.args with
  |some x=>(match newL d 0 ct.rt (ct.res x)with
   |(v,N,_)=>⟨ct.pre x,anv ct.rt v,klL (cc N),ap N (p8 (cc N) M)⟩)
  |none=>b9 M)
 |true=>(match mi M vs with
  |(e,M')=>(match asL (qj e vs) ct.args with
   |some x=>(match newL d 0 ct.rt (ct.res x)with
    |(v,N,_)=>⟨ct.pre x,anv ct.rt v,ap e (klL (cc N)),ap N (p8 (cc N) M')⟩)
   |none=>b9 M)))else b9 M
def al9(B:Tab)(τ:Ty)(ρ:Operand->V)(x:Operand)(lo hi:Option Operand)(M:Mem):Rs:=
 match ρ x with
 |.ref r π=>(match ze gid r π M with
  |some (q,e,M')=>(match azx B τ (.d q.o.strip q.x) (vj (fun y=>(ρ y).evs e) lo) (vj (fun y=>(ρ y).evs e) hi)with
   |(l,v)=>⟨l,v,e,M'⟩)
  |none=>b9 M)
 |v=>cw (azx B τ v (vj ρ lo) (vj ρ hi)) M
def nsT:T->Bool
 |.ns _=>true
 |_=>false
def af2(B:Tab)(τ:Ty)(d:Option Nat)(ρ:Operand->V)(x:Operand)(lo hi:Option Operand)(M:Mem):Rs:=
 match ρ x,d,vj ρ lo,hi,τ.el with
 |.ref r [],some d,some (.d (.int _) a),none,some e=>(match go M r with
  |some ⟨.sl o,l⟩=>bif ba [nx r d,τ.ok,(B.τ e).ok,dy o.strip.size (B.τ e).size]then
    ⟨[0<=a,a<=l.length],.ref d [],[.kl r,.kl d],(d,⟨.sl o,l.drop a.toNat⟩)::del d (del r M)⟩else b9 M
  |_=>b9 M)
 |_,_,_,_,_=>b9 M
def wu(B:Tab)(t:TypeId)(d:Option Nat)(ρ:Operand->V)(x:Operand)(lo hi:Option Operand)(M:Mem):Rs:=bif nsT (B.σ t)then af2 B (B.τ t) d ρ x lo hi M else al9 B (B.τ t) ρ x lo hi M
inductive Src where
 |own (j:Nat) (e:O) (l:List e.strip.den)
 |dat (e:List Ev) (M:Mem) (t:T) (l:List t.den)
 |nil
def afz(M:Mem):V->Option Src
 |.nl=>some .nil
 |.d (.sl t) l=>some (.dat [] M t l)
 |.ref j π=>(match go M j,π with
  |some ⟨.sl e,l⟩,[]=>some (.own j e l)
  |some ob,π=>(match get π ob.o ob.x with
   |some ⟨.sl e,l⟩=>some (.dat [.fz j ob] (del j M) e.strip l)
   |some ⟨.fz (.sl t),l⟩=>some (.dat [.fz j ob] (del j M) t l)
   |_=>none)
  |none,_=>none)
 |_=>none
def eg(n m b:Nat):Prop:=(n+m)*b<=nb
def aec(b:Nat)(k:Nat)(e:O)(l:List e.strip.den)(j:Nat)(e':O)(m:List e'.strip.den)(ev:List Ev)(M:Mem)(M0:Mem):Rs:=
 match e'.beq e,qg ⟨.sl e',m⟩ (.sl e)with
 |true,some m=>⟨[eg l.length m.length b],.ref k [],ap ev [.kl j,.kl k],(k,⟨.sl e,l++m⟩)::del k (del j M)⟩
 |_,_=>(match nw (.sl e.strip) (a:=.sl e'.strip) m with
  |some m1=>⟨[eg l.length m1.length b],.ref k [],ap ev [.fz j ⟨.sl e',m⟩,.kl k],(k,⟨.sl (.fz e.strip),l++m1⟩)::del k (del j M)⟩
  |none=>b9 M0)
def aez(b:Nat)(k:Nat)(e:O)(l:List e.strip.den)(t:T)(m:List t.den)(ev:List Ev)(M:Mem)(M0:Mem):Rs:=
 match nw (.sl e.strip) (a:=.sl t) m with
 |some m=>⟨[eg l.length m.length b],.ref k [],ap ev [.kl k],(k,⟨.sl (.fz e.strip),l++m⟩)::del k M⟩
 |none=>b9 M0
def adv(B:Tab)(dst:Option Nat)(t:TypeId)(s x:V)(M:Mem):Rs:=
 match (B.τ t).el,dst,afz M x with
 |some e,some d,some src=>
  bif ba [(B.τ t).ok,(B.τ e).ok,neg (Nat.beq (B.τ e).bytes 0),B.z e,dy (B.σ e).size (B.τ e).size]then
   (match s with
   |.nl=>(match src with
    |.nil=>⟨[],.nl,[],M⟩
    |.own j e' m=>bif ba [nx j d,dy e'.strip.size (B.τ e).size]then⟨[eg 0 m.length (B.τ e).bytes],.ref d [],[.kl j,.kl d],(d,⟨.sl e',m⟩)::del d (del j M)⟩else b9 M
    |.dat ev M' t' m=>bif dy t'.size (B.τ e).size then⟨[eg 0 m.length (B.τ e).bytes],.ref d [],ap ev [.kl d],(d,⟨.sl (.fz t'),m⟩)::del d M'⟩else b9 M)
   |.ref k π=>(match go M k,π with
    |some ⟨.sl o,l⟩,[]=>bif ba [dy o.strip.size (B.τ e).size,Nat.ble (Nat.succ k) gid]then (match src with
     |.nil=>⟨[],.ref k [],[],M⟩
     |.own j e' m=>bif neg (nx j k)then b9 M else aec (B.τ e).bytes k o l j e' m [.kl k] (del k M) M
     |.dat ev M' t' m=>(match go M' k with|some _=>aez (B.τ e).bytes k o l t' m (ap ev [.kl k]) (del k M') M|none=>b9 M))else b9 M
    |some ob,π=>(match get π ob.o ob.x,set π ob.o ob.x ⟨.fz .any,()⟩with
     |some ⟨.sl o,l⟩,some ob'=>bif ba [dy o.strip.size (B.τ e).size,neg (Nat.beq d k),Nat.ble (Nat.succ k) gid]then (match src with
      |.nil=>⟨[],.ref k π,[],M⟩
      |.own j e' m=>bif ba [nx j k,nx j d]then aec (B.τ e).bytes d o l j e' m [.cut k ob.o ob'.o] (put k ob' M) M else b9 M
      |.dat ev M' t' m=>(match go M' k with|some _=>aez (B.τ e).bytes d o l t' m (ap ev [.cut k ob.o ob'.o]) (put k ob' M') M|none=>b9 M))else b9 M
     |some ⟨.sl o,l⟩,none=>(match bk9 π ob with
      |some ob'=>bif ba [dy o.strip.size (B.τ e).size,neg (Nat.beq d k),Nat.ble (Nat.succ k) gid]then (match src with
       |.nil=>b9 M
       |.own j e' m=>bif ba [nx j k,nx j d]then aec (B.τ e).bytes d o l j e' m [.tk k ob.o ob'.o] (put k ob' M) M else b9 M
       |.dat ev M' t' m=>(match go M' k with|some _=>aez (B.τ e).bytes d o l t' m (ap ev [.tk k ob.o ob'.o]) (put k ob' M') M|none=>b9 M))else b9 M
      |none=>b9 M)
     |_,_=>b9 M)
    |none,_=>b9 M)
   |_=>b9 M)
  else b9 M
 |_,_,_=>b9 M
def adw(B:Tab)(kty:TypeId):T->Bool
 |.int q=>(match (B.τ kty).int with|some q'=>ba [(B.τ kty).ok,yy q' q]|none=>false)
 |.str=>ba [(B.τ kty).ok,(B.τ kty).st]
 |.p a b=>nob (nob (B.τ kty).ok (isN (B.τ kty).arr)) (nob (neg (isZ (T.p a b).intsN)) (dy (T.p a b).intsN (B.q kty)))
 |_=>false
def vf(B:Tab)(ety:TypeId):T->Bool
 |.int q=>ba [(B.τ ety).ok,B.z ety,(B.σ ety).beq (.int q)]
 |.bool=>ba [(B.τ ety).ok,B.z ety,(B.σ ety).beq .bool]
 |_=>false
def ahh:V->T->Bool
 |.ag _,.p _ _=>true
 |.ag _,_=>false
 |_,.p _ _=>false
 |_,_=>true
structure Mp where
 k:T
 v:T
 l:(T.mp k v).den
def bla(M:Mem):V->Option Mp
 |.d (.mp k v) l=>some ⟨k,v,l⟩
 |.ref r π=>(match ml M r π with
  |some ⟨.mp k v,l⟩=>some ⟨k,v,l⟩
  |some ⟨.fz (.mp k v),l⟩=>some ⟨k,v,l⟩
  |_=>none)
 |_=>none
def as8(B:Tab)(t:TypeId)(M:Mem)(x i:V)(ok:Bool):List Prop×V:=
 match (B.τ t).mp,bla M x with
 |some (kty,ety),some ⟨k,v,l⟩=>bif ba [(B.τ t).ok,adw B kty k,vf B ety v,ahh i k]then
   (match i.cells.as k with
   |some y=>cj (bif ok then .tup (.p (.d v (qh k v l y)) (.p (.d .bool (ais k v l y)) .u))else .d v (qh k v l y))
   |none=>bad)else bad
 |_,_=>bad
def aom(B:Tab)(t:TypeId)(d:Option Nat)(M:Mem):Rs:=
 match (B.τ t).mp,d with
 |some (kty,ety),some d=>bif ba [(B.τ t).ok]then⟨[],.ref d [],[.kl d],(d,⟨.mp (B.σ kty) (B.σ ety),[]⟩)::del d M⟩else b9 M
 |_,_=>b9 M
def aow(B:Tab)(t:TypeId)(m i x:V)(M:Mem):Rs:=
 match (B.τ t).mp,m with
 |some (kty,ety),.ref r π=>(match go M r with
  |some ob=>(match get π ob.o ob.x with
   |some ⟨.mp k v,l⟩=>bif ba [(B.τ t).ok,adw B kty k,vf B ety v,ahh i k,neg (po x)]then
     (match i.cells.as k,x.cells.as v with
     |some y,some z=>(match set π ob.o ob.x ⟨.mp k v,jl k v l y z⟩with
      |some ob'=>(match qg ob' ob.o with
       |some x'=>⟨[eg l.length 1 1],.any,[.cut r ob.o ob.o],put r ⟨ob.o,x'⟩ M⟩
       |none=>b9 M)
      |none=>b9 M)
     |_,_=>b9 M)else b9 M
   |_=>b9 M)
  |none=>b9 M)
 |_,_=>b9 M
def fq:T->List Value->Bool
 |.p a b,zs=>nob (fq a (ff a.size zs)) (fq b (r8 a.size zs))
 |.u,[]=>true
 |.int k,[.int k' (.ofNat 0)]=>yy k k'
 |.bool,[.bool b]=>neg b
 |.str,[.string s]=>Nat.beq s.size 0
 |.sl _,[.slice none 0 0]=>true
 |.ns _,[.slice none 0 0]=>true
 |.any,[v]=>v.oneCell'
 |_,_=>false
def baj(B:Tab)(t:TypeId)(o:Option Nat)(M:Mem):Rs:=
 match o with
 |some k=>bif ba [(B.τ t).ok,B.z t]then
   ⟨[],.ad k [.de],[.kl k],(k,⟨.pt (B.σ t).deep,(B.σ t).deep.dflt⟩)::del k M⟩else b9 M
 |none=>b9 M
def ayy(B:Tab)(t:TypeId)(o:Option Nat)(x:V)(M:Mem):Rs:=
 match o with
 |some k=>(match conv k (B.σ t) (x.cells.ev (.kl k)) (del k M)with
  |some (q,e,M')=>⟨[],.ad k [.de],.kl k::e,(k,⟨.pt q.o,q.x⟩)::M'⟩
  |none=>bif neg (isN (x.cells.size M))then⟨[],.bx x.cells,[],M⟩else b9 M)
 |none=>b9 M
def sk(M:Mem)(place:Nat->Option (br×Nat×Nat))(f:Operand->V):List (Nat×Operand)->V->Option V
 |[],v=>some v
 |(i,x)::r,v=>(match place i with
  |some (π,off,n)=>(match gr M π v with
   |some (m,w)=>bif ba [dy m off,jq M w n,jq M (f x).cells n]then (match iq π v (f x).cells with|some v'=>sk M place f r v'|none=>none)else none
   |none=>none)
  |none=>none)
def bg2(B:Tab)(τ:Ty)(i:Nat):Option (br×Nat×Nat):=
 match τ.arr with
 |some (e,n)=>bif Nat.ble (Nat.succ i) n then some (afx n i,Nat.mul i (B.τ e).size,(B.τ e).size)else none
 |none=>(match mr τ.fld i with|some q=>some (afx (len τ.fld) i,q.1,q.2.2)|none=>none)
def apo(B:Tab)(τ:Ty):Bool:=
 match τ.arr with
 |some (e,_)=>(B.τ e).ok
 |none=>τ.sz
def xe(B:Tab)(t:TypeId)(parts:List (Nat×Operand))(f:Operand->V)(M:Mem):Rs:=
 bif ba [(B.τ t).ok,apo B (B.τ t),B.z t]then
   (match sk M (bg2 B (B.τ t)) f parts (th (B.σ t))with
   |some v=>⟨[],.ag v,[],M⟩
   |none=>b9 M)else b9 M
def ol(k:Nat)(o:O):List Ev->List V->Mem->Option (List o.strip.den×List Ev×Mem)
 |ev,[],M=>some ([],ev,M)
 |ev,v::r,M=>(match af6 k o (v.evs ev) M with
  |some (x,e,M')=>(match ol k o (ap ev e) r M' with
   |some (l,e',M'')=>some (x::l,e',M'')
   |none=>none)
  |none=>none)
def pg(M:Mem)(sz:Nat)(f:Operand->V):List (Nat×Operand)->List V->Option (List V)
 |[],l=>some l
 |(i,x)::r,l=>bif nob (Nat.ble (Nat.succ i) (len l)) (jq M (f x).cells sz)then pg M sz f r (ana l i (f x).cells)else none
def bhp:T->V
 |.ns (.sl e)=>.d (.ns (.sl e)) (some [])
 |_=>.nl
def aal(B:Tab)(t:TypeId)(n:Nat)(parts:List (Nat×Operand))(f:Operand->V)(o:Option Nat)(M:Mem):Rs:=
 match o,(B.τ t).el with
 |some k,some e=>
  (match pg M (B.τ e).size f parts (abp (th (B.σ e)) n)with
  |some l=>bif ba [(B.τ t).ok,(B.τ e).ok,B.z e,Nat.ble (Nat.mul n (B.τ e).size) 16777216,Nat.ble n nb,dy (B.σ e).size (B.τ e).size]then
    (match qj [.kl k] l with
    |[]=>⟨[],bhp (B.σ t),[],M⟩
    |v::r=>(match conv k (B.σ e) v (del k M)with
     |some (q,_,_)=>(match ol k q.o [] (v::r) (del k M)with
      |some (x,ev,M')=>⟨[],.ref k [],.kl k::ev,(k,⟨.sl q.o,x⟩)::M'⟩
      |none=>(match ol k (.fz (B.σ e)) [] (v::r) (del k M)with
       |some (x,ev,M')=>⟨[],.ref k [],.kl k::ev,(k,⟨.sl (.fz (B.σ e)),x⟩)::M'⟩
       |none=>b9 M))
     |none=>b9 M))else b9 M
  |none=>b9 M)
 |_,_=>b9 M
def aof(B:Tab)(t:TypeId)(l c:V)(o:Option Nat)(M:Mem):Rs:=
 match o,(B.τ t).el,l,c with
 |some k,some e,.d (.int _) nl,.d (.int _) nc=>
  bif ba [(B.τ t).ok,(B.τ e).ok,B.z e,dy (B.σ e).size (B.τ e).size]then
    ⟨[0<=nl,nl<=nc,nc<=nb,nc*(B.τ e).bytes<=nb],.ref k [],[.kl k],(k,⟨.sl (B.σ e).deep,List.replicate nl.toNat (B.σ e).deep.dflt⟩)::del k M⟩else b9 M
 |_,_,_,_=>b9 M
def acz(B:Tab)(t:TypeId)(x y:V)(M:Mem):Rs:=
 match x with
 |.ad k π=>(match go M k,ml M k π with
  |some ob,some q=>bif ba [(B.τ t).ok,jq M y.cells (B.τ t).size,dy q.o.strip.size (B.τ t).size,neg (isZ (B.τ t).size)]then
    (match (bif af0 π then (match af6 k q.o y.cells M with
      |some (z,e,M')=>some (⟨q.o,z⟩,e,M')
      |none=>none)else conv k (B.σ t) y.cells M)with
     |some (z,e,M')=>(match go M' k,set π ob.o ob.x z with
      |some _,some ob'=>bif dy z.o.strip.size (B.τ t).size then (match bgr π ob' with
      |some (c,ob2)=>⟨[c],.any,ap e [.cut k ob.o ob'.o,.cut k ob'.o ob2.o],put k ob2 M'⟩
      |none=>⟨[],.any,ap e [.cut k ob.o ob'.o],put k ob' M'⟩)else b9 M
      |_,_=>b9 M)
     |none=>b9 M)else b9 M
  |_,_=>b9 M)
 |_=>b9 M
def z8(x y:V)(M:Mem)(r:Rs):Rs:=
 match x,y with
 |.ad k [.de],.ad j [.de]=>(match go M k,go r.M k with
  |some ⟨.pt (.fz .any),_⟩,some ⟨.pt (.pt o),z⟩=>bif nob (Nat.blt k gid) (isN (go r.M j))then⟨r.vc,.any,ap r.ev [.un k j],(j,⟨.pt o,z⟩)::del k r.M⟩else r
  |_,_=>r)
 |_,_=>r
def ajf:V->Option (FuncId×V)
 |.fn f v=>some (f,v)
 |.d (.fn f t) x=>some (f,jw t x)
 |_=>none
def qa(M:Mem):V->Option (List V)
 |.u=>some []
 |.p a b=>(match qa M b with|some r=>bif jq M a 1 then some (a::r)else none|none=>none)
 |_=>none
def awr(M:Mem):List V->Option V
 |[]=>some .u
 |v::r=>(match awr M r with|some c=>bif nob (neg (po v)) (jq M v 1)then some (.p v c)else none|none=>none)
def auq(M:Mem)(fn:Fn)(first:List Operand)(vs:List V):List Prop×V:=
 match fn,first,awr M vs with
 |.func f,[],some c=>cj (.fn f c)
 |_,_,_=>bad
def ay5(B:Tab)(t:TypeId)(M:Mem)(x:V):List Prop×V:=
 match x with
 |.ag (.d .str _)=>bif ba [(B.τ t).ok,(B.τ t).agg]then cj (.d (.er t) true)else bad
 |x=>bif ba [(B.τ t).ok,neg (isN (B.τ t).el),neg (po x),jq M x 1]then cj (.ifc t x)else bad
def inI:V->Option (TypeId×V)
 |.ifc t v=>some (t,v)
 |.d (.ifc t T) y=>some (t,jw T y)
 |_=>none
def ay8(B:Tab)(i:TypeId)(ok:Bool)(x:V):List Prop×V:=
 match inI x with
 |some (t,_)=>bif baq B.m t i then cj (bif ok then .tup (.p x (.p (.d .bool true) .u))else x)else bad
 |none=>bad
def c9(B:Tab)(Φ:FuncId->Option Ct)(o:Oper)(ρ:Operand->V)(M:Mem):Rs:=
 match o.op with
 |.move x=>cw ([],ρ x) M
 |.assign x=>cw ([],ρ x) M
 |.nilCheck x=>cw (ayo (ρ x)) M
 |.load t x=>si (B.τ t) M o.dst (ρ x)
 |.fieldAddr t x i=>cw (ahg (B.τ t) M (ρ x) i) M
 |.field t x i=>cw (alf B (B.τ t) M (ρ x) i) M
 |.indexAddr t x i=>cw (ak2 B (B.τ t) M (ρ x) (ρ i)) M
 |.index t x i=>cw (bfc (B.τ t) (ρ x) (ρ i)) M
 |.binOp op t x y _=>cw (aup B t op (baz y) (bhx y) (ρ x) (ρ y)) M
 |.unOp op _ x=>cw (bgh op (ρ x)) M
 |.convert s d x=>cw (adt B s d M (ρ x)) M
 |.extract x i=>cw (ape (ρ x) i) M
 |.slice t x lo hi none=>wu B t o.dst ρ x lo hi M
 |.alloc e=>baj B e o.dst M
 |.box e x=>ayy B e o.dst (ρ x) M
 |.build t parts=>xe B t (toL parts) ρ M
 |.buildSlice t n parts=>aal B t n (toL parts) ρ o.dst M
 |.makeSlice t l c=>aof B t (ρ l) (ρ c) o.dst M
 |.store t x y=>z8 (ρ x) (ρ y) M (acz B t (ρ x) (ρ y) M)
 |.lookup t x i ok=>cw (as8 B t M (ρ x) (ρ i) ok) M
 |.makeMap t none=>aom B t o.dst M
 |.makeInterface t x=>cw (ay5 B t M (ρ x)) M
 |.typeAssert x _ i ok=>cw (ay8 B i ok (ρ x)) M
 |.mapUpdate t m i x=>aow B t (ρ m) (ρ i) (ρ x) M
 |.makeFunc fn fs cs=>cw (auq M fn (toL fs) (qu ρ (toL cs))) M
 |.call c=>(match c.callee with
  |.builtin .len=>(match toL c.args,toL c.argTypes with
   |[x],[t]=>cw (alc (B.τ t) M (ρ x)) M
   |_,_=>b9 M)
  |.builtin .max=>(match toL c.args with
   |[x,y]=>cw (azl true (ρ x) (ρ y)) M
   |_=>b9 M)
  |.builtin .min=>(match toL c.args with
   |[x,y]=>cw (azl false (ρ x) (ρ y)) M
   |_=>b9 M)
  |.builtin .append=>(match toL c.args,toL c.argTypes with
   |[x,y],[t,t']=>bif Nat.beq t t' then adv B o.dst t (ρ x) (ρ y) M else b9 M
   |_,_=>b9 M)
  |.value cx=>(match ajf (ρ cx),o.dst with
   |some (f,v),some d=>(match Φ f,qa M v with
    |some ct,some cs=>xz ct d (ap (qu ρ (toL c.args)) cs) M
    |_,_=>b9 M)
   |_,_=>b9 M)
  |.invoke r name=>(match inI (ρ r),o.dst with
   |some (t,v),some d=>(match aub B.m t name with
    |some f=>(match Φ f with
     |some ct=>xz ct d (v::qu ρ (toL c.args)) M
     |none=>b9 M)
    |none=>b9 M)
   |_,_=>b9 M)
  |_=>b9 M)
 |_=>b9 M
end Go.Bm
/- The dv machine:regions,code,loops. -/
namespace Go.Bm
open Go.RowKit
def aix:List Prop->Prop->Prop
 |[],K=>K
 |p::r,K=>p/\aix r K
def imp(g:Prop):List Prop->Prop->Prop
 |[],K=>K
 |p::r,K=>(g->aix r p)/\K
def cnd(b:Bool)(x y:Prop):Prop:=(b=true->x)/\(b=false->y)
def wr(d:Option Nat)(x:V)(env:Env):Env:=
 match d with
 |some d=>(d,x)::env
 |none=>env
def gc:V->Bool->Prop
 |.d .bool b,w=>b=w
 |.gd _ _ P v,w=>P/\gc v w
 |_,_=>False
def j9:V->Bool
 |.d .bool _=>true
 |.gd _ _ _ v=>j9 v
 |_=>false
def awp(a b:Bool):Bool:=bif a then b else neg b
def qf(f:Operand->V):List Operand->List Prop
 |[]=>[]
 |x::r=>(match f x with
  |.gd _ _ P _=>P::qf f r
  |_=>qf f r)
def nr(o:Oper):Bool:=
 match o.op with
 |.store _ _ _=>false
 |.mapUpdate _ _ _ _=>false
 |.call c=>(match c.callee with
  |.builtin .append=>false
  |_=>true)
 |_=>true
def fg(M:Mem):List Ev->Bool
 |[]=>true
 |.kl k::r=>nob (isN (go M k)) (fg M r)
 |_=>false
def avF(M0 M:Mem):V->V
 |.ref k π=>(match go M0 k with|some _=>.ref k π|none=>(match ml M k π with|some q=>jw q.o.strip q.x|none=>.any))
 |.ad k π=>(match go M0 k with|some _=>.ad k π|none=>(match ml M k π with|some q=>.d (.pt q.o.strip) q.x|none=>.any))
 |.p a b=>.p (avF M0 M a) (avF M0 M b)
 |.ag v=>.ag (avF M0 M v)
 |.tup v=>.tup (avF M0 M v)
 |.fn f v=>.fn f (avF M0 M v)
 |.ifc t v=>.ifc t (avF M0 M v)
 |.bx v=>.bx (avF M0 M v)
 |.gd _ _ _ _=>.any
 |v=>v
def ug(ops:List Oper)(j:Nat):Option Nat:=
 match mr ops j with
 |some o=>o.dst
 |none=>none
def ad7(cb:Bool)(side:Bool):V->List Prop
 |.gd _ _ P _=>[cb=side->P]
 |_=>[]
def ayp(cb:Bool)(a b:Operand)(av bv:Bool):Bool:=
 match a,b with
 |.const (.bool true),_=>cb||bv
 |_,.const (.bool false)=>cb&&av
 |_,_=>(bif cb then av else bv)
def aey(env:Env)(c a b:Operand):List Prop×V:=
 bif ba [(rd env c).strip.isB,(rd env a).strip.isB,(rd env b).strip.isB]then
  (ap (qf (rd env) [c]) (ap (ad7 (rd env c).strip.boolV true (rd env a)) (ad7 (rd env c).strip.boolV false (rd env b))),
   .d .bool (ayp (rd env c).strip.boolV a b (rd env a).strip.boolV (rd env b).strip.boolV))
 else bad
def cd:Op->List Operand
 |.move x=>[x]
 |.assign x=>[x]
 |.nilCheck x=>[x]
 |.load _ x=>[x]
 |.fieldAddr _ x _=>[x]
 |.field _ x _=>[x]
 |.indexAddr _ x i=>[x,i]
 |.index _ x i=>[x,i]
 |.binOp _ _ x y _=>[x,y]
 |.unOp _ _ x=>[x]
 |.convert _ _ x=>[x]
 |.extract x _=>[x]
 |.slice _ x lo hi _=>x::ap (optL lo) (optL hi)
 |.box _ x=>[x]
 |.build _ ps=>snds (toL ps)
 |.buildSlice _ _ ps=>snds (toL ps)
 |.makeSlice _ l c=>[l,c]
 |.store _ x y=>[x,y]
 |.lookup _ m i _=>[m,i]
 |.mapUpdate _ m i x=>[m,i,x]
 |.makeFunc _ fs cs=>ap (toL fs) (toL cs)
 |.call c=>ap (calO c.callee) (toL c.args)
 |.makeInterface _ x=>[x]
 |.typeAssert x _ _ _=>[x]
 |_=>[]
where
 calO:Callee->List Operand
  |.value x=>[x]
  |.invoke x _=>[x]
  |_=>[]
 optL:Option Operand->List Operand
  |none=>[]
  |some x=>[x]
 snds:List (Nat×Operand)->List Operand
  |[]=>[]
  |(_,x)::r=>x::snds r
def evR(B:Tab)(Φ:FuncId->Option Ct)(o:Oper)(env:Env)(M:Mem):Rs:=
 match o.op with
 |.pick c a b=>cw (aey env c a b) M
 |_=>(match c9 B Φ o (fun x=>(rd env x).strip) M with
  |⟨vc,v,e,M'⟩=>⟨ap (qf (rd env) (cd o.op)) vc,v,e,M'⟩)
def tw(B:Tab)(Φ:FuncId->Option Ct)(all:List Oper):List Oper->Env->Mem->(Env->Mem->Prop)->Prop
 |[],env,M,K=>K env M
 |o::rest,env,M,K=>
  (match o.guard with
  |none=>(match evR B Φ o env M with
   |⟨vc,v,e,M'⟩=>aix vc (tw B Φ all rest (wr o.dst v (ql env e)) M' K))
  |some (j,want)=>(match ug all j,evR B Φ o env M with
   |some dj,⟨vc,v,e,M'⟩=>bif ba [j9 (gt env dj),nr o,fg M e]then
     imp (gc (gt env dj) want) vc (tw B Φ all rest (wr o.dst (.gd j want (gc (gt env dj) want) (avF M M' v)) env) M K)else False
   |none,_=>False))
def dw(B:Tab)(Φ:FuncId->Option Ct)(all:List Oper):List Oper->Env->Mem->(Env->Prop)->Prop
 |[],env,_,K=>K env
 |o::rest,env,M,K=>
  (match o.guard with
  |none=>(match evR B Φ o env M with
   |⟨vc,v,e,M'⟩=>bif ba [nr o,fg M e]then aix vc (dw B Φ all rest (wr o.dst (avF M M' v) env) M K)else False)
  |some (j,want)=>(match ug all j,evR B Φ o env M with
   |some dj,⟨vc,v,e,M'⟩=>bif ba [j9 (gt env dj),nr o,fg M e]then
     imp (gc (gt env dj) want) vc (dw B Φ all rest (wr o.dst (.gd j want (gc (gt env dj) want) (avF M M' v)) env) M K)else False
   |none,_=>False))
def asc:List (Nat×Bool)->Nat->Bool->Bool
 |[],_,_=>false
 |(i,w)::r,j,w'=>bif nob (Nat.beq i j) (awp w w')then true else asc r j w'
def unG(fs:List (Nat×Bool)):V->V
 |.gd j w P v=>bif asc fs j w then v else .gd j w P v
 |v=>v
def um:V->Bool
 |.gd _ _ _ _=>true
 |_=>false
def tb(all:List Oper)(env:Env):Nat->Nat->Bool->List (Nat×Bool)
 |0,_,_=>[]
 |n+1,j,w=>(j,w)::(match ug all j with
  |some d=>(match gt env d with
   |.gd i w' _ _=>tb all env n i w'
   |_=>[])
  |none=>[])
def al5(t:Nat):Option Nat->Bool
 |some d=>Nat.beq d t
 |none=>false
def ays(all:List Oper)(c:Operand)(side:Bool)(v:V):V:=
 match c,v with
 |.tmp t,.gd j w P x=>bif nob (al5 t (ug all j)) (awp w side)then x else .gd j w P x
 |_,v=>v
def azb(all:List Oper)(fs:List (Nat×Bool))(env:Env)(c a b:Operand):List Prop×V:=
 bif ba [(rd env c).strip.isB,(rd env a).strip.isB,(rd env b).strip.isB]then
  (ap (qf (fun x=>unG fs (rd env x)) [c]) (ap (ad7 (rd env c).strip.boolV true (ays all c true (unG fs (rd env a)))) (ad7 (rd env c).strip.boolV false (ays all c false (unG fs (rd env b))))),
   .d .bool (ayp (rd env c).strip.boolV a b (rd env a).strip.boolV (rd env b).strip.boolV))
 else bad
def evG(B:Tab)(Φ:FuncId->Option Ct)(all:List Oper)(fs:List (Nat×Bool))(o:Oper)(env:Env)(M:Mem):Rs:=
 match o.op with
 |.pick c a b=>cw (azb all fs env c a b) M
 |_=>(match c9 B Φ o (fun x=>(rd env x).strip) M with
  |⟨vc,v,e,M'⟩=>⟨ap (qf (fun x=>unG fs (rd env x)) (cd o.op)) vc,v,e,M'⟩)
def wIn(d:Nat):List Oper->Bool
 |[]=>false
 |o::r=>bif al5 d o.dst then true else wIn d r
def twG(B:Tab)(Φ:FuncId->Option Ct)(all:List Oper):List Oper->Env->Mem->(Env->Mem->Prop)->Prop
 |[],env,M,K=>K env M
 |o::rest,env,M,K=>
  (match o.guard with
  |none=>(match evG B Φ all [] o env M with
   |⟨vc,v,e,M'⟩=>bif um v then False else aix vc (twG B Φ all rest (wr o.dst v (ql env e)) M' K))
  |some (j,want)=>(match ug all j,evG B Φ all (tb all env 8 j want) o env M with
   |some dj,⟨vc,v,e,M'⟩=>bif ba [j9 (gt env dj),nr o,fg M e,neg (wIn dj (o::rest))]then
     imp (gc (gt env dj) want) vc (twG B Φ all rest (wr o.dst (.gd j want (gc (gt env dj) want) (avF M M' v)) env) M K)else False
   |none,_=>False))
def dwG(B:Tab)(Φ:FuncId->Option Ct)(all tl:List Oper):List Oper->Env->Mem->(Env->Prop)->Prop
 |[],env,_,K=>K env
 |o::rest,env,M,K=>
  (match o.guard with
  |none=>(match evG B Φ all [] o env M with
   |⟨vc,v,e,M'⟩=>bif ba [nr o,fg M e]then aix vc (dwG B Φ all tl rest (wr o.dst (avF M M' v) env) M K)else False)
  |some (j,want)=>(match ug all j,evG B Φ all (tb all env 8 j want) o env M with
   |some dj,⟨vc,v,e,M'⟩=>bif ba [j9 (gt env dj),nr o,fg M e,neg (wIn dj (o::rest)),neg (wIn dj tl)]then
     imp (gc (gt env dj) want) vc (dwG B Φ all tl rest (wr o.dst (.gd j want (gc (gt env dj) want) (avF M M' v)) env) M K)else False
   |none,_=>False))
def nogd:Env->Bool
 |[]=>true
 |(_,v)::r=>bif um v then false else nogd r
def xy:Op->Bool
 |.move _=>true
 |.assign _=>true
 |.nilCheck _=>true
 |.load _ _=>true
 |.fieldAddr _ _ _=>true
 |.field _ _ _=>true
 |.indexAddr _ _ _=>true
 |.index _ _ _=>true
 |.binOp _ _ _ _ _=>true
 |.unOp _ _ _=>true
 |.convert _ _ _=>true
 |_=>false
def cz:V->Bool
 |.d _ _=>true
 |.nl=>true
 |.np=>true
 |.u=>true
 |.p a b=>nob (cz a) (cz b)
 |.ag v=>cz v
 |.fn _ v=>cz v
 |.bx v=>cz v
 |_=>false
def ahs(env:Env):List Operand->Bool
 |[]=>true
 |x::r=>nob (cz (rd env x)) (ahs env r)
def bmz(B:Tab)(e:TypeId):Ob:=⟨.pt (B.σ e).deep,(B.σ e).deep.dflt⟩
def brh(d:Nat):V->Bool
 |.ad k [.de]=>Nat.beq k d
 |_=>false
def one1(d:Nat):Rs->Option Ob
 |⟨[],_,_,[(k,ob)]⟩=>bif Nat.beq k d then some ob else none
 |_=>none
def bx(_:Tab)(_:FuncId->Option Ct)(_:List Oper)(_:Env)(_:Mem)(_:Env->Mem->Prop):Prop:=False
def adu:Op->Bool
 |.move _=>true
 |.assign _=>true
 |.extract _ _=>true
 |_=>false
def newK:Op->Bool
 |.alloc _=>true
 |.build _ _=>true
 |.makeSlice _ _ _=>true
 |.buildSlice _ n p=>nob (Nat.beq n 0) (Nat.beq (len (toL p)) 0)
 |.call c=>(match c.callee with
  |.value _=>true
  |.builtin .len=>true
  |_=>false)
 |_=>false
def abf(M:Mem):V->Bool
 |.p a b=>nob (abf M a) (abf M b)
 |.ag v=>abf M v
 |.fn _ v=>abf M v
 |.bx v=>abf M v
 |.ref k _=>neg (isN (go M k))
 |.ad k _=>neg (isN (go M k))
 |.gd _ _ _ _=>false
 |.ifc _ _=>false
 |.tup _=>false
 |_=>true
def akc(M:Mem)(env:Env):List Operand->Bool
 |[]=>true
 |x::r=>nob (abf M (rd env x)) (akc M env r)
def sldK(o:Op)(env:Env):Bool:=
 match o with
 |.slice _ _ _ _ none=>ahs env (cd o)
 |_=>false
def litK(o:Op)(env:Env):Bool:=
 match o with
 |.buildSlice _ _ _=>ahs env (cd o)
 |.call c=>(match c.callee with
  |.builtin .append=>ahs env (cd o)
  |_=>false)
 |_=>false
def aiw(M:Mem)(o:Op)(env:Env):Bool:=orb (adu o) (orb (orb (sldK o env) (litK o env)) (nob (orb (xy o) (newK o)) (akc M env (cd o))))
def klB:List Ev->Mem->Bool
 |[],[]=>true
 |.kl k::r,(j,_)::N=>nob (Nat.beq k j) (klB r N)
 |_,_=>false
def af5:List Nat->Mem->Bool
 |[],_=>true
 |k::r,M=>nob (isN (go M k)) (af5 r M)
def uj:V->Bool
 |.p a b=>nob (uj a) (uj b)
 |.ag v=>uj v
 |.tup v=>uj v
 |.fn _ v=>uj v
 |.ifc _ v=>uj v
 |.bx v=>uj v
 |.gd _ _ _ _=>false
 |_=>true
def xv:Env->Bool
 |[]=>true
 |(_,v)::r=>nob (uj v) (xv r)
def aao:Op->Bool
 |.build _ _=>true
 |.slice _ _ _ _ none=>true
 |.call c=>(match c.callee with
  |.builtin .len=>true
  |_=>false)
 |_=>false
def tz(o:Op):Bool:=nob (orb (xy o) (aao o)) (neg (adu o))
def ksV(ks:List Nat):V->Bool
 |.d _ _=>true
 |.nl=>true
 |.np=>true
 |.u=>true
 |.p a b=>nob (ksV ks a) (ksV ks b)
 |.ag v=>ksV ks v
 |.fn _ v=>ksV ks v
 |.bx v=>ksV ks v
 |.ref k _=>inN k ks
 |.ad k _=>inN k ks
 |_=>false
def t8(ks:List Nat)(env:Env):List Operand->Bool
 |[]=>true
 |x::r=>nob (ksV ks (rd env x)) (t8 ks env r)
def an6(env:Env):List Oper->List Nat
 |[]=>[]
 |o::r=>(match o.op with
  |.load _ (.tmp t)=>(match gt env t with
   |.bx (.ad k _)=>k::an6 env r
   |_=>an6 env r)
  |_=>an6 env r)
def bfd(τ:Ty):Bool:=ba [τ.ok,dy τ.size 1,neg τ.agg]
def bxK(B:Tab)(as:List Nat)(o:Op)(env:Env):Bool:=
 match o with
 |.load t (.tmp t0)=>(match gt env t0 with
  |.bx (.ad k π)=>ba [aaw π,inN k as,bfd (B.τ t)]
  |_=>false)
 |_=>false
def af7(as:List Nat):Ev->Bool
 |.kl k=>neg (inN k as)
 |.fz k _=>neg (inN k as)
 |.cut k o o'=>orb (neg (inN k as)) (xq (p9 [.de] o) (p9 [.de] o'))
 |.mv j _=>neg (inN j as)
 |.un j _=>neg (inN j as)
 |.tk k o o'=>orb (neg (inN k as)) (xq (p9 [.de] o) (p9 [.de] o'))
def alj(as:List Nat):List Ev->Bool
 |[]=>true
 |e::r=>nob (af7 as e) (alj as r)
def ake(ms:List Nat)(o:Oper):Nat:=o.after.toList.foldl (fun m e=>if Region.binds .any e then m |||(1 <<< e.on) |||(ms.getD e.on 0)else m) 0
def ef:List Nat->List Oper->List Nat
 |ms,[]=>ms
 |ms,o::r=>ef (ms++[ake ms o]) r
def rq(n:Nat)(ms:List Nat)(m i:Nat):Bool:=(List.range n).any fun j=>!(Nat.blt j m)&&!((ms.getD j 0).testBit i)
def ay1(l:List Oper)(m:Nat):List Bool:=(List.range m).map fun i=>rq (len l) (ef [] l) m i
def aiq:List Bool->Bool
 |[]=>false
 |b::_=>b
def aik:List Bool->List Bool
 |[]=>[]
 |_::r=>r
def hx(D:List Bool)(ks as:List Nat)(B:Tab)(Φ:FuncId->Option Ct)(M0:Mem):List Oper->Env->Mem->(Env->Mem->Prop)->Prop
 |[],env,X,K=>K env X
 |o::r,env,X,K=>
  (match o.guard,o.dst with
  |none,some d=>bif aiw (ap X M0) o.op env then (match evR B Φ o env (ap X M0)with
   |⟨vc,v,e,N⟩=>bif ba [klB e (ff (len e) N),af5 (cc (ff (len e) N)) M0,af5 (cc (ff (len e) N)) X,uj v,orb (neg (aiq D)) (orb (neg (tz o.op)) (orb (bxK B as o.op env) (nob (t8 ks env (cd o.op)) (ksV ks v))))]then aix vc (hx (aik D) ks as B Φ M0 r ((d,v)::env) (ap (ff (len e) N) X) K)else False)else False
  |_,_=>False)
def brg(o:Oper):Bool:=
 match o.op with
 |.call c=>(match c.callee with
  |.value _=>true
  |_=>false)
 |_=>false
def ath(o:Oper):Bool:=
 match o.op with
 |.call c=>(match c.callee with
  |.value _=>true
  |.builtin .append=>true
  |_=>false)
 |.buildSlice _ _ _=>true
 |.binOp _ _ _ _ _=>true
 |.unOp _ _ _=>true
 |.convert _ _ _=>true
 |_=>false
def ig(ks:List Nat):Ev->Bool
 |.kl k=>neg (inN k ks)
 |.fz k _=>neg (inN k ks)
 |.cut k _ _=>neg (inN k ks)
 |.mv j k=>nob (neg (inN j ks)) (neg (inN k ks))
 |.un j k=>nob (neg (inN j ks)) (neg (inN k ks))
 |.tk k _ _=>neg (inN k ks)
def c8(ks:List Nat):List Ev->Bool
 |[]=>true
 |e::r=>nob (ig ks e) (c8 ks r)
def ab7(l:List Oper)(m:Nat):List Bool:=(List.range (Nat.sub (len l) m)).map fun j=>(List.range m).any fun i=>!(((ef [] l).getD (Nat.add m j) 0).testBit i)
def aoy:List Bool->List Oper->List Oper
 |b::bs,o::r=>bif nob b (tz o.op)then o::aoy bs r else aoy bs r
 |_,_=>[]
def abt(l:List Oper)(m:Nat):List (List Oper):=(List.range (Nat.sub (len l) m)).map fun j=>aoy ((List.range m).map fun i=>!(((ef [] l).getD (Nat.add m j) 0).testBit i)) (ff m l)
def hdP:List (List Oper)->List Oper
 |[]=>[]
 |a::_=>a
def tlP:List (List Oper)->List (List Oper)
 |[]=>[]
 |_::r=>r
def aoe:br->br->Bool
 |[],[]=>true
 |.l::a,.l::b=>aoe a b
 |.r::a,.r::b=>aoe a b
 |.de::a,.de::b=>aoe a b
 |.ix i::a,.ix j::b=>nob (Nat.beq i j) (aoe a b)
 |_,_=>false
def bkt:V->V->Bool
 |.ref k π,.ref j ρ=>nob (Nat.beq k j) (aoe π ρ)
 |.ad k π,.ad j ρ=>nob (Nat.beq k j) (aoe π ρ)
 |_,_=>false
def stB(B:Tab)(Φ:FuncId->Option Ct)(ks:List Nat):List Oper->Env->Mem->Bool
 |[],_,_=>true
 |o::r,env,M=>(match o.dst,evR B Φ o env M with
  |some d,⟨[],v,[],_⟩=>nob (nob (aiw M o.op env) (nob (t8 ks env (cd o.op)) (ksV ks v))) (nob (bkt v (gt env d)) (stB B Φ ks r env M))
  |_,_=>false)
def ba3(o:Oper):Bool:=
 match o.op with
 |.store _ _ _=>true
 |_=>false
def ayx:List Oper->Bool
 |[]=>true
 |o::r=>nob (neg (tz o.op)) (ayx r)
def afc(ks as:List Nat)(B:Tab)(Φ:FuncId->Option Ct):List (List Oper)->List Bool->List Oper->Env->Mem->Bool
 |_,_,[],_,_=>true
 |ls,fs,o::r,env,M=>(match evR B Φ o env M with
  |⟨_,v,e,M'⟩=>nob (nob (nob (alj as e) (orb (neg (aiq fs)) (orb (akz ks) (orb (neg (ath o)) (orb (c8 ks e) (stB B Φ ks (hdP ls) (wr o.dst v (ql env e)) M')))))) (orb (neg (ba3 o)) (orb (akz ks) (orb (ayx (hdP ls)) (orb (c8 ks e) (stB B Φ ks (hdP ls) (wr o.dst v (ql env e)) M')))))) (afc ks as B Φ (tlP ls) (aik fs) r (wr o.dst v (ql env e)) M'))
def ac9:List Oper->List Nat
 |[]=>[]
 |o::r=>(match o.op,o.dst with
  |.alloc _,some d=>d::ac9 r
  |_,_=>ac9 r)
def tgt(o:Oper):Option Nat:=
 match o.op with
 |.store _ (.tmp d) _=>some d
 |_=>none
def bgq:List Oper->List Nat
 |[]=>[]
 |o::r=>(match tgt o with
  |some d=>d::bgq r
  |none=>bgq r)
def at7(env:Env):List Operand->List Nat
 |[]=>[]
 |x::r=>(match rd env x with
  |.ad k _=>k::at7 env r
  |.ref k _=>k::at7 env r
  |_=>at7 env r)
def agx(env:Env):List Oper->List Nat
 |[]=>[]
 |o::r=>ap (at7 env (cd o.op)) (agx env r)
def klE:List Nat->Env->Env
 |[],env=>env
 |k::r,env=>klE r (evE (.kl k) env)
def klM:List Nat->Mem->Mem
 |[],M=>M
 |k::r,M=>klM r (del k M)
def clr:Env->Env
 |[]=>[]
 |(t,v)::r=>(match v with|.gd _ _ _ _=>(t,.any)::clr r|v=>(t,v)::clr r)
def bf0(Φ:FuncId->Option Ct)(f:FuncId)(ct:Ct):FuncId->Option Ct:=fun g=>bif Nat.beq g f then some ct else Φ g
structure Spl where
 b:Bool
 f:FuncId
 s:Sp
def argX(s:Sp)(vs:List V)(M:Mem):Option (d3 s.args):=
 match s.sh with
 |false=>ux M vs s.args
 |true=>(match mi M vs with|(e,_)=>asL (qj e vs) s.args)
def ao9(Φ:FuncId->Option Ct)(o:Oper)(env:Env)(M:Mem):Option Spl:=
 match o.op with
 |.call c=>(match c.callee with
  |.value cx=>(match ajf (rd env cx).strip with
   |some (f,v)=>(match Φ f,qa M v with
    |some ct,some cs=>(match ct.mu with
     |some (.s s)=>(match argX s (ap (qu (fun x=>(rd env x).strip) (toL c.args)) cs) M with
      |some x=>some ⟨s.b x,f,s⟩
      |none=>none)
     |_=>none)
    |_,_=>none)
   |none=>none)
  |_=>none)
 |_=>none
def twS(B:Tab)(Φ:FuncId->Option Ct)(all:List Oper):List Oper->Env->Mem->(Env->Mem->Prop)->Prop
 |[],env,M,K=>K env M
 |o::rest,env,M,K=>bif nob (nogd env) (isN o.guard)then
  (match ao9 Φ o env M with
  |some q=>cnd q.b (twG B (bf0 Φ q.f (rz q.s true)) all [o] env M (fun env M=>twS B Φ all rest env M K)) (twG B (bf0 Φ q.f (rz q.s false)) all [o] env M (fun env M=>twS B Φ all rest env M K))
  |none=>twG B Φ all [o] env M (fun env M=>twS B Φ all rest env M K))else False
def twQ(_:Tab)(_:FuncId->Option Ct)(_:List Oper)(_:List Oper)(_:Env)(_:Mem)(_:Env->Mem->Prop):Prop:=False
def plc:List Nat->Nat->Nat
 |[],_=>0
 |k::r,i=>bif Nat.beq k i then 0 else Nat.succ (plc r i)
def bhc{α β:Type}(f:α->β):List α->List β
 |[]=>[]
 |x::r=>f x::bhc f r
def bkf(σ:List Nat)(e:Edge):Edge:={ e with on:=plc σ e.on }
def akr(σ:List Nat)(o:Oper):Oper:={ o with after:=⟨bhc (bkf σ) (toL o.after)⟩ }
def aak(σ:List Nat)(l:List Oper):List Nat->List Oper
 |[]=>[]
 |k::r=>(match mr l k with|some o=>akr σ o::aak σ l r|none=>aak σ l r)
def bm7(f:List Nat):List Edge->Bool
 |[]=>false
 |e::r=>bif nob (Region.binds .any e) (inN e.on f)then true else bm7 f r
def slow(R:Bool)(o:Oper):Bool:=orb (neg (nr o)) (orb (nob R (brg o)) (match o.op with
 |.box _ _=>true
 |_=>false))
def avm(R:Bool):Nat->List Oper->List Nat->List Nat
 |_,[],f=>f
 |j,o::r,f=>bif orb (slow R o) (bm7 f (toL o.after))then avm R (Nat.succ j) r (ap f [j])else avm R (Nat.succ j) r f
def bki(f:List Nat):Nat->List Oper->List Nat
 |_,[]=>[]
 |j,_::r=>bif inN j f then bki f (Nat.succ j) r else j::bki f (Nat.succ j) r
def asw(R:Bool)(l:List Oper):List Nat:=match avm R 0 l []with|f=>ap (bki f 0 l) f
def ib(R:Bool)(l:List Oper):List Oper:=match asw R l with|σ=>aak σ l σ
inductive Sh where
 |d (t:T)
 |ref (k:Nat) (π:br)
 |ad (k:Nat) (π:br)
 |fn (f:FuncId)
 |bx (s:Sh)
 |fc (f:FuncId) (s:Sh)
 |pr (a b:Sh)
 |u
@[reducible] def Sh.den:Sh->Type
 |.d t=>t.den
 |.bx s=>s.den
 |.fc _ s=>s.den
 |.pr a b=>a.den×b.den
 |_=>Unit
def oOf(k:Nat):List (Nat×O)->Option O
 |[]=>none
 |(j,o)::r=>bif Nat.beq j k then some o else oOf k r
def ay7(M:Mem)(os:List (Nat×O))(k:Nat)(π:br):Bool:=
 match go M k,oOf k os with
 |some q,some o=>orb (v6 π) (q.o.beq o)
 |_,_=>false
def bfp(M:Mem)(os:List (Nat×O))(k:Nat)(π:br):Bool:=
 match go M k,oOf k os with
 |some q,some o=>orb (xq (p9 π q.o) (p9 π o)) (q.o.beq o)
 |_,_=>false
def Sh.read(M:Mem)(os:List (Nat×O)):(s:Sh)->V->Option s.den
 |.d t,v=>v.as t
 |.ref k π,.ref k' π'=>bif nob (ay7 M os k π) (nob (Nat.beq k k') (peq π π'))then some ()else none
 |.ad k π,.ad k' π'=>bif nob (bfp M os k π) (nob (Nat.beq k k') (peq π π'))then some ()else none
 |.fn f,.fn f' .u=>bif Nat.beq f f' then some ()else none
 |.bx s,.bx v=>s.read M os v
 |.fc f s,.fn f' v=>bif Nat.beq f f' then s.read M os v else none
 |.pr a b,.p v v'=>(match a.read M os v,b.read M os v' with|some x,some y=>some (x,y)|_,_=>none)
 |.u,.u=>some ()
 |_,_=>none
def Sh.put:(s:Sh)->s.den->V
 |.d t,x=>jw t x
 |.ref k π,_=>.ref k π
 |.ad k π,_=>.ad k π
 |.fn f,_=>.fn f .u
 |.bx s,x=>.bx (s.put x)
 |.fc f s,x=>.fn f (s.put x)
 |.pr a b,x=>.p (a.put x.1) (b.put x.2)
 |.u,_=>.u
abbrev Shs:=List (Nat×Sh)
abbrev Obs:=List (Nat×O)
@[reducible] def zz:Shs->Type
 |[]=>Unit
 |(_,s)::r=>s.den×zz r
@[reducible] def ru:Obs->Type
 |[]=>Unit
 |(_,o)::r=>o.strip.den×ru r
def apk(M:Mem)(os:Obs)(env:Env):(l:Shs)->Option (zz l)
 |[]=>some ()
 |(t,s)::r=>(match s.read M os (gt env t),apk M os env r with|some x,some y=>some (x,y)|_,_=>none)
def akx:(l:Shs)->zz l->Env
 |[],_=>[]
 |(t,s)::r,x=>(t,s.put x.1)::akx r x.2
def wkO(q:Ob)(o:O):Option o.strip.den:=bif q.o.wk o then nw o.strip q.x else none
def wg(M:Mem):(l:Obs)->Option (ru l)
 |[]=>some ()
 |(k,o)::r=>(match go M k with
  |some q=>(match wkO q o,wg M r with|some x,some y=>some (x,y)|_,_=>none)
  |none=>none)
def kw:(l:Obs)->ru l->Mem
 |[],_=>[]
 |(k,o)::r,x=>(k,⟨o,x.1⟩)::kw r x.2
def inO(k:Nat):Obs->Bool
 |[]=>false
 |(j,_)::r=>orb (Nat.beq j k) (inO k r)
def pu(os:Obs):List Nat->Mem->Env->Env×Mem
 |[],M,env=>(env,M)
 |k::r,M,env=>bif inO k os then pu os r M env else (match go M k with
  |some ob=>pu os r (del k M) (evE (.fz k ob) env)
  |none=>pu os r M env)
def qw(os:Obs):Shs->Env->Mem->Env×Mem
 |[],env,M=>(env,M)
 |(t,.ref k [])::r,env,M=>(match gt env t,oOf k os with
  |.nl,some (.sl o)=>qw os r ((t,.ref k [])::evE (.kl k) env) ((k,⟨.sl o,[]⟩)::del k M)
  |.ref j [],_=>bif orb (Nat.beq j k) (neg (Nat.ble (Nat.succ j) gid))then qw os r env M else (match go M j with
   |some ob=>qw os r (evE (.mv j k) (evE (.kl k) env)) ((k,ob)::del j (del k M))
   |none=>qw os r env M)
  |_,_=>qw os r env M)
 |_::r,env,M=>qw os r env M
def ad8:Obs->Env->Mem->Env×Mem
 |[],env,M=>(env,M)
 |(k,.sl (.op e))::r,env,M=>(match go M k with
  |some ⟨.sl e',l⟩=>(match qg ⟨.sl e',l⟩ (.sl e)with
   |some l'=>ad8 r (evE (.cut k (.sl e') (.sl (.op e))) env) (put k ⟨.sl (.op e),aau l'⟩ M)
   |none=>ad8 r env M)
  |_=>ad8 r env M)
 |_::r,env,M=>ad8 r env M
def aif(ss:Shs)(os:Obs)(env:Env)(M:Mem):Option ((zz ss×ru os)×Env):=
 match qw os ss env M with
 |(env0,M0)=>match ad8 os env0 M0 with
 |(env1,M1)=>(match pu os (cc M1) M1 env1 with
  |(env2,M2)=>(match apk M2 os env2 ss,wg M2 os with
   |some x,some y=>some ((x,y),env2)
   |_,_=>none))
def agu(env:Env):List Nat->Env
 |[]=>[]
 |t::r=>bif cz (gt env t)then (t,gt env t)::agu env r else agu env r
def ul(k:Nat):List Nat->Bool
 |[]=>false
 |j::r=>orb (Nat.beq j k) (ul k r)
def azq(ks:List Nat):List Oper->Bool
 |[]=>true
 |o::r=>(match o.dst with
  |some d=>bif ul d ks then false else azq ks r
  |none=>azq ks r)
def noW(ks:List Nat):Code->Bool
 |.region _ ops _=>azq ks (toL ops)
 |.seq a b=>nob (noW ks a) (noW ks b)
 |.cond _ a b=>nob (noW ks a) (noW ks b)
 |.block _ c=>noW ks c
 |.loop c=>noW ks c
 |.scope c=>noW ks c
 |.label _=>true
 |.skip=>true
 |.ret=>true
 |.exit _=>true
 |.goto _=>true
 |_=>false
def T.oks:(t:T)->t.den->List Prop
 |.int k,n=>[inK k n]
 |.p a b,x=>ap (a.oks x.1) (b.oks x.2)
 |.sl e,l=>[(T.sl e).ok l]
 |.pt t,x=>t.oks x
 |.fn _ t,x=>t.oks x
 |.ifc _ t,x=>t.oks x
 |.mp k v,l=>[(T.mp k v).ok l]
 |.op t,x=>[(T.op t).ok x]
 |.ns t,x=>[(T.ns t).ok x]
 |.str,s=>[s.size<=nb]
 |.er _,_=>[]
 |.bool,_=>[]
 |.u,_=>[]
 |.any,_=>[]
def Sh.oks:(s:Sh)->s.den->List Prop
 |.d t,x=>t.oks x
 |.bx s,x=>s.oks x
 |.fc _ s,x=>s.oks x
 |.pr a b,x=>ap (a.oks x.1) (b.oks x.2)
 |.ref _ _,_=>[]
 |.ad _ _,_=>[]
 |.fn _,_=>[]
 |.u,_=>[]
def okS:(l:Shs)->zz l->List Prop
 |[],_=>[]
 |(_,s)::r,x=>ap (s.oks x.1) (okS r x.2)
def okO:(l:Obs)->ru l->List Prop
 |[],_=>[]
 |(_,o)::r,x=>ap (o.strip.oks x.1) (okO r x.2)
def ai7:List Prop->Prop->Prop
 |[],K=>K
 |p::r,K=>p->ai7 r K
def al0{S:Type}(body:S->(S->Prop)->Prop):Nat->S->Prop
 |0,_=>False
 |n+1,s=>body s (al0 body n)
def bj{S:Type}(body:S->(S->Prop)->Prop)(s:S):Prop:=∃n,al0 body n s
def ji{S:Type}(k:S->Prop)(f:(S->Prop)->Prop):Prop:=f k
inductive Ann where
 |n
 |s (a b:Ann)
 |l (ss:Shs) (os:Obs) (ks:List Nat) (a:Ann)
 |j (ss:Shs) (os:Obs) (ks:List Nat) (a:Ann)
def Ann.fst:Ann->Ann
 |.s a _=>a
 |a=>a
def Ann.snd:Ann->Ann
 |.s _ b=>b
 |a=>a
inductive Ex where
 |nm
 |ex (id:Nat)
 |rt
 |go (l:Nat)
def bgf(ss:Shs)(os:Obs)(env:Env)(M:Mem)(k:zz ss×ru os->Prop):Prop:=
 match aif ss os env M with
 |some s=>k s.1
 |none=>False
def bal(next:Env->Mem->Prop)(K:Ex->Env->Mem->Prop):Ex->Env->Mem->Prop
 |.nm,env,M=>next env M
 |.ex id,env,M=>K (.ex id) env M
 |.rt,env,M=>K .rt env M
 |.go l,env,M=>K (.go l) env M
def af8(ss:Shs)(os:Obs)(k:zz ss×ru os->Prop)(K:Ex->Env->Mem->Prop):Ex->Env->Mem->Prop
 |.nm,env,M=>bgf ss os env M k
 |.ex id,env,M=>K (.ex id) env M
 |.rt,env,M=>K .rt env M
 |.go l,env,M=>K (.go l) env M
def ba0(id:Nat)(K:Ex->Env->Mem->Prop):Ex->Env->Mem->Prop
 |.nm,env,M=>K .nm env M
 |.ex id',env,M=>bif Nat.beq id' id then K .nm env M else K (.ex id') env M
 |.rt,env,M=>K .rt env M
 |.go l,env,M=>K (.go l) env M
def scpK(K:Ex->Env->Mem->Prop):Ex->Env->Mem->Prop
 |.nm,env,M=>K .nm env M
 |.ex id,env,M=>K (.ex id) env M
 |.rt,env,M=>K .rt env M
 |.go _,_,_=>False
def onK(ss:Shs)(os:Obs)(ks:List Nat)(env:Env)(K:Ex->Env->Mem->Prop)(s:zz ss×ru os):Prop:=ai7 (okS ss s.1) (ai7 (okO os s.2) (K .nm (ap (akx ss s.1) (agu env ks)) (kw os s.2)))
def decN:Nat->Nat->List Nat
 |0,_=>[]
 |f+1,n=>bif Nat.beq n 0 then []else Nat.sub (Nat.mod n 10000000) 1::decN f (Nat.div n 10000000)
def decK(n:Nat):List Nat:=decN 20 (Nat.div n 10000)
def hrC(n:Nat):Bool:=neg (Nat.ble 5000 (Nat.mod n 10000))
def mC(n:Nat):Nat:=Nat.mod n 2500
def bk0(n:Nat):Nat:=bif Nat.ble 5000 n then 5000 else bif Nat.ble 3000 n then 3000 else 2000
def bmb(n:Nat):Bool:=nob (Nat.ble 3000 n) (neg (Nat.ble 5000 n))
def fzL:List (Bool×O)->List (Bool×O)
 |[]=>[]
 |q::r=>(q.1,.fz q.2.strip)::fzL r
def fzX:(rt:List (Bool×O))->jc rt->jc (fzL rt)
 |[],_=>()
 |_::r,x=>(x.1,fzX r x.2)
def fzCt(ct:Ct):Ct:=⟨ct.args,ct.ga,ct.pre,fzL ct.rt,fun x=>fzX ct.rt (ct.res x),true,none⟩
def bgp(Φ:FuncId->Option Ct):FuncId->Option Ct:=fun f=>match Φ f with
 |some ct=>(match ct.mu with
  |none=>some (fzCt ct)
  |some _=>some ct)
 |none=>none
def bav(env:Env):List Operand->List Nat
 |[]=>[]
 |x::r=>(match rd env x with
  |.ref k _=>k::bav env r
  |_=>bav env r)
def aso(env:Env):List Oper->List Nat
 |[]=>[]
 |o::r=>ap (bav env (cd o.op)) (aso env r)
def alo:Nat->List Oper->Nat
 |i,[]=>i
 |i,o::r=>(match o.op with
  |.alloc _=>i
  |_=>alo (Nat.succ i) r)
def aay:Nat->List Oper->Nat
 |i,[]=>i
 |i,o::r=>bif nr o then aay (Nat.succ i) r else i
def bmm(i:Nat)(o:Oper):Oper:={ o with after:=⟨ap (toL o.after) [⟨i,.data⟩]⟩ }
def bkx:Nat->Nat->List Oper->List Oper
 |_,_,[]=>[]
 |0,i,o::r=>bmm i o::r
 |Nat.succ j,i,o::r=>o::bkx j i r
def bgi:Nat->Nat->List Nat
 |_,0=>[]
 |a,Nat.succ k=>a::bgi (Nat.succ a) k
def mvS(i j n:Nat):List Nat:=ap (bgi 0 i) (j::ap (bgi i (Nat.sub j i)) (bgi (Nat.succ j) (Nat.sub n (Nat.succ j))))
def bfs(l:List Oper):List Oper:=bkx (alo 0 l) (aay 0 l) l
def bgm(l:List Oper):List Oper:=aak (mvS (aay 0 l) (alo 0 l) (len l)) (bkx (aay 0 l) (alo 0 l) l) (mvS (aay 0 l) (alo 0 l) (len l))
def hxT(_:Tab)(_:FuncId->Option Ct)(_:List Oper)(_:Nat)(_:Env)(_:Mem)(_:Env->Mem->Prop):Prop:=False
def ev(B:Tab)(Φ:FuncId->Option Ct)(cut:Nat->Nat):Code->Ann->(Ex->Env->Mem->Prop)->Env->Mem->Prop
 |.skip,_,K,env,M=>K .nm env M
 |.ret,_,K,env,M=>K .rt env M
 |.exit id,_,K,env,M=>K (.ex id) env M
 |.goto l,_,K,env,M=>K (.go l) env M
 |.label _,_,K,env,M=>K .nm env M
 |.scope c,A,K,env,M=>ev B Φ cut c A (scpK K) env M
 |.seq x y,.j ss os ks A,K,env,M=>bif noW ks x then
   ji (onK ss os ks env (bal (fun env M=>ev B Φ cut y A.snd K env M) K)) (fun k=>ev B Φ cut x A.fst (af8 ss os k (bal (fun env M=>ev B Φ cut y A.snd K env M) K)) env M)else False
 |.seq x y,A,K,env,M=>ev B Φ cut x A.fst (bal (fun env M=>ev B Φ cut y A.snd K env M) K) env M
 |.region id ops draw,_,K,env,M=>
  (match draw with
  |false=>bif Nat.beq (cut id) 1600 then (bif nogd env then twQ B Φ (toL ops) (toL ops) env M (fun env M=>K .nm (clr env) M)else False)else
   bif Nat.beq (cut id) 1500 then twS B Φ (toL ops) (toL ops) env M (fun env M=>K .nm (clr env) M)else
   bif nogd env then twG B Φ (toL ops) (toL ops) env M (fun env M=>K .nm (clr env) M)else False
  |true=>bif Nat.beq (cut id) 999999 then (match pu [] (agx env (toL ops)) M env with
    |(env1,M1)=>bx B Φ (toL ops) (klE (ac9 (toL ops)) env1) [] (fun env X=>K .nm (clr env) (ap X (klM (ac9 (toL ops)) M1))))else
   bif Nat.beq (cut id) 999998 then (hxT B Φ (bfs (toL ops)) (aay 0 (toL ops)) env M (fun env M=>K .nm (clr env) M)/\hxT B Φ (bgm (toL ops)) (Nat.succ (aay 0 (toL ops))) env M (fun env M=>K .nm (clr env) M))else
   bif Nat.ble 10000 (cut id)then
    (match decK (cut id),hrC (cut id),mC (cut id)with
    |ks,hr,m=>bif xv env then hx (ay1 (ib hr (toL ops)) m) ks [] B Φ M (ff m (ib hr (toL ops))) env [] (fun env X=>bif nob (nogd env) (afc ks [] B Φ (abt (ib hr (toL ops)) m) (ab7 (ib hr (toL ops)) m) (r8 m (ib hr (toL ops))) env (ap X M))then twG B Φ (ib hr (toL ops)) (r8 m (ib hr (toL ops))) env (ap X M) (fun env M=>K .nm (clr env) M)else False)else False)else
   bif Nat.ble 2000 (cut id)then
    (match (bif bmb (cut id)then pu [] (agx env (toL ops)) M env else (env,M)),Nat.sub (cut id) (bk0 (cut id)),(bif Nat.ble 5000 (cut id)then an6 env (toL ops)else [])with
    |(env,M),m,as=>bif xv env then hx (ay1 (ib false (toL ops)) m) [] as B Φ M (ff m (ib false (toL ops))) env [] (fun env X=>bif nob (nogd env) (afc [] as B Φ (abt (ib false (toL ops)) m) (ab7 (ib false (toL ops)) m) (r8 m (ib false (toL ops))) env (ap X M))then twG B Φ (ib false (toL ops)) (r8 m (ib false (toL ops))) env (ap X M) (fun env M=>K .nm (clr env) M)else False)else False)else
   bif Nat.ble 1000 (cut id)then
    (match pu [] (aso env (toL ops)) M env with
    |(env,M)=>bif xv env then hx [] [] [] B (bgp Φ) M (ff (Nat.sub (cut id) 1000) (toL ops)) env [] (fun env X=>bif nogd env then twG B (bgp Φ) (toL ops) (r8 (Nat.sub (cut id) 1000) (toL ops)) env (ap X M) (fun env M=>K .nm (clr env) M)else False)else False)else
   bif Nat.ble 500 (cut id)then
    (bif xv env then hx [] [] [] B Φ M (ff (Nat.sub (cut id) 500) (toL ops)) env [] (fun env X=>bif nogd env then twG B Φ (toL ops) (r8 (Nat.sub (cut id) 500) (toL ops)) env (ap X M) (fun env M=>K .nm (clr env) M)else False)else False)else
   bif nogd env then dwG B Φ (toL ops) (r8 (cut id) (toL ops)) (ff (cut id) (toL ops)) env M (fun env=>twG B Φ (toL ops) (r8 (cut id) (toL ops)) env M (fun env M=>K .nm (clr env) M))else False)
 |.cond (.tmp t) x y,.j ss os ks A,K,env,M=>bif ba [(gt env t).isB,noW ks x,noW ks y]then
   ji (onK ss os ks env K) (fun k=>cnd (gt env t).boolV (ev B Φ cut x A.fst (af8 ss os k K) env M) (ev B Φ cut y A.snd (af8 ss os k K) env M))else False
 |.cond (.tmp t) x y,A,K,env,M=>bif (gt env t).isB then cnd (gt env t).boolV (ev B Φ cut x A.fst K env M) (ev B Φ cut y A.snd K env M)else False
 |.block id c,.j ss os ks A,K,env,M=>bif noW ks c then
   ji (onK ss os ks env K) (fun k=>ev B Φ cut c A (ba0 id (af8 ss os k K)) env M)else False
 |.block id c,A,K,env,M=>ev B Φ cut c A (ba0 id K) env M
 |.loop c,.l ss os ks A,K,env,M=>bif noW ks c then (match aif ss os env M with
  |some q=>bj (S:=zz ss×ru os) (fun s next=>ai7 (okS ss s.1) (ai7 (okO os s.2) (ev B Φ cut c A (af8 ss os next K) (ap (akx ss s.1) (agu q.2 ks)) (kw os s.2)))) q.1
  |none=>False)else False
 |_,_,_,_,_=>False
def zu:Nat->List V->Env
 |_,[]=>[]
 |i,v::r=>(i,v)::zu (Nat.succ i) r
def wj(B:Tab):List TypeId->(ts:List T)->d3 ts->List V
 |_,[],_=>[]
 |[],t::ts,x=>jw t x.1::wj B [] ts x.2
 |q::qs,t::ts,x=>wa (B.τ q).agg (jw t x.1)::wj B qs ts x.2
def agL(B:Tab)(fn:Func):List Bool:=ap ((toL fn.params).map (fun q=>(B.τ q).agg)) (abp false fn.nfree)
def okL:(ts:List T)->d3 ts->List Prop
 |[],_=>[]
 |t::ts,x=>ap (t.oks x.1) (okL ts x.2)
def bha(M:Mem)(o:O)(v:V):Option (o.strip.den×List Ev×Mem):=
 match o with
 |.fz t=>(match ca M v with|(e,M')=>(match (v.evs e).as t with|some x=>some (x,e,M')|none=>none))
 |o=>(match conv gid o.strip v M with
  |some (q,e,M')=>(match wkO q o with|some x=>some (x,e,M')|none=>none)
  |none=>none)
def avg(B:Tab)(env:Env)(M:Mem):ResultVar->Option V
 |.tmp t=>some (gt env t)
 |.cell t q=>(match w7 (B.τ q) M (gt env t)with|([],v)=>some v|_=>none)
def kh:V->Bool
 |.any=>false
 |.tup _=>false
 |.gd _ _ _ _=>false
 |_=>true
def mc(g:Bool):V->V
 |.ag v=>bif g then v else .any
 |v=>bif g then .any else v
def an3(B:Tab)(env:Env)(M:Mem):List ResultVar->(rs:List (Bool×O))->Option (jc rs)
 |[],[]=>some ()
 |r::rs,q::qs=>(match avg B env M r with
  |some v=>bif kh (mc q.1 v)then (match bha M q.2 (mc q.1 v)with
   |some (x,e,M')=>(match an3 B (ql env e) M' rs qs with
    |some y=>some (x,y)
    |none=>none)
   |none=>none)else none
  |none=>none)
 |_,_=>none
def bgl{rt:List (Bool×O)}(o:Option (jc rt))(K:jc rt->Prop):Prop:=
 match o with
 |some r=>K r
 |none=>False
def bl9(B:Tab)(rs:List ResultVar)(rt:List (Bool×O))(K:jc rt->Prop):Ex->Env->Mem->Prop
 |.ex _,_,_=>False
 |.go _,_,_=>False
 |.nm,env,M=>bgl (an3 B env M rs rt) K
 |.rt,env,M=>bgl (an3 B env M rs rt) K
def evF(B:Tab)(Φ:FuncId->Option Ct)(cut:Nat->Nat)(fn:Func)(c:Code)(A:Ann)(ct:Ct)(x:d3 ct.args)(K:jc ct.rt->Prop):Prop:=ev B Φ cut c A (bl9 B (toL fn.results) ct.rt K) (zu 0 (wj B (toL fn.params) ct.args x)) []
def ad1:Option TypeDesc->Bool
 |some (.int _)=>true
 |_=>false
def aby(P:Program):List Field->Nat->Bool
 |[],_=>true
 | f :: r, i => bif ba [neg (f.name == "_"), Nat.beq f.offset i, ad1 (P.underlying f.type)] then aby P r (Nat.succ i) else false
def av9(P:Program)(t:TypeId):Nat:=
 match P.underlying t with
 |some (.struct fs)=>bif ba [neg (P.stoodInHeld t),neg (P.eqGuardType P.depth t),aby P (toL fs) 0]then len (toL fs)else 0
 |some (.array n e)=>bif ba [neg (P.eqGuardType P.depth t),ad1 (P.underlying e),Nat.beq (P.cellsOf e) 1]then n else 0
 |_=>0
def avf:Option TypeDesc->Bool
 |some (.slice _)=>true
 |_=>false
def bln(P:Program)(ms:Array Method):Option TypeDesc->Bool
 |some (.interface want)=>isN (Instr.missingMethod want ms)
 |_=>false
def isM(f:FuncId):Option Method->Bool
 |some m=>(match toL m.path,m.func with
  |[],some (g,b)=>nob (Nat.beq f g) (neg b)
  |_,_=>false)
 |none=>false
def bf5(P:Program)(e:Mth):Bool:=
 match P.info? e.t with
 |some inf=>ba [avf (P.underlying e.t),bln P inf.methods (P.underlying e.i),isM e.f (inf.methods.find? (·.name==e.name))]
 |none=>false
def aoa(P:Program):List Mth->Bool
 |[]=>true
 |e::r=>nob (bf5 P e) (aoa P r)
structure TabOk (P:Program) (B:Tab):Prop where
 τ:∀t,(B.τ t).ok=true->ty P t=B.τ t
 z:∀t,B.z t=true->∃zs,tyZ P t=some zs/\fq (B.σ t) zs=true
 q:∀t,isZ (B.q t)=false->av9 P t=B.q t
 m:aoa P B.m=true
def zOk(P:Program)(t:TypeId)(d:T):Bool:=match tyZ P t with|some zs=>fq d zs|none=>false
def tyL(P:Program):Nat->Nat->List Ty
 |0,_=>[]
 |n+1,i=>ty P i::tyL P n (Nat.succ i)
def zL(P:Program):Nat->List T->List Bool
 |_,[]=>[]
 |i,d::r=>zOk P i d::zL P (Nat.succ i) r
theorem az8(P:Program):∀(n i t:Nat) (x:Ty),mr (tyL P n i) t=some x->x=ty P (i+t)
 |0,_,_,_,h=>by simp[tyL,mr]at h
 |n+1,i,0,x,h=>by simp only[tyL,mr,a0d]at h;exact h.symm
 |n+1,i,t+1,x,h=>by simp only[tyL,mr]at h;have:=az8 P n _ t x h;rw[this];exact congrArg (ty P) (Nat.succ_add i t)
def qL(P:Program):Nat->Nat->List Nat
 |0,_=>[]
 |n+1,i=>av9 P i::qL P n (Nat.succ i)
theorem bd9(P:Program):∀(n i t:Nat) (x:Nat),mr (qL P n i) t=some x->x=av9 P (i+t)
 |0,_,_,_,h=>by simp[qL,mr]at h
 |n+1,i,0,x,h=>by simp only[qL,mr,a0d]at h;exact h.symm
 |n+1,i,t+1,x,h=>by simp only[qL,mr]at h;have:=bd9 P n _ t x h;rw[this];exact congrArg (av9 P) (Nat.succ_add i t)
theorem bdz(P:Program):∀(l:List T) (i t:Nat) (d:T),mr l t=some d->mr (zL P i l) t=some (zOk P (i+t) d)
 |[],_,_,_,h=>by simp[mr]at h
 |e::r,i,0,d,h=>by simp only[mr,a0d]at h;subst h;simp[zL,mr]
 |e::r,i,t+1,d,h=>by simp only[mr]at h;simp only[zL,mr];rw[bdz P r _ t d h,show Nat.succ i+t=i+(t+1)from Nat.succ_add i t]
def amv(l:List Ty)(d:List T)(z:List Bool)(q:List Nat)(m:List Mth):Tab:=
 ⟨fun t=>match mr l t with|some x=>x|none=>bfz,fun t=>match mr d t with|some x=>x|none=>.any,
  fun t=>match mr d t with|some _=>(match mr z t with|some x=>x|none=>false)|none=>false,fun t=>match mr q t with|some x=>x|none=>0,m⟩
def bf1(l:List Ty)(d:List T)(z:List Bool)(q:List Nat):Tab:=amv l d z q []
theorem bhr{P:Program}(n:Nat)(l:List Ty)(d:List T)(z:List Bool)(q:List Nat)(m:List Mth)(h:tyL P n 0=l)(hz:zL P 0 d=z)(hq:qL P n 0=q)(hm:aoa P m=true):TabOk P (amv l d z q m):=by
 constructor
 ·intro t ht;simp only[amv]at ht⊢;split at ht
  ·rename_i x hx;rw[←h]at hx;have:=az8 P n 0 t x hx;rw[this,a10]
  ·simp[bfz]at ht
 ·intro t ht;simp only[amv]at ht⊢;split at ht
  ·rename_i e he;have:=bdz P d 0 t e he;rw[hz,a10]at this;rw[this]at ht;simp only[zOk]at ht;split at ht
   ·rename_i zs hzs;exact⟨zs,hzs,ht⟩
   ·cases ht
  ·cases ht
 ·intro t ht;simp only[amv]at ht⊢;split at ht
  ·rename_i x hx;rw[←hq]at hx;have:=bd9 P n 0 t x hx;rw[this,a10]
  ·cases ht
 ·exact hm
theorem aze{P:Program}(n:Nat)(l:List Ty)(d:List T)(z:List Bool)(q:List Nat)(h:tyL P n 0=l)(hz:zL P 0 d=z)(hq:qL P n 0=q):TabOk P (bf1 l d z q):=bhr n l d z q [] h hz hq rfl
end Go.Bm
/- The dv machine:what data and own trees have to do with memory. -/
namespace Go.Bm
open Go.RowKit
def jt:Value->Option Nat
 |.slice (some a) _ (_+1)=>some a.block
 |.pointer (some a)=>some a.block
 |_=>none
theorem atq{a:Addr}{N K b:Nat}(h:jt (.slice (some a) N K)=some b):b=a.block:=by
 cases K with
 |zero=>cases h
 |succ k=>simp only[jt,a0d]at h;exact h.symm
def ub(w:World)(ety:TypeId)(sz:Nat)(v:Value)(n:Nat)(xs:List Value):Prop:=xs.length=n*sz/\((n=0/\∃oa,v=.slice oa 0 0)\/∃g off c cur,v=.slice (some ⟨g,off,none⟩) n (c+1)/\w.heap[g]? = some (.cells cur ety (0,0))/\n<=c+1/\c+1<=maxLen/\cur.size=off+(c+1)*sz/\(cur.toList.drop off).take (n*sz)=xs)
theorem auo{w:World}{ety:TypeId}{sz:Nat}{v:Value}{n:Nat}{xs:List Value}(h:w.ownsRow 0 ety sz v n xs):ub w ety sz v n xs:=by
 refine⟨h.1,?_⟩;rcases h.2 with⟨hv,hn⟩|⟨g,cap,cur,hv,hb,hg,h1,h2,h3,h4⟩
 ·exact .inl ⟨hn,none,hv⟩
 ·cases cap with
  |zero=>exact .inl ⟨by omega,some ⟨g,0,none⟩,by rw[hv,show n=0 from by omega]⟩
  |succ c=>exact .inr ⟨g,0,c,cur,hv,hg,h1,h2,by rw[h3,a10],by simpa using h4⟩
def oi(w:World)(b o:Nat)(us:List Value):Prop:=∀(j:Nat) (u:Value),us[j]? = some u->w.cell? ⟨b,o+j,none⟩=some u
def rm:(t:T)->t.den->List Value
 |.int k,n=>[.int k n]
 |.bool,b=>[.bool b]
 |.str,s=>[.string s]
 |.p a b,x=>rm a x.1++rm b x.2
 |_,_=>[]
def isP:T->Bool
 |.p _ _=>true
 |_=>false
def d4(t:T)(x:t.den):Value:=bif isP t then .agg (rm t x).toArray else (rm t x).headD undef
def afa(k v:T)(es:Array MapEntry)(l:List (k.den×v.den)):Prop:=es.toList.map (fun e=>(e.key,e.val))=l.map fun x=>(d4 k x.1,d4 v x.2)
def ah(Im:Nat->Prop)(w:World):(t:T)->t.den->List Value->Prop
 |.int k,n,vs=>vs=[.int k n]/\inK k n
 |.bool,b,vs=>vs=[.bool b]
 |.str,s,vs=>vs=[.string s]/\s.size<=nb
 |.u,_,vs=>vs=[]
 |.p a b,x,vs=>∃va vb,vs=va++vb/\ah Im w a x.1 va/\ah Im w b x.2 vb
 |.sl e,l,vs=>∃oa cap,vs=[.slice oa l.length cap]/\(l.length<=nb/\l.length<=cap)/\(oa=none->l.length=0/\cap=0)/\
   ∀a,oa=some a->0<l.length->a.spot=none/\Im a.block/\∀(i:Nat) (x:e.den),l[i]? = some x->∃us,oi w a.block (a.off+i*e.size) us/\ah Im w e x us
 |.pt t,x,vs=>∃b o us,vs=[.pointer (some ⟨b,o,none⟩)]/\Im b/\oi w b o us/\ah Im w t x us
 |.fn f t,x,vs=>∃us:List Value,vs=[.func (.func f) #[] us.toArray]/\ah Im w t x us
 |.ifc i t,x,vs=>∃u:Value,vs=[.iface i u]/\ah Im w t x [u]
 |.mp k v,l,vs=>∃r es n,vs=[.map (some r)]/\Im r/\w.heap[r]? = some (.map es n)/\(T.mp k v).ok l/\afa k v es l
 |.op t,x,vs=>vs.length=t.size/\(∀v∈vs,v.oneCell'=true)/\∀y,x=some y->ah Im w t y vs
 |.ns t,x,vs=>(x=none/\vs=[.slice none 0 0])\/∃y a n c,x=some y/\vs=[.slice a n c]/\ah Im w t y vs
 |.er i,x,vs=>(x=false/\vs=[.nilIface])\/∃s,x=true/\vs=[.iface i (.agg #[.string s])]
 |.any,_,vs=>∃v:Value,vs=[v]/\v.oneCell'=true
def O.size(o:O):Nat:=o.strip.size
def Rel(Im:Nat->Prop)(w:World):(o:O)->o.strip.den->(Nat->Prop)->List Value->Prop
 |.fz t,x,_,vs=>ah Im w t x vs
 |.p a b,x,S,vs=>∃va vb,∃S1 S2:Nat->Prop,vs=va++vb/\(∀c,S1 c->S c)/\(∀c,S2 c->S c)/\(∀c,S1 c->¬S2 c)/\Rel Im w a x.1 S1 va/\Rel Im w b x.2 S2 vb
 |.sl e,l,S,vs=>∃v ety xs,∃T:Nat->Nat->Prop,vs=[v]/\ub w ety e.size v l.length xs/\l.length<=nb/\(∀c,jt v=some c->S c)/\(∀i c,T i c->S c/\jt v≠some c)/\
   (∀i j c,i≠j->T i c->¬T j c)/\∀(i:Nat) (x:e.strip.den),l[i]? = some x->Rel Im w e x (T i) ((xs.drop (i*e.size)).take e.size)
 |.mp k v,l,S,vs=>∃r es n,vs=[.map (some r)]/\S r/\w.heap[r]? = some (.map es n)/\(T.mp k v).ok l/\afa k v es l
 |.op e,x,S,vs=>vs.length=e.size/\(∀v∈vs,v.oneCell'=true)/\∀y,x=some y->Rel Im w e y S vs
 |.pt o,x,S,vs=>∃b us ty' S',vs=[.pointer (some ⟨b,0,none⟩)]/\S b/\w.heap[b]? = some (.cells (us:List Value).toArray ty' (0,0))/\(∀c,S' c->S c/\c≠b)/\Rel Im w o x S' us
def gj(Im Im':Nat->Prop)(w w':World):Prop:=∀b,Im b->Im' b/\w'.heap[b]? = w.heap[b]?
theorem gj.refl(Im:Nat->Prop)(w:World):gj Im Im w w:=fun _ h=>⟨h,rfl⟩
theorem gj.trans{I1 I2 I3:Nat->Prop}{a b c:World}(h:gj I1 I2 a b)(k:gj I2 I3 b c):gj I1 I3 a c:=fun x hx=>⟨(k x (h x hx).1).1,((k x (h x hx).1).2).trans (h x hx).2⟩
theorem oi.keep{w w':World}{b o:Nat}{us:List Value}(h:w'.heap[b]? = w.heap[b]?)(r:oi w b o us):oi w' b o us:=fun j u hu=>by rw[←r j u hu];simp[World.cell?,h]
theorem ah.keep{Im Im':Nat->Prop}{w w':World}(h:gj Im Im' w w'):(t:T)->(x:t.den)->(vs:List Value)->ah Im w t x vs->ah Im' w' t x vs
 |.int _,_,_,r=>by simpa only [ah]using r
 |.bool,_,_,r=>by simpa only [ah]using r
 |.str,_,_,r=>by simpa only [ah]using r
 |.u,_,_,r=>by simpa only [ah]using r
 |.any,_,_,r=>by simpa only [ah]using r
 |.p a b,x,vs,r=>by simp only[ah]at r⊢;obtain⟨va,vb,h1,h2,h3⟩:=r;exact⟨va,vb,h1,ah.keep h a _ _ h2,ah.keep h b _ _ h3⟩
 |.sl e,l,vs,r=>by simp only[ah]at r⊢;obtain⟨oa,cap,h1,h2,h3,h4⟩:=r;refine⟨oa,cap,h1,h2,h3,fun a ha hpos=>?_⟩;obtain⟨k1,k2,k3⟩:=h4 a ha hpos;refine⟨k1,(h _ k2).1,fun i x hx=>?_⟩;obtain⟨us,u1,u2⟩:=k3 i x hx;exact⟨us,u1.keep (h _ k2).2,ah.keep h e x us u2⟩
 |.pt t,x,vs,r=>by simp only[ah]at r⊢;obtain⟨b,o,us,h1,h2,h3,h4⟩:=r;exact⟨b,o,us,h1,(h _ h2).1,h3.keep (h _ h2).2,ah.keep h t x us h4⟩
 |.fn f t,x,vs,r=>by simp only[ah]at r⊢;obtain⟨us,h1,h2⟩:=r;exact⟨us,h1,ah.keep h t x us h2⟩
 |.ifc i t,x,vs,r=>by simp only[ah]at r⊢;obtain⟨u,h1,h2⟩:=r;exact⟨u,h1,ah.keep h t x _ h2⟩
 |.op t,x,vs,r=>by simp only[ah]at r⊢;exact⟨r.1,r.2.1,fun y hy=>ah.keep h t y vs (r.2.2 y hy)⟩
 |.ns t,x,vs,r=>by
  simp only[ah]at r⊢;rcases r with r|⟨y,a,n,c,h1,h2,h3⟩
  ·exact .inl r
  ·exact .inr ⟨y,a,n,c,h1,h2,ah.keep h t y vs h3⟩
 |.er _,_,_,r=>by simpa only [ah]using r
 |.mp k v,l,vs,r=>by simp only[ah]at r⊢;obtain⟨b,es,n,h1,h2,h3,h4⟩:=r;exact⟨b,es,n,h1,(h _ h2).1,by rw[(h _ h2).2];exact h3,h4⟩
theorem ah.len{Im:Nat->Prop}{w:World}:(t:T)->(x:t.den)->(vs:List Value)->ah Im w t x vs->vs.length=t.size
 |.int _,_,_,r=>by simp only[ah]at r;rw[r.1];rfl
 |.bool,_,_,r=>by simp only[ah]at r;rw[r];rfl
 |.str,_,_,r=>by simp only[ah]at r;rw[r.1];rfl
 |.u,_,_,r=>by simp only[ah]at r;rw[r];rfl
 |.any,_,_,r=>by simp only[ah]at r;obtain⟨v,h,_⟩:=r;rw[h];rfl
 |.p a b,x,vs,r=>by simp only[ah]at r;obtain⟨va,vb,h1,h2,h3⟩:=r;rw[h1,a0q,ah.len a _ _ h2,ah.len b _ _ h3];simp[T.size]
 |.sl e,l,vs,r=>by simp only[ah]at r;obtain⟨oa,cap,h,_⟩:=r;rw[h];rfl
 |.pt t,x,vs,r=>by simp only[ah]at r;obtain⟨b,o,us,h,_⟩:=r;rw[h];rfl
 |.fn f t,x,vs,r=>by simp only[ah]at r;obtain⟨us,h,_⟩:=r;rw[h];rfl
 |.ifc i t,x,vs,r=>by simp only[ah]at r;obtain⟨u,h,_⟩:=r;rw[h];rfl
 |.mp k v,l,vs,r=>by simp only[ah]at r;obtain⟨b,es,n,h,_⟩:=r;rw[h];rfl
 |.op t,x,vs,r=>by simp only[ah]at r;exact r.1
 |.ns t,x,vs,r=>by simp only[ah]at r;rcases r with⟨_,r⟩|⟨y,a,n,c,_,r,_⟩ <;> (rw[r];rfl)
 |.er i,x,vs,r=>by simp only[ah]at r;rcases r with⟨_,r⟩|⟨s,_,r⟩ <;> (rw[r];rfl)
theorem ah.ok{Im:Nat->Prop}{w:World}:(t:T)->(x:t.den)->(vs:List Value)->ah Im w t x vs->t.ok x
 |.int _,_,_,r=>by simp only[ah]at r;simp only[T.ok];exact r.2
 |.bool,_,_,r=>by simp only[T.ok]
 |.str,_,_,r=>by simp only[ah]at r;simp only[T.ok];exact r.2
 |.u,_,_,r=>by simp only[T.ok]
 |.any,_,_,r=>by simp only[T.ok]
 |.p a b,x,vs,r=>by simp only[ah]at r;obtain⟨va,vb,h1,h2,h3⟩:=r;simp only[T.ok];exact⟨ah.ok a _ _ h2,ah.ok b _ _ h3⟩
 |.sl e,l,vs,r=>by
  simp only[ah]at r;obtain⟨oa,cap,h1,h2,h3,h4⟩:=r;simp only[T.ok];refine⟨h2.1,fun y hy=>?_⟩;obtain⟨i,hi,rfl⟩:=a2p hy
  cases oa with
  |none=>have:=(h3 rfl).1;omega
  |some a=>obtain⟨us,_,u2⟩:=(h4 a rfl (by omega)).2.2 i l[i] (a0o hi);exact ah.ok e _ us u2
 |.pt t,x,vs,r=>by simp only[ah]at r;obtain⟨b,o,us,_,_,_,h⟩:=r;simp only[T.ok];exact ah.ok t x us h
 |.fn f t,x,vs,r=>by simp only[ah]at r;obtain⟨us,_,h⟩:=r;simp only[T.ok];exact ah.ok t x us h
 |.ifc i t,x,vs,r=>by simp only[ah]at r;obtain⟨u,_,h⟩:=r;simp only[T.ok];exact ah.ok t x _ h
 |.op t,x,vs,r=>by simp only[ah]at r;simp only[T.ok];exact fun y hy=>ah.ok t y vs (r.2.2 y hy)
 |.ns t,x,vs,r=>by
  simp only[ah]at r;simp only[T.ok];rcases r with⟨rfl,_⟩|⟨y,a,n,c,rfl,_,r⟩
  ·exact fun y hy=>by cases hy
  ·exact fun z hz=>by cases hz;exact ah.ok t y vs r
 |.er _,x,vs,r=>by simp only[T.ok]
 |.mp k v,l,vs,r=>by simp only[ah]at r;obtain⟨b,es,n,_,_,_,h4,_⟩:=r;exact h4
theorem ah.one{Im:Nat->Prop}{w:World}:(t:T)->(x:t.den)->(vs:List Value)->ah Im w t x vs->∀v∈vs,v.oneCell'=true
 |.int _,_,_,r=>by simp only[ah]at r;rw[r.1];intro v hv;rw[a0u.1 hv];rfl
 |.bool,_,_,r=>by simp only[ah]at r;rw[r];intro v hv;rw[a0u.1 hv];rfl
 |.str,_,_,r=>by simp only[ah]at r;rw[r.1];intro v hv;rw[a0u.1 hv];rfl
 |.u,_,_,r=>by simp only[ah]at r;rw[r];intro v hv;cases hv
 |.any,_,_,r=>by simp only[ah]at r;obtain⟨u,h,h1⟩:=r;rw[h];intro v hv;rw[a0u.1 hv];exact h1
 |.p a b,x,vs,r=>by
  simp only[ah]at r;obtain⟨va,vb,h1,h2,h3⟩:=r;rw[h1];intro v hv;rcases a05.1 hv with hv|hv
  ·exact ah.one a _ _ h2 v hv
  ·exact ah.one b _ _ h3 v hv
 |.sl e,l,vs,r=>by simp only[ah]at r;obtain⟨oa,cap,h,_⟩:=r;rw[h];intro v hv;rw[a0u.1 hv];rfl
 |.pt t,x,vs,r=>by simp only[ah]at r;obtain⟨b,o,us,h,_⟩:=r;rw[h];intro v hv;rw[a0u.1 hv];rfl
 |.fn f t,x,vs,r=>by simp only[ah]at r;obtain⟨us,h,_⟩:=r;rw[h];intro v hv;rw[a0u.1 hv];rfl
 |.ifc i t,x,vs,r=>by simp only[ah]at r;obtain⟨u,h,_⟩:=r;rw[h];intro v hv;rw[a0u.1 hv];rfl
 |.mp k v,l,vs,r=>by simp only[ah]at r;obtain⟨b,es,n,h,_⟩:=r;rw[h];intro v hv;rw[a0u.1 hv];rfl
 |.op t,x,vs,r=>by simp only[ah]at r;exact r.2.1
 |.ns t,x,vs,r=>by simp only[ah]at r;rcases r with⟨_,r⟩|⟨y,a,n,c,_,r,_⟩ <;> (rw[r];intro v hv;rw[a0u.1 hv];rfl)
 |.er i,x,vs,r=>by simp only[ah]at r;rcases r with⟨_,r⟩|⟨s,_,r⟩ <;> (rw[r];intro v hv;rw[a0u.1 hv];rfl)
theorem anx{w w':World}{e:TypeId}{sz n:Nat}{v:Value}{xs:List Value}(hr:∀b,jt v=some b->w'.heap[b]? = w.heap[b]?)(hown:ub w e sz v n xs):ub w' e sz v n xs:=by
 refine⟨hown.1,?_⟩;rcases hown.2 with hnil|⟨g,off,cap,cur,hv,hg,rest⟩
 ·exact .inl hnil
 ·exact .inr ⟨g,off,cap,cur,hv,by rw[hr g (by rw[hv];rfl)];exact hg,rest⟩
theorem Rel.keep{Im Im':Nat->Prop}{w w':World}(h:gj Im Im' w w'):(o:O)->(x:o.strip.den)->(S:Nat->Prop)->(vs:List Value)->(∀b,S b->w'.heap[b]? = w.heap[b]?)->Rel Im w o x S vs->Rel Im' w' o x S vs
 |.fz t,x,S,vs,_,r=>by simp only[Rel]at r⊢;exact ah.keep h t x vs r
 |.p a b,x,S,vs,hS,r=>by simp only[Rel]at r⊢;obtain⟨va,vb,S1,S2,h1,h2,h3,h4,h5,h6⟩:=r;exact⟨va,vb,S1,S2,h1,h2,h3,h4,Rel.keep h a _ S1 _ (fun c hc=>hS c (h2 c hc)) h5,Rel.keep h b _ S2 _ (fun c hc=>hS c (h3 c hc)) h6⟩
 |.sl e,l,S,vs,hS,r=>by simp only[Rel]at r⊢;obtain⟨v,ety,xs,T,h1,h2,h3,h4,h5,h6,h7⟩:=r;exact⟨v,ety,xs,T,h1,anx (fun c hc=>hS c (h4 c hc)) h2,h3,h4,h5,h6,fun i x hx=>Rel.keep h e x (T i) _ (fun c hc=>hS c (h5 i c hc).1) (h7 i x hx)⟩
 |.pt o,x,S,vs,hS,r=>by simp only[Rel]at r⊢;obtain⟨b,us,ty',S',h1,h2,h3,h4,h5⟩:=r;exact⟨b,us,ty',S',h1,h2,by rw[hS b h2];exact h3,h4,Rel.keep h o x S' us (fun c hc=>hS c (h4 c hc).1) h5⟩
 |.op e,x,S,vs,hS,r=>by simp only[Rel]at r⊢;exact⟨r.1,r.2.1,fun y hy=>Rel.keep h e y S vs hS (r.2.2 y hy)⟩
 |.mp k v,l,S,vs,hS,r=>by simp only[Rel]at r⊢;obtain⟨b,es,n,h1,h2,h3,h4⟩:=r;exact⟨b,es,n,h1,h2,by rw[hS b h2];exact h3,h4⟩
theorem Rel.wide{Im:Nat->Prop}{w:World}:(o:O)->(x:o.strip.den)->(S S':Nat->Prop)->(vs:List Value)->(∀b,S b->S' b)->Rel Im w o x S vs->Rel Im w o x S' vs
 |.fz t,x,S,S',vs,_,r=>by simpa only [Rel]using r
 |.p a b,x,S,S',vs,hS,r=>by simp only[Rel]at r⊢;obtain⟨va,vb,S1,S2,h1,h2,h3,h4,h5,h6⟩:=r;exact⟨va,vb,S1,S2,h1,fun c hc=>hS c (h2 c hc),fun c hc=>hS c (h3 c hc),h4,h5,h6⟩
 |.sl e,l,S,S',vs,hS,r=>by simp only[Rel]at r⊢;obtain⟨v,ety,xs,T,h1,h2,h3,h4,h5,h6,h7⟩:=r;exact⟨v,ety,xs,T,h1,h2,h3,fun c hc=>hS c (h4 c hc),fun i c hc=>⟨hS c (h5 i c hc).1,(h5 i c hc).2⟩,h6,h7⟩
 |.pt o,x,S,S',vs,hS,r=>by simp only[Rel]at r⊢;obtain⟨b,us,ty',S0,h1,h2,h3,h4,h5⟩:=r;exact⟨b,us,ty',S0,h1,hS b h2,h3,fun c hc=>⟨hS c (h4 c hc).1,(h4 c hc).2⟩,h5⟩
 |.op e,x,S,S',vs,hS,r=>by simp only[Rel]at r⊢;exact⟨r.1,r.2.1,fun y hy=>Rel.wide e y S S' vs hS (r.2.2 y hy)⟩
 |.mp k v,l,S,S',vs,hS,r=>by simp only[Rel]at r⊢;obtain⟨b,es,n,h1,h2,h3⟩:=r;exact⟨b,es,n,h1,hS b h2,h3⟩
theorem Rel.len{Im:Nat->Prop}{w:World}:(o:O)->(x:o.strip.den)->(S:Nat->Prop)->(vs:List Value)->Rel Im w o x S vs->vs.length=o.size
 |.fz t,x,S,vs,r=>by simp only[Rel]at r;exact ah.len t x vs r
 |.p a b,x,S,vs,r=>by simp only[Rel]at r;obtain⟨va,vb,S1,S2,h1,h2,h3,h4,h5,h6⟩:=r;rw[h1,a0q,Rel.len a _ _ _ h5,Rel.len b _ _ _ h6];simp[O.size,T.size]
 |.sl e,l,S,vs,r=>by simp only[Rel]at r;obtain⟨v,ety,xs,T,h,_⟩:=r;rw[h];rfl
 |.pt o,x,S,vs,r=>by simp only[Rel]at r;obtain⟨b,us,ty',S',h,_⟩:=r;rw[h];rfl
 |.mp k v,l,S,vs,r=>by simp only[Rel]at r;obtain⟨b,es,n,h,_⟩:=r;rw[h];rfl
 |.op e,x,S,vs,r=>by simp only[Rel]at r;exact r.1
theorem aqc{w:World}{e:TypeId}{sz n:Nat}{v:Value}{xs:List Value}(h:ub w e sz v n xs):v.oneCell'=true:=by rcases h.2 with⟨_,oa,h⟩|⟨g,off,cap,cur,h,_⟩ <;> rw[h] <;> rfl
theorem Rel.one{Im:Nat->Prop}{w:World}:(o:O)->(x:o.strip.den)->(S:Nat->Prop)->(vs:List Value)->Rel Im w o x S vs->∀v∈vs,v.oneCell'=true
 |.fz t,x,S,vs,r=>by simp only[Rel]at r;exact ah.one t x vs r
 |.p a b,x,S,vs,r=>by
  simp only[Rel]at r;obtain⟨va,vb,S1,S2,h1,h2,h3,h4,h5,h6⟩:=r;rw[h1];intro v hv;rcases a05.1 hv with hv|hv
  ·exact Rel.one a _ _ _ h5 v hv
  ·exact Rel.one b _ _ _ h6 v hv
 |.sl e,l,S,vs,r=>by simp only[Rel]at r;obtain⟨v,ety,xs,T,h,h2,_⟩:=r;rw[h];intro u hu;rw[a0u.1 hu];exact aqc h2
 |.pt o,x,S,vs,r=>by simp only[Rel]at r;obtain⟨b,us,ty',S',h,_⟩:=r;rw[h];intro u hu;rw[a0u.1 hu];rfl
 |.mp k v,l,S,vs,r=>by simp only[Rel]at r;obtain⟨b,es,n,h,_⟩:=r;rw[h];intro u hu;rw[a0u.1 hu];rfl
 |.op e,x,S,vs,r=>by simp only[Rel]at r;exact r.2.1
theorem yi{w:World}{e:TypeId}{sz n:Nat}{v:Value}{xs:List Value}(h:ub w e sz v n xs) :
  (n=0/\∃oa,v=.slice oa 0 0)\/∃g off c cur,v=.slice (some ⟨g,off,none⟩) n (c+1)/\w.heap[g]? = some (.cells cur e (0,0))/\n<=c+1/\c+1<=maxLen/\cur.size=off+(c+1)*sz/\(cur.toList.drop off).take (n*sz)=xs:=h.2
theorem aj9{cur:Array Value}{xs:List Value}{n i sz j off:Nat}{u:Value}(hx:(cur.toList.drop off).take (n*sz)=xs)(h:((xs.drop (i*sz)).take sz)[j]? = some u):cur[off+i*sz+j]? = some u:=by
 rw[a1d]at h;split at h
 ·rw[a1b,←hx,a1d]at h;split at h
  ·rw[a1b]at h;rw[a3h];simpa using h
  ·cases h
 ·cases h
theorem Rel.frz{Im Im':Nat->Prop}{w:World}(hI:∀b,Im b->Im' b):(o:O)->(x:o.strip.den)->(S:Nat->Prop)->(vs:List Value)->(∀b,S b->Im' b)->Rel Im w o x S vs->ah Im' w o.strip x vs
 |.fz t,x,S,vs,_,r=>by simp only[Rel]at r;exact ah.keep (fun b hb=>⟨hI b hb,rfl⟩) t x vs r
 |.p a b,x,S,vs,hS,r=>by simp only[Rel]at r;obtain⟨va,vb,S1,S2,h1,h2,h3,h4,h5,h6⟩:=r;simp only[ah];exact⟨va,vb,h1,Rel.frz hI a _ S1 _ (fun c hc=>hS c (h2 c hc)) h5,Rel.frz hI b _ S2 _ (fun c hc=>hS c (h3 c hc)) h6⟩
 |.sl e,l,S,vs,hS,r=>by
  simp only[Rel]at r;obtain⟨v,ety,xs,T,h1,h2,h3,h4,h5,h6,h7⟩:=r;simp only[ah];rcases yi h2 with⟨hn,hv⟩|⟨g,off,cap,cur,hv,hg,hc1,hc2,hc3,hc4⟩
  ·obtain⟨oa,hv⟩:=hv;exact⟨oa,0,by rw[h1,hv,hn],⟨h3,by omega⟩,fun _=>⟨hn,rfl⟩,fun a ha hpos=>by omega⟩
  ·refine⟨some ⟨g,off,none⟩,cap+1,by rw[h1,hv],⟨h3,hc1⟩,fun h=>by (cases h),fun a ha hpos=>?_⟩;cases ha;refine⟨rfl,hS g (h4 g (by rw[hv];rfl)),fun i x hx=>⟨_,?_,Rel.frz hI e x (T i) _ (fun c hc=>hS c (h5 i c hc).1) (h7 i x hx)⟩⟩;intro j u hu;rw[a14 w g _ cur ety (0,0) hg];have:=aj9 hc4 hu;simpa[O.size]using this
 |.pt o,x,S,vs,hS,r=>by simp only[Rel]at r;obtain⟨b,us,ty',S',h1,h2,h3,h4,h5⟩:=r;simp only[ah];refine⟨b,0,us,h1,hS b h2,fun j u hu=>?_,Rel.frz hI o x S' us (fun c hc=>hS c (h4 c hc).1) h5⟩;rw[a14 w b _ _ ty' (0,0) h3];simpa using hu
 |.op e,x,S,vs,hS,r=>by simp only[Rel]at r;simp only[ah];exact⟨r.1,r.2.1,fun y hy=>Rel.frz hI e y S vs hS (r.2.2 y hy)⟩
 |.mp k v,l,S,vs,hS,r=>by simp only[Rel]at r;obtain⟨b,es,n,h1,h2,h3,h4⟩:=r;simp only[ah];exact⟨b,es,n,h1,hS b h2,h3,h4⟩
end Go.Bm
/- The dv machine:a part of an own tree,looked at and replaced. -/
namespace Go.Bm
open Go.RowKit
theorem Rel.ok{Im:Nat->Prop}{w:World}{o:O}{x:o.strip.den}{S:Nat->Prop}{vs:List Value}(r:Rel Im w o x S vs):o.strip.ok x:=ah.ok _ _ _ (Rel.frz (Im':=fun _=>True) (fun _ _=>trivial) o x S vs (fun _ _=>trivial) r)
def gok:br->(o:O)->o.strip.den->Prop
 |[],_,_=>True
 |.l::π,.p a _,x=>gok π a x.1
 |.r::π,.p _ b,x=>gok π b x.2
 |.l::π,.fz (.p a _),x=>gok π (.fz a) x.1
 |.r::π,.fz (.p _ b),x=>gok π (.fz b) x.2
 |.ix i::π,.sl e,x=>i<x.length/\gok π e (x.getD i e.dflt)
 |.de::π,.pt t,x=>gok π t x
 |_,_,_=>False
def cellsOf(w:World)(b o n:Nat):List Value:=(List.range n).map fun j=>(w.cell? ⟨b,o+j,none⟩).getD undef
abbrev Pl:=Option (Nat×Nat)
def Pl.plus(p:Pl)(n:Nat):Pl:=p.map fun q=>(q.1,q.2+n)
def res(w:World):br->O->List Value->Pl->Option (List Value×Pl)
 |[],_,vs,ad=>some (vs,ad)
 |.l::π,.p a _,vs,ad=>res w π a (vs.take a.size) ad
 |.r::π,.p a b,vs,ad=>res w π b (vs.drop a.size) (ad.plus a.size)
 |.l::π,.fz (.p a _),vs,ad=>res w π (.fz a) (vs.take a.size) ad
 |.r::π,.fz (.p a b),vs,ad=>res w π (.fz b) (vs.drop a.size) (ad.plus a.size)
 |.ix i::π,.sl e,vs,_=>(match vs with
  |[.slice (some a) _ _]=>res w π e (cellsOf w a.block (a.off+i*e.size) e.size) (some (a.block,a.off+i*e.size))
  |_=>none)
 |.de::π,.pt t,vs,_=>(match vs with
  |[.pointer (some a)]=>res w π t (cellsOf w a.block a.off t.size) (some (a.block,a.off))
  |_=>none)
 |_,_,_,_=>none
def cq:br->Bool
 |[]=>false
 |.l::π=>cq π
 |.r::π=>cq π
 |.ix _::_=>true
 |.de::_=>true
def dz(l:List Value)(n:Nat)(us:List Value):List Value:=l.take n++us++l.drop (n+us.length)
def dm:br->O->List Value->List Value->List Value
 |[],_,_,us=>us
 |.l::π,.p a _,vs,us=>dm π a (vs.take a.size) us++vs.drop a.size
 |.r::π,.p a b,vs,us=>vs.take a.size++dm π b (vs.drop a.size) us
 |.l::π,.fz (.p a _),vs,us=>dm π (.fz a) (vs.take a.size) us++vs.drop a.size
 |.r::π,.fz (.p a b),vs,us=>vs.take a.size++dm π (.fz b) (vs.drop a.size) us
 |_,_,vs,_=>vs
theorem apg{Im:Nat->Prop}{w:World}{a b:Ob}{S1 S2 S:Nat->Prop}{va vb:List Value}(h1:∀c,S1 c->S c)(h2:∀c,S2 c->S c)(h3:∀c,S1 c->¬S2 c)
  (ha:Rel Im w a.o a.x S1 va) (hb:Rel Im w b.o b.x S2 vb):Rel Im w (mkP a b).o (mkP a b).x S (va++vb):=by
 obtain⟨oa,xa⟩:=a;obtain⟨ob,xb⟩:=b;have key:Rel Im w (.p oa ob) (xa,xb) S (va++vb):=by simp only[Rel];exact⟨va,vb,S1,S2,rfl,h1,h2,h3,ha,hb⟩
 cases oa <;> cases ob <;> first|exact key|skip
 simp only[mkP,Rel,ah]at ha hb⊢;exact⟨va,vb,rfl,ha,hb⟩
theorem bbz(a b:Ob):(mkP a b).o.size=a.o.size+b.o.size:=by obtain⟨oa,xa⟩:=a;obtain⟨ob,xb⟩:=b;cases oa <;> cases ob <;> simp[mkP,O.size,T.size]
theorem yr{va vb:List Value}{n:Nat}(h:va.length=n):(va++vb).take n=va:=by rw[←h];exact a4g
theorem yd{va vb:List Value}{n:Nat}(h:va.length=n):(va++vb).drop n=vb:=by rw[←h];exact List.drop_left
theorem wc{w:World}{b o n:Nat}{us:List Value}(hl:us.length=n)(h:oi w b o us):cellsOf w b o n=us:=by
 unfold cellsOf;apply a15;intro j;rw[a1a];by_cases hj:j<n
 ·rw[a2c hj,a0o (by omega)];simp only[a0z];rw[h j us[j] (a0o (by omega))];rfl
 ·rw[a1q (by simpa using hj),a1q (by omega)];rfl
theorem bdk{xs row':List Value}{n sz i i':Nat}(hx:xs.length=n*sz)(hi:i<n)(hr:row'.length=sz) :
  ((dz xs (i*sz) row').drop (i'*sz)).take sz=if i'=i then row' else (xs.drop (i'*sz)).take sz:=by
 have hle:i*sz+sz<=n*sz:=by have:=a1w sz (show i+1<=n from hi);rw[a1o]at this;omega
 have hs:(dz xs (i*sz) row').length=n*sz:=by simp[dz,hr];omega
 have hget:∀j,(dz xs (i*sz) row')[j]? = if j<i*sz then xs[j]? else if j<i*sz+sz then row'[j-i*sz]? else xs[j]?:=by
  intro j;unfold dz;by_cases h1:j<i*sz
  ·rw[d0 h1,a08,a1g (by simp;omega),a1d,d0 h1]
  ·rw[ds h1];by_cases h2:j<i*sz+sz
   ·rw[d0 h2,a1g (by simp;omega),a1u (by simp;omega)];congr 1;simp;omega
   ·rw[ds h2,a1u (by simp;omega),a1b];congr 1;simp;omega
 by_cases e:i'=i
 ·subst e;rw[d0 rfl];apply a15;intro j;rw[a1d,a1b,hget];by_cases hj:j<sz
  ·rw[d0 hj,ds (by omega),d0 (by omega)];congr 1;omega
  ·rw[ds hj,a1q (by omega)]
 ·rw[ds e];apply a15;intro j;rw[a1d,a1d,a1b,a1b,hget];by_cases hj:j<sz
  ·simp only[d0 hj];rcases Nat.lt_or_gt_of_ne e with hlt|hlt
   ·have:=a1w sz (show i'+1<=i from hlt);rw[a1o]at this;rw[d0 (by omega)]
   ·have:=a1w sz (show i+1<=i' from hlt);rw[a1o]at this;rw[ds (by omega),ds (by omega)]
  ·simp only[ds hj]
theorem m6:∀(π:br) (o:O) (vs us:List Value),cq π=true->dm π o vs us=vs
 |[],_,_,_,h=>by simp[cq]at h
 |.l::π,.p a b,vs,us,h=>by simp only[dm];rw[m6 π a _ us (by simpa[cq]using h),a1x]
 |.r::π,.p a b,vs,us,h=>by simp only[dm];rw[m6 π b _ us (by simpa[cq]using h),a1x]
 |.l::π,.fz (.p a b),vs,us,h=>by simp only[dm];rw[m6 π (.fz a) _ us (by simpa[cq]using h),a1x]
 |.r::π,.fz (.p a b),vs,us,h=>by simp only[dm];rw[m6 π (.fz b) _ us (by simpa[cq]using h),a1x]
 |.l::π,.sl e,vs,us,h=>by simp only[dm]
 |.r::π,.sl e,vs,us,h=>by simp only[dm]
 |.l::π,.pt e,vs,us,h=>by simp only[dm]
 |.l::π,.mp _ _,vs,us,h=>by simp only[dm]
 |.l::π,.op _,vs,us,h=>by simp only[dm]
 |.r::π,.pt e,vs,us,h=>by simp only[dm]
 |.r::π,.mp _ _,vs,us,h=>by simp only[dm]
 |.r::π,.op _,vs,us,h=>by simp only[dm]
 |.l::π,.fz (.int _),vs,us,h=>by simp only[dm]
 |.l::π,.fz .bool,vs,us,h=>by simp only[dm]
 |.l::π,.fz .str,vs,us,h=>by simp only[dm]
 |.l::π,.fz .u,vs,us,h=>by simp only[dm]
 |.l::π,.fz (.sl _),vs,us,h=>by simp only[dm]
 |.l::π,.fz (.pt _),vs,us,h=>by simp only[dm]
 |.l::π,.fz (.fn _ _),vs,us,h=>by simp only[dm]
 |.l::π,.fz (.ifc _ _),vs,us,h=>by simp only[dm]
 |.l::π,.fz (.mp _ _),vs,us,h=>by simp only[dm]
 |.l::π,.fz (.op _),vs,us,h=>by simp only[dm]
 |.l::π,.fz (.ns _),vs,us,h=>by simp only[dm]
 |.l::π,.fz (.er _),vs,us,h=>by simp only[dm]
 |.l::π,.fz .any,vs,us,h=>by simp only[dm]
 |.r::π,.fz (.int _),vs,us,h=>by simp only[dm]
 |.r::π,.fz .bool,vs,us,h=>by simp only[dm]
 |.r::π,.fz .str,vs,us,h=>by simp only[dm]
 |.r::π,.fz .u,vs,us,h=>by simp only[dm]
 |.r::π,.fz (.sl _),vs,us,h=>by simp only[dm]
 |.r::π,.fz (.pt _),vs,us,h=>by simp only[dm]
 |.r::π,.fz (.fn _ _),vs,us,h=>by simp only[dm]
 |.r::π,.fz (.ifc _ _),vs,us,h=>by simp only[dm]
 |.r::π,.fz (.mp _ _),vs,us,h=>by simp only[dm]
 |.r::π,.fz (.op _),vs,us,h=>by simp only[dm]
 |.r::π,.fz (.ns _),vs,us,h=>by simp only[dm]
 |.r::π,.fz (.er _),vs,us,h=>by simp only[dm]
 |.r::π,.fz .any,vs,us,h=>by simp only[dm]
 |.ix _::_,_,vs,us,h=>by simp only[dm]
 |.de::_,_,vs,us,h=>by simp only[dm]
def At(w:World)(S:Nat->Prop)(vs:List Value)(ad:Pl):Prop:=∀b off,ad=some (b,off)->¬S b/\∃cur ty',w.heap[b]? = some (.cells cur ty' (0,0))/\∀(j:Nat) (u:Value),vs[j]? = some u->cur[off+j]? = some u
def Wand(Im:Nat->Prop)(w:World)(π:br)(o:O)(x:o.strip.den)(S S':Nat->Prop)(q:Ob)(vs:List Value)(pl:Pl):Prop:=
 ∀(Im':Nat->Prop) (w':World) (n:Ob) (S'':Nat->Prop) (us':List Value) (ob':Ob),set π o x n=some ob'->n.o.size=q.o.size->Rel Im' w' n.o n.x S'' us'->gj Im Im' w w'->(∀c,S'' c->S c->S' c)->
  (cq π=true->∀b off,pl=some (b,off)->∀cur ty',w.heap[b]? = some (.cells cur ty' (0,0))->w'.heap[b]? = some (.cells (dz cur.toList off us').toArray ty' (0,0)))->
  (∀c,S c->¬S' c->(∀b off,pl=some (b,off)->cq π=true->c≠b)->w'.heap[c]? = w.heap[c]?)->
  ob'.o.size=o.size/\Rel Im' w' ob'.o ob'.x (fun c=>(S c/\¬S' c)\/S'' c) (dm π o vs us')
def Foc(Im:Nat->Prop)(w:World)(π:br)(o:O)(x:o.strip.den)(S:Nat->Prop)(vs:List Value)(ad:Pl)(q:Ob):Prop:=
 ∃us pl,∃S':Nat->Prop,res w π o vs ad=some (us,pl)/\(∀c,S' c->S c)/\Rel Im w q.o q.x S' us/\
  (cq π=true->∃b off cur ty',pl=some (b,off)/\S b/\¬S' b/\w.heap[b]? = some (.cells cur ty' (0,0))/\∀(j:Nat) (u:Value),us[j]? = some u->cur[off+j]? = some u)/\
  (cq π=false->∃n,gp π o=some n/\pl=ad.plus n/\us=(vs.drop n).take us.length/\n+us.length<=vs.length/\∀us':List Value,us'.length=us.length->dm π o vs us'=dz vs n us')/\
  Wand Im w π o x S S' q vs pl
theorem azr{va vb us:List Value}{n:Nat}(h:n+us.length<=va.length):dz va n us++vb=dz (va++vb) n us:=by unfold dz;rw[a41 (by omega),a3w (by omega)];simp
theorem ba7{va vb us:List Value}{n:Nat}:va++dz vb n us=dz (va++vb) (va.length+n) us:=by unfold dz;rw[List.take_append,List.drop_append];have h1:va.take (va.length+n)=va:=a27 (by omega);have h2:va.drop (va.length+n+us.length)=[]:=a4h (by omega);rw[h1,h2,show va.length+n-va.length=n by omega,show va.length+n+us.length-va.length=n+us.length by omega];simp
theorem Foc.left{Im:Nat->Prop}{w:World}{π:br}{a:O}{xa:a.strip.den}{b:Ob}{S S1 S2:Nat->Prop}{va vb:List Value}{ad:Pl}{q:Ob}{o:O}{x:o.strip.den}
  (hres:res w (.l::π) o (va++vb) ad=res w π a va ad) (hset:∀n,set (.l::π) o x n=(set π a xa n).map fun q=>mkP q b) (hsz:o.size=a.size+b.o.size)
  (hoff:gp (.l::π) o=gp π a) (hout:∀us,dm (.l::π) o (va++vb) us=dm π a va us++vb)
  (h1:∀c,S1 c->S c) (h2:∀c,S2 c->S c) (h3:∀c,S1 c->¬S2 c) (hb:Rel Im w b.o b.x S2 vb) (h:Foc Im w π a xa S1 va ad q):Foc Im w (.l::π) o x S (va++vb) ad q:=by
 obtain⟨us,pl,S',e1,e2,e3,e4,e5,e6⟩:=h;refine⟨us,pl,S',by rw[hres,e1],fun c hc=>h1 c (e2 c hc),e3,fun hh=>?_,fun hh=>?_,?_⟩
 ·obtain⟨bb,off,cur,ty',k1,k2,k3,k4,k5⟩:=e4 (by simpa[cq]using hh);exact⟨bb,off,cur,ty',k1,h1 _ k2,k3,k4,k5⟩
 ·obtain⟨n,k1,k2,k3,k4,k5⟩:=e5 (by simpa[cq]using hh);refine⟨n,by rw[hoff,k1],k2,?_,by rw[a0q];omega,fun us' hl=>?_⟩
  ·rw[a3w (by omega),a41 (by rw[a1n];omega)];exact k3
  ·rw[hout,k5 us' hl,azr (by omega)]
 ·intro Im' w' n S'' us' ob' f1 f2 f3 f4 f5 f6 f7;rw[hset]at f1
  cases hs:set π a xa n with
  |none=>rw[hs]at f1;cases f1
  |some qn=>
   rw[hs]at f1;simp only[a0z,a0d]at f1;subst f1;obtain⟨g1,g2⟩:=e6 Im' w' n S'' us' qn hs f2 f3 f4 (fun c hc h=>f5 c hc (h1 c h)) (fun hh=>f6 (by simpa[cq]using hh)) (fun c hc hn hne=>f7 c (h1 c hc) hn (fun bb off hp hh=>hne bb off hp (by simpa[cq]using hh)));refine⟨by rw[bbz,g1,hsz],?_⟩;rw[hout];refine apg (S1:=fun c=>(S1 c/\¬S' c)\/S'' c) (S2:=S2) (fun c hc=>?_) (fun c hc=>?_) (fun c hc hc2=>?_) g2 (Rel.keep f4 _ _ S2 _ (fun c hc=>?_) hb)
   ·rcases hc with⟨hc,hn⟩|hc
    ·exact .inl ⟨h1 c hc,hn⟩
    ·exact .inr hc
   ·exact .inl ⟨h2 c hc,fun hs'=>h3 c (e2 c hs') hc⟩
   ·rcases hc with⟨hc,_⟩|hc
    ·exact h3 c hc hc2
    ·exact h3 c (e2 c (f5 c hc (h2 c hc2))) hc2
   ·refine f7 c (h2 c hc) (fun hs'=>h3 c (e2 c hs') hc) (fun bb off hp hh e=>?_);obtain⟨b',off',cur,ty',k1,k2,_⟩:=e4 (by simpa[cq]using hh);rw[k1]at hp;cases hp;exact h3 _ k2 (e▸hc)
theorem Foc.right{Im:Nat->Prop}{w:World}{π:br}{b:O}{xb:b.strip.den}{a:Ob}{S S1 S2:Nat->Prop}{va vb:List Value}{ad:Pl}{q:Ob}{o:O}{x:o.strip.den}
  (hva:va.length=a.o.size)
  (hres:res w (.r::π) o (va++vb) ad=res w π b vb (ad.plus a.o.size)) (hset:∀n,set (.r::π) o x n=(set π b xb n).map fun q=>mkP a q) (hsz:o.size=a.o.size+b.size)
  (hoff:gp (.r::π) o=(gp π b).map (a.o.size+·)) (hout:∀us,dm (.r::π) o (va++vb) us=va++dm π b vb us)
  (h1:∀c,S1 c->S c) (h2:∀c,S2 c->S c) (h3:∀c,S1 c->¬S2 c) (ha:Rel Im w a.o a.x S1 va) (h:Foc Im w π b xb S2 vb (ad.plus a.o.size) q):Foc Im w (.r::π) o x S (va++vb) ad q:=by
 obtain⟨us,pl,S',e1,e2,e3,e4,e5,e6⟩:=h;refine⟨us,pl,S',by rw[hres,e1],fun c hc=>h2 c (e2 c hc),e3,fun hh=>?_,fun hh=>?_,?_⟩
 ·obtain⟨bb,off,cur,ty',k1,k2,k3,k4,k5⟩:=e4 (by simpa[cq]using hh);exact⟨bb,off,cur,ty',k1,h2 _ k2,k3,k4,k5⟩
 ·obtain⟨n,k1,k2,k3,k4,k5⟩:=e5 (by simpa[cq]using hh);refine⟨a.o.size+n,by rw[hoff,k1];rfl,?_,?_,by rw[a0q];omega,fun us' hl=>?_⟩
  ·rw[k2];cases ad <;> simp[Pl.plus,a3h]
  ·rw[←hva,List.drop_append,a4h (by omega),a2q,a42];exact k3
  ·rw[hout,k5 us' hl,ba7,hva]
 ·intro Im' w' n S'' us' ob' f1 f2 f3 f4 f5 f6 f7;rw[hset]at f1
  cases hs:set π b xb n with
  |none=>rw[hs]at f1;cases f1
  |some qn=>
   rw[hs]at f1;simp only[a0z,a0d]at f1;subst f1;obtain⟨g1,g2⟩:=e6 Im' w' n S'' us' qn hs f2 f3 f4 (fun c hc h=>f5 c hc (h2 c h)) (fun hh=>f6 (by simpa[cq]using hh)) (fun c hc hn hne=>f7 c (h2 c hc) hn (fun bb off hp hh=>hne bb off hp (by simpa[cq]using hh)));refine⟨by rw[bbz,g1,hsz],?_⟩;rw[hout];refine apg (S2:=fun c=>(S2 c/\¬S' c)\/S'' c) (S1:=S1) (fun c hc=>?_) (fun c hc=>?_) (fun c hc2 hc=>?_) (Rel.keep f4 _ _ S1 _ (fun c hc=>?_) ha) g2
   ·exact .inl ⟨h1 c hc,fun hs'=>h3 c hc (e2 c hs')⟩
   ·rcases hc with⟨hc,hn⟩|hc
    ·exact .inl ⟨h2 c hc,hn⟩
    ·exact .inr hc
   ·rcases hc with⟨hc,_⟩|hc
    ·exact h3 c hc2 hc
    ·exact h3 c hc2 (e2 c (f5 c hc (h1 c hc2)))
   ·refine f7 c (h1 c hc) (fun hs'=>h3 c hc (e2 c hs')) (fun bb off hp hh e=>?_);obtain⟨b',off',cur,ty',k1,k2,_⟩:=e4 (by simpa[cq]using hh);rw[k1]at hp;cases hp;exact h3 _ (e▸hc) k2
end Go.Bm
/- The dv machine:the look into an own tree. -/
namespace Go.Bm
open Go.RowKit
theorem At.left{w:World}{S S1:Nat->Prop}{va vb:List Value}{ad:Pl}(h1:∀c,S1 c->S c)(h:At w S (va++vb) ad):At w S1 va ad:=by intro b off e;obtain⟨k1,cur,ty',k2,k3⟩:=h b off e;refine⟨fun hc=>k1 (h1 b hc),cur,ty',k2,fun j u hu=>k3 j u ?_⟩;rw[a1g (a1k.1 hu).1];exact hu
theorem At.right{w:World}{S S2:Nat->Prop}{va vb:List Value}{ad:Pl}{n:Nat}(hn:va.length=n)(h2:∀c,S2 c->S c)(h:At w S (va++vb) ad):At w S2 vb (ad.plus n):=by
 intro b off e
 cases ad with
 |none=>cases e
 |some p=>obtain⟨b',off'⟩:=p;simp only[Pl.plus,a0z,a0d,a0j]at e;obtain⟨rfl,rfl⟩:=e;obtain⟨k1,cur,ty',k2,k3⟩:=h b' off' rfl;refine⟨fun hc=>k1 (h2 b' hc),cur,ty',k2,fun j u hu=>?_⟩;have:=k3 (n+j) u (by rw[a1u (by omega)];rw[hn,a42];exact hu);rw[←this];congr 1;omega
theorem aww{w':World}{ety:TypeId}{sz n:Nat}{g off cap:Nat}{cur:Array Value}{xs row':List Value}{i:Nat}(hxl:xs.length=n*sz)
  (h1:n<=cap+1) (h2:cap+1<=maxLen) (h3:cur.size=off+(cap+1)*sz) (h4:(cur.toList.drop off).take (n*sz)=xs) (hi:i<n) (hr:row'.length=sz) {m:Nat} {us':List Value} (hm:m+us'.length<=sz)
  (hrow:row'=dz ((xs.drop (i*sz)).take sz) m us')
  (hg:w'.heap[g]? = some (.cells (dz cur.toList (off+i*sz+m) us').toArray ety (0,0))):ub w' ety sz (.slice (some ⟨g,off,none⟩) n (cap+1)) n (dz xs (i*sz) row'):=by
 have hle:i*sz+sz<=n*sz:=by have:=a1w sz (show i+1<=n from hi);rw[a1o]at this;omega
 have hlc:off+n*sz<=cur.size:=by rw[h3];exact Nat.add_le_add_left (a1w _ h1) _
 have hcl:cur.toList.length=cur.size:=a11;refine⟨by simp[dz,hr];omega,.inr ⟨g,off,cap,_,rfl,hg,h1,h2,?_,?_⟩⟩
 ·rw[List.size_toArray,←h3,←hcl];simp[dz];omega
 ·show ((dz cur.toList (off+i*sz+m) us').drop off).take (n*sz)=_;subst hrow;subst h4
  have e0:(dz cur.toList (off+i*sz+m) us').drop off=dz (cur.toList.drop off) (i*sz+m) us':=by
   unfold dz;rw[a08,a3w (by simp;omega),a4i,a08,a3i];congr 2
   ·omega
   ·congr 1;omega
  rw[e0];have hdl:(cur.toList.drop off).length=cur.size-off:=by rw[a1n,hcl]
  generalize cur.toList.drop off=D at *;have hA:(D.take (n*sz)).length=n*sz:=hxl
  have e1:dz (D.take (n*sz)) (i*sz) (dz (((D.take (n*sz)).drop (i*sz)).take sz) m us')=dz (D.take (n*sz)) (i*sz+m) us':=by
   generalize D.take (n*sz)=A at hA hr⊢;have hsl:(dz ((A.drop (i*sz)).take sz) m us').length=sz:=hr;apply a15;intro j
   have hget:∀(B us:List Value) (p:Nat),p+us.length<=B.length->∀j,(dz B p us)[j]? = if j<p then B[j]? else if j<p+us.length then us[j-p]? else B[j]?:=by
    intro B us p hp j;unfold dz;by_cases q1:j<p
    ·rw[d0 q1,a08,a1g (by simp;omega),a1d,d0 q1]
    ·rw[ds q1];by_cases q2:j<p+us.length
     ·rw[d0 q2,a1g (by simp;omega),a1u (by simp;omega)];congr 1;simp;omega
     ·rw[ds q2,a1u (by simp;omega),a1b];congr 1;simp;omega
   have hrl:((A.drop (i*sz)).take sz).length=sz:=by simp;omega
   rw[hget A _ (i*sz) (by omega) j,hget A us' (i*sz+m) (by omega) j,hsl];by_cases q1:j<i*sz
   ·rw[d0 q1,d0 (by omega)]
   ·rw[ds q1];by_cases q2:j<i*sz+sz
    ·rw[d0 q2,hget _ us' m (by omega)];by_cases q3:j<i*sz+m
     ·rw[d0 (by omega),d0 q3,a1d,d0 (by omega),a1b];congr 1;omega
     ·rw[ds (by omega),ds q3];by_cases q4:j<i*sz+m+us'.length
      ·rw[d0 (by omega),d0 q4];congr 1;omega
      ·rw[ds (by omega),ds q4,a1d,d0 (by omega),a1b];congr 1;omega
    ·rw[ds q2,ds (by omega),ds (by omega)]
  rw[e1];unfold dz;rw[a08,List.take_append,List.take_append,List.take_take,a4i];simp only[a1c,hdl];rw[show min (i*sz+m) (cur.size-off)=i*sz+m by omega,show min (n*sz) (i*sz+m)=i*sz+m by omega,List.take_take,show min (i*sz+m) (n*sz)=i*sz+m by omega];rw[a27 (l:=us') (by omega),a08];congr 3;omega
set_option maxRecDepth 4000 in
theorem ad4{Im:Nat->Prop}{w:World}:(π:br)->(o:O)->(x:o.strip.den)->(S:Nat->Prop)->(vs:List Value)->(ad:Pl)->(q:Ob)->Rel Im w o x S vs->gok π o x->get π o x=some q->At w S vs ad->Foc Im w π o x S vs ad q
 |[],o,x,S,vs,ad,q,hr,_,hg,hat=>by
  simp only[get,a0d]at hg;subst hg;refine⟨vs,ad,S,rfl,fun _ h=>h,hr,fun h=>by simp[cq]at h,fun _=>⟨0,rfl,by cases ad <;> simp[Pl.plus],by simp,by omega,fun us' hl=>?_⟩,?_⟩
  ·simp only[dm,dz,List.take_zero,a2q,a10];rw[hl,a4h (a0f _),a2h]
  ·intro Im' w' n S'' us' ob' f1 f2 f3 f4 f5 _ _;simp only[set,a0d]at f1;subst f1;exact⟨f2,Rel.wide _ _ S'' _ _ (fun c hc=>.inr hc) f3⟩
 |.l::π,.p a b,x,S,vs,ad,q,hr,hk,hg,hat=>by
  simp only[Rel]at hr;obtain⟨va,vb,S1,S2,rfl,h1,h2,h3,ha,hb⟩:=hr;have hl:=Rel.len a _ _ _ ha
  refine Foc.left (b:=⟨b,x.2⟩) (S1:=S1) (S2:=S2) (by simp only[res];rw[yr hl]) (fun n=>by simp only[set];cases set π a x.1 n <;> rfl) (by simp[O.size,T.size]) (by simp only[gp]) (fun us=>by simp only[dm];rw[yr hl,yd hl]) h1 h2 h3 hb
   (ad4 π a x.1 S1 va ad q ha (by simpa only [gok]using hk) (by simpa only [get]using hg) (hat.left h1))
 |.r::π,.p a b,x,S,vs,ad,q,hr,hk,hg,hat=>by
  simp only[Rel]at hr;obtain⟨va,vb,S1,S2,rfl,h1,h2,h3,ha,hb⟩:=hr;have hl:=Rel.len a _ _ _ ha
  refine Foc.right (a:=⟨a,x.1⟩) (S1:=S1) (S2:=S2) hl (by simp only[res];rw[yd hl]) (fun n=>by simp only[set];cases set π b x.2 n <;> rfl) (by simp[O.size,T.size])
   (by simp only[gp];cases gp π b <;> simp[O.size]) (fun us=>by simp only[dm];rw[yr hl,yd hl]) h1 h2 h3 ha
   (ad4 π b x.2 S2 vb (ad.plus a.size) q hb (by simpa only [gok]using hk) (by simpa only [get]using hg) (hat.right hl h2))
 |.l::π,.fz (.p a b),x,S,vs,ad,q,hr,hk,hg,hat=>by
  simp only[Rel,ah]at hr;obtain⟨va,vb,rfl,ha,hb⟩:=hr;have hl:=ah.len a _ _ ha
  refine Foc.left (a:=.fz a) (b:=⟨.fz b,x.2⟩) (S1:=fun _=>False) (S2:=fun _=>False) (by simp only[res];rw[yr hl]) (fun n=>by simp only[set];cases set π (.fz a) x.1 n <;> rfl) (by simp[O.size,T.size]) (by simp only[gp]) (fun us=>by simp only[dm];rw[yr hl,yd hl])
   (fun _ h=>h.elim) (fun _ h=>h.elim) (fun _ h=>h.elim) (by simpa only [Rel]using hb)
   (ad4 π (.fz a) x.1 _ va ad q (by simpa only [Rel]using ha) (by simpa only [gok]using hk) (by simpa only [get]using hg) (hat.left (fun _ h=>h.elim)))
 |.r::π,.fz (.p a b),x,S,vs,ad,q,hr,hk,hg,hat=>by
  simp only[Rel,ah]at hr;obtain⟨va,vb,rfl,ha,hb⟩:=hr;have hl:=ah.len a _ _ ha
  refine Foc.right (b:=.fz b) (a:=⟨.fz a,x.1⟩) (S1:=fun _=>False) (S2:=fun _=>False) hl (by simp only[res];rw[yd hl];rfl) (fun n=>by simp only[set];cases set π (.fz b) x.2 n <;> rfl) (by simp[O.size,T.size])
   (by simp only[gp];cases gp π (.fz b) <;> simp[O.size]) (fun us=>by simp only[dm];rw[yr hl,yd hl])
   (fun _ h=>h.elim) (fun _ h=>h.elim) (fun _ h=>h.elim) (by simpa only [Rel]using ha)
   (ad4 π (.fz b) x.2 _ vb (ad.plus a.size) q (by simpa only [Rel]using hb) (by simpa only [gok]using hk) (by simpa only [get]using hg) (hat.right hl (fun _ h=>h.elim)))
 |.ix i::π,.sl e,x,S,vs,ad,q,hr,hk,hg,hat=>by
  simp only[Rel]at hr;obtain⟨v,ety,xs,T,rfl,h2,h3,h4,h5,h6,h7⟩:=hr;simp only[gok]at hk;simp only[get]at hg;obtain⟨hi,hk⟩:=hk;rcases yi h2 with⟨hn,_⟩|⟨g,off0,cap,cur,hv,hgg,hc1,hc2,hc3,hc4⟩
  ·omega
  have hxi:x[i]? = some (x.getD i e.dflt):=by rw[a0n,a0o hi];rfl
  have hrow:=h7 i _ hxi;have hrl:=Rel.len e _ _ _ hrow;have hcells:oi w g (off0+i*e.size) ((xs.drop (i*e.size)).take e.size):=fun j u hu=>by rw[a14 w g _ cur ety (0,0) hgg];exact aj9 hc4 hu
  have hat':At w (T i) ((xs.drop (i*e.size)).take e.size) (some (g,off0+i*e.size)):=by intro b off hh;cases hh;refine⟨fun hc=>(h5 i g hc).2 (by rw[hv];rfl),cur,ety,hgg,fun j u hu=>?_⟩;exact aj9 hc4 hu
  obtain⟨us,pl,S',e1,e2,e3,e4,e5,e6⟩:=ad4 π e _ (T i) _ (some (g,off0+i*e.size)) q hrow hk hg hat';have hSg:S g:=h4 g (by rw[hv];rfl);have hgT:¬T i g:=fun hc=>(h5 i g hc).2 (by rw[hv];rfl);have hres:res w (.ix i::π) (.sl e) [v] ad=some (us,pl):=by rw[hv];simp only[res,a10];rw[wc hrl hcells];exact e1
  refine⟨us,pl,S',hres,fun c hc=>(h5 i c (e2 c hc)).1,e3,fun _=>?_,fun h=>by simp[cq]at h,?_⟩
  ·cases hh:cq π with
   |true=>obtain⟨b,off,cur',ty',k1,k2,k3,k4,k5⟩:=e4 hh;exact⟨b,off,cur',ty',k1,(h5 i b k2).1,k3,k4,k5⟩
   |false=>
    obtain⟨n,k1,k2,k3,k4,k5⟩:=e5 hh;refine⟨g,off0+i*e.size+n,cur,ety,by rw[k2];rfl,hSg,fun hc=>hgT (e2 g hc),hgg,fun j u hu=>?_⟩;rw[k3,a1d]at hu;split at hu
    ·rw[a1b]at hu;have:=aj9 hc4 hu;rw[←this];congr 1;omega
    ·cases hu
  ·intro Im' w' n S'' us' ob' f1 f2 f3 f4 f5 f6 f7;simp only[set]at f1
   cases hs:set π e (x.getD i e.dflt) n with
   |none=>rw[hs]at f1;cases f1
   |some qn=>
    rw[hs]at f1;simp only at f1
    cases hcst:qg qn e with
    |none=>rw[hcst]at f1;cases f1
    |some y=>
     rw[hcst]at f1;simp only[a0d]at f1;subst f1
     have hcast:∃h:qn.o=e,y=h▸qn.x:=by
      unfold qg at hcst;split at hcst
      ·rename_i h;exact⟨O.beq_eq h,by simpa using hcst.symm⟩
      ·cases hcst
     have hul:us'.length=us.length:=by rw[Rel.len _ _ _ _ f3,Rel.len _ _ _ _ e3];exact f2
     obtain⟨g1,g2⟩:=e6 Im' w' n S'' us' qn hs f2 f3 f4 (fun c hc h=>f5 c hc (h5 i c h).1) (fun hh b off hp=>f6 rfl b off hp)
      (fun c hc hn hne=>f7 c (h5 i c hc).1 hn (fun b off hp _=>by
       cases hh:cq π with
       |true=>exact hne b off hp hh
       |false=>obtain⟨m,k1,k2,_⟩:=e5 hh;rw[k2]at hp;simp only[Pl.plus,a0z,a0d,a0j]at hp;obtain⟨rfl,_⟩:=hp;exact fun ec=>hgT (ec▸hc)))
     obtain⟨rfl,rfl⟩:=hcast;have hol:(dm π qn.o ((xs.drop (i*qn.o.size)).take qn.o.size) us').length=qn.o.size:=Rel.len _ _ _ _ g2;refine⟨rfl,?_⟩;simp only[dm]
     -- the row in the new world
     have hnew:∃xs',ub w' ety qn.o.size v x.length xs'/\∀i',(xs'.drop (i'*qn.o.size)).take qn.o.size=if i'=i then dm π qn.o ((xs.drop (i*qn.o.size)).take qn.o.size) us' else (xs.drop (i'*qn.o.size)).take qn.o.size:=by
      cases hh:cq π with
      |true=>
       obtain⟨b,off,cur',ty',k1,k2,k3,k4,k5⟩:=e4 hh;refine⟨xs,anx (fun b' hb'=>?_) h2,fun i'=>?_⟩
       ·have hbg:b'=g:=by rw[hv]at hb';simpa[jt]using hb'.symm
        subst hbg;refine f7 b' hSg (fun hc=>hgT (e2 b' hc)) (fun b2 off2 hp _=>?_);rw[k1]at hp;simp only[a0d,a0j]at hp;intro ec;exact hgT (by rw[ec,←hp.1];exact k2)
       ·rw[m6 _ _ _ _ hh];split
        ·rename_i ei;rw[ei]
        ·rfl
      |false=>
       obtain⟨m,k1,k2,k3,k4,k5⟩:=e5 hh;have hpl:pl=some (g,off0+i*qn.o.size+m):=by rw[k2];rfl
       have hgw:=f6 rfl g _ hpl cur ety hgg;have hor:=k5 us' hul;rw[hrl]at k4;refine⟨dz xs (i*qn.o.size) (dm π qn.o ((xs.drop (i*qn.o.size)).take qn.o.size) us'),?_,fun i'=>bdk h2.1 hi hol⟩;rw[hv];exact aww h2.1 hc1 hc2 hc3 hc4 hi hol (m:=m) (us':=us') (by omega) hor hgw
     obtain⟨xs',hx1,hx2⟩:=hnew;simp only[Rel];refine⟨v,ety,xs',fun i' c=>if i'=i then (T i c/\¬S' c)\/S'' c else T i' c,rfl,by rw[a1h];exact hx1,by rw[a1h];exact h3,fun c hc=>?_,fun i' c hc=>?_,fun i1 i2 c hne hc1' hc2'=>?_,fun i' y hy=>?_⟩
     ·refine .inl ⟨h4 c hc,fun hs'=>(h5 i c (e2 c hs')).2 hc⟩
     ·simp only at hc;by_cases ei:i'=i
      ·rw[d0 ei]at hc;rcases hc with⟨hc,hn⟩|hc
       ·exact⟨.inl ⟨(h5 i c hc).1,hn⟩,(h5 i c hc).2⟩
       ·refine⟨.inr hc,fun hr=>?_⟩;exact (h5 i c (e2 c (f5 c hc (h4 c hr)))).2 hr
      ·rw[ds ei]at hc;exact⟨.inl ⟨(h5 i' c hc).1,fun hs'=>h6 i' i c ei hc (e2 c hs')⟩,(h5 i' c hc).2⟩
     ·simp only at hc1' hc2';by_cases e1':i1=i
      ·rw[d0 e1']at hc1';have e2':i2≠i:=fun h=>hne (e1'.trans h.symm);rw[ds e2']at hc2';rcases hc1' with⟨hc,_⟩|hc
       ·exact h6 i i2 c (a0w e2') hc hc2'
       ·exact h6 i i2 c (a0w e2') (e2 c (f5 c hc (h5 i2 c hc2').1)) hc2'
      ·rw[ds e1']at hc1';by_cases e2':i2=i
       ·rw[d0 e2']at hc2';rcases hc2' with⟨hc,_⟩|hc
        ·exact h6 i1 i c e1' hc1' hc
        ·exact h6 i1 i c e1' hc1' (e2 c (f5 c hc (h5 i1 c hc1').1))
       ·rw[ds e2']at hc2';exact h6 i1 i2 c hne hc1' hc2'
     ·rw[hx2 i'];by_cases ei:i'=i
      ·subst ei;rw[a3j]at hy;simp only[hi,a00,a0d]at hy;subst hy;simp only[a00];exact g2
      ·simp only[ds ei];rw[a3j,ds (a0w ei)]at hy;refine Rel.keep f4 _ y (T i') _ (fun c hc=>f7 c (h5 i' c hc).1 (fun hs'=>h6 i' i c ei hc (e2 c hs')) (fun b off hp _ ec=>?_)) (h7 i' y hy)
       cases hh:cq π with
       |true=>obtain⟨b2,off2,cur',ty',k1,k2,_⟩:=e4 hh;rw[k1]at hp;simp only[a0d,a0j]at hp;exact h6 i' i c ei hc (by rw[ec,←hp.1];exact k2)
       |false=>obtain⟨m,k1,k2,_⟩:=e5 hh;rw[k2]at hp;simp only[Pl.plus,a0z,a0d,a0j]at hp;exact (h5 i' c hc).2 (by rw[hv,ec,←hp.1];rfl)
 |.de::π,.pt t,x,S,vs,ad,q,hr,hk,hg,hat=>by
  simp only[Rel]at hr;obtain⟨b0,us0,ty0,S0,rfl,h2,h3,h4,h5⟩:=hr;simp only[gok]at hk;simp only[get]at hg;have hlen:=Rel.len t _ _ _ h5;have hcells:oi w b0 0 us0:=fun j u hu=>by rw[a14 w b0 _ us0.toArray ty0 (0,0) h3];simpa using hu
  have hat':At w S0 us0 (some (b0,0)):=by intro b off hh;cases hh;exact⟨fun hc=>(h4 b0 hc).2 rfl,us0.toArray,ty0,h3,fun j u hu=>by simpa using hu⟩
  obtain⟨us,pl,S',e1,e2,e3,e4,e5,e6⟩:=ad4 π t _ S0 us0 (some (b0,0)) q h5 hk hg hat';have hb0:¬S0 b0:=fun hc=>(h4 b0 hc).2 rfl;refine⟨us,pl,S',?_,fun c hc=>(h4 c (e2 c hc)).1,e3,fun _=>?_,fun h=>by simp[cq]at h,?_⟩
  ·simp only[res];rw[wc hlen hcells];exact e1
  ·cases hh:cq π with
   |true=>obtain⟨b,off,cur',ty',k1,k2,k3,k4,k5⟩:=e4 hh;exact⟨b,off,cur',ty',k1,(h4 b k2).1,k3,k4,k5⟩
   |false=>
    obtain⟨n,k1,k2,k3,k4,k5⟩:=e5 hh;refine⟨b0,n,us0.toArray,ty0,by rw[k2];simp[Pl.plus],h2,fun hc=>hb0 (e2 b0 hc),h3,fun j u hu=>?_⟩;rw[k3,a1d]at hu;split at hu
    ·rw[a1b]at hu;simpa using hu
    ·cases hu
  ·intro Im' w' n S'' us' ob' f1 f2 f3 f4 f5 f6 f7;simp only[set]at f1
   cases hs:set π t x n with
   |none=>rw[hs]at f1;cases f1
   |some qn=>
    rw[hs]at f1;simp only[a0d]at f1;subst f1;have hul:us'.length=us.length:=by rw[Rel.len _ _ _ _ f3,Rel.len _ _ _ _ e3];exact f2
    obtain⟨g1,g2⟩:=e6 Im' w' n S'' us' qn hs f2 f3 f4 (fun c hc h=>f5 c hc (h4 c h).1) (fun hh b off hp=>f6 rfl b off hp)
     (fun c hc hn hne=>f7 c (h4 c hc).1 hn (fun b off hp _=>by
      cases hh:cq π with
      |true=>exact hne b off hp hh
      |false=>obtain⟨m,k1,k2,_⟩:=e5 hh;rw[k2]at hp;simp only[Pl.plus,a0z,a0d,a0j]at hp;obtain⟨rfl,_⟩:=hp;exact (h4 c hc).2))
    refine⟨rfl,?_⟩;simp only[dm,Rel]
    have hnew:w'.heap[b0]? = some (.cells (dm π t us0 us').toArray ty0 (0,0)):=by
     cases hh:cq π with
     |true=>
      obtain⟨b,off,cur',ty',k1,k2,k3,k4,k5⟩:=e4 hh;rw[m6 _ _ _ _ hh,f7 b0 h2 (fun hc=>hb0 (e2 b0 hc)) (fun b2 off2 hp _=>?_)]
      ·exact h3
      ·rw[k1]at hp;simp only[a0d,a0j]at hp;intro ec;exact hb0 (by rw[ec,←hp.1];exact k2)
     |false=>obtain⟨m,k1,k2,k3,k4,k5⟩:=e5 hh;have:=f6 rfl b0 m (by rw[k2];simp[Pl.plus]) us0.toArray ty0 h3;rw[this,k5 us' hul]
    refine⟨b0,_,ty0,fun c=>(S0 c/\¬S' c)\/S'' c,rfl,.inl ⟨h2,fun hc=>hb0 (e2 b0 hc)⟩,hnew,fun c hc=>?_,g2⟩;rcases hc with⟨hc,hn⟩|hc
    ·exact⟨.inl ⟨(h4 c hc).1,hn⟩,(h4 c hc).2⟩
    ·exact⟨.inr hc,fun ec=>hb0 (e2 b0 (f5 b0 (ec▸hc) h2))⟩
 |.l::_,.sl _,_,_,_,_,_,_,hk,_,_=>by simp only[gok]at hk
 |.l::_,.pt _,_,_,_,_,_,_,hk,_,_=>by simp only[gok]at hk
 |.l::_,.fz (.int _),_,_,_,_,_,_,hk,_,_=>by simp only[gok]at hk
 |.l::_,.fz .bool,_,_,_,_,_,_,hk,_,_=>by simp only[gok]at hk
 |.l::_,.fz .str,_,_,_,_,_,_,hk,_,_=>by simp only[gok]at hk
 |.l::_,.fz .u,_,_,_,_,_,_,hk,_,_=>by simp only[gok]at hk
 |.l::_,.fz (.sl _),_,_,_,_,_,_,hk,_,_=>by simp only[gok]at hk
 |.l::_,.fz (.pt _),_,_,_,_,_,_,hk,_,_=>by simp only[gok]at hk
 |.l::_,.fz (.fn _ _),_,_,_,_,_,_,hk,_,_=>by simp only[gok]at hk
 |.l::_,.fz .any,_,_,_,_,_,_,hk,_,_=>by simp only[gok]at hk
 |.r::_,.sl _,_,_,_,_,_,_,hk,_,_=>by simp only[gok]at hk
 |.r::_,.pt _,_,_,_,_,_,_,hk,_,_=>by simp only[gok]at hk
 |.r::_,.fz (.int _),_,_,_,_,_,_,hk,_,_=>by simp only[gok]at hk
 |.r::_,.fz .bool,_,_,_,_,_,_,hk,_,_=>by simp only[gok]at hk
 |.r::_,.fz .str,_,_,_,_,_,_,hk,_,_=>by simp only[gok]at hk
 |.r::_,.fz .u,_,_,_,_,_,_,hk,_,_=>by simp only[gok]at hk
 |.r::_,.fz (.sl _),_,_,_,_,_,_,hk,_,_=>by simp only[gok]at hk
 |.r::_,.fz (.pt _),_,_,_,_,_,_,hk,_,_=>by simp only[gok]at hk
 |.r::_,.fz (.fn _ _),_,_,_,_,_,_,hk,_,_=>by simp only[gok]at hk
 |.r::_,.fz .any,_,_,_,_,_,_,hk,_,_=>by simp only[gok]at hk
 |.ix _::_,.fz _,_,_,_,_,_,_,hk,_,_=>by simp only[gok]at hk
 |.ix _::_,.p _ _,_,_,_,_,_,_,hk,_,_=>by simp only[gok]at hk
 |.ix _::_,.pt _,_,_,_,_,_,_,hk,_,_=>by simp only[gok]at hk
 |.de::_,.fz _,_,_,_,_,_,_,hk,_,_=>by simp only[gok]at hk
 |.de::_,.p _ _,_,_,_,_,_,_,hk,_,_=>by simp only[gok]at hk
 |.de::_,.sl _,_,_,_,_,_,_,hk,_,_=>by simp only[gok]at hk
end Go.Bm
/- The dv machine:the state. -/
namespace Go.Bm
open Go.RowKit
theorem yk{Im:Nat->Prop}{w w':World}:(π:br)->(o:O)->(x:o.strip.den)->(S:Nat->Prop)->(vs:List Value)->(ad:Pl)->Rel Im w o x S vs->gok π o x->(∀b,S b->w'.heap[b]? = w.heap[b]?)->res w' π o vs ad=res w π o vs ad
 |[],o,x,S,vs,ad,_,_,_=>by simp only[res]
 |.l::π,.p a b,x,S,vs,ad,hr,hk,hS=>by simp only[Rel]at hr;obtain⟨va,vb,S1,S2,rfl,h1,h2,h3,ha,hb⟩:=hr;simp only[res];rw[yr (Rel.len a _ _ _ ha)];exact yk π a x.1 S1 va ad ha (by simpa only [gok]using hk) (fun c hc=>hS c (h1 c hc))
 |.r::π,.p a b,x,S,vs,ad,hr,hk,hS=>by simp only[Rel]at hr;obtain⟨va,vb,S1,S2,rfl,h1,h2,h3,ha,hb⟩:=hr;simp only[res];rw[yd (Rel.len a _ _ _ ha)];exact yk π b x.2 S2 vb _ hb (by simpa only [gok]using hk) (fun c hc=>hS c (h2 c hc))
 |.l::π,.fz (.p a b),x,S,vs,ad,hr,hk,hS=>by simp only[Rel,ah]at hr;obtain⟨va,vb,rfl,ha,hb⟩:=hr;simp only[res];rw[yr (ah.len a _ _ ha)];exact yk π (.fz a) x.1 (fun _=>False) va ad (by simpa only [Rel]using ha) (by simpa only [gok]using hk) (fun c hc=>hc.elim)
 |.r::π,.fz (.p a b),x,S,vs,ad,hr,hk,hS=>by simp only[Rel,ah]at hr;obtain⟨va,vb,rfl,ha,hb⟩:=hr;simp only[res];rw[yd (ah.len a _ _ ha)];exact yk π (.fz b) x.2 (fun _=>False) vb _ (by simpa only [Rel]using hb) (by simpa only [gok]using hk) (fun c hc=>hc.elim)
 |.ix i::π,.sl e,x,S,vs,ad,hr,hk,hS=>by
  simp only[Rel]at hr;obtain⟨v,ety,xs,T,rfl,h2,h3,h4,h5,h6,h7⟩:=hr;simp only[gok]at hk;obtain⟨hi,hk⟩:=hk;rcases yi h2 with⟨hn,_⟩|⟨g,off0,cap,cur,hv,hgg,hc1,hc2,hc3,hc4⟩
  ·omega
  have hxi:x[i]? = some (x.getD i e.dflt):=by rw[a0n,a0o hi];rfl
  have hrow:=h7 i _ hxi;have hrl:=Rel.len e _ _ _ hrow;have hcells:oi w g (off0+i*e.size) ((xs.drop (i*e.size)).take e.size):=fun j u hu=>by rw[a14 w g _ cur ety (0,0) hgg];exact aj9 hc4 hu
  have hcells':=hcells.keep (w':=w') (hS g (h4 g (by rw[hv];rfl)));rw[hv];simp only[res,a10];rw[wc hrl hcells,wc hrl hcells'];exact yk π e _ (T i) _ _ hrow hk (fun c hc=>hS c (h5 i c hc).1)
 |.de::π,.pt t,x,S,vs,ad,hr,hk,hS=>by
  simp only[Rel]at hr;obtain⟨b0,us0,ty0,S0,rfl,h2,h3,h4,h5⟩:=hr;simp only[gok]at hk;have hlen:=Rel.len t _ _ _ h5;have hcells:oi w b0 0 us0:=fun j u hu=>by rw[a14 w b0 _ us0.toArray ty0 (0,0) h3];simpa using hu
  have hcells':=hcells.keep (w':=w') (hS b0 h2);simp only[res];rw[wc hlen hcells,wc hlen hcells'];exact yk π t x S0 us0 _ h5 hk (fun c hc=>hS c (h4 c hc).1)
 |.l::_,.sl _,_,_,_,_,_,_,_=>by simp only[res]
 |.l::_,.pt _,_,_,_,_,_,_,_=>by simp only[res]
 |.l::_,.fz (.int _),_,_,_,_,_,_,_=>by simp only[res]
 |.l::_,.fz .bool,_,_,_,_,_,_,_=>by simp only[res]
 |.l::_,.fz .str,_,_,_,_,_,_,_=>by simp only[res]
 |.l::_,.fz .u,_,_,_,_,_,_,_=>by simp only[res]
 |.l::_,.fz (.sl _),_,_,_,_,_,_,_=>by simp only[res]
 |.l::_,.fz (.pt _),_,_,_,_,_,_,_=>by simp only[res]
 |.l::_,.fz (.fn _ _),_,_,_,_,_,_,_=>by simp only[res]
 |.l::_,.fz .any,_,_,_,_,_,_,_=>by simp only[res]
 |.r::_,.sl _,_,_,_,_,_,_,_=>by simp only[res]
 |.r::_,.pt _,_,_,_,_,_,_,_=>by simp only[res]
 |.r::_,.fz (.int _),_,_,_,_,_,_,_=>by simp only[res]
 |.r::_,.fz .bool,_,_,_,_,_,_,_=>by simp only[res]
 |.r::_,.fz .str,_,_,_,_,_,_,_=>by simp only[res]
 |.r::_,.fz .u,_,_,_,_,_,_,_=>by simp only[res]
 |.r::_,.fz (.sl _),_,_,_,_,_,_,_=>by simp only[res]
 |.r::_,.fz (.pt _),_,_,_,_,_,_,_=>by simp only[res]
 |.r::_,.fz (.fn _ _),_,_,_,_,_,_,_=>by simp only[res]
 |.r::_,.fz .any,_,_,_,_,_,_,_=>by simp only[res]
 |.ix _::_,.fz _,_,_,_,_,_,_,_=>by simp only[res]
 |.ix _::_,.p _ _,_,_,_,_,_,_,_=>by simp only[res]
 |.ix _::_,.pt _,_,_,_,_,_,_,_=>by simp only[res]
 |.de::_,.fz _,_,_,_,_,_,_,_=>by simp only[res]
 |.de::_,.p _ _,_,_,_,_,_,_,_=>by simp only[res]
 |.de::_,.sl _,_,_,_,_,_,_,_=>by simp only[res]
def Ref(β:Nat->Value)(M:Mem)(w:World)(k:Nat)(π:br)(vs:List Value):Prop:=∃ob pl,go M k=some ob/\gok π ob.o ob.x/\(∃q,get π ob.o ob.x=some q)/\res w π ob.o [β k] none=some (vs,pl)
def Adr(β:Nat->Value)(M:Mem)(w:World)(k:Nat)(π:br)(v:Value):Prop:=∃ob us b off,go M k=some ob/\gok π ob.o ob.x/\(∃q,get π ob.o ob.x=some q)/\cq π=true/\res w π ob.o [β k] none=some (us,some (b,off))/\v=.pointer (some ⟨b,off,none⟩)
def aa(β:Nat->Value)(M:Mem)(Im:Nat->Prop)(w:World):V->List Value->Prop
 |.p a b,vs=>∃va vb,vs=va++vb/\aa β M Im w a va/\aa β M Im w b vb
 |.u,vs=>vs=[]
 |.ref k π,vs=>Ref β M w k π vs
 |.ad k π,vs=>∃v,vs=[v]/\Adr β M w k π v
 |.d t x,vs=>ah Im w t x vs
 |.nl,vs=>∃oa,vs=[.slice oa 0 0]
 |.np,vs=>vs=[.pointer none]
 |.any,vs=>∀u∈vs,u.oneCell'=true
 |.fn f v,vs=>∃us:List Value,vs=[.func (.func f) #[] us.toArray]/\aa β M Im w v us
 |.bx v,vs=>∃b o us,vs=[.pointer (some ⟨b,o,none⟩)]/\Im b/\oi w b o us/\aa β M Im w v us
 |.ag _,_=>False
 |.tup _,_=>False
 |.gd _ _ _ _,_=>False
 |.ifc t v,vs=>∃u:Value,vs=[.iface t u]/\aa β M Im w v [u]
mutual
def af(β:Nat->Value)(M:Mem)(Im:Nat->Prop)(w:World):V->Value->Prop
 |.any,_=>True
 |.ag x,v=>∃vs:List Value,v=.agg vs.toArray/\aa β M Im w x vs
 |.tup x,v=>∃vs:List Value,v=.tuple vs.toArray/\cf β M Im w x vs
 |.gd _ _ P x,v=>(P->af β M Im w x v)/\(¬P->v=undef)
 |.ifc t x,v=>aa β M Im w (.ifc t x) [v]
 |.p a b,v=>aa β M Im w (.p a b) [v]
 |.u,v=>aa β M Im w .u [v]
 |.ref k π,v=>aa β M Im w (.ref k π) [v]
 |.ad k π,v=>aa β M Im w (.ad k π) [v]
 |.d t x,v=>aa β M Im w (.d t x) [v]
 |.nl,v=>aa β M Im w .nl [v]
 |.np,v=>aa β M Im w .np [v]
 |.fn f x,v=>aa β M Im w (.fn f x) [v]
 |.bx x,v=>aa β M Im w (.bx x) [v]
def cf(β:Nat->Value)(M:Mem)(Im:Nat->Prop)(w:World):V->List Value->Prop
 |.p a b,vs=>∃u us,vs=u::us/\af β M Im w a u/\cf β M Im w b us
 |.u,vs=>vs=[]
 |_,_=>False
end
section
variable {β β':Nat->Value} {M M':Mem} {Im Im':Nat->Prop} {w w':World}
theorem az{x:V}{v:Value}(h:aa β M Im w x [v]):af β M Im w x v:=by
 cases x with
 |any=>simp only[af]
 |ag y=>simp only[aa]at h
 |tup y=>simp only[aa]at h
 |gd _ _ _ y=>simp only[aa]at h
 |ifc _ y=>simpa only [af]using h
 |p a b=>simpa only [af]using h
 |u=>simpa only [af]using h
 |ref k π=>simpa only [af]using h
 |ad k π=>simpa only [af]using h
 |d t y=>simpa only [af]using h
 |nl=>simpa only [af]using h
 |np=>simpa only [af]using h
 |fn f y=>simpa only [af]using h
 |bx y=>simpa only [af]using h
theorem aa.ev{e:Ev}(hk:gj Im Im' w w')(href:∀k π vs,Ref β M w k π vs->aa β' M' Im' w' (e.ref k π) vs)(had:∀k π v,Adr β M w k π v->aa β' M' Im' w' (e.ad k π) [v]) :
  (x:V)->(vs:List Value)->aa β M Im w x vs->aa β' M' Im' w' (x.ev e) vs
 |.p a b,vs,r=>by simp only[aa,V.ev]at r⊢;obtain⟨va,vb,h1,h2,h3⟩:=r;exact⟨va,vb,h1,aa.ev hk href had a va h2,aa.ev hk href had b vb h3⟩
 |.u,vs,r=>by simpa only [aa,V.ev]using r
 |.ref k π,vs,r=>by simp only[aa,V.ev]at r⊢;exact href k π vs r
 |.ad k π,vs,r=>by simp only[aa,V.ev]at r⊢;obtain⟨v,rfl,h⟩:=r;exact had k π v h
 |.d t x,vs,r=>by simp only[aa,V.ev]at r⊢;exact ah.keep hk t x vs r
 |.nl,vs,r=>by simpa only [aa,V.ev]using r
 |.np,vs,r=>by simpa only [aa,V.ev]using r
 |.any,vs,r=>by simpa only [aa,V.ev]using r
 |.fn f v,vs,r=>by simp only[aa,V.ev]at r⊢;obtain⟨us,h1,h2⟩:=r;exact⟨us,h1,aa.ev hk href had v us h2⟩
 |.bx v,vs,r=>by simp only[aa,V.ev]at r⊢;obtain⟨b,o,us,h1,h2,h3,h4⟩:=r;exact⟨b,o,us,h1,(hk b h2).1,h3.keep (hk b h2).2,aa.ev hk href had v us h4⟩
 |.ag _,vs,r=>by simp only[aa]at r
 |.tup _,vs,r=>by simp only[aa]at r
 |.gd _ _ _ _,vs,r=>by simp only[aa]at r
 |.ifc t v,vs,r=>by simp only[aa,V.ev]at r⊢;obtain⟨u,h1,h2⟩:=r;exact⟨u,h1,aa.ev hk href had v [u] h2⟩
mutual
theorem af.ev{e:Ev}(hk:gj Im Im' w w')(href:∀k π vs,Ref β M w k π vs->aa β' M' Im' w' (e.ref k π) vs)(had:∀k π v,Adr β M w k π v->aa β' M' Im' w' (e.ad k π) [v]) :
  (x:V)->(v:Value)->af β M Im w x v->af β' M' Im' w' (x.ev e) v
 |.any,v,r=>by simp only[V.ev,af]
 |.ag x,v,r=>by simp only[af,V.ev]at r⊢;obtain⟨vs,h1,h2⟩:=r;exact⟨vs,h1,aa.ev hk href had x vs h2⟩
 |.tup x,v,r=>by simp only[af,V.ev]at r⊢;obtain⟨vs,h1,h2⟩:=r;exact⟨vs,h1,cf.ev hk href had x vs h2⟩
 |.gd j b P x,v,r=>by simp only[af,V.ev]at r⊢;exact⟨fun hp=>af.ev hk href had x v (r.1 hp),r.2⟩
 |.ifc t x,v,r=>by simp only[af]at r;exact az (aa.ev hk href had _ _ r)
 |.p a b,v,r=>by simp only[af]at r;exact az (aa.ev hk href had _ _ r)
 |.u,v,r=>by simp only[af]at r;exact az (aa.ev hk href had _ _ r)
 |.ref k π,v,r=>by simp only[af]at r;exact az (aa.ev hk href had _ _ r)
 |.ad k π,v,r=>by simp only[af]at r;exact az (aa.ev hk href had _ _ r)
 |.d t x,v,r=>by simp only[af]at r;exact az (aa.ev hk href had _ _ r)
 |.nl,v,r=>by simp only[af]at r;exact az (aa.ev hk href had _ _ r)
 |.np,v,r=>by simp only[af]at r;exact az (aa.ev hk href had _ _ r)
 |.fn f x,v,r=>by simp only[af]at r;exact az (aa.ev hk href had _ _ r)
 |.bx x,v,r=>by simp only[af]at r;exact az (aa.ev hk href had _ _ r)
theorem cf.ev{e:Ev}(hk:gj Im Im' w w')(href:∀k π vs,Ref β M w k π vs->aa β' M' Im' w' (e.ref k π) vs)(had:∀k π v,Adr β M w k π v->aa β' M' Im' w' (e.ad k π) [v]) :
  (x:V)->(vs:List Value)->cf β M Im w x vs->cf β' M' Im' w' (x.ev e) vs
 |.p a b,vs,r=>by simp only[cf,V.ev]at r⊢;obtain⟨u,us,h1,h2,h3⟩:=r;exact⟨u,us,h1,af.ev hk href had a u h2,cf.ev hk href had b us h3⟩
 |.u,vs,r=>by simpa only [cf,V.ev]using r
 |.any,vs,r=>by simp only[cf]at r
 |.ag x,vs,r=>by simp only[cf]at r
 |.tup x,vs,r=>by simp only[cf]at r
 |.gd j b P x,vs,r=>by simp only[cf]at r
 |.ifc t x,vs,r=>by simp only[cf]at r
 |.ref k π,vs,r=>by simp only[cf]at r
 |.ad k π,vs,r=>by simp only[cf]at r
 |.d t x,vs,r=>by simp only[cf]at r
 |.nl,vs,r=>by simp only[cf]at r
 |.np,vs,r=>by simp only[cf]at r
 |.fn f x,vs,r=>by simp only[cf]at r
 |.bx x,vs,r=>by simp only[cf]at r
end
theorem aa.keep(hk:gj Im Im' w w')(href:∀k π vs,Ref β M w k π vs->Ref β' M' w' k π vs)(had:∀k π v,Adr β M w k π v->Adr β' M' w' k π v) :
  (x:V)->(vs:List Value)->aa β M Im w x vs->aa β' M' Im' w' x vs
 |.p a b,vs,r=>by simp only[aa]at r⊢;obtain⟨va,vb,h1,h2,h3⟩:=r;exact⟨va,vb,h1,aa.keep hk href had a va h2,aa.keep hk href had b vb h3⟩
 |.u,vs,r=>by simpa only [aa]using r
 |.ref k π,vs,r=>by simp only[aa]at r⊢;exact href k π vs r
 |.ad k π,vs,r=>by simp only[aa]at r⊢;obtain⟨v,rfl,h⟩:=r;exact⟨v,rfl,had k π v h⟩
 |.d t x,vs,r=>by simp only[aa]at r⊢;exact ah.keep hk t x vs r
 |.nl,vs,r=>by simpa only [aa]using r
 |.np,vs,r=>by simpa only [aa]using r
 |.any,vs,r=>by simpa only [aa]using r
 |.fn f v,vs,r=>by simp only[aa]at r⊢;obtain⟨us,h1,h2⟩:=r;exact⟨us,h1,aa.keep hk href had v us h2⟩
 |.bx v,vs,r=>by simp only[aa]at r⊢;obtain⟨b,o,us,h1,h2,h3,h4⟩:=r;exact⟨b,o,us,h1,(hk b h2).1,h3.keep (hk b h2).2,aa.keep hk href had v us h4⟩
 |.ag _,vs,r=>by simp only[aa]at r
 |.tup _,vs,r=>by simp only[aa]at r
 |.gd _ _ _ _,vs,r=>by simp only[aa]at r
 |.ifc t v,vs,r=>by simp only[aa]at r⊢;obtain⟨u,h1,h2⟩:=r;exact⟨u,h1,aa.keep hk href had v [u] h2⟩
mutual
theorem af.keep(hk:gj Im Im' w w')(href:∀k π vs,Ref β M w k π vs->Ref β' M' w' k π vs)(had:∀k π v,Adr β M w k π v->Adr β' M' w' k π v) :
  (x:V)->(v:Value)->af β M Im w x v->af β' M' Im' w' x v
 |.any,v,r=>by simp only[af]
 |.ag x,v,r=>by simp only[af]at r⊢;obtain⟨vs,h1,h2⟩:=r;exact⟨vs,h1,aa.keep hk href had x vs h2⟩
 |.tup x,v,r=>by simp only[af]at r⊢;obtain⟨vs,h1,h2⟩:=r;exact⟨vs,h1,cf.keep hk href had x vs h2⟩
 |.gd j b P x,v,r=>by simp only[af]at r⊢;exact⟨fun hp=>af.keep hk href had x v (r.1 hp),r.2⟩
 |.ifc t x,v,r=>by simp only[af]at r;exact az (aa.keep hk href had _ _ r)
 |.p a b,v,r=>by simp only[af]at r;exact az (aa.keep hk href had _ _ r)
 |.u,v,r=>by simp only[af]at r;exact az (aa.keep hk href had _ _ r)
 |.ref k π,v,r=>by simp only[af]at r;exact az (aa.keep hk href had _ _ r)
 |.ad k π,v,r=>by simp only[af]at r;exact az (aa.keep hk href had _ _ r)
 |.d t x,v,r=>by simp only[af]at r;exact az (aa.keep hk href had _ _ r)
 |.nl,v,r=>by simp only[af]at r;exact az (aa.keep hk href had _ _ r)
 |.np,v,r=>by simp only[af]at r;exact az (aa.keep hk href had _ _ r)
 |.fn f x,v,r=>by simp only[af]at r;exact az (aa.keep hk href had _ _ r)
 |.bx x,v,r=>by simp only[af]at r;exact az (aa.keep hk href had _ _ r)
theorem cf.keep(hk:gj Im Im' w w')(href:∀k π vs,Ref β M w k π vs->Ref β' M' w' k π vs)(had:∀k π v,Adr β M w k π v->Adr β' M' w' k π v) :
  (x:V)->(vs:List Value)->cf β M Im w x vs->cf β' M' Im' w' x vs
 |.p a b,vs,r=>by simp only[cf]at r⊢;obtain⟨u,us,h1,h2,h3⟩:=r;exact⟨u,us,h1,af.keep hk href had a u h2,cf.keep hk href had b us h3⟩
 |.u,vs,r=>by simpa only [cf]using r
 |.any,vs,r=>by simp only[cf]at r
 |.ag x,vs,r=>by simp only[cf]at r
 |.tup x,vs,r=>by simp only[cf]at r
 |.gd j b P x,vs,r=>by simp only[cf]at r
 |.ifc t x,vs,r=>by simp only[cf]at r
 |.ref k π,vs,r=>by simp only[cf]at r
 |.ad k π,vs,r=>by simp only[cf]at r
 |.d t x,vs,r=>by simp only[cf]at r
 |.nl,vs,r=>by simp only[cf]at r
 |.np,vs,r=>by simp only[cf]at r
 |.fn f x,vs,r=>by simp only[cf]at r
 |.bx x,vs,r=>by simp only[cf]at r
end
end
theorem alk{a b:Nat}(h:¬a=b):Nat.beq a b=false:=by
 cases hb:Nat.beq a b with
 |false=>rfl
 |true=>exact absurd (a0v hb) h
theorem j8(k:Nat)(v:V)(r:Env)(t:Nat):gt ((k,v)::r) t=if k=t then v else gt r t:=by
 simp only[gt];by_cases h:k=t
 ·simp[h]
 ·rw[ds h];have:Nat.beq k t=false:=alk h;rw[this];rfl
theorem db(k:Nat)(v:Ob)(r:Mem)(t:Nat):go ((k,v)::r) t=if k=t then some v else go r t:=by
 simp only[go];by_cases h:k=t
 ·simp[h]
 ·rw[ds h];have:Nat.beq k t=false:=alk h;rw[this];rfl
theorem cn{α:Type}(j k:Nat)(x y:α):(bif Nat.beq j k then x else y)=if j=k then x else y:=by
 by_cases h:j=k
 ·simp[h]
 ·rw[ds h];have:Nat.beq j k=false:=alk h;rw[this];rfl
def bt(M:Mem)(k:Nat):Prop:=(go M k).isSome=true
theorem bm{M:Mem}{k:Nat}{o:Ob}(h:go M k=some o):bt M k:=by unfold bt;rw[h];rfl
theorem agi{M:Mem}{k:Nat}(h:bt M k):∃o,go M k=some o:=a43.1 h
theorem c7(k:Nat):∀M:Mem,go (del k M) k=none
 |[]=>rfl
 |(j,o)::r=>by
  simp only[del,cn];split
  ·exact c7 k r
  ·rename_i h;rw[db,ds h];exact c7 k r
theorem dp{k j:Nat}(h:j≠k):∀M:Mem,go (del k M) j=go M j
 |[]=>rfl
 |(i,o)::r=>by
  simp only[del,cn];by_cases e:i=k
  ·subst e;rw[d0 rfl,db,ds (a0w h)];exact dp h r
  ·rw[ds e,db,db,dp h r]
theorem ow{k j:Nat}{M:Mem}:bt (del k M) j<->j≠k/\bt M j:=by
 unfold bt;by_cases h:j=k
 ·subst h;simp[c7]
 ·simp[dp h,h]
theorem mz{k j:Nat}(o:Ob)(h:j≠k):∀M:Mem,go (put k o M) j=go M j
 |[]=>rfl
 |(i,x)::r=>by
  simp only[put,cn];by_cases e:i=k
  ·subst e;rw[d0 rfl,db,db,ds (a0w h),ds (a0w h)]
  ·rw[ds e,db,db,mz o h r]
theorem mf{k:Nat}(o:Ob):∀M:Mem,bt M k->go (put k o M) k=some o
 |[],h=>by simp[bt,go]at h
 |(i,x)::r,h=>by
  simp only[put,cn];by_cases e:i=k
  ·subst e;rw[d0 rfl,db,d0 rfl]
  ·rw[ds e,db,ds e];refine mf o r ?_;unfold bt at h⊢
   rwa [db,ds e]at h
theorem sv{k j:Nat}{o:Ob}{M:Mem}:bt (put k o M) j<->bt M j:=by
 by_cases e:j=k
 ·subst e;by_cases h:bt M j
  ·exact⟨fun _=>h,fun _=>bm (mf o M h)⟩
  ·refine⟨fun h'=>?_,fun h'=>absurd h' h⟩;exfalso
   have:∀M:Mem,¬bt M j->¬bt (put j o M) j:=by
    intro M
    induction M with
    |nil=>intro h;exact h
    |cons q r ih=>
     obtain⟨i,x⟩:=q;intro hn hl;unfold bt at hn hl ih;simp only[put,cn]at hl;by_cases e:i=j
     ·subst e;rw[db,d0 rfl]at hn;exact hn rfl
     ·rw[ds e,db,ds e]at hl;rw[db,ds e]at hn;exact ih hn hl
   exact this M h h'
 ·unfold bt;rw[mz o e]
theorem biq(e:Ev)(t:Nat):∀env:Env,gt (evE e env) t=(gt env t).ev e
 |[]=>by simp[evE,gt,V.ev]
 |(j,v)::r=>by
  simp only[evE,j8];split
  ·rfl
  ·exact biq e t r
structure Fr where
 w0:World
 wk:World
 A:Nat->Prop
 R:Nat->Prop
 I:Nat->Prop
 nt:Nat
 fv:Nat->Option Value
def Fr.RR(F:Fr)(b:Nat):Prop:=F.R b
def Fr.ok(F:Fr)(k:Nat):Prop:=k<F.nt/\F.fv k=none
structure Ow where
 β:Nat->Value
 σ:Nat->Nat->Prop
 L:Nat->Prop
structure TD (w' w:World):Prop where
 t:w'.tape=w.tape
 d:w.drawn<=w'.drawn
theorem TD.refl(w:World):TD w w:=⟨rfl,a0f _⟩
theorem TD.trans{a b c:World}(h:TD c b)(k:TD b a):TD c a:=⟨h.t.trans k.t,a09 k.d h.d⟩
def Imm(F:Fr)(p:Ow)(M:Mem)(w:World):Nat->Prop:=fun b=>b<w.heap.size/\(F.A b\/F.RR b\/F.w0.heap.size<=b)/\¬p.L b/\∀k,bt M k->¬p.σ k b
structure Hp (F:Fr) (p:Ow) (M:Mem) (w:World):Prop where
 objs:∀k ob,go M k=some ob->Rel (Imm F p M w) w ob.o ob.x (p.σ k) [p.β k]
 sep:∀k k' b,k≠k'->bt M k->bt M k'->p.σ k b->¬p.σ k' b
 own:∀k b,bt M k->p.σ k b->b<w.heap.size/\(gid<=k/\F.RR b\/F.w0.heap.size<=b)
 lim:∀b,p.L b->b<w.heap.size/\F.w0.heap.size<=b/\∀k,bt M k->¬p.σ k b
 os:w.os=F.w0.os
 tape:TD w F.w0
 output:w.output=F.w0.output
 size:F.w0.heap.size<=w.heap.size
 old:∀b,b<F.w0.heap.size->¬F.RR b->w.heap[b]? = F.w0.heap[b]?
structure St (F:Fr) (p:Ow) (env:Env) (M:Mem) (a:Act) (w:World):Prop where
 defers:a.defers=[]
 nt:a.tmps.size=F.nt
 fix:∀t v,F.fv t=some v->a.tmps.getD t undef=v
 ik:∀b,F.I b->Imm F p M w b/\w.heap[b]? = F.wk.heap[b]?
 lz:∀b,¬p.L b
 slots:∀t,af p.β M (Imm F p M w) w (gt env t) (a.tmps.getD t undef)
 hp:Hp F p M w
structure Tr (F:Fr) (p:Ow) (M:Mem) (w:World) (e:List Ev) (p':Ow) (M':Mem) (w':World):Prop where
 keep:gj (Imm F p M w) (Imm F p' M' w') w w'
 c:∀v vs,aa p.β M (Imm F p M w) w v vs->aa p'.β M' (Imm F p' M' w') w' (v.evs e) vs
 s:∀v u,af p.β M (Imm F p M w) w v u->af p'.β M' (Imm F p' M' w') w' (v.evs e) u
 hp:Hp F p' M' w'
theorem yq(v:V):∀(e e':List Ev),v.evs (ap e e')=(v.evs e).evs e'
 |[],e'=>rfl
 |x::e,e'=>by simp only[ap,V.evs];exact yq _ e e'
theorem t7(t:Nat):∀(e:List Ev) (env:Env),gt (ql env e) t=(gt env t).evs e
 |[],env=>rfl
 |x::e,env=>by simp only[ql,V.evs];rw[t7 t e,biq]
section
variable {F:Fr} {p p' p'':Ow} {env:Env} {M M' M'':Mem} {a:Act} {w w' w'':World}
theorem Tr.trans{e e':List Ev}(h:Tr F p M w e p' M' w')(k:Tr F p' M' w' e' p'' M'' w''):Tr F p M w (ap e e') p'' M'' w'':=⟨h.keep.trans k.keep,fun v vs r=>by rw[yq];exact k.c _ _ (h.c v vs r),fun v u r=>by rw[yq];exact k.s _ _ (h.s v u r),k.hp⟩
theorem Tr.one(e:Ev)(hk:gj (Imm F p M w) (Imm F p' M' w') w w')
  (href:∀k π vs,Ref p.β M w k π vs->aa p'.β M' (Imm F p' M' w') w' (e.ref k π) vs) (had:∀k π v,Adr p.β M w k π v->aa p'.β M' (Imm F p' M' w') w' (e.ad k π) [v]) (hp':Hp F p' M' w'):Tr F p M w [e] p' M' w':=
 ⟨hk,fun v vs r=>by simp only[V.evs];exact aa.ev hk href had v vs r,fun v u r=>by simp only[V.evs];exact af.ev hk href had v u r,hp'⟩
theorem Tr.zero(hk:gj (Imm F p M w) (Imm F p' M' w') w w')
  (href:∀k π vs,Ref p.β M w k π vs->Ref p'.β M' w' k π vs) (had:∀k π v,Adr p.β M w k π v->Adr p'.β M' w' k π v) (hp':Hp F p' M' w'):Tr F p M w [] p' M' w':=
 ⟨hk,fun v vs r=>by simp only[V.evs];exact aa.keep hk href had v vs r,fun v u r=>by simp only[V.evs];exact af.keep hk href had v u r,hp'⟩
theorem Tr.refl(h:Hp F p M w):Tr F p M w [] p M w:=Tr.zero (gj.refl _ _) (fun _ _ _ r=>r) (fun _ _ _ r=>r) h
theorem St.tr{e:List Ev}(h:St F p env M a w)(t:Tr F p M w e p' M' w')(hL:∀b,¬p'.L b):St F p' (ql env e) M' a w':=by refine⟨h.defers,h.nt,h.fix,fun b hb=>⟨(t.keep b (h.ik b hb).1).1,((t.keep b (h.ik b hb).1).2).trans (h.ik b hb).2⟩,hL,fun n=>?_,t.hp⟩;rw[t7];exact t.s _ _ (h.slots n)
theorem Ref.same(hp:Hp F p M w){k:Nat}{π:br}{vs:List Value}(h:Ref p.β M w k π vs)(hM:go M' k=go M k)(hβ:p'.β k=p.β k)(hb:bt M k->∀b,p.σ k b->w'.heap[b]? = w.heap[b]?):Ref p'.β M' w' k π vs:=by obtain⟨ob,pl,h1,h2,h3,h4⟩:=h;refine⟨ob,pl,by rw[hM,h1],h2,h3,?_⟩;rw[hβ,yk π ob.o ob.x (p.σ k) _ none (hp.objs k ob h1) h2 (hb (bm h1))];exact h4
theorem Adr.same(hp:Hp F p M w){k:Nat}{π:br}{v:Value}(h:Adr p.β M w k π v)(hM:go M' k=go M k)(hβ:p'.β k=p.β k)(hb:bt M k->∀b,p.σ k b->w'.heap[b]? = w.heap[b]?):Adr p'.β M' w' k π v:=by obtain⟨ob,us,b,off,h1,h2,h3,h4,h5,h6⟩:=h;refine⟨ob,us,b,off,by rw[hM,h1],h2,h3,h4,?_,h6⟩;rw[hβ,yk π ob.o ob.x (p.σ k) _ none (hp.objs k ob h1) h2 (hb (bm h1))];exact h5
theorem St.write(h:St F p env M a w)(d:Nat)(x:V)(v:Value)(hx:af p.β M (Imm F p M w) w x v)(hd:F.ok d):St F p ((d,x)::env) M (a.put (some d) v) w:=by
 refine⟨by simpa[Act.put]using h.defers,by simpa[Act.put]using h.nt,fun t v' ht=>?_,h.ik,h.lz,fun t=>?_,h.hp⟩
 ·have hne:d≠t:=fun e=>by have:=hd.2;rw[e,ht]at this;cases this
  have:=h.fix t v' ht;simpa[Act.put,hne]using this
 rw[j8];simp only[Act.put];by_cases e:d=t
 ·subst e;rw[d0 rfl];simpa[h.nt,hd.1]using hx
 ·rw[ds e];have:=h.slots t;simpa[e]using this
theorem St.weak{env':Env}(h:St F p env M a w)(he:∀t,gt env' t=.any\/gt env' t=gt env t):St F p env' M a w:=by
 refine⟨h.defers,h.nt,h.fix,h.ik,h.lz,fun t=>?_,h.hp⟩;rcases he t with e|e
 ·rw[e];simp only[af]
 ·rw[e];exact h.slots t
theorem look(hp:Hp F p M w){k:Nat}{ob:Ob}{π:br}{q:Ob}(h1:go M k=some ob)(h2:gok π ob.o ob.x)(h3:get π ob.o ob.x=some q):Foc (Imm F p M w) w π ob.o ob.x (p.σ k) [p.β k] none q:=ad4 π ob.o ob.x (p.σ k) [p.β k] none q (hp.objs k ob h1) h2 h3 (fun b off e=>by cases e)
theorem Ref.one(hp:Hp F p M w){k:Nat}{π:br}{vs:List Value}(h:Ref p.β M w k π vs):∀u∈vs,u.oneCell'=true:=by obtain⟨ob,pl,h1,h2,⟨q,h3⟩,h4⟩:=h;obtain⟨us,pl',S',e1,e2,e3,_⟩:=look hp h1 h2 h3;rw[e1]at h4;cases h4;exact Rel.one _ _ _ _ e3
theorem Adr.one{k:Nat}{π:br}{v:Value}(h:Adr p.β M w k π v):v.oneCell'=true:=by obtain⟨_,_,_,_,_,_,_,_,_,rfl⟩:=h;rfl
structure Ext (w w':World):Prop where
 os:w'.os=w.os
 tape:TD w' w
 output:w'.output=w.output
 size:w.heap.size<=w'.heap.size
 old:∀b,b<w.heap.size->w'.heap[b]? = w.heap[b]?
theorem Ext.refl(w:World):Ext w w:=⟨rfl,TD.refl w,rfl,a0f _,fun _ _=>rfl⟩
theorem Ext.of_grown{w w':World}(h:w.grownBy w' none)(hd:w.drawn<=w'.drawn):Ext w w':=⟨h.os,⟨h.tape,hd⟩,h.output,h.size,fun b hb=>h.block b hb (by simp)⟩
theorem Tr.ext(h:Hp F p M w)(e:Ext w w'):Tr F p M w [] p M w':=by
 have hk:gj (Imm F p M w) (Imm F p M w') w w':=fun b hb=>⟨⟨by have:=e.size;have:=hb.1;omega,hb.2⟩,e.old b hb.1⟩
 refine Tr.zero hk (fun _ _ _ r=>r.same h rfl rfl (fun hl b hb=>e.old b (h.own _ b hl hb).1)) (fun _ _ _ r=>r.same h rfl rfl (fun hl b hb=>e.old b (h.own _ b hl hb).1))
  ⟨fun k ob hg=>Rel.keep hk _ _ _ _ (fun b hb=>e.old b (h.own k b (bm hg) hb).1) (h.objs k ob hg),h.sep,fun k b h1 h2=>?_,fun b hb=>?_,e.os.trans h.os,e.tape.trans h.tape,e.output.trans h.output,a09 h.size e.size,fun b hb hR=>?_⟩
 ·have:=h.own k b h1 h2;exact⟨by have:=e.size;omega,this.2⟩
 ·have:=h.lim b hb;exact⟨by have:=e.size;omega,this.2⟩
 ·rw[e.old b (by have:=h.size;omega)];exact h.old b hb hR
theorem St.ext(h:St F p env M a w)(e:Ext w w'):St F p env M a w':=by simpa[ql]using h.tr (Tr.ext h.hp e) h.lz
theorem Hp.del(h:Hp F p M w)(k:Nat):Hp F p (del k M) w/\gj (Imm F p M w) (Imm F p (del k M) w) w w:=by
 have hk:gj (Imm F p M w) (Imm F p (Bm.del k M) w) w w:=fun b hb=>⟨⟨hb.1,hb.2.1,hb.2.2.1,fun j hj=>hb.2.2.2 j (ow.1 hj).2⟩,rfl⟩;refine⟨⟨fun j ob hg=>?_,fun j j' b hne hj hj'=>h.sep j j' b hne (ow.1 hj).2 (ow.1 hj').2,fun j b hj=>h.own j b (ow.1 hj).2,fun b hb=>⟨(h.lim b hb).1,(h.lim b hb).2.1,fun j hj=>(h.lim b hb).2.2 j (ow.1 hj).2⟩,h.os,h.tape,h.output,h.size,h.old⟩,hk⟩;have hjk:j≠k:=by rintro rfl;rw[c7]at hg;cases hg
 rw[dp hjk]at hg;exact Rel.keep hk _ _ _ _ (fun _ _=>rfl) (h.objs j ob hg)
theorem Tr.kl(h:Hp F p M w)(k:Nat):Tr F p M w [.kl k] p (del k M) w:=by
 refine Tr.one (.kl k) (h.del k).2 (fun j π vs r=>?_) (fun j π v r=>?_) (h.del k).1
 ·simp only[Ev.ref,cn];split
  ·simp only[aa];exact r.one h
  ·rename_i hne;simp only[aa];exact r.same h (dp hne M) rfl (fun _ _ _=>rfl)
 ·simp only[Ev.ad,cn];split
  ·simp only[aa];intro u hu;rw[a0u.1 hu];exact r.one
  ·rename_i hne;simp only[aa];exact⟨v,rfl,r.same h (dp hne M) rfl (fun _ _ _=>rfl)⟩
theorem ade(h:Hp F p M w){k b:Nat}(hl:bt M k)(hb:p.σ k b):Imm F p (del k M) w b:=by obtain⟨h1,h2⟩:=h.own k b hl hb;exact⟨h1,h2.elim (fun h=>.inr (.inl h.2)) (fun h=>.inr (.inr h)),fun hL=>(h.lim b hL).2.2 k hl hb,fun j hj=>h.sep k j b (a0w (ow.1 hj).1) hl (ow.1 hj).2 hb⟩
theorem fo{β:Nat->Value}{Im:Nat->Prop}:(t:T)->(x:t.den)->(vs:List Value)->ah Im w t x vs->aa β M Im w (jw t x) vs
 |.p a b,x,vs,r=>by simp only[ah]at r;obtain⟨va,vb,h1,h2,h3⟩:=r;simp only[jw,aa];exact⟨va,vb,h1,fo a _ va h2,fo b _ vb h3⟩
 |.u,x,vs,r=>by simpa only [jw,aa,ah]using r
 |.int _,x,vs,r=>by simpa only [jw,aa]using r
 |.bool,x,vs,r=>by simpa only [jw,aa]using r
 |.str,x,vs,r=>by simpa only [jw,aa]using r
 |.sl _,x,vs,r=>by simpa only [jw,aa]using r
 |.pt _,x,vs,r=>by simpa only [jw,aa]using r
 |.fn _ _,x,vs,r=>by simpa only [jw,aa]using r
 |.ifc _ _,x,vs,r=>by simpa only [jw,aa]using r
 |.mp _ _,x,vs,r=>by simpa only [jw,aa]using r
 |.op _,x,vs,r=>by simpa only [jw,aa]using r
 |.ns _,x,vs,r=>by simpa only [jw,aa]using r
 |.er _,x,vs,r=>by simpa only [jw,aa]using r
 |.any,x,vs,r=>by simpa only [jw,aa]using r
theorem Tr.frz(h:Hp F p M w)(k:Nat)(ob:Ob)(hk:go M k=some ob):Tr F p M w [.fz k ob] p (del k M) w:=by
 have hl:=bm hk;refine Tr.one (.fz k ob) (h.del k).2 (fun j π vs r=>?_) (fun j π v r=>?_) (h.del k).1
 ·simp only[Ev.ref,cn];split
  ·rename_i e;subst e;obtain⟨ob',pl,h1,h2,⟨q,h3⟩,h4⟩:=r;rw[hk]at h1;cases h1;rw[h3];obtain⟨us,pl',S',e1,e2,e3,_⟩:=look h hk h2 h3;rw[e1]at h4;cases h4;exact fo _ _ _ (Rel.frz (fun b hb=>((h.del j).2 b hb).1) _ _ S' _ (fun b hb=>ade h hl (e2 b hb)) e3)
  ·rename_i hne;simp only[aa];exact r.same h (dp hne M) rfl (fun _ _ _=>rfl)
 ·simp only[Ev.ad,cn];split
  ·rename_i e;subst e;obtain⟨ob',us0,b0,off0,h1,h2,⟨q,h3⟩,h4,h5,rfl⟩:=r;rw[hk]at h1;cases h1;rw[h3];obtain⟨us,pl',S',e1,e2,e3,e4,_⟩:=look h hk h2 h3;rw[e1]at h5;simp only[a0d,a0j]at h5;obtain⟨rfl,rfl⟩:=h5;obtain⟨b,off,cur,ty',k1,k2,k3,k4,k5⟩:=e4 h4;simp only[a0d,a0j]at k1;obtain⟨rfl,rfl⟩:=k1;simp only[aa,ah];refine⟨b0,off0,us,rfl,ade h hl k2,fun j' u hu=>?_,Rel.frz (fun b hb=>((h.del j).2 b hb).1) _ _ S' _ (fun b hb=>ade h hl (e2 b hb)) e3⟩;rw[a14 w b0 _ cur ty' (0,0) k4];exact k5 j' u hu
  ·rename_i hne;simp only[aa];exact⟨v,rfl,r.same h (dp hne M) rfl (fun _ _ _=>rfl)⟩
theorem Tr.lim(h:Hp F p M w)(k:Nat)(hl:bt M k)(hg:k<gid):Tr F p M w [.kl k] ⟨p.β,p.σ,fun b=>p.L b\/p.σ k b⟩ (del k M) w:=by
 have hI:∀b,Imm F p M w b->Imm F ⟨p.β,p.σ,fun b=>p.L b\/p.σ k b⟩ (Bm.del k M) w b:=fun b hb=>⟨hb.1,hb.2.1,fun hc=>hc.elim hb.2.2.1 (hb.2.2.2 k hl),fun j hj=>hb.2.2.2 j (ow.1 hj).2⟩;have hk:gj (Imm F p M w) (Imm F ⟨p.β,p.σ,fun b=>p.L b\/p.σ k b⟩ (Bm.del k M) w) w w:=fun b hb=>⟨hI b hb,rfl⟩;refine Tr.one (.kl k) hk (fun j π vs r=>?_) (fun j π v r=>?_) ⟨fun j ob hgo=>?_,fun j j' b hne hj hj'=>h.sep j j' b hne (ow.1 hj).2 (ow.1 hj').2,fun j b hj=>h.own j b (ow.1 hj).2,fun b hb=>?_,h.os,h.tape,h.output,h.size,h.old⟩
 ·simp only[Ev.ref,cn];split
  ·simp only[aa];exact r.one h
  ·rename_i hne;simp only[aa];exact r.same (p':=⟨p.β,p.σ,_⟩) h (dp hne M) rfl (fun _ _ _=>rfl)
 ·simp only[Ev.ad,cn];split
  ·simp only[aa];intro u hu;rw[a0u.1 hu];exact r.one
  ·rename_i hne;simp only[aa];exact⟨v,rfl,r.same (p':=⟨p.β,p.σ,_⟩) h (dp hne M) rfl (fun _ _ _=>rfl)⟩
 ·have hjk:j≠k:=by rintro rfl;rw[c7]at hgo;cases hgo
  rw[dp hjk]at hgo;exact Rel.keep hk _ _ _ _ (fun _ _=>rfl) (h.objs j ob hgo)
 ·rcases hb with hb|hb
  ·exact⟨(h.lim b hb).1,(h.lim b hb).2.1,fun j hj=>(h.lim b hb).2.2 j (ow.1 hj).2⟩
  ·obtain⟨k1,k2⟩:=h.own k b hl hb;refine⟨k1,k2.elim (fun h=>by have:=h.1;omega) id,fun j hj=>h.sep k j b (a0w (ow.1 hj).1) hl (ow.1 hj).2 hb⟩
def Ow.updL(p:Ow)(k:Nat)(v:Value)(r L':Nat->Prop):Ow:=⟨fun j=>if j=k then v else p.β j,fun j=>if j=k then r else p.σ j,L'⟩
def Ow.upd(p:Ow)(k:Nat)(v:Value)(r:Nat->Prop):Ow:=p.updL k v r fun _=>False
structure ExtL (w w':World) (L:Nat->Prop):Prop where
 os:w'.os=w.os
 tape:TD w' w
 output:w'.output=w.output
 size:w.heap.size<=w'.heap.size
 old:∀b,b<w.heap.size->¬L b->w'.heap[b]? = w.heap[b]?
theorem Ext.toL{w w':World}(h:Ext w w')(L:Nat->Prop):ExtL w w' L:=⟨h.os,h.tape,h.output,h.size,fun b hb _=>h.old b hb⟩
theorem Tr.newL(h:Hp F p M w)(k:Nat)(hk:go M k=none)(v:Value)(r L':Nat->Prop)(ob:Ob)(hg:ExtL w w' p.L)
  (hL':∀b,L' b->p.L b/\¬r b) (hr:∀b,r b->w.heap.size<=b/\b<w'.heap.size\/p.L b)
  (ho:gj (Imm F p M w) (Imm F (p.updL k v r L') ((k,ob)::M) w') w w'->Rel (Imm F (p.updL k v r L') ((k,ob)::M) w') w' ob.o ob.x r [v]) :
  Tr F p M w [] (p.updL k v r L') ((k,ob)::M) w':=by
 have hnl:¬bt M k:=by unfold bt;rw[hk];simp
 have hlive:∀j,bt ((k,ob)::M) j<->j=k\/bt M j:=fun j=>by
  unfold bt;rw[db];by_cases e:k=j
  ·simp[e]
  ·rw[ds e];simp[a0w e]
 have hβ:∀j,j≠k->(p.updL k v r L').β j=p.β j:=fun j hj=>by simp[Ow.updL,hj]
 have hσ:∀j,j≠k->(p.updL k v r L').σ j=p.σ j:=fun j hj=>by simp[Ow.updL,hj]
 have hβk:(p.updL k v r L').β k=v:=by simp[Ow.updL]
 have hσk:(p.updL k v r L').σ k=r:=by simp[Ow.updL]
 have hkeep:gj (Imm F p M w) (Imm F (p.updL k v r L') ((k,ob)::M) w') w w':=fun b hb=>by
  refine⟨⟨by have:=hg.size;have:=hb.1;omega,hb.2.1,fun h=>hb.2.2.1 (hL' b h).1,fun j hj=>?_⟩,hg.old b hb.1 hb.2.2.1⟩;rcases (hlive j).1 hj with rfl|hj
  ·rw[hσk];intro hrb;rcases hr b hrb with h1|h1
   ·have:=hb.1;omega
   ·exact hb.2.2.1 h1
  ·have hne:j≠k:=fun e=>hnl (e▸hj);rw[hσ j hne];exact hb.2.2.2 j hj
 have hgo:∀j,j≠k->go ((k,ob)::M) j=go M j:=fun j hj=>by rw[db,ds (a0w hj)]
 have hblk:∀j,bt M j->∀b,p.σ j b->w'.heap[b]? = w.heap[b]?:=fun j hj b hb=>hg.old b (h.own j b hj hb).1 (fun hL=>(h.lim b hL).2.2 j hj hb);refine Tr.zero hkeep (fun j π vs q=>?_) (fun j π v' q=>?_) ⟨fun j o hj=>?_,fun j j' b hne hj hj' hb=>?_,fun j b hj hb=>?_,fun b hb=>?_,hg.os.trans h.os,hg.tape.trans h.tape,hg.output.trans h.output,a09 h.size hg.size,fun b hb hR=>?_⟩
 ·have hne:j≠k:=by rintro rfl;obtain⟨o,_,h1,_⟩:=q;rw[hk]at h1;cases h1
  exact q.same h (hgo j hne) (hβ j hne) (hblk j)
 ·have hne:j≠k:=by rintro rfl;obtain⟨o,_,_,_,h1,_⟩:=q;rw[hk]at h1;cases h1
  exact q.same h (hgo j hne) (hβ j hne) (hblk j)
 ·by_cases e:j=k
  ·subst e;rw[db,d0 rfl]at hj;cases hj;rw[hβk,hσk];exact ho hkeep
  ·rw[hgo j e]at hj;rw[hβ j e,hσ j e];exact Rel.keep hkeep _ _ _ _ (hblk j (bm hj)) (h.objs j o hj)
 ·rcases (hlive j).1 hj with ej|hj0
  ·rw[ej,hσk]at hb;rcases (hlive j').1 hj' with ej'|hj0'
   ·exact absurd (ej.trans ej'.symm) hne
   ·have hn':j'≠k:=fun e=>hnl (e▸hj0');rw[hσ j' hn'];intro hb';rcases hr b hb with h1|h1
    ·have:=(h.own j' b hj0' hb').1;omega
    ·exact (h.lim b h1).2.2 j' hj0' hb'
  ·have hn:j≠k:=fun e=>hnl (e▸hj0);rw[hσ j hn]at hb;rcases (hlive j').1 hj' with ej'|hj0'
   ·rw[ej',hσk];intro hb';rcases hr b hb' with h1|h1
    ·have:=(h.own j b hj0 hb).1;omega
    ·exact (h.lim b h1).2.2 j hj0 hb
   ·have hn':j'≠k:=fun e=>hnl (e▸hj0');rw[hσ j' hn'];exact h.sep j j' b hne hj0 hj0' hb
 ·rcases (hlive j).1 hj with ej|hj
  ·subst ej;rw[hσk]at hb;rcases hr b hb with h1|h1
   ·exact⟨h1.2,.inr (a09 h.size h1.1)⟩
   ·exact⟨by have:=(h.lim b h1).1;have:=hg.size;omega,.inr (h.lim b h1).2.1⟩
  ·have hn:j≠k:=fun e=>hnl (e▸hj);rw[hσ j hn]at hb;have:=h.own j b hj hb;exact⟨by have:=hg.size;omega,this.2⟩
 ·have hb':=hL' b hb;refine⟨by have:=(h.lim b hb'.1).1;have:=hg.size;omega,(h.lim b hb'.1).2.1,fun j hj=>?_⟩;rcases (hlive j).1 hj with ej|hj
  ·rw[ej,hσk];exact hb'.2
  ·have hn:j≠k:=fun e=>hnl (e▸hj);rw[hσ j hn];exact (h.lim b hb'.1).2.2 j hj
 ·rw[hg.old b (by have:=h.size;omega) (fun hL=>by have:=(h.lim b hL).2.1;omega)];exact h.old b hb hR
theorem Tr.new(h:Hp F p M w)(k:Nat)(hk:go M k=none)(v:Value)(r:Nat->Prop)(ob:Ob)(hg:ExtL w w' p.L)
  (hr:∀b,r b->w.heap.size<=b/\b<w'.heap.size\/p.L b)
  (ho:gj (Imm F p M w) (Imm F (p.upd k v r) ((k,ob)::M) w') w w'->Rel (Imm F (p.upd k v r) ((k,ob)::M) w') w' ob.o ob.x r [v]) :
  Tr F p M w [] (p.upd k v r) ((k,ob)::M) w':=Tr.newL h k hk v r (fun _=>False) ob hg (fun _ hb=>hb.elim) hr ho
theorem Tr.drop(h:Hp F p M w)(L':Nat->Prop)(hL:∀b,L' b->p.L b):Tr F p M w [] ⟨p.β,p.σ,L'⟩ M w:=by have hk:gj (Imm F p M w) (Imm F ⟨p.β,p.σ,L'⟩ M w) w w:=fun b hb=>⟨⟨hb.1,hb.2.1,fun h=>hb.2.2.1 (hL b h),hb.2.2.2⟩,rfl⟩;refine Tr.zero hk (fun _ _ _ r=>r) (fun _ _ _ r=>r) ⟨fun k ob hg=>Rel.keep hk _ _ _ _ (fun _ _=>rfl) (h.objs k ob hg),h.sep,h.own,fun b hb=>h.lim b (hL b hb),h.os,h.tape,h.output,h.size,h.old⟩
theorem Tr.grow(h:Hp F p M w)(hL:∀b,¬p.L b)(e:Ext w w')(L':Nat->Prop)(hn:∀b,L' b->w.heap.size<=b/\b<w'.heap.size):Tr F p M w [] ⟨p.β,p.σ,L'⟩ M w':=by
 have hk:gj (Imm F p M w) (Imm F ⟨p.β,p.σ,L'⟩ M w') w w':=fun b hb=>⟨⟨by have:=e.size;have:=hb.1;omega,hb.2.1,fun h=>by have:=(hn b h).1;have:=hb.1;omega,hb.2.2.2⟩,e.old b hb.1⟩
 refine Tr.zero hk (fun _ _ _ r=>r.same h rfl rfl (fun hl b hb=>e.old b (h.own _ b hl hb).1)) (fun _ _ _ r=>r.same h rfl rfl (fun hl b hb=>e.old b (h.own _ b hl hb).1))
  ⟨fun k ob hg=>Rel.keep hk _ _ _ _ (fun b hb=>e.old b (h.own k b (bm hg) hb).1) (h.objs k ob hg),h.sep,fun k b h1 h2=>?_,fun b hb=>?_,e.os.trans h.os,e.tape.trans h.tape,e.output.trans h.output,a09 h.size e.size,fun b hb hR=>?_⟩
 ·have:=h.own k b h1 h2;exact⟨by have:=e.size;omega,this.2⟩
 ·refine⟨(hn b hb).2,by have:=(hn b hb).1;have:=h.size;omega,fun k hk hs=>?_⟩;have:=(h.own k b hk hs).1;have:=(hn b hb).1;omega
 ·rw[e.old b (by have:=h.size;omega)];exact h.old b hb hR
end
end Go.Bm
