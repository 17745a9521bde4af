/- The typed machine that the walks of this claim go by: its data, its operations and the proof that each is sound. No condition. -/
import Derived.WalkKit
set_option linter.unusedVariables false
set_option linter.unusedSimpArgs false
set_option linter.unusedSectionVars false
namespace Go.Bm
open Go.RowKit
theorem ak{p:Prop}(h:p:=by simp):p:=h
theorem aH{p:Prop}(h:p:=by decide):p:=h
theorem an{p:Prop}(h:p:=by dsimp only;omega):p:=h
theorem aa{p:Prop}(h:p:=by omega):p:=h
theorem cw{p:Prop}(h:p:=by first|omega|(dsimp only;omega)):p:=h
abbrev bc:=@cond_false
abbrev n5:=@Bool.and_self
abbrev bC:=@Bool.and_true
abbrev uj:=@Nat.beq_refl
abbrev ao:=@Bool.and_eq_true
abbrev bN:=@beq_iff_eq
abbrev gk:=@List.mem_cons_self
abbrev fp:=@List.mem_cons_of_mem
abbrev aI:=@Option.some.injEq
abbrev jO:=@Nat.zero_add
abbrev bn:=@List.length_append
abbrev jP:=@List.getElem_of_mem
abbrev bU:=@List.getElem?_eq_getElem
abbrev cA:=@List.mem_singleton
abbrev eS:=@List.mem_append
abbrev fE:=@List.getElem?_take
abbrev gn:=@List.getElem?_drop
abbrev rV:=@Nat.add_assoc
abbrev lA:=@cell_of_row
abbrev yW:=@List.take_left
abbrev Cs:=@List.drop_left
abbrev mo:=@List.ext_getElem?
abbrev gJ:=@List.getElem?_map
abbrev n6:=@List.getElem?_range
abbrev fq:=@Option.map_some
abbrev ja:=@List.getElem?_eq_none
abbrev n7:=@Nat.mul_le_mul_right
abbrev lB:=@Nat.add_mul
abbrev am:=@if_pos
abbrev dk:=@List.append_assoc
abbrev fT:=@List.getElem?_append_left
abbrev aj:=@if_neg
abbrev g9:=@List.getElem?_append_right
abbrev jb:=@List.take_append_drop
abbrev Cu:=@List.take_append_of_le_length
abbrev yX:=@List.drop_append_of_le_length
abbrev uk:=@List.take_append
abbrev fU:=@List.take_of_length_le
abbrev Cw:=@List.drop_of_length_le
abbrev jw:=@List.length_drop
abbrev o7:=@List.nil_append
abbrev Cx:=@Nat.add_sub_cancel_left
abbrev gp:=@List.getElem?_eq_some_iff
abbrev bE:=@Prod.mk.injEq
abbrev rW:=@Array.length_toList
abbrev Cy:=@List.drop_take
abbrev wn:=@List.drop_drop
abbrev dW:=@List.length_take
abbrev bd:=@Nat.le_refl
abbrev iM:=@List.append_nil
abbrev br:=@List.getD_eq_getElem?_getD
abbrev gK:=@List.length_set
abbrev cM:=@Ne.symm
abbrev o9:=@List.getElem?_set
abbrev dA:=@if_true
abbrev cR:=@Nat.eq_of_beq_eq_true
abbrev c8:=@Nat.le_trans
abbrev fF:=@Nat.lt_of_lt_of_le
abbrev aM:Type:=List Value
abbrev aT:Type:=Nat->Prop
abbrev aQ:Type:=World
abbrev bF:=TypeId
abbrev bw:Type:=Value
abbrev cX:Type:=Program
abbrev fD:Type:=Nat->Value
abbrev nz:Type:=Array Value
variable {Im Im' S S1 S2:aT}{P:cX}{a:Act}{b i j k m n off sz:Nat}{c w w' w'':aQ}{cur:nz}{e ety:bF}{row' us us' va vb vs xs:aM}{u v:bw}{α:Type}{β β':fD}
def nb:Nat:=140737488355328
abbrev ij:Type:=IntKind
def inK(k:ij)(n:Int):Prop:=k.min<=n/\n<=k.max
def ap{α:Type}:List α->List α->List α
 |[],b=>b
 |x::a,b=>x::ap a b
theorem eL(a b:List α):ap a b=a++b:=by
 induction a with
 |nil=>rfl
 |cons x a ih=>rw[ap,ih];rfl
def len{α:Type}:List α->Nat
 |[]=>0
 |_::r=>Nat.succ (len r)
theorem oX(a:List α):len a=a.length:=by
 induction a with
 |nil=>rfl
 |cons x a ih=>rw[len,ih];rfl
def dT{α:Type}:List α->Nat->Option α
 |[],_=>none
 |x::_,0=>some x
 |_::r,n+1=>dT r n
theorem ti(a:List α)(i:Nat):dT a i=a[i]?:=by
 induction a generalizing i with
 |nil=>rfl
 |cons x a ih=>cases i with
  |zero=>rfl
  |succ i=>rw[dT,ih];rfl
def cj{α:Type}:Nat->List α->List α
 |0,_|_+1,[]=>[]
 |n+1,x::r=>x::cj n r
theorem AE(n:Nat)(a:List α):cj n a=a.take n:=by
 induction n generalizing a with
 |zero=>rfl
 |succ n ih=>cases a with
  |nil=>rfl
  |cons x a=>rw[cj,ih];rfl
def fe{α:Type}:Nat->List α->List α
 |0,a=>a
 |_+1,[]=>[]
 |n+1,_::r=>fe n r
theorem Eb(n:Nat)(a:List α):fe n a=a.drop n:=by
 induction n generalizing a with
 |zero=>rfl
 |succ n ih=>cases a with
  |nil=>rfl
  |cons x a=>rw[fe,ih];rfl
def iJ{α:Type}(x:α):Nat->List α
 |0=>[]
 |n+1=>x::iJ x n
def tQ{α:Type}:List α->Nat->α->List α
 |[],_,_=>[]
 |_::r,0,y=>y::r
 |x::r,n+1,y=>x::tQ r n y
def BV{α:Type}(p:α->Bool):List α->Bool
 |[]=>true
 |x::r=>bif p x then BV p r else false
def toL:Array α->List α
 |⟨l⟩=>l
def p9:Nat->Nat->Nat
 |0,b=>b
 |a+1,b=>Nat.succ (p9 a b)
@[simp] theorem E9 (a b:Nat):p9 a b=a+b:=by
 induction a with
 |zero=>simp[p9]
 |succ a ih=>rw[p9,ih];omega
def isZ:Nat->Bool
 |0=>true
 |_+1=>false
def T5:Nat->Nat
 |0=>0
 |n+1=>n
def bT:Nat->Nat->Bool
 |0,b=>isZ b
 |a+1,b=>bif isZ b then false else bT a (T5 b)
@[simp] theorem dL (a b:Nat):bT a b=(a==b):=by
 induction a generalizing b with
 |zero=>cases b<;>rfl
 |succ a ih=>cases b with
  |zero=>rfl
  |succ b=>simp only[bT,isZ,T5,bc];rw[ih];simp
abbrev bo:Type:=Bool
def nob(a b:bo):Bool:=bif a then b else false
def neg(a:bo):Bool:=bif a then false else true
def orb(a b:bo):Bool:=bif a then true else b
def iy{β:Type}(f:α->β):Option α->Option β
 |none=>none
 |some x=>some (f x)
def isN:Option α->Bool
 |none=>true
 |some _=>false
@[simp] theorem aP (a b:bo):nob a b=(a&&b):=by cases a<;>rfl
@[simp] theorem eX (a b:bo):orb a b=(a||b):=by cases a<;>rfl
@[simp] theorem gu (a:bo):neg a=!a:=by cases a<;>rfl
abbrev fL:Type:=FuncId
inductive T where
 |int (k:ij)
 |bool
 |str
 |u
 |p (a b:T)
 |sl (e:T)
 |pt (t:T)
 |fn (f:fL) (t:T)
 |ifc (i:bF) (t:T)
 |ib (i:bF) (t:T)
 |mp (k v:T)
 |op (t:T)
 |ns (t:T)
 |er (i:bF)
 |any
variable {t:T}
@[reducible] def T.den:T->Type
 |.int _=>Int
 |.bool=>Bool
 |.str=>ByteArray
 |.u=>Unit
 |.p a b=>a.den×b.den
 |.sl e=>List e.den
 |.pt t|.fn _ t|.ifc _ t|.ib _ t=>t.den
 |.mp k v=>List (k.den×v.den)
 |.op t|.ns t=>Option t.den
 |.er _=>Bool
 |.any=>Unit
def T.dflt:(t:T)->t.den
 |.int _=>(0:Int)
 |.bool=>false
 |.str=>ByteArray.empty
 |.u=>()
 |.p a b=>(a.dflt,b.dflt)
 |.sl _=>[]
 |.pt t|.fn _ t|.ifc _ t|.ib _ t=>t.dflt
 |.mp _ _=>[]
 |.op _|.ns _=>none
 |.er _=>false
 |.any=>()
def T.size:T->Nat
 |.u=>0
 |.p a b=>p9 a.size b.size
 |.op t=>t.size
 |_=>1
def jp:IntKind->IntKind->Bool
 |.i8,.i8|.i16,.i16|.i32,.i32|.i64,.i64|.u8,.u8|.u16,.u16|.u32,.u32|.u64,.u64=>true
 |_,_=>false
theorem nI{a b:ij}(h:jp a b=true):a=b:=by cases a<;>cases b<;>first|rfl|(simp[jp]at h)
theorem Jg(a:ij):jp a a=true:=by cases a<;>rfl
def T.beq:T->T->Bool
 |.int k,.int k'=>jp k k'
 |.bool,.bool|.str,.str|.u,.u=>true
 |.p a b,.p a' b'=>nob (a.beq a') (b.beq b')
 |.sl e,.sl e'|.pt e,.pt e'=>e.beq e'
 |.fn f t,.fn f' t'|.ifc f t,.ifc f' t'|.ib f t,.ib f' t'=>nob (Nat.beq f f') (t.beq t')
 |.mp k v,.mp k' v'=>nob (k.beq k') (v.beq v')
 |.op e,.op e'|.ns e,.ns e'=>e.beq e'
 |.er i,.er j=>Nat.beq i j
 |.any,.any=>true
 |_,_=>false
theorem T.beq_eq:{a b:T}->a.beq b=true->a=b
 |.int k,b,h=>by cases b<;>simp[T.beq]at h;rw[nI h]
 |.bool,b,h|.str,b,h|.u,b,h=>by cases b<;>simp[T.beq]at h;rfl
 |.p a1 a2,b,h=>by cases b<;>simp[T.beq]at h;rw[T.beq_eq h.1,T.beq_eq h.2]
 |.sl e,b,h|.pt e,b,h=>by cases b<;>simp[T.beq]at h;rw[T.beq_eq h]
 |.fn f t,b,h|.ifc f t,b,h|.ib f t,b,h=>by cases b<;>simp[T.beq]at h;rw[h.1,T.beq_eq h.2]
 |.mp k v,b,h=>by cases b<;>simp[T.beq]at h;rw[T.beq_eq h.1,T.beq_eq h.2]
 |.op e,b,h|.ns e,b,h=>by cases b<;>simp[T.beq]at h;rw[T.beq_eq h]
 |.er i,b,h=>by cases b<;>simp[T.beq]at h;rw[h]
 |.any,b,h=>by cases b<;>simp[T.beq]at h;rfl
def fQ{a:T}(b:T)(x:a.den):Option b.den:=
 match h:a.beq b with
 |true=>some (T.beq_eq h▸x)
 |false=>none
theorem T.beq_refl:(a:T)->a.beq a=true
 |.int k=>Jg k
 |.bool|.str|.u=>rfl
 |.p a b=>by simp only[T.beq,T.beq_refl a,T.beq_refl b,aP,n5]
 |.sl e|.pt e=>by simp only[T.beq];exact T.beq_refl e
 |.fn f t|.ifc f t|.ib f t=>by simp only[T.beq,T.beq_refl t,aP,bC];exact uj f
 |.mp k v=>by simp only[T.beq,T.beq_refl k,T.beq_refl v,aP,n5]
 |.op e|.ns e=>by simp only[T.beq,T.beq_refl e]
 |.er i=>by simp only[T.beq];exact uj i
 |.any=>rfl
theorem uI{a:T}(x:a.den):fQ a x=some x:=by
 unfold fQ;split
 ·rfl
 ·rename_i h;rw[T.beq_refl a]at h;cases h
def T.dec:(t:T)->DecidableEq t.den
 |.int _=>λa b=>decEq (α:=Int) a b
 |.bool=>λa b=>decEq (α:=Bool) a b
 |.str=>λa b=>decEq (α:=ByteArray) a b
 |.u=>λ_ _=>isTrue rfl
 |.p a b=>@instDecidableEqProd a.den b.den a.dec b.dec
 |.sl e=>@instDecidableEqList e.den e.dec
 |.pt t|.fn _ t|.ifc _ t|.ib _ t=>t.dec
 |.mp k v=>@instDecidableEqList (k.den×v.den) (@instDecidableEqProd k.den v.den k.dec v.dec)
 |.op t|.ns t=>@Option.instDecidableEq t.den t.dec
 |.er _=>λa b=>decEq (α:=Bool) a b
 |.any=>λ_ _=>isTrue rfl
def eqR(t:T)(a b:t.den):Bool:=@decide (a=b) (t.dec a b)
theorem nL{a b:t.den}:eqR t a b=true<->a=b:=by simp[eqR]
@[simp] theorem PV {t:T} (a:t.den):eqR t a a=true:=nL.2 rfl
theorem ye{a b:t.den}(h:a≠b):eqR t a b=false:=by
 cases h':eqR t a b with
 |false=>rfl
 |true=>exact absurd (nL.1 h') h
def mL(k v:T)(l:List (k.den×v.den))(x:k.den):Option v.den:=(l.find? λe=>eqR k x e.1).map (·.2)
def BE(k v:T)(l:List (k.den×v.den))(x:k.den):Bool:=(mL k v l x).isSome
def vw(k v:T)(l:List (k.den×v.den))(x:k.den):v.den:=(mL k v l x).getD v.dflt
def dq(k v:T):List (k.den×v.den)->k.den->v.den->List (k.den×v.den)
 |[],x,y=>[(x,y)]
 |e::r,x,y=>if eqR k x e.1=true then (x,y)::r else e::dq k v r x y
def T.intsN:T->Nat
 |.int _=>1
 |.p (.int _) b=>(match b.intsN with|0=>0|n+1=>Nat.succ (Nat.succ n))
 |_=>0
def T.ok:(t:T)->t.den->Prop
 |.int k,n=>inK k n
 |.str,s=>s.size<=nb
 |.p a b,x=>a.ok x.1/\b.ok x.2
 |.sl e,l=>l.length<=nb/\∀y∈l,e.ok y
 |.pt t,x|.fn _ t,x|.ifc _ t,x|.ib _ t,x=>t.ok x
 |.mp k v,l=>l.length<=nb/\∀y∈l,k.ok y.1/\v.ok y.2
 |.op t,x|.ns t,x=>∀y,x=some y->t.ok y
 |.er _,_|.bool,_|.u,_|.any,_=>True
inductive O where
 |fz (t:T)
 |p (a b:O)
 |sl (e:O)
 |pt (t:O)
 |mp (k v:T)
 |op (e:O)
abbrev gH:Type:=List (Bool×O)
variable {o:O}{rt:gH}
@[reducible] def O.strip:O->T
 |.fz t=>t
 |.p a b=>.p a.strip b.strip
 |.sl e=>.sl e.strip
 |.pt t=>.pt t.strip
 |.mp k v=>.mp k v
 |.op e=>.op e.strip
def O.beq:O->O->Bool
 |.fz t,.fz t'=>t.beq t'
 |.p a b,.p a' b'=>nob (a.beq a') (b.beq b')
 |.sl e,.sl e'|.pt e,.pt e'=>e.beq e'
 |.mp k v,.mp k' v'=>nob (k.beq k') (v.beq v')
 |.op e,.op e'=>e.beq e'
 |_,_=>false
theorem O.beq_eq:{a b:O}->a.beq b=true->a=b
 |.fz t,b,h=>by cases b<;>simp[O.beq]at h;rw[T.beq_eq h]
 |.p a1 a2,b,h=>by cases b<;>simp[O.beq]at h;rw[O.beq_eq h.1,O.beq_eq h.2]
 |.sl e,b,h|.pt e,b,h=>by cases b<;>simp[O.beq]at h;rw[O.beq_eq h]
 |.mp k v,b,h=>by cases b<;>simp[O.beq]at h;rw[T.beq_eq h.1,T.beq_eq h.2]
 |.op e,b,h=>by cases b<;>simp[O.beq]at h;rw[O.beq_eq h]
theorem O.beq_refl:(o:O)->o.beq o=true
 |.fz t=>by simp only[O.beq];exact T.beq_refl t
 |.p a b=>by simp only[O.beq,O.beq_refl a,O.beq_refl b,aP,n5]
 |.sl e|.pt e=>by simp only[O.beq];exact O.beq_refl e
 |.mp k v=>by simp only[O.beq,T.beq_refl k,T.beq_refl v,aP,n5]
 |.op e=>by simp only[O.beq];exact O.beq_refl e
def O.wk:O->O->Bool
 |.p a b,.p a' b'=>nob (a.wk a') (b.wk b')
 |.sl e,.sl e'|.pt e,.pt e'=>e.wk e'
 |.mp k v,.mp k' v'=>nob (k.beq k') (v.beq v')
 |.op e,.op e'=>e.beq e'
 |o,.fz t=>o.strip.beq t
 |.fz (.p a b),.p a' b'=>nob (O.wk (.fz a) a') (O.wk (.fz b) b')
 |_,_=>false
structure Ob where
 o:O
 x:o.strip.den
variable {ob q:Ob}
def jn(q:Ob)(o:O):Option o.strip.den:=
 match h:q.o.beq o with
 |true=>some (O.beq_eq h▸q.x)
 |false=>none
def mkP(a b:Ob):Ob:=
 match a,b with
 |⟨.fz s,x⟩,⟨.fz t,y⟩=>⟨.fz (.p s t),(x,y)⟩
 |⟨o,x⟩,⟨o',y⟩=>⟨.p o o',(x,y)⟩
def T.deep:T->O
 |.p a b=>(match a.deep,b.deep with
  |.fz s,.fz t=>.fz (.p s t)
  |o,o'=>.p o o')
 |.sl e=>.sl e.deep
 |.mp k v=>.mp k v
 |t=>.fz t
theorem T.deep_strip:(t:T)->t.deep.strip=t
 |.p a b=>by
  have h1:=T.deep_strip a;have h2:=T.deep_strip b;simp only[T.deep];split
  ·rename_i h h';rw[h]at h1;rw[h']at h2;simp only[O.strip]at h1 h2⊢;rw[h1,h2]
  ·simp only[O.strip,h1,h2]
 |.sl e=>by simp only[T.deep,O.strip,T.deep_strip e]
 |.int _|.bool|.str|.u|.pt _|.fn _ _|.ifc _ _|.ib _ _|.mp _ _|.op _|.ns _|.er _|.any=>rfl
def O.dflt:(o:O)->o.strip.den
 |.fz t=>t.dflt
 |.p a b=>(a.dflt,b.dflt)
 |.sl _=>[]
 |.pt t=>t.dflt
 |.mp _ _=>[]
 |.op _=>none
inductive Step where
 |l
 |r
 |de
 |ix (i:Nat)
abbrev bz:=List Step
variable {π:bz}
def get:bz->(o:O)->o.strip.den->Option Ob
 |[],o,x=>some ⟨o,x⟩
 |.l::π,.p a _,x=>get π a x.1
 |.r::π,.p _ b,x=>get π b x.2
 |.l::π,.fz (.p a _),x=>get π (.fz a) x.1
 |.r::π,.fz (.p _ b),x=>get π (.fz b) x.2
 |.ix i::π,.sl e,x=>get π e (x.getD i e.dflt)
 |.de::π,.pt t,x=>get π t x
 |_,_,_=>none
def set:bz->(o:O)->o.strip.den->Ob->Option Ob
 |[],_,_,n=>some n
 |.l::π,.p a b,x,n=>(match set π a x.1 n with|some q=>some (mkP q ⟨b,x.2⟩)|none=>none)
 |.r::π,.p a b,x,n=>(match set π b x.2 n with|some q=>some (mkP ⟨a,x.1⟩ q)|none=>none)
 |.l::π,.fz (.p a b),x,n=>(match set π (.fz a) x.1 n with|some q=>some (mkP q ⟨.fz b,x.2⟩)|none=>none)
 |.r::π,.fz (.p a b),x,n=>(match set π (.fz b) x.2 n with|some q=>some (mkP ⟨.fz a,x.1⟩ q)|none=>none)
 |.ix i::π,.sl e,x,n=>(match set π e (x.getD i e.dflt) n with
  |some q=>(match jn q e with|some y=>some ⟨.sl e,x.set i y⟩|none=>none)
  |none=>none)
 |.de::π,.pt t,x,n=>(match set π t x n with|some q=>some ⟨.pt q.o,q.x⟩|none=>none)
 |_,_,_,_=>none
def nZ:bz->Bool
 |[]=>false
 |.ix _::_=>true
 |_::π=>nZ π
inductive V where
 |any
 |nl
 |np
 |u
 |d (t:T) (x:t.den)
 |ref (k:Nat) (π:bz)
 |ad (k:Nat) (π:bz)
 |p (a b:V)
 |ag (v:V)
 |tup (v:V)
 |gd (j:Nat) (w:bo) (P:Prop) (v:V)
 |fn (f:fL) (v:V)
 |ifc (t:bF) (v:V)
 |bx (v:V)
variable {x:V}
abbrev Env:=List (Nat×V)
variable {env env':Env}
abbrev Mem:=List (Nat×Ob)
variable {M M' M'':Mem}
def gt:Env->Nat->V
 |[],_=>.any
 |(k,v)::r,t=>bif Nat.beq k t then v else gt r t
def go:Mem->Nat->Option Ob
 |[],_=>none
 |(k,v)::r,t=>bif Nat.beq k t then some v else go r t
def del(k:Nat):Mem->Mem
 |[]=>[]
 |(j,o)::r=>bif Nat.beq j k then del k r else (j,o)::del k r
def put(k:Nat)(o:Ob):Mem->Mem
 |[]=>[]
 |(j,x)::r=>bif Nat.beq j k then (k,o)::r else (j,x)::put k o r
def ez(M:Mem)(k:Nat)(π:bz):Option Ob:=
 match go M k with
 |some ob=>get π ob.o ob.x
 |none=>none
def fy:(t:T)->t.den->V
 |.p a b,x=>.p (fy a x.1) (fy b x.2)
 |.u,_=>.u
 |t,x=>.d t x
def toV(k:Nat):bz->(o:O)->o.strip.den->V
 |_,.fz t,x=>fy t x
 |π,.pt _,_=>.ad k (ap π [.de])
 |π,_,_=>.ref k π
def peq:bz->bz->Bool
 |[],[]=>true
 |.l::a,.l::b|.r::a,.r::b|.de::a,.de::b=>peq a b
 |_,_=>false
def eB:bz->O->Option Nat
 |[],_=>some 0
 |.l::π,.p a _=>eB π a
 |.r::π,.p a b=>(match eB π b with|some n=>some (p9 a.strip.size n)|none=>none)
 |.l::π,.fz (.p a _)=>eB π (.fz a)
 |.r::π,.fz (.p a b)=>(match eB π (.fz b)with|some n=>some (p9 a.size n)|none=>none)
 |_,_=>none
def eN:bz->O->Option Nat
 |.de::π,.pt o=>eB π o
 |_,_=>none
def kZ:Option Nat->Option Nat->Bool
 |some a,some b=>bT a b
 |_,_=>false
def iI:bz->Bool
 |[]=>true
 |_=>false
def O.hole:O->T
 |.fz t=>t
 |.p a b=>.p a.hole b.hole
 |.sl _|.pt _|.mp _ _=>.any
 |.op e=>.op e.strip
def O.holeX:(o:O)->o.strip.den->o.hole.den
 |.fz _,x=>x
 |.p a b,x=>(a.holeX x.1,b.holeX x.2)
 |.sl _,_|.pt _,_|.mp _ _,_=>()
 |.op _,_=>none
def trk:bz->O->Option (List Nat)
 |[],_=>some []
 |.l::π,.p a _=>(match trk π a with|some l=>some (0::a.strip.size::l)|none=>none)
 |.r::π,.p a b=>(match trk π b with|some l=>some (1::a.strip.size::l)|none=>none)
 |.de::π,.pt t=>(match trk π t with|some l=>some (2::t.strip.size::l)|none=>none)
 |_,_=>none
def FC:List Nat->List Nat->Bool
 |[],[]=>true
 |a::l,b::r=>nob (bT a b) (FC l r)
 |_,_=>false
abbrev aZ:Type:=List Nat
theorem Pw:∀{a b:aZ},FC a b=true->a=b
 |[],[],_=>rfl
 |a::l,b::r,h=>by simp only[FC,aP,ao,dL,bN]at h;rw[h.1,Pw h.2]
 |[],_::_,h|_::_,[],h=>by cases h
def Fy:Option (List Nat)->Option (List Nat)->Bool
 |some a,some b=>FC a b
 |_,_=>false
inductive Ev where
 |mv (r k:Nat)
 |kl (k:Nat)
 |cut (k:Nat) (o o':O)
 |fz (k:Nat) (ob:Ob)
 |un (k j:Nat)
 |tk (k:Nat) (o o':O)
 |kn (k:Nat) (v:V)
def Ev.ref(k:Nat)(π:bz):Ev->V
 |.mv r k'=>bif Nat.beq k r then .ref k' π else .ref k π
 |.kl r=>bif Nat.beq k r then .any else .ref k π
 |.cut r _ _=>bif Nat.beq k r then (bif iI π then .ref k π else .any)else .ref k π
 |.fz r ob=>bif Nat.beq k r then (match get π ob.o ob.x with|some q=>fy q.o.strip q.x|none=>.any)else .ref k π
 |.un r _|.kn r _=>bif Nat.beq k r then .any else .ref k π
 |.tk r o o'=>bif Nat.beq k r then (bif orb (iI π) (Fy (trk π o) (trk π o'))then .ref k π else .any)else .ref k π
def Ev.ad(k:Nat)(π:bz):Ev->V
 |.mv r k'=>bif Nat.beq k r then .ad k' π else .ad k π
 |.kl r=>bif Nat.beq k r then .any else .ad k π
 |.cut r o o'=>bif Nat.beq k r then (bif kZ (eN π o) (eN π o')then .ad k π else .any)else .ad k π
 |.fz r ob=>bif Nat.beq k r then (match get π ob.o ob.x with|some q=>.d (.pt q.o.strip) q.x|none=>.any)else .ad k π
 |.un r j=>bif Nat.beq k r then (match π with|[.de]=>.bx (.ad j [.de])|_=>.any)else .ad k π
 |.kn r v=>bif Nat.beq k r then (match π with|[.de]=>.bx v|_=>.any)else .ad k π
 |.tk r o o'=>bif Nat.beq k r then (bif kZ (eN π o) (eN π o')then .ad k π else .any)else .ad k π
def V.ev(e:Ev):V->V
 |.ref k π=>e.ref k π
 |.ad k π=>e.ad k π
 |.p a b=>.p (a.ev e) (b.ev e)
 |.ag v=>.ag (v.ev e)
 |.tup v=>.tup (v.ev e)
 |.gd j w P v=>.gd j w P (v.ev e)
 |.fn f v=>.fn f (v.ev e)
 |.ifc t v=>.ifc t (v.ev e)
 |.bx v=>.bx (v.ev e)
 |v=>v
def V.evs(v:V):List Ev->V
 |[]=>v
 |e::r=>(v.ev e).evs r
def evE(e:Ev):Env->Env
 |[]=>[]
 |(t,v)::r=>(t,v.ev e)::evE e r
def eh(env:Env):List Ev->Env
 |[]=>env
 |e::r=>eh (evE e env) r
structure Ty where
 ok:Bool
 agg:Bool
 bl:Bool
 st:Bool
 sz:Bool
 size:Nat
 bytes:Nat
 el:Option TypeId
 int:Option IntKind
 mp:Option (TypeId×TypeId)
 fld:List (Nat×TypeId×Nat)
 arr:Option (TypeId×Nat)
 ifc:Bool
def d7(P:cX)(i:TypeInfo)(u:TypeDesc):Ty:={
 ok:=true
 agg:=(match u with|.struct _=>true|.array _ _=>true|_=>false)
 bl:=(match u with|.bool=>true|_=>false)
 st:=(match u with|.string=>true|_=>false)
 sz:=(match u with|.struct fs=>fs.toList.all λf=>(P.info? f.type).isSome|_=>false)
 size:=i.size
 bytes:=i.bytes
 el:=(match u with|.slice e=>some e|_=>none)
 int:=(match u with|.int k=>some k|_=>none)
 mp:=(match u with|.map k e=>(match P.info? e with|some ie=>(match ie.zero with|some (.agg _)=>none|some _=>some (k,e)|none=>none)|none=>none)|_=>none)
 fld:=(match u with|.struct fs=>fs.toList.map λf=>(f.offset,f.type,P.cellsOf f.type)|_=>[])
 arr:=(match u with|.array n e=>some (e,n)|_=>none)
 ifc:=(match u with|.interface _=>true|_=>false) }
def FY:Ty:=⟨false,false,false,false,false,0,0,none,none,none,[],none,false⟩
def ty(P:cX)(t:bF):Ty:=
 match P.info? t,P.underlying t with
 |some i,some u=>d7 P i u
 |_,_=>FY
def tyZ(P:cX)(t:bF):Option (List Value):=
 match P.info? t with
 |some i=>(match i.zero with|some z=>some z.cells.toList|none=>none)
 |none=>none
structure Mth where
 t:TypeId
 i:TypeId
 name:String
 f:FuncId
structure Tab where
 τ:TypeId->Ty
 σ:TypeId->T
 z:TypeId->Bool
 q:TypeId->Nat
 m:List Mth
 tk:Bool
variable {B:Tab}
def BY:List Mth->TypeId->TypeId->Bool
 |[],_,_=>false
 |e::r,t,i=>orb (nob (Nat.beq e.t t) (Nat.beq e.i i)) (BY r t i)
def BC:List Mth->TypeId->String->Option FuncId
 |[],_,_=>none
 |e::r,t,n=>bif nob (Nat.beq e.t t) (e.name==n)then some e.f else BC r t n
def nW:Nat->Nat->bz
 |0,_|1,_=>[]
 |_+2,0=>[.l]
 |n+2,i+1=>.r::nW (Nat.succ n) i
def gV:bz->T->Option Nat
 |[],_=>some 0
 |.l::π,.p a _=>gV π a
 |.r::π,.p a b=>(match gV π b with|some n=>some (p9 a.size n)|none=>none)
 |_,_=>none
def vH:bz->(t:T)->t.den->Option ((t:T)×t.den)
 |[],t,x=>some ⟨t,x⟩
 |.l::π,.p a _,x=>vH π a x.1
 |.r::π,.p _ b,x=>vH π b x.2
 |_,_,_=>none
structure Rs where
 vc:List Prop
 av:V
 ev:List Ev
 M:Mem
def be(M:Mem):Rs:=⟨[False],.any,[],M⟩
abbrev Cr:Type:=List Prop×V
def bR(q:Cr)(M:Mem):Rs:=⟨q.1,q.2,[],M⟩
def bad:List Prop×V:=([False],.any)
def bB(v:V):List Prop×V:=([],v)
def aO:List Bool->Bool
 |[]=>true
 |b::r=>bif b then aO r else false
def inKb(k:ij)(n:Int):Bool:=aO [decide (k.min<=n),decide (n<=k.max)]
def rdV:Value->V
 |.int k n=>.d (.int k) n
 |.bool b=>.d .bool b
 |.string s=>.d .str s
 |.slice none n m=>bif nob (Nat.beq n 0) (Nat.beq m 0)then .nl else .any
 |.pointer none=>.np
 |.nilIface=>.d (.er 0) false
 |_=>.any
def rd(env:Env):Operand->V
 |.tmp t=>gt env t
 |.const v=>rdV v
 |.func f=>.fn f .u
 |.global _=>.any
def L0:Value->Bool
 |.int k n=>inKb k n
 |.string s=>Nat.ble s.size nb
 |_=>true
def lX:Operand->Bool
 |.const v=>L0 v
 |_=>true
def V.boolV:V->Bool
 |.d .bool b=>b
 |_=>false
def V.isB:V->Bool
 |.d .bool _=>true
 |_=>false
def V.strip:V->V
 |.gd _ _ _ v|v=>v
def ar(k:ij)(n:Int):List Prop×V:=
 match k with
 |.i64=>([inK .i64 n],.d (.int .i64) n)
 |k=>([],.d (.int k) (k.wrap n))
def tK(k:ij)(a b:Int):Int:=k.wrap ((BitVec.ofInt k.bits a &&& BitVec.ofInt k.bits b).toNat:Nat)
def pu(k:ij)(a b:Int):Int:=a.fdiv (2 ^ (min b.toNat k.bits))
abbrev l9:Type:=BinOp
def ma(op:l9)(k:ij)(a b:Int):List Prop×V:=
 match op with
 |.and=>bB (.d (.int k) (tK k a b))
 |.shr=>([0<=b,inK k (pu k a b)],.d (.int k) (pu k a b))
 |.add=>ar k (a+b)
 |.sub=>ar k (a-b)
 |.mul=>ar k (a*b)
 |.quo=>(match ar k (a.tdiv b)with|(l,v)=>((b≠0)::l,v))
 |.rem=>([b≠0,inK k (a.tmod b)],.d (.int k) (a.tmod b))
 |.eql=>bB (.d .bool (a==b))
 |.neq=>bB (.d .bool (a != b))
 |.lss=>bB (.d .bool (decide (a<b)))
 |.leq=>bB (.d .bool (decide (a<=b)))
 |.gtr=>bB (.d .bool (decide (b<a)))
 |.geq=>bB (.d .bool (decide (b<=a)))
 |_=>bad
def mxR(a b:Int):Int:=if b>a then b else a
def mnR(a b:Int):Int:=if b<a then b else a
def BQ(g:bo)(x y:V):List Prop×V:=
 match x,y with
 |.d (.int k) a,.d (.int k') b=>bif jp k k' then bB (.d (.int k) (bif g then mxR a b else mnR a b))else bad
 |_,_=>bad
def Lh(_:l9)(_ _:ByteArray):List Prop×V:=bad
def F1(τ:Ty)(op:l9)(x y:V):List Prop×V:=
 match x,y with
 |.d (.int k) a,.d (.int k') b=>bif jp k k' then ma op k a b else bad
 |.d .bool a,.d .bool b=>bif aO [τ.ok,τ.bl]then (match op with
  |.eql=>bB (.d .bool (a==b))
  |.neq=>bB (.d .bool (a != b))
  |_=>bad)else bad
 |.d .str a,.d .str b=>Lh op a b
 |_,_=>bad
def mK:Nat->V->V->Option Bool
 |1,.d (.int k) x,.d (.int k') y=>bif jp k k' then some (x==y)else none
 |Nat.succ (Nat.succ n),.p (.d (.int k) x) a,.p (.d (.int k') y) b=>(match mK (Nat.succ n) a b with
  |some r=>bif jp k k' then some ((x==y)&&r)else none
  |none=>none)
 |_,_,_=>none
def TZ(n:Nat)(op:l9)(a b:V):List Prop×V:=
 match op,mK n a b with
 |.eql,some r=>bB (.d .bool r)
 |.neq,some r=>bB (.d .bool (!r))
 |_,_=>bad
def Fa(B:Tab)(t:bF)(op:l9)(x y:V):List Prop×V:=
 match x,y with
 |.ag a,.ag b=>TZ (B.q t) op a b
 |x,y=>F1 (B.τ t) op x y
def S8:Operand->Bool
 |.const .nilIface=>true
 |_=>false
def KG:Operand->Bool
 |.const (.slice none n m)=>nob (Nat.beq n 0) (Nat.beq m 0)
 |_=>false
def FK:Option (List α)->Bool
 |none=>true
 |some l=>!l.isEmpty
def Fk(B:Tab)(t:bF)(op:l9)(z zi:bo)(x y:V):List Prop×V:=
 match z,x,op with
 |true,.d (.ns (.sl _)) l,.eql=>bif aO [(B.τ t).ok,neg (isN (B.τ t).el)]then ([FK l=true],.d .bool l.isNone)else bad
 |true,.d (.ns (.sl _)) l,.neq=>bif aO [(B.τ t).ok,neg (isN (B.τ t).el)]then ([FK l=true],.d .bool l.isSome)else bad
 |_,.d (.er _) b,.eql=>bif aO [zi,(B.τ t).ok,(B.τ t).ifc]then bB (.d .bool (!b))else bad
 |_,.d (.er _) b,.neq=>bif aO [zi,(B.τ t).ok,(B.τ t).ifc]then bB (.d .bool b)else bad
 |_,_,_=>Fa B t op x y
def FT(op:UnOp)(x:V):List Prop×V:=
 match op,x with
 |.not,.d .bool b=>bB (.d .bool (!b))
 |.neg,.d (.int k) n=>ar k (0-n)
 |_,_=>bad
def Fc(τ σ:Ty)(x:V):List Prop×V:=
 match x,τ.int,σ.int with
 |.d (.int k) n,some k1,some k'=>bif aO [τ.ok,σ.ok,jp k1 k]then (bif jp k k' then bB (.d (.int k) n)else bB (.d (.int k') (k'.wrap n)))else bad
 |_,_,_=>bad
abbrev aA:Type:=List Int
def ER(l:aA):ByteArray:=⟨(l.map λn=>UInt8.ofNat n.toNat).toArray⟩
def vI(M:Mem):V->Option (List Int)
 |.ref k π=>(match ez M k π with|some ⟨.sl (.fz (.int .u8)),l⟩=>some l|_=>none)
 |_=>none
def LE:Option IntKind->Bool
 |some .u8=>true
 |_=>false
def oT(B:Tab)(s d:bF)(M:Mem)(x:V):List Prop×V:=
 match (B.τ s).el,vI M x with
 |some e,some l=>bif aO [(B.τ s).ok,(B.τ d).ok,(B.τ d).st,(B.τ e).ok,LE (B.τ e).int]then bB (.d .str (ER l))else bad
 |_,_=>Fc (B.τ s) (B.τ d) x
def nth:V->Nat->Option V
 |.p a _,0=>some a
 |.p _ b,i+1=>nth b i
 |_,_=>none
def yo(x:V)(i:Nat):List Prop×V:=
 match x with
 |.tup v=>(match nth v i with|some y=>bB y|none=>bad)
 |_=>bad
def Fo(x:V):List Prop×V:=
 match x with
 |.d (.pt t) y=>bB (.d (.pt t) y)
 |.ad k π=>bB (.ad k π)
 |.bx v=>bB (.bx v)
 |_=>bad
def L5:Option Nat->Option Nat->Option Nat
 |some a,some b=>some (p9 a b)
 |_,_=>none
def V.size(M:Mem):V->Option Nat
 |.p a b=>L5 (a.size M) (b.size M)
 |.u=>some 0
 |.ref k π=>(match ez M k π with|some q=>some q.o.strip.size|none=>none)
 |.d t _=>some t.size
 |.ad _ _|.nl|.np|.fn _ _|.ifc _ _|.bx _=>some 1
 |_=>none
def eK(M:Mem)(v:V)(n:Nat):Bool:=match v.size M with|some m=>bT m n|none=>false
def dM(M:Mem):bz->V->Option (Nat×V)
 |[],v=>some (0,v)
 |.l::π,.p a _=>dM M π a
 |.r::π,.p a b=>(match a.size M,dM M π b with|some m,some (n,v)=>some (p9 m n,v)|_,_=>none)
 |π,.ref k ρ=>(match ez M k ρ,ez M k (ap ρ π)with
  |some q,some q'=>(match gV π q.o.strip with|some n=>some (n,toV k (ap ρ π) q'.o q'.x)|none=>none)
  |_,_=>none)
 |_,_=>none
def nh(M:Mem)(x:V)(π:bz)(off:Nat):List Prop×V:=
 match x with
 |.d (.pt t) y=>(match gV π t,vH π t y with
  |some n,some q=>bif bT n off then bB (.d (.pt q.1) q.2)else bad
  |_,_=>bad)
 |.ad k ρ=>(match ez M k ρ with
  |some q=>(match gV π q.o.strip with
   |some n=>bif bT n off then bB (.ad k (ap ρ π))else bad
   |none=>bad)
  |none=>bad)
 |.bx v=>(match dM M π v with
  |some q=>bif bT q.1 off then bB (.bx q.2)else bad
  |none=>bad)
 |_=>bad
def oZ(τ:Ty)(M:Mem)(x:V)(i:Nat):List Prop×V:=
 match dT τ.fld i with
 |some (off,_,fsz)=>bif aO [τ.ok,neg (Nat.beq fsz 0)]then nh M x (nW (len τ.fld) i) off else bad
 |none=>bad
def kI(agg:bo)(v:V):V:=bif agg then .ag v else v
def pg(B:Tab)(τ:Ty)(M:Mem)(x:V)(i:Nat):List Prop×V:=
 match dT τ.fld i,x with
 |some (off,ft,_),.ag v=>
  (match dM M (nW (len τ.fld) i) v with
  |some (n,w)=>bif aO [τ.ok,(B.τ ft).ok,bT n off,eK M w (B.τ ft).size,orb (B.τ ft).agg (bT (B.τ ft).size 1)]then bB (kI (B.τ ft).agg w)else bad
  |none=>bad)
 |_,_=>bad
def pi(B:Tab)(τ:Ty)(M:Mem)(x i:V):List Prop×V:=
 match τ.el,i with
 |some e,.d (.int _) n=>
  (match x with
  |.d (.sl t) l=>bif aO [τ.ok,(B.τ e).ok,bT t.size (B.τ e).size]then ([0<=n,n<l.length],.d (.pt t) (l.getD n.toNat t.dflt))else bad
  |.ref k π=>(match ez M k π with
   |some ⟨.sl o,l⟩=>bif aO [τ.ok,(B.τ e).ok,bT o.strip.size (B.τ e).size]then ([0<=n,n<l.length],.ad k (ap π [.ix n.toNat]))else bad
   |some ⟨.fz (.sl t),l⟩=>bif aO [τ.ok,(B.τ e).ok,bT t.size (B.τ e).size]then ([0<=n,n<l.length],.d (.pt t) (l.getD n.toNat t.dflt))else bad
   |_=>bad)
  |_=>bad)
 |_,_=>bad
def Fq(B:Tab)(τ:Ty)(e:bF)(n:Nat)(M:Mem)(x i:V):List Prop×V:=
 match i with
 |.d (.int _) m=>bif aO [τ.ok,(B.τ e).ok]then (match nh M x (nW n m.toNat) (Nat.mul m.toNat (B.τ e).size)with
  |(l,v)=>(((0:Int)<=m)::(m<(n:Int))::l,v))else bad
 |_=>bad
def pd(B:Tab)(τ:Ty)(M:Mem)(x i:V):List Prop×V:=
 match τ.arr with
 |some (e,n)=>Fq B τ e n M x i
 |none=>pi B τ M x i
def lR(τ:Ty)(M:Mem)(x:V):List Prop×V:=
 match x with
 |.d (.pt t) y=>bif aO [τ.ok,bT t.size τ.size,orb τ.agg (bT t.size 1)]then bB (kI τ.agg (fy t y))else bad
 |.ad k π=>(match ez M k π with
  |some q=>bif aO [τ.ok,bT q.o.strip.size τ.size,orb τ.agg (bT q.o.strip.size 1)]then bB (kI τ.agg (toV k π q.o q.x))else bad
  |none=>bad)
 |.bx v=>bif aO [τ.ok,eK M v τ.size,orb τ.agg (bT τ.size 1)]then bB (kI τ.agg v)else bad
 |_=>bad
def mf(l:List α):List (Option α):=l.map some
def om(l:List α)(i:Nat):List (Option α):=(l.map some).set i none
def ownAtR(l:List (Option α))(i:Nat):Bool:=(l.getD i none).isSome
def rowAtR(z:α)(l:List (Option α))(i:Nat):α:=(l.getD i none).getD z
def vC(l:List (Option α)):Bool:=l.all Option.isSome
def pv(z:α)(l:List (Option α)):List α:=l.map λx=>x.getD z
def gid:Nat:=1000000
abbrev eP:Type:=Option Nat
def pz(_:Ty)(_:Mem)(_:eP)(_:V):Option Rs:=none
def kR(τ:Ty)(M:Mem)(d:eP)(x:V):Rs:=
 match pz τ M d x with
 |some r=>r
 |none=>bR (lR τ M x) M
def vr(τ:Ty)(M:Mem)(x:V):List Prop×V:=
 match x with
 |.d .str s=>bif aO [τ.ok,τ.st]then bB (.d (.int .i64) s.size)else bad
 |.d (.sl _) l=>bif aO [τ.ok,neg (isN τ.el)]then bB (.d (.int .i64) l.length)else bad
 |.d (.mp _ _) l=>bif aO [τ.ok,neg (isN τ.mp)]then bB (.d (.int .i64) l.length)else bad
 |.d (.ns (.sl _)) l=>bif aO [τ.ok,neg (isN τ.el)]then bB (.d (.int .i64) (l.getD []).length)else bad
 |.nl=>bif aO [τ.ok,neg (isN τ.el)]then bB (.d (.int .i64) (0:Int))else bad
 |.ref k π=>(match ez M k π with
  |some ⟨.sl _,l⟩|some ⟨.fz (.sl _),l⟩=>bif aO [τ.ok,neg (isN τ.el)]then bB (.d (.int .i64) l.length)else bad
  |some ⟨.mp _ _,l⟩=>bif aO [τ.ok,neg (isN τ.mp)]then bB (.d (.int .i64) l.length)else bad
  |_=>bad)
 |_=>bad
def BU(B:Tab)(τ:Ty)(x:V)(lo hi:Option V):List Prop×V:=
 match x,τ.el with
 |.d (.sl t) l,some e=>bif aO [τ.ok,(B.τ e).ok,bT t.size (B.τ e).size]then
   (match lo,hi with
   |none,none=>bB (.d (.sl t) l)
   |some (.d (.int _) a),none=>([0<=a,a<=l.length],.d (.sl t) (l.drop a.toNat))
   |none,some (.d (.int _) b)=>([0<=b,b<=l.length],.d (.sl t) (l.take b.toNat))
   |some (.d (.int _) a),some (.d (.int _) b)=>([0<=a,a<=b,b<=l.length],.d (.sl t) ((l.take b.toNat).drop a.toNat))
   |_,_=>bad)else bad
 |_,_=>bad
def cr(M:Mem):V->List Ev×Mem
 |.ref k _|.ad k _=>(match go M k with|some ob=>([.fz k ob],del k M)|none=>([],M))
 |.p a b=>(match cr M a with|(e,M')=>(match cr M' b with|(e',M'')=>(ap e e',M'')))
 |.ag v|.fn _ v|.ifc _ v|.bx v|.tup v|.gd _ _ _ v=>cr M v
 |_=>([],M)
def tldR{β:Type}(l:List (α×Option (List β))):List (α×List β):=l.map λx=>(x.1,x.2.getD [])
def LJ(s:T)(x:s.den)(t:T):Option t.den:=
 match s,x,t with
 |.ns (.sl a),x,.sl b=>fQ (.sl b) (a:=.sl a) (x.getD [])
 |.sl (.ns (.sl a)),x,.sl (.sl b)=>fQ (.sl (.sl b)) (a:=.sl (.sl a)) (pv [] x)
 |.sl (.p c (.ns (.sl a))),x,.sl (.p d (.sl b))=>fQ (.sl (.p d (.sl b))) (a:=.sl (.p c (.sl a))) (tldR x)
 |.sl a,x,.ns (.sl b)=>(match fQ (.sl b) (a:=.sl a) x with|some y=>some (some y)|none=>none)
 |.er i,x,.er j=>bif Nat.beq i j then some x else (match x with|false=>some false|true=>none)
 |_,x,t=>fQ t x
def coD:(s:T)->(x:s.den)->(t:T)->Option t.den
 |.p a b,x,.p c d=>(match coD a x.1 c,coD b x.2 d with|some y,some z=>some (y,z)|_,_=>none)
 |.pt a,x,.pt b=>coD a x b
 |s,x,t=>LJ s x t
def asD(s:T)(x:s.den)(t:T):Option t.den:=
 match fQ t x with
 |some y=>some y
 |none=>coD s x t
def V.as:V->(t:T)->Option t.den
 |.d s x,t=>asD s x t
 |.nl,.sl _=>some []
 |.u,.u=>some ()
 |.p a b,.p t s=>(match a.as t,b.as s with|some x,some y=>some (x,y)|_,_=>none)
 |.fn f v,.fn f' t|.ifc f v,.ifc f' t=>bif Nat.beq f f' then v.as t else none
 |.bx v,.pt t=>v.as t
 |.np,.any=>some ()
 |_,_=>none
def elT(s:T):Nat->T
 |0|Nat.succ 0=>s
 |Nat.succ (Nat.succ _)=>(match s with
  |.p a _=>a
  |s=>s)
def tN(t:T):Nat->(s:T)->s.den->Option (List t.den)
 |0,_,_=>none
 |Nat.succ 0,_,y=>(match fQ t y with
  |some z=>some [z]
  |none=>none)
 |Nat.succ (Nat.succ n),.p a b,y=>(match fQ t (a:=a) y.1,tN t (Nat.succ n) b y.2 with
  |some z,some l=>some (z::l)
  |_,_=>none)
 |_,_,_=>none
def FF(B:Tab)(τ:Ty)(σ:T)(v:V)(m:Int):List Prop×V:=
 match τ.arr with
 |some (e,n)=>(match v.as σ with
  |some y=>(match tN (elT σ n) n σ y with
   |some l=>bif aO [τ.ok,(B.τ e).ok,bT (elT σ n).size (B.τ e).size,orb (B.τ e).agg (bT (B.τ e).size 1)]then ([0<=m,m<(n:Int)],kI (B.τ e).agg (.d (elT σ n) (l.getD m.toNat (elT σ n).dflt)))else bad
   |none=>bad)
  |none=>bad)
 |none=>bad
def FR(B:Tab)(τ:Ty)(σ:T)(x i:V):List Prop×V:=
 match x,i with
 |.ag v,.d (.int _) m=>FF B τ σ v m
 |.d .str s,.d (.int _) n=>bif aO [τ.ok,τ.st]then ([0<=n,n<s.size],.d (.int .u8) ((s.data.toList.getD n.toNat 0).toNat))else bad
 |_,_=>bad
def v6(M:Mem)(k:Nat)(π:bz)(t:T):Option t.den:=match ez M k π with|some q=>asD q.o.strip q.x t|none=>none
def V.view(M:Mem):V->(t:T)->Option t.den
 |.d s x,t=>asD s x t
 |.nl,.sl _=>some []
 |.u,.u=>some ()
 |.p a b,.p t s=>(match a.view M t,b.view M s with|some x,some y=>some (x,y)|_,_=>none)
 |.fn f v,.fn f' t|.ifc f v,.ifc f' t=>bif Nat.beq f f' then v.view M t else none
 |.bx v,.pt t=>v.view M t
 |.ref k π,t|.ad k π,.pt t=>v6 M k π t
 |.np,.any=>some ()
 |_,_=>none
def d6(r k:Nat):Bool:=aO [neg (Nat.beq r k),Nat.ble (Nat.succ r) gid]
def qO(k r:Nat)(ρ:bz)(M:Mem):Option (Ob×List Ev×Mem):=
 bif neg (d6 r k)then none else
  (match go M r with
  |some ob=>(match get ρ ob.o ob.x with
   |some q=>(match ρ with
    |[]=>some (q,[.kl r],del r M)
    |_=>bif nZ ρ then some (⟨.fz q.o.strip,q.x⟩,[.fz r ob],del r M)else
     (match set ρ ob.o ob.x ⟨.fz q.o.hole,q.o.holeX q.x⟩with
     |some ob'=>some (q,[.tk r ob.o ob'.o],put r ob' M)
     |none=>none))
   |none=>none)
  |none=>none)
def Bs(k r:Nat)(ρ:bz)(M:Mem):Option (Ob×List Ev×Mem):=
 bif neg (d6 r k)then none else
  (match go M r,ρ with
  |some ⟨.pt o,x⟩,[.de]=>some (⟨.pt o,x⟩,[.kl r],del r M)
  |some ob,ρ=>(match get ρ ob.o ob.x with|some q=>some (⟨.fz (.pt q.o.strip),q.x⟩,[.fz r ob],del r M)|none=>none)
  |none,_=>none)
def conv(k:Nat):T->V->Mem->Option (Ob×List Ev×Mem)
 |.p t s,.p a b,M=>(match conv k t a M with
  |some (q,e,M')=>(match conv k s (b.evs e) M' with
   |some (q',e',M'')=>some (mkP q q',ap e e',M'')
   |none=>none)
  |none=>none)
 |_,.u,M=>some (⟨.fz .u,()⟩,[],M)
 |_,.d t x,M=>some (⟨.fz t,x⟩,[],M)
 |.sl t,.nl,M=>some (⟨.sl t.deep,[]⟩,[],M)
 |_,.np,M=>some (⟨.fz .any,()⟩,[],M)
 |_,.ref r ρ,M=>qO k r ρ M
 |_,.ad r ρ,M=>Bs k r ρ M
 |_,.fn f .u,M=>some (⟨.fz (.fn f .u),()⟩,[],M)
 |_,_,_=>none
def qV(k:Nat)(o:O)(v:V)(M:Mem):Option (o.strip.den×List Ev×Mem):=
 match o with
 |.fz t=>(match cr M v with|(e,M')=>(match (v.evs e).as t with|some x=>some (x,e,M')|none=>none))
 |o=>(match conv k o.strip v M with
  |some (q,e,M')=>(match jn q o with|some x=>some (x,e,M')|none=>none)
  |none=>none)
def r9(k:Nat)(o:O)(v:V)(M:Mem):Option (o.strip.den×List Ev×Mem):=
 match o with
 |.op e=>(match qV k e v M with|some (x,ev,M')=>some (some x,ev,M')|none=>none)
 |o=>qV k o v M
def vO(k:Nat)(v:V)(M:Mem):Option (Ob×List Ev×Mem):=
 match v with
 |.ref r [.ix i]=>bif neg (d6 r k)then none else (match go M r with
  |some ⟨.sl e,l⟩=>some (⟨e,l.getD i e.dflt⟩,[.kl r],del r M)
  |_=>none)
 |_=>none
def rx(b:bo)(k:Nat)(t:T)(v:V)(M:Mem):Option (Ob×List Ev×Mem):=
 match (bif b then vO k v M else none)with
 |some r=>some r
 |none=>conv k t v M
def jB:bz->Option (bz×Nat)
 |[.ix i]=>some ([],i)
 |.l::π=>(match jB π with|some (p,i)=>some (.l::p,i)|none=>none)
 |.r::π=>(match jB π with|some (p,i)=>some (.r::p,i)|none=>none)
 |.de::π=>(match jB π with|some (p,i)=>some (.de::p,i)|none=>none)
 |_=>none
def LG(π:bz)(ob:Ob):Option Ob:=
 match jB π with
 |some (p,i)=>(match get p ob.o ob.x with
  |some ⟨.sl e,l⟩=>set p ob.o ob.x ⟨.sl (.op e),om l i⟩
  |_=>none)
 |none=>none
def yA(π:bz)(ob:Ob):Option (Prop×Ob):=
 match jB π with
 |some (p,_)=>(match get p ob.o ob.x with
  |some ⟨.sl (.op e),l⟩=>(match set p ob.o ob.x ⟨.sl e,pv e.dflt l⟩with
   |some ob2=>some (vC l=true,ob2)
   |none=>none)
  |_=>none)
 |none=>none
def iT:T->V
 |.p a b=>.p (iT a) (iT b)
 |.sl _=>.nl
 |.u=>.u
 |.pt _|.fn _ _|.er _|.any=>.d .any ()
 |t=>.d t t.dflt
def iQ:bz->V->V->Option V
 |[],_,n=>some n
 |.l::π,.p a b,n=>(match iQ π a n with|some q=>some (.p q b)|none=>none)
 |.r::π,.p a b,n=>(match iQ π b n with|some q=>some (.p a q)|none=>none)
 |_,_,_=>none
def V.cells:V->V
 |.ag v|v=>v
@[reducible] def bq:List T->Type
 |[]=>Unit
 |t::r=>t.den×bq r
@[reducible] def bY:List (Bool×O)->Type
 |[]=>Unit
 |q::r=>q.2.strip.den×bY r
def inN(k:Nat):List Nat->Bool
 |[]=>false
 |j::r=>bif Nat.beq j k then true else inN k r
def nR:List Nat->Bool
 |[]=>true
 |k::r=>bif inN k r then false else nR r
def pkN{α:Type}:Nat->List α->Option (α×List α)
 |_,[]=>none
 |0,x::r=>some (x,r)
 |Nat.succ n,x::r=>(match pkN n r with|some (y,s)=>some (y,x::s)|none=>none)
def cn{α:Type}:Nat->α->List α->List α
 |0,u,l=>u::l
 |Nat.succ n,u,x::l=>x::cn n u l
 |Nat.succ _,u,[]=>[u]
def fh(n:Nat)(l:List α):List α:=match pkN n l with|some (_,r)=>r|none=>l
structure Mt where
 o:O
 g:Bool
 pre:o.strip.den->Int->List Prop
 res:o.strip.den->Int->o.strip.den×Int
structure Wt where
 o:O
 as:List T
 ag:List Bool
 pre:o.strip.den->bq as->List Prop
 new:o.strip.den->bq as->o.strip.den
 rt:List (Bool×O)
 res:o.strip.den->bq as->bY rt
 i:Nat
structure Sp where
 args:List T
 ga:List Bool
 sh:Bool
 b:bq args->Bool
 pre:bq args->List Prop
 rt1:List (Bool×O)
 res1:bq args->bY rt1
 rt0:List (Bool×O)
 res0:bq args->bY rt0
structure Wa where
 o:O
 way:bz
 as:List T
 pre:o.strip.den->bq as->List Prop
 new:o.strip.den->bq as->o.strip.den
structure Wc where
 o:O
 i:Nat
 as:List T
 ag:List Bool
 pre:o.strip.den->bq as->List Prop
 new:o.strip.den->bq as->o.strip.den
structure Wu where
 o:O
 as:List T
 ag:List Bool
 pre:o.strip.den->bq as->List Prop
 rt:List (Bool×O)
 res:o.strip.den->bq as->bY rt
 i:Nat
structure Orr where
 vc:List Prop
 av:V
 up:List (Nat×O×Ob)
structure Orc where
 ev:List V->Mem->Orr
def kG:List (Nat×O×Ob)->List Ev
 |[]=>[]
 |q::r=>.cut q.1 q.2.1 q.2.2.o::kG r
def oq:List (Nat×O×Ob)->Mem->Mem
 |[],M=>M
 |q::r,M=>put q.1 q.2.2 (oq r M)
structure Pv where
 args:List T
 ga:List Bool
 pre:bq args->List Prop
 rt:List (Bool×O)
 res:bq args->bY rt
 sh:Bool
inductive Mu where
 |v (l:List Pv)
 |o (O:Orc)
 |k (k:Wu)
 |c (c:Wc)
 |m (m:Mt)
 |w (w:Wt)
 |s (s:Sp)
 |a (a:Wa)
structure Ct where
 args:List T
 ga:List Bool
 pre:bq args->List Prop
 rt:List (Bool×O)
 res:bq args->bY rt
 sh:Bool
 mu:Option Mu
def LM(p:Pv):Ct:=⟨p.args,p.ga,p.pre,p.rt,p.res,p.sh,none⟩
def tyV(M:Mem):V->Option T
 |.d t _=>some t
 |.ref k []=>(match go M k with
  |some ob=>some ob.o.strip
  |none=>none)
 |_=>none
def tJ(M:Mem):List V->List T->Bool
 |v::vs,t'::ts=>(match tyV M v with
  |some t=>nob (t.beq t') (tJ M vs ts)
  |none=>tJ M vs ts)
 |_,_=>true
abbrev cf:Type:=List V
def qY(M:Mem)(vs:cf):List Pv->Option Pv
 |[]=>none
 |p::r=>bif tJ M vs p.args then some p else qY M vs r
theorem Pg{M:Mem}{vs:cf}{q:Pv}:∀{l:List Pv},qY M vs l=some q->q∈l
 |[],h=>by cases h
 |p::r,h=>by
  unfold qY at h
  cases hb:tJ M vs p.args with
  |true=>rw[hb]at h;cases h;exact gk
  |false=>rw[hb]at h;exact fp _ (Pg h)
def spCt(s:Sp):Bool->Ct
 |true=>⟨s.args,s.ga,λx=>(s.b x=true)::s.pre x,s.rt1,s.res1,s.sh,none⟩
 |false=>⟨s.args,s.ga,λx=>(s.b x=false)::s.pre x,s.rt0,s.res0,s.sh,none⟩
abbrev ii:Type:=List T
def kA(M:Mem):List V->(ts:ii)->Option (bq ts)
 |[],[]=>some ()
 |v::r,t::ts=>(match v.cells.view M t,kA M r ts with|some x,some y=>some (x,y)|_,_=>none)
 |_,_=>none
def cid(d j:Nat):Nat:=Nat.add (Nat.add 100000 (Nat.mul 100 d)) j
def dQ(d:Nat):Nat->(o:O)->o.strip.den->V×Mem×Nat
 |j,.fz t,x=>(fy t x,[],j)
 |j,.p a b,x=>(match dQ d j a x.1 with
  |(v,M,j')=>(match dQ d j' b x.2 with
   |(v',M',j'')=>(.p v v',ap M' M,j'')))
 |j,.sl e,x=>(.ref (cid d j) [],[(cid d j,⟨.sl e,x⟩)],Nat.succ j)
 |j,.pt o,x=>(.ad (cid d j) [.de],[(cid d j,⟨.pt o,x⟩)],Nat.succ j)
 |j,.mp k v,x=>(.ref (cid d j) [],[(cid d j,⟨.mp k v,x⟩)],Nat.succ j)
 |j,.op _,_=>(.any,[],j)
def newL(d:Nat):Nat->(rs:gH)->bY rs->V×Mem×Nat
 |j,[],_=>(.u,[],j)
 |j,q::r,x=>(match dQ d j q.2 x.1 with
  |(v,M,j')=>(match newL d j' r x.2 with
   |(v',M',j'')=>(.p (kI q.1 v) v',ap M' M,j'')))
def pE:List (Bool×O)->V->V
 |[_],.p a _=>a
 |_,v=>.tup v
def dx:List Nat->Mem->Mem
 |[],M=>M
 |k::r,M=>dx r (del k M)
def ba:Mem->List Nat
 |[]=>[]
 |(k,_)::r=>k::ba r
def klL:List Nat->List Ev
 |[]=>[]
 |k::r=>.kl k::klL r
def ew(M:Mem):List V->List Ev×Mem
 |[]=>([],M)
 |v::r=>(match cr M v with|(e,M')=>(match ew M' r with|(e',M'')=>(ap e e',M'')))
abbrev bM:Type:=List Ev
def gy(e:bM):List V->List V
 |[]=>[]
 |v::r=>v.evs e::gy e r
abbrev dI:Type:=Operand->V
def gz(f:dI):List Operand->List V
 |[]=>[]
 |x::r=>f x::gz f r
def asL:List V->(ts:ii)->Option (bq ts)
 |[],[]=>some ()
 |v::r,t::ts=>(match v.cells.as t,asL r ts with|some x,some y=>some (x,y)|_,_=>none)
 |_,_=>none
def gG:V->Bool
 |.ag _=>true
 |_=>false
def shp:List V->List Bool->Bool
 |[],[]=>true
 |v::r,g::gs=>bif gG v then (bif g then shp r gs else false)else (bif g then false else shp r gs)
 |_,_=>false
def L6:List Nat->Bool
 |[]=>true
 |_=>false
def vp:List Nat->Bool
 |[]|[_]=>true
 |k::k'::r=>bif Nat.ble gid k then (bif Nat.ble gid k' then vp (k'::r)else false)else (bif Nat.ble gid k' then false else vp (k'::r))
def KB(_:Mt)(_:cf)(M:Mem):Rs:=be M
def rL:bz->Bool
 |[.de]=>true
 |_=>false
def Lb:bz->Bool
 |[]=>true
 |_=>false
def pn:V->Option Nat
 |.ad k π=>bif rL π then some k else none
 |.ref k π=>bif Lb π then some k else none
 |_=>none
def lf:O->Bool
 |.pt _|.sl _=>true
 |_=>false
def deK:V->Option Nat
 |.ref k π=>bif rL π then some k else none
 |_=>none
def slO:O->Bool
 |.sl _=>true
 |_=>false
def pbW(W:Wt):Wt:=⟨.pt W.o,W.as,W.ag,W.pre,W.new,W.rt,W.res,W.i⟩
def qH(k:Nat)(W:Wt)(d:Nat)(r:cf)(M:Mem):Rs:=
 bif shp r W.ag then (match ew M r with
   |(e,M1)=>(match go M1 k,asL (gy e r) W.as with
    |some ob,some y=>(match jn ob W.o with
     |some x=>(match newL d 0 W.rt (W.res x y)with
      |(v,N,_)=>bif inN k (ba N)then be M else
       ⟨W.pre x y,pE W.rt v,ap e (.cut k W.o W.o::klL (ba N)),ap N (dx (ba N) (put k ⟨W.o,W.new x y⟩ M1))⟩)
     |none=>be M)
    |_,_=>be M))else be M
def th(W:Wt)(d:Nat)(vs:cf)(M:Mem):Rs:=
 match pkN W.i vs with
 |some (v0,r)=>(match pn v0 with
  |some k=>bif lf W.o then qH k W d r M else be M
  |none=>(match deK v0 with
   |some k=>bif slO W.o then qH k (pbW W) d r M else be M
   |none=>be M))
 |none=>be M
def afk:T->Bool
 |.any=>true
 |_=>false
def kY:List T->List Bool
 |[]=>[]
 |_::r=>false::kY r
def Ka(_:Wa)(_:cf)(M:Mem):Rs:=be M
def B6(_:Wc)(_:cf)(M:Mem):Rs:=be M
def EY:(o:O)->Option o.strip.den
 |.sl _=>some []
 |_=>none
def oS(W:Wu)(d:Nat)(x:W.o.strip.den)(y:bq W.as)(e:bM)(M1:Mem):Rs:=
 match newL d 0 W.rt (W.res x y)with
 |(v,N,_)=>⟨W.pre x y,pE W.rt v,ap e (klL (ba N)),ap N (dx (ba N) M1)⟩
def vi(W:Wu)(d:Nat)(vs:cf)(M:Mem):Rs:=
 match pkN W.i vs with
 |some (v0,r)=>bif nob (slO W.o) (shp r W.ag)then (match ew M r with
  |(e,M1)=>(match asL (gy e r) W.as with
   |some y=>(match pn v0 with
    |some k=>bif Nat.ble (Nat.succ k) gid then (match go M1 k with
     |some ob=>(match jn ob W.o with
      |some x=>oS W d x y (ap e [.kl k]) (del k M1)
      |none=>be M)
     |none=>be M)else be M
    |none=>(match v0,EY W.o with
     |.nl,some x=>oS W d x y e M1
     |_,_=>be M))
   |none=>be M))else be M
 |none=>be M
def tI(O:Orc)(vs:cf)(M:Mem):Rs:=
 match O.ev vs M with
 |⟨vc,av,q::r⟩=>⟨vc,av,kG (q::r),oq (q::r) M⟩
 |_=>be M
def pC(ct:Ct)(d:Nat)(vs:cf)(M:Mem):Rs:=
 bif shp vs ct.ga then
 (match ct.sh with
 |false=>(match kA M vs ct.args with
  |some x=>(match newL d 0 ct.rt (ct.res x)with
   |(v,N,_)=>⟨ct.pre x,pE ct.rt v,klL (ba N),ap N (dx (ba N) M)⟩)
  |none=>be M)
 |true=>(match ew M vs with
  |(e,M')=>(match asL (gy e vs) ct.args with
   |some x=>(match newL d 0 ct.rt (ct.res x)with
    |(v,N,_)=>⟨ct.pre x,pE ct.rt v,ap e (klL (ba N)),ap N (dx (ba N) M')⟩)
   |none=>be M)))else be M
def nP(ct:Ct)(d:Nat)(vs:cf)(M:Mem):Rs:=
 match ct.mu with
 |some (.o O)=>tI O vs M
 |some (.k W)=>vi W d vs M
 |some (.c W)=>B6 W vs M
 |some (.m m)=>KB m vs M
 |some (.w W)=>th W d vs M
 |some (.s _)=>be M
 |some (.a W)=>Ka W vs M
 |some (.v l)=>(match qY M vs l with
  |some p=>pC (LM p) d vs M
  |none=>be M)
 |none=>pC ct d vs M
abbrev dJ:Type:=Operand
abbrev pK:Type:=Option Operand
def vv(B:Tab)(τ:Ty)(ρ:dI)(x:dJ)(lo hi:pK)(M:Mem):Rs:=
 match ρ x with
 |.ref r π=>(match qO gid r π M with
  |some (q,e,M')=>(match BU B τ (.d q.o.strip q.x) (iy (λy=>(ρ y).evs e) lo) (iy (λy=>(ρ y).evs e) hi)with
   |(l,v)=>⟨l,v,e,M'⟩)
  |none=>be M)
 |v=>bR (BU B τ v (iy ρ lo) (iy ρ hi)) M
def nsT:T->Bool
 |.ns _=>true
 |_=>false
def ru(B:Tab)(τ:Ty)(d:eP)(ρ:dI)(x:dJ)(lo hi:pK)(M:Mem):Rs:=
 match ρ x,d,iy ρ lo,hi,τ.el with
 |.ref r [],some d,some (.d (.int _) a),none,some e=>(match go M r with
  |some ⟨.sl o,l⟩=>bif aO [d6 r d,τ.ok,(B.τ e).ok,bT o.strip.size (B.τ e).size]then
    ⟨[0<=a,a<=l.length],.ref d [],[.kl r,.kl d],(d,⟨.sl o,l.drop a.toNat⟩)::del d (del r M)⟩else be M
  |_=>be M)
 |_,_,_,_,_=>be M
def kx(B:Tab)(t:bF)(d:eP)(ρ:dI)(x:dJ)(lo hi:pK)(M:Mem):Rs:=bif nsT (B.σ t)then ru B (B.τ t) d ρ x lo hi M else vv B (B.τ t) ρ x lo hi M
inductive Src where
 |own (j:Nat) (e:O) (l:List e.strip.den)
 |dat (e:bM) (M:Mem) (t:T) (l:List t.den)
 |nil
def rh(M:Mem):V->Option Src
 |.nl=>some .nil
 |.d (.sl t) l=>some (.dat [] M t l)
 |.ref j π=>(match go M j,π with
  |some ⟨.sl e,l⟩,[]=>some (.own j e l)
  |some ob,π=>(match get π ob.o ob.x with
   |some ⟨.sl e,l⟩=>some (.dat [.fz j ob] (del j M) e.strip l)
   |some ⟨.fz (.sl t),l⟩=>some (.dat [.fz j ob] (del j M) t l)
   |_=>none)
  |none,_=>none)
 |_=>none
def bg(n m b:Nat):Prop:=(n+m)*b<=nb
def tp(b k:Nat)(e:O)(l:List e.strip.den)(j:Nat)(e':O)(m:List e'.strip.den)(ev:bM)(M M0:Mem):Rs:=
 match e'.beq e,jn ⟨.sl e',m⟩ (.sl e)with
 |true,some m=>⟨[bg l.length m.length b],.ref k [],ap ev [.kl j,.kl k],(k,⟨.sl e,l++m⟩)::del k (del j M)⟩
 |_,_=>(match fQ (.sl e.strip) (a:=.sl e'.strip) m with
  |some m1=>⟨[bg l.length m1.length b],.ref k [],ap ev [.fz j ⟨.sl e',m⟩,.kl k],(k,⟨.sl (.fz e.strip),l++m1⟩)::del k (del j M)⟩
  |none=>be M0)
def tD(b k:Nat)(e:O)(l:List e.strip.den)(t:T)(m:List t.den)(ev:bM)(M M0:Mem):Rs:=
 match fQ (.sl e.strip) (a:=.sl t) m with
 |some m=>⟨[bg l.length m.length b],.ref k [],ap ev [.kl k],(k,⟨.sl (.fz e.strip),l++m⟩)::del k M⟩
 |none=>be M0
def pb(B:Tab)(dst:eP)(t:bF)(s x:V)(M:Mem):Rs:=
 match (B.τ t).el,dst,rh M x with
 |some e,some d,some src=>
  bif aO [(B.τ t).ok,(B.τ e).ok,neg (Nat.beq (B.τ e).bytes 0),B.z e,bT (B.σ e).size (B.τ e).size]then
   (match s with
   |.nl=>(match src with
    |.nil=>⟨[],.nl,[],M⟩
    |.own j e' m=>bif aO [d6 j d,bT e'.strip.size (B.τ e).size]then⟨[bg 0 m.length (B.τ e).bytes],.ref d [],[.kl j,.kl d],(d,⟨.sl e',m⟩)::del d (del j M)⟩else be M
    |.dat ev M' t' m=>bif bT t'.size (B.τ e).size then⟨[bg 0 m.length (B.τ e).bytes],.ref d [],ap ev [.kl d],(d,⟨.sl (.fz t'),m⟩)::del d M'⟩else be M)
   |.ref k π=>(match go M k,π with
    |some ⟨.sl o,l⟩,[]=>bif aO [bT o.strip.size (B.τ e).size,Nat.ble (Nat.succ k) gid]then (match src with
     |.nil=>⟨[],.ref k [],[],M⟩
     |.own j e' m=>bif neg (d6 j k)then be M else tp (B.τ e).bytes k o l j e' m [.kl k] (del k M) M
     |.dat ev M' t' m=>(match go M' k with|some _=>tD (B.τ e).bytes k o l t' m (ap ev [.kl k]) (del k M') M|none=>be M))else be M
    |some ob,π=>(match get π ob.o ob.x,set π ob.o ob.x ⟨.fz .any,()⟩with
     |some ⟨.sl o,l⟩,some ob'=>bif aO [bT o.strip.size (B.τ e).size,neg (Nat.beq d k),Nat.ble (Nat.succ k) gid]then (match src with
      |.nil=>⟨[],.ref k π,[],M⟩
      |.own j e' m=>bif aO [d6 j k,d6 j d]then tp (B.τ e).bytes d o l j e' m [.cut k ob.o ob'.o] (put k ob' M) M else be M
      |.dat ev M' t' m=>(match go M' k with|some _=>tD (B.τ e).bytes d o l t' m (ap ev [.cut k ob.o ob'.o]) (put k ob' M') M|none=>be M))else be M
     |some ⟨.sl o,l⟩,none=>(match LG π ob with
      |some ob'=>bif aO [bT o.strip.size (B.τ e).size,neg (Nat.beq d k),Nat.ble (Nat.succ k) gid]then (match src with
       |.nil=>be M
       |.own j e' m=>bif aO [d6 j k,d6 j d]then tp (B.τ e).bytes d o l j e' m [.tk k ob.o ob'.o] (put k ob' M) M else be M
       |.dat ev M' t' m=>(match go M' k with|some _=>tD (B.τ e).bytes d o l t' m (ap ev [.tk k ob.o ob'.o]) (put k ob' M') M|none=>be M))else be M
      |none=>be M)
     |_,_=>be M)
    |none,_=>be M)
   |_=>be M)
  else be M
 |_,_,_=>be M
def pc(B:Tab)(kty:bF):T->Bool
 |.int q=>(match (B.τ kty).int with|some q'=>aO [(B.τ kty).ok,jp q' q]|none=>false)
 |.str=>aO [(B.τ kty).ok,(B.τ kty).st]
 |.p a b=>nob (nob (B.τ kty).ok (isN (B.τ kty).arr)) (nob (neg (isZ (T.p a b).intsN)) (bT (T.p a b).intsN (B.q kty)))
 |_=>false
def ku(B:Tab)(ety:bF):T->Bool
 |.int q=>aO [(B.τ ety).ok,B.z ety,(B.σ ety).beq (.int q)]
 |.bool=>aO [(B.τ ety).ok,B.z ety,(B.σ ety).beq .bool]
 |_=>false
def pp:V->T->Bool
 |.ag _,.p _ _=>true
 |.ag _,_|_,.p _ _=>false
 |_,_=>true
structure Mp where
 k:T
 v:T
 l:(T.mp k v).den
def LH(M:Mem):V->Option Mp
 |.d (.mp k v) l=>some ⟨k,v,l⟩
 |.ref r π=>(match ez M r π with
  |some ⟨.mp k v,l⟩|some ⟨.fz (.mp k v),l⟩=>some ⟨k,v,l⟩
  |_=>none)
 |_=>none
def EW(B:Tab)(t:bF)(M:Mem)(x i:V)(ok:bo):List Prop×V:=
 match (B.τ t).mp,LH M x with
 |some (kty,ety),some ⟨k,v,l⟩=>bif aO [(B.τ t).ok,pc B kty k,ku B ety v,pp i k]then
   (match i.cells.as k with
   |some y=>bB (bif ok then .tup (.p (.d v (vw k v l y)) (.p (.d .bool (BE k v l y)) .u))else .d v (vw k v l y))
   |none=>bad)else bad
 |_,_=>bad
def Et(B:Tab)(t:bF)(d:eP)(M:Mem):Rs:=
 match (B.τ t).mp,d with
 |some (kty,ety),some d=>bif aO [(B.τ t).ok]then⟨[],.ref d [],[.kl d],(d,⟨.mp (B.σ kty) (B.σ ety),[]⟩)::del d M⟩else be M
 |_,_=>be M
def E7(B:Tab)(t:bF)(m i x:V)(M:Mem):Rs:=
 match (B.τ t).mp,m with
 |some (kty,ety),.ref r π=>(match go M r with
  |some ob=>(match get π ob.o ob.x with
   |some ⟨.mp k v,l⟩=>bif aO [(B.τ t).ok,pc B kty k,ku B ety v,pp i k,neg (gG x)]then
     (match i.cells.as k,x.cells.as v with
     |some y,some z=>(match set π ob.o ob.x ⟨.mp k v,dq k v l y z⟩with
      |some ob'=>(match jn ob' ob.o with
       |some x'=>⟨[bg l.length 1 1],.any,[.cut r ob.o ob.o],put r ⟨ob.o,x'⟩ M⟩
       |none=>be M)
      |none=>be M)
     |_,_=>be M)else be M
   |_=>be M)
  |none=>be M)
 |_,_=>be M
def dO:T->List Value->Bool
 |.p a b,zs=>nob (dO a (cj a.size zs)) (dO b (fe a.size zs))
 |.u,[]=>true
 |.int k,[.int k' (.ofNat 0)]=>jp k k'
 |.bool,[.bool b]=>neg b
 |.str,[.string s]=>Nat.beq s.size 0
 |.sl _,[.slice none 0 0]|.ns _,[.slice none 0 0]=>true
 |.any,[v]=>v.oneCell'
 |_,_=>false
def y7(B:Tab)(t:bF)(o:eP)(M:Mem):Rs:=
 match o with
 |some k=>bif aO [(B.τ t).ok,B.z t]then
   ⟨[],.ad k [.de],[.kl k],(k,⟨.pt (B.σ t).deep,(B.σ t).deep.dflt⟩)::del k M⟩else be M
 |none=>be M
def F7(B:Tab)(t:bF)(o:eP)(x:V)(M:Mem):Rs:=
 match o with
 |some k=>(match conv k (B.σ t) (x.cells.ev (.kl k)) (del k M)with
  |some (q,e,M')=>⟨[],.ad k [.de],.kl k::e,(k,⟨.pt q.o,q.x⟩)::M'⟩
  |none=>bif neg (isN (x.cells.size M))then⟨[],.bx x.cells,[],M⟩else be M)
 |none=>be M
def lN(M:Mem)(place:Nat->Option (bz×Nat×Nat))(f:dI):List (Nat×Operand)->V->Option V
 |[],v=>some v
 |(i,x)::r,v=>(match place i with
  |some (π,off,n)=>(match dM M π v with
   |some (m,w)=>bif aO [bT m off,eK M w n,eK M (f x).cells n]then (match iQ π v (f x).cells with|some v'=>lN M place f r v'|none=>none)else none
   |none=>none)
  |none=>none)
def Gb(B:Tab)(τ:Ty)(i:Nat):Option (bz×Nat×Nat):=
 match τ.arr with
 |some (e,n)=>bif Nat.ble (Nat.succ i) n then some (nW n i,Nat.mul i (B.τ e).size,(B.τ e).size)else none
 |none=>(match dT τ.fld i with|some q=>some (nW (len τ.fld) i,q.1,q.2.2)|none=>none)
def yr(B:Tab)(τ:Ty):Bool:=
 match τ.arr with
 |some (e,_)=>(B.τ e).ok
 |none=>τ.sz
abbrev ou:Type:=List (Nat×Operand)
def oR(B:Tab)(t:bF)(parts:ou)(f:dI)(M:Mem):Rs:=
 bif aO [(B.τ t).ok,yr B (B.τ t),B.z t]then
   (match lN M (Gb B (B.τ t)) f parts (iT (B.σ t))with
   |some v=>⟨[],.ag v,[],M⟩
   |none=>be M)else be M
def jh(k:Nat)(o:O):List Ev->List V->Mem->Option (List o.strip.den×List Ev×Mem)
 |ev,[],M=>some ([],ev,M)
 |ev,v::r,M=>(match r9 k o (v.evs ev) M with
  |some (x,e,M')=>(match jh k o (ap ev e) r M' with
   |some (l,e',M'')=>some (x::l,e',M'')
   |none=>none)
  |none=>none)
def jA(M:Mem)(sz:Nat)(f:dI):List (Nat×Operand)->List V->Option (List V)
 |[],l=>some l
 |(i,x)::r,l=>bif nob (Nat.ble (Nat.succ i) (len l)) (eK M (f x).cells sz)then jA M sz f r (tQ l i (f x).cells)else none
def Sz:T->V
 |.ns (.sl e)=>.d (.ns (.sl e)) (some [])
 |_=>.nl
def mS(B:Tab)(t:bF)(n:Nat)(parts:ou)(f:dI)(o:eP)(M:Mem):Rs:=
 match o,(B.τ t).el with
 |some k,some e=>
  (match jA M (B.τ e).size f parts (iJ (iT (B.σ e)) n)with
  |some l=>bif aO [(B.τ t).ok,(B.τ e).ok,B.z e,Nat.ble (Nat.mul n (B.τ e).size) 16777216,Nat.ble n nb,bT (B.σ e).size (B.τ e).size]then
    (match gy [.kl k] l with
    |[]=>⟨[],Sz (B.σ t),[],M⟩
    |v::r=>(match conv k (B.σ e) v (del k M)with
     |some (q,_,_)=>(match jh k q.o [] (v::r) (del k M)with
      |some (x,ev,M')=>⟨[],.ref k [],.kl k::ev,(k,⟨.sl q.o,x⟩)::M'⟩
      |none=>(match jh k (.fz (B.σ e)) [] (v::r) (del k M)with
       |some (x,ev,M')=>⟨[],.ref k [],.kl k::ev,(k,⟨.sl (.fz (B.σ e)),x⟩)::M'⟩
       |none=>be M))
     |none=>be M))else be M
  |none=>be M)
 |_,_=>be M
def Bz(B:Tab)(t:bF)(l c:V)(o:eP)(M:Mem):Rs:=
 match o,(B.τ t).el,l,c with
 |some k,some e,.d (.int _) nl,.d (.int _) nc=>
  bif aO [(B.τ t).ok,(B.τ e).ok,B.z e,bT (B.σ e).size (B.τ e).size]then
    ⟨[0<=nl,nl<=nc,nc<=nb,nc*(B.τ e).bytes<=nb],.ref k [],[.kl k],(k,⟨.sl (B.σ e).deep,List.replicate nl.toNat (B.σ e).deep.dflt⟩)::del k M⟩else be M
 |_,_,_,_=>be M
def kT(B:Tab)(t:bF)(x y:V)(M:Mem):Rs:=
 match x with
 |.ad k π=>(match go M k,ez M k π with
  |some ob,some q=>bif aO [(B.τ t).ok,eK M y.cells (B.τ t).size,bT q.o.strip.size (B.τ t).size,neg (isZ (B.τ t).size)]then
    (match (bif nZ π then (match r9 k q.o y.cells M with
      |some (z,e,M')=>some (⟨q.o,z⟩,e,M')
      |none=>none)else rx B.tk k (B.σ t) y.cells M)with
     |some (z,e,M')=>(match go M' k,set π ob.o ob.x z with
      |some _,some ob'=>bif bT z.o.strip.size (B.τ t).size then (match yA π ob' with
      |some (c,ob2)=>⟨[c],.any,ap e [.cut k ob.o ob'.o,.cut k ob'.o ob2.o],put k ob2 M'⟩
      |none=>⟨[],.any,ap e [.cut k ob.o ob'.o],put k ob' M'⟩)else be M
      |_,_=>be M)
     |none=>be M)else be M
  |_,_=>be M)
 |_=>be M
def mJ(x y:V)(M:Mem)(r:Rs):Rs:=
 match x,y with
 |.ad k [.de],.ad j [.de]=>(match go M k,go r.M k with
  |some ⟨.pt (.fz .any),_⟩,some ⟨.pt (.pt o),z⟩=>bif nob (Nat.blt k gid) (isN (go r.M j))then⟨r.vc,.any,ap r.ev [.un k j],(j,⟨.pt o,z⟩)::del k r.M⟩else r
  |_,_=>r)
 |_,_=>r
def vx(f:fL)(v:V)(k:Nat):Nat->V
 |0=>.d .any ()
 |n+1=>.fn f (v.ev (.kn k (vx f v k n)))
def Lt(f:fL)(v:V)(k:Nat)(τ:Ty)(M:Mem):Option Rs:=
 match go M k with
 |some ⟨.pt (.fz .any),_⟩=>bif aO [τ.ok,bT τ.size 1,Nat.ble (Nat.succ k) gid]then some ⟨[],.any,[.cut k (.pt (.fz .any)) (.pt (.fz .any)),.kn k (vx f (v.ev (.cut k (.pt (.fz .any)) (.pt (.fz .any)))) k 10)],del k (put k ⟨.pt (.fz .any),()⟩ M)⟩else none
 |_=>none
def qR:V->Bool
 |.ad _ _|.ref _ _=>true
 |.p a b=>orb (qR a) (qR b)
 |.bx v|.fn _ v=>qR v
 |_=>false
def v9(τ:Ty)(x y:V)(M:Mem):Option Rs:=
 match x,y with
 |.ad k [.de],.fn f (.p a b)=>bif qR (.p a b)then Lt f (.p a b) k τ M else none
 |_,_=>none
def pe(B:Tab)(t:bF)(x y:V)(M:Mem):Rs:=
 match v9 (B.τ t) x y M with
 |some r=>r
 |none=>mJ x y M (kT B t x y M)
def rN:V->Option (FuncId×V)
 |.fn f v=>some (f,v)
 |.d (.fn f t) x=>some (f,fy t x)
 |_=>none
def kp(M:Mem):V->Option (List V)
 |.u=>some []
 |.p a b=>(match kp M b with|some r=>bif eK M a 1 then some (a::r)else none|none=>none)
 |_=>none
def yG(M:Mem):List V->Option V
 |[]=>some .u
 |v::r=>(match yG M r with|some c=>bif nob (neg (gG v)) (eK M v 1)then some (.p v c)else none|none=>none)
abbrev l7:Type:=List Operand
def Fm(M:Mem)(fn:Fn)(first:l7)(vs:cf):List Prop×V:=
 match fn,first,yG M vs with
 |.func f,[],some c=>bB (.fn f c)
 |_,_,_=>bad
def FH(B:Tab)(t:bF)(M:Mem)(x:V):List Prop×V:=
 match x with
 |.ag (.d .str _)=>bif aO [(B.τ t).ok,(B.τ t).agg]then bB (.d (.er t) true)else bad
 |.ag (.d T y)=>bif aO [(B.τ t).ok,(B.τ t).agg]then bB (.d (.ib t T) y)else bad
 |x=>bif aO [(B.τ t).ok,neg (isN (B.τ t).el),neg (gG x),eK M x 1]then bB (.ifc t x)else bad
def inI:V->Option (TypeId×V)
 |.ifc t v=>some (t,v)
 |.d (.ifc t T) y=>some (t,fy T y)
 |.d (.ib t T) y=>some (t,.ag (fy T y))
 |_=>none
def FN(B:Tab)(i:bF)(ok:bo)(x:V):List Prop×V:=
 match inI x with
 |some (t,_)=>bif BY B.m t i then bB (bif ok then .tup (.p x (.p (.d .bool true) .u))else x)else bad
 |none=>bad
abbrev du:Type:=FuncId->Option Ct
abbrev bj:Type:=Oper
def bI(B:Tab)(Φ:du)(o:bj)(ρ:dI)(M:Mem):Rs:=
 match o.op with
 |.move x|.assign x=>bR ([],ρ x) M
 |.nilCheck x=>bR (Fo (ρ x)) M
 |.load t x=>kR (B.τ t) M o.dst (ρ x)
 |.fieldAddr t x i=>bR (oZ (B.τ t) M (ρ x) i) M
 |.field t x i=>bR (pg B (B.τ t) M (ρ x) i) M
 |.indexAddr t x i=>bR (pd B (B.τ t) M (ρ x) (ρ i)) M
 |.index t x i=>bR (FR B (B.τ t) (B.σ t) (ρ x) (ρ i)) M
 |.binOp op t x y _=>bR (Fk B t op (KG y) (S8 y) (ρ x) (ρ y)) M
 |.unOp op _ x=>bR (FT op (ρ x)) M
 |.convert s d x=>bR (oT B s d M (ρ x)) M
 |.extract x i=>bR (yo (ρ x) i) M
 |.slice t x lo hi none=>kx B t o.dst ρ x lo hi M
 |.alloc e=>y7 B e o.dst M
 |.box e x=>F7 B e o.dst (ρ x) M
 |.build t parts=>oR B t (toL parts) ρ M
 |.buildSlice t n parts=>mS B t n (toL parts) ρ o.dst M
 |.makeSlice t l c=>Bz B t (ρ l) (ρ c) o.dst M
 |.store t x y=>pe B t (ρ x) (ρ y) M
 |.lookup t x i ok=>bR (EW B t M (ρ x) (ρ i) ok) M
 |.makeMap t none=>Et B t o.dst M
 |.makeInterface t x=>bR (FH B t M (ρ x)) M
 |.typeAssert x _ i ok=>bR (FN B i ok (ρ x)) M
 |.mapUpdate t m i x=>E7 B t (ρ m) (ρ i) (ρ x) M
 |.makeFunc fn fs cs=>bR (Fm M fn (toL fs) (gz ρ (toL cs))) M
 |.call c=>(match c.callee with
  |.builtin .len=>(match toL c.args,toL c.argTypes with
   |[x],[t]=>bR (vr (B.τ t) M (ρ x)) M
   |_,_=>be M)
  |.builtin .max=>(match toL c.args with
   |[x,y]=>bR (BQ true (ρ x) (ρ y)) M
   |_=>be M)
  |.builtin .min=>(match toL c.args with
   |[x,y]=>bR (BQ false (ρ x) (ρ y)) M
   |_=>be M)
  |.builtin .append=>(match toL c.args,toL c.argTypes with
   |[x,y],[t,t']=>bif Nat.beq t t' then pb B o.dst t (ρ x) (ρ y) M else be M
   |_,_=>be M)
  |.value cx=>(match rN (ρ cx),o.dst with
   |some (f,v),some d=>(match Φ f,kp M v with
    |some ct,some cs=>nP ct d (ap (gz ρ (toL c.args)) cs) M
    |_,_=>be M)
   |_,_=>be M)
  |.invoke r name=>(match inI (ρ r),o.dst with
   |some (t,v),some d=>(match BC B.m t name with
    |some f=>(match Φ f with
     |some ct=>nP ct d (v::gz ρ (toL c.args)) M
     |none=>be M)
    |none=>be M)
   |_,_=>be M)
  |_=>be M)
 |_=>be M
def conj:List Prop->Prop->Prop
 |[],K=>K
 |p::r,K=>p/\conj r K
def imp(g:Prop):List Prop->Prop->Prop
 |[],K=>K
 |p::r,K=>(g->conj r p)/\K
def cnd(b:bo)(x y:Prop):Prop:=(b=true->x)/\(b=false->y)
def wr(d:eP)(x:V)(env:Env):Env:=
 match d with
 |some d=>(d,x)::env
 |none=>env
def gc:V->Bool->Prop
 |.d .bool b,w=>b=w
 |.gd _ _ P v,w=>P/\gc v w
 |_,_=>False
def gN:V->Bool
 |.d .bool _=>true
 |.gd _ _ _ v=>gN v
 |_=>false
def yF(a b:bo):Bool:=bif a then b else neg b
def fH(f:dI):List Operand->List Prop
 |[]=>[]
 |x::r=>(match f x with
  |.gd _ _ P _=>P::fH f r
  |_=>fH f r)
def fG(o:bj):Bool:=
 match o.op with
 |.store _ _ _|.mapUpdate _ _ _ _=>false
 |.call c=>(match c.callee with
  |.builtin .append=>false
  |_=>true)
 |_=>true
def fresh(M:Mem):List Ev->Bool
 |[]=>true
 |.kl k::r=>nob (isN (go M k)) (fresh M r)
 |_=>false
def avF(M0 M:Mem):V->V
 |.ref k π=>(match go M0 k with|some _=>.ref k π|none=>(match ez M k π with|some q=>fy q.o.strip q.x|none=>.any))
 |.ad k π=>(match go M0 k with|some _=>.ad k π|none=>(match ez M k π with|some q=>.d (.pt q.o.strip) q.x|none=>.any))
 |.p a b=>.p (avF M0 M a) (avF M0 M b)
 |.ag v=>.ag (avF M0 M v)
 |.tup v=>.tup (avF M0 M v)
 |.fn f v=>.fn f (avF M0 M v)
 |.ifc t v=>.ifc t (avF M0 M v)
 |.bx v=>.bx (avF M0 M v)
 |.gd _ _ _ _=>.any
 |v=>v
abbrev bL:Type:=List Oper
def iG(ops:bL)(j:Nat):Option Nat:=
 match dT ops j with
 |some o=>o.dst
 |none=>none
def po(cb side:bo):V->List Prop
 |.gd _ _ P _=>[cb=side->P]
 |_=>[]
def Ft(cb:bo)(a b:dJ)(av bv:bo):Bool:=
 match a,b with
 |.const (.bool true),_=>cb||bv
 |_,.const (.bool false)=>cb&&av
 |_,_=>(bif cb then av else bv)
def qU(env:Env)(c a b:dJ):List Prop×V:=
 bif aO [(rd env c).strip.isB,(rd env a).strip.isB,(rd env b).strip.isB]then
  (ap (fH (rd env) [c]) (ap (po (rd env c).strip.boolV true (rd env a)) (po (rd env c).strip.boolV false (rd env b))),
   .d .bool (Ft (rd env c).strip.boolV a b (rd env a).strip.boolV (rd env b).strip.boolV))
 else bad
def bf:Op->List Operand
 |.move x|.assign x|.nilCheck x|.load _ x|.fieldAddr _ x _|.field _ x _=>[x]
 |.indexAddr _ x i|.index _ x i=>[x,i]
 |.binOp _ _ x y _=>[x,y]
 |.unOp _ _ x|.convert _ _ x|.extract x _=>[x]
 |.slice _ x lo hi _=>x::ap (optL lo) (optL hi)
 |.box _ x=>[x]
 |.build _ ps|.buildSlice _ _ ps=>snds (toL ps)
 |.makeSlice _ l c=>[l,c]
 |.store _ x y=>[x,y]
 |.lookup _ m i _=>[m,i]
 |.mapUpdate _ m i x=>[m,i,x]
 |.makeFunc _ fs cs=>ap (toL fs) (toL cs)
 |.call c=>ap (calO c.callee) (toL c.args)
 |.makeInterface _ x|.typeAssert x _ _ _=>[x]
 |_=>[]
where
 calO:Callee->List Operand
  |.value x|.invoke x _=>[x]
  |_=>[]
 optL:Option Operand->List Operand
  |none=>[]
  |some x=>[x]
 snds:List (Nat×Operand)->List Operand
  |[]=>[]
  |(_,x)::r=>x::snds r
def evR(B:Tab)(Φ:du)(o:bj)(env:Env)(M:Mem):Rs:=
 match o.op with
 |.pick c a b=>bR (qU env c a b) M
 |_=>(match bI B Φ o (λx=>(rd env x).strip) M with
  |⟨vc,v,e,M'⟩=>⟨ap (fH (rd env) (bf o.op)) vc,v,e,M'⟩)
def tw(B:Tab)(Φ:du)(all:bL):List Oper->Env->Mem->(Env->Mem->Prop)->Prop
 |[],env,M,K=>K env M
 |o::rest,env,M,K=>
  (match o.guard with
  |none=>(match evR B Φ o env M with
   |⟨vc,v,e,M'⟩=>conj vc (tw B Φ all rest (wr o.dst v (eh env e)) M' K))
  |some (j,want)=>(match iG all j,evR B Φ o env M with
   |some dj,⟨vc,v,e,M'⟩=>bif aO [gN (gt env dj),fG o,fresh M e]then
     imp (gc (gt env dj) want) vc (tw B Φ all rest (wr o.dst (.gd j want (gc (gt env dj) want) (avF M M' v)) env) M K)else False
   |none,_=>False))
def dw(B:Tab)(Φ:du)(all:bL):List Oper->Env->Mem->(Env->Prop)->Prop
 |[],env,_,K=>K env
 |o::rest,env,M,K=>
  (match o.guard with
  |none=>(match evR B Φ o env M with
   |⟨vc,v,e,M'⟩=>bif aO [fG o,fresh M e]then conj vc (dw B Φ all rest (wr o.dst (avF M M' v) env) M K)else False)
  |some (j,want)=>(match iG all j,evR B Φ o env M with
   |some dj,⟨vc,v,e,M'⟩=>bif aO [gN (gt env dj),fG o,fresh M e]then
     imp (gc (gt env dj) want) vc (dw B Φ all rest (wr o.dst (.gd j want (gc (gt env dj) want) (avF M M' v)) env) M K)else False
   |none,_=>False))
def vM:List (Nat×Bool)->Nat->Bool->Bool
 |[],_,_=>false
 |(i,w)::r,j,w'=>bif nob (Nat.beq i j) (yF w w')then true else vM r j w'
abbrev vT:Type:=List (Nat×Bool)
def unG(fs:vT):V->V
 |.gd j w P v=>bif vM fs j w then v else .gd j w P v
 |v=>v
def gf:V->Bool
 |.gd _ _ _ _=>true
 |_=>false
def gv(all:bL)(env:Env):Nat->Nat->Bool->List (Nat×Bool)
 |0,_,_=>[]
 |n+1,j,w=>(j,w)::(match iG all j with
  |some d=>(match gt env d with
   |.gd i w' _ _=>gv all env n i w'
   |_=>[])
  |none=>[])
def vz(t:Nat):Option Nat->Bool
 |some d=>Nat.beq d t
 |none=>false
def Fx(all:bL)(c:dJ)(side:bo)(v:V):V:=
 match c,v with
 |.tmp t,.gd j w P x=>bif nob (vz t (iG all j)) (yF w side)then x else .gd j w P x
 |_,v=>v
def BK(all:bL)(fs:vT)(env:Env)(c a b:dJ):List Prop×V:=
 bif aO [(rd env c).strip.isB,(rd env a).strip.isB,(rd env b).strip.isB]then
  (ap (fH (λx=>unG fs (rd env x)) [c]) (ap (po (rd env c).strip.boolV true (Fx all c true (unG fs (rd env a)))) (po (rd env c).strip.boolV false (Fx all c false (unG fs (rd env b))))),
   .d .bool (Ft (rd env c).strip.boolV a b (rd env a).strip.boolV (rd env b).strip.boolV))
 else bad
def evG(B:Tab)(Φ:du)(all:bL)(fs:vT)(o:bj)(env:Env)(M:Mem):Rs:=
 match o.op with
 |.pick c a b=>bR (BK all fs env c a b) M
 |_=>(match bI B Φ o (λx=>(rd env x).strip) M with
  |⟨vc,v,e,M'⟩=>⟨ap (fH (λx=>unG fs (rd env x)) (bf o.op)) vc,v,e,M'⟩)
def wIn(d:Nat):List Oper->Bool
 |[]=>false
 |o::r=>bif vz d o.dst then true else wIn d r
def twG(B:Tab)(Φ:du)(all:bL):List Oper->Env->Mem->(Env->Mem->Prop)->Prop
 |[],env,M,K=>K env M
 |o::rest,env,M,K=>
  (match o.guard with
  |none=>(match evG B Φ all [] o env M with
   |⟨vc,v,e,M'⟩=>bif gf v then False else conj vc (twG B Φ all rest (wr o.dst v (eh env e)) M' K))
  |some (j,want)=>(match iG all j,evG B Φ all (gv all env 8 j want) o env M with
   |some dj,⟨vc,v,e,M'⟩=>bif aO [gN (gt env dj),fG o,fresh M e,neg (wIn dj (o::rest))]then
     imp (gc (gt env dj) want) vc (twG B Φ all rest (wr o.dst (.gd j want (gc (gt env dj) want) (avF M M' v)) env) M K)else False
   |none,_=>False))
def dwG(B:Tab)(Φ:du)(all tl:bL):List Oper->Env->Mem->(Env->Prop)->Prop
 |[],env,_,K=>K env
 |o::rest,env,M,K=>
  (match o.guard with
  |none=>(match evG B Φ all [] o env M with
   |⟨vc,v,e,M'⟩=>bif aO [fG o,fresh M e]then conj vc (dwG B Φ all tl rest (wr o.dst (avF M M' v) env) M K)else False)
  |some (j,want)=>(match iG all j,evG B Φ all (gv all env 8 j want) o env M with
   |some dj,⟨vc,v,e,M'⟩=>bif aO [gN (gt env dj),fG o,fresh M e,neg (wIn dj (o::rest)),neg (wIn dj tl)]then
     imp (gc (gt env dj) want) vc (dwG B Φ all tl rest (wr o.dst (.gd j want (gc (gt env dj) want) (avF M M' v)) env) M K)else False
   |none,_=>False))
def nogd:Env->Bool
 |[]=>true
 |(_,v)::r=>bif gf v then false else nogd r
def iH:Op->Bool
 |.move _|.assign _|.nilCheck _|.load _ _|.fieldAddr _ _ _|.field _ _ _|.indexAddr _ _ _|.index _ _ _|.binOp _ _ _ _ _|.unOp _ _ _|.convert _ _ _=>true
 |_=>false
def bu:V->Bool
 |.d _ _|.nl|.np|.u=>true
 |.p a b=>nob (bu a) (bu b)
 |.ag v|.fn _ v|.bx v=>bu v
 |_=>false
def nO(env:Env):List Operand->Bool
 |[]=>true
 |x::r=>nob (bu (rd env x)) (nO env r)
def qX(B:Tab)(e:bF):Ob:=⟨.pt (B.σ e).deep,(B.σ e).deep.dflt⟩
def FG(d:Nat):V->Bool
 |.ad k [.de]=>Nat.beq k d
 |_=>false
def Gi(d:Nat):Rs->Option Ob
 |⟨[],_,_,[(k,ob)]⟩=>bif Nat.beq k d then some ob else none
 |_=>none
def TQ:Rs->Option (List Prop×V)
 |⟨vc,v,[],[]⟩=>bif bu v then some (vc,v)else none
 |_=>none
def bxP(B:Tab)(Φ:du)(o:bj)(env:Env)(k:List Prop->V->Prop):Prop:=
 bif nob (iH o.op) (nO env (bf o.op))then (match TQ (evR B Φ o env [])with
  |some (vc,v)=>k vc v
  |none=>False)else False
def bxA(B:Tab)(e:bF)(d:Nat)(X:Mem)(k:Prop):Prop:=bif aO [(B.τ e).ok,B.z e,isN (go X d)]then k else False
def bxS(B:Tab)(t:bF)(d:Nat)(y:dJ)(env:Env)(X:Mem)(k:Ob->Prop):Prop:=
 match go X d with
 |some ob=>bif nob (bu (rd env y)) (FG d (gt env d))then (match Gi d (kT B t (.ad d [.de]) (rd env y) [(d,ob)])with
  |some ob'=>k ob'
  |none=>False)else False
 |none=>False
def bx(B:Tab)(Φ:du):List Oper->Env->Mem->(Env->Mem->Prop)->Prop
 |[],env,X,K=>K env X
 |o::r,env,X,K=>
  (match o.guard,o.op,o.dst with
  |none,.alloc e,some d=>bxA B e d X (bx B Φ r ((d,.ad d [.de])::env) ((d,qX B e)::X) K)
  |none,.store t (.tmp d) y,none=>bxS B t d y env X (λob'=>bx B Φ r env (put d ob' X) K)
  |none,_,some d=>bxP B Φ o env (λvc v=>conj vc (bx B Φ r ((d,v)::env) X K))
  |_,_,_=>False)
def mb:Op->Bool
 |.move _|.assign _|.extract _ _=>true
 |_=>false
def newK:Op->Bool
 |.alloc _|.build _ _|.makeSlice _ _ _=>true
 |.buildSlice _ n p=>nob (Nat.beq n 0) (Nat.beq (len (toL p)) 0)
 |.call c=>(match c.callee with
  |.value _|.builtin .len=>true
  |_=>false)
 |_=>false
def mY(M:Mem):V->Bool
 |.p a b=>nob (mY M a) (mY M b)
 |.ag v|.fn _ v|.bx v=>mY M v
 |.ref k _|.ad k _=>neg (isN (go M k))
 |.gd _ _ _ _|.ifc _ _|.tup _=>false
 |_=>true
def xH(M:Mem)(env:Env):List Operand->Bool
 |[]=>true
 |x::r=>nob (mY M (rd env x)) (xH M env r)
def sldK(o:Op)(env:Env):Bool:=
 match o with
 |.slice _ _ _ _ none=>nO env (bf o)
 |_=>false
def litK(o:Op)(env:Env):Bool:=
 match o with
 |.buildSlice _ _ _=>nO env (bf o)
 |.call c=>(match c.callee with
  |.builtin .append=>nO env (bf o)
  |_=>false)
 |_=>false
def p8(M:Mem)(o:Op)(env:Env):Bool:=orb (mb o) (orb (orb (sldK o env) (litK o env)) (nob (orb (iH o) (newK o)) (xH M env (bf o))))
def klB:List Ev->Mem->Bool
 |[],[]=>true
 |.kl k::r,(j,_)::N=>nob (Nat.beq k j) (klB r N)
 |_,_=>false
def r8:List Nat->Mem->Bool
 |[],_=>true
 |k::r,M=>nob (isN (go M k)) (r8 r M)
def lO:V->Bool
 |.p a b=>nob (lO a) (lO b)
 |.ag v|.tup v|.fn _ v|.ifc _ v|.bx v=>lO v
 |.gd _ _ _ _=>false
 |_=>true
def lj:Env->Bool
 |[]=>true
 |(_,v)::r=>nob (lO v) (lj r)
def kE:Op->Bool
 |.build _ _|.slice _ _ _ _ none=>true
 |.call c=>(match c.callee with
  |.builtin .len=>true
  |_=>false)
 |_=>false
def gQ(o:Op):Bool:=nob (orb (iH o) (kE o)) (neg (mb o))
def ksV(ks:aZ):V->Bool
 |.d _ _|.nl|.np|.u=>true
 |.p a b=>nob (ksV ks a) (ksV ks b)
 |.ag v|.fn _ v|.bx v=>ksV ks v
 |.ref k _|.ad k _=>inN k ks
 |_=>false
def jj(ks:aZ)(env:Env):List Operand->Bool
 |[]=>true
 |x::r=>nob (ksV ks (rd env x)) (jj ks env r)
def xL(env:Env):List Oper->List Nat
 |[]=>[]
 |o::r=>(match o.op with
  |.load _ (.tmp t)=>(match gt env t with
   |.bx (.ad k _)=>k::xL env r
   |_=>xL env r)
  |_=>xL env r)
def FP(τ:Ty):Bool:=aO [τ.ok,bT τ.size 1,neg τ.agg]
def bxK(B:Tab)(as:aZ)(o:Op)(env:Env):Bool:=
 match o with
 |.load t (.tmp t0)=>(match gt env t0 with
  |.bx (.ad k π)=>aO [rL π,inN k as,FP (B.τ t)]
  |_=>false)
 |_=>false
def xv(as:aZ):Ev->Bool
 |.kl k|.fz k _=>neg (inN k as)
 |.cut k o o'=>orb (neg (inN k as)) (kZ (eN [.de] o) (eN [.de] o'))
 |.mv j _|.un j _|.kn j _=>neg (inN j as)
 |.tk k o o'=>orb (neg (inN k as)) (kZ (eN [.de] o) (eN [.de] o'))
def vt(as:aZ):List Ev->Bool
 |[]=>true
 |e::r=>nob (xv as e) (vt as r)
def xJ(ms:aZ)(o:bj):Nat:=o.after.toList.foldl (λm e=>if Region.binds .any e then m |||(1 <<< e.on) |||(ms.getD e.on 0)else m) 0
def cL:List Nat->List Oper->List Nat
 |ms,[]=>ms
 |ms,o::r=>cL (ms++[xJ ms o]) r
def gx(n:Nat)(ms:aZ)(m i:Nat):Bool:=(List.range n).any λj=>!(Nat.blt j m)&&!((ms.getD j 0).testBit i)
def FB(l:bL)(m:Nat):List Bool:=(List.range m).map λi=>gx (len l) (cL [] l) m i
def tH:List Bool->Bool
 |[]=>false
 |b::_=>b
def qW:List Bool->List Bool
 |[]=>[]
 |_::r=>r
abbrev gj:Type:=List Bool
def hx(D:gj)(ks as:aZ)(B:Tab)(Φ:du)(M0:Mem):List Oper->Env->Mem->(Env->Mem->Prop)->Prop
 |[],env,X,K=>K env X
 |o::r,env,X,K=>
  (match o.guard,o.dst with
  |none,some d=>bif p8 (ap X M0) o.op env then (match evR B Φ o env (ap X M0)with
   |⟨vc,v,e,N⟩=>bif aO [klB e (cj (len e) N),r8 (ba (cj (len e) N)) M0,r8 (ba (cj (len e) N)) X,lO v,orb (neg (tH D)) (orb (neg (gQ o.op)) (orb (bxK B as o.op env) (nob (jj ks env (bf o.op)) (ksV ks v))))]then conj vc (hx (qW D) ks as B Φ M0 r ((d,v)::env) (ap (cj (len e) N) X) K)else False)else False
  |_,_=>False)
def afg(o:bj):Bool:=
 match o.op with
 |.call c=>(match c.callee with
  |.value _=>true
  |_=>false)
 |_=>false
def B7(o:bj):Bool:=
 match o.op with
 |.call c=>(match c.callee with
  |.value _|.builtin .append=>true
  |_=>false)
 |.buildSlice _ _ _|.binOp _ _ _ _ _|.unOp _ _ _|.convert _ _ _=>true
 |_=>false
def cZ(ks:aZ):Ev->Bool
 |.kl k|.fz k _|.cut k _ _=>neg (inN k ks)
 |.mv j k|.un j k=>nob (neg (inN j ks)) (neg (inN k ks))
 |.kn j _=>neg (inN j ks)
 |.tk k _ _=>neg (inN k ks)
def bD(ks:aZ):List Ev->Bool
 |[]=>true
 |e::r=>nob (cZ ks e) (bD ks r)
def lV(l:bL)(m:Nat):List Bool:=(List.range (Nat.sub (len l) m)).map λj=>(List.range m).any λi=>!(((cL [] l).getD (Nat.add m j) 0).testBit i)
def yd:List Bool->List Oper->List Oper
 |b::bs,o::r=>bif nob b (gQ o.op)then o::yd bs r else yd bs r
 |_,_=>[]
def lZ(l:bL)(m:Nat):List (List Oper):=(List.range (Nat.sub (len l) m)).map λj=>yd ((List.range m).map λi=>!(((cL [] l).getD (Nat.add m j) 0).testBit i)) (cj m l)
def hdP:List (List Oper)->List Oper
 |[]=>[]
 |a::_=>a
def tlP:List (List Oper)->List (List Oper)
 |[]=>[]
 |_::r=>r
def By:bz->bz->Bool
 |[],[]=>true
 |.l::a,.l::b|.r::a,.r::b|.de::a,.de::b=>By a b
 |.ix i::a,.ix j::b=>nob (Nat.beq i j) (By a b)
 |_,_=>false
def LC:V->V->Bool
 |.ref k π,.ref j ρ|.ad k π,.ad j ρ=>nob (Nat.beq k j) (By π ρ)
 |_,_=>false
def stB(B:Tab)(Φ:du)(ks:aZ):List Oper->Env->Mem->Bool
 |[],_,_=>true
 |o::r,env,M=>(match o.dst,evR B Φ o env M with
  |some d,⟨[],v,[],_⟩=>nob (nob (p8 M o.op env) (nob (jj ks env (bf o.op)) (ksV ks v))) (nob (LC v (gt env d)) (stB B Φ ks r env M))
  |_,_=>false)
def Ca(o:bj):Bool:=
 match o.op with
 |.store _ _ _=>true
 |_=>false
def F6:List Oper->Bool
 |[]=>true
 |o::r=>nob (neg (gQ o.op)) (F6 r)
def lw(ks as:aZ)(B:Tab)(Φ:du):List (List Oper)->List Bool->List Oper->Env->Mem->Bool
 |_,_,[],_,_=>true
 |ls,fs,o::r,env,M=>(match evR B Φ o env M with
  |⟨_,v,e,M'⟩=>nob (nob (nob (vt as e) (orb (neg (tH fs)) (orb (L6 ks) (orb (neg (B7 o)) (orb (bD ks e) (stB B Φ ks (hdP ls) (wr o.dst v (eh env e)) M')))))) (orb (neg (Ca o)) (orb (L6 ks) (orb (F6 (hdP ls)) (orb (bD ks e) (stB B Φ ks (hdP ls) (wr o.dst v (eh env e)) M')))))) (lw ks as B Φ (tlP ls) (qW fs) r (wr o.dst v (eh env e)) M'))
def lL:List Oper->List Nat
 |[]=>[]
 |o::r=>(match o.op,o.dst with
  |.alloc _,some d=>d::lL r
  |_,_=>lL r)
def tgt(o:bj):Option Nat:=
 match o.op with
 |.store _ (.tmp d) _=>some d
 |_=>none
def nk:List Oper->List Nat
 |[]=>[]
 |o::r=>(match tgt o with
  |some d=>d::nk r
  |none=>nk r)
def JK(env:Env):List Operand->List Nat
 |[]=>[]
 |x::r=>(match rd env x with
  |.ad k _|.ref k _=>k::JK env r
  |_=>JK env r)
def tu(env:Env):List Oper->List Nat
 |[]=>[]
 |o::r=>ap (JK env (bf o.op)) (tu env r)
def klE:List Nat->Env->Env
 |[],env=>env
 |k::r,env=>klE r (evE (.kl k) env)
def klM:List Nat->Mem->Mem
 |[],M=>M
 |k::r,M=>klM r (del k M)
def clr:Env->Env
 |[]=>[]
 |(t,v)::r=>(match v with|.gd _ _ _ _=>(t,.any)::clr r|v=>(t,v)::clr r)
structure Spl where
 b:Bool
 f:FuncId
 s:Sp
def twS(_:Tab)(_:du)(_ _:bL)(_:Env)(_:Mem)(_:Env->Mem->Prop):Prop:=False
def dumV:V->V
 |.d t _=>.d t t.dflt
 |_=>.any
def ifP(p x y:Prop):Prop:=(p->x)/\(¬p->y)
def twQ(B:Tab)(Φ:du)(all:bL):List Oper->Env->Mem->(Env->Mem->Prop)->Prop
 |[],env,M,K=>K env M
 |o::rest,env,M,K=>
  (match o.guard with
  |none=>(match evG B Φ all [] o env M with
   |⟨vc,v,e,M'⟩=>bif gf v then False else conj vc (twQ B Φ all rest (wr o.dst v (eh env e)) M' K))
  |some (j,want)=>(match iG all j,evG B Φ all (gv all env 8 j want) o env M with
   |some dj,⟨vc,v,e,M'⟩=>bif aO [gN (gt env dj),neg (wIn dj (o::rest))]then
     (bif nob (fG o) (fresh M e)then imp (gc (gt env dj) want) vc (twQ B Φ all rest (wr o.dst (.gd j want (gc (gt env dj) want) (avF M M' v)) env) M K)
     else bif gf v then False else ifP (gc (gt env dj) want) (conj vc (twQ B Φ all rest (wr o.dst v (eh env e)) M' K)) (twQ B Φ all rest (wr o.dst (.gd j want (gc (gt env dj) want) (dumV v)) env) M K))else False
   |none,_=>False))
def plc:List Nat->Nat->Nat
 |[],_=>0
 |k::r,i=>bif Nat.beq k i then 0 else Nat.succ (plc r i)
def Gs{α β:Type}(f:α->β):List α->List β
 |[]=>[]
 |x::r=>f x::Gs f r
def L7(σ:aZ)(e:Edge):Edge:={ e with on:=plc σ e.on }
def rB(σ:aZ)(o:bj):Oper:={ o with after:=⟨Gs (L7 σ) (toL o.after)⟩ }
def mP(σ:aZ)(l:bL):List Nat->List Oper
 |[]=>[]
 |k::r=>(match dT l k with|some o=>rB σ o::mP σ l r|none=>mP σ l r)
def Um(f:aZ):List Edge->Bool
 |[]=>false
 |e::r=>bif nob (Region.binds .any e) (inN e.on f)then true else Um f r
def slow(R:bo)(o:bj):Bool:=orb (neg (fG o)) (orb (nob R (afg o)) (match o.op with
 |.box _ _=>true
 |_=>false))
def y6(R:bo):Nat->List Oper->List Nat->List Nat
 |_,[],f=>f
 |j,o::r,f=>bif orb (slow R o) (Um f (toL o.after))then y6 R (Nat.succ j) r (ap f [j])else y6 R (Nat.succ j) r f
def L8(f:aZ):Nat->List Oper->List Nat
 |_,[]=>[]
 |j,_::r=>bif inN j f then L8 f (Nat.succ j) r else j::L8 f (Nat.succ j) r
def B9(R:bo)(l:bL):List Nat:=match y6 R 0 l []with|f=>ap (L8 f 0 l) f
def dp(R:bo)(l:bL):List Oper:=match B9 R l with|σ=>mP σ l σ
inductive Sh where
 |d (t:T)
 |ref (k:Nat) (π:bz)
 |ad (k:Nat) (π:bz)
 |fn (f:fL)
 |bx (s:Sh)
 |fc (f:fL) (s:Sh)
 |pr (a b:Sh)
 |u
@[reducible] def Sh.den:Sh->Type
 |.d t=>t.den
 |.bx s|.fc _ s=>s.den
 |.pr a b=>a.den×b.den
 |_=>Unit
def oOf(k:Nat):List (Nat×O)->Option O
 |[]=>none
 |(j,o)::r=>bif Nat.beq j k then some o else oOf k r
def FI(M:Mem)(os:List (Nat×O))(k:Nat)(π:bz):Bool:=
 match go M k,oOf k os with
 |some q,some o=>orb (iI π) (q.o.beq o)
 |_,_=>false
def FV(M:Mem)(os:List (Nat×O))(k:Nat)(π:bz):Bool:=
 match go M k,oOf k os with
 |some q,some o=>orb (kZ (eN π q.o) (eN π o)) (q.o.beq o)
 |_,_=>false
def Sh.read(M:Mem)(os:List (Nat×O)):(s:Sh)->V->Option s.den
 |.d t,v=>v.as t
 |.ref k π,.ref k' π'=>bif nob (FI M os k π) (nob (Nat.beq k k') (peq π π'))then some ()else none
 |.ad k π,.ad k' π'=>bif nob (FV M os k π) (nob (Nat.beq k k') (peq π π'))then some ()else none
 |.fn f,.fn f' .u=>bif Nat.beq f f' then some ()else none
 |.bx s,.bx v=>s.read M os v
 |.fc f s,.fn f' v=>bif Nat.beq f f' then s.read M os v else none
 |.pr a b,.p v v'=>(match a.read M os v,b.read M os v' with|some x,some y=>some (x,y)|_,_=>none)
 |.u,.u=>some ()
 |_,_=>none
def Sh.put:(s:Sh)->s.den->V
 |.d t,x=>fy t x
 |.ref k π,_=>.ref k π
 |.ad k π,_=>.ad k π
 |.fn f,_=>.fn f .u
 |.bx s,x=>.bx (s.put x)
 |.fc f s,x=>.fn f (s.put x)
 |.pr a b,x=>.p (a.put x.1) (b.put x.2)
 |.u,_=>.u
abbrev Shs:=List (Nat×Sh)
abbrev Obs:=List (Nat×O)
@[reducible] def gP:Shs->Type
 |[]=>Unit
 |(_,s)::r=>s.den×gP r
@[reducible] def eO:Obs->Type
 |[]=>Unit
 |(_,o)::r=>o.strip.den×eO r
def yp(M:Mem)(os:Obs)(env:Env):(l:Shs)->Option (gP l)
 |[]=>some ()
 |(t,s)::r=>(match s.read M os (gt env t),yp M os env r with|some x,some y=>some (x,y)|_,_=>none)
def pw:(l:Shs)->gP l->Env
 |[],_=>[]
 |(t,s)::r,x=>(t,s.put x.1)::pw r x.2
def wkO(q:Ob)(o:O):Option o.strip.den:=bif q.o.wk o then fQ o.strip q.x else none
def kB(M:Mem):(l:Obs)->Option (eO l)
 |[]=>some ()
 |(k,o)::r=>(match go M k with
  |some q=>(match wkO q o,kB M r with|some x,some y=>some (x,y)|_,_=>none)
  |none=>none)
def dz:(l:Obs)->eO l->Mem
 |[],_=>[]
 |(k,o)::r,x=>(k,⟨o,x.1⟩)::dz r x.2
def inO(k:Nat):Obs->Bool
 |[]=>false
 |(j,_)::r=>orb (Nat.beq j k) (inO k r)
def jf(os:Obs):List Nat->Mem->Env->Env×Mem
 |[],M,env=>(env,M)
 |k::r,M,env=>bif inO k os then jf os r M env else (match go M k with
  |some ob=>jf os r (del k M) (evE (.fz k ob) env)
  |none=>jf os r M env)
def lM(os:Obs):Shs->Env->Mem->Env×Mem
 |[],env,M=>(env,M)
 |(t,.ref k [])::r,env,M=>(match gt env t,oOf k os with
  |.nl,some (.sl o)=>lM os r ((t,.ref k [])::evE (.kl k) env) ((k,⟨.sl o,[]⟩)::del k M)
  |.ref j [],_=>bif orb (Nat.beq j k) (neg (Nat.ble (Nat.succ j) gid))then lM os r env M else (match go M j with
   |some ob=>lM os r (evE (.mv j k) (evE (.kl k) env)) ((k,ob)::del j (del k M))
   |none=>lM os r env M)
  |_,_=>lM os r env M)
 |_::r,env,M=>lM os r env M
def BN(_:Obs)(env:Env)(M:Mem):Env×Mem:=(env,M)
def tG(ss:Shs)(os:Obs)(env:Env)(M:Mem):Option ((gP ss×eO os)×Env):=
 match lM os ss env M with
 |(env0,M0)=>match BN os env0 M0 with
 |(env1,M1)=>(match jf os (ba M1) M1 env1 with
  |(env2,M2)=>(match yp M2 os env2 ss,kB M2 os with
   |some x,some y=>some ((x,y),env2)
   |_,_=>none))
def kept(env:Env):List Nat->Env
 |[]=>[]
 |t::r=>bif bu (gt env t)then (t,gt env t)::kept env r else kept env r
def hY(k:Nat):List Nat->Bool
 |[]=>false
 |j::r=>orb (Nat.beq j k) (hY k r)
def BR(ks:aZ):List Oper->Bool
 |[]=>true
 |o::r=>(match o.dst with
  |some d=>bif hY d ks then false else BR ks r
  |none=>BR ks r)
def noW(ks:aZ):Code->Bool
 |.region _ ops _=>BR ks (toL ops)
 |.seq a b|.cond _ a b=>nob (noW ks a) (noW ks b)
 |.block _ c|.loop c|.scope c=>noW ks c
 |.label _|.skip|.ret|.exit _|.goto _=>true
 |_=>false
def T.oks:(t:T)->t.den->List Prop
 |.int k,n=>[inK k n]
 |.p a b,x=>ap (a.oks x.1) (b.oks x.2)
 |.sl e,l=>[(T.sl e).ok l]
 |.pt t,x|.fn _ t,x|.ifc _ t,x|.ib _ t,x=>t.oks x
 |.mp k v,l=>[(T.mp k v).ok l]
 |.op t,x=>[(T.op t).ok x]
 |.ns t,x=>[(T.ns t).ok x]
 |.str,s=>[s.size<=nb]
 |.er _,_|.bool,_|.u,_|.any,_=>[]
def Sh.oks:(s:Sh)->s.den->List Prop
 |.d t,x=>t.oks x
 |.bx s,x|.fc _ s,x=>s.oks x
 |.pr a b,x=>ap (a.oks x.1) (b.oks x.2)
 |.ref _ _,_|.ad _ _,_|.fn _,_|.u,_=>[]
def okS:(l:Shs)->gP l->List Prop
 |[],_=>[]
 |(_,s)::r,x=>ap (s.oks x.1) (okS r x.2)
def okO:(l:Obs)->eO l->List Prop
 |[],_=>[]
 |(_,o)::r,x=>ap (o.strip.oks x.1) (okO r x.2)
def imps:List Prop->Prop->Prop
 |[],K=>K
 |p::r,K=>p->imps r K
def jk{S:Type}(body:S->(S->Prop)->Prop):Nat->S->Prop
 |0,_=>False
 |n+1,s=>body s (jk body n)
def aK{S:Type}(body:S->(S->Prop)->Prop)(s:S):Prop:=∃n,jk body n s
def bK{S:Type}(k:S->Prop)(f:(S->Prop)->Prop):Prop:=f k
inductive Ann where
 |n
 |s (a b:Ann)
 |l (ss:Shs) (os:Obs) (ks:aZ) (a:Ann)
 |j (ss:Shs) (os:Obs) (ks:aZ) (a:Ann)
def Ann.fst:Ann->Ann
 |.s a _|a=>a
def Ann.snd:Ann->Ann
 |.s _ b=>b
 |a=>a
inductive Ex where
 |nm
 |ex (id:Nat)
 |rt
 |go (l:Nat)
def BH(ss:Shs)(os:Obs)(env:Env)(M:Mem)(k:gP ss×eO os->Prop):Prop:=
 match tG ss os env M with
 |some s=>k s.1
 |none=>False
def me(next:Env->Mem->Prop)(K:Ex->Env->Mem->Prop):Ex->Env->Mem->Prop
 |.nm,env,M=>next env M
 |.ex id,env,M=>K (.ex id) env M
 |.rt,env,M=>K .rt env M
 |.go l,env,M=>K (.go l) env M
def jG(ss:Shs)(os:Obs)(k:gP ss×eO os->Prop)(K:Ex->Env->Mem->Prop):Ex->Env->Mem->Prop
 |.nm,env,M=>BH ss os env M k
 |.ex id,env,M=>K (.ex id) env M
 |.rt,env,M=>K .rt env M
 |.go l,env,M=>K (.go l) env M
def pD(id:Nat)(K:Ex->Env->Mem->Prop):Ex->Env->Mem->Prop
 |.nm,env,M=>K .nm env M
 |.ex id',env,M=>bif Nat.beq id' id then K .nm env M else K (.ex id') env M
 |.rt,env,M=>K .rt env M
 |.go l,env,M=>K (.go l) env M
def scpK(K:Ex->Env->Mem->Prop):Ex->Env->Mem->Prop
 |.nm,env,M=>K .nm env M
 |.ex id,env,M=>K (.ex id) env M
 |.rt,env,M=>K .rt env M
 |.go _,_,_=>False
def onK(ss:Shs)(os:Obs)(ks:aZ)(env:Env)(K:Ex->Env->Mem->Prop)(s:gP ss×eO os):Prop:=imps (okS ss s.1) (imps (okO os s.2) (K .nm (ap (pw ss s.1) (kept env ks)) (dz os s.2)))
def decN:Nat->Nat->List Nat
 |0,_=>[]
 |f+1,n=>bif Nat.beq n 0 then []else Nat.sub (Nat.mod n 10000000) 1::decN f (Nat.div n 10000000)
def Gk(n:Nat):List Nat:=decN 20 (Nat.div n 10000)
def hrC(n:Nat):Bool:=neg (Nat.ble 5000 (Nat.mod n 10000))
def mC(n:Nat):Nat:=Nat.mod n 2500
def v7(n:Nat):Nat:=bif Nat.ble 5000 n then 5000 else bif Nat.ble 3000 n then 3000 else 2000
def Gq(n:Nat):Bool:=nob (Nat.ble 3000 n) (neg (Nat.ble 5000 n))
def fzL:List (Bool×O)->List (Bool×O)
 |[]=>[]
 |q::r=>(q.1,.fz q.2.strip)::fzL r
def fzX:(rt:gH)->bY rt->bY (fzL rt)
 |[],_=>()
 |_::r,x=>(x.1,fzX r x.2)
def fzCt(ct:Ct):Ct:=⟨ct.args,ct.ga,ct.pre,fzL ct.rt,λx=>fzX ct.rt (ct.res x),true,none⟩
def vB(Φ:du):FuncId->Option Ct:=λf=>match Φ f with
 |some ct=>(match ct.mu with
  |none=>some (fzCt ct)
  |some _=>some ct)
 |none=>none
def KF(env:Env):List Operand->List Nat
 |[]=>[]
 |x::r=>(match rd env x with
  |.ref k _=>k::KF env r
  |_=>KF env r)
def Bj(env:Env):List Oper->List Nat
 |[]=>[]
 |o::r=>ap (KF env (bf o.op)) (Bj env r)
def rC:Nat->List Oper->Nat
 |i,[]=>i
 |i,o::r=>(match o.op with
  |.alloc _=>i
  |_=>rC (Nat.succ i) r)
def kK:Nat->List Oper->Nat
 |i,[]=>i
 |i,o::r=>bif fG o then kK (Nat.succ i) r else i
def T7(i:Nat)(o:bj):Oper:={ o with after:=⟨ap (toL o.after) [⟨i,.data⟩]⟩ }
def LD:Nat->Nat->List Oper->List Oper
 |_,_,[]=>[]
 |0,i,o::r=>T7 i o::r
 |Nat.succ j,i,o::r=>o::LD j i r
def FU:Nat->Nat->List Nat
 |_,0=>[]
 |a,Nat.succ k=>a::FU (Nat.succ a) k
def mvS(i j n:Nat):List Nat:=ap (FU 0 i) (j::ap (FU i (Nat.sub j i)) (FU (Nat.succ j) (Nat.sub n (Nat.succ j))))
def FW(l:bL):List Oper:=LD (rC 0 l) (kK 0 l) l
def Gg(l:bL):List Oper:=mP (mvS (kK 0 l) (rC 0 l) (len l)) (LD (kK 0 l) (rC 0 l) l) (mvS (kK 0 l) (rC 0 l) (len l))
def hxT(_:Tab)(_:du)(_:bL)(_:Nat)(_:Env)(_:Mem)(_:Env->Mem->Prop):Prop:=False
abbrev ju:Type:=Nat->Nat
def ev(B:Tab)(Φ:du)(cut:ju):Code->Ann->(Ex->Env->Mem->Prop)->Env->Mem->Prop
 |.skip,_,K,env,M=>K .nm env M
 |.ret,_,K,env,M=>K .rt env M
 |.exit id,_,K,env,M=>K (.ex id) env M
 |.goto l,_,K,env,M=>K (.go l) env M
 |.label _,_,K,env,M=>K .nm env M
 |.scope c,A,K,env,M=>ev B Φ cut c A (scpK K) env M
 |.seq x y,.j ss os ks A,K,env,M=>bif noW ks x then
   bK (onK ss os ks env (me (λenv M=>ev B Φ cut y A.snd K env M) K)) (λk=>ev B Φ cut x A.fst (jG ss os k (me (λenv M=>ev B Φ cut y A.snd K env M) K)) env M)else False
 |.seq x y,A,K,env,M=>ev B Φ cut x A.fst (me (λenv M=>ev B Φ cut y A.snd K env M) K) env M
 |.region id ops draw,_,K,env,M=>
  (match draw with
  |false=>bif Nat.beq (cut id) 1600 then (bif nogd env then twQ B Φ (toL ops) (toL ops) env M (λenv M=>K .nm (clr env) M)else False)else
   bif Nat.beq (cut id) 1500 then twS B Φ (toL ops) (toL ops) env M (λenv M=>K .nm (clr env) M)else
   bif nogd env then twG B Φ (toL ops) (toL ops) env M (λenv M=>K .nm (clr env) M)else False
  |true=>bif Nat.beq (cut id) 999999 then (match jf [] (tu env (toL ops)) M env with
    |(env1,M1)=>bx B Φ (toL ops) (klE (lL (toL ops)) env1) [] (λenv X=>K .nm (clr env) (ap X (klM (lL (toL ops)) M1))))else
   bif Nat.beq (cut id) 999998 then (hxT B Φ (FW (toL ops)) (kK 0 (toL ops)) env M (λenv M=>K .nm (clr env) M)/\hxT B Φ (Gg (toL ops)) (Nat.succ (kK 0 (toL ops))) env M (λenv M=>K .nm (clr env) M))else
   bif Nat.ble 10000 (cut id)then
    (match Gk (cut id),hrC (cut id),mC (cut id)with
    |ks,hr,m=>bif lj env then hx (FB (dp hr (toL ops)) m) ks [] B Φ M (cj m (dp hr (toL ops))) env [] (λenv X=>bif nob (nogd env) (lw ks [] B Φ (lZ (dp hr (toL ops)) m) (lV (dp hr (toL ops)) m) (fe m (dp hr (toL ops))) env (ap X M))then twG B Φ (dp hr (toL ops)) (fe m (dp hr (toL ops))) env (ap X M) (λenv M=>K .nm (clr env) M)else False)else False)else
   bif Nat.ble 2000 (cut id)then
    (match (bif Gq (cut id)then jf [] (tu env (toL ops)) M env else (env,M)),Nat.sub (cut id) (v7 (cut id)),(bif Nat.ble 5000 (cut id)then xL env (toL ops)else [])with
    |(env,M),m,as=>bif lj env then hx (FB (dp false (toL ops)) m) [] as B Φ M (cj m (dp false (toL ops))) env [] (λenv X=>bif nob (nogd env) (lw [] as B Φ (lZ (dp false (toL ops)) m) (lV (dp false (toL ops)) m) (fe m (dp false (toL ops))) env (ap X M))then twG B Φ (dp false (toL ops)) (fe m (dp false (toL ops))) env (ap X M) (λenv M=>K .nm (clr env) M)else False)else False)else
   bif Nat.ble 1000 (cut id)then
    (match jf [] (Bj env (toL ops)) M env with
    |(env,M)=>bif lj env then hx [] [] [] B (vB Φ) M (cj (Nat.sub (cut id) 1000) (toL ops)) env [] (λenv X=>bif nogd env then twG B (vB Φ) (toL ops) (fe (Nat.sub (cut id) 1000) (toL ops)) env (ap X M) (λenv M=>K .nm (clr env) M)else False)else False)else
   bif Nat.ble 500 (cut id)then
    (bif lj env then hx [] [] [] B Φ M (cj (Nat.sub (cut id) 500) (toL ops)) env [] (λenv X=>bif nogd env then twG B Φ (toL ops) (fe (Nat.sub (cut id) 500) (toL ops)) env (ap X M) (λenv M=>K .nm (clr env) M)else False)else False)else
   bif nogd env then dwG B Φ (toL ops) (fe (cut id) (toL ops)) (cj (cut id) (toL ops)) env M (λenv=>twG B Φ (toL ops) (fe (cut id) (toL ops)) env M (λenv M=>K .nm (clr env) M))else False)
 |.cond (.tmp t) x y,.j ss os ks A,K,env,M=>bif aO [(gt env t).isB,noW ks x,noW ks y]then
   bK (onK ss os ks env K) (λk=>cnd (gt env t).boolV (ev B Φ cut x A.fst (jG ss os k K) env M) (ev B Φ cut y A.snd (jG ss os k K) env M))else False
 |.cond (.tmp t) x y,A,K,env,M=>bif (gt env t).isB then cnd (gt env t).boolV (ev B Φ cut x A.fst K env M) (ev B Φ cut y A.snd K env M)else False
 |.block id c,.j ss os ks A,K,env,M=>bif noW ks c then
   bK (onK ss os ks env K) (λk=>ev B Φ cut c A (pD id (jG ss os k K)) env M)else False
 |.block id c,A,K,env,M=>ev B Φ cut c A (pD id K) env M
 |.loop c,.l ss os ks A,K,env,M=>bif noW ks c then (match tG ss os env M with
  |some q=>aK (S:=gP ss×eO os) (λs next=>imps (okS ss s.1) (imps (okO os s.2) (ev B Φ cut c A (jG ss os next K) (ap (pw ss s.1) (kept q.2 ks)) (dz os s.2)))) q.1
  |none=>False)else False
 |_,_,_,_,_=>False
def js:Nat->List V->Env
 |_,[]=>[]
 |i,v::r=>(i,v)::js (Nat.succ i) r
def dr(B:Tab):List TypeId->(ts:ii)->bq ts->List V
 |_,[],_=>[]
 |[],t::ts,x=>fy t x.1::dr B [] ts x.2
 |q::qs,t::ts,x=>kI (B.τ q).agg (fy t x.1)::dr B qs ts x.2
def agL(B:Tab)(fn:Func):List Bool:=ap ((toL fn.params).map (λq=>(B.τ q).agg)) (iJ false fn.nfree)
def okL:(ts:ii)->bq ts->List Prop
 |[],_=>[]
 |t::ts,x=>ap (t.oks x.1) (okL ts x.2)
def Gm(M:Mem)(o:O)(v:V):Option (o.strip.den×List Ev×Mem):=
 match v with
 |.ref r [.ix i]=>(match go M r with
  |some ⟨.sl e,l⟩=>bif d6 r gid then (match wkO ⟨e,l.getD i e.dflt⟩ o with|some x=>some (x,[.kl r],del r M)|none=>none)else none
  |_=>none)
 |_=>none
def Gf(M:Mem)(o:O)(v:V):Option (o.strip.den×List Ev×Mem):=
 match o with
 |.fz t=>(match cr M v with|(e,M')=>(match (v.evs e).as t with|some x=>some (x,e,M')|none=>none))
 |o=>(match conv gid o.strip v M with
  |some (q,e,M')=>(match wkO q o with|some x=>some (x,e,M')|none=>Gm M o v)
  |none=>none)
def y4(B:Tab)(env:Env)(M:Mem):ResultVar->Option V
 |.tmp t=>some (gt env t)
 |.cell t q=>(match lR (B.τ q) M (gt env t)with|([],v)=>some v|_=>none)
def fP:V->Bool
 |.any|.tup _|.gd _ _ _ _=>false
 |_=>true
def dS(g:bo):V->V
 |.ag v=>bif g then v else .any
 |v=>bif g then .any else v
def xQ(B:Tab)(env:Env)(M:Mem):List ResultVar->(rs:gH)->Option (bY rs)
 |[],[]=>some ()
 |r::rs,q::qs=>(match y4 B env M r with
  |some v=>bif fP (dS q.1 v)then (match Gf M q.2 (dS q.1 v)with
   |some (x,e,M')=>(match xQ B (eh env e) M' rs qs with
    |some y=>some (x,y)
    |none=>none)
   |none=>none)else none
  |none=>none)
 |_,_=>none
def BP(o:Option (bY rt))(K:bY rt->Prop):Prop:=
 match o with
 |some r=>K r
 |none=>False
def vK(B:Tab)(rs:List ResultVar)(rt:gH)(K:bY rt->Prop):Ex->Env->Mem->Prop
 |.ex _,_,_|.go _,_,_=>False
 |.nm,env,M|.rt,env,M=>BP (xQ B env M rs rt) K
abbrev jv:Type:=Code
def evF(B:Tab)(Φ:du)(cut:ju)(fn:Func)(c:jv)(A:Ann)(ct:Ct)(x:bq ct.args)(K:bY ct.rt->Prop):Prop:=ev B Φ cut c A (vK B (toL fn.results) ct.rt K) (js 0 (dr B (toL fn.params) ct.args x)) []
def pk:Option TypeDesc->Bool
 |some (.int _)=>true
 |_=>false
def nS(P:cX):List Field->Nat->Bool
 |[],_=>true
 | f :: r, i => bif aO [neg (f.name == "_"), Nat.beq f.offset i, pk (P.underlying f.type)] then nS P r (Nat.succ i) else false
def yD(P:cX)(t:bF):Nat:=
 match P.underlying t with
 |some (.struct fs)=>bif aO [neg (P.stoodInHeld t),neg (P.eqGuardType P.depth t),nS P (toL fs) 0]then len (toL fs)else 0
 |some (.array n e)=>bif aO [neg (P.eqGuardType P.depth t),pk (P.underlying e),Nat.beq (P.cellsOf e) 1]then n else 0
 |_=>0
def Kd:Option TypeDesc->Bool
 |some (.slice _)|some (.struct _)=>true
 |_=>false
def LA(P:cX)(ms:Array Method):Option TypeDesc->Bool
 |some (.interface want)=>isN (Instr.missingMethod want ms)
 |_=>false
def isM(f:fL):Option Method->Bool
 |some m=>(match toL m.path,m.func with
  |[],some (g,b)=>nob (Nat.beq f g) (neg b)
  |_,_=>false)
 |none=>false
def Lm(P:cX)(e:Mth):Bool:=
 match P.info? e.t with
 |some inf=>aO [Kd (P.underlying e.t),LA P inf.methods (P.underlying e.i),isM e.f (inf.methods.find? (·.name==e.name))]
 |none=>false
def ua(P:cX):List Mth->Bool
 |[]=>true
 |e::r=>nob (Lm P e) (ua P r)
structure TabOk (P:cX) (B:Tab):Prop where
 τ:∀t,(B.τ t).ok=true->ty P t=B.τ t
 z:∀t,B.z t=true->∃zs,tyZ P t=some zs/\dO (B.σ t) zs=true
 q:∀t,isZ (B.q t)=false->yD P t=B.q t
 m:ua P B.m=true
def zOk(P:cX)(t:bF)(d:T):Bool:=match tyZ P t with|some zs=>dO d zs|none=>false
def tyL(P:cX):Nat->Nat->List Ty
 |0,_=>[]
 |n+1,i=>ty P i::tyL P n (Nat.succ i)
def zL(P:cX):Nat->List T->List Bool
 |_,[]=>[]
 |i,d::r=>zOk P i d::zL P (Nat.succ i) r
theorem PM(P:cX):∀(n i t:Nat)(x:Ty),dT (tyL P n i) t=some x->x=ty P (i+t)
 |0,_,_,_,h=>by simp[tyL,dT]at h
 |n+1,i,0,x,h=>by simp only[tyL,dT,aI]at h;exact h.symm
 |n+1,i,t+1,x,h=>by simp only[tyL,dT]at h;have:=PM P n _ t x h;rw[this];exact congrArg (ty P) (Nat.succ_add i t)
def qL(P:cX):Nat->Nat->List Nat
 |0,_=>[]
 |n+1,i=>yD P i::qL P n (Nat.succ i)
theorem RI(P:cX):∀(n i t:Nat)(x:Nat),dT (qL P n i) t=some x->x=yD P (i+t)
 |0,_,_,_,h=>by simp[qL,dT]at h
 |n+1,i,0,x,h=>by simp only[qL,dT,aI]at h;exact h.symm
 |n+1,i,t+1,x,h=>by simp only[qL,dT]at h;have:=RI P n _ t x h;rw[this];exact congrArg (yD P) (Nat.succ_add i t)
theorem R4(P:cX):∀(l:ii)(i t:Nat)(d:T),dT l t=some d->dT (zL P i l) t=some (zOk P (i+t) d)
 |[],_,_,_,h=>by simp[dT]at h
 |e::r,i,0,d,h=>by simp only[dT,aI]at h;subst h;simp[zL,dT]
 |e::r,i,t+1,d,h=>by simp only[dT]at h;simp only[zL,dT];rw[R4 P r _ t d h,show Nat.succ i+t=i+(t+1)from Nat.succ_add i t]
def Bl(l:List Ty)(d:ii)(z:gj)(q:aZ)(m:List Mth):Tab:=
 ⟨λt=>match dT l t with|some x=>x|none=>FY,λt=>match dT d t with|some x=>x|none=>.any,
  λt=>match dT d t with|some _=>(match dT z t with|some x=>x|none=>false)|none=>false,λt=>match dT q t with|some x=>x|none=>0,m,false⟩
def Tab.take(B:Tab):Tab:=⟨B.τ,B.σ,B.z,B.q,B.m,true⟩
theorem TabOk.take(h:TabOk P B):TabOk P B.take:=⟨h.τ,h.z,h.q,h.m⟩
theorem ZH(n:Nat)(l:List Ty)(d:ii)(z:gj)(q:aZ)(m:List Mth)(h:tyL P n 0=l)(hz:zL P 0 d=z)(hq:qL P n 0=q)(hm:ua P m=true):TabOk P (Bl l d z q m):=by
 constructor
 ·intro t ht;simp only[Bl]at ht⊢;split at ht
  ·rename_i x hx;rw[←h]at hx;have:=PM P n 0 t x hx;rw[this,jO]
  ·simp[FY]at ht
 ·intro t ht;simp only[Bl]at ht⊢;split at ht
  ·rename_i e he;have:=R4 P d 0 t e he;rw[hz,jO]at this;rw[this]at ht;simp only[zOk]at ht;split at ht
   ·rename_i zs hzs;exact⟨zs,hzs,ht⟩
   ·cases ht
  ·cases ht
 ·intro t ht;simp only[Bl]at ht⊢;split at ht
  ·rename_i x hx;rw[←hq]at hx;have:=RI P n 0 t x hx;rw[this,jO]
  ·cases ht
 ·exact hm
def dv:Value->Option Nat
 |.slice (some a) _ (_+1)|.pointer (some a)=>some a.block
 |_=>none
theorem Oz{a:Addr}{N K:Nat}(h:dv (.slice (some a) N K)=some b):b=a.block:=by
 cases K with
 |zero=>cases h
 |succ k=>simp only[dv,aI]at h;exact h.symm
def kX(w:aQ)(ety:bF)(sz:Nat)(v:bw)(n:Nat)(xs:aM):Prop:=xs.length=n*sz/\((n=0/\∃oa,v=.slice oa 0 0)\/∃g off c cur,v=.slice (some ⟨g,off,none⟩) n (c+1)/\w.heap[g]? = some (.cells cur ety (0,0))/\n<=c+1/\c+1<=maxLen/\cur.size=off+(c+1)*sz/\(cur.toList.drop off).take (n*sz)=xs)
theorem Fj(h:w.ownsRow 0 ety sz v n xs):kX w ety sz v n xs:=by
 refine⟨h.1,?_⟩;rcases h.2 with⟨hv,hn⟩|⟨g,cap,cur,hv,hb,hg,h1,h2,h3,h4⟩
 ·exact .inl ⟨hn,none,hv⟩
 ·cases cap with
  |zero=>exact .inl ⟨aa,some ⟨g,0,none⟩,by rw[hv,show n=0 from by omega]⟩
  |succ c=>exact .inr ⟨g,0,c,cur,hv,hg,h1,h2,by rw[h3,jO],by simpa using h4⟩
def iC(w:aQ)(b o:Nat)(us:aM):Prop:=∀(j:Nat)(u:bw),us[j]? = some u->w.cell? ⟨b,o+j,none⟩=some u
def gg:(t:T)->t.den->List Value
 |.int k,n=>[.int k n]
 |.bool,b=>[.bool b]
 |.str,s=>[.string s]
 |.p a b,x=>gg a x.1++gg b x.2
 |_,_=>[]
def isP:T->Bool
 |.p _ _=>true
 |_=>false
def ca(t:T)(x:t.den):Value:=bif isP t then .agg (gg t x).toArray else (gg t x).headD undef
def ni(k v:T)(es:Array MapEntry)(l:List (k.den×v.den)):Prop:=es.toList.map (λe=>(e.key,e.val))=l.map λx=>(ca k x.1,ca v x.2)
def ai(Im:aT)(w:aQ):(t:T)->t.den->List Value->Prop
 |.int k,n,vs=>vs=[.int k n]/\inK k n
 |.bool,b,vs=>vs=[.bool b]
 |.str,s,vs=>vs=[.string s]/\s.size<=nb
 |.u,_,vs=>vs=[]
 |.p a b,x,vs=>∃va vb,vs=va++vb/\ai Im w a x.1 va/\ai Im w b x.2 vb
 |.sl e,l,vs=>∃oa cap,vs=[.slice oa l.length cap]/\(l.length<=nb/\l.length<=cap)/\(oa=none->l.length=0/\cap=0)/\
   ∀a,oa=some a->0<l.length->a.spot=none/\Im a.block/\∀(i:Nat)(x:e.den),l[i]? = some x->∃us,iC w a.block (a.off+i*e.size) us/\ai Im w e x us
 |.pt t,x,vs=>∃b o us,vs=[.pointer (some ⟨b,o,none⟩)]/\Im b/\iC w b o us/\ai Im w t x us
 |.fn f t,x,vs=>∃us:List Value,vs=[.func (.func f) #[] us.toArray]/\ai Im w t x us
 |.ifc i t,x,vs=>∃u:Value,vs=[.iface i u]/\ai Im w t x [u]
 |.ib i t,x,vs=>∃us:List Value,vs=[.iface i (.agg us.toArray)]/\ai Im w t x us
 |.mp k v,l,vs=>∃r es n,vs=[.map (some r)]/\Im r/\w.heap[r]? = some (.map es n)/\(T.mp k v).ok l/\ni k v es l
 |.op t,x,vs=>vs.length=t.size/\(∀v∈vs,v.oneCell'=true)/\∀y,x=some y->ai Im w t y vs
 |.ns t,x,vs=>(x=none/\vs=[.slice none 0 0])\/∃y a n c,x=some y/\vs=[.slice a n c]/\ai Im w t y vs
 |.er i,x,vs=>(x=false/\vs=[.nilIface])\/∃s,x=true/\vs=[.iface i (.agg #[.string s])]
 |.any,_,vs=>∃v:Value,vs=[v]/\v.oneCell'=true
def O.size(o:O):Nat:=o.strip.size
def Rel(Im:aT)(w:aQ):(o:O)->o.strip.den->(Nat->Prop)->List Value->Prop
 |.fz t,x,_,vs=>ai Im w t x vs
 |.p a b,x,S,vs=>∃va vb,∃S1 S2:Nat->Prop,vs=va++vb/\(∀c,S1 c->S c)/\(∀c,S2 c->S c)/\(∀c,S1 c->¬S2 c)/\Rel Im w a x.1 S1 va/\Rel Im w b x.2 S2 vb
 |.sl e,l,S,vs=>∃v ety xs,∃T:Nat->Nat->Prop,vs=[v]/\kX w ety e.size v l.length xs/\l.length<=nb/\(∀c,dv v=some c->S c)/\(∀i c,T i c->S c/\dv v≠some c)/\
   (∀i j c,i≠j->T i c->¬T j c)/\∀(i:Nat)(x:e.strip.den),l[i]? = some x->Rel Im w e x (T i) ((xs.drop (i*e.size)).take e.size)
 |.mp k v,l,S,vs=>∃r es n,vs=[.map (some r)]/\S r/\w.heap[r]? = some (.map es n)/\(T.mp k v).ok l/\ni k v es l
 |.op e,x,S,vs=>vs.length=e.size/\(∀v∈vs,v.oneCell'=true)/\∀y,x=some y->Rel Im w e y S vs
 |.pt o,x,S,vs=>∃b us ty' S',vs=[.pointer (some ⟨b,0,none⟩)]/\S b/\w.heap[b]? = some (.cells (us:aM).toArray ty' (0,0))/\(∀c,S' c->S c/\c≠b)/\Rel Im w o x S' us
def cE(Im Im':aT)(w w':aQ):Prop:=∀b,Im b->Im' b/\w'.heap[b]? = w.heap[b]?
theorem cE.refl(Im:aT)(w:aQ):cE Im Im w w:=λ_ h=>⟨h,rfl⟩
theorem cE.trans{I1 I2 I3:aT}{a b:aQ}(h:cE I1 I2 a b)(k:cE I2 I3 b c):cE I1 I3 a c:=λx hx=>⟨(k x (h x hx).1).1,((k x (h x hx).1).2).trans (h x hx).2⟩
theorem iC.keep{o:Nat}(h:w'.heap[b]? = w.heap[b]?)(r:iC w b o us):iC w' b o us:=λj u hu=>by rw[←r j u hu];simp[World.cell?,h]
theorem ai.keep{Im Im':aT}{w w':aQ}(h:cE Im Im' w w'):(t:T)->(x:t.den)->(vs:aM)->ai Im w t x vs->ai Im' w' t x vs
 |.int _,_,_,r|.bool,_,_,r|.str,_,_,r|.u,_,_,r|.any,_,_,r=>by simpa only [ai]using r
 |.p a b,x,vs,r=>by simp only[ai]at r⊢;obtain⟨va,vb,h1,h2,h3⟩:=r;exact⟨va,vb,h1,ai.keep h a _ _ h2,ai.keep h b _ _ h3⟩
 |.sl e,l,vs,r=>by simp only[ai]at r⊢;obtain⟨oa,cap,h1,h2,h3,h4⟩:=r;refine⟨oa,cap,h1,h2,h3,λa ha hpos=>?_⟩;obtain⟨k1,k2,k3⟩:=h4 a ha hpos;refine⟨k1,(h _ k2).1,λi x hx=>?_⟩;obtain⟨us,u1,u2⟩:=k3 i x hx;exact⟨us,u1.keep (h _ k2).2,ai.keep h e x us u2⟩
 |.pt t,x,vs,r=>by simp only[ai]at r⊢;obtain⟨b,o,us,h1,h2,h3,h4⟩:=r;exact⟨b,o,us,h1,(h _ h2).1,h3.keep (h _ h2).2,ai.keep h t x us h4⟩
 |.fn f t,x,vs,r=>by simp only[ai]at r⊢;obtain⟨us,h1,h2⟩:=r;exact⟨us,h1,ai.keep h t x us h2⟩
 |.ifc i t,x,vs,r|.ib i t,x,vs,r=>by simp only[ai]at r⊢;obtain⟨u,h1,h2⟩:=r;exact⟨u,h1,ai.keep h t x _ h2⟩
 |.op t,x,vs,r=>by simp only[ai]at r⊢;exact⟨r.1,r.2.1,λy hy=>ai.keep h t y vs (r.2.2 y hy)⟩
 |.ns t,x,vs,r=>by
  simp only[ai]at r⊢;rcases r with r|⟨y,a,n,c,h1,h2,h3⟩
  ·exact .inl r
  ·exact .inr ⟨y,a,n,c,h1,h2,ai.keep h t y vs h3⟩
 |.er _,_,_,r=>by simpa only [ai]using r
 |.mp k v,l,vs,r=>by simp only[ai]at r⊢;obtain⟨b,es,n,h1,h2,h3,h4⟩:=r;exact⟨b,es,n,h1,(h _ h2).1,by rw[(h _ h2).2];exact h3,h4⟩
theorem ai.len{Im:aT}{w:aQ}:(t:T)->(x:t.den)->(vs:aM)->ai Im w t x vs->vs.length=t.size
 |.int _,_,_,r=>by simp only[ai]at r;rw[r.1];rfl
 |.bool,_,_,r=>by simp only[ai]at r;rw[r];rfl
 |.str,_,_,r=>by simp only[ai]at r;rw[r.1];rfl
 |.u,_,_,r=>by simp only[ai]at r;rw[r];rfl
 |.any,_,_,r=>by simp only[ai]at r;obtain⟨v,h,_⟩:=r;rw[h];rfl
 |.p a b,x,vs,r=>by simp only[ai]at r;obtain⟨va,vb,h1,h2,h3⟩:=r;rw[h1,bn,ai.len a _ _ h2,ai.len b _ _ h3];simp[T.size]
 |.sl e,l,vs,r=>by simp only[ai]at r;obtain⟨oa,cap,h,_⟩:=r;rw[h];rfl
 |.pt t,x,vs,r=>by simp only[ai]at r;obtain⟨b,o,us,h,_⟩:=r;rw[h];rfl
 |.fn f t,x,vs,r=>by simp only[ai]at r;obtain⟨us,h,_⟩:=r;rw[h];rfl
 |.ifc i t,x,vs,r|.ib i t,x,vs,r=>by simp only[ai]at r;obtain⟨u,h,_⟩:=r;rw[h];rfl
 |.mp k v,l,vs,r=>by simp only[ai]at r;obtain⟨b,es,n,h,_⟩:=r;rw[h];rfl
 |.op t,x,vs,r=>by simp only[ai]at r;exact r.1
 |.ns t,x,vs,r=>by simp only[ai]at r;rcases r with⟨_,r⟩|⟨y,a,n,c,_,r,_⟩<;>(rw[r];rfl)
 |.er i,x,vs,r=>by simp only[ai]at r;rcases r with⟨_,r⟩|⟨s,_,r⟩<;>(rw[r];rfl)
theorem ai.ok{Im:aT}{w:aQ}:(t:T)->(x:t.den)->(vs:aM)->ai Im w t x vs->t.ok x
 |.int _,_,_,r=>by simp only[ai]at r;simp only[T.ok];exact r.2
 |.bool,_,_,r=>by simp only[T.ok]
 |.str,_,_,r=>by simp only[ai]at r;simp only[T.ok];exact r.2
 |.u,_,_,r|.any,_,_,r=>by simp only[T.ok]
 |.p a b,x,vs,r=>by simp only[ai]at r;obtain⟨va,vb,h1,h2,h3⟩:=r;simp only[T.ok];exact⟨ai.ok a _ _ h2,ai.ok b _ _ h3⟩
 |.sl e,l,vs,r=>by
  simp only[ai]at r;obtain⟨oa,cap,h1,h2,h3,h4⟩:=r;simp only[T.ok];refine⟨h2.1,λy hy=>?_⟩;obtain⟨i,hi,rfl⟩:=jP hy
  cases oa with
  |none=>have:=(h3 rfl).1;omega
  |some a=>obtain⟨us,_,u2⟩:=(h4 a rfl aa).2.2 i l[i] (bU hi);exact ai.ok e _ us u2
 |.pt t,x,vs,r=>by simp only[ai]at r;obtain⟨b,o,us,_,_,_,h⟩:=r;simp only[T.ok];exact ai.ok t x us h
 |.fn f t,x,vs,r=>by simp only[ai]at r;obtain⟨us,_,h⟩:=r;simp only[T.ok];exact ai.ok t x us h
 |.ifc i t,x,vs,r|.ib i t,x,vs,r=>by simp only[ai]at r;obtain⟨u,_,h⟩:=r;simp only[T.ok];exact ai.ok t x _ h
 |.op t,x,vs,r=>by simp only[ai]at r;simp only[T.ok];exactλy hy=>ai.ok t y vs (r.2.2 y hy)
 |.ns t,x,vs,r=>by
  simp only[ai]at r;simp only[T.ok];rcases r with⟨rfl,_⟩|⟨y,a,n,c,rfl,_,r⟩
  ·exactλy hy=>by cases hy
  ·exactλz hz=>by cases hz;exact ai.ok t y vs r
 |.er _,x,vs,r=>by simp only[T.ok]
 |.mp k v,l,vs,r=>by simp only[ai]at r;obtain⟨b,es,n,_,_,_,h4,_⟩:=r;exact h4
theorem ai.one{Im:aT}{w:aQ}:(t:T)->(x:t.den)->(vs:aM)->ai Im w t x vs->∀v∈vs,v.oneCell'=true
 |.int _,_,_,r=>by simp only[ai]at r;rw[r.1];intro v hv;rw[cA.1 hv];rfl
 |.bool,_,_,r=>by simp only[ai]at r;rw[r];intro v hv;rw[cA.1 hv];rfl
 |.str,_,_,r=>by simp only[ai]at r;rw[r.1];intro v hv;rw[cA.1 hv];rfl
 |.u,_,_,r=>by simp only[ai]at r;rw[r];intro v hv;cases hv
 |.any,_,_,r=>by simp only[ai]at r;obtain⟨u,h,h1⟩:=r;rw[h];intro v hv;rw[cA.1 hv];exact h1
 |.p a b,x,vs,r=>by
  simp only[ai]at r;obtain⟨va,vb,h1,h2,h3⟩:=r;rw[h1];intro v hv;rcases eS.1 hv with hv|hv
  ·exact ai.one a _ _ h2 v hv
  ·exact ai.one b _ _ h3 v hv
 |.sl e,l,vs,r=>by simp only[ai]at r;obtain⟨oa,cap,h,_⟩:=r;rw[h];intro v hv;rw[cA.1 hv];rfl
 |.pt t,x,vs,r=>by simp only[ai]at r;obtain⟨b,o,us,h,_⟩:=r;rw[h];intro v hv;rw[cA.1 hv];rfl
 |.fn f t,x,vs,r=>by simp only[ai]at r;obtain⟨us,h,_⟩:=r;rw[h];intro v hv;rw[cA.1 hv];rfl
 |.ifc i t,x,vs,r|.ib i t,x,vs,r=>by simp only[ai]at r;obtain⟨u,h,_⟩:=r;rw[h];intro v hv;rw[cA.1 hv];rfl
 |.mp k v,l,vs,r=>by simp only[ai]at r;obtain⟨b,es,n,h,_⟩:=r;rw[h];intro v hv;rw[cA.1 hv];rfl
 |.op t,x,vs,r=>by simp only[ai]at r;exact r.2.1
 |.ns t,x,vs,r=>by simp only[ai]at r;rcases r with⟨_,r⟩|⟨y,a,n,c,_,r,_⟩<;>(rw[r];intro v hv;rw[cA.1 hv];rfl)
 |.er i,x,vs,r=>by simp only[ai]at r;rcases r with⟨_,r⟩|⟨s,_,r⟩<;>(rw[r];intro v hv;rw[cA.1 hv];rfl)
theorem NM(hr:∀b,dv v=some b->w'.heap[b]? = w.heap[b]?)(hown:kX w e sz v n xs):kX w' e sz v n xs:=by
 refine⟨hown.1,?_⟩;rcases hown.2 with hnil|⟨g,off,cap,cur,hv,hg,rest⟩
 ·exact .inl hnil
 ·exact .inr ⟨g,off,cap,cur,hv,by rw[hr g (by rw[hv];rfl)];exact hg,rest⟩
theorem Rel.keep{Im Im':aT}{w w':aQ}(h:cE Im Im' w w'):(o:O)->(x:o.strip.den)->(S:aT)->(vs:aM)->(∀b,S b->w'.heap[b]? = w.heap[b]?)->Rel Im w o x S vs->Rel Im' w' o x S vs
 |.fz t,x,S,vs,_,r=>by simp only[Rel]at r⊢;exact ai.keep h t x vs r
 |.p a b,x,S,vs,hS,r=>by simp only[Rel]at r⊢;obtain⟨va,vb,S1,S2,h1,h2,h3,h4,h5,h6⟩:=r;exact⟨va,vb,S1,S2,h1,h2,h3,h4,Rel.keep h a _ S1 _ (λc hc=>hS c (h2 c hc)) h5,Rel.keep h b _ S2 _ (λc hc=>hS c (h3 c hc)) h6⟩
 |.sl e,l,S,vs,hS,r=>by simp only[Rel]at r⊢;obtain⟨v,ety,xs,T,h1,h2,h3,h4,h5,h6,h7⟩:=r;exact⟨v,ety,xs,T,h1,NM (λc hc=>hS c (h4 c hc)) h2,h3,h4,h5,h6,λi x hx=>Rel.keep h e x (T i) _ (λc hc=>hS c (h5 i c hc).1) (h7 i x hx)⟩
 |.pt o,x,S,vs,hS,r=>by simp only[Rel]at r⊢;obtain⟨b,us,ty',S',h1,h2,h3,h4,h5⟩:=r;exact⟨b,us,ty',S',h1,h2,by rw[hS b h2];exact h3,h4,Rel.keep h o x S' us (λc hc=>hS c (h4 c hc).1) h5⟩
 |.op e,x,S,vs,hS,r=>by simp only[Rel]at r⊢;exact⟨r.1,r.2.1,λy hy=>Rel.keep h e y S vs hS (r.2.2 y hy)⟩
 |.mp k v,l,S,vs,hS,r=>by simp only[Rel]at r⊢;obtain⟨b,es,n,h1,h2,h3,h4⟩:=r;exact⟨b,es,n,h1,h2,by rw[hS b h2];exact h3,h4⟩
theorem Rel.wide{Im:aT}{w:aQ}:(o:O)->(x:o.strip.den)->(S S':aT)->(vs:aM)->(∀b,S b->S' b)->Rel Im w o x S vs->Rel Im w o x S' vs
 |.fz t,x,S,S',vs,_,r=>by simpa only [Rel]using r
 |.p a b,x,S,S',vs,hS,r=>by simp only[Rel]at r⊢;obtain⟨va,vb,S1,S2,h1,h2,h3,h4,h5,h6⟩:=r;exact⟨va,vb,S1,S2,h1,λc hc=>hS c (h2 c hc),λc hc=>hS c (h3 c hc),h4,h5,h6⟩
 |.sl e,l,S,S',vs,hS,r=>by simp only[Rel]at r⊢;obtain⟨v,ety,xs,T,h1,h2,h3,h4,h5,h6,h7⟩:=r;exact⟨v,ety,xs,T,h1,h2,h3,λc hc=>hS c (h4 c hc),λi c hc=>⟨hS c (h5 i c hc).1,(h5 i c hc).2⟩,h6,h7⟩
 |.pt o,x,S,S',vs,hS,r=>by simp only[Rel]at r⊢;obtain⟨b,us,ty',S0,h1,h2,h3,h4,h5⟩:=r;exact⟨b,us,ty',S0,h1,hS b h2,h3,λc hc=>⟨hS c (h4 c hc).1,(h4 c hc).2⟩,h5⟩
 |.op e,x,S,S',vs,hS,r=>by simp only[Rel]at r⊢;exact⟨r.1,r.2.1,λy hy=>Rel.wide e y S S' vs hS (r.2.2 y hy)⟩
 |.mp k v,l,S,S',vs,hS,r=>by simp only[Rel]at r⊢;obtain⟨b,es,n,h1,h2,h3⟩:=r;exact⟨b,es,n,h1,hS b h2,h3⟩
theorem Rel.len{Im:aT}{w:aQ}:(o:O)->(x:o.strip.den)->(S:aT)->(vs:aM)->Rel Im w o x S vs->vs.length=o.size
 |.fz t,x,S,vs,r=>by simp only[Rel]at r;exact ai.len t x vs r
 |.p a b,x,S,vs,r=>by simp only[Rel]at r;obtain⟨va,vb,S1,S2,h1,h2,h3,h4,h5,h6⟩:=r;rw[h1,bn,Rel.len a _ _ _ h5,Rel.len b _ _ _ h6];simp[O.size,T.size]
 |.sl e,l,S,vs,r=>by simp only[Rel]at r;obtain⟨v,ety,xs,T,h,_⟩:=r;rw[h];rfl
 |.pt o,x,S,vs,r=>by simp only[Rel]at r;obtain⟨b,us,ty',S',h,_⟩:=r;rw[h];rfl
 |.mp k v,l,S,vs,r=>by simp only[Rel]at r;obtain⟨b,es,n,h,_⟩:=r;rw[h];rfl
 |.op e,x,S,vs,r=>by simp only[Rel]at r;exact r.1
theorem NW(h:kX w e sz v n xs):v.oneCell'=true:=by rcases h.2 with⟨_,oa,h⟩|⟨g,off,cap,cur,h,_⟩<;>rw[h]<;>rfl
theorem Rel.one{Im:aT}{w:aQ}:(o:O)->(x:o.strip.den)->(S:aT)->(vs:aM)->Rel Im w o x S vs->∀v∈vs,v.oneCell'=true
 |.fz t,x,S,vs,r=>by simp only[Rel]at r;exact ai.one t x vs r
 |.p a b,x,S,vs,r=>by
  simp only[Rel]at r;obtain⟨va,vb,S1,S2,h1,h2,h3,h4,h5,h6⟩:=r;rw[h1];intro v hv;rcases eS.1 hv with hv|hv
  ·exact Rel.one a _ _ _ h5 v hv
  ·exact Rel.one b _ _ _ h6 v hv
 |.sl e,l,S,vs,r=>by simp only[Rel]at r;obtain⟨v,ety,xs,T,h,h2,_⟩:=r;rw[h];intro u hu;rw[cA.1 hu];exact NW h2
 |.pt o,x,S,vs,r=>by simp only[Rel]at r;obtain⟨b,us,ty',S',h,_⟩:=r;rw[h];intro u hu;rw[cA.1 hu];rfl
 |.mp k v,l,S,vs,r=>by simp only[Rel]at r;obtain⟨b,es,n,h,_⟩:=r;rw[h];intro u hu;rw[cA.1 hu];rfl
 |.op e,x,S,vs,r=>by simp only[Rel]at r;exact r.2.1
theorem uL(h:kX w e sz v n xs):
  (n=0/\∃oa,v=.slice oa 0 0)\/∃g off c cur,v=.slice (some ⟨g,off,none⟩) n (c+1)/\w.heap[g]? = some (.cells cur e (0,0))/\n<=c+1/\c+1<=maxLen/\cur.size=off+(c+1)*sz/\(cur.toList.drop off).take (n*sz)=xs:=h.2
theorem AZ(hx:(cur.toList.drop off).take (n*sz)=xs)(h:((xs.drop (i*sz)).take sz)[j]? = some u):cur[off+i*sz+j]? = some u:=by
 rw[fE]at h;split at h
 ·rw[gn,←hx,fE]at h;split at h
  ·rw[gn]at h;rw[rV];simpa using h
  ·cases h
 ·cases h
theorem Rel.frz{Im Im':aT}{w:aQ}(hI:∀b,Im b->Im' b):(o:O)->(x:o.strip.den)->(S:aT)->(vs:aM)->(∀b,S b->Im' b)->Rel Im w o x S vs->ai Im' w o.strip x vs
 |.fz t,x,S,vs,_,r=>by simp only[Rel]at r;exact ai.keep (λb hb=>⟨hI b hb,rfl⟩) t x vs r
 |.p a b,x,S,vs,hS,r=>by simp only[Rel]at r;obtain⟨va,vb,S1,S2,h1,h2,h3,h4,h5,h6⟩:=r;simp only[ai];exact⟨va,vb,h1,Rel.frz hI a _ S1 _ (λc hc=>hS c (h2 c hc)) h5,Rel.frz hI b _ S2 _ (λc hc=>hS c (h3 c hc)) h6⟩
 |.sl e,l,S,vs,hS,r=>by
  simp only[Rel]at r;obtain⟨v,ety,xs,T,h1,h2,h3,h4,h5,h6,h7⟩:=r;simp only[ai];rcases uL h2 with⟨hn,hv⟩|⟨g,off,cap,cur,hv,hg,hc1,hc2,hc3,hc4⟩
  ·obtain⟨oa,hv⟩:=hv;exact⟨oa,0,by rw[h1,hv,hn],⟨h3,aa⟩,λ_=>⟨hn,rfl⟩,λa ha hpos=>aa⟩
  ·refine⟨some ⟨g,off,none⟩,cap+1,by rw[h1,hv],⟨h3,hc1⟩,λh=>by (cases h),λa ha hpos=>?_⟩;cases ha;refine⟨rfl,hS g (h4 g (by rw[hv];rfl)),λi x hx=>⟨_,?_,Rel.frz hI e x (T i) _ (λc hc=>hS c (h5 i c hc).1) (h7 i x hx)⟩⟩;intro j u hu;rw[lA w g _ cur ety (0,0) hg];have:=AZ hc4 hu;simpa[O.size]using this
 |.pt o,x,S,vs,hS,r=>by simp only[Rel]at r;obtain⟨b,us,ty',S',h1,h2,h3,h4,h5⟩:=r;simp only[ai];refine⟨b,0,us,h1,hS b h2,λj u hu=>?_,Rel.frz hI o x S' us (λc hc=>hS c (h4 c hc).1) h5⟩;rw[lA w b _ _ ty' (0,0) h3];simpa using hu
 |.op e,x,S,vs,hS,r=>by simp only[Rel]at r;simp only[ai];exact⟨r.1,r.2.1,λy hy=>Rel.frz hI e y S vs hS (r.2.2 y hy)⟩
 |.mp k v,l,S,vs,hS,r=>by simp only[Rel]at r;obtain⟨b,es,n,h1,h2,h3,h4⟩:=r;simp only[ai];exact⟨b,es,n,h1,hS b h2,h3,h4⟩
theorem Rel.ok{x:o.strip.den}(r:Rel Im w o x S vs):o.strip.ok x:=ai.ok _ _ _ (Rel.frz (Im':=λ_=>True) (λ_ _=>trivial) o x S vs (λ_ _=>trivial) r)
def gok:bz->(o:O)->o.strip.den->Prop
 |[],_,_=>True
 |.l::π,.p a _,x=>gok π a x.1
 |.r::π,.p _ b,x=>gok π b x.2
 |.l::π,.fz (.p a _),x=>gok π (.fz a) x.1
 |.r::π,.fz (.p _ b),x=>gok π (.fz b) x.2
 |.ix i::π,.sl e,x=>i<x.length/\gok π e (x.getD i e.dflt)
 |.de::π,.pt t,x=>gok π t x
 |_,_,_=>False
def cellsOf(w:aQ)(b o n:Nat):List Value:=(List.range n).map λj=>(w.cell? ⟨b,o+j,none⟩).getD undef
abbrev Pl:=Option (Nat×Nat)
variable {ad:Pl}
def Pl.plus(p:Pl)(n:Nat):Pl:=p.map λq=>(q.1,q.2+n)
def res(w:aQ):bz->O->List Value->Pl->Option (List Value×Pl)
 |[],_,vs,ad=>some (vs,ad)
 |.l::π,.p a _,vs,ad=>res w π a (vs.take a.size) ad
 |.r::π,.p a b,vs,ad=>res w π b (vs.drop a.size) (ad.plus a.size)
 |.l::π,.fz (.p a _),vs,ad=>res w π (.fz a) (vs.take a.size) ad
 |.r::π,.fz (.p a b),vs,ad=>res w π (.fz b) (vs.drop a.size) (ad.plus a.size)
 |.ix i::π,.sl e,vs,_=>(match vs with
  |[.slice (some a) _ _]=>res w π e (cellsOf w a.block (a.off+i*e.size) e.size) (some (a.block,a.off+i*e.size))
  |_=>none)
 |.de::π,.pt t,vs,_=>(match vs with
  |[.pointer (some a)]=>res w π t (cellsOf w a.block a.off t.size) (some (a.block,a.off))
  |_=>none)
 |_,_,_,_=>none
def bV:bz->Bool
 |[]=>false
 |.l::π|.r::π=>bV π
 |.ix _::_|.de::_=>true
def df(l:aM)(n:Nat)(us:aM):List Value:=l.take n++us++l.drop (n+us.length)
def dY:bz->O->List Value->List Value->List Value
 |[],_,_,us=>us
 |.l::π,.p a _,vs,us=>dY π a (vs.take a.size) us++vs.drop a.size
 |.r::π,.p a b,vs,us=>vs.take a.size++dY π b (vs.drop a.size) us
 |.l::π,.fz (.p a _),vs,us=>dY π (.fz a) (vs.take a.size) us++vs.drop a.size
 |.r::π,.fz (.p a b),vs,us=>vs.take a.size++dY π (.fz b) (vs.drop a.size) us
 |_,_,vs,_=>vs
theorem EE{a b:Ob}(h1:∀c,S1 c->S c)(h2:∀c,S2 c->S c)(h3:∀c,S1 c->¬S2 c)(ha:Rel Im w a.o a.x S1 va)(hb:Rel Im w b.o b.x S2 vb):Rel Im w (mkP a b).o (mkP a b).x S (va++vb):=by
 obtain⟨oa,xa⟩:=a;obtain⟨ob,xb⟩:=b;have key:Rel Im w (.p oa ob) (xa,xb) S (va++vb):=by simp only[Rel];exact⟨va,vb,S1,S2,rfl,h1,h2,h3,ha,hb⟩
 cases oa<;>cases ob<;>first|exact key|skip
 simp only[mkP,Rel,ai]at ha hb⊢;exact⟨va,vb,rfl,ha,hb⟩
theorem Qn(a b:Ob):(mkP a b).o.size=a.o.size+b.o.size:=by obtain⟨oa,xa⟩:=a;obtain⟨ob,xb⟩:=b;cases oa<;>cases ob<;>simp[mkP,O.size,T.size]
theorem sW(h:va.length=n):(va++vb).take n=va:=by rw[←h];exact yW
theorem sX(h:va.length=n):(va++vb).drop n=vb:=by rw[←h];exact Cs
theorem uH{o:Nat}(hl:us.length=n)(h:iC w b o us):cellsOf w b o n=us:=by
 unfold cellsOf;apply mo;intro j;rw[gJ];by_cases hj:j<n
 ·rw[n6 hj,bU aa];simp only[fq];rw[h j us[j] (bU aa)];rfl
 ·rw[ja (by simpa using hj),ja aa];rfl
theorem QJ{i':Nat}(hx:xs.length=n*sz)(hi:i<n)(hr:row'.length=sz):
  ((df xs (i*sz) row').drop (i'*sz)).take sz=if i'=i then row' else (xs.drop (i'*sz)).take sz:=by
 have hle:i*sz+sz<=n*sz:=by have:=n7 sz (show i+1<=n from hi);rw[lB]at this;omega
 have hs:(df xs (i*sz) row').length=n*sz:=by simp[df,hr];omega
 have hget:∀j,(df xs (i*sz) row')[j]? = if j<i*sz then xs[j]? else if j<i*sz+sz then row'[j-i*sz]? else xs[j]?:=by
  intro j;unfold df;by_cases h1:j<i*sz
  ·rw[am h1,dk,fT (by simp;omega),fE,am h1]
  ·rw[aj h1];by_cases h2:j<i*sz+sz
   ·rw[am h2,fT (by simp;omega),g9 (by simp;omega)];congr 1;simp;omega
   ·rw[aj h2,g9 (by simp;omega),gn];congr 1;simp;omega
 by_cases e:i'=i
 ·subst e;rw[am rfl];apply mo;intro j;rw[fE,gn,hget];by_cases hj:j<sz
  ·rw[am hj,aj aa,am aa];congr 1;omega
  ·rw[aj hj,ja aa]
 ·rw[aj e];apply mo;intro j;rw[fE,fE,gn,gn,hget];by_cases hj:j<sz
  ·simp only[am hj];rcases Nat.lt_or_gt_of_ne e with hlt|hlt
   ·have:=n7 sz (show i'+1<=i from hlt);rw[lB]at this;rw[am aa]
   ·have:=n7 sz (show i+1<=i' from hlt);rw[lB]at this;rw[aj aa,aj aa]
  ·simp only[aj hj]
theorem mH:∀(π:bz)(o:O)(vs us:aM),bV π=true->dY π o vs us=vs
 |[],_,_,_,h=>by simp[bV]at h
 |.l::π,.p a b,vs,us,h=>by simp only[dY];rw[mH π a _ us (by simpa[bV]using h),jb]
 |.r::π,.p a b,vs,us,h=>by simp only[dY];rw[mH π b _ us (by simpa[bV]using h),jb]
 |.l::π,.fz (.p a b),vs,us,h=>by simp only[dY];rw[mH π (.fz a) _ us (by simpa[bV]using h),jb]
 |.r::π,.fz (.p a b),vs,us,h=>by simp only[dY];rw[mH π (.fz b) _ us (by simpa[bV]using h),jb]
 |.l::π,.sl e,vs,us,h|.r::π,.sl e,vs,us,h|.l::π,.pt e,vs,us,h|.l::π,.mp _ _,vs,us,h|.l::π,.op _,vs,us,h|.r::π,.pt e,vs,us,h|.r::π,.mp _ _,vs,us,h|.r::π,.op _,vs,us,h|.l::π,.fz (.int _),vs,us,h|.l::π,.fz .bool,vs,us,h|.l::π,.fz .str,vs,us,h|.l::π,.fz .u,vs,us,h|.l::π,.fz (.sl _),vs,us,h|.l::π,.fz (.pt _),vs,us,h|.l::π,.fz (.fn _ _),vs,us,h|.l::π,.fz (.ifc _ _),vs,us,h|.l::π,.fz (.ib _ _),vs,us,h|.l::π,.fz (.mp _ _),vs,us,h|.l::π,.fz (.op _),vs,us,h|.l::π,.fz (.ns _),vs,us,h|.l::π,.fz (.er _),vs,us,h|.l::π,.fz .any,vs,us,h|.r::π,.fz (.int _),vs,us,h|.r::π,.fz .bool,vs,us,h|.r::π,.fz .str,vs,us,h|.r::π,.fz .u,vs,us,h|.r::π,.fz (.sl _),vs,us,h|.r::π,.fz (.pt _),vs,us,h|.r::π,.fz (.fn _ _),vs,us,h|.r::π,.fz (.ifc _ _),vs,us,h|.r::π,.fz (.ib _ _),vs,us,h|.r::π,.fz (.mp _ _),vs,us,h|.r::π,.fz (.op _),vs,us,h|.r::π,.fz (.ns _),vs,us,h|.r::π,.fz (.er _),vs,us,h|.r::π,.fz .any,vs,us,h|.ix _::_,_,vs,us,h|.de::_,_,vs,us,h=>by simp only[dY]
def At(w:aQ)(S:aT)(vs:aM)(ad:Pl):Prop:=∀b off,ad=some (b,off)->¬S b/\∃cur ty',w.heap[b]? = some (.cells cur ty' (0,0))/\∀(j:Nat)(u:bw),vs[j]? = some u->cur[off+j]? = some u
def Wand(Im:aT)(w:aQ)(π:bz)(o:O)(x:o.strip.den)(S S':aT)(q:Ob)(vs:aM)(pl:Pl):Prop:=
 ∀(Im':aT)(w':aQ)(n:Ob)(S'':aT)(us':aM)(ob':Ob),set π o x n=some ob'->n.o.size=q.o.size->Rel Im' w' n.o n.x S'' us'->cE Im Im' w w'->(∀c,S'' c->S c->S' c)->
  (bV π=true->∀b off,pl=some (b,off)->∀cur ty',w.heap[b]? = some (.cells cur ty' (0,0))->w'.heap[b]? = some (.cells (df cur.toList off us').toArray ty' (0,0)))->
  (∀c,S c->¬S' c->(∀b off,pl=some (b,off)->bV π=true->c≠b)->w'.heap[c]? = w.heap[c]?)->
  ob'.o.size=o.size/\Rel Im' w' ob'.o ob'.x (λc=>(S c/\¬S' c)\/S'' c) (dY π o vs us')
def Foc(Im:aT)(w:aQ)(π:bz)(o:O)(x:o.strip.den)(S:aT)(vs:aM)(ad:Pl)(q:Ob):Prop:=
 ∃us pl,∃S':Nat->Prop,res w π o vs ad=some (us,pl)/\(∀c,S' c->S c)/\Rel Im w q.o q.x S' us/\
  (bV π=true->∃b off cur ty',pl=some (b,off)/\S b/\¬S' b/\w.heap[b]? = some (.cells cur ty' (0,0))/\∀(j:Nat)(u:bw),us[j]? = some u->cur[off+j]? = some u)/\
  (bV π=false->∃n,eB π o=some n/\pl=ad.plus n/\us=(vs.drop n).take us.length/\n+us.length<=vs.length/\∀us':List Value,us'.length=us.length->dY π o vs us'=df vs n us')/\
  Wand Im w π o x S S' q vs pl
theorem Pz(h:n+us.length<=va.length):df va n us++vb=df (va++vb) n us:=by unfold df;rw[Cu aa,yX aa];simp
theorem Qq:va++df vb n us=df (va++vb) (va.length+n) us:=by unfold df;rw[uk,List.drop_append];have h1:va.take (va.length+n)=va:=fU aa;have h2:va.drop (va.length+n+us.length)=[]:=Cw aa;rw[h1,h2,show va.length+n-va.length=n by omega,show va.length+n+us.length-va.length=n+us.length by omega];simp
theorem Foc.left{a:O}{xa:a.strip.den}{b:Ob}{x:o.strip.den}(hres:res w (.l::π) o (va++vb) ad=res w π a va ad)(hset:∀n,set (.l::π) o x n=(set π a xa n).map λq=>mkP q b)(hsz:o.size=a.size+b.o.size)(hoff:eB (.l::π) o=eB π a)(hout:∀us,dY (.l::π) o (va++vb) us=dY π a va us++vb)(h1:∀c,S1 c->S c)(h2:∀c,S2 c->S c)(h3:∀c,S1 c->¬S2 c)(hb:Rel Im w b.o b.x S2 vb)(h:Foc Im w π a xa S1 va ad q):Foc Im w (.l::π) o x S (va++vb) ad q:=by
 obtain⟨us,pl,S',e1,e2,e3,e4,e5,e6⟩:=h;refine⟨us,pl,S',by rw[hres,e1],λc hc=>h1 c (e2 c hc),e3,λhh=>?_,λhh=>?_,?_⟩
 ·obtain⟨bb,off,cur,ty',k1,k2,k3,k4,k5⟩:=e4 (by simpa[bV]using hh);exact⟨bb,off,cur,ty',k1,h1 _ k2,k3,k4,k5⟩
 ·obtain⟨n,k1,k2,k3,k4,k5⟩:=e5 (by simpa[bV]using hh);refine⟨n,by rw[hoff,k1],k2,?_,by rw[bn];omega,λus' hl=>?_⟩
  ·rw[yX aa,Cu (by rw[jw];omega)];exact k3
  ·rw[hout,k5 us' hl,Pz aa]
 ·intro Im' w' n S'' us' ob' f1 f2 f3 f4 f5 f6 f7;rw[hset]at f1
  cases hs:set π a xa n with
  |none=>rw[hs]at f1;cases f1
  |some qn=>
   rw[hs]at f1;simp only[fq,aI]at f1;subst f1;obtain⟨g1,g2⟩:=e6 Im' w' n S'' us' qn hs f2 f3 f4 (λc hc h=>f5 c hc (h1 c h)) (λhh=>f6 (by simpa[bV]using hh)) (λc hc hn hne=>f7 c (h1 c hc) hn (λbb off hp hh=>hne bb off hp (by simpa[bV]using hh)));refine⟨by rw[Qn,g1,hsz],?_⟩;rw[hout];refine EE (S1:=λc=>(S1 c/\¬S' c)\/S'' c) (S2:=S2) (λc hc=>?_) (λc hc=>?_) (λc hc hc2=>?_) g2 (Rel.keep f4 _ _ S2 _ (λc hc=>?_) hb)
   ·rcases hc with⟨hc,hn⟩|hc
    ·exact .inl ⟨h1 c hc,hn⟩
    ·exact .inr hc
   ·exact .inl ⟨h2 c hc,λhs'=>h3 c (e2 c hs') hc⟩
   ·rcases hc with⟨hc,_⟩|hc
    ·exact h3 c hc hc2
    ·exact h3 c (e2 c (f5 c hc (h2 c hc2))) hc2
   ·refine f7 c (h2 c hc) (λhs'=>h3 c (e2 c hs') hc) (λbb off hp hh e=>?_);obtain⟨b',off',cur,ty',k1,k2,_⟩:=e4 (by simpa[bV]using hh);rw[k1]at hp;cases hp;exact h3 _ k2 (e▸hc)
theorem Foc.right{b:O}{xb:b.strip.den}{a:Ob}{x:o.strip.den}(hva:va.length=a.o.size)(hres:res w (.r::π) o (va++vb) ad=res w π b vb (ad.plus a.o.size))(hset:∀n,set (.r::π) o x n=(set π b xb n).map λq=>mkP a q)(hsz:o.size=a.o.size+b.size)(hoff:eB (.r::π) o=(eB π b).map (a.o.size+·))(hout:∀us,dY (.r::π) o (va++vb) us=va++dY π b vb us)(h1:∀c,S1 c->S c)(h2:∀c,S2 c->S c)(h3:∀c,S1 c->¬S2 c)(ha:Rel Im w a.o a.x S1 va)(h:Foc Im w π b xb S2 vb (ad.plus a.o.size) q):Foc Im w (.r::π) o x S (va++vb) ad q:=by
 obtain⟨us,pl,S',e1,e2,e3,e4,e5,e6⟩:=h;refine⟨us,pl,S',by rw[hres,e1],λc hc=>h2 c (e2 c hc),e3,λhh=>?_,λhh=>?_,?_⟩
 ·obtain⟨bb,off,cur,ty',k1,k2,k3,k4,k5⟩:=e4 (by simpa[bV]using hh);exact⟨bb,off,cur,ty',k1,h2 _ k2,k3,k4,k5⟩
 ·obtain⟨n,k1,k2,k3,k4,k5⟩:=e5 (by simpa[bV]using hh);refine⟨a.o.size+n,by rw[hoff,k1];rfl,?_,?_,by rw[bn];omega,λus' hl=>?_⟩
  ·rw[k2];cases ad<;>simp[Pl.plus,rV]
  ·rw[←hva,List.drop_append,Cw aa,o7,Cx];exact k3
  ·rw[hout,k5 us' hl,Qq,hva]
 ·intro Im' w' n S'' us' ob' f1 f2 f3 f4 f5 f6 f7;rw[hset]at f1
  cases hs:set π b xb n with
  |none=>rw[hs]at f1;cases f1
  |some qn=>
   rw[hs]at f1;simp only[fq,aI]at f1;subst f1;obtain⟨g1,g2⟩:=e6 Im' w' n S'' us' qn hs f2 f3 f4 (λc hc h=>f5 c hc (h2 c h)) (λhh=>f6 (by simpa[bV]using hh)) (λc hc hn hne=>f7 c (h2 c hc) hn (λbb off hp hh=>hne bb off hp (by simpa[bV]using hh)));refine⟨by rw[Qn,g1,hsz],?_⟩;rw[hout];refine EE (S2:=λc=>(S2 c/\¬S' c)\/S'' c) (S1:=S1) (λc hc=>?_) (λc hc=>?_) (λc hc2 hc=>?_) (Rel.keep f4 _ _ S1 _ (λc hc=>?_) ha) g2
   ·exact .inl ⟨h1 c hc,λhs'=>h3 c hc (e2 c hs')⟩
   ·rcases hc with⟨hc,hn⟩|hc
    ·exact .inl ⟨h2 c hc,hn⟩
    ·exact .inr hc
   ·rcases hc with⟨hc,_⟩|hc
    ·exact h3 c hc2 hc
    ·exact h3 c hc2 (e2 c (f5 c hc (h1 c hc2)))
   ·refine f7 c (h1 c hc) (λhs'=>h3 c hc (e2 c hs')) (λbb off hp hh e=>?_);obtain⟨b',off',cur,ty',k1,k2,_⟩:=e4 (by simpa[bV]using hh);rw[k1]at hp;cases hp;exact h3 _ (e▸hc) k2
theorem At.left(h1:∀c,S1 c->S c)(h:At w S (va++vb) ad):At w S1 va ad:=by intro b off e;obtain⟨k1,cur,ty',k2,k3⟩:=h b off e;refine⟨λhc=>k1 (h1 b hc),cur,ty',k2,λj u hu=>k3 j u ?_⟩;rw[fT (gp.1 hu).1];exact hu
theorem At.right(hn:va.length=n)(h2:∀c,S2 c->S c)(h:At w S (va++vb) ad):At w S2 vb (ad.plus n):=by
 intro b off e
 cases ad with
 |none=>cases e
 |some p=>obtain⟨b',off'⟩:=p;simp only[Pl.plus,fq,aI,bE]at e;obtain⟨rfl,rfl⟩:=e;obtain⟨k1,cur,ty',k2,k3⟩:=h b' off' rfl;refine⟨λhc=>k1 (h2 b' hc),cur,ty',k2,λj u hu=>?_⟩;have:=k3 (n+j) u (by rw[g9 aa];rw[hn,Cx];exact hu);rw[←this];congr 1;omega
theorem Yt{g cap:Nat}(hxl:xs.length=n*sz)(h1:n<=cap+1)(h2:cap+1<=maxLen)(h3:cur.size=off+(cap+1)*sz)(h4:(cur.toList.drop off).take (n*sz)=xs)(hi:i<n)(hr:row'.length=sz)(hm:m+us'.length<=sz)(hrow:row'=df ((xs.drop (i*sz)).take sz) m us')(hg:w'.heap[g]? = some (.cells (df cur.toList (off+i*sz+m) us').toArray ety (0,0))):kX w' ety sz (.slice (some ⟨g,off,none⟩) n (cap+1)) n (df xs (i*sz) row'):=by
 have hle:i*sz+sz<=n*sz:=by have:=n7 sz (show i+1<=n from hi);rw[lB]at this;omega
 have hlc:off+n*sz<=cur.size:=by rw[h3];exact Nat.add_le_add_left (n7 _ h1) _
 have hcl:cur.toList.length=cur.size:=rW;refine⟨by simp[df,hr];omega,.inr ⟨g,off,cap,_,rfl,hg,h1,h2,?_,?_⟩⟩
 ·rw[List.size_toArray,←h3,←hcl];simp[df];omega
 ·show ((df cur.toList (off+i*sz+m) us').drop off).take (n*sz)=_;subst hrow;subst h4
  have e0:(df cur.toList (off+i*sz+m) us').drop off=df (cur.toList.drop off) (i*sz+m) us':=by
   unfold df;rw[dk,yX (by simp;omega),Cy,dk,wn];congr 2
   ·omega
   ·congr 1;omega
  rw[e0];have hdl:(cur.toList.drop off).length=cur.size-off:=by rw[jw,hcl]
  generalize cur.toList.drop off=D at *;have hA:(D.take (n*sz)).length=n*sz:=hxl
  have e1:df (D.take (n*sz)) (i*sz) (df (((D.take (n*sz)).drop (i*sz)).take sz) m us')=df (D.take (n*sz)) (i*sz+m) us':=by
   generalize D.take (n*sz)=A at hA hr⊢;have hsl:(df ((A.drop (i*sz)).take sz) m us').length=sz:=hr;apply mo;intro j
   have hget:∀(B us:aM)(p:Nat),p+us.length<=B.length->∀j,(df B p us)[j]? = if j<p then B[j]? else if j<p+us.length then us[j-p]? else B[j]?:=by
    intro B us p hp j;unfold df;by_cases q1:j<p
    ·rw[am q1,dk,fT (by simp;omega),fE,am q1]
    ·rw[aj q1];by_cases q2:j<p+us.length
     ·rw[am q2,fT (by simp;omega),g9 (by simp;omega)];congr 1;simp;omega
     ·rw[aj q2,g9 (by simp;omega),gn];congr 1;simp;omega
   have hrl:((A.drop (i*sz)).take sz).length=sz:=by simp;omega
   rw[hget A _ (i*sz) aa j,hget A us' (i*sz+m) aa j,hsl];by_cases q1:j<i*sz
   ·rw[am q1,am aa]
   ·rw[aj q1];by_cases q2:j<i*sz+sz
    ·rw[am q2,hget _ us' m aa];by_cases q3:j<i*sz+m
     ·rw[am aa,am q3,fE,am aa,gn];congr 1;omega
     ·rw[aj aa,aj q3];by_cases q4:j<i*sz+m+us'.length
      ·rw[am aa,am q4];congr 1;omega
      ·rw[aj aa,aj q4,fE,am aa,gn];congr 1;omega
    ·rw[aj q2,aj aa,aj aa]
  rw[e1];unfold df;rw[dk,uk,uk,List.take_take,Cy];simp only[dW,hdl];rw[show min (i*sz+m) (cur.size-off)=i*sz+m by omega,show min (n*sz) (i*sz+m)=i*sz+m by omega,List.take_take,show min (i*sz+m) (n*sz)=i*sz+m by omega];rw[fU (l:=us') aa,dk];congr 3;omega
set_option maxRecDepth 4000 in
theorem pm{Im:aT}{w:aQ}:(π:bz)->(o:O)->(x:o.strip.den)->(S:aT)->(vs:aM)->(ad:Pl)->(q:Ob)->Rel Im w o x S vs->gok π o x->get π o x=some q->At w S vs ad->Foc Im w π o x S vs ad q
 |[],o,x,S,vs,ad,q,hr,_,hg,hat=>by
  simp only[get,aI]at hg;subst hg;refine⟨vs,ad,S,rfl,λ_ h=>h,hr,λh=>by simp[bV]at h,λ_=>⟨0,rfl,by cases ad<;>simp[Pl.plus],ak,aa,λus' hl=>?_⟩,?_⟩
  ·simp only[dY,df,List.take_zero,o7,jO];rw[hl,Cw (bd _),iM]
  ·intro Im' w' n S'' us' ob' f1 f2 f3 f4 f5 _ _;simp only[set,aI]at f1;subst f1;exact⟨f2,Rel.wide _ _ S'' _ _ (λc hc=>.inr hc) f3⟩
 |.l::π,.p a b,x,S,vs,ad,q,hr,hk,hg,hat=>by
  simp only[Rel]at hr;obtain⟨va,vb,S1,S2,rfl,h1,h2,h3,ha,hb⟩:=hr;have hl:=Rel.len a _ _ _ ha
  refine Foc.left (b:=⟨b,x.2⟩) (S1:=S1) (S2:=S2) (by simp only[res];rw[sW hl]) (λn=>by simp only[set];cases set π a x.1 n<;>rfl) (by simp[O.size,T.size]) (by simp only[eB]) (λus=>by simp only[dY];rw[sW hl,sX hl]) h1 h2 h3 hb
   (pm π a x.1 S1 va ad q ha (by simpa only [gok]using hk) (by simpa only [get]using hg) (hat.left h1))
 |.r::π,.p a b,x,S,vs,ad,q,hr,hk,hg,hat=>by
  simp only[Rel]at hr;obtain⟨va,vb,S1,S2,rfl,h1,h2,h3,ha,hb⟩:=hr;have hl:=Rel.len a _ _ _ ha
  refine Foc.right (a:=⟨a,x.1⟩) (S1:=S1) (S2:=S2) hl (by simp only[res];rw[sX hl]) (λn=>by simp only[set];cases set π b x.2 n<;>rfl) (by simp[O.size,T.size])
   (by simp only[eB];cases eB π b<;>simp[O.size]) (λus=>by simp only[dY];rw[sW hl,sX hl]) h1 h2 h3 ha
   (pm π b x.2 S2 vb (ad.plus a.size) q hb (by simpa only [gok]using hk) (by simpa only [get]using hg) (hat.right hl h2))
 |.l::π,.fz (.p a b),x,S,vs,ad,q,hr,hk,hg,hat=>by
  simp only[Rel,ai]at hr;obtain⟨va,vb,rfl,ha,hb⟩:=hr;have hl:=ai.len a _ _ ha
  refine Foc.left (a:=.fz a) (b:=⟨.fz b,x.2⟩) (S1:=λ_=>False) (S2:=λ_=>False) (by simp only[res];rw[sW hl]) (λn=>by simp only[set];cases set π (.fz a) x.1 n<;>rfl) (by simp[O.size,T.size]) (by simp only[eB]) (λus=>by simp only[dY];rw[sW hl,sX hl])
   (λ_ h=>h.elim) (λ_ h=>h.elim) (λ_ h=>h.elim) (by simpa only [Rel]using hb)
   (pm π (.fz a) x.1 _ va ad q (by simpa only [Rel]using ha) (by simpa only [gok]using hk) (by simpa only [get]using hg) (hat.left (λ_ h=>h.elim)))
 |.r::π,.fz (.p a b),x,S,vs,ad,q,hr,hk,hg,hat=>by
  simp only[Rel,ai]at hr;obtain⟨va,vb,rfl,ha,hb⟩:=hr;have hl:=ai.len a _ _ ha
  refine Foc.right (b:=.fz b) (a:=⟨.fz a,x.1⟩) (S1:=λ_=>False) (S2:=λ_=>False) hl (by simp only[res];rw[sX hl];rfl) (λn=>by simp only[set];cases set π (.fz b) x.2 n<;>rfl) (by simp[O.size,T.size])
   (by simp only[eB];cases eB π (.fz b)<;>simp[O.size]) (λus=>by simp only[dY];rw[sW hl,sX hl])
   (λ_ h=>h.elim) (λ_ h=>h.elim) (λ_ h=>h.elim) (by simpa only [Rel]using ha)
   (pm π (.fz b) x.2 _ vb (ad.plus a.size) q (by simpa only [Rel]using hb) (by simpa only [gok]using hk) (by simpa only [get]using hg) (hat.right hl (λ_ h=>h.elim)))
 |.ix i::π,.sl e,x,S,vs,ad,q,hr,hk,hg,hat=>by
  simp only[Rel]at hr;obtain⟨v,ety,xs,T,rfl,h2,h3,h4,h5,h6,h7⟩:=hr;simp only[gok]at hk;simp only[get]at hg;obtain⟨hi,hk⟩:=hk;rcases uL h2 with⟨hn,_⟩|⟨g,off0,cap,cur,hv,hgg,hc1,hc2,hc3,hc4⟩
  ·omega
  have hxi:x[i]? = some (x.getD i e.dflt):=by rw[br,bU hi];rfl
  have hrow:=h7 i _ hxi;have hrl:=Rel.len e _ _ _ hrow;have hcells:iC w g (off0+i*e.size) ((xs.drop (i*e.size)).take e.size):=λj u hu=>by rw[lA w g _ cur ety (0,0) hgg];exact AZ hc4 hu
  have hat':At w (T i) ((xs.drop (i*e.size)).take e.size) (some (g,off0+i*e.size)):=by intro b off hh;cases hh;refine⟨λhc=>(h5 i g hc).2 (by rw[hv];rfl),cur,ety,hgg,λj u hu=>?_⟩;exact AZ hc4 hu
  obtain⟨us,pl,S',e1,e2,e3,e4,e5,e6⟩:=pm π e _ (T i) _ (some (g,off0+i*e.size)) q hrow hk hg hat';have hSg:S g:=h4 g (by rw[hv];rfl);have hgT:¬T i g:=λhc=>(h5 i g hc).2 (by rw[hv];rfl);have hres:res w (.ix i::π) (.sl e) [v] ad=some (us,pl):=by rw[hv];simp only[res,jO];rw[uH hrl hcells];exact e1
  refine⟨us,pl,S',hres,λc hc=>(h5 i c (e2 c hc)).1,e3,λ_=>?_,λh=>by simp[bV]at h,?_⟩
  ·cases hh:bV π with
   |true=>obtain⟨b,off,cur',ty',k1,k2,k3,k4,k5⟩:=e4 hh;exact⟨b,off,cur',ty',k1,(h5 i b k2).1,k3,k4,k5⟩
   |false=>
    obtain⟨n,k1,k2,k3,k4,k5⟩:=e5 hh;refine⟨g,off0+i*e.size+n,cur,ety,by rw[k2];rfl,hSg,λhc=>hgT (e2 g hc),hgg,λj u hu=>?_⟩;rw[k3,fE]at hu;split at hu
    ·rw[gn]at hu;have:=AZ hc4 hu;rw[←this];congr 1;omega
    ·cases hu
  ·intro Im' w' n S'' us' ob' f1 f2 f3 f4 f5 f6 f7;simp only[set]at f1
   cases hs:set π e (x.getD i e.dflt) n with
   |none=>rw[hs]at f1;cases f1
   |some qn=>
    rw[hs]at f1;simp only at f1
    cases hcst:jn qn e with
    |none=>rw[hcst]at f1;cases f1
    |some y=>
     rw[hcst]at f1;simp only[aI]at f1;subst f1
     have hcast:∃h:qn.o=e,y=h▸qn.x:=by
      unfold jn at hcst;split at hcst
      ·rename_i h;exact⟨O.beq_eq h,by simpa using hcst.symm⟩
      ·cases hcst
     have hul:us'.length=us.length:=by rw[Rel.len _ _ _ _ f3,Rel.len _ _ _ _ e3];exact f2
     obtain⟨g1,g2⟩:=e6 Im' w' n S'' us' qn hs f2 f3 f4 (λc hc h=>f5 c hc (h5 i c h).1) (λhh b off hp=>f6 rfl b off hp)
      (λc hc hn hne=>f7 c (h5 i c hc).1 hn (λb off hp _=>by
       cases hh:bV π with
       |true=>exact hne b off hp hh
       |false=>obtain⟨m,k1,k2,_⟩:=e5 hh;rw[k2]at hp;simp only[Pl.plus,fq,aI,bE]at hp;obtain⟨rfl,_⟩:=hp;exactλec=>hgT (ec▸hc)))
     obtain⟨rfl,rfl⟩:=hcast;have hol:(dY π qn.o ((xs.drop (i*qn.o.size)).take qn.o.size) us').length=qn.o.size:=Rel.len _ _ _ _ g2;refine⟨rfl,?_⟩;simp only[dY]
     -- the row in the new world
     have hnew:∃xs',kX w' ety qn.o.size v x.length xs'/\∀i',(xs'.drop (i'*qn.o.size)).take qn.o.size=if i'=i then dY π qn.o ((xs.drop (i*qn.o.size)).take qn.o.size) us' else (xs.drop (i'*qn.o.size)).take qn.o.size:=by
      cases hh:bV π with
      |true=>
       obtain⟨b,off,cur',ty',k1,k2,k3,k4,k5⟩:=e4 hh;refine⟨xs,NM (λb' hb'=>?_) h2,λi'=>?_⟩
       ·have hbg:b'=g:=by rw[hv]at hb';simpa[dv]using hb'.symm
        subst hbg;refine f7 b' hSg (λhc=>hgT (e2 b' hc)) (λb2 off2 hp _=>?_);rw[k1]at hp;simp only[aI,bE]at hp;intro ec;exact hgT (by rw[ec,←hp.1];exact k2)
       ·rw[mH _ _ _ _ hh];split
        ·rename_i ei;rw[ei]
        ·rfl
      |false=>
       obtain⟨m,k1,k2,k3,k4,k5⟩:=e5 hh;have hpl:pl=some (g,off0+i*qn.o.size+m):=by rw[k2];rfl
       have hgw:=f6 rfl g _ hpl cur ety hgg;have hor:=k5 us' hul;rw[hrl]at k4;refine⟨df xs (i*qn.o.size) (dY π qn.o ((xs.drop (i*qn.o.size)).take qn.o.size) us'),?_,λi'=>QJ h2.1 hi hol⟩;rw[hv];exact Yt h2.1 hc1 hc2 hc3 hc4 hi hol (m:=m) (us':=us') aa hor hgw
     obtain⟨xs',hx1,hx2⟩:=hnew;simp only[Rel];refine⟨v,ety,xs',λi' c=>if i'=i then (T i c/\¬S' c)\/S'' c else T i' c,rfl,by rw[gK];exact hx1,by rw[gK];exact h3,λc hc=>?_,λi' c hc=>?_,λi1 i2 c hne hc1' hc2'=>?_,λi' y hy=>?_⟩
     ·refine .inl ⟨h4 c hc,λhs'=>(h5 i c (e2 c hs')).2 hc⟩
     ·simp only at hc;by_cases ei:i'=i
      ·rw[am ei]at hc;rcases hc with⟨hc,hn⟩|hc
       ·exact⟨.inl ⟨(h5 i c hc).1,hn⟩,(h5 i c hc).2⟩
       ·refine⟨.inr hc,λhr=>?_⟩;exact (h5 i c (e2 c (f5 c hc (h4 c hr)))).2 hr
      ·rw[aj ei]at hc;exact⟨.inl ⟨(h5 i' c hc).1,λhs'=>h6 i' i c ei hc (e2 c hs')⟩,(h5 i' c hc).2⟩
     ·simp only at hc1' hc2';by_cases e1':i1=i
      ·rw[am e1']at hc1';have e2':i2≠i:=λh=>hne (e1'.trans h.symm);rw[aj e2']at hc2';rcases hc1' with⟨hc,_⟩|hc
       ·exact h6 i i2 c (cM e2') hc hc2'
       ·exact h6 i i2 c (cM e2') (e2 c (f5 c hc (h5 i2 c hc2').1)) hc2'
      ·rw[aj e1']at hc1';by_cases e2':i2=i
       ·rw[am e2']at hc2';rcases hc2' with⟨hc,_⟩|hc
        ·exact h6 i1 i c e1' hc1' hc
        ·exact h6 i1 i c e1' hc1' (e2 c (f5 c hc (h5 i1 c hc1').1))
       ·rw[aj e2']at hc2';exact h6 i1 i2 c hne hc1' hc2'
     ·rw[hx2 i'];by_cases ei:i'=i
      ·subst ei;rw[o9]at hy;simp only[hi,dA,aI]at hy;subst hy;simp only[dA];exact g2
      ·simp only[aj ei];rw[o9,aj (cM ei)]at hy;refine Rel.keep f4 _ y (T i') _ (λc hc=>f7 c (h5 i' c hc).1 (λhs'=>h6 i' i c ei hc (e2 c hs')) (λb off hp _ ec=>?_)) (h7 i' y hy)
       cases hh:bV π with
       |true=>obtain⟨b2,off2,cur',ty',k1,k2,_⟩:=e4 hh;rw[k1]at hp;simp only[aI,bE]at hp;exact h6 i' i c ei hc (by rw[ec,←hp.1];exact k2)
       |false=>obtain⟨m,k1,k2,_⟩:=e5 hh;rw[k2]at hp;simp only[Pl.plus,fq,aI,bE]at hp;exact (h5 i' c hc).2 (by rw[hv,ec,←hp.1];rfl)
 |.de::π,.pt t,x,S,vs,ad,q,hr,hk,hg,hat=>by
  simp only[Rel]at hr;obtain⟨b0,us0,ty0,S0,rfl,h2,h3,h4,h5⟩:=hr;simp only[gok]at hk;simp only[get]at hg;have hlen:=Rel.len t _ _ _ h5;have hcells:iC w b0 0 us0:=λj u hu=>by rw[lA w b0 _ us0.toArray ty0 (0,0) h3];simpa using hu
  have hat':At w S0 us0 (some (b0,0)):=by intro b off hh;cases hh;exact⟨λhc=>(h4 b0 hc).2 rfl,us0.toArray,ty0,h3,λj u hu=>by simpa using hu⟩
  obtain⟨us,pl,S',e1,e2,e3,e4,e5,e6⟩:=pm π t _ S0 us0 (some (b0,0)) q h5 hk hg hat';have hb0:¬S0 b0:=λhc=>(h4 b0 hc).2 rfl;refine⟨us,pl,S',?_,λc hc=>(h4 c (e2 c hc)).1,e3,λ_=>?_,λh=>by simp[bV]at h,?_⟩
  ·simp only[res];rw[uH hlen hcells];exact e1
  ·cases hh:bV π with
   |true=>obtain⟨b,off,cur',ty',k1,k2,k3,k4,k5⟩:=e4 hh;exact⟨b,off,cur',ty',k1,(h4 b k2).1,k3,k4,k5⟩
   |false=>
    obtain⟨n,k1,k2,k3,k4,k5⟩:=e5 hh;refine⟨b0,n,us0.toArray,ty0,by rw[k2];simp[Pl.plus],h2,λhc=>hb0 (e2 b0 hc),h3,λj u hu=>?_⟩;rw[k3,fE]at hu;split at hu
    ·rw[gn]at hu;simpa using hu
    ·cases hu
  ·intro Im' w' n S'' us' ob' f1 f2 f3 f4 f5 f6 f7;simp only[set]at f1
   cases hs:set π t x n with
   |none=>rw[hs]at f1;cases f1
   |some qn=>
    rw[hs]at f1;simp only[aI]at f1;subst f1;have hul:us'.length=us.length:=by rw[Rel.len _ _ _ _ f3,Rel.len _ _ _ _ e3];exact f2
    obtain⟨g1,g2⟩:=e6 Im' w' n S'' us' qn hs f2 f3 f4 (λc hc h=>f5 c hc (h4 c h).1) (λhh b off hp=>f6 rfl b off hp)
     (λc hc hn hne=>f7 c (h4 c hc).1 hn (λb off hp _=>by
      cases hh:bV π with
      |true=>exact hne b off hp hh
      |false=>obtain⟨m,k1,k2,_⟩:=e5 hh;rw[k2]at hp;simp only[Pl.plus,fq,aI,bE]at hp;obtain⟨rfl,_⟩:=hp;exact (h4 c hc).2))
    refine⟨rfl,?_⟩;simp only[dY,Rel]
    have hnew:w'.heap[b0]? = some (.cells (dY π t us0 us').toArray ty0 (0,0)):=by
     cases hh:bV π with
     |true=>
      obtain⟨b,off,cur',ty',k1,k2,k3,k4,k5⟩:=e4 hh;rw[mH _ _ _ _ hh,f7 b0 h2 (λhc=>hb0 (e2 b0 hc)) (λb2 off2 hp _=>?_)]
      ·exact h3
      ·rw[k1]at hp;simp only[aI,bE]at hp;intro ec;exact hb0 (by rw[ec,←hp.1];exact k2)
     |false=>obtain⟨m,k1,k2,k3,k4,k5⟩:=e5 hh;have:=f6 rfl b0 m (by rw[k2];simp[Pl.plus]) us0.toArray ty0 h3;rw[this,k5 us' hul]
    refine⟨b0,_,ty0,λc=>(S0 c/\¬S' c)\/S'' c,rfl,.inl ⟨h2,λhc=>hb0 (e2 b0 hc)⟩,hnew,λc hc=>?_,g2⟩;rcases hc with⟨hc,hn⟩|hc
    ·exact⟨.inl ⟨(h4 c hc).1,hn⟩,(h4 c hc).2⟩
    ·exact⟨.inr hc,λec=>hb0 (e2 b0 (f5 b0 (ec▸hc) h2))⟩
 |.l::_,.sl _,_,_,_,_,_,_,hk,_,_|.l::_,.pt _,_,_,_,_,_,_,hk,_,_|.l::_,.fz (.int _),_,_,_,_,_,_,hk,_,_|.l::_,.fz .bool,_,_,_,_,_,_,hk,_,_|.l::_,.fz .str,_,_,_,_,_,_,hk,_,_|.l::_,.fz .u,_,_,_,_,_,_,hk,_,_|.l::_,.fz (.sl _),_,_,_,_,_,_,hk,_,_|.l::_,.fz (.pt _),_,_,_,_,_,_,hk,_,_|.l::_,.fz (.fn _ _),_,_,_,_,_,_,hk,_,_|.l::_,.fz .any,_,_,_,_,_,_,hk,_,_|.r::_,.sl _,_,_,_,_,_,_,hk,_,_|.r::_,.pt _,_,_,_,_,_,_,hk,_,_|.r::_,.fz (.int _),_,_,_,_,_,_,hk,_,_|.r::_,.fz .bool,_,_,_,_,_,_,hk,_,_|.r::_,.fz .str,_,_,_,_,_,_,hk,_,_|.r::_,.fz .u,_,_,_,_,_,_,hk,_,_|.r::_,.fz (.sl _),_,_,_,_,_,_,hk,_,_|.r::_,.fz (.pt _),_,_,_,_,_,_,hk,_,_|.r::_,.fz (.fn _ _),_,_,_,_,_,_,hk,_,_|.r::_,.fz .any,_,_,_,_,_,_,hk,_,_|.ix _::_,.fz _,_,_,_,_,_,_,hk,_,_|.ix _::_,.p _ _,_,_,_,_,_,_,hk,_,_|.ix _::_,.pt _,_,_,_,_,_,_,hk,_,_|.de::_,.fz _,_,_,_,_,_,_,hk,_,_|.de::_,.p _ _,_,_,_,_,_,_,hk,_,_|.de::_,.sl _,_,_,_,_,_,_,hk,_,_=>by simp only[gok]at hk
theorem sY{Im:aT}{w w':aQ}:(π:bz)->(o:O)->(x:o.strip.den)->(S:aT)->(vs:aM)->(ad:Pl)->Rel Im w o x S vs->gok π o x->(∀b,S b->w'.heap[b]? = w.heap[b]?)->res w' π o vs ad=res w π o vs ad
 |[],o,x,S,vs,ad,_,_,_=>by simp only[res]
 |.l::π,.p a b,x,S,vs,ad,hr,hk,hS=>by simp only[Rel]at hr;obtain⟨va,vb,S1,S2,rfl,h1,h2,h3,ha,hb⟩:=hr;simp only[res];rw[sW (Rel.len a _ _ _ ha)];exact sY π a x.1 S1 va ad ha (by simpa only [gok]using hk) (λc hc=>hS c (h1 c hc))
 |.r::π,.p a b,x,S,vs,ad,hr,hk,hS=>by simp only[Rel]at hr;obtain⟨va,vb,S1,S2,rfl,h1,h2,h3,ha,hb⟩:=hr;simp only[res];rw[sX (Rel.len a _ _ _ ha)];exact sY π b x.2 S2 vb _ hb (by simpa only [gok]using hk) (λc hc=>hS c (h2 c hc))
 |.l::π,.fz (.p a b),x,S,vs,ad,hr,hk,hS=>by simp only[Rel,ai]at hr;obtain⟨va,vb,rfl,ha,hb⟩:=hr;simp only[res];rw[sW (ai.len a _ _ ha)];exact sY π (.fz a) x.1 (λ_=>False) va ad (by simpa only [Rel]using ha) (by simpa only [gok]using hk) (λc hc=>hc.elim)
 |.r::π,.fz (.p a b),x,S,vs,ad,hr,hk,hS=>by simp only[Rel,ai]at hr;obtain⟨va,vb,rfl,ha,hb⟩:=hr;simp only[res];rw[sX (ai.len a _ _ ha)];exact sY π (.fz b) x.2 (λ_=>False) vb _ (by simpa only [Rel]using hb) (by simpa only [gok]using hk) (λc hc=>hc.elim)
 |.ix i::π,.sl e,x,S,vs,ad,hr,hk,hS=>by
  simp only[Rel]at hr;obtain⟨v,ety,xs,T,rfl,h2,h3,h4,h5,h6,h7⟩:=hr;simp only[gok]at hk;obtain⟨hi,hk⟩:=hk;rcases uL h2 with⟨hn,_⟩|⟨g,off0,cap,cur,hv,hgg,hc1,hc2,hc3,hc4⟩
  ·omega
  have hxi:x[i]? = some (x.getD i e.dflt):=by rw[br,bU hi];rfl
  have hrow:=h7 i _ hxi;have hrl:=Rel.len e _ _ _ hrow;have hcells:iC w g (off0+i*e.size) ((xs.drop (i*e.size)).take e.size):=λj u hu=>by rw[lA w g _ cur ety (0,0) hgg];exact AZ hc4 hu
  have hcells':=hcells.keep (w':=w') (hS g (h4 g (by rw[hv];rfl)));rw[hv];simp only[res,jO];rw[uH hrl hcells,uH hrl hcells'];exact sY π e _ (T i) _ _ hrow hk (λc hc=>hS c (h5 i c hc).1)
 |.de::π,.pt t,x,S,vs,ad,hr,hk,hS=>by
  simp only[Rel]at hr;obtain⟨b0,us0,ty0,S0,rfl,h2,h3,h4,h5⟩:=hr;simp only[gok]at hk;have hlen:=Rel.len t _ _ _ h5;have hcells:iC w b0 0 us0:=λj u hu=>by rw[lA w b0 _ us0.toArray ty0 (0,0) h3];simpa using hu
  have hcells':=hcells.keep (w':=w') (hS b0 h2);simp only[res];rw[uH hlen hcells,uH hlen hcells'];exact sY π t x S0 us0 _ h5 hk (λc hc=>hS c (h4 c hc).1)
 |.l::_,.sl _,_,_,_,_,_,_,_|.l::_,.pt _,_,_,_,_,_,_,_|.l::_,.fz (.int _),_,_,_,_,_,_,_|.l::_,.fz .bool,_,_,_,_,_,_,_|.l::_,.fz .str,_,_,_,_,_,_,_|.l::_,.fz .u,_,_,_,_,_,_,_|.l::_,.fz (.sl _),_,_,_,_,_,_,_|.l::_,.fz (.pt _),_,_,_,_,_,_,_|.l::_,.fz (.fn _ _),_,_,_,_,_,_,_|.l::_,.fz .any,_,_,_,_,_,_,_|.r::_,.sl _,_,_,_,_,_,_,_|.r::_,.pt _,_,_,_,_,_,_,_|.r::_,.fz (.int _),_,_,_,_,_,_,_|.r::_,.fz .bool,_,_,_,_,_,_,_|.r::_,.fz .str,_,_,_,_,_,_,_|.r::_,.fz .u,_,_,_,_,_,_,_|.r::_,.fz (.sl _),_,_,_,_,_,_,_|.r::_,.fz (.pt _),_,_,_,_,_,_,_|.r::_,.fz (.fn _ _),_,_,_,_,_,_,_|.r::_,.fz .any,_,_,_,_,_,_,_|.ix _::_,.fz _,_,_,_,_,_,_,_|.ix _::_,.p _ _,_,_,_,_,_,_,_|.ix _::_,.pt _,_,_,_,_,_,_,_|.de::_,.fz _,_,_,_,_,_,_,_|.de::_,.p _ _,_,_,_,_,_,_,_|.de::_,.sl _,_,_,_,_,_,_,_=>by simp only[res]
def Ref(β:fD)(M:Mem)(w:aQ)(k:Nat)(π:bz)(vs:aM):Prop:=∃ob pl,go M k=some ob/\gok π ob.o ob.x/\(∃q,get π ob.o ob.x=some q)/\res w π ob.o [β k] none=some (vs,pl)
def Adr(β:fD)(M:Mem)(w:aQ)(k:Nat)(π:bz)(v:bw):Prop:=∃ob us b off,go M k=some ob/\gok π ob.o ob.x/\(∃q,get π ob.o ob.x=some q)/\bV π=true/\res w π ob.o [β k] none=some (us,some (b,off))/\v=.pointer (some ⟨b,off,none⟩)
def ac(β:fD)(M:Mem)(Im:aT)(w:aQ):V->List Value->Prop
 |.p a b,vs=>∃va vb,vs=va++vb/\ac β M Im w a va/\ac β M Im w b vb
 |.u,vs=>vs=[]
 |.ref k π,vs=>Ref β M w k π vs
 |.ad k π,vs=>∃v,vs=[v]/\Adr β M w k π v
 |.d t x,vs=>ai Im w t x vs
 |.nl,vs=>∃oa,vs=[.slice oa 0 0]
 |.np,vs=>vs=[.pointer none]
 |.any,vs=>∀u∈vs,u.oneCell'=true
 |.fn f v,vs=>∃us:List Value,vs=[.func (.func f) #[] us.toArray]/\ac β M Im w v us
 |.bx v,vs=>∃b o us,vs=[.pointer (some ⟨b,o,none⟩)]/\Im b/\iC w b o us/\ac β M Im w v us
 |.ag _,_|.tup _,_|.gd _ _ _ _,_=>False
 |.ifc t v,vs=>∃u:Value,vs=[.iface t u]/\ac β M Im w v [u]
mutual
def ae(β:fD)(M:Mem)(Im:aT)(w:aQ):V->Value->Prop
 |.any,_=>True
 |.ag x,v=>∃vs:List Value,v=.agg vs.toArray/\ac β M Im w x vs
 |.tup x,v=>∃vs:List Value,v=.tuple vs.toArray/\cD β M Im w x vs
 |.gd _ _ P x,v=>(P->ae β M Im w x v)/\(¬P->v=undef)
 |.ifc t x,v=>ac β M Im w (.ifc t x) [v]
 |.p a b,v=>ac β M Im w (.p a b) [v]
 |.u,v=>ac β M Im w .u [v]
 |.ref k π,v=>ac β M Im w (.ref k π) [v]
 |.ad k π,v=>ac β M Im w (.ad k π) [v]
 |.d t x,v=>ac β M Im w (.d t x) [v]
 |.nl,v=>ac β M Im w .nl [v]
 |.np,v=>ac β M Im w .np [v]
 |.fn f x,v=>ac β M Im w (.fn f x) [v]
 |.bx x,v=>ac β M Im w (.bx x) [v]
def cD(β:fD)(M:Mem)(Im:aT)(w:aQ):V->List Value->Prop
 |.p a b,vs=>∃u us,vs=u::us/\ae β M Im w a u/\cD β M Im w b us
 |.u,vs=>vs=[]
 |_,_=>False
end
theorem my(h:ac β M Im w x [v]):ae β M Im w x v:=by
 cases x with
 |any=>simp only[ae]
 |ag y|tup y|gd _ _ _ y=>simp only[ac]at h
 |ifc _ y|p a b|u|ref k π|ad k π|d t y|nl|np|fn f y|bx y=>simpa only [ae]using h
theorem ac.ev{e:Ev}(hk:cE Im Im' w w')(href:∀k π vs,Ref β M w k π vs->ac β' M' Im' w' (e.ref k π) vs)(had:∀k π v,Adr β M w k π v->ac β' M' Im' w' (e.ad k π) [v]) :
  (x:V)->(vs:aM)->ac β M Im w x vs->ac β' M' Im' w' (x.ev e) vs
 |.p a b,vs,r=>by simp only[ac,V.ev]at r⊢;obtain⟨va,vb,h1,h2,h3⟩:=r;exact⟨va,vb,h1,ac.ev hk href had a va h2,ac.ev hk href had b vb h3⟩
 |.u,vs,r=>by simpa only [ac,V.ev]using r
 |.ref k π,vs,r=>by simp only[ac,V.ev]at r⊢;exact href k π vs r
 |.ad k π,vs,r=>by simp only[ac,V.ev]at r⊢;obtain⟨v,rfl,h⟩:=r;exact had k π v h
 |.d t x,vs,r=>by simp only[ac,V.ev]at r⊢;exact ai.keep hk t x vs r
 |.nl,vs,r|.np,vs,r|.any,vs,r=>by simpa only [ac,V.ev]using r
 |.fn f v,vs,r=>by simp only[ac,V.ev]at r⊢;obtain⟨us,h1,h2⟩:=r;exact⟨us,h1,ac.ev hk href had v us h2⟩
 |.bx v,vs,r=>by simp only[ac,V.ev]at r⊢;obtain⟨b,o,us,h1,h2,h3,h4⟩:=r;exact⟨b,o,us,h1,(hk b h2).1,h3.keep (hk b h2).2,ac.ev hk href had v us h4⟩
 |.ag _,vs,r|.tup _,vs,r|.gd _ _ _ _,vs,r=>by simp only[ac]at r
 |.ifc t v,vs,r=>by simp only[ac,V.ev]at r⊢;obtain⟨u,h1,h2⟩:=r;exact⟨u,h1,ac.ev hk href had v [u] h2⟩
mutual
theorem ae.ev{e:Ev}(hk:cE Im Im' w w')(href:∀k π vs,Ref β M w k π vs->ac β' M' Im' w' (e.ref k π) vs)(had:∀k π v,Adr β M w k π v->ac β' M' Im' w' (e.ad k π) [v]) :
  (x:V)->(v:bw)->ae β M Im w x v->ae β' M' Im' w' (x.ev e) v
 |.any,v,r=>by simp only[V.ev,ae]
 |.ag x,v,r=>by simp only[ae,V.ev]at r⊢;obtain⟨vs,h1,h2⟩:=r;exact⟨vs,h1,ac.ev hk href had x vs h2⟩
 |.tup x,v,r=>by simp only[ae,V.ev]at r⊢;obtain⟨vs,h1,h2⟩:=r;exact⟨vs,h1,cD.ev hk href had x vs h2⟩
 |.gd j b P x,v,r=>by simp only[ae,V.ev]at r⊢;exact⟨λhp=>ae.ev hk href had x v (r.1 hp),r.2⟩
 |.ifc t x,v,r|.p a b,v,r|.u,v,r|.ref k π,v,r|.ad k π,v,r|.d t x,v,r|.nl,v,r|.np,v,r|.fn f x,v,r|.bx x,v,r=>by simp only[ae]at r;exact my (ac.ev hk href had _ _ r)
theorem cD.ev{e:Ev}(hk:cE Im Im' w w')(href:∀k π vs,Ref β M w k π vs->ac β' M' Im' w' (e.ref k π) vs)(had:∀k π v,Adr β M w k π v->ac β' M' Im' w' (e.ad k π) [v]) :
  (x:V)->(vs:aM)->cD β M Im w x vs->cD β' M' Im' w' (x.ev e) vs
 |.p a b,vs,r=>by simp only[cD,V.ev]at r⊢;obtain⟨u,us,h1,h2,h3⟩:=r;exact⟨u,us,h1,ae.ev hk href had a u h2,cD.ev hk href had b us h3⟩
 |.u,vs,r=>by simpa only [cD,V.ev]using r
 |.any,vs,r|.ag x,vs,r|.tup x,vs,r|.gd j b P x,vs,r|.ifc t x,vs,r|.ref k π,vs,r|.ad k π,vs,r|.d t x,vs,r|.nl,vs,r|.np,vs,r|.fn f x,vs,r|.bx x,vs,r=>by simp only[cD]at r
end
theorem ac.keep(hk:cE Im Im' w w')(href:∀k π vs,Ref β M w k π vs->Ref β' M' w' k π vs)(had:∀k π v,Adr β M w k π v->Adr β' M' w' k π v) :
  (x:V)->(vs:aM)->ac β M Im w x vs->ac β' M' Im' w' x vs
 |.p a b,vs,r=>by simp only[ac]at r⊢;obtain⟨va,vb,h1,h2,h3⟩:=r;exact⟨va,vb,h1,ac.keep hk href had a va h2,ac.keep hk href had b vb h3⟩
 |.u,vs,r=>by simpa only [ac]using r
 |.ref k π,vs,r=>by simp only[ac]at r⊢;exact href k π vs r
 |.ad k π,vs,r=>by simp only[ac]at r⊢;obtain⟨v,rfl,h⟩:=r;exact⟨v,rfl,had k π v h⟩
 |.d t x,vs,r=>by simp only[ac]at r⊢;exact ai.keep hk t x vs r
 |.nl,vs,r|.np,vs,r|.any,vs,r=>by simpa only [ac]using r
 |.fn f v,vs,r=>by simp only[ac]at r⊢;obtain⟨us,h1,h2⟩:=r;exact⟨us,h1,ac.keep hk href had v us h2⟩
 |.bx v,vs,r=>by simp only[ac]at r⊢;obtain⟨b,o,us,h1,h2,h3,h4⟩:=r;exact⟨b,o,us,h1,(hk b h2).1,h3.keep (hk b h2).2,ac.keep hk href had v us h4⟩
 |.ag _,vs,r|.tup _,vs,r|.gd _ _ _ _,vs,r=>by simp only[ac]at r
 |.ifc t v,vs,r=>by simp only[ac]at r⊢;obtain⟨u,h1,h2⟩:=r;exact⟨u,h1,ac.keep hk href had v [u] h2⟩
mutual
theorem ae.keep(hk:cE Im Im' w w')(href:∀k π vs,Ref β M w k π vs->Ref β' M' w' k π vs)(had:∀k π v,Adr β M w k π v->Adr β' M' w' k π v) :
  (x:V)->(v:bw)->ae β M Im w x v->ae β' M' Im' w' x v
 |.any,v,r=>by simp only[ae]
 |.ag x,v,r=>by simp only[ae]at r⊢;obtain⟨vs,h1,h2⟩:=r;exact⟨vs,h1,ac.keep hk href had x vs h2⟩
 |.tup x,v,r=>by simp only[ae]at r⊢;obtain⟨vs,h1,h2⟩:=r;exact⟨vs,h1,cD.keep hk href had x vs h2⟩
 |.gd j b P x,v,r=>by simp only[ae]at r⊢;exact⟨λhp=>ae.keep hk href had x v (r.1 hp),r.2⟩
 |.ifc t x,v,r|.p a b,v,r|.u,v,r|.ref k π,v,r|.ad k π,v,r|.d t x,v,r|.nl,v,r|.np,v,r|.fn f x,v,r|.bx x,v,r=>by simp only[ae]at r;exact my (ac.keep hk href had _ _ r)
theorem cD.keep(hk:cE Im Im' w w')(href:∀k π vs,Ref β M w k π vs->Ref β' M' w' k π vs)(had:∀k π v,Adr β M w k π v->Adr β' M' w' k π v) :
  (x:V)->(vs:aM)->cD β M Im w x vs->cD β' M' Im' w' x vs
 |.p a b,vs,r=>by simp only[cD]at r⊢;obtain⟨u,us,h1,h2,h3⟩:=r;exact⟨u,us,h1,ae.keep hk href had a u h2,cD.keep hk href had b us h3⟩
 |.u,vs,r=>by simpa only [cD]using r
 |.any,vs,r|.ag x,vs,r|.tup x,vs,r|.gd j b P x,vs,r|.ifc t x,vs,r|.ref k π,vs,r|.ad k π,vs,r|.d t x,vs,r|.nl,vs,r|.np,vs,r|.fn f x,vs,r|.bx x,vs,r=>by simp only[cD]at r
end
theorem IM{a:Nat}(h:¬a=b):Nat.beq a b=false:=by
 cases hb:Nat.beq a b with
 |false=>rfl
 |true=>exact absurd (cR hb) h
theorem dZ(k:Nat)(v:V)(r:Env)(t:Nat):gt ((k,v)::r) t=if k=t then v else gt r t:=by
 simp only[gt];by_cases h:k=t
 ·simp[h]
 ·rw[aj h];have:Nat.beq k t=false:=IM h;rw[this];rfl
theorem cJ(k:Nat)(v:Ob)(r:Mem)(t:Nat):go ((k,v)::r) t=if k=t then some v else go r t:=by
 simp only[go];by_cases h:k=t
 ·simp[h]
 ·rw[aj h];have:Nat.beq k t=false:=IM h;rw[this];rfl
theorem cS(j k:Nat)(x y:α):(bif Nat.beq j k then x else y)=if j=k then x else y:=by
 by_cases h:j=k
 ·simp[h]
 ·rw[aj h];have:Nat.beq j k=false:=IM h;rw[this];rfl
def bm(M:Mem)(k:Nat):Prop:=(go M k).isSome=true
theorem bP{o:Ob}(h:go M k=some o):bm M k:=by unfold bm;rw[h];rfl
theorem JY(h:bm M k):∃o,go M k=some o:=Option.isSome_iff_exists.1 h
theorem eJ(k:Nat):∀M:Mem,go (del k M) k=none
 |[]=>rfl
 |(j,o)::r=>by
  simp only[del,cS];split
  ·exact eJ k r
  ·rename_i h;rw[cJ,aj h];exact eJ k r
theorem dC{k j:Nat}(h:j≠k):∀M:Mem,go (del k M) j=go M j
 |[]=>rfl
 |(i,o)::r=>by
  simp only[del,cS];by_cases e:i=k
  ·subst e;rw[am rfl,cJ,aj (cM h)];exact dC h r
  ·rw[aj e,cJ,cJ,dC h r]
theorem kQ:bm (del k M) j<->j≠k/\bm M j:=by
 unfold bm;by_cases h:j=k
 ·subst h;simp[eJ]
 ·simp[dC h,h]
theorem iR{k j:Nat}(o:Ob)(h:j≠k):∀M:Mem,go (put k o M) j=go M j
 |[]=>rfl
 |(i,x)::r=>by
  simp only[put,cS];by_cases e:i=k
  ·subst e;rw[am rfl,cJ,cJ,aj (cM h),aj (cM h)]
  ·rw[aj e,cJ,cJ,iR o h r]
theorem lJ{k:Nat}(o:Ob):∀M:Mem,bm M k->go (put k o M) k=some o
 |[],h=>by simp[bm,go]at h
 |(i,x)::r,h=>by
  simp only[put,cS];by_cases e:i=k
  ·subst e;rw[am rfl,cJ,am rfl]
  ·rw[aj e,cJ,aj e];refine lJ o r ?_;unfold bm at h⊢
   rwa [cJ,aj e]at h
theorem uQ{o:Ob}:bm (put k o M) j<->bm M j:=by
 by_cases e:j=k
 ·subst e;by_cases h:bm M j
  ·exact⟨λ_=>h,λ_=>bP (lJ o M h)⟩
  ·refine⟨λh'=>?_,λh'=>absurd h' h⟩;exfalso
   have:∀M:Mem,¬bm M j->¬bm (put j o M) j:=by
    intro M
    induction M with
    |nil=>intro h;exact h
    |cons q r ih=>
     obtain⟨i,x⟩:=q;intro hn hl;unfold bm at hn hl ih;simp only[put,cS]at hl;by_cases e:i=j
     ·subst e;rw[cJ,am rfl]at hn;exact hn rfl
     ·rw[aj e,cJ,aj e]at hl;rw[cJ,aj e]at hn;exact ih hn hl
   exact this M h h'
 ·unfold bm;rw[iR o e]
theorem tm(e:Ev)(t:Nat):∀env:Env,gt (evE e env) t=(gt env t).ev e
 |[]=>by simp[evE,gt,V.ev]
 |(j,v)::r=>by
  simp only[evE,dZ];split
  ·rfl
  ·exact tm e t r
structure Fr where
 w0:World
 wk:World
 A:Nat->Prop
 R:Nat->Prop
 I:Nat->Prop
 nt:Nat
 fv:Nat->Option Value
 cs:Prop
variable {F:Fr}
def Fr.RR(F:Fr)(b:Nat):Prop:=F.R b
def Fr.Fs(F:Fr)(b:Nat):Prop:=F.w0.heap.size<=b\/F.cs/\F.R b
theorem Fr.Fs.r(h:F.Fs b):F.RR b\/F.w0.heap.size<=b:=h.elim .inr λh=>.inl h.2
def Fr.ok(F:Fr)(k:Nat):Prop:=k<F.nt/\F.fv k=none
structure Ow where
 β:Nat->Value
 σ:Nat->Nat->Prop
 L:Nat->Prop
variable {p p' p'':Ow}
structure TD (w' w:aQ):Prop where
 t:w'.tape=w.tape
 d:w.drawn<=w'.drawn
theorem TD.refl(w:aQ):TD w w:=⟨rfl,bd _⟩
theorem TD.trans{a b:aQ}(h:TD c b)(k:TD b a):TD c a:=⟨h.t.trans k.t,c8 k.d h.d⟩
def Imm(F:Fr)(p:Ow)(M:Mem)(w:aQ):Nat->Prop:=λb=>b<w.heap.size/\(F.A b\/F.RR b\/F.w0.heap.size<=b)/\¬p.L b/\∀k,bm M k->¬p.σ k b
structure Hp (F:Fr) (p:Ow) (M:Mem) (w:aQ):Prop where
 objs:∀k ob,go M k=some ob->Rel (Imm F p M w) w ob.o ob.x (p.σ k) [p.β k]
 sep:∀k k' b,k≠k'->bm M k->bm M k'->p.σ k b->¬p.σ k' b
 own:∀k b,bm M k->p.σ k b->b<w.heap.size/\(gid<=k/\F.RR b\/F.Fs b)
 lim:∀b,p.L b->b<w.heap.size/\F.Fs b/\∀k,bm M k->¬p.σ k b
 os:w.os=F.w0.os
 tape:TD w F.w0
 output:w.output=F.w0.output
 size:F.w0.heap.size<=w.heap.size
 old:∀b,b<F.w0.heap.size->¬F.RR b->w.heap[b]? = F.w0.heap[b]?
structure St (F:Fr) (p:Ow) (env:Env) (M:Mem) (a:Act) (w:aQ):Prop where
 defers:a.defers=[]
 nt:a.tmps.size=F.nt
 fix:∀t v,F.fv t=some v->a.tmps.getD t undef=v
 ik:∀b,F.I b->Imm F p M w b/\w.heap[b]? = F.wk.heap[b]?
 lz:∀b,¬p.L b
 slots:∀t,ae p.β M (Imm F p M w) w (gt env t) (a.tmps.getD t undef)
 hp:Hp F p M w
structure Tr (F:Fr) (p:Ow) (M:Mem) (w:aQ) (e:bM) (p':Ow) (M':Mem) (w':aQ):Prop where
 keep:cE (Imm F p M w) (Imm F p' M' w') w w'
 c:∀v vs,ac p.β M (Imm F p M w) w v vs->ac p'.β M' (Imm F p' M' w') w' (v.evs e) vs
 s:∀v u,ae p.β M (Imm F p M w) w v u->ae p'.β M' (Imm F p' M' w') w' (v.evs e) u
 hp:Hp F p' M' w'
theorem xG(v:V):∀(e e':bM),v.evs (ap e e')=(v.evs e).evs e'
 |[],e'=>rfl
 |x::e,e'=>by simp only[ap,V.evs];exact xG _ e e'
theorem kV(t:Nat):∀(e:bM)(env:Env),gt (eh env e) t=(gt env t).evs e
 |[],env=>rfl
 |x::e,env=>by simp only[eh,V.evs];rw[kV t e,tm]
theorem Tr.trans{e e':bM}(h:Tr F p M w e p' M' w')(k:Tr F p' M' w' e' p'' M'' w''):Tr F p M w (ap e e') p'' M'' w'':=⟨h.keep.trans k.keep,λv vs r=>by rw[xG];exact k.c _ _ (h.c v vs r),λv u r=>by rw[xG];exact k.s _ _ (h.s v u r),k.hp⟩
theorem Tr.one(e:Ev)(hk:cE (Imm F p M w) (Imm F p' M' w') w w')(href:∀k π vs,Ref p.β M w k π vs->ac p'.β M' (Imm F p' M' w') w' (e.ref k π) vs)(had:∀k π v,Adr p.β M w k π v->ac p'.β M' (Imm F p' M' w') w' (e.ad k π) [v])(hp':Hp F p' M' w'):Tr F p M w [e] p' M' w':=
 ⟨hk,λv vs r=>by simp only[V.evs];exact ac.ev hk href had v vs r,λv u r=>by simp only[V.evs];exact ae.ev hk href had v u r,hp'⟩
theorem Tr.zero(hk:cE (Imm F p M w) (Imm F p' M' w') w w')(href:∀k π vs,Ref p.β M w k π vs->Ref p'.β M' w' k π vs)(had:∀k π v,Adr p.β M w k π v->Adr p'.β M' w' k π v)(hp':Hp F p' M' w'):Tr F p M w [] p' M' w':=
 ⟨hk,λv vs r=>by simp only[V.evs];exact ac.keep hk href had v vs r,λv u r=>by simp only[V.evs];exact ae.keep hk href had v u r,hp'⟩
theorem Tr.refl(h:Hp F p M w):Tr F p M w [] p M w:=Tr.zero (cE.refl _ _) (λ_ _ _ r=>r) (λ_ _ _ r=>r) h
theorem St.tr{e:bM}(h:St F p env M a w)(t:Tr F p M w e p' M' w')(hL:∀b,¬p'.L b):St F p' (eh env e) M' a w':=by refine⟨h.defers,h.nt,h.fix,λb hb=>⟨(t.keep b (h.ik b hb).1).1,((t.keep b (h.ik b hb).1).2).trans (h.ik b hb).2⟩,hL,λn=>?_,t.hp⟩;rw[kV];exact t.s _ _ (h.slots n)
theorem Ref.same(hp:Hp F p M w)(h:Ref p.β M w k π vs)(hM:go M' k=go M k)(hβ:p'.β k=p.β k)(hb:bm M k->∀b,p.σ k b->w'.heap[b]? = w.heap[b]?):Ref p'.β M' w' k π vs:=by obtain⟨ob,pl,h1,h2,h3,h4⟩:=h;refine⟨ob,pl,by rw[hM,h1],h2,h3,?_⟩;rw[hβ,sY π ob.o ob.x (p.σ k) _ none (hp.objs k ob h1) h2 (hb (bP h1))];exact h4
theorem Adr.same(hp:Hp F p M w)(h:Adr p.β M w k π v)(hM:go M' k=go M k)(hβ:p'.β k=p.β k)(hb:bm M k->∀b,p.σ k b->w'.heap[b]? = w.heap[b]?):Adr p'.β M' w' k π v:=by obtain⟨ob,us,b,off,h1,h2,h3,h4,h5,h6⟩:=h;refine⟨ob,us,b,off,by rw[hM,h1],h2,h3,h4,?_,h6⟩;rw[hβ,sY π ob.o ob.x (p.σ k) _ none (hp.objs k ob h1) h2 (hb (bP h1))];exact h5
theorem St.write(h:St F p env M a w)(d:Nat)(x:V)(v:bw)(hx:ae p.β M (Imm F p M w) w x v)(hd:F.ok d):St F p ((d,x)::env) M (a.put (some d) v) w:=by
 refine⟨by simpa[Act.put]using h.defers,by simpa[Act.put]using h.nt,λt v' ht=>?_,h.ik,h.lz,λt=>?_,h.hp⟩
 ·have hne:d≠t:=λe=>by have:=hd.2;rw[e,ht]at this;cases this
  have:=h.fix t v' ht;simpa[Act.put,hne]using this
 rw[dZ];simp only[Act.put];by_cases e:d=t
 ·subst e;rw[am rfl];simpa[h.nt,hd.1]using hx
 ·rw[aj e];have:=h.slots t;simpa[e]using this
theorem St.weak(h:St F p env M a w)(he:∀t,gt env' t=.any\/gt env' t=gt env t):St F p env' M a w:=by
 refine⟨h.defers,h.nt,h.fix,h.ik,h.lz,λt=>?_,h.hp⟩;rcases he t with e|e
 ·rw[e];simp only[ae]
 ·rw[e];exact h.slots t
theorem look(hp:Hp F p M w)(h1:go M k=some ob)(h2:gok π ob.o ob.x)(h3:get π ob.o ob.x=some q):Foc (Imm F p M w) w π ob.o ob.x (p.σ k) [p.β k] none q:=pm π ob.o ob.x (p.σ k) [p.β k] none q (hp.objs k ob h1) h2 h3 (λb off e=>by cases e)
theorem Ref.one(hp:Hp F p M w)(h:Ref p.β M w k π vs):∀u∈vs,u.oneCell'=true:=by obtain⟨ob,pl,h1,h2,⟨q,h3⟩,h4⟩:=h;obtain⟨us,pl',S',e1,e2,e3,_⟩:=look hp h1 h2 h3;rw[e1]at h4;cases h4;exact Rel.one _ _ _ _ e3
theorem Adr.one(h:Adr p.β M w k π v):v.oneCell'=true:=by obtain⟨_,_,_,_,_,_,_,_,_,rfl⟩:=h;rfl
structure Ext (w w':aQ):Prop where
 os:w'.os=w.os
 tape:TD w' w
 output:w'.output=w.output
 size:w.heap.size<=w'.heap.size
 old:∀b,b<w.heap.size->w'.heap[b]? = w.heap[b]?
theorem Ext.refl(w:aQ):Ext w w:=⟨rfl,TD.refl w,rfl,bd _,λ_ _=>rfl⟩
theorem Ext.of_grown(h:w.grownBy w' none)(hd:w.drawn<=w'.drawn):Ext w w':=⟨h.os,⟨h.tape,hd⟩,h.output,h.size,λb hb=>h.block b hb ak⟩
theorem Tr.ext(h:Hp F p M w)(e:Ext w w'):Tr F p M w [] p M w':=by
 have hk:cE (Imm F p M w) (Imm F p M w') w w':=λb hb=>⟨⟨by have:=e.size;have:=hb.1;omega,hb.2⟩,e.old b hb.1⟩
 refine Tr.zero hk (λ_ _ _ r=>r.same h rfl rfl (λhl b hb=>e.old b (h.own _ b hl hb).1)) (λ_ _ _ r=>r.same h rfl rfl (λhl b hb=>e.old b (h.own _ b hl hb).1))
  ⟨λk ob hg=>Rel.keep hk _ _ _ _ (λb hb=>e.old b (h.own k b (bP hg) hb).1) (h.objs k ob hg),h.sep,λk b h1 h2=>?_,λb hb=>?_,e.os.trans h.os,e.tape.trans h.tape,e.output.trans h.output,c8 h.size e.size,λb hb hR=>?_⟩
 ·have:=h.own k b h1 h2;exact⟨by have:=e.size;omega,this.2⟩
 ·have:=h.lim b hb;exact⟨by have:=e.size;omega,this.2⟩
 ·rw[e.old b (by have:=h.size;omega)];exact h.old b hb hR
theorem St.ext(h:St F p env M a w)(e:Ext w w'):St F p env M a w':=by simpa[eh]using h.tr (Tr.ext h.hp e) h.lz
theorem Hp.del(h:Hp F p M w)(k:Nat):Hp F p (del k M) w/\cE (Imm F p M w) (Imm F p (del k M) w) w w:=by
 have hk:cE (Imm F p M w) (Imm F p (Bm.del k M) w) w w:=λb hb=>⟨⟨hb.1,hb.2.1,hb.2.2.1,λj hj=>hb.2.2.2 j (kQ.1 hj).2⟩,rfl⟩;refine⟨⟨λj ob hg=>?_,λj j' b hne hj hj'=>h.sep j j' b hne (kQ.1 hj).2 (kQ.1 hj').2,λj b hj=>h.own j b (kQ.1 hj).2,λb hb=>⟨(h.lim b hb).1,(h.lim b hb).2.1,λj hj=>(h.lim b hb).2.2 j (kQ.1 hj).2⟩,h.os,h.tape,h.output,h.size,h.old⟩,hk⟩;have hjk:j≠k:=by rintro rfl;rw[eJ]at hg;cases hg
 rw[dC hjk]at hg;exact Rel.keep hk _ _ _ _ (λ_ _=>rfl) (h.objs j ob hg)
theorem Tr.kl(h:Hp F p M w)(k:Nat):Tr F p M w [.kl k] p (del k M) w:=by
 refine Tr.one (.kl k) (h.del k).2 (λj π vs r=>?_) (λj π v r=>?_) (h.del k).1
 ·simp only[Ev.ref,cS];split
  ·simp only[ac];exact r.one h
  ·rename_i hne;simp only[ac];exact r.same h (dC hne M) rfl (λ_ _ _=>rfl)
 ·simp only[Ev.ad,cS];split
  ·simp only[ac];intro u hu;rw[cA.1 hu];exact r.one
  ·rename_i hne;simp only[ac];exact⟨v,rfl,r.same h (dC hne M) rfl (λ_ _ _=>rfl)⟩
theorem tf(h:Hp F p M w)(hl:bm M k)(hb:p.σ k b):Imm F p (del k M) w b:=by obtain⟨h1,h2⟩:=h.own k b hl hb;exact⟨h1,h2.elim (λh=>.inr (.inl h.2)) (λh=>.inr h.r),λhL=>(h.lim b hL).2.2 k hl hb,λj hj=>h.sep k j b (cM (kQ.1 hj).1) hl (kQ.1 hj).2 hb⟩
theorem ko{β:fD}{Im:aT}:(t:T)->(x:t.den)->(vs:aM)->ai Im w t x vs->ac β M Im w (fy t x) vs
 |.p a b,x,vs,r=>by simp only[ai]at r;obtain⟨va,vb,h1,h2,h3⟩:=r;simp only[fy,ac];exact⟨va,vb,h1,ko a _ va h2,ko b _ vb h3⟩
 |.u,x,vs,r=>by simpa only [fy,ac,ai]using r
 |.int _,x,vs,r|.bool,x,vs,r|.str,x,vs,r|.sl _,x,vs,r|.pt _,x,vs,r|.fn _ _,x,vs,r|.ifc _ _,x,vs,r|.ib _ _,x,vs,r|.mp _ _,x,vs,r|.op _,x,vs,r|.ns _,x,vs,r|.er _,x,vs,r|.any,x,vs,r=>by simpa only [fy,ac]using r
theorem Tr.frz(h:Hp F p M w)(k:Nat)(ob:Ob)(hk:go M k=some ob):Tr F p M w [.fz k ob] p (del k M) w:=by
 have hl:=bP hk;refine Tr.one (.fz k ob) (h.del k).2 (λj π vs r=>?_) (λj π v r=>?_) (h.del k).1
 ·simp only[Ev.ref,cS];split
  ·rename_i e;subst e;obtain⟨ob',pl,h1,h2,⟨q,h3⟩,h4⟩:=r;rw[hk]at h1;cases h1;rw[h3];obtain⟨us,pl',S',e1,e2,e3,_⟩:=look h hk h2 h3;rw[e1]at h4;cases h4;exact ko _ _ _ (Rel.frz (λb hb=>((h.del j).2 b hb).1) _ _ S' _ (λb hb=>tf h hl (e2 b hb)) e3)
  ·rename_i hne;simp only[ac];exact r.same h (dC hne M) rfl (λ_ _ _=>rfl)
 ·simp only[Ev.ad,cS];split
  ·rename_i e;subst e;obtain⟨ob',us0,b0,off0,h1,h2,⟨q,h3⟩,h4,h5,rfl⟩:=r;rw[hk]at h1;cases h1;rw[h3];obtain⟨us,pl',S',e1,e2,e3,e4,_⟩:=look h hk h2 h3;rw[e1]at h5;simp only[aI,bE]at h5;obtain⟨rfl,rfl⟩:=h5;obtain⟨b,off,cur,ty',k1,k2,k3,k4,k5⟩:=e4 h4;simp only[aI,bE]at k1;obtain⟨rfl,rfl⟩:=k1;simp only[ac,ai];refine⟨b0,off0,us,rfl,tf h hl k2,λj' u hu=>?_,Rel.frz (λb hb=>((h.del j).2 b hb).1) _ _ S' _ (λb hb=>tf h hl (e2 b hb)) e3⟩;rw[lA w b0 _ cur ty' (0,0) k4];exact k5 j' u hu
  ·rename_i hne;simp only[ac];exact⟨v,rfl,r.same h (dC hne M) rfl (λ_ _ _=>rfl)⟩
theorem Tr.lim(h:Hp F p M w)(k:Nat)(hl:bm M k)(hg:k<gid):Tr F p M w [.kl k] ⟨p.β,p.σ,λb=>p.L b\/p.σ k b⟩ (del k M) w:=by
 have hI:∀b,Imm F p M w b->Imm F ⟨p.β,p.σ,λb=>p.L b\/p.σ k b⟩ (Bm.del k M) w b:=λb hb=>⟨hb.1,hb.2.1,λhc=>hc.elim hb.2.2.1 (hb.2.2.2 k hl),λj hj=>hb.2.2.2 j (kQ.1 hj).2⟩;have hk:cE (Imm F p M w) (Imm F ⟨p.β,p.σ,λb=>p.L b\/p.σ k b⟩ (Bm.del k M) w) w w:=λb hb=>⟨hI b hb,rfl⟩;refine Tr.one (.kl k) hk (λj π vs r=>?_) (λj π v r=>?_) ⟨λj ob hgo=>?_,λj j' b hne hj hj'=>h.sep j j' b hne (kQ.1 hj).2 (kQ.1 hj').2,λj b hj=>h.own j b (kQ.1 hj).2,λb hb=>?_,h.os,h.tape,h.output,h.size,h.old⟩
 ·simp only[Ev.ref,cS];split
  ·simp only[ac];exact r.one h
  ·rename_i hne;simp only[ac];exact r.same (p':=⟨p.β,p.σ,_⟩) h (dC hne M) rfl (λ_ _ _=>rfl)
 ·simp only[Ev.ad,cS];split
  ·simp only[ac];intro u hu;rw[cA.1 hu];exact r.one
  ·rename_i hne;simp only[ac];exact⟨v,rfl,r.same (p':=⟨p.β,p.σ,_⟩) h (dC hne M) rfl (λ_ _ _=>rfl)⟩
 ·have hjk:j≠k:=by rintro rfl;rw[eJ]at hgo;cases hgo
  rw[dC hjk]at hgo;exact Rel.keep hk _ _ _ _ (λ_ _=>rfl) (h.objs j ob hgo)
 ·rcases hb with hb|hb
  ·exact⟨(h.lim b hb).1,(h.lim b hb).2.1,λj hj=>(h.lim b hb).2.2 j (kQ.1 hj).2⟩
  ·obtain⟨k1,k2⟩:=h.own k b hl hb;refine⟨k1,k2.elim (λh=>by have:=h.1;omega) id,λj hj=>h.sep k j b (cM (kQ.1 hj).1) hl (kQ.1 hj).2 hb⟩
def Ow.updL(p:Ow)(k:Nat)(v:bw)(r L':aT):Ow:=⟨λj=>if j=k then v else p.β j,λj=>if j=k then r else p.σ j,L'⟩
def Ow.upd(p:Ow)(k:Nat)(v:bw)(r:aT):Ow:=p.updL k v r λ_=>False
structure ExtL (w w':aQ) (L:aT):Prop where
 os:w'.os=w.os
 tape:TD w' w
 output:w'.output=w.output
 size:w.heap.size<=w'.heap.size
 old:∀b,b<w.heap.size->¬L b->w'.heap[b]? = w.heap[b]?
theorem Ext.toL(h:Ext w w')(L:aT):ExtL w w' L:=⟨h.os,h.tape,h.output,h.size,λb hb _=>h.old b hb⟩
theorem Tr.newL(h:Hp F p M w)(k:Nat)(hk:go M k=none)(v:bw)(r L':aT)(ob:Ob)(hg:ExtL w w' p.L)(hL':∀b,L' b->p.L b/\¬r b)(hr:∀b,r b->w.heap.size<=b/\b<w'.heap.size\/p.L b)(ho:cE (Imm F p M w) (Imm F (p.updL k v r L') ((k,ob)::M) w') w w'->Rel (Imm F (p.updL k v r L') ((k,ob)::M) w') w' ob.o ob.x r [v]):
  Tr F p M w [] (p.updL k v r L') ((k,ob)::M) w':=by
 have hnl:¬bm M k:=by unfold bm;rw[hk];simp
 have hlive:∀j,bm ((k,ob)::M) j<->j=k\/bm M j:=λj=>by
  unfold bm;rw[cJ];by_cases e:k=j
  ·simp[e]
  ·rw[aj e];simp[cM e]
 have hβ:∀j,j≠k->(p.updL k v r L').β j=p.β j:=λj hj=>by simp[Ow.updL,hj]
 have hσ:∀j,j≠k->(p.updL k v r L').σ j=p.σ j:=λj hj=>by simp[Ow.updL,hj]
 have hβk:(p.updL k v r L').β k=v:=by simp[Ow.updL]
 have hσk:(p.updL k v r L').σ k=r:=by simp[Ow.updL]
 have hkeep:cE (Imm F p M w) (Imm F (p.updL k v r L') ((k,ob)::M) w') w w':=λb hb=>by
  refine⟨⟨by have:=hg.size;have:=hb.1;omega,hb.2.1,λh=>hb.2.2.1 (hL' b h).1,λj hj=>?_⟩,hg.old b hb.1 hb.2.2.1⟩;rcases (hlive j).1 hj with rfl|hj
  ·rw[hσk];intro hrb;rcases hr b hrb with h1|h1
   ·have:=hb.1;omega
   ·exact hb.2.2.1 h1
  ·have hne:j≠k:=λe=>hnl (e▸hj);rw[hσ j hne];exact hb.2.2.2 j hj
 have hgo:∀j,j≠k->go ((k,ob)::M) j=go M j:=λj hj=>by rw[cJ,aj (cM hj)]
 have hblk:∀j,bm M j->∀b,p.σ j b->w'.heap[b]? = w.heap[b]?:=λj hj b hb=>hg.old b (h.own j b hj hb).1 (λhL=>(h.lim b hL).2.2 j hj hb);refine Tr.zero hkeep (λj π vs q=>?_) (λj π v' q=>?_) ⟨λj o hj=>?_,λj j' b hne hj hj' hb=>?_,λj b hj hb=>?_,λb hb=>?_,hg.os.trans h.os,hg.tape.trans h.tape,hg.output.trans h.output,c8 h.size hg.size,λb hb hR=>?_⟩
 ·have hne:j≠k:=by rintro rfl;obtain⟨o,_,h1,_⟩:=q;rw[hk]at h1;cases h1
  exact q.same h (hgo j hne) (hβ j hne) (hblk j)
 ·have hne:j≠k:=by rintro rfl;obtain⟨o,_,_,_,h1,_⟩:=q;rw[hk]at h1;cases h1
  exact q.same h (hgo j hne) (hβ j hne) (hblk j)
 ·by_cases e:j=k
  ·subst e;rw[cJ,am rfl]at hj;cases hj;rw[hβk,hσk];exact ho hkeep
  ·rw[hgo j e]at hj;rw[hβ j e,hσ j e];exact Rel.keep hkeep _ _ _ _ (hblk j (bP hj)) (h.objs j o hj)
 ·rcases (hlive j).1 hj with ej|hj0
  ·rw[ej,hσk]at hb;rcases (hlive j').1 hj' with ej'|hj0'
   ·exact absurd (ej.trans ej'.symm) hne
   ·have hn':j'≠k:=λe=>hnl (e▸hj0');rw[hσ j' hn'];intro hb';rcases hr b hb with h1|h1
    ·have:=(h.own j' b hj0' hb').1;omega
    ·exact (h.lim b h1).2.2 j' hj0' hb'
  ·have hn:j≠k:=λe=>hnl (e▸hj0);rw[hσ j hn]at hb;rcases (hlive j').1 hj' with ej'|hj0'
   ·rw[ej',hσk];intro hb';rcases hr b hb' with h1|h1
    ·have:=(h.own j b hj0 hb).1;omega
    ·exact (h.lim b h1).2.2 j hj0 hb
   ·have hn':j'≠k:=λe=>hnl (e▸hj0');rw[hσ j' hn'];exact h.sep j j' b hne hj0 hj0' hb
 ·rcases (hlive j).1 hj with ej|hj
  ·subst ej;rw[hσk]at hb;rcases hr b hb with h1|h1
   ·exact⟨h1.2,.inr (.inl (c8 h.size h1.1))⟩
   ·exact⟨by have:=(h.lim b h1).1;have:=hg.size;omega,.inr (h.lim b h1).2.1⟩
  ·have hn:j≠k:=λe=>hnl (e▸hj);rw[hσ j hn]at hb;have:=h.own j b hj hb;exact⟨by have:=hg.size;omega,this.2⟩
 ·have hb':=hL' b hb;refine⟨by have:=(h.lim b hb'.1).1;have:=hg.size;omega,(h.lim b hb'.1).2.1,λj hj=>?_⟩;rcases (hlive j).1 hj with ej|hj
  ·rw[ej,hσk];exact hb'.2
  ·have hn:j≠k:=λe=>hnl (e▸hj);rw[hσ j hn];exact (h.lim b hb'.1).2.2 j hj
 ·rw[hg.old b (by have:=h.size;omega) (λhL=>(h.lim b hL).2.1.r.elim hR λh'=>aa)];exact h.old b hb hR
theorem Tr.new(h:Hp F p M w)(k:Nat)(hk:go M k=none)(v:bw)(r:aT)(ob:Ob)(hg:ExtL w w' p.L)(hr:∀b,r b->w.heap.size<=b/\b<w'.heap.size\/p.L b)(ho:cE (Imm F p M w) (Imm F (p.upd k v r) ((k,ob)::M) w') w w'->Rel (Imm F (p.upd k v r) ((k,ob)::M) w') w' ob.o ob.x r [v]):
  Tr F p M w [] (p.upd k v r) ((k,ob)::M) w':=Tr.newL h k hk v r (λ_=>False) ob hg (λ_ hb=>hb.elim) hr ho
theorem Tr.drop(h:Hp F p M w)(L':aT)(hL:∀b,L' b->p.L b):Tr F p M w [] ⟨p.β,p.σ,L'⟩ M w:=by have hk:cE (Imm F p M w) (Imm F ⟨p.β,p.σ,L'⟩ M w) w w:=λb hb=>⟨⟨hb.1,hb.2.1,λh=>hb.2.2.1 (hL b h),hb.2.2.2⟩,rfl⟩;refine Tr.zero hk (λ_ _ _ r=>r) (λ_ _ _ r=>r) ⟨λk ob hg=>Rel.keep hk _ _ _ _ (λ_ _=>rfl) (h.objs k ob hg),h.sep,h.own,λb hb=>h.lim b (hL b hb),h.os,h.tape,h.output,h.size,h.old⟩
theorem Tr.grow(h:Hp F p M w)(hL:∀b,¬p.L b)(e:Ext w w')(L':aT)(hn:∀b,L' b->w.heap.size<=b/\b<w'.heap.size):Tr F p M w [] ⟨p.β,p.σ,L'⟩ M w':=by
 have hk:cE (Imm F p M w) (Imm F ⟨p.β,p.σ,L'⟩ M w') w w':=λb hb=>⟨⟨by have:=e.size;have:=hb.1;omega,hb.2.1,λh=>by have:=(hn b h).1;have:=hb.1;omega,hb.2.2.2⟩,e.old b hb.1⟩
 refine Tr.zero hk (λ_ _ _ r=>r.same h rfl rfl (λhl b hb=>e.old b (h.own _ b hl hb).1)) (λ_ _ _ r=>r.same h rfl rfl (λhl b hb=>e.old b (h.own _ b hl hb).1))
  ⟨λk ob hg=>Rel.keep hk _ _ _ _ (λb hb=>e.old b (h.own k b (bP hg) hb).1) (h.objs k ob hg),h.sep,λk b h1 h2=>?_,λb hb=>?_,e.os.trans h.os,e.tape.trans h.tape,e.output.trans h.output,c8 h.size e.size,λb hb hR=>?_⟩
 ·have:=h.own k b h1 h2;exact⟨by have:=e.size;omega,this.2⟩
 ·refine⟨(hn b hb).2,.inl (by have:=(hn b hb).1;have:=h.size;omega),λk hk hs=>?_⟩;have:=(h.own k b hk hs).1;have:=(hn b hb).1;omega
 ·rw[e.old b (by have:=h.size;omega)];exact h.old b hb hR
theorem Tr.growL(h:Hp F p M w)(e:ExtL w w' p.L)(L':aT)(hn:∀b,L' b->p.L b\/w.heap.size<=b/\b<w'.heap.size):Tr F p M w [] ⟨p.β,p.σ,L'⟩ M w':=by
 have hblk:∀j,bm M j->∀b,p.σ j b->w'.heap[b]? = w.heap[b]?:=λj hj b hb=>e.old b (h.own j b hj hb).1 (λhL=>(h.lim b hL).2.2 j hj hb);have hk:cE (Imm F p M w) (Imm F ⟨p.β,p.σ,L'⟩ M w') w w':=λb hb=>⟨⟨fF hb.1 e.size,hb.2.1,λh'=>(hn b h').elim hb.2.2.1 (λh'=>by have:=hb.1;omega),hb.2.2.2⟩,e.old b hb.1 hb.2.2.1⟩;refine Tr.zero hk (λj _ _ r=>r.same h rfl rfl (hblk j)) (λj _ _ r=>r.same h rfl rfl (hblk j)) ⟨λk ob hg=>Rel.keep hk _ _ _ _ (hblk k (bP hg)) (h.objs k ob hg),h.sep,λk b h1 h2=>?_,λb hb=>?_,e.os.trans h.os,e.tape.trans h.tape,e.output.trans h.output,c8 h.size e.size,λb hb hR=>?_⟩
 ·have:=h.own k b h1 h2;exact⟨fF this.1 e.size,this.2⟩
 ·rcases hn b hb with h1|h1
  ·exact⟨fF (h.lim b h1).1 e.size,(h.lim b h1).2⟩
  ·exact⟨h1.2,.inl (c8 h.size h1.1),λk hk hs=>by have:=(h.own k b hk hs).1;omega⟩
 ·rw[e.old b (fF hb h.size) (λhL=>(h.lim b hL).2.1.r.elim hR λh'=>aa)];exact h.old b hb hR
end Go.Bm
