/- The typed machine that the walks of this claim go by: its data, its operations and the proof that each is sound. No condition. -/
import Derived.WalkKit
set_option linter.unusedVariables false
set_option linter.unusedSimpArgs false
set_option linter.unusedSectionVars false
/- The ff machine:data with Lean types,trees of own memory,abstract values. -/
namespace Go.Bm
open Go.RowKit
abbrev a0j:=@cond_false
abbrev a2n:=@Bool.and_self
abbrev a0o:=@Bool.and_true
abbrev a3c:=@Nat.beq_refl
abbrev a0b:=@Bool.and_eq_true
abbrev a0r:=@beq_iff_eq
abbrev a0e:=@Option.some.injEq
abbrev a16:=@Nat.zero_add
abbrev a0m:=@List.length_append
abbrev a2d:=@List.getElem_of_mem
abbrev a0p:=@List.getElem?_eq_getElem
abbrev a0s:=@List.mem_singleton
abbrev a07:=@List.mem_append
abbrev a1d:=@List.getElem?_take
abbrev a1l:=@List.getElem?_drop
abbrev a22:=@Nat.add_assoc
abbrev a2f:=@cell_of_row
abbrev a4n:=@List.take_left
abbrev a2o:=@List.ext_getElem?
abbrev a1r:=@List.getElem?_map
abbrev a2p:=@List.getElem?_range
abbrev a1e:=@Option.map_some
abbrev a12:=@List.getElem?_eq_none
abbrev a2q:=@Nat.mul_le_mul_right
abbrev a2g:=@Nat.add_mul
abbrev a0a:=@if_pos
abbrev a01:=@List.append_assoc
abbrev a1f:=@List.getElem?_append_left
abbrev ds:=@if_neg
abbrev a1s:=@List.getElem?_append_right
abbrev a1x:=@List.take_append_drop
abbrev a4o:=@List.take_append_of_le_length
abbrev a36:=@List.drop_append_of_le_length
abbrev a3d:=@List.take_append
abbrev a1c:=@List.take_of_length_le
abbrev a4p:=@List.drop_of_length_le
abbrev a13:=@List.length_drop
abbrev a2s:=@List.nil_append
abbrev a4q:=@Nat.add_sub_cancel_left
abbrev a1i:=@List.getElem?_eq_some_iff
abbrev a0n:=@Prod.mk.injEq
abbrev a23:=@Array.length_toList
abbrev a4r:=@List.drop_take
abbrev a3l:=@List.drop_drop
abbrev a03:=@List.length_take
abbrev a4s:=@List.take_zero
abbrev a0k:=@Nat.le_refl
abbrev a2e:=@List.append_nil
abbrev a0l:=@List.getD_eq_getElem?_getD
abbrev a1m:=@List.length_set
abbrev a0u:=@Ne.symm
abbrev a2v:=@List.getElem?_set
abbrev a04:=@if_true
abbrev a0v:=@Nat.eq_of_beq_eq_true
abbrev a0z:=@Nat.le_trans
abbrev a1a:=@Nat.lt_of_lt_of_le
def nb:Nat:=140737488355328
def inK(k:IntKind)(n:Int):Prop:=k.min<=n/\n<=k.max
def ap{α:Type}:List α->List α->List α
 |[],b=>b
 |x::a,b=>x::ap a b
theorem mj{α:Type}(a b:List α):ap a b=a++b:=by
 induction a with
 |nil=>rfl
 |cons x a ih=>rw[ap,ih];rfl
def len{α:Type}:List α->Nat
 |[]=>0
 |_::r=>Nat.succ (len r)
theorem aga{α:Type}(a:List α):len a=a.length:=by
 induction a with
 |nil=>rfl
 |cons x a ih=>rw[len,ih];rfl
def pq{α:Type}:List α->Nat->Option α
 |[],_=>none
 |x::_,0=>some x
 |_::r,n+1=>pq r n
theorem afp{α:Type}(a:List α)(i:Nat):pq a i=a[i]?:=by
 induction a generalizing i with
 |nil=>rfl
 |cons x a ih=>cases i with
  |zero=>rfl
  |succ i=>rw[pq,ih];rfl
def eq{α:Type}:Nat->List α->List α
 |0,_|_+1,[]=>[]
 |n+1,x::r=>x::eq n r
theorem am5{α:Type}(n:Nat)(a:List α):eq n a=a.take n:=by
 induction n generalizing a with
 |zero=>rfl
 |succ n ih=>cases a with
  |nil=>rfl
  |cons x a=>rw[eq,ih];rfl
def nz{α:Type}:Nat->List α->List α
 |0,a=>a
 |_+1,[]=>[]
 |n+1,_::r=>nz n r
theorem arb{α:Type}(n:Nat)(a:List α):nz n a=a.drop n:=by
 induction n generalizing a with
 |zero=>rfl
 |succ n ih=>cases a with
  |nil=>rfl
  |cons x a=>rw[nz,ih];rfl
def aae{α:Type}(x:α):Nat->List α
 |0=>[]
 |n+1=>x::aae x n
def aud{α:Type}:List α->Nat->α->List α
 |[],_,_=>[]
 |_::r,0,y=>y::r
 |x::r,n+1,y=>x::aud r n y
def bja{α:Type}(p:α->Bool):List α->Bool
 |[]=>true
 |x::r=>bif p x then bja p r else false
def toL{α:Type}:Array α->List α
 |⟨l⟩=>l
def aph:Nat->Nat->Nat
 |0,b=>b
 |a+1,b=>Nat.succ (aph a b)
@[simp] theorem avy (a b:Nat):aph a b=a+b:=by
 induction a with
 |zero=>simp[aph]
 |succ a ih=>rw[aph,ih];omega
def isZ:Nat->Bool
 |0=>true
 |_+1=>false
def bx4:Nat->Nat
 |0=>0
 |n+1=>n
def gb:Nat->Nat->Bool
 |0,b=>isZ b
 |a+1,b=>bif isZ b then false else gb a (bx4 b)
@[simp] theorem iz (a b:Nat):gb a b=(a==b):=by
 induction a generalizing b with
 |zero=>cases b<;>rfl
 |succ a ih=>cases b with
  |zero=>rfl
  |succ b=>simp only[gb,isZ,bx4,a0j];rw[ih];simp
def nob(a b:Bool):Bool:=bif a then b else false
def neg(a:Bool):Bool:=bif a then false else true
def orb(a b:Bool):Bool:=bif a then true else b
def zj{α β:Type}(f:α->β):Option α->Option β
 |none=>none
 |some x=>some (f x)
def isN{α:Type}:Option α->Bool
 |none=>true
 |some _=>false
@[simp] theorem be (a b:Bool):nob a b=(a&&b):=by cases a<;>rfl
@[simp] theorem lq (a b:Bool):orb a b=(a||b):=by cases a<;>rfl
@[simp] theorem qu (a:Bool):neg a=!a:=by cases a<;>rfl
inductive T where
 |int (k:IntKind)
 |bool
 |str
 |u
 |p (a b:T)
 |sl (e:T)
 |pt (t:T)
 |fn (f:FuncId) (t:T)
 |ifc (i:TypeId) (t:T)
 |ib (i:TypeId) (t:T)
 |mp (k v:T)
 |op (t:T)
 |ns (t:T)
 |er (i:TypeId)
 |any
@[reducible] def T.den:T->Type
 |.int _=>Int
 |.bool=>Bool
 |.str=>ByteArray
 |.u=>Unit
 |.p a b=>a.den×b.den
 |.sl e=>List e.den
 |.pt t|.fn _ t|.ifc _ t|.ib _ t=>t.den
 |.mp k v=>List (k.den×v.den)
 |.op t|.ns t=>Option t.den
 |.er _=>Bool
 |.any=>Unit
def T.dflt:(t:T)->t.den
 |.int _=>(0:Int)
 |.bool=>false
 |.str=>ByteArray.empty
 |.u=>()
 |.p a b=>(a.dflt,b.dflt)
 |.sl _=>[]
 |.pt t|.fn _ t|.ifc _ t|.ib _ t=>t.dflt
 |.mp _ _=>[]
 |.op _|.ns _=>none
 |.er _=>false
 |.any=>()
def T.size:T->Nat
 |.u=>0
 |.p a b=>aph a.size b.size
 |.op t=>t.size
 |_=>1
def afm:IntKind->IntKind->Bool
 |.i8,.i8|.i16,.i16|.i32,.i32|.i64,.i64|.u8,.u8|.u16,.u16|.u32,.u32|.u64,.u64=>true
 |_,_=>false
theorem ac1{a b:IntKind}(h:afm a b=true):a=b:=by cases a<;>cases b<;>first|rfl|(simp[afm]at h)
theorem bs9(a:IntKind):afm a a=true:=by cases a<;>rfl
def T.beq:T->T->Bool
 |.int k,.int k'=>afm k k'
 |.bool,.bool|.str,.str|.u,.u=>true
 |.p a b,.p a' b'=>nob (a.beq a') (b.beq b')
 |.sl e,.sl e'|.pt e,.pt e'=>e.beq e'
 |.fn f t,.fn f' t'|.ifc f t,.ifc f' t'|.ib f t,.ib f' t'=>nob (Nat.beq f f') (t.beq t')
 |.mp k v,.mp k' v'=>nob (k.beq k') (v.beq v')
 |.op e,.op e'|.ns e,.ns e'=>e.beq e'
 |.er i,.er j=>Nat.beq i j
 |.any,.any=>true
 |_,_=>false
theorem T.beq_eq:{a b:T}->a.beq b=true->a=b
 |.int k,b,h=>by cases b<;>simp[T.beq]at h;rw[ac1 h]
 |.bool,b,h|.str,b,h|.u,b,h=>by cases b<;>simp[T.beq]at h;rfl
 |.p a1 a2,b,h=>by cases b<;>simp[T.beq]at h;rw[T.beq_eq h.1,T.beq_eq h.2]
 |.sl e,b,h|.pt e,b,h=>by cases b<;>simp[T.beq]at h;rw[T.beq_eq h]
 |.fn f t,b,h|.ifc f t,b,h|.ib f t,b,h=>by cases b<;>simp[T.beq]at h;rw[h.1,T.beq_eq h.2]
 |.mp k v,b,h=>by cases b<;>simp[T.beq]at h;rw[T.beq_eq h.1,T.beq_eq h.2]
 |.op e,b,h|.ns e,b,h=>by cases b<;>simp[T.beq]at h;rw[T.beq_eq h]
 |.er i,b,h=>by cases b<;>simp[T.beq]at h;rw[h]
 |.any,b,h=>by cases b<;>simp[T.beq]at h;rfl
def rj{a:T}(b:T)(x:a.den):Option b.den:=
 match h:a.beq b with
 |true=>some (T.beq_eq h▸x)
 |false=>none
theorem T.beq_refl:(a:T)->a.beq a=true
 |.int k=>bs9 k
 |.bool|.str|.u=>rfl
 |.p a b=>by simp only[T.beq,T.beq_refl a,T.beq_refl b,be,a2n]
 |.sl e|.pt e=>by simp only[T.beq];exact T.beq_refl e
 |.fn f t|.ifc f t|.ib f t=>by simp only[T.beq,T.beq_refl t,be,a0o];exact a3c f
 |.mp k v=>by simp only[T.beq,T.beq_refl k,T.beq_refl v,be,a2n]
 |.op e|.ns e=>by simp only[T.beq,T.beq_refl e]
 |.er i=>by simp only[T.beq];exact a3c i
 |.any=>rfl
theorem aak{a:T}(x:a.den):rj a x=some x:=by
 unfold rj;split
 ·rfl
 ·rename_i h;rw[T.beq_refl a]at h;cases h
def T.dec:(t:T)->DecidableEq t.den
 |.int _=>fun a b=>decEq (α:=Int) a b
 |.bool=>fun a b=>decEq (α:=Bool) a b
 |.str=>fun a b=>decEq (α:=ByteArray) a b
 |.u=>fun _ _=>isTrue rfl
 |.p a b=>@instDecidableEqProd a.den b.den a.dec b.dec
 |.sl e=>@instDecidableEqList e.den e.dec
 |.pt t|.fn _ t|.ifc _ t|.ib _ t=>t.dec
 |.mp k v=>@instDecidableEqList (k.den×v.den) (@instDecidableEqProd k.den v.den k.dec v.dec)
 |.op t|.ns t=>@Option.instDecidableEq t.den t.dec
 |.er _=>fun a b=>decEq (α:=Bool) a b
 |.any=>fun _ _=>isTrue rfl
def eqR(t:T)(a b:t.den):Bool:=@decide (a=b) (t.dec a b)
theorem abf{t:T}{a b:t.den}:eqR t a b=true<->a=b:=by simp[eqR]
@[simp] theorem bjz {t:T} (a:t.den):eqR t a a=true:=abf.2 rfl
theorem bxw{t:T}{a b:t.den}(h:a≠b):eqR t a b=false:=by
 cases h':eqR t a b with
 |false=>rfl
 |true=>exact absurd (abf.1 h') h
def bli(k v:T)(l:List (k.den×v.den))(x:k.den):Option v.den:=(l.find? fun e=>eqR k x e.1).map (·.2)
def bqr(k v:T):List (k.den×v.den)->k.den->v.den->List (k.den×v.den)
 |[],x,y=>[(x,y)]
 |e::r,x,y=>if eqR k x e.1=true then (x,y)::r else e::bqr k v r x y
def T.ok:(t:T)->t.den->Prop
 |.int k,n=>inK k n
 |.str,s=>s.size<=nb
 |.p a b,x=>a.ok x.1/\b.ok x.2
 |.sl e,l=>l.length<=nb/\∀y∈l,e.ok y
 |.pt t,x|.fn _ t,x|.ifc _ t,x|.ib _ t,x=>t.ok x
 |.mp k v,l=>l.length<=nb/\∀y∈l,k.ok y.1/\v.ok y.2
 |.op t,x|.ns t,x=>∀y,x=some y->t.ok y
 |.er _,_|.bool,_|.u,_|.any,_=>True
inductive O where
 |fz (t:T)
 |p (a b:O)
 |sl (e:O)
 |pt (t:O)
 |mp (k v:T)
 |op (e:O)
@[reducible] def O.strip:O->T
 |.fz t=>t
 |.p a b=>.p a.strip b.strip
 |.sl e=>.sl e.strip
 |.pt t=>.pt t.strip
 |.mp k v=>.mp k v
 |.op e=>.op e.strip
def O.beq:O->O->Bool
 |.fz t,.fz t'=>t.beq t'
 |.p a b,.p a' b'=>nob (a.beq a') (b.beq b')
 |.sl e,.sl e'|.pt e,.pt e'=>e.beq e'
 |.mp k v,.mp k' v'=>nob (k.beq k') (v.beq v')
 |.op e,.op e'=>e.beq e'
 |_,_=>false
theorem O.beq_eq:{a b:O}->a.beq b=true->a=b
 |.fz t,b,h=>by cases b<;>simp[O.beq]at h;rw[T.beq_eq h]
 |.p a1 a2,b,h=>by cases b<;>simp[O.beq]at h;rw[O.beq_eq h.1,O.beq_eq h.2]
 |.sl e,b,h|.pt e,b,h=>by cases b<;>simp[O.beq]at h;rw[O.beq_eq h]
 |.mp k v,b,h=>by cases b<;>simp[O.beq]at h;rw[T.beq_eq h.1,T.beq_eq h.2]
 |.op e,b,h=>by cases b<;>simp[O.beq]at h;rw[O.beq_eq h]
theorem O.beq_refl:(o:O)->o.beq o=true
 |.fz t=>by simp only[O.beq];exact T.beq_refl t
 |.p a b=>by simp only[O.beq,O.beq_refl a,O.beq_refl b,be,a2n]
 |.sl e|.pt e=>by simp only[O.beq];exact O.beq_refl e
 |.mp k v=>by simp only[O.beq,T.beq_refl k,T.beq_refl v,be,a2n]
 |.op e=>by simp only[O.beq];exact O.beq_refl e
def O.wk:O->O->Bool
 |.p a b,.p a' b'=>nob (a.wk a') (b.wk b')
 |.sl e,.sl e'|.pt e,.pt e'=>e.wk e'
 |.mp k v,.mp k' v'=>nob (k.beq k') (v.beq v')
 |.op e,.op e'=>e.beq e'
 |o,.fz t=>o.strip.beq t
 |.fz (.p a b),.p a' b'=>nob (O.wk (.fz a) a') (O.wk (.fz b) b')
 |_,_=>false
structure Ob where
 o:O
 x:o.strip.den
def yp(q:Ob)(o:O):Option o.strip.den:=
 match h:q.o.beq o with
 |true=>some (O.beq_eq h▸q.x)
 |false=>none
def mkP(a b:Ob):Ob:=
 match a,b with
 |⟨.fz s,x⟩,⟨.fz t,y⟩=>⟨.fz (.p s t),(x,y)⟩
 |⟨o,x⟩,⟨o',y⟩=>⟨.p o o',(x,y)⟩
def T.deep:T->O
 |.p a b=>(match a.deep,b.deep with
  |.fz s,.fz t=>.fz (.p s t)
  |o,o'=>.p o o')
 |.sl e=>.sl e.deep
 |.mp k v=>.mp k v
 |t=>.fz t
theorem T.deep_strip:(t:T)->t.deep.strip=t
 |.p a b=>by
  have h1:=T.deep_strip a;have h2:=T.deep_strip b;simp only[T.deep];split
  ·rename_i h h';rw[h]at h1;rw[h']at h2;simp only[O.strip]at h1 h2⊢;rw[h1,h2]
  ·simp only[O.strip,h1,h2]
 |.sl e=>by simp only[T.deep,O.strip,T.deep_strip e]
 |.int _|.bool|.str|.u|.pt _|.fn _ _|.ifc _ _|.ib _ _|.mp _ _|.op _|.ns _|.er _|.any=>rfl
def O.dflt:(o:O)->o.strip.den
 |.fz t=>t.dflt
 |.p a b=>(a.dflt,b.dflt)
 |.sl _=>[]
 |.pt t=>t.dflt
 |.mp _ _=>[]
 |.op _=>none
inductive Step where
 |l
 |r
 |de
 |ix (i:Nat)
abbrev cr:=List Step
def get:cr->(o:O)->o.strip.den->Option Ob
 |[],o,x=>some ⟨o,x⟩
 |.l::π,.p a _,x=>get π a x.1
 |.r::π,.p _ b,x=>get π b x.2
 |.l::π,.fz (.p a _),x=>get π (.fz a) x.1
 |.r::π,.fz (.p _ b),x=>get π (.fz b) x.2
 |.ix i::π,.sl e,x=>get π e (x.getD i e.dflt)
 |.de::π,.pt t,x=>get π t x
 |_,_,_=>none
def set:cr->(o:O)->o.strip.den->Ob->Option Ob
 |[],_,_,n=>some n
 |.l::π,.p a b,x,n=>(match set π a x.1 n with|some q=>some (mkP q ⟨b,x.2⟩)|none=>none)
 |.r::π,.p a b,x,n=>(match set π b x.2 n with|some q=>some (mkP ⟨a,x.1⟩ q)|none=>none)
 |.l::π,.fz (.p a b),x,n=>(match set π (.fz a) x.1 n with|some q=>some (mkP q ⟨.fz b,x.2⟩)|none=>none)
 |.r::π,.fz (.p a b),x,n=>(match set π (.fz b) x.2 n with|some q=>some (mkP ⟨.fz a,x.1⟩ q)|none=>none)
 |.ix i::π,.sl e,x,n=>(match set π e (x.getD i e.dflt) n with
  |some q=>(match yp q e with|some y=>some ⟨.sl e,x.set i y⟩|none=>none)
  |none=>none)
 |.de::π,.pt t,x,n=>(match set π t x n with|some q=>some ⟨.pt q.o,q.x⟩|none=>none)
 |_,_,_,_=>none
def agp:cr->Bool
 |[]=>false
 |.ix _::_=>true
 |_::π=>agp π
inductive V where
 |any
 |nl
 |np
 |u
 |d (t:T) (x:t.den)
 |ref (k:Nat) (π:cr)
 |ad (k:Nat) (π:cr)
 |p (a b:V)
 |ag (v:V)
 |tup (v:V)
 |gd (j:Nat) (w:Bool) (P:Prop) (v:V)
 |fn (f:FuncId) (v:V)
 |ifc (t:TypeId) (v:V)
 |bx (v:V)
abbrev Env:=List (Nat×V)
abbrev Mem:=List (Nat×Ob)
def gt:Env->Nat->V
 |[],_=>.any
 |(k,v)::r,t=>bif Nat.beq k t then v else gt r t
def go:Mem->Nat->Option Ob
 |[],_=>none
 |(k,v)::r,t=>bif Nat.beq k t then some v else go r t
def del(k:Nat):Mem->Mem
 |[]=>[]
 |(j,o)::r=>bif Nat.beq j k then del k r else (j,o)::del k r
def put(k:Nat)(o:Ob):Mem->Mem
 |[]=>[]
 |(j,x)::r=>bif Nat.beq j k then (k,o)::r else (j,x)::put k o r
def qh(M:Mem)(k:Nat)(π:cr):Option Ob:=
 match go M k with
 |some ob=>get π ob.o ob.x
 |none=>none
def n9:(t:T)->t.den->V
 |.p a b,x=>.p (n9 a x.1) (n9 b x.2)
 |.u,_=>.u
 |t,x=>.d t x
def toV(k:Nat):cr->(o:O)->o.strip.den->V
 |_,.fz t,x=>n9 t x
 |π,.pt _,_=>.ad k (ap π [.de])
 |π,_,_=>.ref k π
def peq:cr->cr->Bool
 |[],[]=>true
 |.l::a,.l::b|.r::a,.r::b|.de::a,.de::b=>peq a b
 |_,_=>false
def jj:cr->O->Option Nat
 |[],_=>some 0
 |.l::π,.p a _=>jj π a
 |.r::π,.p a b=>(match jj π b with|some n=>some (aph a.strip.size n)|none=>none)
 |.l::π,.fz (.p a _)=>jj π (.fz a)
 |.r::π,.fz (.p a b)=>(match jj π (.fz b)with|some n=>some (aph a.size n)|none=>none)
 |_,_=>none
def qb:cr->O->Option Nat
 |.de::π,.pt o=>jj π o
 |_,_=>none
def aan:Option Nat->Option Nat->Bool
 |some a,some b=>gb a b
 |_,_=>false
def z7:cr->Bool
 |[]=>true
 |_=>false
def O.hole:O->T
 |.fz t=>t
 |.p a b=>.p a.hole b.hole
 |.sl _|.pt _|.mp _ _=>.any
 |.op e=>.op e.strip
def O.holeX:(o:O)->o.strip.den->o.hole.den
 |.fz _,x=>x
 |.p a b,x=>(a.holeX x.1,b.holeX x.2)
 |.sl _,_|.pt _,_|.mp _ _,_=>()
 |.op _,_=>none
def trk:cr->O->Option (List Nat)
 |[],_=>some []
 |.l::π,.p a _=>(match trk π a with|some l=>some (0::a.strip.size::l)|none=>none)
 |.r::π,.p a b=>(match trk π b with|some l=>some (1::a.strip.size::l)|none=>none)
 |.de::π,.pt t=>(match trk π t with|some l=>some (2::t.strip.size::l)|none=>none)
 |_,_=>none
def bh7:List Nat->List Nat->Bool
 |[],[]=>true
 |a::l,b::r=>nob (gb a b) (bh7 l r)
 |_,_=>false
theorem bir:∀{a b:List Nat},bh7 a b=true->a=b
 |[],[],_=>rfl
 |a::l,b::r,h=>by simp only[bh7,be,a0b,iz,a0r]at h;rw[h.1,bir h.2]
 |[],_::_,h|_::_,[],h=>by cases h
def bhw:Option (List Nat)->Option (List Nat)->Bool
 |some a,some b=>bh7 a b
 |_,_=>false
inductive Ev where
 |mv (r k:Nat)
 |kl (k:Nat)
 |cut (k:Nat) (o o':O)
 |fz (k:Nat) (ob:Ob)
 |un (k j:Nat)
 |tk (k:Nat) (o o':O)
 |kn (k:Nat) (v:V)
def Ev.ref(k:Nat)(π:cr):Ev->V
 |.mv r k'=>bif Nat.beq k r then .ref k' π else .ref k π
 |.kl r=>bif Nat.beq k r then .any else .ref k π
 |.cut r _ _=>bif Nat.beq k r then (bif z7 π then .ref k π else .any)else .ref k π
 |.fz r ob=>bif Nat.beq k r then (match get π ob.o ob.x with|some q=>n9 q.o.strip q.x|none=>.any)else .ref k π
 |.un r _|.kn r _=>bif Nat.beq k r then .any else .ref k π
 |.tk r o o'=>bif Nat.beq k r then (bif orb (z7 π) (bhw (trk π o) (trk π o'))then .ref k π else .any)else .ref k π
def Ev.ad(k:Nat)(π:cr):Ev->V
 |.mv r k'=>bif Nat.beq k r then .ad k' π else .ad k π
 |.kl r=>bif Nat.beq k r then .any else .ad k π
 |.cut r o o'=>bif Nat.beq k r then (bif aan (qb π o) (qb π o')then .ad k π else .any)else .ad k π
 |.fz r ob=>bif Nat.beq k r then (match get π ob.o ob.x with|some q=>.d (.pt q.o.strip) q.x|none=>.any)else .ad k π
 |.un r j=>bif Nat.beq k r then (match π with|[.de]=>.bx (.ad j [.de])|_=>.any)else .ad k π
 |.kn r v=>bif Nat.beq k r then (match π with|[.de]=>.bx v|_=>.any)else .ad k π
 |.tk r o o'=>bif Nat.beq k r then (bif aan (qb π o) (qb π o')then .ad k π else .any)else .ad k π
def V.ev(e:Ev):V->V
 |.ref k π=>e.ref k π
 |.ad k π=>e.ad k π
 |.p a b=>.p (a.ev e) (b.ev e)
 |.ag v=>.ag (v.ev e)
 |.tup v=>.tup (v.ev e)
 |.gd j w P v=>.gd j w P (v.ev e)
 |.fn f v=>.fn f (v.ev e)
 |.ifc t v=>.ifc t (v.ev e)
 |.bx v=>.bx (v.ev e)
 |v=>v
def V.evs(v:V):List Ev->V
 |[]=>v
 |e::r=>(v.ev e).evs r
def evE(e:Ev):Env->Env
 |[]=>[]
 |(t,v)::r=>(t,v.ev e)::evE e r
def p8(env:Env):List Ev->Env
 |[]=>env
 |e::r=>p8 (evE e env) r
end Go.Bm
/- The ff machine:what the operations give. -/
namespace Go.Bm
open Go.RowKit
structure Ty where
 ok:Bool
 agg:Bool
 bl:Bool
 st:Bool
 sz:Bool
 size:Nat
 bytes:Nat
 el:Option TypeId
 int:Option IntKind
 mp:Option (TypeId×TypeId)
 fld:List (Nat×TypeId×Nat)
 arr:Option (TypeId×Nat)
 ifc:Bool
def rk(P:Program)(i:TypeInfo)(u:TypeDesc):Ty:={
 ok:=true
 agg:=(match u with|.struct _=>true|.array _ _=>true|_=>false)
 bl:=(match u with|.bool=>true|_=>false)
 st:=(match u with|.string=>true|_=>false)
 sz:=(match u with|.struct fs=>fs.toList.all fun f=>(P.info? f.type).isSome|_=>false)
 size:=i.size
 bytes:=i.bytes
 el:=(match u with|.slice e=>some e|_=>none)
 int:=(match u with|.int k=>some k|_=>none)
 mp:=(match u with|.map k e=>(match P.info? e with|some ie=>(match ie.zero with|some (.agg _)=>none|some _=>some (k,e)|none=>none)|none=>none)|_=>none)
 fld:=(match u with|.struct fs=>fs.toList.map fun f=>(f.offset,f.type,P.cellsOf f.type)|_=>[])
 arr:=(match u with|.array n e=>some (e,n)|_=>none)
 ifc:=(match u with|.interface _=>true|_=>false) }
def bpn:Ty:=⟨false,false,false,false,false,0,0,none,none,none,[],none,false⟩
def ty(P:Program)(t:TypeId):Ty:=
 match P.info? t,P.underlying t with
 |some i,some u=>rk P i u
 |_,_=>bpn
def tyZ(P:Program)(t:TypeId):Option (List Value):=
 match P.info? t with
 |some i=>(match i.zero with|some z=>some z.cells.toList|none=>none)
 |none=>none
structure Mth where
 t:TypeId
 i:TypeId
 name:String
 f:FuncId
structure Tab where
 τ:TypeId->Ty
 σ:TypeId->T
 z:TypeId->Bool
 q:TypeId->Nat
 m:List Mth
 tk:Bool
def bkd:List Mth->TypeId->TypeId->Bool
 |[],_,_=>false
 |e::r,t,i=>orb (nob (Nat.beq e.t t) (Nat.beq e.i i)) (bkd r t i)
def bb0:List Mth->TypeId->String->Option FuncId
 |[],_,_=>none
 |e::r,t,n=>bif nob (Nat.beq e.t t) (e.name==n)then some e.f else bb0 r t n
def agl:Nat->Nat->cr
 |0,_|1,_=>[]
 |_+2,0=>[.l]
 |n+2,i+1=>.r::agl (Nat.succ n) i
def c8:cr->T->Option Nat
 |[],_=>some 0
 |.l::π,.p a _=>c8 π a
 |.r::π,.p a b=>(match c8 π b with|some n=>some (aph a.size n)|none=>none)
 |_,_=>none
def ayx:cr->(t:T)->t.den->Option ((t:T)×t.den)
 |[],t,x=>some ⟨t,x⟩
 |.l::π,.p a _,x=>ayx π a x.1
 |.r::π,.p _ b,x=>ayx π b x.2
 |_,_,_=>none
structure Rs where
 vc:List Prop
 av:V
 ev:List Ev
 M:Mem
def c7(M:Mem):Rs:=⟨[False],.any,[],M⟩
def dh(q:List Prop×V)(M:Mem):Rs:=⟨q.1,q.2,[],M⟩
def bad:List Prop×V:=([False],.any)
def du(v:V):List Prop×V:=([],v)
def cd:List Bool->Bool
 |[]=>true
 |b::r=>bif b then cd r else false
def inKb(k:IntKind)(n:Int):Bool:=cd [decide (k.min<=n),decide (n<=k.max)]
def rdV:Value->V
 |.int k n=>.d (.int k) n
 |.bool b=>.d .bool b
 |.string s=>.d .str s
 |.slice none n m=>bif nob (Nat.beq n 0) (Nat.beq m 0)then .nl else .any
 |.pointer none=>.np
 |.nilIface=>.d (.er 0) false
 |_=>.any
def rd(env:Env):Operand->V
 |.tmp t=>gt env t
 |.const v=>rdV v
 |.func f=>.fn f .u
 |.global _=>.any
def bqo:Value->Bool
 |.int k n=>inKb k n
 |.string s=>Nat.ble s.size nb
 |_=>true
def acy:Operand->Bool
 |.const v=>bqo v
 |_=>true
def V.boolV:V->Bool
 |.d .bool b=>b
 |_=>false
def V.isB:V->Bool
 |.d .bool _=>true
 |_=>false
def V.strip:V->V
 |.gd _ _ _ v|v=>v
def ar(k:IntKind)(n:Int):List Prop×V:=
 match k with
 |.i64=>([inK .i64 n],.d (.int .i64) n)
 |k=>([],.d (.int k) (k.wrap n))
def ats(k:IntKind)(a b:Int):Int:=k.wrap ((BitVec.ofInt k.bits a &&& BitVec.ofInt k.bits b).toNat:Nat)
def ao6(k:IntKind)(a b:Int):Int:=a.fdiv (2 ^ (min b.toNat k.bits))
def adi(op:BinOp)(k:IntKind)(a b:Int):List Prop×V:=
 match op with
 |.and=>du (.d (.int k) (ats k a b))
 |.shr=>([0<=b,inK k (ao6 k a b)],.d (.int k) (ao6 k a b))
 |.add=>ar k (a+b)
 |.sub=>ar k (a-b)
 |.mul=>ar k (a*b)
 |.quo=>(match ar k (a.tdiv b)with|(l,v)=>((b≠0)::l,v))
 |.rem=>([b≠0,inK k (a.tmod b)],.d (.int k) (a.tmod b))
 |.eql=>du (.d .bool (a==b))
 |.neq=>du (.d .bool (a != b))
 |.lss=>du (.d .bool (decide (a<b)))
 |.leq=>du (.d .bool (decide (a<=b)))
 |.gtr=>du (.d .bool (decide (b<a)))
 |.geq=>du (.d .bool (decide (b<=a)))
 |_=>bad
def mxR(a b:Int):Int:=if b>a then b else a
def mnR(a b:Int):Int:=if b<a then b else a
def biu(g:Bool)(x y:V):List Prop×V:=
 match x,y with
 |.d (.int k) a,.d (.int k') b=>bif afm k k' then du (.d (.int k) (bif g then mxR a b else mnR a b))else bad
 |_,_=>bad
def bpj(_:BinOp)(_ _:ByteArray):List Prop×V:=bad
def bhj(τ:Ty)(op:BinOp)(x y:V):List Prop×V:=
 match x,y with
 |.d (.int k) a,.d (.int k') b=>bif afm k k' then adi op k a b else bad
 |.d .bool a,.d .bool b=>bif cd [τ.ok,τ.bl]then (match op with
  |.eql=>du (.d .bool (a==b))
  |.neq=>du (.d .bool (a != b))
  |_=>bad)else bad
 |.d .str a,.d .str b=>bpj op a b
 |_,_=>bad
def agn:Nat->V->V->Option Bool
 |1,.d (.int k) x,.d (.int k') y=>bif afm k k' then some (x==y)else none
 |Nat.succ (Nat.succ n),.p (.d (.int k) x) a,.p (.d (.int k') y) b=>(match agn (Nat.succ n) a b with
  |some r=>bif afm k k' then some ((x==y)&&r)else none
  |none=>none)
 |_,_,_=>none
def by0(n:Nat)(op:BinOp)(a b:V):List Prop×V:=
 match op,agn n a b with
 |.eql,some r=>du (.d .bool r)
 |.neq,some r=>du (.d .bool (!r))
 |_,_=>bad
def bb2(B:Tab)(t:TypeId)(op:BinOp)(x y:V):List Prop×V:=
 match x,y with
 |.ag a,.ag b=>by0 (B.q t) op a b
 |x,y=>bhj (B.τ t) op x y
def bry:Operand->Bool
 |.const .nilIface=>true
 |_=>false
def bko:Operand->Bool
 |.const (.slice none n m)=>nob (Nat.beq n 0) (Nat.beq m 0)
 |_=>false
def bih{α:Type}:Option (List α)->Bool
 |none=>true
 |some l=>!l.isEmpty
def bcf(B:Tab)(t:TypeId)(op:BinOp)(z zi:Bool)(x y:V):List Prop×V:=
 match z,x,op with
 |true,.d (.ns (.sl _)) l,.eql=>bif cd [(B.τ t).ok,neg (isN (B.τ t).el)]then ([bih l=true],.d .bool l.isNone)else bad
 |true,.d (.ns (.sl _)) l,.neq=>bif cd [(B.τ t).ok,neg (isN (B.τ t).el)]then ([bih l=true],.d .bool l.isSome)else bad
 |_,.d (.er _) b,.eql=>bif cd [zi,(B.τ t).ok,(B.τ t).ifc]then du (.d .bool (!b))else bad
 |_,.d (.er _) b,.neq=>bif cd [zi,(B.τ t).ok,(B.τ t).ifc]then du (.d .bool b)else bad
 |_,_,_=>bb2 B t op x y
def bp6(op:UnOp)(x:V):List Prop×V:=
 match op,x with
 |.not,.d .bool b=>du (.d .bool (!b))
 |.neg,.d (.int k) n=>ar k (0-n)
 |_,_=>bad
def bb4(τ σ:Ty)(x:V):List Prop×V:=
 match x,τ.int,σ.int with
 |.d (.int k) n,some k1,some k'=>bif cd [τ.ok,σ.ok,afm k1 k]then (bif afm k k' then du (.d (.int k) n)else du (.d (.int k') (k'.wrap n)))else bad
 |_,_,_=>bad
def ba0(l:List Int):ByteArray:=⟨(l.map fun n=>UInt8.ofNat n.toNat).toArray⟩
def aze(M:Mem):V->Option (List Int)
 |.ref k π=>(match qh M k π with|some ⟨.sl (.fz (.int .u8)),l⟩=>some l|_=>none)
 |_=>none
def bvd:Option IntKind->Bool
 |some .u8=>true
 |_=>false
def abj(B:Tab)(s d:TypeId)(M:Mem)(x:V):List Prop×V:=
 match (B.τ s).el,aze M x with
 |some e,some l=>bif cd [(B.τ s).ok,(B.τ d).ok,(B.τ d).st,(B.τ e).ok,bvd (B.τ e).int]then du (.d .str (ba0 l))else bad
 |_,_=>bb4 (B.τ s) (B.τ d) x
def nth:V->Nat->Option V
 |.p a _,0=>some a
 |.p _ b,i+1=>nth b i
 |_,_=>none
def awg(x:V)(i:Nat):List Prop×V:=
 match x with
 |.tup v=>(match nth v i with|some y=>du y|none=>bad)
 |_=>bad
def bhn(x:V):List Prop×V:=
 match x with
 |.d (.pt t) y=>du (.d (.pt t) y)
 |.ad k π=>du (.ad k π)
 |.bx v=>du (.bx v)
 |_=>bad
def bus:Option Nat->Option Nat->Option Nat
 |some a,some b=>some (aph a b)
 |_,_=>none
def V.size(M:Mem):V->Option Nat
 |.p a b=>bus (a.size M) (b.size M)
 |.u=>some 0
 |.ref k π=>(match qh M k π with|some q=>some q.o.strip.size|none=>none)
 |.d t _=>some t.size
 |.ad _ _|.nl|.np|.fn _ _|.ifc _ _|.bx _=>some 1
 |_=>none
def kx(M:Mem)(v:V)(n:Nat):Bool:=match v.size M with|some m=>gb m n|none=>false
def fe(M:Mem):cr->V->Option (Nat×V)
 |[],v=>some (0,v)
 |.l::π,.p a _=>fe M π a
 |.r::π,.p a b=>(match a.size M,fe M π b with|some m,some (n,v)=>some (aph m n,v)|_,_=>none)
 |π,.ref k ρ=>(match qh M k ρ,qh M k (ap ρ π)with
  |some q,some q'=>(match c8 π q.o.strip with|some n=>some (n,toV k (ap ρ π) q'.o q'.x)|none=>none)
  |_,_=>none)
 |_,_=>none
def akc(M:Mem)(x:V)(π:cr)(off:Nat):List Prop×V:=
 match x with
 |.d (.pt t) y=>(match c8 π t,ayx π t y with
  |some n,some q=>bif gb n off then du (.d (.pt q.1) q.2)else bad
  |_,_=>bad)
 |.ad k ρ=>(match qh M k ρ with
  |some q=>(match c8 π q.o.strip with
   |some n=>bif gb n off then du (.ad k (ap ρ π))else bad
   |none=>bad)
  |none=>bad)
 |.bx v=>(match fe M π v with
  |some q=>bif gb q.1 off then du (.bx q.2)else bad
  |none=>bad)
 |_=>bad
def aen(τ:Ty)(M:Mem)(x:V)(i:Nat):List Prop×V:=
 match pq τ.fld i with
 |some (off,_,fsz)=>bif cd [τ.ok,neg (Nat.beq fsz 0)]then akc M x (agl (len τ.fld) i) off else bad
 |none=>bad
def age(agg:Bool)(v:V):V:=bif agg then .ag v else v
def aix(B:Tab)(τ:Ty)(M:Mem)(x:V)(i:Nat):List Prop×V:=
 match pq τ.fld i,x with
 |some (off,ft,_),.ag v=>
  (match fe M (agl (len τ.fld) i) v with
  |some (n,w)=>bif cd [τ.ok,(B.τ ft).ok,gb n off,kx M w (B.τ ft).size,orb (B.τ ft).agg (gb (B.τ ft).size 1)]then du (age (B.τ ft).agg w)else bad
  |none=>bad)
 |_,_=>bad
def aiy(B:Tab)(τ:Ty)(M:Mem)(x i:V):List Prop×V:=
 match τ.el,i with
 |some e,.d (.int _) n=>
  (match x with
  |.d (.sl t) l=>bif cd [τ.ok,(B.τ e).ok,gb t.size (B.τ e).size]then ([0<=n,n<l.length],.d (.pt t) (l.getD n.toNat t.dflt))else bad
  |.ref k π=>(match qh M k π with
   |some ⟨.sl o,l⟩=>bif cd [τ.ok,(B.τ e).ok,gb o.strip.size (B.τ e).size]then ([0<=n,n<l.length],.ad k (ap π [.ix n.toNat]))else bad
   |some ⟨.fz (.sl t),l⟩=>bif cd [τ.ok,(B.τ e).ok,gb t.size (B.τ e).size]then ([0<=n,n<l.length],.d (.pt t) (l.getD n.toNat t.dflt))else bad
   |_=>bad)
  |_=>bad)
 |_,_=>bad
def bhq(B:Tab)(τ:Ty)(e:TypeId)(n:Nat)(M:Mem)(x i:V):List Prop×V:=
 match i with
 |.d (.int _) m=>bif cd [τ.ok,(B.τ e).ok]then (match akc M x (agl n m.toNat) (Nat.mul m.toNat (B.τ e).size)with
  |(l,v)=>(((0:Int)<=m)::(m<(n:Int))::l,v))else bad
 |_=>bad
def ait(B:Tab)(τ:Ty)(M:Mem)(x i:V):List Prop×V:=
 match τ.arr with
 |some (e,n)=>bhq B τ e n M x i
 |none=>aiy B τ M x i
def bo3(τ:Ty)(x i:V):List Prop×V:=
 match x,i with
 |.d .str s,.d (.int _) n=>bif cd [τ.ok,τ.st]then ([0<=n,n<s.size],.d (.int .u8) ((s.data.toList.getD n.toNat 0).toNat))else bad
 |_,_=>bad
def za(τ:Ty)(M:Mem)(x:V):List Prop×V:=
 match x with
 |.d (.pt t) y=>bif cd [τ.ok,gb t.size τ.size,orb τ.agg (gb t.size 1)]then du (age τ.agg (n9 t y))else bad
 |.ad k π=>(match qh M k π with
  |some q=>bif cd [τ.ok,gb q.o.strip.size τ.size,orb τ.agg (gb q.o.strip.size 1)]then du (age τ.agg (toV k π q.o q.x))else bad
  |none=>bad)
 |.bx v=>bif cd [τ.ok,kx M v τ.size,orb τ.agg (gb τ.size 1)]then du (age τ.agg v)else bad
 |_=>bad
def ah1{α:Type}(l:List α):List (Option α):=l.map some
def anh{α:Type}(l:List α)(i:Nat):List (Option α):=(l.map some).set i none
def ownAtR{α:Type}(l:List (Option α))(i:Nat):Bool:=(l.getD i none).isSome
def rowAtR{α:Type}(z:α)(l:List (Option α))(i:Nat):α:=(l.getD i none).getD z
def ayj{α:Type}(l:List (Option α)):Bool:=l.all Option.isSome
def ao7{α:Type}(z:α)(l:List (Option α)):List α:=l.map fun x=>x.getD z
def gid:Nat:=1000000
def ape(_:Ty)(_:Mem)(_:Option Nat)(_:V):Option Rs:=none
def ul(τ:Ty)(M:Mem)(d:Option Nat)(x:V):Rs:=
 match ape τ M d x with
 |some r=>r
 |none=>dh (za τ M x) M
def arq(τ:Ty)(M:Mem)(x:V):List Prop×V:=
 match x with
 |.d .str s=>bif cd [τ.ok,τ.st]then du (.d (.int .i64) s.size)else bad
 |.d (.sl _) l=>bif cd [τ.ok,neg (isN τ.el)]then du (.d (.int .i64) l.length)else bad
 |.d (.mp _ _) l=>bif cd [τ.ok,neg (isN τ.mp)]then du (.d (.int .i64) l.length)else bad
 |.d (.ns (.sl _)) l=>bif cd [τ.ok,neg (isN τ.el)]then du (.d (.int .i64) (l.getD []).length)else bad
 |.nl=>bif cd [τ.ok,neg (isN τ.el)]then du (.d (.int .i64) (0:Int))else bad
 |.ref k π=>(match qh M k π with
  |some ⟨.sl _,l⟩|some ⟨.fz (.sl _),l⟩=>bif cd [τ.ok,neg (isN τ.el)]then du (.d (.int .i64) l.length)else bad
  |some ⟨.mp _ _,l⟩=>bif cd [τ.ok,neg (isN τ.mp)]then du (.d (.int .i64) l.length)else bad
  |_=>bad)
 |_=>bad
def bi9(B:Tab)(τ:Ty)(x:V)(lo hi:Option V):List Prop×V:=
 match x,τ.el with
 |.d (.sl t) l,some e=>bif cd [τ.ok,(B.τ e).ok,gb t.size (B.τ e).size]then
   (match lo,hi with
   |none,none=>du (.d (.sl t) l)
   |some (.d (.int _) a),none=>([0<=a,a<=l.length],.d (.sl t) (l.drop a.toNat))
   |none,some (.d (.int _) b)=>([0<=b,b<=l.length],.d (.sl t) (l.take b.toNat))
   |some (.d (.int _) a),some (.d (.int _) b)=>([0<=a,a<=b,b<=l.length],.d (.sl t) ((l.take b.toNat).drop a.toNat))
   |_,_=>bad)else bad
 |_,_=>bad
def cu(M:Mem):V->List Ev×Mem
 |.ref k _|.ad k _=>(match go M k with|some ob=>([.fz k ob],del k M)|none=>([],M))
 |.p a b=>(match cu M a with|(e,M')=>(match cu M' b with|(e',M'')=>(ap e e',M'')))
 |.ag v|.fn _ v|.ifc _ v|.bx v|.tup v|.gd _ _ _ v=>cu M v
 |_=>([],M)
def tldR{α β:Type}(l:List (α×Option (List β))):List (α×List β):=l.map fun x=>(x.1,x.2.getD [])
def bw2(s:T)(x:s.den)(t:T):Option t.den:=
 match s,x,t with
 |.ns (.sl a),x,.sl b=>rj (.sl b) (a:=.sl a) (x.getD [])
 |.sl (.ns (.sl a)),x,.sl (.sl b)=>rj (.sl (.sl b)) (a:=.sl (.sl a)) (ao7 [] x)
 |.sl (.p c (.ns (.sl a))),x,.sl (.p d (.sl b))=>rj (.sl (.p d (.sl b))) (a:=.sl (.p c (.sl a))) (tldR x)
 |.sl a,x,.ns (.sl b)=>(match rj (.sl b) (a:=.sl a) x with|some y=>some (some y)|none=>none)
 |.er i,x,.er j=>bif Nat.beq i j then some x else (match x with|false=>some false|true=>none)
 |_,x,t=>rj t x
def coD:(s:T)->(x:s.den)->(t:T)->Option t.den
 |.p a b,x,.p c d=>(match coD a x.1 c,coD b x.2 d with|some y,some z=>some (y,z)|_,_=>none)
 |.pt a,x,.pt b=>coD a x b
 |s,x,t=>bw2 s x t
def asD(s:T)(x:s.den)(t:T):Option t.den:=
 match rj t x with
 |some y=>some y
 |none=>coD s x t
def V.as:V->(t:T)->Option t.den
 |.d s x,t=>asD s x t
 |.nl,.sl _=>some []
 |.u,.u=>some ()
 |.p a b,.p t s=>(match a.as t,b.as s with|some x,some y=>some (x,y)|_,_=>none)
 |.fn f v,.fn f' t|.ifc f v,.ifc f' t=>bif Nat.beq f f' then v.as t else none
 |.bx v,.pt t=>v.as t
 |.np,.any=>some ()
 |_,_=>none
def au4(M:Mem)(k:Nat)(π:cr)(t:T):Option t.den:=match qh M k π with|some q=>asD q.o.strip q.x t|none=>none
def V.view(M:Mem):V->(t:T)->Option t.den
 |.d s x,t=>asD s x t
 |.nl,.sl _=>some []
 |.u,.u=>some ()
 |.p a b,.p t s=>(match a.view M t,b.view M s with|some x,some y=>some (x,y)|_,_=>none)
 |.fn f v,.fn f' t|.ifc f v,.ifc f' t=>bif Nat.beq f f' then v.view M t else none
 |.bx v,.pt t=>v.view M t
 |.ref k π,t|.ad k π,.pt t=>au4 M k π t
 |.np,.any=>some ()
 |_,_=>none
def nq(r k:Nat):Bool:=cd [neg (Nat.beq r k),Nat.ble (Nat.succ r) gid]
def ac4(k r:Nat)(ρ:cr)(M:Mem):Option (Ob×List Ev×Mem):=
 bif neg (nq r k)then none else
  (match go M r with
  |some ob=>(match get ρ ob.o ob.x with
   |some q=>(match ρ with
    |[]=>some (q,[.kl r],del r M)
    |_=>bif agp ρ then some (⟨.fz q.o.strip,q.x⟩,[.fz r ob],del r M)else
     (match set ρ ob.o ob.x ⟨.fz q.o.hole,q.o.holeX q.x⟩with
     |some ob'=>some (q,[.tk r ob.o ob'.o],put r ob' M)
     |none=>none))
   |none=>none)
  |none=>none)
def auj(k r:Nat)(ρ:cr)(M:Mem):Option (Ob×List Ev×Mem):=
 bif neg (nq r k)then none else
  (match go M r,ρ with
  |some ⟨.pt o,x⟩,[.de]=>some (⟨.pt o,x⟩,[.kl r],del r M)
  |some ob,ρ=>(match get ρ ob.o ob.x with|some q=>some (⟨.fz (.pt q.o.strip),q.x⟩,[.fz r ob],del r M)|none=>none)
  |none,_=>none)
def conv(k:Nat):T->V->Mem->Option (Ob×List Ev×Mem)
 |.p t s,.p a b,M=>(match conv k t a M with
  |some (q,e,M')=>(match conv k s (b.evs e) M' with
   |some (q',e',M'')=>some (mkP q q',ap e e',M'')
   |none=>none)
  |none=>none)
 |_,.u,M=>some (⟨.fz .u,()⟩,[],M)
 |_,.d t x,M=>some (⟨.fz t,x⟩,[],M)
 |.sl t,.nl,M=>some (⟨.sl t.deep,[]⟩,[],M)
 |_,.np,M=>some (⟨.fz .any,()⟩,[],M)
 |_,.ref r ρ,M=>ac4 k r ρ M
 |_,.ad r ρ,M=>auj k r ρ M
 |_,.fn f .u,M=>some (⟨.fz (.fn f .u),()⟩,[],M)
 |_,_,_=>none
def aha(k:Nat)(o:O)(v:V)(M:Mem):Option (o.strip.den×List Ev×Mem):=
 match o with
 |.fz t=>(match cu M v with|(e,M')=>(match (v.evs e).as t with|some x=>some (x,e,M')|none=>none))
 |o=>(match conv k o.strip v M with
  |some (q,e,M')=>(match yp q o with|some x=>some (x,e,M')|none=>none)
  |none=>none)
def alj(k:Nat)(o:O)(v:V)(M:Mem):Option (o.strip.den×List Ev×Mem):=
 match o with
 |.op e=>(match aha k e v M with|some (x,ev,M')=>some (some x,ev,M')|none=>none)
 |o=>aha k o v M
def azu(k:Nat)(v:V)(M:Mem):Option (Ob×List Ev×Mem):=
 match v with
 |.ref r [.ix i]=>bif neg (nq r k)then none else (match go M r with
  |some ⟨.sl e,l⟩=>some (⟨e,l.getD i e.dflt⟩,[.kl r],del r M)
  |_=>none)
 |_=>none
def alg(b:Bool)(k:Nat)(t:T)(v:V)(M:Mem):Option (Ob×List Ev×Mem):=
 match (bif b then azu k v M else none)with
 |some r=>some r
 |none=>conv k t v M
def vj:cr->Option (cr×Nat)
 |[.ix i]=>some ([],i)
 |.l::π=>(match vj π with|some (p,i)=>some (.l::p,i)|none=>none)
 |.r::π=>(match vj π with|some (p,i)=>some (.r::p,i)|none=>none)
 |.de::π=>(match vj π with|some (p,i)=>some (.de::p,i)|none=>none)
 |_=>none
def bvl(π:cr)(ob:Ob):Option Ob:=
 match vj π with
 |some (p,i)=>(match get p ob.o ob.x with
  |some ⟨.sl e,l⟩=>set p ob.o ob.x ⟨.sl (.op e),anh l i⟩
  |_=>none)
 |none=>none
def be3(π:cr)(ob:Ob):Option (Prop×Ob):=
 match vj π with
 |some (p,_)=>(match get p ob.o ob.x with
  |some ⟨.sl (.op e),l⟩=>(match set p ob.o ob.x ⟨.sl e,ao7 e.dflt l⟩with
   |some ob2=>some (ayj l=true,ob2)
   |none=>none)
  |_=>none)
 |none=>none
def wn:T->V
 |.p a b=>.p (wn a) (wn b)
 |.sl _=>.nl
 |.u=>.u
 |.pt _|.fn _ _|.er _|.any=>.d .any ()
 |t=>.d t t.dflt
def kw:cr->V->V->Option V
 |[],_,n=>some n
 |.l::π,.p a b,n=>(match kw π a n with|some q=>some (.p q b)|none=>none)
 |.r::π,.p a b,n=>(match kw π b n with|some q=>some (.p a q)|none=>none)
 |_,_,_=>none
def V.cells:V->V
 |.ag v|v=>v
@[reducible] def db:List T->Type
 |[]=>Unit
 |t::r=>t.den×db r
@[reducible] def gq:List (Bool×O)->Type
 |[]=>Unit
 |q::r=>q.2.strip.den×gq r
def inN(k:Nat):List Nat->Bool
 |[]=>false
 |j::r=>bif Nat.beq j k then true else inN k r
def acm:List Nat->Bool
 |[]=>true
 |k::r=>bif inN k r then false else acm r
def pkN{α:Type}:Nat->List α->Option (α×List α)
 |_,[]=>none
 |0,x::r=>some (x,r)
 |Nat.succ n,x::r=>(match pkN n r with|some (y,s)=>some (y,x::s)|none=>none)
def gw{α:Type}:Nat->α->List α->List α
 |0,u,l=>u::l
 |Nat.succ n,u,x::l=>x::gw n u l
 |Nat.succ _,u,[]=>[u]
def ru{α:Type}(n:Nat)(l:List α):List α:=match pkN n l with|some (_,r)=>r|none=>l
structure Mt where
 o:O
 g:Bool
 pre:o.strip.den->Int->List Prop
 res:o.strip.den->Int->o.strip.den×Int
structure Wt where
 o:O
 as:List T
 ag:List Bool
 pre:o.strip.den->db as->List Prop
 new:o.strip.den->db as->o.strip.den
 rt:List (Bool×O)
 res:o.strip.den->db as->gq rt
 i:Nat
structure Sp where
 args:List T
 ga:List Bool
 sh:Bool
 b:db args->Bool
 pre:db args->List Prop
 rt1:List (Bool×O)
 res1:db args->gq rt1
 rt0:List (Bool×O)
 res0:db args->gq rt0
structure Wa where
 o:O
 way:cr
 as:List T
 pre:o.strip.den->db as->List Prop
 new:o.strip.den->db as->o.strip.den
structure Wc where
 o:O
 i:Nat
 as:List T
 ag:List Bool
 pre:o.strip.den->db as->List Prop
 new:o.strip.den->db as->o.strip.den
structure Wu where
 o:O
 as:List T
 ag:List Bool
 pre:o.strip.den->db as->List Prop
 rt:List (Bool×O)
 res:o.strip.den->db as->gq rt
 i:Nat
structure Orr where
 vc:List Prop
 av:V
 up:List (Nat×O×Ob)
structure Orc where
 ev:List V->Mem->Orr
def ae1:List (Nat×O×Ob)->List Ev
 |[]=>[]
 |q::r=>.cut q.1 q.2.1 q.2.2.o::ae1 r
def anj:List (Nat×O×Ob)->Mem->Mem
 |[],M=>M
 |q::r,M=>put q.1 q.2.2 (anj r M)
inductive Mu where
 |o (O:Orc)
 |k (k:Wu)
 |c (c:Wc)
 |m (m:Mt)
 |w (w:Wt)
 |s (s:Sp)
 |a (a:Wa)
structure Ct where
 args:List T
 ga:List Bool
 pre:db args->List Prop
 rt:List (Bool×O)
 res:db args->gq rt
 sh:Bool
 mu:Option Mu
def spCt(s:Sp):Bool->Ct
 |true=>⟨s.args,s.ga,fun x=>(s.b x=true)::s.pre x,s.rt1,s.res1,s.sh,none⟩
 |false=>⟨s.args,s.ga,fun x=>(s.b x=false)::s.pre x,s.rt0,s.res0,s.sh,none⟩
def aaj(M:Mem):List V->(ts:List T)->Option (db ts)
 |[],[]=>some ()
 |v::r,t::ts=>(match v.cells.view M t,aaj M r ts with|some x,some y=>some (x,y)|_,_=>none)
 |_,_=>none
def cid(d j:Nat):Nat:=Nat.add (Nat.add 100000 (Nat.mul 100 d)) j
def n7(d:Nat):Nat->(o:O)->o.strip.den->V×Mem×Nat
 |j,.fz t,x=>(n9 t x,[],j)
 |j,.p a b,x=>(match n7 d j a x.1 with
  |(v,M,j')=>(match n7 d j' b x.2 with
   |(v',M',j'')=>(.p v v',ap M' M,j'')))
 |j,.sl e,x=>(.ref (cid d j) [],[(cid d j,⟨.sl e,x⟩)],Nat.succ j)
 |j,.pt o,x=>(.ad (cid d j) [.de],[(cid d j,⟨.pt o,x⟩)],Nat.succ j)
 |j,.mp k v,x=>(.ref (cid d j) [],[(cid d j,⟨.mp k v,x⟩)],Nat.succ j)
 |j,.op _,_=>(.any,[],j)
def newL(d:Nat):Nat->(rs:List (Bool×O))->gq rs->V×Mem×Nat
 |j,[],_=>(.u,[],j)
 |j,q::r,x=>(match n7 d j q.2 x.1 with
  |(v,M,j')=>(match newL d j' r x.2 with
   |(v',M',j'')=>(.p (age q.1 v) v',ap M' M,j'')))
def apq:List (Bool×O)->V->V
 |[_],.p a _=>a
 |_,v=>.tup v
def mn:List Nat->Mem->Mem
 |[],M=>M
 |k::r,M=>mn r (del k M)
def ca:Mem->List Nat
 |[]=>[]
 |(k,_)::r=>k::ca r
def klL:List Nat->List Ev
 |[]=>[]
 |k::r=>.kl k::klL r
def qa(M:Mem):List V->List Ev×Mem
 |[]=>([],M)
 |v::r=>(match cu M v with|(e,M')=>(match qa M' r with|(e',M'')=>(ap e e',M'')))
def ux(e:List Ev):List V->List V
 |[]=>[]
 |v::r=>v.evs e::ux e r
def ve(f:Operand->V):List Operand->List V
 |[]=>[]
 |x::r=>f x::ve f r
def asL:List V->(ts:List T)->Option (db ts)
 |[],[]=>some ()
 |v::r,t::ts=>(match v.cells.as t,asL r ts with|some x,some y=>some (x,y)|_,_=>none)
 |_,_=>none
def aau:V->Bool
 |.ag _=>true
 |_=>false
def shp:List V->List Bool->Bool
 |[],[]=>true
 |v::r,g::gs=>bif aau v then (bif g then shp r gs else false)else (bif g then false else shp r gs)
 |_,_=>false
def buy:List Nat->Bool
 |[]=>true
 |_=>false
def ark:List Nat->Bool
 |[]|[_]=>true
 |k::k'::r=>bif Nat.ble gid k then (bif Nat.ble gid k' then ark (k'::r)else false)else (bif Nat.ble gid k' then false else ark (k'::r))
def bjb(_:Mt)(_:List V)(M:Mem):Rs:=c7 M
def asf:cr->Bool
 |[.de]=>true
 |_=>false
def bp2:cr->Bool
 |[]=>true
 |_=>false
def ai3:V->Option Nat
 |.ad k π=>bif asf π then some k else none
 |.ref k π=>bif bp2 π then some k else none
 |_=>none
def abw:O->Bool
 |.pt _|.sl _=>true
 |_=>false
def deK:V->Option Nat
 |.ref k π=>bif asf π then some k else none
 |_=>none
def slO:O->Bool
 |.sl _=>true
 |_=>false
def pbW(W:Wt):Wt:=⟨.pt W.o,W.as,W.ag,W.pre,W.new,W.rt,W.res,W.i⟩
def zv(k:Nat)(W:Wt)(d:Nat)(r:List V)(M:Mem):Rs:=
 bif shp r W.ag then (match qa M r with
   |(e,M1)=>(match go M1 k,asL (ux e r) W.as with
    |some ob,some y=>(match yp ob W.o with
     |some x=>(match newL d 0 W.rt (W.res x y)with
      |(v,N,_)=>bif inN k (ca N)then c7 M else
       ⟨W.pre x y,apq W.rt v,ap e (.cut k W.o W.o::klL (ca N)),ap N (mn (ca N) (put k ⟨W.o,W.new x y⟩ M1))⟩)
     |none=>c7 M)
    |_,_=>c7 M))else c7 M
def afu(W:Wt)(d:Nat)(vs:List V)(M:Mem):Rs:=
 match pkN W.i vs with
 |some (v0,r)=>(match ai3 v0 with
  |some k=>bif abw W.o then zv k W d r M else c7 M
  |none=>(match deK v0 with
   |some k=>bif slO W.o then zv k (pbW W) d r M else c7 M
   |none=>c7 M))
 |none=>c7 M
def cd5:T->Bool
 |.any=>true
 |_=>false
def x4:List T->List Bool
 |[]=>[]
 |_::r=>false::x4 r
def bc7(_:Wa)(_:List V)(M:Mem):Rs:=c7 M
def az2(_:Wc)(_:List V)(M:Mem):Rs:=c7 M
def bap:(o:O)->Option o.strip.den
 |.sl _=>some []
 |_=>none
def abi(W:Wu)(d:Nat)(x:W.o.strip.den)(y:db W.as)(e:List Ev)(M1:Mem):Rs:=
 match newL d 0 W.rt (W.res x y)with
 |(v,N,_)=>⟨W.pre x y,apq W.rt v,ap e (klL (ca N)),ap N (mn (ca N) M1)⟩
def amu(W:Wu)(d:Nat)(vs:List V)(M:Mem):Rs:=
 match pkN W.i vs with
 |some (v0,r)=>bif nob (slO W.o) (shp r W.ag)then (match qa M r with
  |(e,M1)=>(match asL (ux e r) W.as with
   |some y=>(match ai3 v0 with
    |some k=>bif Nat.ble (Nat.succ k) gid then (match go M1 k with
     |some ob=>(match yp ob W.o with
      |some x=>abi W d x y (ap e [.kl k]) (del k M1)
      |none=>c7 M)
     |none=>c7 M)else c7 M
    |none=>(match v0,bap W.o with
     |.nl,some x=>abi W d x y e M1
     |_,_=>c7 M))
   |none=>c7 M))else c7 M
 |none=>c7 M
def aor(O:Orc)(vs:List V)(M:Mem):Rs:=
 match O.ev vs M with
 |⟨vc,av,q::r⟩=>⟨vc,av,ae1 (q::r),anj (q::r) M⟩
 |_=>c7 M
def ab8(ct:Ct)(d:Nat)(vs:List V)(M:Mem):Rs:=
 match ct.mu with
 |some (.o O)=>aor O vs M
 |some (.k W)=>amu W d vs M
 |some (.c W)=>az2 W vs M
 |some (.m m)=>bjb m vs M
 |some (.w W)=>afu W d vs M
 |some (.s _)=>c7 M
 |some (.a W)=>bc7 W vs M
 |none=>
 bif shp vs ct.ga then
 (match ct.sh with
 |false=>(match aaj M vs ct.args with
  |some x=>(match newL d 0 ct.rt (ct.res x)with
   |(v,N,_)=>⟨ct.pre x,apq ct.rt v,klL (ca N),ap N (mn (ca N) M)⟩)
  |none=>c7 M)
 |true=>(match qa M vs with
  |(e,M')=>(match asL (ux e vs) ct.args with
   |some x=>(match newL d 0 ct.rt (ct.res x)with
    |(v,N,_)=>⟨ct.pre x,apq ct.rt v,ap e (klL (ca N)),ap N (mn (ca N) M')⟩)
   |none=>c7 M)))else c7 M
def as0(B:Tab)(τ:Ty)(ρ:Operand->V)(x:Operand)(lo hi:Option Operand)(M:Mem):Rs:=
 match ρ x with
 |.ref r π=>(match ac4 gid r π M with
  |some (q,e,M')=>(match bi9 B τ (.d q.o.strip q.x) (zj (fun y=>(ρ y).evs e) lo) (zj (fun y=>(ρ y).evs e) hi)with
   |(l,v)=>⟨l,v,e,M'⟩)
  |none=>c7 M)
 |v=>dh (bi9 B τ v (zj ρ lo) (zj ρ hi)) M
def nsT:T->Bool
 |.ns _=>true
 |_=>false
def alf(B:Tab)(τ:Ty)(d:Option Nat)(ρ:Operand->V)(x:Operand)(lo hi:Option Operand)(M:Mem):Rs:=
 match ρ x,d,zj ρ lo,hi,τ.el with
 |.ref r [],some d,some (.d (.int _) a),none,some e=>(match go M r with
  |some ⟨.sl o,l⟩=>bif cd [nq r d,τ.ok,(B.τ e).ok,gb o.strip.size (B.τ e).size]then
    ⟨[0<=a,a<=l.length],.ref d [],[.kl r,.kl d],(d,⟨.sl o,l.drop a.toNat⟩)::del d (del r M)⟩else c7 M
  |_=>c7 M)
 |_,_,_,_,_=>c7 M
def aav(B:Tab)(t:TypeId)(d:Option Nat)(ρ:Operand->V)(x:Operand)(lo hi:Option Operand)(M:Mem):Rs:=bif nsT (B.σ t)then alf B (B.τ t) d ρ x lo hi M else as0 B (B.τ t) ρ x lo hi M
inductive Src where
 |own (j:Nat) (e:O) (l:List e.strip.den)
 |dat (e:List Ev) (M:Mem) (t:T) (l:List t.den)
 |nil
def ald(M:Mem):V->Option Src
 |.nl=>some .nil
 |.d (.sl t) l=>some (.dat [] M t l)
 |.ref j π=>(match go M j,π with
  |some ⟨.sl e,l⟩,[]=>some (.own j e l)
  |some ob,π=>(match get π ob.o ob.x with
   |some ⟨.sl e,l⟩=>some (.dat [.fz j ob] (del j M) e.strip l)
   |some ⟨.fz (.sl t),l⟩=>some (.dat [.fz j ob] (del j M) t l)
   |_=>none)
  |none,_=>none)
 |_=>none
def c9(n m b:Nat):Prop:=(n+m)*b<=nb
def ai9(b k:Nat)(e:O)(l:List e.strip.den)(j:Nat)(e':O)(m:List e'.strip.den)(ev:List Ev)(M M0:Mem):Rs:=
 match e'.beq e,yp ⟨.sl e',m⟩ (.sl e)with
 |true,some m=>⟨[c9 l.length m.length b],.ref k [],ap ev [.kl j,.kl k],(k,⟨.sl e,l++m⟩)::del k (del j M)⟩
 |_,_=>(match rj (.sl e.strip) (a:=.sl e'.strip) m with
  |some m1=>⟨[c9 l.length m1.length b],.ref k [],ap ev [.fz j ⟨.sl e',m⟩,.kl k],(k,⟨.sl (.fz e.strip),l++m1⟩)::del k (del j M)⟩
  |none=>c7 M0)
def ajz(b k:Nat)(e:O)(l:List e.strip.den)(t:T)(m:List t.den)(ev:List Ev)(M M0:Mem):Rs:=
 match rj (.sl e.strip) (a:=.sl t) m with
 |some m=>⟨[c9 l.length m.length b],.ref k [],ap ev [.kl k],(k,⟨.sl (.fz e.strip),l++m⟩)::del k M⟩
 |none=>c7 M0
def air(B:Tab)(dst:Option Nat)(t:TypeId)(s x:V)(M:Mem):Rs:=
 match (B.τ t).el,dst,ald M x with
 |some e,some d,some src=>
  bif cd [(B.τ t).ok,(B.τ e).ok,neg (Nat.beq (B.τ e).bytes 0),B.z e,gb (B.σ e).size (B.τ e).size]then
   (match s with
   |.nl=>(match src with
    |.nil=>⟨[],.nl,[],M⟩
    |.own j e' m=>bif cd [nq j d,gb e'.strip.size (B.τ e).size]then⟨[c9 0 m.length (B.τ e).bytes],.ref d [],[.kl j,.kl d],(d,⟨.sl e',m⟩)::del d (del j M)⟩else c7 M
    |.dat ev M' t' m=>bif gb t'.size (B.τ e).size then⟨[c9 0 m.length (B.τ e).bytes],.ref d [],ap ev [.kl d],(d,⟨.sl (.fz t'),m⟩)::del d M'⟩else c7 M)
   |.ref k π=>(match go M k,π with
    |some ⟨.sl o,l⟩,[]=>bif cd [gb o.strip.size (B.τ e).size,Nat.ble (Nat.succ k) gid]then (match src with
     |.nil=>⟨[],.ref k [],[],M⟩
     |.own j e' m=>bif neg (nq j k)then c7 M else ai9 (B.τ e).bytes k o l j e' m [.kl k] (del k M) M
     |.dat ev M' t' m=>(match go M' k with|some _=>ajz (B.τ e).bytes k o l t' m (ap ev [.kl k]) (del k M') M|none=>c7 M))else c7 M
    |some ob,π=>(match get π ob.o ob.x,set π ob.o ob.x ⟨.fz .any,()⟩with
     |some ⟨.sl o,l⟩,some ob'=>bif cd [gb o.strip.size (B.τ e).size,neg (Nat.beq d k),Nat.ble (Nat.succ k) gid]then (match src with
      |.nil=>⟨[],.ref k π,[],M⟩
      |.own j e' m=>bif cd [nq j k,nq j d]then ai9 (B.τ e).bytes d o l j e' m [.cut k ob.o ob'.o] (put k ob' M) M else c7 M
      |.dat ev M' t' m=>(match go M' k with|some _=>ajz (B.τ e).bytes d o l t' m (ap ev [.cut k ob.o ob'.o]) (put k ob' M') M|none=>c7 M))else c7 M
     |some ⟨.sl o,l⟩,none=>(match bvl π ob with
      |some ob'=>bif cd [gb o.strip.size (B.τ e).size,neg (Nat.beq d k),Nat.ble (Nat.succ k) gid]then (match src with
       |.nil=>c7 M
       |.own j e' m=>bif cd [nq j k,nq j d]then ai9 (B.τ e).bytes d o l j e' m [.tk k ob.o ob'.o] (put k ob' M) M else c7 M
       |.dat ev M' t' m=>(match go M' k with|some _=>ajz (B.τ e).bytes d o l t' m (ap ev [.tk k ob.o ob'.o]) (put k ob' M') M|none=>c7 M))else c7 M
      |none=>c7 M)
     |_,_=>c7 M)
    |none,_=>c7 M)
   |_=>c7 M)
  else c7 M
 |_,_,_=>c7 M
structure Mp where
 k:T
 v:T
 l:(T.mp k v).den
def bje(_:Tab)(_:TypeId)(_:Mem)(_ _:V)(_:Bool):List Prop×V:=bad
def bcx(_:Tab)(_:TypeId)(_:Option Nat)(M:Mem):Rs:=c7 M
def bdh(_:Tab)(_:TypeId)(_ _ _:V)(M:Mem):Rs:=c7 M
def jk:T->List Value->Bool
 |.p a b,zs=>nob (jk a (eq a.size zs)) (jk b (nz a.size zs))
 |.u,[]=>true
 |.int k,[.int k' (.ofNat 0)]=>afm k k'
 |.bool,[.bool b]=>neg b
 |.str,[.string s]=>Nat.beq s.size 0
 |.sl _,[.slice none 0 0]|.ns _,[.slice none 0 0]=>true
 |.any,[v]=>v.oneCell'
 |_,_=>false
def bdu(B:Tab)(t:TypeId)(o:Option Nat)(M:Mem):Rs:=
 match o with
 |some k=>bif cd [(B.τ t).ok,B.z t]then
   ⟨[],.ad k [.de],[.kl k],(k,⟨.pt (B.σ t).deep,(B.σ t).deep.dflt⟩)::del k M⟩else c7 M
 |none=>c7 M
def bh0(B:Tab)(t:TypeId)(o:Option Nat)(x:V)(M:Mem):Rs:=
 match o with
 |some k=>(match conv k (B.σ t) (x.cells.ev (.kl k)) (del k M)with
  |some (q,e,M')=>⟨[],.ad k [.de],.kl k::e,(k,⟨.pt q.o,q.x⟩)::M'⟩
  |none=>bif neg (isN (x.cells.size M))then⟨[],.bx x.cells,[],M⟩else c7 M)
 |none=>c7 M
def v6(M:Mem)(place:Nat->Option (cr×Nat×Nat))(f:Operand->V):List (Nat×Operand)->V->Option V
 |[],v=>some v
 |(i,x)::r,v=>(match place i with
  |some (π,off,n)=>(match fe M π v with
   |some (m,w)=>bif cd [gb m off,kx M w n,kx M (f x).cells n]then (match kw π v (f x).cells with|some v'=>v6 M place f r v'|none=>none)else none
   |none=>none)
  |none=>none)
def bq1(B:Tab)(τ:Ty)(i:Nat):Option (cr×Nat×Nat):=
 match τ.arr with
 |some (e,n)=>bif Nat.ble (Nat.succ i) n then some (agl n i,Nat.mul i (B.τ e).size,(B.τ e).size)else none
 |none=>(match pq τ.fld i with|some q=>some (agl (len τ.fld) i,q.1,q.2.2)|none=>none)
def awp(B:Tab)(τ:Ty):Bool:=
 match τ.arr with
 |some (e,_)=>(B.τ e).ok
 |none=>τ.sz
def abh(B:Tab)(t:TypeId)(parts:List (Nat×Operand))(f:Operand->V)(M:Mem):Rs:=
 bif cd [(B.τ t).ok,awp B (B.τ t),B.z t]then
   (match v6 M (bq1 B (B.τ t)) f parts (wn (B.σ t))with
   |some v=>⟨[],.ag v,[],M⟩
   |none=>c7 M)else c7 M
def rg(k:Nat)(o:O):List Ev->List V->Mem->Option (List o.strip.den×List Ev×Mem)
 |ev,[],M=>some ([],ev,M)
 |ev,v::r,M=>(match alj k o (v.evs ev) M with
  |some (x,e,M')=>(match rg k o (ap ev e) r M' with
   |some (l,e',M'')=>some (x::l,e',M'')
   |none=>none)
  |none=>none)
def sj(M:Mem)(sz:Nat)(f:Operand->V):List (Nat×Operand)->List V->Option (List V)
 |[],l=>some l
 |(i,x)::r,l=>bif nob (Nat.ble (Nat.succ i) (len l)) (kx M (f x).cells sz)then sj M sz f r (aud l i (f x).cells)else none
def bro:T->V
 |.ns (.sl e)=>.d (.ns (.sl e)) (some [])
 |_=>.nl
def aet(B:Tab)(t:TypeId)(n:Nat)(parts:List (Nat×Operand))(f:Operand->V)(o:Option Nat)(M:Mem):Rs:=
 match o,(B.τ t).el with
 |some k,some e=>
  (match sj M (B.τ e).size f parts (aae (wn (B.σ e)) n)with
  |some l=>bif cd [(B.τ t).ok,(B.τ e).ok,B.z e,Nat.ble (Nat.mul n (B.τ e).size) 16777216,Nat.ble n nb,gb (B.σ e).size (B.τ e).size]then
    (match ux [.kl k] l with
    |[]=>⟨[],bro (B.σ t),[],M⟩
    |v::r=>(match conv k (B.σ e) v (del k M)with
     |some (q,_,_)=>(match rg k q.o [] (v::r) (del k M)with
      |some (x,ev,M')=>⟨[],.ref k [],.kl k::ev,(k,⟨.sl q.o,x⟩)::M'⟩
      |none=>(match rg k (.fz (B.σ e)) [] (v::r) (del k M)with
       |some (x,ev,M')=>⟨[],.ref k [],.kl k::ev,(k,⟨.sl (.fz (B.σ e)),x⟩)::M'⟩
       |none=>c7 M))
     |none=>c7 M))else c7 M
  |none=>c7 M)
 |_,_=>c7 M
def avd(B:Tab)(t:TypeId)(l c:V)(o:Option Nat)(M:Mem):Rs:=
 match o,(B.τ t).el,l,c with
 |some k,some e,.d (.int _) nl,.d (.int _) nc=>
  bif cd [(B.τ t).ok,(B.τ e).ok,B.z e,gb (B.σ e).size (B.τ e).size]then
    ⟨[0<=nl,nl<=nc,nc<=nb,nc*(B.τ e).bytes<=nb],.ref k [],[.kl k],(k,⟨.sl (B.σ e).deep,List.replicate nl.toNat (B.σ e).deep.dflt⟩)::del k M⟩else c7 M
 |_,_,_,_=>c7 M
def uq(B:Tab)(t:TypeId)(x y:V)(M:Mem):Rs:=
 match x with
 |.ad k π=>(match go M k,qh M k π with
  |some ob,some q=>bif cd [(B.τ t).ok,kx M y.cells (B.τ t).size,gb q.o.strip.size (B.τ t).size,neg (isZ (B.τ t).size)]then
    (match (bif agp π then (match alj k q.o y.cells M with
      |some (z,e,M')=>some (⟨q.o,z⟩,e,M')
      |none=>none)else alg B.tk k (B.σ t) y.cells M)with
     |some (z,e,M')=>(match go M' k,set π ob.o ob.x z with
      |some _,some ob'=>bif gb z.o.strip.size (B.τ t).size then (match be3 π ob' with
      |some (c,ob2)=>⟨[c],.any,ap e [.cut k ob.o ob'.o,.cut k ob'.o ob2.o],put k ob2 M'⟩
      |none=>⟨[],.any,ap e [.cut k ob.o ob'.o],put k ob' M'⟩)else c7 M
      |_,_=>c7 M)
     |none=>c7 M)else c7 M
  |_,_=>c7 M)
 |_=>c7 M
def aa7(x y:V)(M:Mem)(r:Rs):Rs:=
 match x,y with
 |.ad k [.de],.ad j [.de]=>(match go M k,go r.M k with
  |some ⟨.pt (.fz .any),_⟩,some ⟨.pt (.pt o),z⟩=>bif nob (Nat.blt k gid) (isN (go r.M j))then⟨r.vc,.any,ap r.ev [.un k j],(j,⟨.pt o,z⟩)::del k r.M⟩else r
  |_,_=>r)
 |_,_=>r
def as2(f:FuncId)(v:V)(k:Nat):Nat->V
 |0=>.d .any ()
 |n+1=>.fn f (v.ev (.kn k (as2 f v k n)))
def bq2(f:FuncId)(v:V)(k:Nat)(τ:Ty)(M:Mem):Option Rs:=
 match go M k with
 |some ⟨.pt (.fz .any),_⟩=>bif cd [τ.ok,gb τ.size 1,Nat.ble (Nat.succ k) gid]then some ⟨[],.any,[.cut k (.pt (.fz .any)) (.pt (.fz .any)),.kn k (as2 f (v.ev (.cut k (.pt (.fz .any)) (.pt (.fz .any)))) k 10)],del k (put k ⟨.pt (.fz .any),()⟩ M)⟩else none
 |_=>none
def agd:V->Bool
 |.ad _ _|.ref _ _=>true
 |.p a b=>orb (agd a) (agd b)
 |.bx v|.fn _ v=>agd v
 |_=>false
def axv(τ:Ty)(x y:V)(M:Mem):Option Rs:=
 match x,y with
 |.ad k [.de],.fn f (.p a b)=>bif agd (.p a b)then bq2 f (.p a b) k τ M else none
 |_,_=>none
def aiv(B:Tab)(t:TypeId)(x y:V)(M:Mem):Rs:=
 match axv (B.τ t) x y M with
 |some r=>r
 |none=>aa7 x y M (uq B t x y M)
def asj:V->Option (FuncId×V)
 |.fn f v=>some (f,v)
 |.d (.fn f t) x=>some (f,n9 t x)
 |_=>none
def ub(M:Mem):V->Option (List V)
 |.u=>some []
 |.p a b=>(match ub M b with|some r=>bif kx M a 1 then some (a::r)else none|none=>none)
 |_=>none
def be9(M:Mem):List V->Option V
 |[]=>some .u
 |v::r=>(match be9 M r with|some c=>bif nob (neg (aau v)) (kx M v 1)then some (.p v c)else none|none=>none)
def bcg(M:Mem)(fn:Fn)(first:List Operand)(vs:List V):List Prop×V:=
 match fn,first,be9 M vs with
 |.func f,[],some c=>du (.fn f c)
 |_,_,_=>bad
def bib(B:Tab)(t:TypeId)(M:Mem)(x:V):List Prop×V:=
 match x with
 |.ag (.d .str _)=>bif cd [(B.τ t).ok,(B.τ t).agg]then du (.d (.er t) true)else bad
 |.ag (.d T y)=>bif cd [(B.τ t).ok,(B.τ t).agg]then du (.d (.ib t T) y)else bad
 |x=>bif cd [(B.τ t).ok,neg (isN (B.τ t).el),neg (aau x),kx M x 1]then du (.ifc t x)else bad
def inI:V->Option (TypeId×V)
 |.ifc t v=>some (t,v)
 |.d (.ifc t T) y=>some (t,n9 T y)
 |.d (.ib t T) y=>some (t,.ag (n9 T y))
 |_=>none
def bik(B:Tab)(i:TypeId)(ok:Bool)(x:V):List Prop×V:=
 match inI x with
 |some (t,_)=>bif bkd B.m t i then du (bif ok then .tup (.p x (.p (.d .bool true) .u))else x)else bad
 |none=>bad
def dz(B:Tab)(Φ:FuncId->Option Ct)(o:Oper)(ρ:Operand->V)(M:Mem):Rs:=
 match o.op with
 |.move x|.assign x=>dh ([],ρ x) M
 |.nilCheck x=>dh (bhn (ρ x)) M
 |.load t x=>ul (B.τ t) M o.dst (ρ x)
 |.fieldAddr t x i=>dh (aen (B.τ t) M (ρ x) i) M
 |.field t x i=>dh (aix B (B.τ t) M (ρ x) i) M
 |.indexAddr t x i=>dh (ait B (B.τ t) M (ρ x) (ρ i)) M
 |.index t x i=>dh (bo3 (B.τ t) (ρ x) (ρ i)) M
 |.binOp op t x y _=>dh (bcf B t op (bko y) (bry y) (ρ x) (ρ y)) M
 |.unOp op _ x=>dh (bp6 op (ρ x)) M
 |.convert s d x=>dh (abj B s d M (ρ x)) M
 |.extract x i=>dh (awg (ρ x) i) M
 |.slice t x lo hi none=>aav B t o.dst ρ x lo hi M
 |.alloc e=>bdu B e o.dst M
 |.box e x=>bh0 B e o.dst (ρ x) M
 |.build t parts=>abh B t (toL parts) ρ M
 |.buildSlice t n parts=>aet B t n (toL parts) ρ o.dst M
 |.makeSlice t l c=>avd B t (ρ l) (ρ c) o.dst M
 |.store t x y=>aiv B t (ρ x) (ρ y) M
 |.lookup t x i ok=>dh (bje B t M (ρ x) (ρ i) ok) M
 |.makeMap t none=>bcx B t o.dst M
 |.makeInterface t x=>dh (bib B t M (ρ x)) M
 |.typeAssert x _ i ok=>dh (bik B i ok (ρ x)) M
 |.mapUpdate t m i x=>bdh B t (ρ m) (ρ i) (ρ x) M
 |.makeFunc fn fs cs=>dh (bcg M fn (toL fs) (ve ρ (toL cs))) M
 |.call c=>(match c.callee with
  |.builtin .len=>(match toL c.args,toL c.argTypes with
   |[x],[t]=>dh (arq (B.τ t) M (ρ x)) M
   |_,_=>c7 M)
  |.builtin .max=>(match toL c.args with
   |[x,y]=>dh (biu true (ρ x) (ρ y)) M
   |_=>c7 M)
  |.builtin .min=>(match toL c.args with
   |[x,y]=>dh (biu false (ρ x) (ρ y)) M
   |_=>c7 M)
  |.builtin .append=>(match toL c.args,toL c.argTypes with
   |[x,y],[t,t']=>bif Nat.beq t t' then air B o.dst t (ρ x) (ρ y) M else c7 M
   |_,_=>c7 M)
  |.value cx=>(match asj (ρ cx),o.dst with
   |some (f,v),some d=>(match Φ f,ub M v with
    |some ct,some cs=>ab8 ct d (ap (ve ρ (toL c.args)) cs) M
    |_,_=>c7 M)
   |_,_=>c7 M)
  |.invoke r name=>(match inI (ρ r),o.dst with
   |some (t,v),some d=>(match bb0 B.m t name with
    |some f=>(match Φ f with
     |some ct=>ab8 ct d (v::ve ρ (toL c.args)) M
     |none=>c7 M)
    |none=>c7 M)
   |_,_=>c7 M)
  |_=>c7 M)
 |_=>c7 M
end Go.Bm
/- The ff machine:regions,code,loops. -/
namespace Go.Bm
open Go.RowKit
def conj:List Prop->Prop->Prop
 |[],K=>K
 |p::r,K=>p/\conj r K
def imp(g:Prop):List Prop->Prop->Prop
 |[],K=>K
 |p::r,K=>(g->conj r p)/\K
def cnd(b:Bool)(x y:Prop):Prop:=(b=true->x)/\(b=false->y)
def wr(d:Option Nat)(x:V)(env:Env):Env:=
 match d with
 |some d=>(d,x)::env
 |none=>env
def gc:V->Bool->Prop
 |.d .bool b,w=>b=w
 |.gd _ _ P v,w=>P/\gc v w
 |_,_=>False
def lx:V->Bool
 |.d .bool _=>true
 |.gd _ _ _ v=>lx v
 |_=>false
def be5(a b:Bool):Bool:=bif a then b else neg b
def pi(f:Operand->V):List Operand->List Prop
 |[]=>[]
 |x::r=>(match f x with
  |.gd _ _ P _=>P::pi f r
  |_=>pi f r)
def pd(o:Oper):Bool:=
 match o.op with
 |.store _ _ _|.mapUpdate _ _ _ _=>false
 |.call c=>(match c.callee with
  |.builtin .append=>false
  |_=>true)
 |_=>true
def fresh(M:Mem):List Ev->Bool
 |[]=>true
 |.kl k::r=>nob (isN (go M k)) (fresh M r)
 |_=>false
def avF(M0 M:Mem):V->V
 |.ref k π=>(match go M0 k with|some _=>.ref k π|none=>(match qh M k π with|some q=>n9 q.o.strip q.x|none=>.any))
 |.ad k π=>(match go M0 k with|some _=>.ad k π|none=>(match qh M k π with|some q=>.d (.pt q.o.strip) q.x|none=>.any))
 |.p a b=>.p (avF M0 M a) (avF M0 M b)
 |.ag v=>.ag (avF M0 M v)
 |.tup v=>.tup (avF M0 M v)
 |.fn f v=>.fn f (avF M0 M v)
 |.ifc t v=>.ifc t (avF M0 M v)
 |.bx v=>.bx (avF M0 M v)
 |.gd _ _ _ _=>.any
 |v=>v
def vq(ops:List Oper)(j:Nat):Option Nat:=
 match pq ops j with
 |some o=>o.dst
 |none=>none
def ai6(cb side:Bool):V->List Prop
 |.gd _ _ P _=>[cb=side->P]
 |_=>[]
def bhr(cb:Bool)(a b:Operand)(av bv:Bool):Bool:=
 match a,b with
 |.const (.bool true),_=>cb||bv
 |_,.const (.bool false)=>cb&&av
 |_,_=>(bif cb then av else bv)
def ag6(env:Env)(c a b:Operand):List Prop×V:=
 bif cd [(rd env c).strip.isB,(rd env a).strip.isB,(rd env b).strip.isB]then
  (ap (pi (rd env) [c]) (ap (ai6 (rd env c).strip.boolV true (rd env a)) (ai6 (rd env c).strip.boolV false (rd env b))),
   .d .bool (bhr (rd env c).strip.boolV a b (rd env a).strip.boolV (rd env b).strip.boolV))
 else bad
def cy:Op->List Operand
 |.move x|.assign x|.nilCheck x|.load _ x|.fieldAddr _ x _|.field _ x _=>[x]
 |.indexAddr _ x i|.index _ x i=>[x,i]
 |.binOp _ _ x y _=>[x,y]
 |.unOp _ _ x|.convert _ _ x|.extract x _=>[x]
 |.slice _ x lo hi _=>x::ap (optL lo) (optL hi)
 |.box _ x=>[x]
 |.build _ ps|.buildSlice _ _ ps=>snds (toL ps)
 |.makeSlice _ l c=>[l,c]
 |.store _ x y=>[x,y]
 |.lookup _ m i _=>[m,i]
 |.mapUpdate _ m i x=>[m,i,x]
 |.makeFunc _ fs cs=>ap (toL fs) (toL cs)
 |.call c=>ap (calO c.callee) (toL c.args)
 |.makeInterface _ x|.typeAssert x _ _ _=>[x]
 |_=>[]
where
 calO:Callee->List Operand
  |.value x|.invoke x _=>[x]
  |_=>[]
 optL:Option Operand->List Operand
  |none=>[]
  |some x=>[x]
 snds:List (Nat×Operand)->List Operand
  |[]=>[]
  |(_,x)::r=>x::snds r
def evR(B:Tab)(Φ:FuncId->Option Ct)(o:Oper)(env:Env)(M:Mem):Rs:=
 match o.op with
 |.pick c a b=>dh (ag6 env c a b) M
 |_=>(match dz B Φ o (fun x=>(rd env x).strip) M with
  |⟨vc,v,e,M'⟩=>⟨ap (pi (rd env) (cy o.op)) vc,v,e,M'⟩)
def tw(B:Tab)(Φ:FuncId->Option Ct)(all:List Oper):List Oper->Env->Mem->(Env->Mem->Prop)->Prop
 |[],env,M,K=>K env M
 |o::rest,env,M,K=>
  (match o.guard with
  |none=>(match evR B Φ o env M with
   |⟨vc,v,e,M'⟩=>conj vc (tw B Φ all rest (wr o.dst v (p8 env e)) M' K))
  |some (j,want)=>(match vq all j,evR B Φ o env M with
   |some dj,⟨vc,v,e,M'⟩=>bif cd [lx (gt env dj),pd o,fresh M e]then
     imp (gc (gt env dj) want) vc (tw B Φ all rest (wr o.dst (.gd j want (gc (gt env dj) want) (avF M M' v)) env) M K)else False
   |none,_=>False))
def dw(B:Tab)(Φ:FuncId->Option Ct)(all:List Oper):List Oper->Env->Mem->(Env->Prop)->Prop
 |[],env,_,K=>K env
 |o::rest,env,M,K=>
  (match o.guard with
  |none=>(match evR B Φ o env M with
   |⟨vc,v,e,M'⟩=>bif cd [pd o,fresh M e]then conj vc (dw B Φ all rest (wr o.dst (avF M M' v) env) M K)else False)
  |some (j,want)=>(match vq all j,evR B Φ o env M with
   |some dj,⟨vc,v,e,M'⟩=>bif cd [lx (gt env dj),pd o,fresh M e]then
     imp (gc (gt env dj) want) vc (dw B Φ all rest (wr o.dst (.gd j want (gc (gt env dj) want) (avF M M' v)) env) M K)else False
   |none,_=>False))
def azo:List (Nat×Bool)->Nat->Bool->Bool
 |[],_,_=>false
 |(i,w)::r,j,w'=>bif nob (Nat.beq i j) (be5 w w')then true else azo r j w'
def unG(fs:List (Nat×Bool)):V->V
 |.gd j w P v=>bif azo fs j w then v else .gd j w P v
 |v=>v
def uy:V->Bool
 |.gd _ _ _ _=>true
 |_=>false
def n6(all:List Oper)(env:Env):Nat->Nat->Bool->List (Nat×Bool)
 |0,_,_=>[]
 |n+1,j,w=>(j,w)::(match vq all j with
  |some d=>(match gt env d with
   |.gd i w' _ _=>n6 all env n i w'
   |_=>[])
  |none=>[])
def asu(t:Nat):Option Nat->Bool
 |some d=>Nat.beq d t
 |none=>false
def bhv(all:List Oper)(c:Operand)(side:Bool)(v:V):V:=
 match c,v with
 |.tmp t,.gd j w P x=>bif nob (asu t (vq all j)) (be5 w side)then x else .gd j w P x
 |_,v=>v
def bb5(all:List Oper)(fs:List (Nat×Bool))(env:Env)(c a b:Operand):List Prop×V:=
 bif cd [(rd env c).strip.isB,(rd env a).strip.isB,(rd env b).strip.isB]then
  (ap (pi (fun x=>unG fs (rd env x)) [c]) (ap (ai6 (rd env c).strip.boolV true (bhv all c true (unG fs (rd env a)))) (ai6 (rd env c).strip.boolV false (bhv all c false (unG fs (rd env b))))),
   .d .bool (bhr (rd env c).strip.boolV a b (rd env a).strip.boolV (rd env b).strip.boolV))
 else bad
def evG(B:Tab)(Φ:FuncId->Option Ct)(all:List Oper)(fs:List (Nat×Bool))(o:Oper)(env:Env)(M:Mem):Rs:=
 match o.op with
 |.pick c a b=>dh (bb5 all fs env c a b) M
 |_=>(match dz B Φ o (fun x=>(rd env x).strip) M with
  |⟨vc,v,e,M'⟩=>⟨ap (pi (fun x=>unG fs (rd env x)) (cy o.op)) vc,v,e,M'⟩)
def wIn(d:Nat):List Oper->Bool
 |[]=>false
 |o::r=>bif asu d o.dst then true else wIn d r
def twG(B:Tab)(Φ:FuncId->Option Ct)(all:List Oper):List Oper->Env->Mem->(Env->Mem->Prop)->Prop
 |[],env,M,K=>K env M
 |o::rest,env,M,K=>
  (match o.guard with
  |none=>(match evG B Φ all [] o env M with
   |⟨vc,v,e,M'⟩=>bif uy v then False else conj vc (twG B Φ all rest (wr o.dst v (p8 env e)) M' K))
  |some (j,want)=>(match vq all j,evG B Φ all (n6 all env 8 j want) o env M with
   |some dj,⟨vc,v,e,M'⟩=>bif cd [lx (gt env dj),pd o,fresh M e,neg (wIn dj (o::rest))]then
     imp (gc (gt env dj) want) vc (twG B Φ all rest (wr o.dst (.gd j want (gc (gt env dj) want) (avF M M' v)) env) M K)else False
   |none,_=>False))
def dwG(B:Tab)(Φ:FuncId->Option Ct)(all tl:List Oper):List Oper->Env->Mem->(Env->Prop)->Prop
 |[],env,_,K=>K env
 |o::rest,env,M,K=>
  (match o.guard with
  |none=>(match evG B Φ all [] o env M with
   |⟨vc,v,e,M'⟩=>bif cd [pd o,fresh M e]then conj vc (dwG B Φ all tl rest (wr o.dst (avF M M' v) env) M K)else False)
  |some (j,want)=>(match vq all j,evG B Φ all (n6 all env 8 j want) o env M with
   |some dj,⟨vc,v,e,M'⟩=>bif cd [lx (gt env dj),pd o,fresh M e,neg (wIn dj (o::rest)),neg (wIn dj tl)]then
     imp (gc (gt env dj) want) vc (dwG B Φ all tl rest (wr o.dst (.gd j want (gc (gt env dj) want) (avF M M' v)) env) M K)else False
   |none,_=>False))
def nogd:Env->Bool
 |[]=>true
 |(_,v)::r=>bif uy v then false else nogd r
def vt:Op->Bool
 |.move _|.assign _|.nilCheck _|.load _ _|.fieldAddr _ _ _|.field _ _ _|.indexAddr _ _ _|.index _ _ _|.binOp _ _ _ _ _|.unOp _ _ _|.convert _ _ _=>true
 |_=>false
def ce:V->Bool
 |.d _ _|.nl|.np|.u=>true
 |.p a b=>nob (ce a) (ce b)
 |.ag v|.fn _ v|.bx v=>ce v
 |_=>false
def acr(env:Env):List Operand->Bool
 |[]=>true
 |x::r=>nob (ce (rd env x)) (acr env r)
def alb(B:Tab)(e:TypeId):Ob:=⟨.pt (B.σ e).deep,(B.σ e).deep.dflt⟩
def bia(d:Nat):V->Bool
 |.ad k [.de]=>Nat.beq k d
 |_=>false
def bqe(d:Nat):Rs->Option Ob
 |⟨[],_,_,[(k,ob)]⟩=>bif Nat.beq k d then some ob else none
 |_=>none
def bxu:Rs->Option (List Prop×V)
 |⟨vc,v,[],[]⟩=>bif ce v then some (vc,v)else none
 |_=>none
def bxP(B:Tab)(Φ:FuncId->Option Ct)(o:Oper)(env:Env)(k:List Prop->V->Prop):Prop:=
 bif nob (vt o.op) (acr env (cy o.op))then (match bxu (evR B Φ o env [])with
  |some (vc,v)=>k vc v
  |none=>False)else False
def bxA(B:Tab)(e:TypeId)(d:Nat)(X:Mem)(k:Prop):Prop:=bif cd [(B.τ e).ok,B.z e,isN (go X d)]then k else False
def bxS(B:Tab)(t:TypeId)(d:Nat)(y:Operand)(env:Env)(X:Mem)(k:Ob->Prop):Prop:=
 match go X d with
 |some ob=>bif nob (ce (rd env y)) (bia d (gt env d))then (match bqe d (uq B t (.ad d [.de]) (rd env y) [(d,ob)])with
  |some ob'=>k ob'
  |none=>False)else False
 |none=>False
def bx(B:Tab)(Φ:FuncId->Option Ct):List Oper->Env->Mem->(Env->Mem->Prop)->Prop
 |[],env,X,K=>K env X
 |o::r,env,X,K=>
  (match o.guard,o.op,o.dst with
  |none,.alloc e,some d=>bxA B e d X (bx B Φ r ((d,.ad d [.de])::env) ((d,alb B e)::X) K)
  |none,.store t (.tmp d) y,none=>bxS B t d y env X (fun ob'=>bx B Φ r env (put d ob' X) K)
  |none,_,some d=>bxP B Φ o env (fun vc v=>conj vc (bx B Φ r ((d,v)::env) X K))
  |_,_,_=>False)
def aiq:Op->Bool
 |.move _|.assign _|.extract _ _=>true
 |_=>false
def newK:Op->Bool
 |.alloc _|.build _ _|.makeSlice _ _ _=>true
 |.buildSlice _ n p=>nob (Nat.beq n 0) (Nat.beq (len (toL p)) 0)
 |.call c=>(match c.callee with
  |.value _|.builtin .len=>true
  |_=>false)
 |_=>false
def af4(M:Mem):V->Bool
 |.p a b=>nob (af4 M a) (af4 M b)
 |.ag v|.fn _ v|.bx v=>af4 M v
 |.ref k _|.ad k _=>neg (isN (go M k))
 |.gd _ _ _ _|.ifc _ _|.tup _=>false
 |_=>true
def aqm(M:Mem)(env:Env):List Operand->Bool
 |[]=>true
 |x::r=>nob (af4 M (rd env x)) (aqm M env r)
def sldK(o:Op)(env:Env):Bool:=
 match o with
 |.slice _ _ _ _ none=>acr env (cy o)
 |_=>false
def litK(o:Op)(env:Env):Bool:=
 match o with
 |.buildSlice _ _ _=>acr env (cy o)
 |.call c=>(match c.callee with
  |.builtin .append=>acr env (cy o)
  |_=>false)
 |_=>false
def ao5(M:Mem)(o:Op)(env:Env):Bool:=orb (aiq o) (orb (orb (sldK o env) (litK o env)) (nob (orb (vt o) (newK o)) (aqm M env (cy o))))
def klB:List Ev->Mem->Bool
 |[],[]=>true
 |.kl k::r,(j,_)::N=>nob (Nat.beq k j) (klB r N)
 |_,_=>false
def ali:List Nat->Mem->Bool
 |[],_=>true
 |k::r,M=>nob (isN (go M k)) (ali r M)
def xv:V->Bool
 |.p a b=>nob (xv a) (xv b)
 |.ag v|.tup v|.fn _ v|.ifc _ v|.bx v=>xv v
 |.gd _ _ _ _=>false
 |_=>true
def ab0:Env->Bool
 |[]=>true
 |(_,v)::r=>nob (xv v) (ab0 r)
def aez:Op->Bool
 |.build _ _|.slice _ _ _ _ none=>true
 |.call c=>(match c.callee with
  |.builtin .len=>true
  |_=>false)
 |_=>false
def ww(o:Op):Bool:=nob (orb (vt o) (aez o)) (neg (aiq o))
def ksV(ks:List Nat):V->Bool
 |.d _ _|.nl|.np|.u=>true
 |.p a b=>nob (ksV ks a) (ksV ks b)
 |.ag v|.fn _ v|.bx v=>ksV ks v
 |.ref k _|.ad k _=>inN k ks
 |_=>false
def w7(ks:List Nat)(env:Env):List Operand->Bool
 |[]=>true
 |x::r=>nob (ksV ks (rd env x)) (w7 ks env r)
def aqr(env:Env):List Oper->List Nat
 |[]=>[]
 |o::r=>(match o.op with
  |.load _ (.tmp t)=>(match gt env t with
   |.bx (.ad k _)=>k::aqr env r
   |_=>aqr env r)
  |_=>aqr env r)
def bo5(τ:Ty):Bool:=cd [τ.ok,gb τ.size 1,neg τ.agg]
def bxK(B:Tab)(as:List Nat)(o:Op)(env:Env):Bool:=
 match o with
 |.load t (.tmp t0)=>(match gt env t0 with
  |.bx (.ad k π)=>cd [asf π,inN k as,bo5 (B.τ t)]
  |_=>false)
 |_=>false
def ai5(as:List Nat):Ev->Bool
 |.kl k|.fz k _=>neg (inN k as)
 |.cut k o o'=>orb (neg (inN k as)) (aan (qb [.de] o) (qb [.de] o'))
 |.mv j _|.un j _|.kn j _=>neg (inN j as)
 |.tk k o o'=>orb (neg (inN k as)) (aan (qb [.de] o) (qb [.de] o'))
def art(as:List Nat):List Ev->Bool
 |[]=>true
 |e::r=>nob (ai5 as e) (art as r)
def aqo(ms:List Nat)(o:Oper):Nat:=o.after.toList.foldl (fun m e=>if Region.binds .any e then m |||(1 <<< e.on) |||(ms.getD e.on 0)else m) 0
def ij:List Nat->List Oper->List Nat
 |ms,[]=>ms
 |ms,o::r=>ij (ms++[aqo ms o]) r
def vm(n:Nat)(ms:List Nat)(m i:Nat):Bool:=(List.range n).any fun j=>!(Nat.blt j m)&&!((ms.getD j 0).testBit i)
def bh4(l:List Oper)(m:Nat):List Bool:=(List.range m).map fun i=>vm (len l) (ij [] l) m i
def aoq:List Bool->Bool
 |[]=>false
 |b::_=>b
def ala:List Bool->List Bool
 |[]=>[]
 |_::r=>r
def hx(D:List Bool)(ks as:List Nat)(B:Tab)(Φ:FuncId->Option Ct)(M0:Mem):List Oper->Env->Mem->(Env->Mem->Prop)->Prop
 |[],env,X,K=>K env X
 |o::r,env,X,K=>
  (match o.guard,o.dst with
  |none,some d=>bif ao5 (ap X M0) o.op env then (match evR B Φ o env (ap X M0)with
   |⟨vc,v,e,N⟩=>bif cd [klB e (eq (len e) N),ali (ca (eq (len e) N)) M0,ali (ca (eq (len e) N)) X,xv v,orb (neg (aoq D)) (orb (neg (ww o.op)) (orb (bxK B as o.op env) (nob (w7 ks env (cy o.op)) (ksV ks v))))]then conj vc (hx (ala D) ks as B Φ M0 r ((d,v)::env) (ap (eq (len e) N) X) K)else False)else False
  |_,_=>False)
def cd4(o:Oper):Bool:=
 match o.op with
 |.call c=>(match c.callee with
  |.value _=>true
  |_=>false)
 |_=>false
def bay(o:Oper):Bool:=
 match o.op with
 |.call c=>(match c.callee with
  |.value _|.builtin .append=>true
  |_=>false)
 |.buildSlice _ _ _|.binOp _ _ _ _ _|.unOp _ _ _|.convert _ _ _=>true
 |_=>false
def jw(ks:List Nat):Ev->Bool
 |.kl k|.fz k _|.cut k _ _=>neg (inN k ks)
 |.mv j k|.un j k=>nob (neg (inN j ks)) (neg (inN k ks))
 |.kn j _=>neg (inN j ks)
 |.tk k _ _=>neg (inN k ks)
def dv(ks:List Nat):List Ev->Bool
 |[]=>true
 |e::r=>nob (jw ks e) (dv ks r)
def adt(l:List Oper)(m:Nat):List Bool:=(List.range (Nat.sub (len l) m)).map fun j=>(List.range m).any fun i=>!(((ij [] l).getD (Nat.add m j) 0).testBit i)
def avx:List Bool->List Oper->List Oper
 |b::bs,o::r=>bif nob b (ww o.op)then o::avx bs r else avx bs r
 |_,_=>[]
def ac6(l:List Oper)(m:Nat):List (List Oper):=(List.range (Nat.sub (len l) m)).map fun j=>avx ((List.range m).map fun i=>!(((ij [] l).getD (Nat.add m j) 0).testBit i)) (eq m l)
def hdP:List (List Oper)->List Oper
 |[]=>[]
 |a::_=>a
def tlP:List (List Oper)->List (List Oper)
 |[]=>[]
 |_::r=>r
def avc:cr->cr->Bool
 |[],[]=>true
 |.l::a,.l::b|.r::a,.r::b|.de::a,.de::b=>avc a b
 |.ix i::a,.ix j::b=>nob (Nat.beq i j) (avc a b)
 |_,_=>false
def bu6:V->V->Bool
 |.ref k π,.ref j ρ|.ad k π,.ad j ρ=>nob (Nat.beq k j) (avc π ρ)
 |_,_=>false
def stB(B:Tab)(Φ:FuncId->Option Ct)(ks:List Nat):List Oper->Env->Mem->Bool
 |[],_,_=>true
 |o::r,env,M=>(match o.dst,evR B Φ o env M with
  |some d,⟨[],v,[],_⟩=>nob (nob (ao5 M o.op env) (nob (w7 ks env (cy o.op)) (ksV ks v))) (nob (bu6 v (gt env d)) (stB B Φ ks r env M))
  |_,_=>false)
def bks(o:Oper):Bool:=
 match o.op with
 |.store _ _ _=>true
 |_=>false
def bhz:List Oper->Bool
 |[]=>true
 |o::r=>nob (neg (ww o.op)) (bhz r)
def ags(ks as:List Nat)(B:Tab)(Φ:FuncId->Option Ct):List (List Oper)->List Bool->List Oper->Env->Mem->Bool
 |_,_,[],_,_=>true
 |ls,fs,o::r,env,M=>(match evR B Φ o env M with
  |⟨_,v,e,M'⟩=>nob (nob (nob (art as e) (orb (neg (aoq fs)) (orb (buy ks) (orb (neg (bay o)) (orb (dv ks e) (stB B Φ ks (hdP ls) (wr o.dst v (p8 env e)) M')))))) (orb (neg (bks o)) (orb (buy ks) (orb (bhz (hdP ls)) (orb (dv ks e) (stB B Φ ks (hdP ls) (wr o.dst v (p8 env e)) M')))))) (ags ks as B Φ (tlP ls) (ala fs) r (wr o.dst v (p8 env e)) M'))
def tp:List Oper->List Nat
 |[]=>[]
 |o::r=>(match o.op,o.dst with
  |.alloc _,some d=>d::tp r
  |_,_=>tp r)
def tgt(o:Oper):Option Nat:=
 match o.op with
 |.store _ (.tmp d) _=>some d
 |_=>none
def akl:List Oper->List Nat
 |[]=>[]
 |o::r=>(match tgt o with
  |some d=>d::akl r
  |none=>akl r)
def bbw(env:Env):List Operand->List Nat
 |[]=>[]
 |x::r=>(match rd env x with
  |.ad k _|.ref k _=>k::bbw env r
  |_=>bbw env r)
def ajd(env:Env):List Oper->List Nat
 |[]=>[]
 |o::r=>ap (bbw env (cy o.op)) (ajd env r)
def klE:List Nat->Env->Env
 |[],env=>env
 |k::r,env=>klE r (evE (.kl k) env)
def klM:List Nat->Mem->Mem
 |[],M=>M
 |k::r,M=>klM r (del k M)
def clr:Env->Env
 |[]=>[]
 |(t,v)::r=>(match v with|.gd _ _ _ _=>(t,.any)::clr r|v=>(t,v)::clr r)
structure Spl where
 b:Bool
 f:FuncId
 s:Sp
def twS(_:Tab)(_:FuncId->Option Ct)(_ _:List Oper)(_:Env)(_:Mem)(_:Env->Mem->Prop):Prop:=False
def dumV:V->V
 |.d t _=>.d t t.dflt
 |_=>.any
def ifP(p x y:Prop):Prop:=(p->x)/\(¬p->y)
def twQ(B:Tab)(Φ:FuncId->Option Ct)(all:List Oper):List Oper->Env->Mem->(Env->Mem->Prop)->Prop
 |[],env,M,K=>K env M
 |o::rest,env,M,K=>
  (match o.guard with
  |none=>(match evG B Φ all [] o env M with
   |⟨vc,v,e,M'⟩=>bif uy v then False else conj vc (twQ B Φ all rest (wr o.dst v (p8 env e)) M' K))
  |some (j,want)=>(match vq all j,evG B Φ all (n6 all env 8 j want) o env M with
   |some dj,⟨vc,v,e,M'⟩=>bif cd [lx (gt env dj),neg (wIn dj (o::rest))]then
     (bif nob (pd o) (fresh M e)then imp (gc (gt env dj) want) vc (twQ B Φ all rest (wr o.dst (.gd j want (gc (gt env dj) want) (avF M M' v)) env) M K)
     else bif uy v then False else ifP (gc (gt env dj) want) (conj vc (twQ B Φ all rest (wr o.dst v (p8 env e)) M' K)) (twQ B Φ all rest (wr o.dst (.gd j want (gc (gt env dj) want) (dumV v)) env) M K))else False
   |none,_=>False))
def plc:List Nat->Nat->Nat
 |[],_=>0
 |k::r,i=>bif Nat.beq k i then 0 else Nat.succ (plc r i)
def brb{α β:Type}(f:α->β):List α->List β
 |[]=>[]
 |x::r=>f x::brb f r
def buq(σ:List Nat)(e:Edge):Edge:={ e with on:=plc σ e.on }
def aq3(σ:List Nat)(o:Oper):Oper:={ o with after:=⟨brb (buq σ) (toL o.after)⟩ }
def aeq(σ:List Nat)(l:List Oper):List Nat->List Oper
 |[]=>[]
 |k::r=>(match pq l k with|some o=>aq3 σ o::aeq σ l r|none=>aeq σ l r)
def bym(f:List Nat):List Edge->Bool
 |[]=>false
 |e::r=>bif nob (Region.binds .any e) (inN e.on f)then true else bym f r
def slow(R:Bool)(o:Oper):Bool:=orb (neg (pd o)) (orb (nob R (cd4 o)) (match o.op with
 |.box _ _=>true
 |_=>false))
def bdp(R:Bool):Nat->List Oper->List Nat->List Nat
 |_,[],f=>f
 |j,o::r,f=>bif orb (slow R o) (bym f (toL o.after))then bdp R (Nat.succ j) r (ap f [j])else bdp R (Nat.succ j) r f
def bur(f:List Nat):Nat->List Oper->List Nat
 |_,[]=>[]
 |j,_::r=>bif inN j f then bur f (Nat.succ j) r else j::bur f (Nat.succ j) r
def bae(R:Bool)(l:List Oper):List Nat:=match bdp R 0 l []with|f=>ap (bur f 0 l) f
def gv(R:Bool)(l:List Oper):List Oper:=match bae R l with|σ=>aeq σ l σ
inductive Sh where
 |d (t:T)
 |ref (k:Nat) (π:cr)
 |ad (k:Nat) (π:cr)
 |fn (f:FuncId)
 |bx (s:Sh)
 |fc (f:FuncId) (s:Sh)
 |pr (a b:Sh)
 |u
@[reducible] def Sh.den:Sh->Type
 |.d t=>t.den
 |.bx s|.fc _ s=>s.den
 |.pr a b=>a.den×b.den
 |_=>Unit
def oOf(k:Nat):List (Nat×O)->Option O
 |[]=>none
 |(j,o)::r=>bif Nat.beq j k then some o else oOf k r
def bic(M:Mem)(os:List (Nat×O))(k:Nat)(π:cr):Bool:=
 match go M k,oOf k os with
 |some q,some o=>orb (z7 π) (q.o.beq o)
 |_,_=>false
def bpf(M:Mem)(os:List (Nat×O))(k:Nat)(π:cr):Bool:=
 match go M k,oOf k os with
 |some q,some o=>orb (aan (qb π q.o) (qb π o)) (q.o.beq o)
 |_,_=>false
def Sh.read(M:Mem)(os:List (Nat×O)):(s:Sh)->V->Option s.den
 |.d t,v=>v.as t
 |.ref k π,.ref k' π'=>bif nob (bic M os k π) (nob (Nat.beq k k') (peq π π'))then some ()else none
 |.ad k π,.ad k' π'=>bif nob (bpf M os k π) (nob (Nat.beq k k') (peq π π'))then some ()else none
 |.fn f,.fn f' .u=>bif Nat.beq f f' then some ()else none
 |.bx s,.bx v=>s.read M os v
 |.fc f s,.fn f' v=>bif Nat.beq f f' then s.read M os v else none
 |.pr a b,.p v v'=>(match a.read M os v,b.read M os v' with|some x,some y=>some (x,y)|_,_=>none)
 |.u,.u=>some ()
 |_,_=>none
def Sh.put:(s:Sh)->s.den->V
 |.d t,x=>n9 t x
 |.ref k π,_=>.ref k π
 |.ad k π,_=>.ad k π
 |.fn f,_=>.fn f .u
 |.bx s,x=>.bx (s.put x)
 |.fc f s,x=>.fn f (s.put x)
 |.pr a b,x=>.p (a.put x.1) (b.put x.2)
 |.u,_=>.u
abbrev Shs:=List (Nat×Sh)
abbrev Obs:=List (Nat×O)
@[reducible] def wv:Shs->Type
 |[]=>Unit
 |(_,s)::r=>s.den×wv r
@[reducible] def rn:Obs->Type
 |[]=>Unit
 |(_,o)::r=>o.strip.den×rn r
def awm(M:Mem)(os:Obs)(env:Env):(l:Shs)->Option (wv l)
 |[]=>some ()
 |(t,s)::r=>(match s.read M os (gt env t),awm M os env r with|some x,some y=>some (x,y)|_,_=>none)
def ao8:(l:Shs)->wv l->Env
 |[],_=>[]
 |(t,s)::r,x=>(t,s.put x.1)::ao8 r x.2
def wkO(q:Ob)(o:O):Option o.strip.den:=bif q.o.wk o then rj o.strip q.x else none
def aal(M:Mem):(l:Obs)->Option (rn l)
 |[]=>some ()
 |(k,o)::r=>(match go M k with
  |some q=>(match wkO q o,aal M r with|some x,some y=>some (x,y)|_,_=>none)
  |none=>none)
def ml:(l:Obs)->rn l->Mem
 |[],_=>[]
 |(k,o)::r,x=>(k,⟨o,x.1⟩)::ml r x.2
def inO(k:Nat):Obs->Bool
 |[]=>false
 |(j,_)::r=>orb (Nat.beq j k) (inO k r)
def ql(os:Obs):List Nat->Mem->Env->Env×Mem
 |[],M,env=>(env,M)
 |k::r,M,env=>bif inO k os then ql os r M env else (match go M k with
  |some ob=>ql os r (del k M) (evE (.fz k ob) env)
  |none=>ql os r M env)
def um(os:Obs):Shs->Env->Mem->Env×Mem
 |[],env,M=>(env,M)
 |(t,.ref k [])::r,env,M=>(match gt env t,oOf k os with
  |.nl,some (.sl o)=>um os r ((t,.ref k [])::evE (.kl k) env) ((k,⟨.sl o,[]⟩)::del k M)
  |.ref j [],_=>bif orb (Nat.beq j k) (neg (Nat.ble (Nat.succ j) gid))then um os r env M else (match go M j with
   |some ob=>um os r (evE (.mv j k) (evE (.kl k) env)) ((k,ob)::del j (del k M))
   |none=>um os r env M)
  |_,_=>um os r env M)
 |_::r,env,M=>um os r env M
def bcd(_:Obs)(env:Env)(M:Mem):Env×Mem:=(env,M)
def anv(ss:Shs)(os:Obs)(env:Env)(M:Mem):Option ((wv ss×rn os)×Env):=
 match um os ss env M with
 |(env0,M0)=>match bcd os env0 M0 with
 |(env1,M1)=>(match ql os (ca M1) M1 env1 with
  |(env2,M2)=>(match awm M2 os env2 ss,aal M2 os with
   |some x,some y=>some ((x,y),env2)
   |_,_=>none))
def kept(env:Env):List Nat->Env
 |[]=>[]
 |t::r=>bif ce (gt env t)then (t,gt env t)::kept env r else kept env r
def x7(k:Nat):List Nat->Bool
 |[]=>false
 |j::r=>orb (Nat.beq j k) (x7 k r)
def biy(ks:List Nat):List Oper->Bool
 |[]=>true
 |o::r=>(match o.dst with
  |some d=>bif x7 d ks then false else biy ks r
  |none=>biy ks r)
def noW(ks:List Nat):Code->Bool
 |.region _ ops _=>biy ks (toL ops)
 |.seq a b|.cond _ a b=>nob (noW ks a) (noW ks b)
 |.block _ c|.loop c|.scope c=>noW ks c
 |.label _|.skip|.ret|.exit _|.goto _=>true
 |_=>false
def T.oks:(t:T)->t.den->List Prop
 |.int k,n=>[inK k n]
 |.p a b,x=>ap (a.oks x.1) (b.oks x.2)
 |.sl e,l=>[(T.sl e).ok l]
 |.pt t,x|.fn _ t,x|.ifc _ t,x|.ib _ t,x=>t.oks x
 |.mp k v,l=>[(T.mp k v).ok l]
 |.op t,x=>[(T.op t).ok x]
 |.ns t,x=>[(T.ns t).ok x]
 |.str,s=>[s.size<=nb]
 |.er _,_|.bool,_|.u,_|.any,_=>[]
def Sh.oks:(s:Sh)->s.den->List Prop
 |.d t,x=>t.oks x
 |.bx s,x|.fc _ s,x=>s.oks x
 |.pr a b,x=>ap (a.oks x.1) (b.oks x.2)
 |.ref _ _,_|.ad _ _,_|.fn _,_|.u,_=>[]
def okS:(l:Shs)->wv l->List Prop
 |[],_=>[]
 |(_,s)::r,x=>ap (s.oks x.1) (okS r x.2)
def okO:(l:Obs)->rn l->List Prop
 |[],_=>[]
 |(_,o)::r,x=>ap (o.strip.oks x.1) (okO r x.2)
def imps:List Prop->Prop->Prop
 |[],K=>K
 |p::r,K=>p->imps r K
def xw{S:Type}(body:S->(S->Prop)->Prop):Nat->S->Prop
 |0,_=>False
 |n+1,s=>body s (xw body n)
def bn{S:Type}(body:S->(S->Prop)->Prop)(s:S):Prop:=∃n,xw body n s
def dk{S:Type}(k:S->Prop)(f:(S->Prop)->Prop):Prop:=f k
inductive Ann where
 |n
 |s (a b:Ann)
 |l (ss:Shs) (os:Obs) (ks:List Nat) (a:Ann)
 |j (ss:Shs) (os:Obs) (ks:List Nat) (a:Ann)
def Ann.fst:Ann->Ann
 |.s a _|a=>a
def Ann.snd:Ann->Ann
 |.s _ b=>b
 |a=>a
inductive Ex where
 |nm
 |ex (id:Nat)
 |rt
 |go (l:Nat)
def bbe(ss:Shs)(os:Obs)(env:Env)(M:Mem)(k:wv ss×rn os->Prop):Prop:=
 match anv ss os env M with
 |some s=>k s.1
 |none=>False
def ah0(next:Env->Mem->Prop)(K:Ex->Env->Mem->Prop):Ex->Env->Mem->Prop
 |.nm,env,M=>next env M
 |.ex id,env,M=>K (.ex id) env M
 |.rt,env,M=>K .rt env M
 |.go l,env,M=>K (.go l) env M
def yo(ss:Shs)(os:Obs)(k:wv ss×rn os->Prop)(K:Ex->Env->Mem->Prop):Ex->Env->Mem->Prop
 |.nm,env,M=>bbe ss os env M k
 |.ex id,env,M=>K (.ex id) env M
 |.rt,env,M=>K .rt env M
 |.go l,env,M=>K (.go l) env M
def apn(id:Nat)(K:Ex->Env->Mem->Prop):Ex->Env->Mem->Prop
 |.nm,env,M=>K .nm env M
 |.ex id',env,M=>bif Nat.beq id' id then K .nm env M else K (.ex id') env M
 |.rt,env,M=>K .rt env M
 |.go l,env,M=>K (.go l) env M
def scpK(K:Ex->Env->Mem->Prop):Ex->Env->Mem->Prop
 |.nm,env,M=>K .nm env M
 |.ex id,env,M=>K (.ex id) env M
 |.rt,env,M=>K .rt env M
 |.go _,_,_=>False
def onK(ss:Shs)(os:Obs)(ks:List Nat)(env:Env)(K:Ex->Env->Mem->Prop)(s:wv ss×rn os):Prop:=imps (okS ss s.1) (imps (okO os s.2) (K .nm (ap (ao8 ss s.1) (kept env ks)) (ml os s.2)))
def decN:Nat->Nat->List Nat
 |0,_=>[]
 |f+1,n=>bif Nat.beq n 0 then []else Nat.sub (Nat.mod n 10000000) 1::decN f (Nat.div n 10000000)
def bqg(n:Nat):List Nat:=decN 20 (Nat.div n 10000)
def hrC(n:Nat):Bool:=neg (Nat.ble 5000 (Nat.mod n 10000))
def mC(n:Nat):Nat:=Nat.mod n 2500
def ayb(n:Nat):Nat:=bif Nat.ble 5000 n then 5000 else bif Nat.ble 3000 n then 3000 else 2000
def bqv(n:Nat):Bool:=nob (Nat.ble 3000 n) (neg (Nat.ble 5000 n))
def fzL:List (Bool×O)->List (Bool×O)
 |[]=>[]
 |q::r=>(q.1,.fz q.2.strip)::fzL r
def fzX:(rt:List (Bool×O))->gq rt->gq (fzL rt)
 |[],_=>()
 |_::r,x=>(x.1,fzX r x.2)
def fzCt(ct:Ct):Ct:=⟨ct.args,ct.ga,ct.pre,fzL ct.rt,fun x=>fzX ct.rt (ct.res x),true,none⟩
def azc(Φ:FuncId->Option Ct):FuncId->Option Ct:=fun f=>match Φ f with
 |some ct=>(match ct.mu with
  |none=>some (fzCt ct)
  |some _=>some ct)
 |none=>none
def bkl(env:Env):List Operand->List Nat
 |[]=>[]
 |x::r=>(match rd env x with
  |.ref k _=>k::bkl env r
  |_=>bkl env r)
def ato(env:Env):List Oper->List Nat
 |[]=>[]
 |o::r=>ap (bkl env (cy o.op)) (ato env r)
def ar2:Nat->List Oper->Nat
 |i,[]=>i
 |i,o::r=>(match o.op with
  |.alloc _=>i
  |_=>ar2 (Nat.succ i) r)
def afh:Nat->List Oper->Nat
 |i,[]=>i
 |i,o::r=>bif pd o then afh (Nat.succ i) r else i
def bw8(i:Nat)(o:Oper):Oper:={ o with after:=⟨ap (toL o.after) [⟨i,.data⟩]⟩ }
def bva:Nat->Nat->List Oper->List Oper
 |_,_,[]=>[]
 |0,i,o::r=>bw8 i o::r
 |Nat.succ j,i,o::r=>o::bva j i r
def bp7:Nat->Nat->List Nat
 |_,0=>[]
 |a,Nat.succ k=>a::bp7 (Nat.succ a) k
def mvS(i j n:Nat):List Nat:=ap (bp7 0 i) (j::ap (bp7 i (Nat.sub j i)) (bp7 (Nat.succ j) (Nat.sub n (Nat.succ j))))
def bpi(l:List Oper):List Oper:=bva (ar2 0 l) (afh 0 l) l
def bqa(l:List Oper):List Oper:=aeq (mvS (afh 0 l) (ar2 0 l) (len l)) (bva (afh 0 l) (ar2 0 l) l) (mvS (afh 0 l) (ar2 0 l) (len l))
def hxT(_:Tab)(_:FuncId->Option Ct)(_:List Oper)(_:Nat)(_:Env)(_:Mem)(_:Env->Mem->Prop):Prop:=False
def ev(B:Tab)(Φ:FuncId->Option Ct)(cut:Nat->Nat):Code->Ann->(Ex->Env->Mem->Prop)->Env->Mem->Prop
 |.skip,_,K,env,M=>K .nm env M
 |.ret,_,K,env,M=>K .rt env M
 |.exit id,_,K,env,M=>K (.ex id) env M
 |.goto l,_,K,env,M=>K (.go l) env M
 |.label _,_,K,env,M=>K .nm env M
 |.scope c,A,K,env,M=>ev B Φ cut c A (scpK K) env M
 |.seq x y,.j ss os ks A,K,env,M=>bif noW ks x then
   dk (onK ss os ks env (ah0 (fun env M=>ev B Φ cut y A.snd K env M) K)) (fun k=>ev B Φ cut x A.fst (yo ss os k (ah0 (fun env M=>ev B Φ cut y A.snd K env M) K)) env M)else False
 |.seq x y,A,K,env,M=>ev B Φ cut x A.fst (ah0 (fun env M=>ev B Φ cut y A.snd K env M) K) env M
 |.region id ops draw,_,K,env,M=>
  (match draw with
  |false=>bif Nat.beq (cut id) 1600 then (bif nogd env then twQ B Φ (toL ops) (toL ops) env M (fun env M=>K .nm (clr env) M)else False)else
   bif Nat.beq (cut id) 1500 then twS B Φ (toL ops) (toL ops) env M (fun env M=>K .nm (clr env) M)else
   bif nogd env then twG B Φ (toL ops) (toL ops) env M (fun env M=>K .nm (clr env) M)else False
  |true=>bif Nat.beq (cut id) 999999 then (match ql [] (ajd env (toL ops)) M env with
    |(env1,M1)=>bx B Φ (toL ops) (klE (tp (toL ops)) env1) [] (fun env X=>K .nm (clr env) (ap X (klM (tp (toL ops)) M1))))else
   bif Nat.beq (cut id) 999998 then (hxT B Φ (bpi (toL ops)) (afh 0 (toL ops)) env M (fun env M=>K .nm (clr env) M)/\hxT B Φ (bqa (toL ops)) (Nat.succ (afh 0 (toL ops))) env M (fun env M=>K .nm (clr env) M))else
   bif Nat.ble 10000 (cut id)then
    (match bqg (cut id),hrC (cut id),mC (cut id)with
    |ks,hr,m=>bif ab0 env then hx (bh4 (gv hr (toL ops)) m) ks [] B Φ M (eq m (gv hr (toL ops))) env [] (fun env X=>bif nob (nogd env) (ags ks [] B Φ (ac6 (gv hr (toL ops)) m) (adt (gv hr (toL ops)) m) (nz m (gv hr (toL ops))) env (ap X M))then twG B Φ (gv hr (toL ops)) (nz m (gv hr (toL ops))) env (ap X M) (fun env M=>K .nm (clr env) M)else False)else False)else
   bif Nat.ble 2000 (cut id)then
    (match (bif bqv (cut id)then ql [] (ajd env (toL ops)) M env else (env,M)),Nat.sub (cut id) (ayb (cut id)),(bif Nat.ble 5000 (cut id)then aqr env (toL ops)else [])with
    |(env,M),m,as=>bif ab0 env then hx (bh4 (gv false (toL ops)) m) [] as B Φ M (eq m (gv false (toL ops))) env [] (fun env X=>bif nob (nogd env) (ags [] as B Φ (ac6 (gv false (toL ops)) m) (adt (gv false (toL ops)) m) (nz m (gv false (toL ops))) env (ap X M))then twG B Φ (gv false (toL ops)) (nz m (gv false (toL ops))) env (ap X M) (fun env M=>K .nm (clr env) M)else False)else False)else
   bif Nat.ble 1000 (cut id)then
    (match ql [] (ato env (toL ops)) M env with
    |(env,M)=>bif ab0 env then hx [] [] [] B (azc Φ) M (eq (Nat.sub (cut id) 1000) (toL ops)) env [] (fun env X=>bif nogd env then twG B (azc Φ) (toL ops) (nz (Nat.sub (cut id) 1000) (toL ops)) env (ap X M) (fun env M=>K .nm (clr env) M)else False)else False)else
   bif Nat.ble 500 (cut id)then
    (bif ab0 env then hx [] [] [] B Φ M (eq (Nat.sub (cut id) 500) (toL ops)) env [] (fun env X=>bif nogd env then twG B Φ (toL ops) (nz (Nat.sub (cut id) 500) (toL ops)) env (ap X M) (fun env M=>K .nm (clr env) M)else False)else False)else
   bif nogd env then dwG B Φ (toL ops) (nz (cut id) (toL ops)) (eq (cut id) (toL ops)) env M (fun env=>twG B Φ (toL ops) (nz (cut id) (toL ops)) env M (fun env M=>K .nm (clr env) M))else False)
 |.cond (.tmp t) x y,.j ss os ks A,K,env,M=>bif cd [(gt env t).isB,noW ks x,noW ks y]then
   dk (onK ss os ks env K) (fun k=>cnd (gt env t).boolV (ev B Φ cut x A.fst (yo ss os k K) env M) (ev B Φ cut y A.snd (yo ss os k K) env M))else False
 |.cond (.tmp t) x y,A,K,env,M=>bif (gt env t).isB then cnd (gt env t).boolV (ev B Φ cut x A.fst K env M) (ev B Φ cut y A.snd K env M)else False
 |.block id c,.j ss os ks A,K,env,M=>bif noW ks c then
   dk (onK ss os ks env K) (fun k=>ev B Φ cut c A (apn id (yo ss os k K)) env M)else False
 |.block id c,A,K,env,M=>ev B Φ cut c A (apn id K) env M
 |.loop c,.l ss os ks A,K,env,M=>bif noW ks c then (match anv ss os env M with
  |some q=>bn (S:=wv ss×rn os) (fun s next=>imps (okS ss s.1) (imps (okO os s.2) (ev B Φ cut c A (yo ss os next K) (ap (ao8 ss s.1) (kept q.2 ks)) (ml os s.2)))) q.1
  |none=>False)else False
 |_,_,_,_,_=>False
def acj:Nat->List V->Env
 |_,[]=>[]
 |i,v::r=>(i,v)::acj (Nat.succ i) r
def l7(B:Tab):List TypeId->(ts:List T)->db ts->List V
 |_,[],_=>[]
 |[],t::ts,x=>n9 t x.1::l7 B [] ts x.2
 |q::qs,t::ts,x=>age (B.τ q).agg (n9 t x.1)::l7 B qs ts x.2
def agL(B:Tab)(fn:Func):List Bool:=ap ((toL fn.params).map (fun q=>(B.τ q).agg)) (aae false fn.nfree)
def okL:(ts:List T)->db ts->List Prop
 |[],_=>[]
 |t::ts,x=>ap (t.oks x.1) (okL ts x.2)
def bqj(M:Mem)(o:O)(v:V):Option (o.strip.den×List Ev×Mem):=
 match v with
 |.ref r [.ix i]=>(match go M r with
  |some ⟨.sl e,l⟩=>bif nq r gid then (match wkO ⟨e,l.getD i e.dflt⟩ o with|some x=>some (x,[.kl r],del r M)|none=>none)else none
  |_=>none)
 |_=>none
def bra(M:Mem)(o:O)(v:V):Option (o.strip.den×List Ev×Mem):=
 match o with
 |.fz t=>(match cu M v with|(e,M')=>(match (v.evs e).as t with|some x=>some (x,e,M')|none=>none))
 |o=>(match conv gid o.strip v M with
  |some (q,e,M')=>(match wkO q o with|some x=>some (x,e,M')|none=>bqj M o v)
  |none=>none)
def bdk(B:Tab)(env:Env)(M:Mem):ResultVar->Option V
 |.tmp t=>some (gt env t)
 |.cell t q=>(match za (B.τ q) M (gt env t)with|([],v)=>some v|_=>none)
def od:V->Bool
 |.any|.tup _|.gd _ _ _ _=>false
 |_=>true
def oz(g:Bool):V->V
 |.ag v=>bif g then v else .any
 |v=>bif g then .any else v
def au3(B:Tab)(env:Env)(M:Mem):List ResultVar->(rs:List (Bool×O))->Option (gq rs)
 |[],[]=>some ()
 |r::rs,q::qs=>(match bdk B env M r with
  |some v=>bif od (oz q.1 v)then (match bra M q.2 (oz q.1 v)with
   |some (x,e,M')=>(match au3 B (p8 env e) M' rs qs with
    |some y=>some (x,y)
    |none=>none)
   |none=>none)else none
  |none=>none)
 |_,_=>none
def bek{rt:List (Bool×O)}(o:Option (gq rt))(K:gq rt->Prop):Prop:=
 match o with
 |some r=>K r
 |none=>False
def azk(B:Tab)(rs:List ResultVar)(rt:List (Bool×O))(K:gq rt->Prop):Ex->Env->Mem->Prop
 |.ex _,_,_|.go _,_,_=>False
 |.nm,env,M|.rt,env,M=>bek (au3 B env M rs rt) K
def evF(B:Tab)(Φ:FuncId->Option Ct)(cut:Nat->Nat)(fn:Func)(c:Code)(A:Ann)(ct:Ct)(x:db ct.args)(K:gq ct.rt->Prop):Prop:=ev B Φ cut c A (azk B (toL fn.results) ct.rt K) (acj 0 (l7 B (toL fn.params) ct.args x)) []
def aof:Option TypeDesc->Bool
 |some (.int _)=>true
 |_=>false
def aoj(P:Program):List Field->Nat->Bool
 |[],_=>true
 | f :: r, i => bif cd [neg (f.name == "_"), Nat.beq f.offset i, aof (P.underlying f.type)] then aoj P r (Nat.succ i) else false
def bkz(P:Program)(t:TypeId):Nat:=
 match P.underlying t with
 |some (.struct fs)=>bif cd [neg (P.stoodInHeld t),neg (P.eqGuardType P.depth t),aoj P (toL fs) 0]then len (toL fs)else 0
 |some (.array n e)=>bif cd [neg (P.eqGuardType P.depth t),aof (P.underlying e),Nat.beq (P.cellsOf e) 1]then n else 0
 |_=>0
def bdi:Option TypeDesc->Bool
 |some (.slice _)|some (.struct _)=>true
 |_=>false
def bv0(P:Program)(ms:Array Method):Option TypeDesc->Bool
 |some (.interface want)=>isN (Instr.missingMethod want ms)
 |_=>false
def isM(f:FuncId):Option Method->Bool
 |some m=>(match toL m.path,m.func with
  |[],some (g,b)=>nob (Nat.beq f g) (neg b)
  |_,_=>false)
 |none=>false
def bpu(P:Program)(e:Mth):Bool:=
 match P.info? e.t with
 |some inf=>cd [bdi (P.underlying e.t),bv0 P inf.methods (P.underlying e.i),isM e.f (inf.methods.find? (·.name==e.name))]
 |none=>false
def ava(P:Program):List Mth->Bool
 |[]=>true
 |e::r=>nob (bpu P e) (ava P r)
structure TabOk (P:Program) (B:Tab):Prop where
 τ:∀t,(B.τ t).ok=true->ty P t=B.τ t
 z:∀t,B.z t=true->∃zs,tyZ P t=some zs/\jk (B.σ t) zs=true
 q:∀t,isZ (B.q t)=false->bkz P t=B.q t
 m:ava P B.m=true
def zOk(P:Program)(t:TypeId)(d:T):Bool:=match tyZ P t with|some zs=>jk d zs|none=>false
def tyL(P:Program):Nat->Nat->List Ty
 |0,_=>[]
 |n+1,i=>ty P i::tyL P n (Nat.succ i)
def zL(P:Program):Nat->List T->List Bool
 |_,[]=>[]
 |i,d::r=>zOk P i d::zL P (Nat.succ i) r
theorem bjl(P:Program):∀(n i t:Nat)(x:Ty),pq (tyL P n i) t=some x->x=ty P (i+t)
 |0,_,_,_,h=>by simp[tyL,pq]at h
 |n+1,i,0,x,h=>by simp only[tyL,pq,a0e]at h;exact h.symm
 |n+1,i,t+1,x,h=>by simp only[tyL,pq]at h;have:=bjl P n _ t x h;rw[this];exact congrArg (ty P) (Nat.succ_add i t)
def qL(P:Program):Nat->Nat->List Nat
 |0,_=>[]
 |n+1,i=>bkz P i::qL P n (Nat.succ i)
theorem bn0(P:Program):∀(n i t:Nat)(x:Nat),pq (qL P n i) t=some x->x=bkz P (i+t)
 |0,_,_,_,h=>by simp[qL,pq]at h
 |n+1,i,0,x,h=>by simp only[qL,pq,a0e]at h;exact h.symm
 |n+1,i,t+1,x,h=>by simp only[qL,pq]at h;have:=bn0 P n _ t x h;rw[this];exact congrArg (bkz P) (Nat.succ_add i t)
theorem bnm(P:Program):∀(l:List T)(i t:Nat)(d:T),pq l t=some d->pq (zL P i l) t=some (zOk P (i+t) d)
 |[],_,_,_,h=>by simp[pq]at h
 |e::r,i,0,d,h=>by simp only[pq,a0e]at h;subst h;simp[zL,pq]
 |e::r,i,t+1,d,h=>by simp only[pq]at h;simp only[zL,pq];rw[bnm P r _ t d h,show Nat.succ i+t=i+(t+1)from Nat.succ_add i t]
def att(l:List Ty)(d:List T)(z:List Bool)(q:List Nat)(m:List Mth):Tab:=
 ⟨fun t=>match pq l t with|some x=>x|none=>bpn,fun t=>match pq d t with|some x=>x|none=>.any,
  fun t=>match pq d t with|some _=>(match pq z t with|some x=>x|none=>false)|none=>false,fun t=>match pq q t with|some x=>x|none=>0,m,false⟩
def Tab.take(B:Tab):Tab:=⟨B.τ,B.σ,B.z,B.q,B.m,true⟩
theorem TabOk.take{P:Program}{B:Tab}(h:TabOk P B):TabOk P B.take:=⟨h.τ,h.z,h.q,h.m⟩
theorem brq{P:Program}(n:Nat)(l:List Ty)(d:List T)(z:List Bool)(q:List Nat)(m:List Mth)(h:tyL P n 0=l)(hz:zL P 0 d=z)(hq:qL P n 0=q)(hm:ava P m=true):TabOk P (att l d z q m):=by
 constructor
 ·intro t ht;simp only[att]at ht⊢;split at ht
  ·rename_i x hx;rw[←h]at hx;have:=bjl P n 0 t x hx;rw[this,a16]
  ·simp[bpn]at ht
 ·intro t ht;simp only[att]at ht⊢;split at ht
  ·rename_i e he;have:=bnm P d 0 t e he;rw[hz,a16]at this;rw[this]at ht;simp only[zOk]at ht;split at ht
   ·rename_i zs hzs;exact⟨zs,hzs,ht⟩
   ·cases ht
  ·cases ht
 ·intro t ht;simp only[att]at ht⊢;split at ht
  ·rename_i x hx;rw[←hq]at hx;have:=bn0 P n 0 t x hx;rw[this,a16]
  ·cases ht
 ·exact hm
end Go.Bm
/- The ff machine:what data and own trees have to do with memory. -/
namespace Go.Bm
open Go.RowKit
def mi:Value->Option Nat
 |.slice (some a) _ (_+1)|.pointer (some a)=>some a.block
 |_=>none
theorem ba9{a:Addr}{N K b:Nat}(h:mi (.slice (some a) N K)=some b):b=a.block:=by
 cases K with
 |zero=>cases h
 |succ k=>simp only[mi,a0e]at h;exact h.symm
def xm(w:World)(ety:TypeId)(sz:Nat)(v:Value)(n:Nat)(xs:List Value):Prop:=xs.length=n*sz/\((n=0/\∃oa,v=.slice oa 0 0)\/∃g off c cur,v=.slice (some ⟨g,off,none⟩) n (c+1)/\w.heap[g]? = some (.cells cur ety (0,0))/\n<=c+1/\c+1<=maxLen/\cur.size=off+(c+1)*sz/\(cur.toList.drop off).take (n*sz)=xs)
theorem bce{w:World}{ety:TypeId}{sz:Nat}{v:Value}{n:Nat}{xs:List Value}(h:w.ownsRow 0 ety sz v n xs):xm w ety sz v n xs:=by
 refine⟨h.1,?_⟩;rcases h.2 with⟨hv,hn⟩|⟨g,cap,cur,hv,hb,hg,h1,h2,h3,h4⟩
 ·exact .inl ⟨hn,none,hv⟩
 ·cases cap with
  |zero=>exact .inl ⟨by omega,some ⟨g,0,none⟩,by rw[hv,show n=0 from by omega]⟩
  |succ c=>exact .inr ⟨g,0,c,cur,hv,hg,h1,h2,by rw[h3,a16],by simpa using h4⟩
def pg(w:World)(b o:Nat)(us:List Value):Prop:=∀(j:Nat)(u:Value),us[j]? = some u->w.cell? ⟨b,o+j,none⟩=some u
def bqt:(t:T)->t.den->List Value
 |.int k,n=>[.int k n]
 |.bool,b=>[.bool b]
 |.str,s=>[.string s]
 |.p a b,x=>bqt a x.1++bqt b x.2
 |_,_=>[]
def isP:T->Bool
 |.p _ _=>true
 |_=>false
def apb(t:T)(x:t.den):Value:=bif isP t then .agg (bqt t x).toArray else (bqt t x).headD undef
def bvo(k v:T)(es:Array MapEntry)(l:List (k.den×v.den)):Prop:=es.toList.map (fun e=>(e.key,e.val))=l.map fun x=>(apb k x.1,apb v x.2)
def aq(Im:Nat->Prop)(w:World):(t:T)->t.den->List Value->Prop
 |.int k,n,vs=>vs=[.int k n]/\inK k n
 |.bool,b,vs=>vs=[.bool b]
 |.str,s,vs=>vs=[.string s]/\s.size<=nb
 |.u,_,vs=>vs=[]
 |.p a b,x,vs=>∃va vb,vs=va++vb/\aq Im w a x.1 va/\aq Im w b x.2 vb
 |.sl e,l,vs=>∃oa cap,vs=[.slice oa l.length cap]/\(l.length<=nb/\l.length<=cap)/\(oa=none->l.length=0/\cap=0)/\
   ∀a,oa=some a->0<l.length->a.spot=none/\Im a.block/\∀(i:Nat)(x:e.den),l[i]? = some x->∃us,pg w a.block (a.off+i*e.size) us/\aq Im w e x us
 |.pt t,x,vs=>∃b o us,vs=[.pointer (some ⟨b,o,none⟩)]/\Im b/\pg w b o us/\aq Im w t x us
 |.fn f t,x,vs=>∃us:List Value,vs=[.func (.func f) #[] us.toArray]/\aq Im w t x us
 |.ifc i t,x,vs=>∃u:Value,vs=[.iface i u]/\aq Im w t x [u]
 |.ib i t,x,vs=>∃us:List Value,vs=[.iface i (.agg us.toArray)]/\aq Im w t x us
 |.mp k v,l,vs=>∃r es n,vs=[.map (some r)]/\Im r/\w.heap[r]? = some (.map es n)/\(T.mp k v).ok l/\bvo k v es l
 |.op t,x,vs=>vs.length=t.size/\(∀v∈vs,v.oneCell'=true)/\∀y,x=some y->aq Im w t y vs
 |.ns t,x,vs=>(x=none/\vs=[.slice none 0 0])\/∃y a n c,x=some y/\vs=[.slice a n c]/\aq Im w t y vs
 |.er i,x,vs=>(x=false/\vs=[.nilIface])\/∃s,x=true/\vs=[.iface i (.agg #[.string s])]
 |.any,_,vs=>∃v:Value,vs=[v]/\v.oneCell'=true
def O.size(o:O):Nat:=o.strip.size
def Rel(Im:Nat->Prop)(w:World):(o:O)->o.strip.den->(Nat->Prop)->List Value->Prop
 |.fz t,x,_,vs=>aq Im w t x vs
 |.p a b,x,S,vs=>∃va vb,∃S1 S2:Nat->Prop,vs=va++vb/\(∀c,S1 c->S c)/\(∀c,S2 c->S c)/\(∀c,S1 c->¬S2 c)/\Rel Im w a x.1 S1 va/\Rel Im w b x.2 S2 vb
 |.sl e,l,S,vs=>∃v ety xs,∃T:Nat->Nat->Prop,vs=[v]/\xm w ety e.size v l.length xs/\l.length<=nb/\(∀c,mi v=some c->S c)/\(∀i c,T i c->S c/\mi v≠some c)/\
   (∀i j c,i≠j->T i c->¬T j c)/\∀(i:Nat)(x:e.strip.den),l[i]? = some x->Rel Im w e x (T i) ((xs.drop (i*e.size)).take e.size)
 |.mp k v,l,S,vs=>∃r es n,vs=[.map (some r)]/\S r/\w.heap[r]? = some (.map es n)/\(T.mp k v).ok l/\bvo k v es l
 |.op e,x,S,vs=>vs.length=e.size/\(∀v∈vs,v.oneCell'=true)/\∀y,x=some y->Rel Im w e y S vs
 |.pt o,x,S,vs=>∃b us ty' S',vs=[.pointer (some ⟨b,0,none⟩)]/\S b/\w.heap[b]? = some (.cells (us:List Value).toArray ty' (0,0))/\(∀c,S' c->S c/\c≠b)/\Rel Im w o x S' us
def ju(Im Im':Nat->Prop)(w w':World):Prop:=∀b,Im b->Im' b/\w'.heap[b]? = w.heap[b]?
theorem ju.refl(Im:Nat->Prop)(w:World):ju Im Im w w:=fun _ h=>⟨h,rfl⟩
theorem ju.trans{I1 I2 I3:Nat->Prop}{a b c:World}(h:ju I1 I2 a b)(k:ju I2 I3 b c):ju I1 I3 a c:=fun x hx=>⟨(k x (h x hx).1).1,((k x (h x hx).1).2).trans (h x hx).2⟩
theorem pg.keep{w w':World}{b o:Nat}{us:List Value}(h:w'.heap[b]? = w.heap[b]?)(r:pg w b o us):pg w' b o us:=fun j u hu=>by rw[←r j u hu];simp[World.cell?,h]
theorem aq.keep{Im Im':Nat->Prop}{w w':World}(h:ju Im Im' w w'):(t:T)->(x:t.den)->(vs:List Value)->aq Im w t x vs->aq Im' w' t x vs
 |.int _,_,_,r|.bool,_,_,r|.str,_,_,r|.u,_,_,r|.any,_,_,r=>by simpa only [aq]using r
 |.p a b,x,vs,r=>by simp only[aq]at r⊢;obtain⟨va,vb,h1,h2,h3⟩:=r;exact⟨va,vb,h1,aq.keep h a _ _ h2,aq.keep h b _ _ h3⟩
 |.sl e,l,vs,r=>by simp only[aq]at r⊢;obtain⟨oa,cap,h1,h2,h3,h4⟩:=r;refine⟨oa,cap,h1,h2,h3,fun a ha hpos=>?_⟩;obtain⟨k1,k2,k3⟩:=h4 a ha hpos;refine⟨k1,(h _ k2).1,fun i x hx=>?_⟩;obtain⟨us,u1,u2⟩:=k3 i x hx;exact⟨us,u1.keep (h _ k2).2,aq.keep h e x us u2⟩
 |.pt t,x,vs,r=>by simp only[aq]at r⊢;obtain⟨b,o,us,h1,h2,h3,h4⟩:=r;exact⟨b,o,us,h1,(h _ h2).1,h3.keep (h _ h2).2,aq.keep h t x us h4⟩
 |.fn f t,x,vs,r=>by simp only[aq]at r⊢;obtain⟨us,h1,h2⟩:=r;exact⟨us,h1,aq.keep h t x us h2⟩
 |.ifc i t,x,vs,r|.ib i t,x,vs,r=>by simp only[aq]at r⊢;obtain⟨u,h1,h2⟩:=r;exact⟨u,h1,aq.keep h t x _ h2⟩
 |.op t,x,vs,r=>by simp only[aq]at r⊢;exact⟨r.1,r.2.1,fun y hy=>aq.keep h t y vs (r.2.2 y hy)⟩
 |.ns t,x,vs,r=>by
  simp only[aq]at r⊢;rcases r with r|⟨y,a,n,c,h1,h2,h3⟩
  ·exact .inl r
  ·exact .inr ⟨y,a,n,c,h1,h2,aq.keep h t y vs h3⟩
 |.er _,_,_,r=>by simpa only [aq]using r
 |.mp k v,l,vs,r=>by simp only[aq]at r⊢;obtain⟨b,es,n,h1,h2,h3,h4⟩:=r;exact⟨b,es,n,h1,(h _ h2).1,by rw[(h _ h2).2];exact h3,h4⟩
theorem aq.len{Im:Nat->Prop}{w:World}:(t:T)->(x:t.den)->(vs:List Value)->aq Im w t x vs->vs.length=t.size
 |.int _,_,_,r=>by simp only[aq]at r;rw[r.1];rfl
 |.bool,_,_,r=>by simp only[aq]at r;rw[r];rfl
 |.str,_,_,r=>by simp only[aq]at r;rw[r.1];rfl
 |.u,_,_,r=>by simp only[aq]at r;rw[r];rfl
 |.any,_,_,r=>by simp only[aq]at r;obtain⟨v,h,_⟩:=r;rw[h];rfl
 |.p a b,x,vs,r=>by simp only[aq]at r;obtain⟨va,vb,h1,h2,h3⟩:=r;rw[h1,a0m,aq.len a _ _ h2,aq.len b _ _ h3];simp[T.size]
 |.sl e,l,vs,r=>by simp only[aq]at r;obtain⟨oa,cap,h,_⟩:=r;rw[h];rfl
 |.pt t,x,vs,r=>by simp only[aq]at r;obtain⟨b,o,us,h,_⟩:=r;rw[h];rfl
 |.fn f t,x,vs,r=>by simp only[aq]at r;obtain⟨us,h,_⟩:=r;rw[h];rfl
 |.ifc i t,x,vs,r|.ib i t,x,vs,r=>by simp only[aq]at r;obtain⟨u,h,_⟩:=r;rw[h];rfl
 |.mp k v,l,vs,r=>by simp only[aq]at r;obtain⟨b,es,n,h,_⟩:=r;rw[h];rfl
 |.op t,x,vs,r=>by simp only[aq]at r;exact r.1
 |.ns t,x,vs,r=>by simp only[aq]at r;rcases r with⟨_,r⟩|⟨y,a,n,c,_,r,_⟩<;>(rw[r];rfl)
 |.er i,x,vs,r=>by simp only[aq]at r;rcases r with⟨_,r⟩|⟨s,_,r⟩<;>(rw[r];rfl)
theorem aq.ok{Im:Nat->Prop}{w:World}:(t:T)->(x:t.den)->(vs:List Value)->aq Im w t x vs->t.ok x
 |.int _,_,_,r=>by simp only[aq]at r;simp only[T.ok];exact r.2
 |.bool,_,_,r=>by simp only[T.ok]
 |.str,_,_,r=>by simp only[aq]at r;simp only[T.ok];exact r.2
 |.u,_,_,r|.any,_,_,r=>by simp only[T.ok]
 |.p a b,x,vs,r=>by simp only[aq]at r;obtain⟨va,vb,h1,h2,h3⟩:=r;simp only[T.ok];exact⟨aq.ok a _ _ h2,aq.ok b _ _ h3⟩
 |.sl e,l,vs,r=>by
  simp only[aq]at r;obtain⟨oa,cap,h1,h2,h3,h4⟩:=r;simp only[T.ok];refine⟨h2.1,fun y hy=>?_⟩;obtain⟨i,hi,rfl⟩:=a2d hy
  cases oa with
  |none=>have:=(h3 rfl).1;omega
  |some a=>obtain⟨us,_,u2⟩:=(h4 a rfl (by omega)).2.2 i l[i] (a0p hi);exact aq.ok e _ us u2
 |.pt t,x,vs,r=>by simp only[aq]at r;obtain⟨b,o,us,_,_,_,h⟩:=r;simp only[T.ok];exact aq.ok t x us h
 |.fn f t,x,vs,r=>by simp only[aq]at r;obtain⟨us,_,h⟩:=r;simp only[T.ok];exact aq.ok t x us h
 |.ifc i t,x,vs,r|.ib i t,x,vs,r=>by simp only[aq]at r;obtain⟨u,_,h⟩:=r;simp only[T.ok];exact aq.ok t x _ h
 |.op t,x,vs,r=>by simp only[aq]at r;simp only[T.ok];exact fun y hy=>aq.ok t y vs (r.2.2 y hy)
 |.ns t,x,vs,r=>by
  simp only[aq]at r;simp only[T.ok];rcases r with⟨rfl,_⟩|⟨y,a,n,c,rfl,_,r⟩
  ·exact fun y hy=>by cases hy
  ·exact fun z hz=>by cases hz;exact aq.ok t y vs r
 |.er _,x,vs,r=>by simp only[T.ok]
 |.mp k v,l,vs,r=>by simp only[aq]at r;obtain⟨b,es,n,_,_,_,h4,_⟩:=r;exact h4
theorem aq.one{Im:Nat->Prop}{w:World}:(t:T)->(x:t.den)->(vs:List Value)->aq Im w t x vs->∀v∈vs,v.oneCell'=true
 |.int _,_,_,r=>by simp only[aq]at r;rw[r.1];intro v hv;rw[a0s.1 hv];rfl
 |.bool,_,_,r=>by simp only[aq]at r;rw[r];intro v hv;rw[a0s.1 hv];rfl
 |.str,_,_,r=>by simp only[aq]at r;rw[r.1];intro v hv;rw[a0s.1 hv];rfl
 |.u,_,_,r=>by simp only[aq]at r;rw[r];intro v hv;cases hv
 |.any,_,_,r=>by simp only[aq]at r;obtain⟨u,h,h1⟩:=r;rw[h];intro v hv;rw[a0s.1 hv];exact h1
 |.p a b,x,vs,r=>by
  simp only[aq]at r;obtain⟨va,vb,h1,h2,h3⟩:=r;rw[h1];intro v hv;rcases a07.1 hv with hv|hv
  ·exact aq.one a _ _ h2 v hv
  ·exact aq.one b _ _ h3 v hv
 |.sl e,l,vs,r=>by simp only[aq]at r;obtain⟨oa,cap,h,_⟩:=r;rw[h];intro v hv;rw[a0s.1 hv];rfl
 |.pt t,x,vs,r=>by simp only[aq]at r;obtain⟨b,o,us,h,_⟩:=r;rw[h];intro v hv;rw[a0s.1 hv];rfl
 |.fn f t,x,vs,r=>by simp only[aq]at r;obtain⟨us,h,_⟩:=r;rw[h];intro v hv;rw[a0s.1 hv];rfl
 |.ifc i t,x,vs,r|.ib i t,x,vs,r=>by simp only[aq]at r;obtain⟨u,h,_⟩:=r;rw[h];intro v hv;rw[a0s.1 hv];rfl
 |.mp k v,l,vs,r=>by simp only[aq]at r;obtain⟨b,es,n,h,_⟩:=r;rw[h];intro v hv;rw[a0s.1 hv];rfl
 |.op t,x,vs,r=>by simp only[aq]at r;exact r.2.1
 |.ns t,x,vs,r=>by simp only[aq]at r;rcases r with⟨_,r⟩|⟨y,a,n,c,_,r,_⟩<;>(rw[r];intro v hv;rw[a0s.1 hv];rfl)
 |.er i,x,vs,r=>by simp only[aq]at r;rcases r with⟨_,r⟩|⟨s,_,r⟩<;>(rw[r];intro v hv;rw[a0s.1 hv];rfl)
theorem auz{w w':World}{e:TypeId}{sz n:Nat}{v:Value}{xs:List Value}(hr:∀b,mi v=some b->w'.heap[b]? = w.heap[b]?)(hown:xm w e sz v n xs):xm w' e sz v n xs:=by
 refine⟨hown.1,?_⟩;rcases hown.2 with hnil|⟨g,off,cap,cur,hv,hg,rest⟩
 ·exact .inl hnil
 ·exact .inr ⟨g,off,cap,cur,hv,by rw[hr g (by rw[hv];rfl)];exact hg,rest⟩
theorem Rel.keep{Im Im':Nat->Prop}{w w':World}(h:ju Im Im' w w'):(o:O)->(x:o.strip.den)->(S:Nat->Prop)->(vs:List Value)->(∀b,S b->w'.heap[b]? = w.heap[b]?)->Rel Im w o x S vs->Rel Im' w' o x S vs
 |.fz t,x,S,vs,_,r=>by simp only[Rel]at r⊢;exact aq.keep h t x vs r
 |.p a b,x,S,vs,hS,r=>by simp only[Rel]at r⊢;obtain⟨va,vb,S1,S2,h1,h2,h3,h4,h5,h6⟩:=r;exact⟨va,vb,S1,S2,h1,h2,h3,h4,Rel.keep h a _ S1 _ (fun c hc=>hS c (h2 c hc)) h5,Rel.keep h b _ S2 _ (fun c hc=>hS c (h3 c hc)) h6⟩
 |.sl e,l,S,vs,hS,r=>by simp only[Rel]at r⊢;obtain⟨v,ety,xs,T,h1,h2,h3,h4,h5,h6,h7⟩:=r;exact⟨v,ety,xs,T,h1,auz (fun c hc=>hS c (h4 c hc)) h2,h3,h4,h5,h6,fun i x hx=>Rel.keep h e x (T i) _ (fun c hc=>hS c (h5 i c hc).1) (h7 i x hx)⟩
 |.pt o,x,S,vs,hS,r=>by simp only[Rel]at r⊢;obtain⟨b,us,ty',S',h1,h2,h3,h4,h5⟩:=r;exact⟨b,us,ty',S',h1,h2,by rw[hS b h2];exact h3,h4,Rel.keep h o x S' us (fun c hc=>hS c (h4 c hc).1) h5⟩
 |.op e,x,S,vs,hS,r=>by simp only[Rel]at r⊢;exact⟨r.1,r.2.1,fun y hy=>Rel.keep h e y S vs hS (r.2.2 y hy)⟩
 |.mp k v,l,S,vs,hS,r=>by simp only[Rel]at r⊢;obtain⟨b,es,n,h1,h2,h3,h4⟩:=r;exact⟨b,es,n,h1,h2,by rw[hS b h2];exact h3,h4⟩
theorem Rel.wide{Im:Nat->Prop}{w:World}:(o:O)->(x:o.strip.den)->(S S':Nat->Prop)->(vs:List Value)->(∀b,S b->S' b)->Rel Im w o x S vs->Rel Im w o x S' vs
 |.fz t,x,S,S',vs,_,r=>by simpa only [Rel]using r
 |.p a b,x,S,S',vs,hS,r=>by simp only[Rel]at r⊢;obtain⟨va,vb,S1,S2,h1,h2,h3,h4,h5,h6⟩:=r;exact⟨va,vb,S1,S2,h1,fun c hc=>hS c (h2 c hc),fun c hc=>hS c (h3 c hc),h4,h5,h6⟩
 |.sl e,l,S,S',vs,hS,r=>by simp only[Rel]at r⊢;obtain⟨v,ety,xs,T,h1,h2,h3,h4,h5,h6,h7⟩:=r;exact⟨v,ety,xs,T,h1,h2,h3,fun c hc=>hS c (h4 c hc),fun i c hc=>⟨hS c (h5 i c hc).1,(h5 i c hc).2⟩,h6,h7⟩
 |.pt o,x,S,S',vs,hS,r=>by simp only[Rel]at r⊢;obtain⟨b,us,ty',S0,h1,h2,h3,h4,h5⟩:=r;exact⟨b,us,ty',S0,h1,hS b h2,h3,fun c hc=>⟨hS c (h4 c hc).1,(h4 c hc).2⟩,h5⟩
 |.op e,x,S,S',vs,hS,r=>by simp only[Rel]at r⊢;exact⟨r.1,r.2.1,fun y hy=>Rel.wide e y S S' vs hS (r.2.2 y hy)⟩
 |.mp k v,l,S,S',vs,hS,r=>by simp only[Rel]at r⊢;obtain⟨b,es,n,h1,h2,h3⟩:=r;exact⟨b,es,n,h1,hS b h2,h3⟩
theorem Rel.len{Im:Nat->Prop}{w:World}:(o:O)->(x:o.strip.den)->(S:Nat->Prop)->(vs:List Value)->Rel Im w o x S vs->vs.length=o.size
 |.fz t,x,S,vs,r=>by simp only[Rel]at r;exact aq.len t x vs r
 |.p a b,x,S,vs,r=>by simp only[Rel]at r;obtain⟨va,vb,S1,S2,h1,h2,h3,h4,h5,h6⟩:=r;rw[h1,a0m,Rel.len a _ _ _ h5,Rel.len b _ _ _ h6];simp[O.size,T.size]
 |.sl e,l,S,vs,r=>by simp only[Rel]at r;obtain⟨v,ety,xs,T,h,_⟩:=r;rw[h];rfl
 |.pt o,x,S,vs,r=>by simp only[Rel]at r;obtain⟨b,us,ty',S',h,_⟩:=r;rw[h];rfl
 |.mp k v,l,S,vs,r=>by simp only[Rel]at r;obtain⟨b,es,n,h,_⟩:=r;rw[h];rfl
 |.op e,x,S,vs,r=>by simp only[Rel]at r;exact r.1
theorem axh{w:World}{e:TypeId}{sz n:Nat}{v:Value}{xs:List Value}(h:xm w e sz v n xs):v.oneCell'=true:=by rcases h.2 with⟨_,oa,h⟩|⟨g,off,cap,cur,h,_⟩<;>rw[h]<;>rfl
theorem Rel.one{Im:Nat->Prop}{w:World}:(o:O)->(x:o.strip.den)->(S:Nat->Prop)->(vs:List Value)->Rel Im w o x S vs->∀v∈vs,v.oneCell'=true
 |.fz t,x,S,vs,r=>by simp only[Rel]at r;exact aq.one t x vs r
 |.p a b,x,S,vs,r=>by
  simp only[Rel]at r;obtain⟨va,vb,S1,S2,h1,h2,h3,h4,h5,h6⟩:=r;rw[h1];intro v hv;rcases a07.1 hv with hv|hv
  ·exact Rel.one a _ _ _ h5 v hv
  ·exact Rel.one b _ _ _ h6 v hv
 |.sl e,l,S,vs,r=>by simp only[Rel]at r;obtain⟨v,ety,xs,T,h,h2,_⟩:=r;rw[h];intro u hu;rw[a0s.1 hu];exact axh h2
 |.pt o,x,S,vs,r=>by simp only[Rel]at r;obtain⟨b,us,ty',S',h,_⟩:=r;rw[h];intro u hu;rw[a0s.1 hu];rfl
 |.mp k v,l,S,vs,r=>by simp only[Rel]at r;obtain⟨b,es,n,h,_⟩:=r;rw[h];intro u hu;rw[a0s.1 hu];rfl
 |.op e,x,S,vs,r=>by simp only[Rel]at r;exact r.2.1
theorem ach{w:World}{e:TypeId}{sz n:Nat}{v:Value}{xs:List Value}(h:xm w e sz v n xs) :
  (n=0/\∃oa,v=.slice oa 0 0)\/∃g off c cur,v=.slice (some ⟨g,off,none⟩) n (c+1)/\w.heap[g]? = some (.cells cur e (0,0))/\n<=c+1/\c+1<=maxLen/\cur.size=off+(c+1)*sz/\(cur.toList.drop off).take (n*sz)=xs:=h.2
theorem aqj{cur:Array Value}{xs:List Value}{n i sz j off:Nat}{u:Value}(hx:(cur.toList.drop off).take (n*sz)=xs)(h:((xs.drop (i*sz)).take sz)[j]? = some u):cur[off+i*sz+j]? = some u:=by
 rw[a1d]at h;split at h
 ·rw[a1l,←hx,a1d]at h;split at h
  ·rw[a1l]at h;rw[a22];simpa using h
  ·cases h
 ·cases h
theorem Rel.frz{Im Im':Nat->Prop}{w:World}(hI:∀b,Im b->Im' b):(o:O)->(x:o.strip.den)->(S:Nat->Prop)->(vs:List Value)->(∀b,S b->Im' b)->Rel Im w o x S vs->aq Im' w o.strip x vs
 |.fz t,x,S,vs,_,r=>by simp only[Rel]at r;exact aq.keep (fun b hb=>⟨hI b hb,rfl⟩) t x vs r
 |.p a b,x,S,vs,hS,r=>by simp only[Rel]at r;obtain⟨va,vb,S1,S2,h1,h2,h3,h4,h5,h6⟩:=r;simp only[aq];exact⟨va,vb,h1,Rel.frz hI a _ S1 _ (fun c hc=>hS c (h2 c hc)) h5,Rel.frz hI b _ S2 _ (fun c hc=>hS c (h3 c hc)) h6⟩
 |.sl e,l,S,vs,hS,r=>by
  simp only[Rel]at r;obtain⟨v,ety,xs,T,h1,h2,h3,h4,h5,h6,h7⟩:=r;simp only[aq];rcases ach h2 with⟨hn,hv⟩|⟨g,off,cap,cur,hv,hg,hc1,hc2,hc3,hc4⟩
  ·obtain⟨oa,hv⟩:=hv;exact⟨oa,0,by rw[h1,hv,hn],⟨h3,by omega⟩,fun _=>⟨hn,rfl⟩,fun a ha hpos=>by omega⟩
  ·refine⟨some ⟨g,off,none⟩,cap+1,by rw[h1,hv],⟨h3,hc1⟩,fun h=>by (cases h),fun a ha hpos=>?_⟩;cases ha;refine⟨rfl,hS g (h4 g (by rw[hv];rfl)),fun i x hx=>⟨_,?_,Rel.frz hI e x (T i) _ (fun c hc=>hS c (h5 i c hc).1) (h7 i x hx)⟩⟩;intro j u hu;rw[a2f w g _ cur ety (0,0) hg];have:=aqj hc4 hu;simpa[O.size]using this
 |.pt o,x,S,vs,hS,r=>by simp only[Rel]at r;obtain⟨b,us,ty',S',h1,h2,h3,h4,h5⟩:=r;simp only[aq];refine⟨b,0,us,h1,hS b h2,fun j u hu=>?_,Rel.frz hI o x S' us (fun c hc=>hS c (h4 c hc).1) h5⟩;rw[a2f w b _ _ ty' (0,0) h3];simpa using hu
 |.op e,x,S,vs,hS,r=>by simp only[Rel]at r;simp only[aq];exact⟨r.1,r.2.1,fun y hy=>Rel.frz hI e y S vs hS (r.2.2 y hy)⟩
 |.mp k v,l,S,vs,hS,r=>by simp only[Rel]at r;obtain⟨b,es,n,h1,h2,h3,h4⟩:=r;simp only[aq];exact⟨b,es,n,h1,hS b h2,h3,h4⟩
end Go.Bm
/- The ff machine:a part of an own tree,looked at and replaced. -/
namespace Go.Bm
open Go.RowKit
theorem Rel.ok{Im:Nat->Prop}{w:World}{o:O}{x:o.strip.den}{S:Nat->Prop}{vs:List Value}(r:Rel Im w o x S vs):o.strip.ok x:=aq.ok _ _ _ (Rel.frz (Im':=fun _=>True) (fun _ _=>trivial) o x S vs (fun _ _=>trivial) r)
def gok:cr->(o:O)->o.strip.den->Prop
 |[],_,_=>True
 |.l::π,.p a _,x=>gok π a x.1
 |.r::π,.p _ b,x=>gok π b x.2
 |.l::π,.fz (.p a _),x=>gok π (.fz a) x.1
 |.r::π,.fz (.p _ b),x=>gok π (.fz b) x.2
 |.ix i::π,.sl e,x=>i<x.length/\gok π e (x.getD i e.dflt)
 |.de::π,.pt t,x=>gok π t x
 |_,_,_=>False
def cellsOf(w:World)(b o n:Nat):List Value:=(List.range n).map fun j=>(w.cell? ⟨b,o+j,none⟩).getD undef
abbrev Pl:=Option (Nat×Nat)
def Pl.plus(p:Pl)(n:Nat):Pl:=p.map fun q=>(q.1,q.2+n)
def res(w:World):cr->O->List Value->Pl->Option (List Value×Pl)
 |[],_,vs,ad=>some (vs,ad)
 |.l::π,.p a _,vs,ad=>res w π a (vs.take a.size) ad
 |.r::π,.p a b,vs,ad=>res w π b (vs.drop a.size) (ad.plus a.size)
 |.l::π,.fz (.p a _),vs,ad=>res w π (.fz a) (vs.take a.size) ad
 |.r::π,.fz (.p a b),vs,ad=>res w π (.fz b) (vs.drop a.size) (ad.plus a.size)
 |.ix i::π,.sl e,vs,_=>(match vs with
  |[.slice (some a) _ _]=>res w π e (cellsOf w a.block (a.off+i*e.size) e.size) (some (a.block,a.off+i*e.size))
  |_=>none)
 |.de::π,.pt t,vs,_=>(match vs with
  |[.pointer (some a)]=>res w π t (cellsOf w a.block a.off t.size) (some (a.block,a.off))
  |_=>none)
 |_,_,_,_=>none
def dp:cr->Bool
 |[]=>false
 |.l::π|.r::π=>dp π
 |.ix _::_|.de::_=>true
def gg(l:List Value)(n:Nat)(us:List Value):List Value:=l.take n++us++l.drop (n+us.length)
def fk:cr->O->List Value->List Value->List Value
 |[],_,_,us=>us
 |.l::π,.p a _,vs,us=>fk π a (vs.take a.size) us++vs.drop a.size
 |.r::π,.p a b,vs,us=>vs.take a.size++fk π b (vs.drop a.size) us
 |.l::π,.fz (.p a _),vs,us=>fk π (.fz a) (vs.take a.size) us++vs.drop a.size
 |.r::π,.fz (.p a b),vs,us=>vs.take a.size++fk π (.fz b) (vs.drop a.size) us
 |_,_,vs,_=>vs
theorem awi{Im:Nat->Prop}{w:World}{a b:Ob}{S1 S2 S:Nat->Prop}{va vb:List Value}(h1:∀c,S1 c->S c)(h2:∀c,S2 c->S c)(h3:∀c,S1 c->¬S2 c)
  (ha:Rel Im w a.o a.x S1 va) (hb:Rel Im w b.o b.x S2 vb):Rel Im w (mkP a b).o (mkP a b).x S (va++vb):=by
 obtain⟨oa,xa⟩:=a;obtain⟨ob,xb⟩:=b;have key:Rel Im w (.p oa ob) (xa,xb) S (va++vb):=by simp only[Rel];exact⟨va,vb,S1,S2,rfl,h1,h2,h3,ha,hb⟩
 cases oa<;>cases ob<;>first|exact key|skip
 simp only[mkP,Rel,aq]at ha hb⊢;exact⟨va,vb,rfl,ha,hb⟩
theorem blp(a b:Ob):(mkP a b).o.size=a.o.size+b.o.size:=by obtain⟨oa,xa⟩:=a;obtain⟨ob,xb⟩:=b;cases oa<;>cases ob<;>simp[mkP,O.size,T.size]
theorem aco{va vb:List Value}{n:Nat}(h:va.length=n):(va++vb).take n=va:=by rw[←h];exact a4n
theorem ace{va vb:List Value}{n:Nat}(h:va.length=n):(va++vb).drop n=vb:=by rw[←h];exact List.drop_left
theorem aai{w:World}{b o n:Nat}{us:List Value}(hl:us.length=n)(h:pg w b o us):cellsOf w b o n=us:=by
 unfold cellsOf;apply a2o;intro j;rw[a1r];by_cases hj:j<n
 ·rw[a2p hj,a0p (by omega)];simp only[a1e];rw[h j us[j] (a0p (by omega))];rfl
 ·rw[a12 (by simpa using hj),a12 (by omega)];rfl
theorem bnc{xs row':List Value}{n sz i i':Nat}(hx:xs.length=n*sz)(hi:i<n)(hr:row'.length=sz) :
  ((gg xs (i*sz) row').drop (i'*sz)).take sz=if i'=i then row' else (xs.drop (i'*sz)).take sz:=by
 have hle:i*sz+sz<=n*sz:=by have:=a2q sz (show i+1<=n from hi);rw[a2g]at this;omega
 have hs:(gg xs (i*sz) row').length=n*sz:=by simp[gg,hr];omega
 have hget:∀j,(gg xs (i*sz) row')[j]? = if j<i*sz then xs[j]? else if j<i*sz+sz then row'[j-i*sz]? else xs[j]?:=by
  intro j;unfold gg;by_cases h1:j<i*sz
  ·rw[a0a h1,a01,a1f (by simp;omega),a1d,a0a h1]
  ·rw[ds h1];by_cases h2:j<i*sz+sz
   ·rw[a0a h2,a1f (by simp;omega),a1s (by simp;omega)];congr 1;simp;omega
   ·rw[ds h2,a1s (by simp;omega),a1l];congr 1;simp;omega
 by_cases e:i'=i
 ·subst e;rw[a0a rfl];apply a2o;intro j;rw[a1d,a1l,hget];by_cases hj:j<sz
  ·rw[a0a hj,ds (by omega),a0a (by omega)];congr 1;omega
  ·rw[ds hj,a12 (by omega)]
 ·rw[ds e];apply a2o;intro j;rw[a1d,a1d,a1l,a1l,hget];by_cases hj:j<sz
  ·simp only[a0a hj];rcases Nat.lt_or_gt_of_ne e with hlt|hlt
   ·have:=a2q sz (show i'+1<=i from hlt);rw[a2g]at this;rw[a0a (by omega)]
   ·have:=a2q sz (show i+1<=i' from hlt);rw[a2g]at this;rw[ds (by omega),ds (by omega)]
  ·simp only[ds hj]
theorem ui:∀(π:cr)(o:O)(vs us:List Value),dp π=true->fk π o vs us=vs
 |[],_,_,_,h=>by simp[dp]at h
 |.l::π,.p a b,vs,us,h=>by simp only[fk];rw[ui π a _ us (by simpa[dp]using h),a1x]
 |.r::π,.p a b,vs,us,h=>by simp only[fk];rw[ui π b _ us (by simpa[dp]using h),a1x]
 |.l::π,.fz (.p a b),vs,us,h=>by simp only[fk];rw[ui π (.fz a) _ us (by simpa[dp]using h),a1x]
 |.r::π,.fz (.p a b),vs,us,h=>by simp only[fk];rw[ui π (.fz b) _ us (by simpa[dp]using h),a1x]
 |.l::π,.sl e,vs,us,h|.r::π,.sl e,vs,us,h|.l::π,.pt e,vs,us,h|.l::π,.mp _ _,vs,us,h|.l::π,.op _,vs,us,h|.r::π,.pt e,vs,us,h|.r::π,.mp _ _,vs,us,h|.r::π,.op _,vs,us,h|.l::π,.fz (.int _),vs,us,h|.l::π,.fz .bool,vs,us,h|.l::π,.fz .str,vs,us,h|.l::π,.fz .u,vs,us,h|.l::π,.fz (.sl _),vs,us,h|.l::π,.fz (.pt _),vs,us,h|.l::π,.fz (.fn _ _),vs,us,h|.l::π,.fz (.ifc _ _),vs,us,h|.l::π,.fz (.ib _ _),vs,us,h|.l::π,.fz (.mp _ _),vs,us,h|.l::π,.fz (.op _),vs,us,h|.l::π,.fz (.ns _),vs,us,h|.l::π,.fz (.er _),vs,us,h|.l::π,.fz .any,vs,us,h|.r::π,.fz (.int _),vs,us,h|.r::π,.fz .bool,vs,us,h|.r::π,.fz .str,vs,us,h|.r::π,.fz .u,vs,us,h|.r::π,.fz (.sl _),vs,us,h|.r::π,.fz (.pt _),vs,us,h|.r::π,.fz (.fn _ _),vs,us,h|.r::π,.fz (.ifc _ _),vs,us,h|.r::π,.fz (.ib _ _),vs,us,h|.r::π,.fz (.mp _ _),vs,us,h|.r::π,.fz (.op _),vs,us,h|.r::π,.fz (.ns _),vs,us,h|.r::π,.fz (.er _),vs,us,h|.r::π,.fz .any,vs,us,h|.ix _::_,_,vs,us,h|.de::_,_,vs,us,h=>by simp only[fk]
def At(w:World)(S:Nat->Prop)(vs:List Value)(ad:Pl):Prop:=∀b off,ad=some (b,off)->¬S b/\∃cur ty',w.heap[b]? = some (.cells cur ty' (0,0))/\∀(j:Nat)(u:Value),vs[j]? = some u->cur[off+j]? = some u
def Wand(Im:Nat->Prop)(w:World)(π:cr)(o:O)(x:o.strip.den)(S S':Nat->Prop)(q:Ob)(vs:List Value)(pl:Pl):Prop:=
 ∀(Im':Nat->Prop)(w':World)(n:Ob)(S'':Nat->Prop)(us':List Value)(ob':Ob),set π o x n=some ob'->n.o.size=q.o.size->Rel Im' w' n.o n.x S'' us'->ju Im Im' w w'->(∀c,S'' c->S c->S' c)->
  (dp π=true->∀b off,pl=some (b,off)->∀cur ty',w.heap[b]? = some (.cells cur ty' (0,0))->w'.heap[b]? = some (.cells (gg cur.toList off us').toArray ty' (0,0)))->
  (∀c,S c->¬S' c->(∀b off,pl=some (b,off)->dp π=true->c≠b)->w'.heap[c]? = w.heap[c]?)->
  ob'.o.size=o.size/\Rel Im' w' ob'.o ob'.x (fun c=>(S c/\¬S' c)\/S'' c) (fk π o vs us')
def Foc(Im:Nat->Prop)(w:World)(π:cr)(o:O)(x:o.strip.den)(S:Nat->Prop)(vs:List Value)(ad:Pl)(q:Ob):Prop:=
 ∃us pl,∃S':Nat->Prop,res w π o vs ad=some (us,pl)/\(∀c,S' c->S c)/\Rel Im w q.o q.x S' us/\
  (dp π=true->∃b off cur ty',pl=some (b,off)/\S b/\¬S' b/\w.heap[b]? = some (.cells cur ty' (0,0))/\∀(j:Nat)(u:Value),us[j]? = some u->cur[off+j]? = some u)/\
  (dp π=false->∃n,jj π o=some n/\pl=ad.plus n/\us=(vs.drop n).take us.length/\n+us.length<=vs.length/\∀us':List Value,us'.length=us.length->fk π o vs us'=gg vs n us')/\
  Wand Im w π o x S S' q vs pl
theorem bi0{va vb us:List Value}{n:Nat}(h:n+us.length<=va.length):gg va n us++vb=gg (va++vb) n us:=by unfold gg;rw[a4o (by omega),a36 (by omega)];simp
theorem bkw{va vb us:List Value}{n:Nat}:va++gg vb n us=gg (va++vb) (va.length+n) us:=by unfold gg;rw[a3d,List.drop_append];have h1:va.take (va.length+n)=va:=a1c (by omega);have h2:va.drop (va.length+n+us.length)=[]:=a4p (by omega);rw[h1,h2,show va.length+n-va.length=n by omega,show va.length+n+us.length-va.length=n+us.length by omega];simp
theorem Foc.left{Im:Nat->Prop}{w:World}{π:cr}{a:O}{xa:a.strip.den}{b:Ob}{S S1 S2:Nat->Prop}{va vb:List Value}{ad:Pl}{q:Ob}{o:O}{x:o.strip.den}
  (hres:res w (.l::π) o (va++vb) ad=res w π a va ad) (hset:∀n,set (.l::π) o x n=(set π a xa n).map fun q=>mkP q b) (hsz:o.size=a.size+b.o.size)
  (hoff:jj (.l::π) o=jj π a) (hout:∀us,fk (.l::π) o (va++vb) us=fk π a va us++vb)
  (h1:∀c,S1 c->S c) (h2:∀c,S2 c->S c) (h3:∀c,S1 c->¬S2 c) (hb:Rel Im w b.o b.x S2 vb) (h:Foc Im w π a xa S1 va ad q):Foc Im w (.l::π) o x S (va++vb) ad q:=by
 obtain⟨us,pl,S',e1,e2,e3,e4,e5,e6⟩:=h;refine⟨us,pl,S',by rw[hres,e1],fun c hc=>h1 c (e2 c hc),e3,fun hh=>?_,fun hh=>?_,?_⟩
 ·obtain⟨bb,off,cur,ty',k1,k2,k3,k4,k5⟩:=e4 (by simpa[dp]using hh);exact⟨bb,off,cur,ty',k1,h1 _ k2,k3,k4,k5⟩
 ·obtain⟨n,k1,k2,k3,k4,k5⟩:=e5 (by simpa[dp]using hh);refine⟨n,by rw[hoff,k1],k2,?_,by rw[a0m];omega,fun us' hl=>?_⟩
  ·rw[a36 (by omega),a4o (by rw[a13];omega)];exact k3
  ·rw[hout,k5 us' hl,bi0 (by omega)]
 ·intro Im' w' n S'' us' ob' f1 f2 f3 f4 f5 f6 f7;rw[hset]at f1
  cases hs:set π a xa n with
  |none=>rw[hs]at f1;cases f1
  |some qn=>
   rw[hs]at f1;simp only[a1e,a0e]at f1;subst f1;obtain⟨g1,g2⟩:=e6 Im' w' n S'' us' qn hs f2 f3 f4 (fun c hc h=>f5 c hc (h1 c h)) (fun hh=>f6 (by simpa[dp]using hh)) (fun c hc hn hne=>f7 c (h1 c hc) hn (fun bb off hp hh=>hne bb off hp (by simpa[dp]using hh)));refine⟨by rw[blp,g1,hsz],?_⟩;rw[hout];refine awi (S1:=fun c=>(S1 c/\¬S' c)\/S'' c) (S2:=S2) (fun c hc=>?_) (fun c hc=>?_) (fun c hc hc2=>?_) g2 (Rel.keep f4 _ _ S2 _ (fun c hc=>?_) hb)
   ·rcases hc with⟨hc,hn⟩|hc
    ·exact .inl ⟨h1 c hc,hn⟩
    ·exact .inr hc
   ·exact .inl ⟨h2 c hc,fun hs'=>h3 c (e2 c hs') hc⟩
   ·rcases hc with⟨hc,_⟩|hc
    ·exact h3 c hc hc2
    ·exact h3 c (e2 c (f5 c hc (h2 c hc2))) hc2
   ·refine f7 c (h2 c hc) (fun hs'=>h3 c (e2 c hs') hc) (fun bb off hp hh e=>?_);obtain⟨b',off',cur,ty',k1,k2,_⟩:=e4 (by simpa[dp]using hh);rw[k1]at hp;cases hp;exact h3 _ k2 (e▸hc)
theorem Foc.right{Im:Nat->Prop}{w:World}{π:cr}{b:O}{xb:b.strip.den}{a:Ob}{S S1 S2:Nat->Prop}{va vb:List Value}{ad:Pl}{q:Ob}{o:O}{x:o.strip.den}
  (hva:va.length=a.o.size)
  (hres:res w (.r::π) o (va++vb) ad=res w π b vb (ad.plus a.o.size)) (hset:∀n,set (.r::π) o x n=(set π b xb n).map fun q=>mkP a q) (hsz:o.size=a.o.size+b.size)
  (hoff:jj (.r::π) o=(jj π b).map (a.o.size+·)) (hout:∀us,fk (.r::π) o (va++vb) us=va++fk π b vb us)
  (h1:∀c,S1 c->S c) (h2:∀c,S2 c->S c) (h3:∀c,S1 c->¬S2 c) (ha:Rel Im w a.o a.x S1 va) (h:Foc Im w π b xb S2 vb (ad.plus a.o.size) q):Foc Im w (.r::π) o x S (va++vb) ad q:=by
 obtain⟨us,pl,S',e1,e2,e3,e4,e5,e6⟩:=h;refine⟨us,pl,S',by rw[hres,e1],fun c hc=>h2 c (e2 c hc),e3,fun hh=>?_,fun hh=>?_,?_⟩
 ·obtain⟨bb,off,cur,ty',k1,k2,k3,k4,k5⟩:=e4 (by simpa[dp]using hh);exact⟨bb,off,cur,ty',k1,h2 _ k2,k3,k4,k5⟩
 ·obtain⟨n,k1,k2,k3,k4,k5⟩:=e5 (by simpa[dp]using hh);refine⟨a.o.size+n,by rw[hoff,k1];rfl,?_,?_,by rw[a0m];omega,fun us' hl=>?_⟩
  ·rw[k2];cases ad<;>simp[Pl.plus,a22]
  ·rw[←hva,List.drop_append,a4p (by omega),a2s,a4q];exact k3
  ·rw[hout,k5 us' hl,bkw,hva]
 ·intro Im' w' n S'' us' ob' f1 f2 f3 f4 f5 f6 f7;rw[hset]at f1
  cases hs:set π b xb n with
  |none=>rw[hs]at f1;cases f1
  |some qn=>
   rw[hs]at f1;simp only[a1e,a0e]at f1;subst f1;obtain⟨g1,g2⟩:=e6 Im' w' n S'' us' qn hs f2 f3 f4 (fun c hc h=>f5 c hc (h2 c h)) (fun hh=>f6 (by simpa[dp]using hh)) (fun c hc hn hne=>f7 c (h2 c hc) hn (fun bb off hp hh=>hne bb off hp (by simpa[dp]using hh)));refine⟨by rw[blp,g1,hsz],?_⟩;rw[hout];refine awi (S2:=fun c=>(S2 c/\¬S' c)\/S'' c) (S1:=S1) (fun c hc=>?_) (fun c hc=>?_) (fun c hc2 hc=>?_) (Rel.keep f4 _ _ S1 _ (fun c hc=>?_) ha) g2
   ·exact .inl ⟨h1 c hc,fun hs'=>h3 c hc (e2 c hs')⟩
   ·rcases hc with⟨hc,hn⟩|hc
    ·exact .inl ⟨h2 c hc,hn⟩
    ·exact .inr hc
   ·rcases hc with⟨hc,_⟩|hc
    ·exact h3 c hc2 hc
    ·exact h3 c hc2 (e2 c (f5 c hc (h1 c hc2)))
   ·refine f7 c (h1 c hc) (fun hs'=>h3 c hc (e2 c hs')) (fun bb off hp hh e=>?_);obtain⟨b',off',cur,ty',k1,k2,_⟩:=e4 (by simpa[dp]using hh);rw[k1]at hp;cases hp;exact h3 _ (e▸hc) k2
end Go.Bm
/- The ff machine:the look into an own tree. -/
namespace Go.Bm
open Go.RowKit
theorem At.left{w:World}{S S1:Nat->Prop}{va vb:List Value}{ad:Pl}(h1:∀c,S1 c->S c)(h:At w S (va++vb) ad):At w S1 va ad:=by intro b off e;obtain⟨k1,cur,ty',k2,k3⟩:=h b off e;refine⟨fun hc=>k1 (h1 b hc),cur,ty',k2,fun j u hu=>k3 j u ?_⟩;rw[a1f (a1i.1 hu).1];exact hu
theorem At.right{w:World}{S S2:Nat->Prop}{va vb:List Value}{ad:Pl}{n:Nat}(hn:va.length=n)(h2:∀c,S2 c->S c)(h:At w S (va++vb) ad):At w S2 vb (ad.plus n):=by
 intro b off e
 cases ad with
 |none=>cases e
 |some p=>obtain⟨b',off'⟩:=p;simp only[Pl.plus,a1e,a0e,a0n]at e;obtain⟨rfl,rfl⟩:=e;obtain⟨k1,cur,ty',k2,k3⟩:=h b' off' rfl;refine⟨fun hc=>k1 (h2 b' hc),cur,ty',k2,fun j u hu=>?_⟩;have:=k3 (n+j) u (by rw[a1s (by omega)];rw[hn,a4q];exact hu);rw[←this];congr 1;omega
theorem bfg{w':World}{ety:TypeId}{sz n g off cap:Nat}{cur:Array Value}{xs row':List Value}{i:Nat}(hxl:xs.length=n*sz)
  (h1:n<=cap+1) (h2:cap+1<=maxLen) (h3:cur.size=off+(cap+1)*sz) (h4:(cur.toList.drop off).take (n*sz)=xs) (hi:i<n) (hr:row'.length=sz) {m:Nat} {us':List Value} (hm:m+us'.length<=sz)
  (hrow:row'=gg ((xs.drop (i*sz)).take sz) m us')
  (hg:w'.heap[g]? = some (.cells (gg cur.toList (off+i*sz+m) us').toArray ety (0,0))):xm w' ety sz (.slice (some ⟨g,off,none⟩) n (cap+1)) n (gg xs (i*sz) row'):=by
 have hle:i*sz+sz<=n*sz:=by have:=a2q sz (show i+1<=n from hi);rw[a2g]at this;omega
 have hlc:off+n*sz<=cur.size:=by rw[h3];exact Nat.add_le_add_left (a2q _ h1) _
 have hcl:cur.toList.length=cur.size:=a23;refine⟨by simp[gg,hr];omega,.inr ⟨g,off,cap,_,rfl,hg,h1,h2,?_,?_⟩⟩
 ·rw[List.size_toArray,←h3,←hcl];simp[gg];omega
 ·show ((gg cur.toList (off+i*sz+m) us').drop off).take (n*sz)=_;subst hrow;subst h4
  have e0:(gg cur.toList (off+i*sz+m) us').drop off=gg (cur.toList.drop off) (i*sz+m) us':=by
   unfold gg;rw[a01,a36 (by simp;omega),a4r,a01,a3l];congr 2
   ·omega
   ·congr 1;omega
  rw[e0];have hdl:(cur.toList.drop off).length=cur.size-off:=by rw[a13,hcl]
  generalize cur.toList.drop off=D at *;have hA:(D.take (n*sz)).length=n*sz:=hxl
  have e1:gg (D.take (n*sz)) (i*sz) (gg (((D.take (n*sz)).drop (i*sz)).take sz) m us')=gg (D.take (n*sz)) (i*sz+m) us':=by
   generalize D.take (n*sz)=A at hA hr⊢;have hsl:(gg ((A.drop (i*sz)).take sz) m us').length=sz:=hr;apply a2o;intro j
   have hget:∀(B us:List Value)(p:Nat),p+us.length<=B.length->∀j,(gg B p us)[j]? = if j<p then B[j]? else if j<p+us.length then us[j-p]? else B[j]?:=by
    intro B us p hp j;unfold gg;by_cases q1:j<p
    ·rw[a0a q1,a01,a1f (by simp;omega),a1d,a0a q1]
    ·rw[ds q1];by_cases q2:j<p+us.length
     ·rw[a0a q2,a1f (by simp;omega),a1s (by simp;omega)];congr 1;simp;omega
     ·rw[ds q2,a1s (by simp;omega),a1l];congr 1;simp;omega
   have hrl:((A.drop (i*sz)).take sz).length=sz:=by simp;omega
   rw[hget A _ (i*sz) (by omega) j,hget A us' (i*sz+m) (by omega) j,hsl];by_cases q1:j<i*sz
   ·rw[a0a q1,a0a (by omega)]
   ·rw[ds q1];by_cases q2:j<i*sz+sz
    ·rw[a0a q2,hget _ us' m (by omega)];by_cases q3:j<i*sz+m
     ·rw[a0a (by omega),a0a q3,a1d,a0a (by omega),a1l];congr 1;omega
     ·rw[ds (by omega),ds q3];by_cases q4:j<i*sz+m+us'.length
      ·rw[a0a (by omega),a0a q4];congr 1;omega
      ·rw[ds (by omega),ds q4,a1d,a0a (by omega),a1l];congr 1;omega
    ·rw[ds q2,ds (by omega),ds (by omega)]
  rw[e1];unfold gg;rw[a01,a3d,a3d,List.take_take,a4r];simp only[a03,hdl];rw[show min (i*sz+m) (cur.size-off)=i*sz+m by omega,show min (n*sz) (i*sz+m)=i*sz+m by omega,List.take_take,show min (i*sz+m) (n*sz)=i*sz+m by omega];rw[a1c (l:=us') (by omega),a01];congr 3;omega
set_option maxRecDepth 4000 in
theorem ai2{Im:Nat->Prop}{w:World}:(π:cr)->(o:O)->(x:o.strip.den)->(S:Nat->Prop)->(vs:List Value)->(ad:Pl)->(q:Ob)->Rel Im w o x S vs->gok π o x->get π o x=some q->At w S vs ad->Foc Im w π o x S vs ad q
 |[],o,x,S,vs,ad,q,hr,_,hg,hat=>by
  simp only[get,a0e]at hg;subst hg;refine⟨vs,ad,S,rfl,fun _ h=>h,hr,fun h=>by simp[dp]at h,fun _=>⟨0,rfl,by cases ad<;>simp[Pl.plus],by simp,by omega,fun us' hl=>?_⟩,?_⟩
  ·simp only[fk,gg,a4s,a2s,a16];rw[hl,a4p (a0k _),a2e]
  ·intro Im' w' n S'' us' ob' f1 f2 f3 f4 f5 _ _;simp only[set,a0e]at f1;subst f1;exact⟨f2,Rel.wide _ _ S'' _ _ (fun c hc=>.inr hc) f3⟩
 |.l::π,.p a b,x,S,vs,ad,q,hr,hk,hg,hat=>by
  simp only[Rel]at hr;obtain⟨va,vb,S1,S2,rfl,h1,h2,h3,ha,hb⟩:=hr;have hl:=Rel.len a _ _ _ ha
  refine Foc.left (b:=⟨b,x.2⟩) (S1:=S1) (S2:=S2) (by simp only[res];rw[aco hl]) (fun n=>by simp only[set];cases set π a x.1 n<;>rfl) (by simp[O.size,T.size]) (by simp only[jj]) (fun us=>by simp only[fk];rw[aco hl,ace hl]) h1 h2 h3 hb
   (ai2 π a x.1 S1 va ad q ha (by simpa only [gok]using hk) (by simpa only [get]using hg) (hat.left h1))
 |.r::π,.p a b,x,S,vs,ad,q,hr,hk,hg,hat=>by
  simp only[Rel]at hr;obtain⟨va,vb,S1,S2,rfl,h1,h2,h3,ha,hb⟩:=hr;have hl:=Rel.len a _ _ _ ha
  refine Foc.right (a:=⟨a,x.1⟩) (S1:=S1) (S2:=S2) hl (by simp only[res];rw[ace hl]) (fun n=>by simp only[set];cases set π b x.2 n<;>rfl) (by simp[O.size,T.size])
   (by simp only[jj];cases jj π b<;>simp[O.size]) (fun us=>by simp only[fk];rw[aco hl,ace hl]) h1 h2 h3 ha
   (ai2 π b x.2 S2 vb (ad.plus a.size) q hb (by simpa only [gok]using hk) (by simpa only [get]using hg) (hat.right hl h2))
 |.l::π,.fz (.p a b),x,S,vs,ad,q,hr,hk,hg,hat=>by
  simp only[Rel,aq]at hr;obtain⟨va,vb,rfl,ha,hb⟩:=hr;have hl:=aq.len a _ _ ha
  refine Foc.left (a:=.fz a) (b:=⟨.fz b,x.2⟩) (S1:=fun _=>False) (S2:=fun _=>False) (by simp only[res];rw[aco hl]) (fun n=>by simp only[set];cases set π (.fz a) x.1 n<;>rfl) (by simp[O.size,T.size]) (by simp only[jj]) (fun us=>by simp only[fk];rw[aco hl,ace hl])
   (fun _ h=>h.elim) (fun _ h=>h.elim) (fun _ h=>h.elim) (by simpa only [Rel]using hb)
   (ai2 π (.fz a) x.1 _ va ad q (by simpa only [Rel]using ha) (by simpa only [gok]using hk) (by simpa only [get]using hg) (hat.left (fun _ h=>h.elim)))
 |.r::π,.fz (.p a b),x,S,vs,ad,q,hr,hk,hg,hat=>by
  simp only[Rel,aq]at hr;obtain⟨va,vb,rfl,ha,hb⟩:=hr;have hl:=aq.len a _ _ ha
  refine Foc.right (b:=.fz b) (a:=⟨.fz a,x.1⟩) (S1:=fun _=>False) (S2:=fun _=>False) hl (by simp only[res];rw[ace hl];rfl) (fun n=>by simp only[set];cases set π (.fz b) x.2 n<;>rfl) (by simp[O.size,T.size])
   (by simp only[jj];cases jj π (.fz b)<;>simp[O.size]) (fun us=>by simp only[fk];rw[aco hl,ace hl])
   (fun _ h=>h.elim) (fun _ h=>h.elim) (fun _ h=>h.elim) (by simpa only [Rel]using ha)
   (ai2 π (.fz b) x.2 _ vb (ad.plus a.size) q (by simpa only [Rel]using hb) (by simpa only [gok]using hk) (by simpa only [get]using hg) (hat.right hl (fun _ h=>h.elim)))
 |.ix i::π,.sl e,x,S,vs,ad,q,hr,hk,hg,hat=>by
  simp only[Rel]at hr;obtain⟨v,ety,xs,T,rfl,h2,h3,h4,h5,h6,h7⟩:=hr;simp only[gok]at hk;simp only[get]at hg;obtain⟨hi,hk⟩:=hk;rcases ach h2 with⟨hn,_⟩|⟨g,off0,cap,cur,hv,hgg,hc1,hc2,hc3,hc4⟩
  ·omega
  have hxi:x[i]? = some (x.getD i e.dflt):=by rw[a0l,a0p hi];rfl
  have hrow:=h7 i _ hxi;have hrl:=Rel.len e _ _ _ hrow;have hcells:pg w g (off0+i*e.size) ((xs.drop (i*e.size)).take e.size):=fun j u hu=>by rw[a2f w g _ cur ety (0,0) hgg];exact aqj hc4 hu
  have hat':At w (T i) ((xs.drop (i*e.size)).take e.size) (some (g,off0+i*e.size)):=by intro b off hh;cases hh;refine⟨fun hc=>(h5 i g hc).2 (by rw[hv];rfl),cur,ety,hgg,fun j u hu=>?_⟩;exact aqj hc4 hu
  obtain⟨us,pl,S',e1,e2,e3,e4,e5,e6⟩:=ai2 π e _ (T i) _ (some (g,off0+i*e.size)) q hrow hk hg hat';have hSg:S g:=h4 g (by rw[hv];rfl);have hgT:¬T i g:=fun hc=>(h5 i g hc).2 (by rw[hv];rfl);have hres:res w (.ix i::π) (.sl e) [v] ad=some (us,pl):=by rw[hv];simp only[res,a16];rw[aai hrl hcells];exact e1
  refine⟨us,pl,S',hres,fun c hc=>(h5 i c (e2 c hc)).1,e3,fun _=>?_,fun h=>by simp[dp]at h,?_⟩
  ·cases hh:dp π with
   |true=>obtain⟨b,off,cur',ty',k1,k2,k3,k4,k5⟩:=e4 hh;exact⟨b,off,cur',ty',k1,(h5 i b k2).1,k3,k4,k5⟩
   |false=>
    obtain⟨n,k1,k2,k3,k4,k5⟩:=e5 hh;refine⟨g,off0+i*e.size+n,cur,ety,by rw[k2];rfl,hSg,fun hc=>hgT (e2 g hc),hgg,fun j u hu=>?_⟩;rw[k3,a1d]at hu;split at hu
    ·rw[a1l]at hu;have:=aqj hc4 hu;rw[←this];congr 1;omega
    ·cases hu
  ·intro Im' w' n S'' us' ob' f1 f2 f3 f4 f5 f6 f7;simp only[set]at f1
   cases hs:set π e (x.getD i e.dflt) n with
   |none=>rw[hs]at f1;cases f1
   |some qn=>
    rw[hs]at f1;simp only at f1
    cases hcst:yp qn e with
    |none=>rw[hcst]at f1;cases f1
    |some y=>
     rw[hcst]at f1;simp only[a0e]at f1;subst f1
     have hcast:∃h:qn.o=e,y=h▸qn.x:=by
      unfold yp at hcst;split at hcst
      ·rename_i h;exact⟨O.beq_eq h,by simpa using hcst.symm⟩
      ·cases hcst
     have hul:us'.length=us.length:=by rw[Rel.len _ _ _ _ f3,Rel.len _ _ _ _ e3];exact f2
     obtain⟨g1,g2⟩:=e6 Im' w' n S'' us' qn hs f2 f3 f4 (fun c hc h=>f5 c hc (h5 i c h).1) (fun hh b off hp=>f6 rfl b off hp)
      (fun c hc hn hne=>f7 c (h5 i c hc).1 hn (fun b off hp _=>by
       cases hh:dp π with
       |true=>exact hne b off hp hh
       |false=>obtain⟨m,k1,k2,_⟩:=e5 hh;rw[k2]at hp;simp only[Pl.plus,a1e,a0e,a0n]at hp;obtain⟨rfl,_⟩:=hp;exact fun ec=>hgT (ec▸hc)))
     obtain⟨rfl,rfl⟩:=hcast;have hol:(fk π qn.o ((xs.drop (i*qn.o.size)).take qn.o.size) us').length=qn.o.size:=Rel.len _ _ _ _ g2;refine⟨rfl,?_⟩;simp only[fk]
     -- the row in the new world
     have hnew:∃xs',xm w' ety qn.o.size v x.length xs'/\∀i',(xs'.drop (i'*qn.o.size)).take qn.o.size=if i'=i then fk π qn.o ((xs.drop (i*qn.o.size)).take qn.o.size) us' else (xs.drop (i'*qn.o.size)).take qn.o.size:=by
      cases hh:dp π with
      |true=>
       obtain⟨b,off,cur',ty',k1,k2,k3,k4,k5⟩:=e4 hh;refine⟨xs,auz (fun b' hb'=>?_) h2,fun i'=>?_⟩
       ·have hbg:b'=g:=by rw[hv]at hb';simpa[mi]using hb'.symm
        subst hbg;refine f7 b' hSg (fun hc=>hgT (e2 b' hc)) (fun b2 off2 hp _=>?_);rw[k1]at hp;simp only[a0e,a0n]at hp;intro ec;exact hgT (by rw[ec,←hp.1];exact k2)
       ·rw[ui _ _ _ _ hh];split
        ·rename_i ei;rw[ei]
        ·rfl
      |false=>
       obtain⟨m,k1,k2,k3,k4,k5⟩:=e5 hh;have hpl:pl=some (g,off0+i*qn.o.size+m):=by rw[k2];rfl
       have hgw:=f6 rfl g _ hpl cur ety hgg;have hor:=k5 us' hul;rw[hrl]at k4;refine⟨gg xs (i*qn.o.size) (fk π qn.o ((xs.drop (i*qn.o.size)).take qn.o.size) us'),?_,fun i'=>bnc h2.1 hi hol⟩;rw[hv];exact bfg h2.1 hc1 hc2 hc3 hc4 hi hol (m:=m) (us':=us') (by omega) hor hgw
     obtain⟨xs',hx1,hx2⟩:=hnew;simp only[Rel];refine⟨v,ety,xs',fun i' c=>if i'=i then (T i c/\¬S' c)\/S'' c else T i' c,rfl,by rw[a1m];exact hx1,by rw[a1m];exact h3,fun c hc=>?_,fun i' c hc=>?_,fun i1 i2 c hne hc1' hc2'=>?_,fun i' y hy=>?_⟩
     ·refine .inl ⟨h4 c hc,fun hs'=>(h5 i c (e2 c hs')).2 hc⟩
     ·simp only at hc;by_cases ei:i'=i
      ·rw[a0a ei]at hc;rcases hc with⟨hc,hn⟩|hc
       ·exact⟨.inl ⟨(h5 i c hc).1,hn⟩,(h5 i c hc).2⟩
       ·refine⟨.inr hc,fun hr=>?_⟩;exact (h5 i c (e2 c (f5 c hc (h4 c hr)))).2 hr
      ·rw[ds ei]at hc;exact⟨.inl ⟨(h5 i' c hc).1,fun hs'=>h6 i' i c ei hc (e2 c hs')⟩,(h5 i' c hc).2⟩
     ·simp only at hc1' hc2';by_cases e1':i1=i
      ·rw[a0a e1']at hc1';have e2':i2≠i:=fun h=>hne (e1'.trans h.symm);rw[ds e2']at hc2';rcases hc1' with⟨hc,_⟩|hc
       ·exact h6 i i2 c (a0u e2') hc hc2'
       ·exact h6 i i2 c (a0u e2') (e2 c (f5 c hc (h5 i2 c hc2').1)) hc2'
      ·rw[ds e1']at hc1';by_cases e2':i2=i
       ·rw[a0a e2']at hc2';rcases hc2' with⟨hc,_⟩|hc
        ·exact h6 i1 i c e1' hc1' hc
        ·exact h6 i1 i c e1' hc1' (e2 c (f5 c hc (h5 i1 c hc1').1))
       ·rw[ds e2']at hc2';exact h6 i1 i2 c hne hc1' hc2'
     ·rw[hx2 i'];by_cases ei:i'=i
      ·subst ei;rw[a2v]at hy;simp only[hi,a04,a0e]at hy;subst hy;simp only[a04];exact g2
      ·simp only[ds ei];rw[a2v,ds (a0u ei)]at hy;refine Rel.keep f4 _ y (T i') _ (fun c hc=>f7 c (h5 i' c hc).1 (fun hs'=>h6 i' i c ei hc (e2 c hs')) (fun b off hp _ ec=>?_)) (h7 i' y hy)
       cases hh:dp π with
       |true=>obtain⟨b2,off2,cur',ty',k1,k2,_⟩:=e4 hh;rw[k1]at hp;simp only[a0e,a0n]at hp;exact h6 i' i c ei hc (by rw[ec,←hp.1];exact k2)
       |false=>obtain⟨m,k1,k2,_⟩:=e5 hh;rw[k2]at hp;simp only[Pl.plus,a1e,a0e,a0n]at hp;exact (h5 i' c hc).2 (by rw[hv,ec,←hp.1];rfl)
 |.de::π,.pt t,x,S,vs,ad,q,hr,hk,hg,hat=>by
  simp only[Rel]at hr;obtain⟨b0,us0,ty0,S0,rfl,h2,h3,h4,h5⟩:=hr;simp only[gok]at hk;simp only[get]at hg;have hlen:=Rel.len t _ _ _ h5;have hcells:pg w b0 0 us0:=fun j u hu=>by rw[a2f w b0 _ us0.toArray ty0 (0,0) h3];simpa using hu
  have hat':At w S0 us0 (some (b0,0)):=by intro b off hh;cases hh;exact⟨fun hc=>(h4 b0 hc).2 rfl,us0.toArray,ty0,h3,fun j u hu=>by simpa using hu⟩
  obtain⟨us,pl,S',e1,e2,e3,e4,e5,e6⟩:=ai2 π t _ S0 us0 (some (b0,0)) q h5 hk hg hat';have hb0:¬S0 b0:=fun hc=>(h4 b0 hc).2 rfl;refine⟨us,pl,S',?_,fun c hc=>(h4 c (e2 c hc)).1,e3,fun _=>?_,fun h=>by simp[dp]at h,?_⟩
  ·simp only[res];rw[aai hlen hcells];exact e1
  ·cases hh:dp π with
   |true=>obtain⟨b,off,cur',ty',k1,k2,k3,k4,k5⟩:=e4 hh;exact⟨b,off,cur',ty',k1,(h4 b k2).1,k3,k4,k5⟩
   |false=>
    obtain⟨n,k1,k2,k3,k4,k5⟩:=e5 hh;refine⟨b0,n,us0.toArray,ty0,by rw[k2];simp[Pl.plus],h2,fun hc=>hb0 (e2 b0 hc),h3,fun j u hu=>?_⟩;rw[k3,a1d]at hu;split at hu
    ·rw[a1l]at hu;simpa using hu
    ·cases hu
  ·intro Im' w' n S'' us' ob' f1 f2 f3 f4 f5 f6 f7;simp only[set]at f1
   cases hs:set π t x n with
   |none=>rw[hs]at f1;cases f1
   |some qn=>
    rw[hs]at f1;simp only[a0e]at f1;subst f1;have hul:us'.length=us.length:=by rw[Rel.len _ _ _ _ f3,Rel.len _ _ _ _ e3];exact f2
    obtain⟨g1,g2⟩:=e6 Im' w' n S'' us' qn hs f2 f3 f4 (fun c hc h=>f5 c hc (h4 c h).1) (fun hh b off hp=>f6 rfl b off hp)
     (fun c hc hn hne=>f7 c (h4 c hc).1 hn (fun b off hp _=>by
      cases hh:dp π with
      |true=>exact hne b off hp hh
      |false=>obtain⟨m,k1,k2,_⟩:=e5 hh;rw[k2]at hp;simp only[Pl.plus,a1e,a0e,a0n]at hp;obtain⟨rfl,_⟩:=hp;exact (h4 c hc).2))
    refine⟨rfl,?_⟩;simp only[fk,Rel]
    have hnew:w'.heap[b0]? = some (.cells (fk π t us0 us').toArray ty0 (0,0)):=by
     cases hh:dp π with
     |true=>
      obtain⟨b,off,cur',ty',k1,k2,k3,k4,k5⟩:=e4 hh;rw[ui _ _ _ _ hh,f7 b0 h2 (fun hc=>hb0 (e2 b0 hc)) (fun b2 off2 hp _=>?_)]
      ·exact h3
      ·rw[k1]at hp;simp only[a0e,a0n]at hp;intro ec;exact hb0 (by rw[ec,←hp.1];exact k2)
     |false=>obtain⟨m,k1,k2,k3,k4,k5⟩:=e5 hh;have:=f6 rfl b0 m (by rw[k2];simp[Pl.plus]) us0.toArray ty0 h3;rw[this,k5 us' hul]
    refine⟨b0,_,ty0,fun c=>(S0 c/\¬S' c)\/S'' c,rfl,.inl ⟨h2,fun hc=>hb0 (e2 b0 hc)⟩,hnew,fun c hc=>?_,g2⟩;rcases hc with⟨hc,hn⟩|hc
    ·exact⟨.inl ⟨(h4 c hc).1,hn⟩,(h4 c hc).2⟩
    ·exact⟨.inr hc,fun ec=>hb0 (e2 b0 (f5 b0 (ec▸hc) h2))⟩
 |.l::_,.sl _,_,_,_,_,_,_,hk,_,_|.l::_,.pt _,_,_,_,_,_,_,hk,_,_|.l::_,.fz (.int _),_,_,_,_,_,_,hk,_,_|.l::_,.fz .bool,_,_,_,_,_,_,hk,_,_|.l::_,.fz .str,_,_,_,_,_,_,hk,_,_|.l::_,.fz .u,_,_,_,_,_,_,hk,_,_|.l::_,.fz (.sl _),_,_,_,_,_,_,hk,_,_|.l::_,.fz (.pt _),_,_,_,_,_,_,hk,_,_|.l::_,.fz (.fn _ _),_,_,_,_,_,_,hk,_,_|.l::_,.fz .any,_,_,_,_,_,_,hk,_,_|.r::_,.sl _,_,_,_,_,_,_,hk,_,_|.r::_,.pt _,_,_,_,_,_,_,hk,_,_|.r::_,.fz (.int _),_,_,_,_,_,_,hk,_,_|.r::_,.fz .bool,_,_,_,_,_,_,hk,_,_|.r::_,.fz .str,_,_,_,_,_,_,hk,_,_|.r::_,.fz .u,_,_,_,_,_,_,hk,_,_|.r::_,.fz (.sl _),_,_,_,_,_,_,hk,_,_|.r::_,.fz (.pt _),_,_,_,_,_,_,hk,_,_|.r::_,.fz (.fn _ _),_,_,_,_,_,_,hk,_,_|.r::_,.fz .any,_,_,_,_,_,_,hk,_,_|.ix _::_,.fz _,_,_,_,_,_,_,hk,_,_|.ix _::_,.p _ _,_,_,_,_,_,_,hk,_,_|.ix _::_,.pt _,_,_,_,_,_,_,hk,_,_|.de::_,.fz _,_,_,_,_,_,_,hk,_,_|.de::_,.p _ _,_,_,_,_,_,_,hk,_,_|.de::_,.sl _,_,_,_,_,_,_,hk,_,_=>by simp only[gok]at hk
end Go.Bm
/- The ff machine:the state. -/
namespace Go.Bm
open Go.RowKit
theorem aci{Im:Nat->Prop}{w w':World}:(π:cr)->(o:O)->(x:o.strip.den)->(S:Nat->Prop)->(vs:List Value)->(ad:Pl)->Rel Im w o x S vs->gok π o x->(∀b,S b->w'.heap[b]? = w.heap[b]?)->res w' π o vs ad=res w π o vs ad
 |[],o,x,S,vs,ad,_,_,_=>by simp only[res]
 |.l::π,.p a b,x,S,vs,ad,hr,hk,hS=>by simp only[Rel]at hr;obtain⟨va,vb,S1,S2,rfl,h1,h2,h3,ha,hb⟩:=hr;simp only[res];rw[aco (Rel.len a _ _ _ ha)];exact aci π a x.1 S1 va ad ha (by simpa only [gok]using hk) (fun c hc=>hS c (h1 c hc))
 |.r::π,.p a b,x,S,vs,ad,hr,hk,hS=>by simp only[Rel]at hr;obtain⟨va,vb,S1,S2,rfl,h1,h2,h3,ha,hb⟩:=hr;simp only[res];rw[ace (Rel.len a _ _ _ ha)];exact aci π b x.2 S2 vb _ hb (by simpa only [gok]using hk) (fun c hc=>hS c (h2 c hc))
 |.l::π,.fz (.p a b),x,S,vs,ad,hr,hk,hS=>by simp only[Rel,aq]at hr;obtain⟨va,vb,rfl,ha,hb⟩:=hr;simp only[res];rw[aco (aq.len a _ _ ha)];exact aci π (.fz a) x.1 (fun _=>False) va ad (by simpa only [Rel]using ha) (by simpa only [gok]using hk) (fun c hc=>hc.elim)
 |.r::π,.fz (.p a b),x,S,vs,ad,hr,hk,hS=>by simp only[Rel,aq]at hr;obtain⟨va,vb,rfl,ha,hb⟩:=hr;simp only[res];rw[ace (aq.len a _ _ ha)];exact aci π (.fz b) x.2 (fun _=>False) vb _ (by simpa only [Rel]using hb) (by simpa only [gok]using hk) (fun c hc=>hc.elim)
 |.ix i::π,.sl e,x,S,vs,ad,hr,hk,hS=>by
  simp only[Rel]at hr;obtain⟨v,ety,xs,T,rfl,h2,h3,h4,h5,h6,h7⟩:=hr;simp only[gok]at hk;obtain⟨hi,hk⟩:=hk;rcases ach h2 with⟨hn,_⟩|⟨g,off0,cap,cur,hv,hgg,hc1,hc2,hc3,hc4⟩
  ·omega
  have hxi:x[i]? = some (x.getD i e.dflt):=by rw[a0l,a0p hi];rfl
  have hrow:=h7 i _ hxi;have hrl:=Rel.len e _ _ _ hrow;have hcells:pg w g (off0+i*e.size) ((xs.drop (i*e.size)).take e.size):=fun j u hu=>by rw[a2f w g _ cur ety (0,0) hgg];exact aqj hc4 hu
  have hcells':=hcells.keep (w':=w') (hS g (h4 g (by rw[hv];rfl)));rw[hv];simp only[res,a16];rw[aai hrl hcells,aai hrl hcells'];exact aci π e _ (T i) _ _ hrow hk (fun c hc=>hS c (h5 i c hc).1)
 |.de::π,.pt t,x,S,vs,ad,hr,hk,hS=>by
  simp only[Rel]at hr;obtain⟨b0,us0,ty0,S0,rfl,h2,h3,h4,h5⟩:=hr;simp only[gok]at hk;have hlen:=Rel.len t _ _ _ h5;have hcells:pg w b0 0 us0:=fun j u hu=>by rw[a2f w b0 _ us0.toArray ty0 (0,0) h3];simpa using hu
  have hcells':=hcells.keep (w':=w') (hS b0 h2);simp only[res];rw[aai hlen hcells,aai hlen hcells'];exact aci π t x S0 us0 _ h5 hk (fun c hc=>hS c (h4 c hc).1)
 |.l::_,.sl _,_,_,_,_,_,_,_|.l::_,.pt _,_,_,_,_,_,_,_|.l::_,.fz (.int _),_,_,_,_,_,_,_|.l::_,.fz .bool,_,_,_,_,_,_,_|.l::_,.fz .str,_,_,_,_,_,_,_|.l::_,.fz .u,_,_,_,_,_,_,_|.l::_,.fz (.sl _),_,_,_,_,_,_,_|.l::_,.fz (.pt _),_,_,_,_,_,_,_|.l::_,.fz (.fn _ _),_,_,_,_,_,_,_|.l::_,.fz .any,_,_,_,_,_,_,_|.r::_,.sl _,_,_,_,_,_,_,_|.r::_,.pt _,_,_,_,_,_,_,_|.r::_,.fz (.int _),_,_,_,_,_,_,_|.r::_,.fz .bool,_,_,_,_,_,_,_|.r::_,.fz .str,_,_,_,_,_,_,_|.r::_,.fz .u,_,_,_,_,_,_,_|.r::_,.fz (.sl _),_,_,_,_,_,_,_|.r::_,.fz (.pt _),_,_,_,_,_,_,_|.r::_,.fz (.fn _ _),_,_,_,_,_,_,_|.r::_,.fz .any,_,_,_,_,_,_,_|.ix _::_,.fz _,_,_,_,_,_,_,_|.ix _::_,.p _ _,_,_,_,_,_,_,_|.ix _::_,.pt _,_,_,_,_,_,_,_|.de::_,.fz _,_,_,_,_,_,_,_|.de::_,.p _ _,_,_,_,_,_,_,_|.de::_,.sl _,_,_,_,_,_,_,_=>by simp only[res]
def Ref(β:Nat->Value)(M:Mem)(w:World)(k:Nat)(π:cr)(vs:List Value):Prop:=∃ob pl,go M k=some ob/\gok π ob.o ob.x/\(∃q,get π ob.o ob.x=some q)/\res w π ob.o [β k] none=some (vs,pl)
def Adr(β:Nat->Value)(M:Mem)(w:World)(k:Nat)(π:cr)(v:Value):Prop:=∃ob us b off,go M k=some ob/\gok π ob.o ob.x/\(∃q,get π ob.o ob.x=some q)/\dp π=true/\res w π ob.o [β k] none=some (us,some (b,off))/\v=.pointer (some ⟨b,off,none⟩)
def ak(β:Nat->Value)(M:Mem)(Im:Nat->Prop)(w:World):V->List Value->Prop
 |.p a b,vs=>∃va vb,vs=va++vb/\ak β M Im w a va/\ak β M Im w b vb
 |.u,vs=>vs=[]
 |.ref k π,vs=>Ref β M w k π vs
 |.ad k π,vs=>∃v,vs=[v]/\Adr β M w k π v
 |.d t x,vs=>aq Im w t x vs
 |.nl,vs=>∃oa,vs=[.slice oa 0 0]
 |.np,vs=>vs=[.pointer none]
 |.any,vs=>∀u∈vs,u.oneCell'=true
 |.fn f v,vs=>∃us:List Value,vs=[.func (.func f) #[] us.toArray]/\ak β M Im w v us
 |.bx v,vs=>∃b o us,vs=[.pointer (some ⟨b,o,none⟩)]/\Im b/\pg w b o us/\ak β M Im w v us
 |.ag _,_|.tup _,_|.gd _ _ _ _,_=>False
 |.ifc t v,vs=>∃u:Value,vs=[.iface t u]/\ak β M Im w v [u]
mutual
def ao(β:Nat->Value)(M:Mem)(Im:Nat->Prop)(w:World):V->Value->Prop
 |.any,_=>True
 |.ag x,v=>∃vs:List Value,v=.agg vs.toArray/\ak β M Im w x vs
 |.tup x,v=>∃vs:List Value,v=.tuple vs.toArray/\da β M Im w x vs
 |.gd _ _ P x,v=>(P->ao β M Im w x v)/\(¬P->v=undef)
 |.ifc t x,v=>ak β M Im w (.ifc t x) [v]
 |.p a b,v=>ak β M Im w (.p a b) [v]
 |.u,v=>ak β M Im w .u [v]
 |.ref k π,v=>ak β M Im w (.ref k π) [v]
 |.ad k π,v=>ak β M Im w (.ad k π) [v]
 |.d t x,v=>ak β M Im w (.d t x) [v]
 |.nl,v=>ak β M Im w .nl [v]
 |.np,v=>ak β M Im w .np [v]
 |.fn f x,v=>ak β M Im w (.fn f x) [v]
 |.bx x,v=>ak β M Im w (.bx x) [v]
def da(β:Nat->Value)(M:Mem)(Im:Nat->Prop)(w:World):V->List Value->Prop
 |.p a b,vs=>∃u us,vs=u::us/\ao β M Im w a u/\da β M Im w b us
 |.u,vs=>vs=[]
 |_,_=>False
end
section
variable {β β':Nat->Value} {M M':Mem} {Im Im':Nat->Prop} {w w':World}
theorem bu{x:V}{v:Value}(h:ak β M Im w x [v]):ao β M Im w x v:=by
 cases x with
 |any=>simp only[ao]
 |ag y|tup y|gd _ _ _ y=>simp only[ak]at h
 |ifc _ y|p a b|u|ref k π|ad k π|d t y|nl|np|fn f y|bx y=>simpa only [ao]using h
theorem ak.ev{e:Ev}(hk:ju Im Im' w w')(href:∀k π vs,Ref β M w k π vs->ak β' M' Im' w' (e.ref k π) vs)(had:∀k π v,Adr β M w k π v->ak β' M' Im' w' (e.ad k π) [v]) :
  (x:V)->(vs:List Value)->ak β M Im w x vs->ak β' M' Im' w' (x.ev e) vs
 |.p a b,vs,r=>by simp only[ak,V.ev]at r⊢;obtain⟨va,vb,h1,h2,h3⟩:=r;exact⟨va,vb,h1,ak.ev hk href had a va h2,ak.ev hk href had b vb h3⟩
 |.u,vs,r=>by simpa only [ak,V.ev]using r
 |.ref k π,vs,r=>by simp only[ak,V.ev]at r⊢;exact href k π vs r
 |.ad k π,vs,r=>by simp only[ak,V.ev]at r⊢;obtain⟨v,rfl,h⟩:=r;exact had k π v h
 |.d t x,vs,r=>by simp only[ak,V.ev]at r⊢;exact aq.keep hk t x vs r
 |.nl,vs,r|.np,vs,r|.any,vs,r=>by simpa only [ak,V.ev]using r
 |.fn f v,vs,r=>by simp only[ak,V.ev]at r⊢;obtain⟨us,h1,h2⟩:=r;exact⟨us,h1,ak.ev hk href had v us h2⟩
 |.bx v,vs,r=>by simp only[ak,V.ev]at r⊢;obtain⟨b,o,us,h1,h2,h3,h4⟩:=r;exact⟨b,o,us,h1,(hk b h2).1,h3.keep (hk b h2).2,ak.ev hk href had v us h4⟩
 |.ag _,vs,r|.tup _,vs,r|.gd _ _ _ _,vs,r=>by simp only[ak]at r
 |.ifc t v,vs,r=>by simp only[ak,V.ev]at r⊢;obtain⟨u,h1,h2⟩:=r;exact⟨u,h1,ak.ev hk href had v [u] h2⟩
mutual
theorem ao.ev{e:Ev}(hk:ju Im Im' w w')(href:∀k π vs,Ref β M w k π vs->ak β' M' Im' w' (e.ref k π) vs)(had:∀k π v,Adr β M w k π v->ak β' M' Im' w' (e.ad k π) [v]) :
  (x:V)->(v:Value)->ao β M Im w x v->ao β' M' Im' w' (x.ev e) v
 |.any,v,r=>by simp only[V.ev,ao]
 |.ag x,v,r=>by simp only[ao,V.ev]at r⊢;obtain⟨vs,h1,h2⟩:=r;exact⟨vs,h1,ak.ev hk href had x vs h2⟩
 |.tup x,v,r=>by simp only[ao,V.ev]at r⊢;obtain⟨vs,h1,h2⟩:=r;exact⟨vs,h1,da.ev hk href had x vs h2⟩
 |.gd j b P x,v,r=>by simp only[ao,V.ev]at r⊢;exact⟨fun hp=>ao.ev hk href had x v (r.1 hp),r.2⟩
 |.ifc t x,v,r|.p a b,v,r|.u,v,r|.ref k π,v,r|.ad k π,v,r|.d t x,v,r|.nl,v,r|.np,v,r|.fn f x,v,r|.bx x,v,r=>by simp only[ao]at r;exact bu (ak.ev hk href had _ _ r)
theorem da.ev{e:Ev}(hk:ju Im Im' w w')(href:∀k π vs,Ref β M w k π vs->ak β' M' Im' w' (e.ref k π) vs)(had:∀k π v,Adr β M w k π v->ak β' M' Im' w' (e.ad k π) [v]) :
  (x:V)->(vs:List Value)->da β M Im w x vs->da β' M' Im' w' (x.ev e) vs
 |.p a b,vs,r=>by simp only[da,V.ev]at r⊢;obtain⟨u,us,h1,h2,h3⟩:=r;exact⟨u,us,h1,ao.ev hk href had a u h2,da.ev hk href had b us h3⟩
 |.u,vs,r=>by simpa only [da,V.ev]using r
 |.any,vs,r|.ag x,vs,r|.tup x,vs,r|.gd j b P x,vs,r|.ifc t x,vs,r|.ref k π,vs,r|.ad k π,vs,r|.d t x,vs,r|.nl,vs,r|.np,vs,r|.fn f x,vs,r|.bx x,vs,r=>by simp only[da]at r
end
theorem ak.keep(hk:ju Im Im' w w')(href:∀k π vs,Ref β M w k π vs->Ref β' M' w' k π vs)(had:∀k π v,Adr β M w k π v->Adr β' M' w' k π v) :
  (x:V)->(vs:List Value)->ak β M Im w x vs->ak β' M' Im' w' x vs
 |.p a b,vs,r=>by simp only[ak]at r⊢;obtain⟨va,vb,h1,h2,h3⟩:=r;exact⟨va,vb,h1,ak.keep hk href had a va h2,ak.keep hk href had b vb h3⟩
 |.u,vs,r=>by simpa only [ak]using r
 |.ref k π,vs,r=>by simp only[ak]at r⊢;exact href k π vs r
 |.ad k π,vs,r=>by simp only[ak]at r⊢;obtain⟨v,rfl,h⟩:=r;exact⟨v,rfl,had k π v h⟩
 |.d t x,vs,r=>by simp only[ak]at r⊢;exact aq.keep hk t x vs r
 |.nl,vs,r|.np,vs,r|.any,vs,r=>by simpa only [ak]using r
 |.fn f v,vs,r=>by simp only[ak]at r⊢;obtain⟨us,h1,h2⟩:=r;exact⟨us,h1,ak.keep hk href had v us h2⟩
 |.bx v,vs,r=>by simp only[ak]at r⊢;obtain⟨b,o,us,h1,h2,h3,h4⟩:=r;exact⟨b,o,us,h1,(hk b h2).1,h3.keep (hk b h2).2,ak.keep hk href had v us h4⟩
 |.ag _,vs,r|.tup _,vs,r|.gd _ _ _ _,vs,r=>by simp only[ak]at r
 |.ifc t v,vs,r=>by simp only[ak]at r⊢;obtain⟨u,h1,h2⟩:=r;exact⟨u,h1,ak.keep hk href had v [u] h2⟩
mutual
theorem ao.keep(hk:ju Im Im' w w')(href:∀k π vs,Ref β M w k π vs->Ref β' M' w' k π vs)(had:∀k π v,Adr β M w k π v->Adr β' M' w' k π v) :
  (x:V)->(v:Value)->ao β M Im w x v->ao β' M' Im' w' x v
 |.any,v,r=>by simp only[ao]
 |.ag x,v,r=>by simp only[ao]at r⊢;obtain⟨vs,h1,h2⟩:=r;exact⟨vs,h1,ak.keep hk href had x vs h2⟩
 |.tup x,v,r=>by simp only[ao]at r⊢;obtain⟨vs,h1,h2⟩:=r;exact⟨vs,h1,da.keep hk href had x vs h2⟩
 |.gd j b P x,v,r=>by simp only[ao]at r⊢;exact⟨fun hp=>ao.keep hk href had x v (r.1 hp),r.2⟩
 |.ifc t x,v,r|.p a b,v,r|.u,v,r|.ref k π,v,r|.ad k π,v,r|.d t x,v,r|.nl,v,r|.np,v,r|.fn f x,v,r|.bx x,v,r=>by simp only[ao]at r;exact bu (ak.keep hk href had _ _ r)
theorem da.keep(hk:ju Im Im' w w')(href:∀k π vs,Ref β M w k π vs->Ref β' M' w' k π vs)(had:∀k π v,Adr β M w k π v->Adr β' M' w' k π v) :
  (x:V)->(vs:List Value)->da β M Im w x vs->da β' M' Im' w' x vs
 |.p a b,vs,r=>by simp only[da]at r⊢;obtain⟨u,us,h1,h2,h3⟩:=r;exact⟨u,us,h1,ao.keep hk href had a u h2,da.keep hk href had b us h3⟩
 |.u,vs,r=>by simpa only [da]using r
 |.any,vs,r|.ag x,vs,r|.tup x,vs,r|.gd j b P x,vs,r|.ifc t x,vs,r|.ref k π,vs,r|.ad k π,vs,r|.d t x,vs,r|.nl,vs,r|.np,vs,r|.fn f x,vs,r|.bx x,vs,r=>by simp only[da]at r
end
end
theorem aru{a b:Nat}(h:¬a=b):Nat.beq a b=false:=by
 cases hb:Nat.beq a b with
 |false=>rfl
 |true=>exact absurd (a0v hb) h
theorem iy(k:Nat)(v:V)(r:Env)(t:Nat):gt ((k,v)::r) t=if k=t then v else gt r t:=by
 simp only[gt];by_cases h:k=t
 ·simp[h]
 ·rw[ds h];have:Nat.beq k t=false:=aru h;rw[this];rfl
theorem dn(k:Nat)(v:Ob)(r:Mem)(t:Nat):go ((k,v)::r) t=if k=t then some v else go r t:=by
 simp only[go];by_cases h:k=t
 ·simp[h]
 ·rw[ds h];have:Nat.beq k t=false:=aru h;rw[this];rfl
theorem dg{α:Type}(j k:Nat)(x y:α):(bif Nat.beq j k then x else y)=if j=k then x else y:=by
 by_cases h:j=k
 ·simp[h]
 ·rw[ds h];have:Nat.beq j k=false:=aru h;rw[this];rfl
def c6(M:Mem)(k:Nat):Prop:=(go M k).isSome=true
theorem cq{M:Mem}{k:Nat}{o:Ob}(h:go M k=some o):c6 M k:=by unfold c6;rw[h];rfl
theorem bd8{M:Mem}{k:Nat}(h:c6 M k):∃o,go M k=some o:=Option.isSome_iff_exists.1 h
theorem dy(k:Nat):∀M:Mem,go (del k M) k=none
 |[]=>rfl
 |(j,o)::r=>by
  simp only[del,dg];split
  ·exact dy k r
  ·rename_i h;rw[dn,ds h];exact dy k r
theorem dx{k j:Nat}(h:j≠k):∀M:Mem,go (del k M) j=go M j
 |[]=>rfl
 |(i,o)::r=>by
  simp only[del,dg];by_cases e:i=k
  ·subst e;rw[a0a rfl,dn,ds (a0u h)];exact dx h r
  ·rw[ds e,dn,dn,dx h r]
theorem r8{k j:Nat}{M:Mem}:c6 (del k M) j<->j≠k/\c6 M j:=by
 unfold c6;by_cases h:j=k
 ·subst h;simp[dy]
 ·simp[dx h,h]
theorem lu{k j:Nat}(o:Ob)(h:j≠k):∀M:Mem,go (put k o M) j=go M j
 |[]=>rfl
 |(i,x)::r=>by
  simp only[put,dg];by_cases e:i=k
  ·subst e;rw[a0a rfl,dn,dn,ds (a0u h),ds (a0u h)]
  ·rw[ds e,dn,dn,lu o h r]
theorem my{k:Nat}(o:Ob):∀M:Mem,c6 M k->go (put k o M) k=some o
 |[],h=>by simp[c6,go]at h
 |(i,x)::r,h=>by
  simp only[put,dg];by_cases e:i=k
  ·subst e;rw[a0a rfl,dn,a0a rfl]
  ·rw[ds e,dn,ds e];refine my o r ?_;unfold c6 at h⊢
   rwa [dn,ds e]at h
theorem afc{k j:Nat}{o:Ob}{M:Mem}:c6 (put k o M) j<->c6 M j:=by
 by_cases e:j=k
 ·subst e;by_cases h:c6 M j
  ·exact⟨fun _=>h,fun _=>cq (my o M h)⟩
  ·refine⟨fun h'=>?_,fun h'=>absurd h' h⟩;exfalso
   have:∀M:Mem,¬c6 M j->¬c6 (put j o M) j:=by
    intro M
    induction M with
    |nil=>intro h;exact h
    |cons q r ih=>
     obtain⟨i,x⟩:=q;intro hn hl;unfold c6 at hn hl ih;simp only[put,dg]at hl;by_cases e:i=j
     ·subst e;rw[dn,a0a rfl]at hn;exact hn rfl
     ·rw[ds e,dn,ds e]at hl;rw[dn,ds e]at hn;exact ih hn hl
   exact this M h h'
 ·unfold c6;rw[lu o e]
theorem ajl(e:Ev)(t:Nat):∀env:Env,gt (evE e env) t=(gt env t).ev e
 |[]=>by simp[evE,gt,V.ev]
 |(j,v)::r=>by
  simp only[evE,iy];split
  ·rfl
  ·exact ajl e t r
structure Fr where
 w0:World
 wk:World
 A:Nat->Prop
 R:Nat->Prop
 I:Nat->Prop
 nt:Nat
 fv:Nat->Option Value
 cs:Prop
def Fr.RR(F:Fr)(b:Nat):Prop:=F.R b
def Fr.Fs(F:Fr)(b:Nat):Prop:=F.w0.heap.size<=b\/F.cs/\F.R b
theorem Fr.Fs.r{F:Fr}{b:Nat}(h:F.Fs b):F.RR b\/F.w0.heap.size<=b:=h.elim .inr fun h=>.inl h.2
def Fr.ok(F:Fr)(k:Nat):Prop:=k<F.nt/\F.fv k=none
structure Ow where
 β:Nat->Value
 σ:Nat->Nat->Prop
 L:Nat->Prop
structure TD (w' w:World):Prop where
 t:w'.tape=w.tape
 d:w.drawn<=w'.drawn
theorem TD.refl(w:World):TD w w:=⟨rfl,a0k _⟩
theorem TD.trans{a b c:World}(h:TD c b)(k:TD b a):TD c a:=⟨h.t.trans k.t,a0z k.d h.d⟩
def Imm(F:Fr)(p:Ow)(M:Mem)(w:World):Nat->Prop:=fun b=>b<w.heap.size/\(F.A b\/F.RR b\/F.w0.heap.size<=b)/\¬p.L b/\∀k,c6 M k->¬p.σ k b
structure Hp (F:Fr) (p:Ow) (M:Mem) (w:World):Prop where
 objs:∀k ob,go M k=some ob->Rel (Imm F p M w) w ob.o ob.x (p.σ k) [p.β k]
 sep:∀k k' b,k≠k'->c6 M k->c6 M k'->p.σ k b->¬p.σ k' b
 own:∀k b,c6 M k->p.σ k b->b<w.heap.size/\(gid<=k/\F.RR b\/F.Fs b)
 lim:∀b,p.L b->b<w.heap.size/\F.Fs b/\∀k,c6 M k->¬p.σ k b
 os:w.os=F.w0.os
 tape:TD w F.w0
 output:w.output=F.w0.output
 size:F.w0.heap.size<=w.heap.size
 old:∀b,b<F.w0.heap.size->¬F.RR b->w.heap[b]? = F.w0.heap[b]?
structure St (F:Fr) (p:Ow) (env:Env) (M:Mem) (a:Act) (w:World):Prop where
 defers:a.defers=[]
 nt:a.tmps.size=F.nt
 fix:∀t v,F.fv t=some v->a.tmps.getD t undef=v
 ik:∀b,F.I b->Imm F p M w b/\w.heap[b]? = F.wk.heap[b]?
 lz:∀b,¬p.L b
 slots:∀t,ao p.β M (Imm F p M w) w (gt env t) (a.tmps.getD t undef)
 hp:Hp F p M w
structure Tr (F:Fr) (p:Ow) (M:Mem) (w:World) (e:List Ev) (p':Ow) (M':Mem) (w':World):Prop where
 keep:ju (Imm F p M w) (Imm F p' M' w') w w'
 c:∀v vs,ak p.β M (Imm F p M w) w v vs->ak p'.β M' (Imm F p' M' w') w' (v.evs e) vs
 s:∀v u,ao p.β M (Imm F p M w) w v u->ao p'.β M' (Imm F p' M' w') w' (v.evs e) u
 hp:Hp F p' M' w'
theorem aql(v:V):∀(e e':List Ev),v.evs (ap e e')=(v.evs e).evs e'
 |[],e'=>rfl
 |x::e,e'=>by simp only[ap,V.evs];exact aql _ e e'
theorem uu(t:Nat):∀(e:List Ev)(env:Env),gt (p8 env e) t=(gt env t).evs e
 |[],env=>rfl
 |x::e,env=>by simp only[p8,V.evs];rw[uu t e,ajl]
section
variable {F:Fr} {p p' p'':Ow} {env:Env} {M M' M'':Mem} {a:Act} {w w' w'':World}
theorem Tr.trans{e e':List Ev}(h:Tr F p M w e p' M' w')(k:Tr F p' M' w' e' p'' M'' w''):Tr F p M w (ap e e') p'' M'' w'':=⟨h.keep.trans k.keep,fun v vs r=>by rw[aql];exact k.c _ _ (h.c v vs r),fun v u r=>by rw[aql];exact k.s _ _ (h.s v u r),k.hp⟩
theorem Tr.one(e:Ev)(hk:ju (Imm F p M w) (Imm F p' M' w') w w')
  (href:∀k π vs,Ref p.β M w k π vs->ak p'.β M' (Imm F p' M' w') w' (e.ref k π) vs) (had:∀k π v,Adr p.β M w k π v->ak p'.β M' (Imm F p' M' w') w' (e.ad k π) [v]) (hp':Hp F p' M' w'):Tr F p M w [e] p' M' w':=
 ⟨hk,fun v vs r=>by simp only[V.evs];exact ak.ev hk href had v vs r,fun v u r=>by simp only[V.evs];exact ao.ev hk href had v u r,hp'⟩
theorem Tr.zero(hk:ju (Imm F p M w) (Imm F p' M' w') w w')
  (href:∀k π vs,Ref p.β M w k π vs->Ref p'.β M' w' k π vs) (had:∀k π v,Adr p.β M w k π v->Adr p'.β M' w' k π v) (hp':Hp F p' M' w'):Tr F p M w [] p' M' w':=
 ⟨hk,fun v vs r=>by simp only[V.evs];exact ak.keep hk href had v vs r,fun v u r=>by simp only[V.evs];exact ao.keep hk href had v u r,hp'⟩
theorem Tr.refl(h:Hp F p M w):Tr F p M w [] p M w:=Tr.zero (ju.refl _ _) (fun _ _ _ r=>r) (fun _ _ _ r=>r) h
theorem St.tr{e:List Ev}(h:St F p env M a w)(t:Tr F p M w e p' M' w')(hL:∀b,¬p'.L b):St F p' (p8 env e) M' a w':=by refine⟨h.defers,h.nt,h.fix,fun b hb=>⟨(t.keep b (h.ik b hb).1).1,((t.keep b (h.ik b hb).1).2).trans (h.ik b hb).2⟩,hL,fun n=>?_,t.hp⟩;rw[uu];exact t.s _ _ (h.slots n)
theorem Ref.same(hp:Hp F p M w){k:Nat}{π:cr}{vs:List Value}(h:Ref p.β M w k π vs)(hM:go M' k=go M k)(hβ:p'.β k=p.β k)(hb:c6 M k->∀b,p.σ k b->w'.heap[b]? = w.heap[b]?):Ref p'.β M' w' k π vs:=by obtain⟨ob,pl,h1,h2,h3,h4⟩:=h;refine⟨ob,pl,by rw[hM,h1],h2,h3,?_⟩;rw[hβ,aci π ob.o ob.x (p.σ k) _ none (hp.objs k ob h1) h2 (hb (cq h1))];exact h4
theorem Adr.same(hp:Hp F p M w){k:Nat}{π:cr}{v:Value}(h:Adr p.β M w k π v)(hM:go M' k=go M k)(hβ:p'.β k=p.β k)(hb:c6 M k->∀b,p.σ k b->w'.heap[b]? = w.heap[b]?):Adr p'.β M' w' k π v:=by obtain⟨ob,us,b,off,h1,h2,h3,h4,h5,h6⟩:=h;refine⟨ob,us,b,off,by rw[hM,h1],h2,h3,h4,?_,h6⟩;rw[hβ,aci π ob.o ob.x (p.σ k) _ none (hp.objs k ob h1) h2 (hb (cq h1))];exact h5
theorem St.write(h:St F p env M a w)(d:Nat)(x:V)(v:Value)(hx:ao p.β M (Imm F p M w) w x v)(hd:F.ok d):St F p ((d,x)::env) M (a.put (some d) v) w:=by
 refine⟨by simpa[Act.put]using h.defers,by simpa[Act.put]using h.nt,fun t v' ht=>?_,h.ik,h.lz,fun t=>?_,h.hp⟩
 ·have hne:d≠t:=fun e=>by have:=hd.2;rw[e,ht]at this;cases this
  have:=h.fix t v' ht;simpa[Act.put,hne]using this
 rw[iy];simp only[Act.put];by_cases e:d=t
 ·subst e;rw[a0a rfl];simpa[h.nt,hd.1]using hx
 ·rw[ds e];have:=h.slots t;simpa[e]using this
theorem St.weak{env':Env}(h:St F p env M a w)(he:∀t,gt env' t=.any\/gt env' t=gt env t):St F p env' M a w:=by
 refine⟨h.defers,h.nt,h.fix,h.ik,h.lz,fun t=>?_,h.hp⟩;rcases he t with e|e
 ·rw[e];simp only[ao]
 ·rw[e];exact h.slots t
theorem look(hp:Hp F p M w){k:Nat}{ob:Ob}{π:cr}{q:Ob}(h1:go M k=some ob)(h2:gok π ob.o ob.x)(h3:get π ob.o ob.x=some q):Foc (Imm F p M w) w π ob.o ob.x (p.σ k) [p.β k] none q:=ai2 π ob.o ob.x (p.σ k) [p.β k] none q (hp.objs k ob h1) h2 h3 (fun b off e=>by cases e)
theorem Ref.one(hp:Hp F p M w){k:Nat}{π:cr}{vs:List Value}(h:Ref p.β M w k π vs):∀u∈vs,u.oneCell'=true:=by obtain⟨ob,pl,h1,h2,⟨q,h3⟩,h4⟩:=h;obtain⟨us,pl',S',e1,e2,e3,_⟩:=look hp h1 h2 h3;rw[e1]at h4;cases h4;exact Rel.one _ _ _ _ e3
theorem Adr.one{k:Nat}{π:cr}{v:Value}(h:Adr p.β M w k π v):v.oneCell'=true:=by obtain⟨_,_,_,_,_,_,_,_,_,rfl⟩:=h;rfl
structure Ext (w w':World):Prop where
 os:w'.os=w.os
 tape:TD w' w
 output:w'.output=w.output
 size:w.heap.size<=w'.heap.size
 old:∀b,b<w.heap.size->w'.heap[b]? = w.heap[b]?
theorem Ext.refl(w:World):Ext w w:=⟨rfl,TD.refl w,rfl,a0k _,fun _ _=>rfl⟩
theorem Ext.of_grown{w w':World}(h:w.grownBy w' none)(hd:w.drawn<=w'.drawn):Ext w w':=⟨h.os,⟨h.tape,hd⟩,h.output,h.size,fun b hb=>h.block b hb (by simp)⟩
theorem Tr.ext(h:Hp F p M w)(e:Ext w w'):Tr F p M w [] p M w':=by
 have hk:ju (Imm F p M w) (Imm F p M w') w w':=fun b hb=>⟨⟨by have:=e.size;have:=hb.1;omega,hb.2⟩,e.old b hb.1⟩
 refine Tr.zero hk (fun _ _ _ r=>r.same h rfl rfl (fun hl b hb=>e.old b (h.own _ b hl hb).1)) (fun _ _ _ r=>r.same h rfl rfl (fun hl b hb=>e.old b (h.own _ b hl hb).1))
  ⟨fun k ob hg=>Rel.keep hk _ _ _ _ (fun b hb=>e.old b (h.own k b (cq hg) hb).1) (h.objs k ob hg),h.sep,fun k b h1 h2=>?_,fun b hb=>?_,e.os.trans h.os,e.tape.trans h.tape,e.output.trans h.output,a0z h.size e.size,fun b hb hR=>?_⟩
 ·have:=h.own k b h1 h2;exact⟨by have:=e.size;omega,this.2⟩
 ·have:=h.lim b hb;exact⟨by have:=e.size;omega,this.2⟩
 ·rw[e.old b (by have:=h.size;omega)];exact h.old b hb hR
theorem St.ext(h:St F p env M a w)(e:Ext w w'):St F p env M a w':=by simpa[p8]using h.tr (Tr.ext h.hp e) h.lz
theorem Hp.del(h:Hp F p M w)(k:Nat):Hp F p (del k M) w/\ju (Imm F p M w) (Imm F p (del k M) w) w w:=by
 have hk:ju (Imm F p M w) (Imm F p (Bm.del k M) w) w w:=fun b hb=>⟨⟨hb.1,hb.2.1,hb.2.2.1,fun j hj=>hb.2.2.2 j (r8.1 hj).2⟩,rfl⟩;refine⟨⟨fun j ob hg=>?_,fun j j' b hne hj hj'=>h.sep j j' b hne (r8.1 hj).2 (r8.1 hj').2,fun j b hj=>h.own j b (r8.1 hj).2,fun b hb=>⟨(h.lim b hb).1,(h.lim b hb).2.1,fun j hj=>(h.lim b hb).2.2 j (r8.1 hj).2⟩,h.os,h.tape,h.output,h.size,h.old⟩,hk⟩;have hjk:j≠k:=by rintro rfl;rw[dy]at hg;cases hg
 rw[dx hjk]at hg;exact Rel.keep hk _ _ _ _ (fun _ _=>rfl) (h.objs j ob hg)
theorem Tr.kl(h:Hp F p M w)(k:Nat):Tr F p M w [.kl k] p (del k M) w:=by
 refine Tr.one (.kl k) (h.del k).2 (fun j π vs r=>?_) (fun j π v r=>?_) (h.del k).1
 ·simp only[Ev.ref,dg];split
  ·simp only[ak];exact r.one h
  ·rename_i hne;simp only[ak];exact r.same h (dx hne M) rfl (fun _ _ _=>rfl)
 ·simp only[Ev.ad,dg];split
  ·simp only[ak];intro u hu;rw[a0s.1 hu];exact r.one
  ·rename_i hne;simp only[ak];exact⟨v,rfl,r.same h (dx hne M) rfl (fun _ _ _=>rfl)⟩
theorem aft(h:Hp F p M w){k b:Nat}(hl:c6 M k)(hb:p.σ k b):Imm F p (del k M) w b:=by obtain⟨h1,h2⟩:=h.own k b hl hb;exact⟨h1,h2.elim (fun h=>.inr (.inl h.2)) (fun h=>.inr h.r),fun hL=>(h.lim b hL).2.2 k hl hb,fun j hj=>h.sep k j b (a0u (r8.1 hj).1) hl (r8.1 hj).2 hb⟩
theorem th{β:Nat->Value}{Im:Nat->Prop}:(t:T)->(x:t.den)->(vs:List Value)->aq Im w t x vs->ak β M Im w (n9 t x) vs
 |.p a b,x,vs,r=>by simp only[aq]at r;obtain⟨va,vb,h1,h2,h3⟩:=r;simp only[n9,ak];exact⟨va,vb,h1,th a _ va h2,th b _ vb h3⟩
 |.u,x,vs,r=>by simpa only [n9,ak,aq]using r
 |.int _,x,vs,r|.bool,x,vs,r|.str,x,vs,r|.sl _,x,vs,r|.pt _,x,vs,r|.fn _ _,x,vs,r|.ifc _ _,x,vs,r|.ib _ _,x,vs,r|.mp _ _,x,vs,r|.op _,x,vs,r|.ns _,x,vs,r|.er _,x,vs,r|.any,x,vs,r=>by simpa only [n9,ak]using r
theorem Tr.frz(h:Hp F p M w)(k:Nat)(ob:Ob)(hk:go M k=some ob):Tr F p M w [.fz k ob] p (del k M) w:=by
 have hl:=cq hk;refine Tr.one (.fz k ob) (h.del k).2 (fun j π vs r=>?_) (fun j π v r=>?_) (h.del k).1
 ·simp only[Ev.ref,dg];split
  ·rename_i e;subst e;obtain⟨ob',pl,h1,h2,⟨q,h3⟩,h4⟩:=r;rw[hk]at h1;cases h1;rw[h3];obtain⟨us,pl',S',e1,e2,e3,_⟩:=look h hk h2 h3;rw[e1]at h4;cases h4;exact th _ _ _ (Rel.frz (fun b hb=>((h.del j).2 b hb).1) _ _ S' _ (fun b hb=>aft h hl (e2 b hb)) e3)
  ·rename_i hne;simp only[ak];exact r.same h (dx hne M) rfl (fun _ _ _=>rfl)
 ·simp only[Ev.ad,dg];split
  ·rename_i e;subst e;obtain⟨ob',us0,b0,off0,h1,h2,⟨q,h3⟩,h4,h5,rfl⟩:=r;rw[hk]at h1;cases h1;rw[h3];obtain⟨us,pl',S',e1,e2,e3,e4,_⟩:=look h hk h2 h3;rw[e1]at h5;simp only[a0e,a0n]at h5;obtain⟨rfl,rfl⟩:=h5;obtain⟨b,off,cur,ty',k1,k2,k3,k4,k5⟩:=e4 h4;simp only[a0e,a0n]at k1;obtain⟨rfl,rfl⟩:=k1;simp only[ak,aq];refine⟨b0,off0,us,rfl,aft h hl k2,fun j' u hu=>?_,Rel.frz (fun b hb=>((h.del j).2 b hb).1) _ _ S' _ (fun b hb=>aft h hl (e2 b hb)) e3⟩;rw[a2f w b0 _ cur ty' (0,0) k4];exact k5 j' u hu
  ·rename_i hne;simp only[ak];exact⟨v,rfl,r.same h (dx hne M) rfl (fun _ _ _=>rfl)⟩
theorem Tr.lim(h:Hp F p M w)(k:Nat)(hl:c6 M k)(hg:k<gid):Tr F p M w [.kl k] ⟨p.β,p.σ,fun b=>p.L b\/p.σ k b⟩ (del k M) w:=by
 have hI:∀b,Imm F p M w b->Imm F ⟨p.β,p.σ,fun b=>p.L b\/p.σ k b⟩ (Bm.del k M) w b:=fun b hb=>⟨hb.1,hb.2.1,fun hc=>hc.elim hb.2.2.1 (hb.2.2.2 k hl),fun j hj=>hb.2.2.2 j (r8.1 hj).2⟩;have hk:ju (Imm F p M w) (Imm F ⟨p.β,p.σ,fun b=>p.L b\/p.σ k b⟩ (Bm.del k M) w) w w:=fun b hb=>⟨hI b hb,rfl⟩;refine Tr.one (.kl k) hk (fun j π vs r=>?_) (fun j π v r=>?_) ⟨fun j ob hgo=>?_,fun j j' b hne hj hj'=>h.sep j j' b hne (r8.1 hj).2 (r8.1 hj').2,fun j b hj=>h.own j b (r8.1 hj).2,fun b hb=>?_,h.os,h.tape,h.output,h.size,h.old⟩
 ·simp only[Ev.ref,dg];split
  ·simp only[ak];exact r.one h
  ·rename_i hne;simp only[ak];exact r.same (p':=⟨p.β,p.σ,_⟩) h (dx hne M) rfl (fun _ _ _=>rfl)
 ·simp only[Ev.ad,dg];split
  ·simp only[ak];intro u hu;rw[a0s.1 hu];exact r.one
  ·rename_i hne;simp only[ak];exact⟨v,rfl,r.same (p':=⟨p.β,p.σ,_⟩) h (dx hne M) rfl (fun _ _ _=>rfl)⟩
 ·have hjk:j≠k:=by rintro rfl;rw[dy]at hgo;cases hgo
  rw[dx hjk]at hgo;exact Rel.keep hk _ _ _ _ (fun _ _=>rfl) (h.objs j ob hgo)
 ·rcases hb with hb|hb
  ·exact⟨(h.lim b hb).1,(h.lim b hb).2.1,fun j hj=>(h.lim b hb).2.2 j (r8.1 hj).2⟩
  ·obtain⟨k1,k2⟩:=h.own k b hl hb;refine⟨k1,k2.elim (fun h=>by have:=h.1;omega) id,fun j hj=>h.sep k j b (a0u (r8.1 hj).1) hl (r8.1 hj).2 hb⟩
def Ow.updL(p:Ow)(k:Nat)(v:Value)(r L':Nat->Prop):Ow:=⟨fun j=>if j=k then v else p.β j,fun j=>if j=k then r else p.σ j,L'⟩
def Ow.upd(p:Ow)(k:Nat)(v:Value)(r:Nat->Prop):Ow:=p.updL k v r fun _=>False
structure ExtL (w w':World) (L:Nat->Prop):Prop where
 os:w'.os=w.os
 tape:TD w' w
 output:w'.output=w.output
 size:w.heap.size<=w'.heap.size
 old:∀b,b<w.heap.size->¬L b->w'.heap[b]? = w.heap[b]?
theorem Ext.toL{w w':World}(h:Ext w w')(L:Nat->Prop):ExtL w w' L:=⟨h.os,h.tape,h.output,h.size,fun b hb _=>h.old b hb⟩
theorem Tr.newL(h:Hp F p M w)(k:Nat)(hk:go M k=none)(v:Value)(r L':Nat->Prop)(ob:Ob)(hg:ExtL w w' p.L)
  (hL':∀b,L' b->p.L b/\¬r b) (hr:∀b,r b->w.heap.size<=b/\b<w'.heap.size\/p.L b)
  (ho:ju (Imm F p M w) (Imm F (p.updL k v r L') ((k,ob)::M) w') w w'->Rel (Imm F (p.updL k v r L') ((k,ob)::M) w') w' ob.o ob.x r [v]) :
  Tr F p M w [] (p.updL k v r L') ((k,ob)::M) w':=by
 have hnl:¬c6 M k:=by unfold c6;rw[hk];simp
 have hlive:∀j,c6 ((k,ob)::M) j<->j=k\/c6 M j:=fun j=>by
  unfold c6;rw[dn];by_cases e:k=j
  ·simp[e]
  ·rw[ds e];simp[a0u e]
 have hβ:∀j,j≠k->(p.updL k v r L').β j=p.β j:=fun j hj=>by simp[Ow.updL,hj]
 have hσ:∀j,j≠k->(p.updL k v r L').σ j=p.σ j:=fun j hj=>by simp[Ow.updL,hj]
 have hβk:(p.updL k v r L').β k=v:=by simp[Ow.updL]
 have hσk:(p.updL k v r L').σ k=r:=by simp[Ow.updL]
 have hkeep:ju (Imm F p M w) (Imm F (p.updL k v r L') ((k,ob)::M) w') w w':=fun b hb=>by
  refine⟨⟨by have:=hg.size;have:=hb.1;omega,hb.2.1,fun h=>hb.2.2.1 (hL' b h).1,fun j hj=>?_⟩,hg.old b hb.1 hb.2.2.1⟩;rcases (hlive j).1 hj with rfl|hj
  ·rw[hσk];intro hrb;rcases hr b hrb with h1|h1
   ·have:=hb.1;omega
   ·exact hb.2.2.1 h1
  ·have hne:j≠k:=fun e=>hnl (e▸hj);rw[hσ j hne];exact hb.2.2.2 j hj
 have hgo:∀j,j≠k->go ((k,ob)::M) j=go M j:=fun j hj=>by rw[dn,ds (a0u hj)]
 have hblk:∀j,c6 M j->∀b,p.σ j b->w'.heap[b]? = w.heap[b]?:=fun j hj b hb=>hg.old b (h.own j b hj hb).1 (fun hL=>(h.lim b hL).2.2 j hj hb);refine Tr.zero hkeep (fun j π vs q=>?_) (fun j π v' q=>?_) ⟨fun j o hj=>?_,fun j j' b hne hj hj' hb=>?_,fun j b hj hb=>?_,fun b hb=>?_,hg.os.trans h.os,hg.tape.trans h.tape,hg.output.trans h.output,a0z h.size hg.size,fun b hb hR=>?_⟩
 ·have hne:j≠k:=by rintro rfl;obtain⟨o,_,h1,_⟩:=q;rw[hk]at h1;cases h1
  exact q.same h (hgo j hne) (hβ j hne) (hblk j)
 ·have hne:j≠k:=by rintro rfl;obtain⟨o,_,_,_,h1,_⟩:=q;rw[hk]at h1;cases h1
  exact q.same h (hgo j hne) (hβ j hne) (hblk j)
 ·by_cases e:j=k
  ·subst e;rw[dn,a0a rfl]at hj;cases hj;rw[hβk,hσk];exact ho hkeep
  ·rw[hgo j e]at hj;rw[hβ j e,hσ j e];exact Rel.keep hkeep _ _ _ _ (hblk j (cq hj)) (h.objs j o hj)
 ·rcases (hlive j).1 hj with ej|hj0
  ·rw[ej,hσk]at hb;rcases (hlive j').1 hj' with ej'|hj0'
   ·exact absurd (ej.trans ej'.symm) hne
   ·have hn':j'≠k:=fun e=>hnl (e▸hj0');rw[hσ j' hn'];intro hb';rcases hr b hb with h1|h1
    ·have:=(h.own j' b hj0' hb').1;omega
    ·exact (h.lim b h1).2.2 j' hj0' hb'
  ·have hn:j≠k:=fun e=>hnl (e▸hj0);rw[hσ j hn]at hb;rcases (hlive j').1 hj' with ej'|hj0'
   ·rw[ej',hσk];intro hb';rcases hr b hb' with h1|h1
    ·have:=(h.own j b hj0 hb).1;omega
    ·exact (h.lim b h1).2.2 j hj0 hb
   ·have hn':j'≠k:=fun e=>hnl (e▸hj0');rw[hσ j' hn'];exact h.sep j j' b hne hj0 hj0' hb
 ·rcases (hlive j).1 hj with ej|hj
  ·subst ej;rw[hσk]at hb;rcases hr b hb with h1|h1
   ·exact⟨h1.2,.inr (.inl (a0z h.size h1.1))⟩
   ·exact⟨by have:=(h.lim b h1).1;have:=hg.size;omega,.inr (h.lim b h1).2.1⟩
  ·have hn:j≠k:=fun e=>hnl (e▸hj);rw[hσ j hn]at hb;have:=h.own j b hj hb;exact⟨by have:=hg.size;omega,this.2⟩
 ·have hb':=hL' b hb;refine⟨by have:=(h.lim b hb'.1).1;have:=hg.size;omega,(h.lim b hb'.1).2.1,fun j hj=>?_⟩;rcases (hlive j).1 hj with ej|hj
  ·rw[ej,hσk];exact hb'.2
  ·have hn:j≠k:=fun e=>hnl (e▸hj);rw[hσ j hn];exact (h.lim b hb'.1).2.2 j hj
 ·rw[hg.old b (by have:=h.size;omega) (fun hL=>(h.lim b hL).2.1.r.elim hR fun h'=>by omega)];exact h.old b hb hR
theorem Tr.new(h:Hp F p M w)(k:Nat)(hk:go M k=none)(v:Value)(r:Nat->Prop)(ob:Ob)(hg:ExtL w w' p.L)
  (hr:∀b,r b->w.heap.size<=b/\b<w'.heap.size\/p.L b)
  (ho:ju (Imm F p M w) (Imm F (p.upd k v r) ((k,ob)::M) w') w w'->Rel (Imm F (p.upd k v r) ((k,ob)::M) w') w' ob.o ob.x r [v]) :
  Tr F p M w [] (p.upd k v r) ((k,ob)::M) w':=Tr.newL h k hk v r (fun _=>False) ob hg (fun _ hb=>hb.elim) hr ho
theorem Tr.drop(h:Hp F p M w)(L':Nat->Prop)(hL:∀b,L' b->p.L b):Tr F p M w [] ⟨p.β,p.σ,L'⟩ M w:=by have hk:ju (Imm F p M w) (Imm F ⟨p.β,p.σ,L'⟩ M w) w w:=fun b hb=>⟨⟨hb.1,hb.2.1,fun h=>hb.2.2.1 (hL b h),hb.2.2.2⟩,rfl⟩;refine Tr.zero hk (fun _ _ _ r=>r) (fun _ _ _ r=>r) ⟨fun k ob hg=>Rel.keep hk _ _ _ _ (fun _ _=>rfl) (h.objs k ob hg),h.sep,h.own,fun b hb=>h.lim b (hL b hb),h.os,h.tape,h.output,h.size,h.old⟩
theorem Tr.grow(h:Hp F p M w)(hL:∀b,¬p.L b)(e:Ext w w')(L':Nat->Prop)(hn:∀b,L' b->w.heap.size<=b/\b<w'.heap.size):Tr F p M w [] ⟨p.β,p.σ,L'⟩ M w':=by
 have hk:ju (Imm F p M w) (Imm F ⟨p.β,p.σ,L'⟩ M w') w w':=fun b hb=>⟨⟨by have:=e.size;have:=hb.1;omega,hb.2.1,fun h=>by have:=(hn b h).1;have:=hb.1;omega,hb.2.2.2⟩,e.old b hb.1⟩
 refine Tr.zero hk (fun _ _ _ r=>r.same h rfl rfl (fun hl b hb=>e.old b (h.own _ b hl hb).1)) (fun _ _ _ r=>r.same h rfl rfl (fun hl b hb=>e.old b (h.own _ b hl hb).1))
  ⟨fun k ob hg=>Rel.keep hk _ _ _ _ (fun b hb=>e.old b (h.own k b (cq hg) hb).1) (h.objs k ob hg),h.sep,fun k b h1 h2=>?_,fun b hb=>?_,e.os.trans h.os,e.tape.trans h.tape,e.output.trans h.output,a0z h.size e.size,fun b hb hR=>?_⟩
 ·have:=h.own k b h1 h2;exact⟨by have:=e.size;omega,this.2⟩
 ·refine⟨(hn b hb).2,.inl (by have:=(hn b hb).1;have:=h.size;omega),fun k hk hs=>?_⟩;have:=(h.own k b hk hs).1;have:=(hn b hb).1;omega
 ·rw[e.old b (by have:=h.size;omega)];exact h.old b hb hR
theorem Tr.growL(h:Hp F p M w)(e:ExtL w w' p.L)(L':Nat->Prop)(hn:∀b,L' b->p.L b\/w.heap.size<=b/\b<w'.heap.size):Tr F p M w [] ⟨p.β,p.σ,L'⟩ M w':=by
 have hblk:∀j,c6 M j->∀b,p.σ j b->w'.heap[b]? = w.heap[b]?:=fun j hj b hb=>e.old b (h.own j b hj hb).1 (fun hL=>(h.lim b hL).2.2 j hj hb);have hk:ju (Imm F p M w) (Imm F ⟨p.β,p.σ,L'⟩ M w') w w':=fun b hb=>⟨⟨a1a hb.1 e.size,hb.2.1,fun h'=>(hn b h').elim hb.2.2.1 (fun h'=>by have:=hb.1;omega),hb.2.2.2⟩,e.old b hb.1 hb.2.2.1⟩;refine Tr.zero hk (fun j _ _ r=>r.same h rfl rfl (hblk j)) (fun j _ _ r=>r.same h rfl rfl (hblk j)) ⟨fun k ob hg=>Rel.keep hk _ _ _ _ (hblk k (cq hg)) (h.objs k ob hg),h.sep,fun k b h1 h2=>?_,fun b hb=>?_,e.os.trans h.os,e.tape.trans h.tape,e.output.trans h.output,a0z h.size e.size,fun b hb hR=>?_⟩
 ·have:=h.own k b h1 h2;exact⟨a1a this.1 e.size,this.2⟩
 ·rcases hn b hb with h1|h1
  ·exact⟨a1a (h.lim b h1).1 e.size,(h.lim b h1).2⟩
  ·exact⟨h1.2,.inl (a0z h.size h1.1),fun k hk hs=>by have:=(h.own k b hk hs).1;omega⟩
 ·rw[e.old b (a1a hb h.size) (fun hL=>(h.lim b hL).2.1.r.elim hR fun h'=>by omega)];exact h.old b hb hR
end
end Go.Bm
