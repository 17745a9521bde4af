/- The typed machine that the walks of this claim go by: its data, its operations and the proof that each is sound. No condition. -/
import Derived.WalkKit
set_option linter.unusedVariables false
set_option linter.unusedSimpArgs false
set_option linter.unusedSectionVars false
namespace Go.Bm
open Go.RowKit
theorem ak{p:Prop}(h:p:=by simp):p:=h
theorem bz{p:Prop}(h:p:=by decide):p:=h
theorem ae{p:Prop}(h:p:=by dsimp only;omega):p:=h
theorem aa{p:Prop}(h:p:=by omega):p:=h
theorem cO{p:Prop}(h:p:=by first|omega|(dsimp only;omega)):p:=h
abbrev bp:=@cond_false
abbrev nN:=@Bool.and_self
abbrev bM:=@Bool.and_true
abbrev ao:=@Bool.and_eq_true
abbrev cR:=@beq_iff_eq
abbrev aG:=@Option.some.injEq
abbrev jC:=@Nat.zero_add
abbrev bj:=@List.length_append
abbrev mL:=@List.getElem_of_mem
abbrev bX:=@List.getElem?_eq_getElem
abbrev cP:=@List.mem_singleton
abbrev dN:=@List.mem_append
abbrev g7:=@List.getElem?_take
abbrev g8:=@List.getElem?_drop
abbrev wi:=@Nat.add_assoc
abbrev lQ:=@cell_of_row
abbrev Cj:=@List.take_left
abbrev lR:=@List.ext_getElem?
abbrev fQ:=@List.getElem?_map
abbrev nO:=@List.getElem?_range
abbrev dX:=@Option.map_some
abbrev jj:=@List.getElem?_eq_none
abbrev kw:=@Nat.mul_le_mul_right
abbrev jk:=@Nat.add_mul
abbrev am:=@if_pos
abbrev eP:=@List.append_assoc
abbrev g9:=@List.getElem?_append_left
abbrev ai:=@if_neg
abbrev jD:=@List.getElem?_append_right
abbrev kx:=@List.take_append_drop
abbrev Gd:=@List.take_append_of_le_length
abbrev yF:=@List.drop_append_of_le_length
abbrev uh:=@List.take_of_length_le
abbrev Ck:=@List.drop_of_length_le
abbrev iz:=@List.length_drop
abbrev rQ:=@List.nil_append
abbrev Ge:=@Nat.add_sub_cancel_left
abbrev gN:=@List.getElem?_eq_some_iff
abbrev bS:=@Prod.mk.injEq
abbrev ld:=@Array.length_toList
abbrev Cl:=@List.drop_take
abbrev wj:=@List.drop_drop
abbrev ez:=@List.length_take
abbrev aZ:=@Nat.le_refl
abbrev lS:=@List.append_nil
abbrev bN:=@List.getD_eq_getElem?_getD
abbrev fx:=@List.length_set
abbrev dg:=@Ne.symm
abbrev wm:=@List.getElem?_set
abbrev eX:=@if_true
abbrev dh:=@Nat.eq_of_beq_eq_true
abbrev yG:=@Option.isSome_iff_exists
abbrev eu:=@Nat.le_trans
abbrev aJ:Type:=List Value
abbrev aT:Type:=Nat->Prop
abbrev aK:Type:=World
abbrev bm:Type:=Value
abbrev bW:=TypeId
abbrev d4:Type:=Program
abbrev gM:Type:=Nat->Value
abbrev lP:Type:=Array Value
variable {Im Im' S S1 S2:aT}{P:d4}{a:Act}{b i j k m n off sz:Nat}{c w w' w'':aK}{cur:lP}{e ety:bW}{row' us us' va vb vs xs:aJ}{u v:bm}{α:Type}{β β':gM}
def nb:Nat:=140737488355328
abbrev gT:Type:=IntKind
def inK(k:gT)(n:Int):Prop:=k.min<=n/\n<=k.max
def ap{α:Type}:List α->List α->List α
 |[],b=>b
 |x::a,b=>x::ap a b
theorem fB(a b:List α):ap a b=a++b:=by
 induction a with
 |nil=>rfl
 |cons x a ih=>rw[ap,ih];rfl
def len{α:Type}:List α->Nat
 |[]=>0
 |_::r=>Nat.succ (len r)
theorem AO(a:List α):len a=a.length:=by
 induction a with
 |nil=>rfl
 |cons x a ih=>rw[len,ih];rfl
def eQ{α:Type}:List α->Nat->Option α
 |[],_=>none
 |x::_,0=>some x
 |_::r,n+1=>eQ r n
theorem ti(a:List α)(i:Nat):eQ a i=a[i]?:=by
 induction a generalizing i with
 |nil=>rfl
 |cons x a ih=>cases i with
  |zero=>rfl
  |succ i=>rw[eQ,ih];rfl
def du{α:Type}:Nat->List α->List α
 |0,_|_+1,[]=>[]
 |n+1,x::r=>x::du n r
theorem DN(n:Nat)(a:List α):du n a=a.take n:=by
 induction n generalizing a with
 |zero=>rfl
 |succ n ih=>cases a with
  |nil=>rfl
  |cons x a=>rw[du,ih];rfl
def gu{α:Type}:Nat->List α->List α
 |0,a=>a
 |_+1,[]=>[]
 |n+1,_::r=>gu n r
theorem Jh(n:Nat)(a:List α):gu n a=a.drop n:=by
 induction n generalizing a with
 |zero=>rfl
 |succ n ih=>cases a with
  |nil=>rfl
  |cons x a=>rw[gu,ih];rfl
def iR{α:Type}(x:α):Nat->List α
 |0=>[]
 |n+1=>x::iR x n
def ua{α:Type}:List α->Nat->α->List α
 |[],_,_=>[]
 |_::r,0,y=>y::r
 |x::r,n+1,y=>x::ua r n y
def BL{α:Type}(p:α->Bool):List α->Bool
 |[]=>true
 |x::r=>bif p x then BL p r else false
def toL:Array α->List α
 |⟨l⟩=>l
def qa:Nat->Nat->Nat
 |0,b=>b
 |a+1,b=>Nat.succ (qa a b)
@[simp] theorem DP (a b:Nat):qa a b=a+b:=by
 induction a with
 |zero=>simp[qa]
 |succ a ih=>rw[qa,ih];omega
def isZ:Nat->Bool
 |0=>true
 |_+1=>false
def TW:Nat->Nat
 |0=>0
 |n+1=>n
def cy:Nat->Nat->Bool
 |0,b=>isZ b
 |a+1,b=>bif isZ b then false else cy a (TW b)
@[simp] theorem eZ (a b:Nat):cy a b=(a==b):=by
 induction a generalizing b with
 |zero=>cases b<;>rfl
 |succ a ih=>cases b with
  |zero=>rfl
  |succ b=>simp only[cy,isZ,TW,bp];rw[ih];simp
abbrev bC:Type:=Bool
def nob(a b:bC):Bool:=bif a then b else false
def neg(a:bC):Bool:=bif a then false else true
def orb(a b:bC):Bool:=bif a then true else b
def gm{β:Type}(f:α->β):Option α->Option β
 |none=>none
 |some x=>some (f x)
def isN:Option α->Bool
 |none=>true
 |some _=>false
@[simp] theorem aU (a b:bC):nob a b=(a&&b):=by cases a<;>rfl
@[simp] theorem gD (a b:bC):orb a b=(a||b):=by cases a<;>rfl
@[simp] theorem gr (a:bC):neg a=!a:=by cases a<;>rfl
abbrev gp:Type:=FuncId
inductive T where
 |int (k:gT)
 |bool
 |str
 |u
 |p (a b:T)
 |sl (e:T)
 |pt (t:T)
 |fn (f:gp) (t:T)
 |ifc (i:bW) (t:T)
 |ib (i:bW) (t:T)
 |mp (k v:T)
 |op (t:T)
 |ns (t:T)
 |er (i:bW)
 |any
variable {t:T}
@[reducible] def T.den:T->Type
 |.int _=>Int
 |.bool=>Bool
 |.str=>ByteArray
 |.u=>Unit
 |.p a b=>a.den×b.den
 |.sl e=>List e.den
 |.pt t|.fn _ t|.ifc _ t|.ib _ t=>t.den
 |.mp k v=>List (k.den×v.den)
 |.op t|.ns t=>Option t.den
 |.er _=>Bool
 |.any=>Unit
def T.dflt:(t:T)->t.den
 |.int _=>(0:Int)
 |.bool=>false
 |.str=>ByteArray.empty
 |.u=>()
 |.p a b=>(a.dflt,b.dflt)
 |.sl _=>[]
 |.pt t|.fn _ t|.ifc _ t|.ib _ t=>t.dflt
 |.mp _ _=>[]
 |.op _|.ns _=>none
 |.er _=>false
 |.any=>()
def T.size:T->Nat
 |.u=>0
 |.p a b=>qa a.size b.size
 |.op t=>t.size
 |_=>1
def j9:IntKind->IntKind->Bool
 |.i8,.i8|.i16,.i16|.i32,.i32|.i64,.i64|.u8,.u8|.u16,.u16|.u32,.u32|.u64,.u64=>true
 |_,_=>false
theorem oi{a b:gT}(h:j9 a b=true):a=b:=by cases a<;>cases b<;>first|rfl|(simp[j9]at h)
theorem IY(a:gT):j9 a a=true:=by cases a<;>rfl
def T.beq:T->T->Bool
 |.int k,.int k'=>j9 k k'
 |.bool,.bool|.str,.str|.u,.u=>true
 |.p a b,.p a' b'=>nob (a.beq a') (b.beq b')
 |.sl e,.sl e'|.pt e,.pt e'=>e.beq e'
 |.fn f t,.fn f' t'|.ifc f t,.ifc f' t'|.ib f t,.ib f' t'=>nob (Nat.beq f f') (t.beq t')
 |.mp k v,.mp k' v'=>nob (k.beq k') (v.beq v')
 |.op e,.op e'|.ns e,.ns e'=>e.beq e'
 |.er i,.er j=>Nat.beq i j
 |.any,.any=>true
 |_,_=>false
theorem T.beq_eq:{a b:T}->a.beq b=true->a=b
 |.int k,b,h=>by cases b<;>simp[T.beq]at h;rw[oi h]
 |.bool,b,h|.str,b,h|.u,b,h=>by cases b<;>simp[T.beq]at h;rfl
 |.p a1 a2,b,h=>by cases b<;>simp[T.beq]at h;rw[T.beq_eq h.1,T.beq_eq h.2]
 |.sl e,b,h|.pt e,b,h=>by cases b<;>simp[T.beq]at h;rw[T.beq_eq h]
 |.fn f t,b,h|.ifc f t,b,h|.ib f t,b,h=>by cases b<;>simp[T.beq]at h;rw[h.1,T.beq_eq h.2]
 |.mp k v,b,h=>by cases b<;>simp[T.beq]at h;rw[T.beq_eq h.1,T.beq_eq h.2]
 |.op e,b,h|.ns e,b,h=>by cases b<;>simp[T.beq]at h;rw[T.beq_eq h]
 |.er i,b,h=>by cases b<;>simp[T.beq]at h;rw[h]
 |.any,b,h=>by cases b<;>simp[T.beq]at h;rfl
def gF{a:T}(b:T)(x:a.den):Option b.den:=
 match h:a.beq b with
 |true=>some (T.beq_eq h▸x)
 |false=>none
theorem T.beq_refl:(a:T)->a.beq a=true
 |.int k=>IY k
 |.bool|.str|.u=>rfl
 |.p a b=>by simp only[T.beq,T.beq_refl a,T.beq_refl b,aU,nN]
 |.sl e|.pt e=>by simp only[T.beq];exact T.beq_refl e
 |.fn f t|.ifc f t|.ib f t=>by simp only[T.beq,T.beq_refl t,aU,bM];exact Nat.beq_refl f
 |.mp k v=>by simp only[T.beq,T.beq_refl k,T.beq_refl v,aU,nN]
 |.op e|.ns e=>by simp only[T.beq,T.beq_refl e]
 |.er i=>by simp only[T.beq];exact Nat.beq_refl i
 |.any=>rfl
theorem uR{a:T}(x:a.den):gF a x=some x:=by
 unfold gF;split
 ·rfl
 ·rename_i h;rw[T.beq_refl a]at h;cases h
def T.dec:(t:T)->DecidableEq t.den
 |.int _=>λa b=>decEq (α:=Int) a b
 |.bool=>λa b=>decEq (α:=Bool) a b
 |.str=>λa b=>decEq (α:=ByteArray) a b
 |.u=>λ_ _=>isTrue rfl
 |.p a b=>@instDecidableEqProd a.den b.den a.dec b.dec
 |.sl e=>@instDecidableEqList e.den e.dec
 |.pt t|.fn _ t|.ifc _ t|.ib _ t=>t.dec
 |.mp k v=>@instDecidableEqList (k.den×v.den) (@instDecidableEqProd k.den v.den k.dec v.dec)
 |.op t|.ns t=>@Option.instDecidableEq t.den t.dec
 |.er _=>λa b=>decEq (α:=Bool) a b
 |.any=>λ_ _=>isTrue rfl
def eqR(t:T)(a b:t.den):Bool:=@decide (a=b) (t.dec a b)
theorem gi{a b:t.den}:eqR t a b=true<->a=b:=by simp[eqR]
@[simp] theorem Qm {t:T} (a:t.den):eqR t a a=true:=gi.2 rfl
theorem xW{a b:t.den}(h:a≠b):eqR t a b=false:=by
 cases h':eqR t a b with
 |false=>rfl
 |true=>exact absurd (gi.1 h') h
def jV(k v:T)(l:List (k.den×v.den))(x:k.den):Option v.den:=(l.find? λe=>eqR k x e.1).map (·.2)
def tL(k v:T)(l:List (k.den×v.den))(x:k.den):Bool:=(jV k v l x).isSome
def jw(k v:T)(l:List (k.den×v.den))(x:k.den):v.den:=(jV k v l x).getD v.dflt
def eI(k v:T):List (k.den×v.den)->k.den->v.den->List (k.den×v.den)
 |[],x,y=>[(x,y)]
 |e::r,x,y=>if eqR k x e.1=true then (x,y)::r else e::eI k v r x y
def T.intsN:T->Nat
 |.int _=>1
 |.p (.int _) b=>(match b.intsN with|0=>0|n+1=>Nat.succ (Nat.succ n))
 |_=>0
def T.ok:(t:T)->t.den->Prop
 |.int k,n=>inK k n
 |.str,s=>s.size<=nb
 |.p a b,x=>a.ok x.1/\b.ok x.2
 |.sl e,l=>l.length<=nb/\∀y∈l,e.ok y
 |.pt t,x|.fn _ t,x|.ifc _ t,x|.ib _ t,x=>t.ok x
 |.mp k v,l=>l.length<=nb/\∀y∈l,k.ok y.1/\v.ok y.2
 |.op t,x|.ns t,x=>∀y,x=some y->t.ok y
 |.er _,_|.bool,_|.u,_|.any,_=>True
inductive O where
 |fz (t:T)
 |p (a b:O)
 |sl (e:O)
 |pt (t:O)
 |mp (k v:T)
 |op (e:O)
abbrev gS:Type:=List (Bool×O)
variable {o:O}{rt:gS}
@[reducible] def O.strip:O->T
 |.fz t=>t
 |.p a b=>.p a.strip b.strip
 |.sl e=>.sl e.strip
 |.pt t=>.pt t.strip
 |.mp k v=>.mp k v
 |.op e=>.op e.strip
def O.beq:O->O->Bool
 |.fz t,.fz t'=>t.beq t'
 |.p a b,.p a' b'=>nob (a.beq a') (b.beq b')
 |.sl e,.sl e'|.pt e,.pt e'=>e.beq e'
 |.mp k v,.mp k' v'=>nob (k.beq k') (v.beq v')
 |.op e,.op e'=>e.beq e'
 |_,_=>false
theorem O.beq_eq:{a b:O}->a.beq b=true->a=b
 |.fz t,b,h=>by cases b<;>simp[O.beq]at h;rw[T.beq_eq h]
 |.p a1 a2,b,h=>by cases b<;>simp[O.beq]at h;rw[O.beq_eq h.1,O.beq_eq h.2]
 |.sl e,b,h|.pt e,b,h=>by cases b<;>simp[O.beq]at h;rw[O.beq_eq h]
 |.mp k v,b,h=>by cases b<;>simp[O.beq]at h;rw[T.beq_eq h.1,T.beq_eq h.2]
 |.op e,b,h=>by cases b<;>simp[O.beq]at h;rw[O.beq_eq h]
theorem O.beq_refl:(o:O)->o.beq o=true
 |.fz t=>by simp only[O.beq];exact T.beq_refl t
 |.p a b=>by simp only[O.beq,O.beq_refl a,O.beq_refl b,aU,nN]
 |.sl e|.pt e=>by simp only[O.beq];exact O.beq_refl e
 |.mp k v=>by simp only[O.beq,T.beq_refl k,T.beq_refl v,aU,nN]
 |.op e=>by simp only[O.beq];exact O.beq_refl e
def O.wk:O->O->Bool
 |.p a b,.p a' b'=>nob (a.wk a') (b.wk b')
 |.sl e,.sl e'|.pt e,.pt e'=>e.wk e'
 |.mp k v,.mp k' v'=>nob (k.beq k') (v.beq v')
 |.op e,.op e'=>e.beq e'
 |o,.fz t=>o.strip.beq t
 |.fz (.p a b),.p a' b'=>nob (O.wk (.fz a) a') (O.wk (.fz b) b')
 |_,_=>false
structure Ob where
 o:O
 x:o.strip.den
variable {ob q:Ob}
def ja(q:Ob)(o:O):Option o.strip.den:=
 match h:q.o.beq o with
 |true=>some (O.beq_eq h▸q.x)
 |false=>none
def mkP(a b:Ob):Ob:=
 match a,b with
 |⟨.fz s,x⟩,⟨.fz t,y⟩=>⟨.fz (.p s t),(x,y)⟩
 |⟨o,x⟩,⟨o',y⟩=>⟨.p o o',(x,y)⟩
def T.deep:T->O
 |.p a b=>(match a.deep,b.deep with
  |.fz s,.fz t=>.fz (.p s t)
  |o,o'=>.p o o')
 |.sl e=>.sl e.deep
 |.mp k v=>.mp k v
 |t=>.fz t
theorem T.deep_strip:(t:T)->t.deep.strip=t
 |.p a b=>by
  have h1:=T.deep_strip a;have h2:=T.deep_strip b;simp only[T.deep];split
  ·rename_i h h';rw[h]at h1;rw[h']at h2;simp only[O.strip]at h1 h2⊢;rw[h1,h2]
  ·simp only[O.strip,h1,h2]
 |.sl e=>by simp only[T.deep,O.strip,T.deep_strip e]
 |.int _|.bool|.str|.u|.pt _|.fn _ _|.ifc _ _|.ib _ _|.mp _ _|.op _|.ns _|.er _|.any=>rfl
def O.dflt:(o:O)->o.strip.den
 |.fz t=>t.dflt
 |.p a b=>(a.dflt,b.dflt)
 |.sl _=>[]
 |.pt t=>t.dflt
 |.mp _ _=>[]
 |.op _=>none
inductive Step where
 |l
 |r
 |de
 |ix (i:Nat)
abbrev bA:=List Step
variable {π:bA}
def get:bA->(o:O)->o.strip.den->Option Ob
 |[],o,x=>some ⟨o,x⟩
 |.l::π,.p a _,x=>get π a x.1
 |.r::π,.p _ b,x=>get π b x.2
 |.l::π,.fz (.p a _),x=>get π (.fz a) x.1
 |.r::π,.fz (.p _ b),x=>get π (.fz b) x.2
 |.ix i::π,.sl e,x=>get π e (x.getD i e.dflt)
 |.de::π,.pt t,x=>get π t x
 |_,_,_=>none
def set:bA->(o:O)->o.strip.den->Ob->Option Ob
 |[],_,_,n=>some n
 |.l::π,.p a b,x,n=>(match set π a x.1 n with|some q=>some (mkP q ⟨b,x.2⟩)|none=>none)
 |.r::π,.p a b,x,n=>(match set π b x.2 n with|some q=>some (mkP ⟨a,x.1⟩ q)|none=>none)
 |.l::π,.fz (.p a b),x,n=>(match set π (.fz a) x.1 n with|some q=>some (mkP q ⟨.fz b,x.2⟩)|none=>none)
 |.r::π,.fz (.p a b),x,n=>(match set π (.fz b) x.2 n with|some q=>some (mkP ⟨.fz a,x.1⟩ q)|none=>none)
 |.ix i::π,.sl e,x,n=>(match set π e (x.getD i e.dflt) n with
  |some q=>(match ja q e with|some y=>some ⟨.sl e,x.set i y⟩|none=>none)
  |none=>none)
 |.de::π,.pt t,x,n=>(match set π t x n with|some q=>some ⟨.pt q.o,q.x⟩|none=>none)
 |_,_,_,_=>none
def r9:bA->Bool
 |[]=>false
 |.ix _::_=>true
 |_::π=>r9 π
inductive V where
 |any
 |nl
 |np
 |u
 |d (t:T) (x:t.den)
 |ref (k:Nat) (π:bA)
 |ad (k:Nat) (π:bA)
 |p (a b:V)
 |ag (v:V)
 |tup (v:V)
 |gd (j:Nat) (w:bC) (P:Prop) (v:V)
 |fn (f:gp) (v:V)
 |ifc (t:bW) (v:V)
 |bx (v:V)
variable {x:V}
abbrev Env:=List (Nat×V)
variable {env env':Env}
abbrev Mem:=List (Nat×Ob)
variable {M M' M'':Mem}
def gt:Env->Nat->V
 |[],_=>.any
 |(k,v)::r,t=>bif Nat.beq k t then v else gt r t
def go:Mem->Nat->Option Ob
 |[],_=>none
 |(k,v)::r,t=>bif Nat.beq k t then some v else go r t
def del(k:Nat):Mem->Mem
 |[]=>[]
 |(j,o)::r=>bif Nat.beq j k then del k r else (j,o)::del k r
def put(k:Nat)(o:Ob):Mem->Mem
 |[]=>[]
 |(j,x)::r=>bif Nat.beq j k then (k,o)::r else (j,x)::put k o r
def fq(M:Mem)(k:Nat)(π:bA):Option Ob:=
 match go M k with
 |some ob=>get π ob.o ob.x
 |none=>none
def fm:(t:T)->t.den->V
 |.p a b,x=>.p (fm a x.1) (fm b x.2)
 |.u,_=>.u
 |t,x=>.d t x
def toV(k:Nat):bA->(o:O)->o.strip.den->V
 |_,.fz t,x=>fm t x
 |π,.pt _,_=>.ad k (ap π [.de])
 |π,_,_=>.ref k π
def peq:bA->bA->Bool
 |[],[]=>true
 |.l::a,.l::b|.r::a,.r::b|.de::a,.de::b=>peq a b
 |_,_=>false
def fh:bA->O->Option Nat
 |[],_=>some 0
 |.l::π,.p a _=>fh π a
 |.r::π,.p a b=>(match fh π b with|some n=>some (qa a.strip.size n)|none=>none)
 |.l::π,.fz (.p a _)=>fh π (.fz a)
 |.r::π,.fz (.p a b)=>(match fh π (.fz b)with|some n=>some (qa a.size n)|none=>none)
 |_,_=>none
def gH:bA->O->Option Nat
 |.de::π,.pt o=>fh π o
 |_,_=>none
def oy:Option Nat->Option Nat->Bool
 |some a,some b=>cy a b
 |_,_=>false
def kT:bA->Bool
 |[]=>true
 |_=>false
def O.hole:O->T
 |.fz t=>t
 |.p a b=>.p a.hole b.hole
 |.sl _|.pt _|.mp _ _=>.any
 |.op e=>.op e.strip
def O.holeX:(o:O)->o.strip.den->o.hole.den
 |.fz _,x=>x
 |.p a b,x=>(a.holeX x.1,b.holeX x.2)
 |.sl _,_|.pt _,_|.mp _ _,_=>()
 |.op _,_=>none
def trk:bA->O->Option (List Nat)
 |[],_=>some []
 |.l::π,.p a _=>(match trk π a with|some l=>some (0::a.strip.size::l)|none=>none)
 |.r::π,.p a b=>(match trk π b with|some l=>some (1::a.strip.size::l)|none=>none)
 |.de::π,.pt t=>(match trk π t with|some l=>some (2::t.strip.size::l)|none=>none)
 |_,_=>none
def Fj:List Nat->List Nat->Bool
 |[],[]=>true
 |a::l,b::r=>nob (cy a b) (Fj l r)
 |_,_=>false
abbrev bK:Type:=List Nat
theorem PI:∀{a b:bK},Fj a b=true->a=b
 |[],[],_=>rfl
 |a::l,b::r,h=>by simp only[Fj,aU,ao,eZ,cR]at h;rw[h.1,PI h.2]
 |[],_::_,h|_::_,[],h=>by cases h
def ET:Option (List Nat)->Option (List Nat)->Bool
 |some a,some b=>Fj a b
 |_,_=>false
inductive Ev where
 |mv (r k:Nat)
 |kl (k:Nat)
 |cut (k:Nat) (o o':O)
 |fz (k:Nat) (ob:Ob)
 |un (k j:Nat)
 |tk (k:Nat) (o o':O)
 |kn (k:Nat) (v:V)
def Ev.ref(k:Nat)(π:bA):Ev->V
 |.mv r k'=>bif Nat.beq k r then .ref k' π else .ref k π
 |.kl r=>bif Nat.beq k r then .any else .ref k π
 |.cut r _ _=>bif Nat.beq k r then (bif kT π then .ref k π else .any)else .ref k π
 |.fz r ob=>bif Nat.beq k r then (match get π ob.o ob.x with|some q=>fm q.o.strip q.x|none=>.any)else .ref k π
 |.un r _|.kn r _=>bif Nat.beq k r then .any else .ref k π
 |.tk r o o'=>bif Nat.beq k r then (bif orb (kT π) (ET (trk π o) (trk π o'))then .ref k π else .any)else .ref k π
def Ev.ad(k:Nat)(π:bA):Ev->V
 |.mv r k'=>bif Nat.beq k r then .ad k' π else .ad k π
 |.kl r=>bif Nat.beq k r then .any else .ad k π
 |.cut r o o'=>bif Nat.beq k r then (bif oy (gH π o) (gH π o')then .ad k π else .any)else .ad k π
 |.fz r ob=>bif Nat.beq k r then (match get π ob.o ob.x with|some q=>.d (.pt q.o.strip) q.x|none=>.any)else .ad k π
 |.un r j=>bif Nat.beq k r then (match π with|[.de]=>.bx (.ad j [.de])|_=>.any)else .ad k π
 |.kn r v=>bif Nat.beq k r then (match π with|[.de]=>.bx v|_=>.any)else .ad k π
 |.tk r o o'=>bif Nat.beq k r then (bif oy (gH π o) (gH π o')then .ad k π else .any)else .ad k π
def V.ev(e:Ev):V->V
 |.ref k π=>e.ref k π
 |.ad k π=>e.ad k π
 |.p a b=>.p (a.ev e) (b.ev e)
 |.ag v=>.ag (v.ev e)
 |.tup v=>.tup (v.ev e)
 |.gd j w P v=>.gd j w P (v.ev e)
 |.fn f v=>.fn f (v.ev e)
 |.ifc t v=>.ifc t (v.ev e)
 |.bx v=>.bx (v.ev e)
 |v=>v
def V.evs(v:V):List Ev->V
 |[]=>v
 |e::r=>(v.ev e).evs r
def evE(e:Ev):Env->Env
 |[]=>[]
 |(t,v)::r=>(t,v.ev e)::evE e r
def fL(env:Env):List Ev->Env
 |[]=>env
 |e::r=>fL (evE e env) r
structure Ty where
 ok:Bool
 agg:Bool
 bl:Bool
 st:Bool
 sz:Bool
 size:Nat
 bytes:Nat
 el:Option TypeId
 int:Option IntKind
 mp:Option (TypeId×TypeId)
 fld:List (Nat×TypeId×Nat)
 arr:Option (TypeId×Nat)
 ifc:Bool
def eL(P:d4)(i:TypeInfo)(u:TypeDesc):Ty:={
 ok:=true
 agg:=(match u with|.struct _=>true|.array _ _=>true|_=>false)
 bl:=(match u with|.bool=>true|_=>false)
 st:=(match u with|.string=>true|_=>false)
 sz:=(match u with|.struct fs=>fs.toList.all λf=>(P.info? f.type).isSome|_=>false)
 size:=i.size
 bytes:=i.bytes
 el:=(match u with|.slice e=>some e|_=>none)
 int:=(match u with|.int k=>some k|_=>none)
 mp:=(match u with|.map k e=>(match P.info? e with|some ie=>(match ie.zero with|some (.agg _)=>none|some _=>some (k,e)|none=>none)|none=>none)|_=>none)
 fld:=(match u with|.struct fs=>fs.toList.map λf=>(f.offset,f.type,P.cellsOf f.type)|_=>[])
 arr:=(match u with|.array n e=>some (e,n)|_=>none)
 ifc:=(match u with|.interface _=>true|_=>false) }
def Fx:Ty:=⟨false,false,false,false,false,0,0,none,none,none,[],none,false⟩
def ty(P:d4)(t:bW):Ty:=
 match P.info? t,P.underlying t with
 |some i,some u=>eL P i u
 |_,_=>Fx
def tyZ(P:d4)(t:bW):Option (List Value):=
 match P.info? t with
 |some i=>(match i.zero with|some z=>some z.cells.toList|none=>none)
 |none=>none
structure Mth where
 t:TypeId
 i:TypeId
 name:String
 f:FuncId
structure Tab where
 τ:TypeId->Ty
 σ:TypeId->T
 z:TypeId->Bool
 q:TypeId->Nat
 m:List Mth
 tk:Bool
def BP:List Mth->TypeId->TypeId->Bool
 |[],_,_=>false
 |e::r,t,i=>orb (nob (Nat.beq e.t t) (Nat.beq e.i i)) (BP r t i)
def B7:List Mth->TypeId->String->Option FuncId
 |[],_,_=>none
 |e::r,t,n=>bif nob (Nat.beq e.t t) (e.name==n)then some e.f else B7 r t n
def rx:Nat->Nat->bA
 |0,_|1,_=>[]
 |_+2,0=>[.l]
 |n+2,i+1=>.r::rx (Nat.succ n) i
def ii:bA->T->Option Nat
 |[],_=>some 0
 |.l::π,.p a _=>ii π a
 |.r::π,.p a b=>(match ii π b with|some n=>some (qa a.size n)|none=>none)
 |_,_=>none
def vL:bA->(t:T)->t.den->Option ((t:T)×t.den)
 |[],t,x=>some ⟨t,x⟩
 |.l::π,.p a _,x=>vL π a x.1
 |.r::π,.p _ b,x=>vL π b x.2
 |_,_,_=>none
structure Rs where
 vc:List Prop
 av:V
 ev:List Ev
 M:Mem
def bi(M:Mem):Rs:=⟨[False],.any,[],M⟩
abbrev Cb:Type:=List Prop×V
def ck(q:Cb)(M:Mem):Rs:=⟨q.1,q.2,[],M⟩
def bad:List Prop×V:=([False],.any)
def bw(v:V):List Prop×V:=([],v)
def aP:List Bool->Bool
 |[]=>true
 |b::r=>bif b then aP r else false
def inKb(k:gT)(n:Int):Bool:=aP [decide (k.min<=n),decide (n<=k.max)]
def rdV:Value->V
 |.int k n=>.d (.int k) n
 |.bool b=>.d .bool b
 |.string s=>.d .str s
 |.slice none n m=>bif nob (Nat.beq n 0) (Nat.beq m 0)then .nl else .any
 |.pointer none=>.np
 |.nilIface=>.d (.er 0) false
 |_=>.any
def rd(env:Env):Operand->V
 |.tmp t=>gt env t
 |.const v=>rdV v
 |.func f=>.fn f .u
 |.global _=>.any
def Lr:Value->Bool
 |.int k n=>inKb k n
 |.string s=>Nat.ble s.size nb
 |_=>true
def mw:Operand->Bool
 |.const v=>Lr v
 |_=>true
def V.boolV:V->Bool
 |.d .bool b=>b
 |_=>false
def V.isB:V->Bool
 |.d .bool _=>true
 |_=>false
def V.strip:V->V
 |.gd _ _ _ v|v=>v
def ar(k:gT)(n:Int):List Prop×V:=
 match k with
 |.i64=>([inK .i64 n],.d (.int .i64) n)
 |k=>([],.d (.int k) (k.wrap n))
def tW(k:gT)(a b:Int):Int:=k.wrap ((BitVec.ofInt k.bits a &&& BitVec.ofInt k.bits b).toNat:Nat)
def pW(k:gT)(a b:Int):Int:=a.fdiv (2 ^ (min b.toNat k.bits))
abbrev lO:Type:=BinOp
def mo(op:lO)(k:gT)(a b:Int):List Prop×V:=
 match op with
 |.and=>bw (.d (.int k) (tW k a b))
 |.shr=>([0<=b,inK k (pW k a b)],.d (.int k) (pW k a b))
 |.add=>ar k (a+b)
 |.sub=>ar k (a-b)
 |.mul=>ar k (a*b)
 |.quo=>(match ar k (a.tdiv b)with|(l,v)=>((b≠0)::l,v))
 |.rem=>([b≠0,inK k (a.tmod b)],.d (.int k) (a.tmod b))
 |.eql=>bw (.d .bool (a==b))
 |.neq=>bw (.d .bool (a != b))
 |.lss=>bw (.d .bool (decide (a<b)))
 |.leq=>bw (.d .bool (decide (a<=b)))
 |.gtr=>bw (.d .bool (decide (b<a)))
 |.geq=>bw (.d .bool (decide (b<=a)))
 |_=>bad
def mxR(a b:Int):Int:=if b>a then b else a
def mnR(a b:Int):Int:=if b<a then b else a
def BG(g:bC)(x y:V):List Prop×V:=
 match x,y with
 |.d (.int k) a,.d (.int k') b=>bif j9 k k' then bw (.d (.int k) (bif g then mxR a b else mnR a b))else bad
 |_,_=>bad
def pQ(op:lO)(a b:ByteArray):List Prop×V:=
 match op with
 |.add=>([a.size+b.size<=nb],.d .str (a++b))
 |.eql=>bw (.d .bool (a.toList==b.toList))
 |.neq=>bw (.d .bool (!(a.toList==b.toList)))
 |.lss=>bw (.d .bool (Op.bytesLess a.toList b.toList))
 |.leq=>bw (.d .bool (Op.bytesLess a.toList b.toList||a.toList==b.toList))
 |.gtr=>bw (.d .bool (!(Op.bytesLess a.toList b.toList||a.toList==b.toList)))
 |.geq=>bw (.d .bool (!(Op.bytesLess a.toList b.toList)))
 |_=>bad
def Fa(τ:Ty)(op:lO)(x y:V):List Prop×V:=
 match x,y with
 |.d (.int k) a,.d (.int k') b=>bif j9 k k' then mo op k a b else bad
 |.d .bool a,.d .bool b=>bif aP [τ.ok,τ.bl]then (match op with
  |.eql=>bw (.d .bool (a==b))
  |.neq=>bw (.d .bool (a != b))
  |_=>bad)else bad
 |.d .str a,.d .str b=>pQ op a b
 |_,_=>bad
def nk:Nat->V->V->Option Bool
 |1,.d (.int k) x,.d (.int k') y=>bif j9 k k' then some (x==y)else none
 |Nat.succ (Nat.succ n),.p (.d (.int k) x) a,.p (.d (.int k') y) b=>(match nk (Nat.succ n) a b with
  |some r=>bif j9 k k' then some ((x==y)&&r)else none
  |none=>none)
 |_,_,_=>none
def U0(n:Nat)(op:lO)(a b:V):List Prop×V:=
 match op,nk n a b with
 |.eql,some r=>bw (.d .bool r)
 |.neq,some r=>bw (.d .bool (!r))
 |_,_=>bad
def EI(B:Tab)(t:bW)(op:lO)(x y:V):List Prop×V:=
 match x,y with
 |.ag a,.ag b=>U0 (B.q t) op a b
 |x,y=>Fa (B.τ t) op x y
def SY:Operand->Bool
 |.const .nilIface=>true
 |_=>false
def KI:Operand->Bool
 |.const (.slice none n m)=>nob (Nat.beq n 0) (Nat.beq m 0)
 |_=>false
def vF:Option (List α)->Bool
 |none=>true
 |some l=>!l.isEmpty
def EO(B:Tab)(t:bW)(op:lO)(z zi:bC)(x y:V):List Prop×V:=
 match z,x,op with
 |true,.d (.ns (.sl _)) l,.eql=>bif aP [(B.τ t).ok,neg (isN (B.τ t).el)]then ([vF l=true],.d .bool l.isNone)else bad
 |true,.d (.ns (.sl _)) l,.neq=>bif aP [(B.τ t).ok,neg (isN (B.τ t).el)]then ([vF l=true],.d .bool l.isSome)else bad
 |_,.d (.er _) b,.eql=>bif aP [zi,(B.τ t).ok,(B.τ t).ifc]then bw (.d .bool (!b))else bad
 |_,.d (.er _) b,.neq=>bif aP [zi,(B.τ t).ok,(B.τ t).ifc]then bw (.d .bool b)else bad
 |_,_,_=>EI B t op x y
def FE(op:UnOp)(x:V):List Prop×V:=
 match op,x with
 |.not,.d .bool b=>bw (.d .bool (!b))
 |.neg,.d (.int k) n=>ar k (0-n)
 |_,_=>bad
def EJ(τ σ:Ty)(x:V):List Prop×V:=
 match x,τ.int,σ.int with
 |.d (.int k) n,some k1,some k'=>bif aP [τ.ok,σ.ok,j9 k1 k]then (bif j9 k k' then bw (.d (.int k) n)else bw (.d (.int k') (k'.wrap n)))else bad
 |_,_,_=>bad
abbrev aw:Type:=List Int
def nh(l:aw):ByteArray:=⟨(l.map λn=>UInt8.ofNat n.toNat).toArray⟩
def yz(M:Mem):V->Option (List Int)
 |.ref k π=>(match fq M k π with|some ⟨.sl (.fz (.int .u8)),l⟩=>some l|_=>none)
 |_=>none
def LB:Option IntKind->Bool
 |some .u8=>true
 |_=>false
def vl(B:Tab)(s d:bW)(M:Mem)(x:V):List Prop×V:=
 match (B.τ s).el,yz M x with
 |some e,some l=>bif aP [(B.τ s).ok,(B.τ d).ok,(B.τ d).st,(B.τ e).ok,LB (B.τ e).int]then bw (.d .str (nh l))else bad
 |_,_=>EJ (B.τ s) (B.τ d) x
def nth:V->Nat->Option V
 |.p a _,0=>some a
 |.p _ b,i+1=>nth b i
 |_,_=>none
def yj(x:V)(i:Nat):List Prop×V:=
 match x with
 |.tup v=>(match nth v i with|some y=>bw y|none=>bad)
 |_=>bad
def Fc(x:V):List Prop×V:=
 match x with
 |.d (.pt t) y=>bw (.d (.pt t) y)
 |.ad k π=>bw (.ad k π)
 |.bx v=>bw (.bx v)
 |_=>bad
def L7:Option Nat->Option Nat->Option Nat
 |some a,some b=>some (qa a b)
 |_,_=>none
def V.size(M:Mem):V->Option Nat
 |.p a b=>L7 (a.size M) (b.size M)
 |.u=>some 0
 |.ref k π=>(match fq M k π with|some q=>some q.o.strip.size|none=>none)
 |.d t _=>some t.size
 |.ad _ _|.nl|.np|.fn _ _|.ifc _ _|.bx _=>some 1
 |_=>none
def fX(M:Mem)(v:V)(n:Nat):Bool:=match v.size M with|some m=>cy m n|none=>false
def gj(M:Mem):bA->V->Option (Nat×V)
 |[],v=>some (0,v)
 |.l::π,.p a _=>gj M π a
 |.r::π,.p a b=>(match a.size M,gj M π b with|some m,some (n,v)=>some (qa m n,v)|_,_=>none)
 |π,.ref k ρ=>(match fq M k ρ,fq M k (ap ρ π)with
  |some q,some q'=>(match ii π q.o.strip with|some n=>some (n,toV k (ap ρ π) q'.o q'.x)|none=>none)
  |_,_=>none)
 |_,_=>none
def rG(M:Mem)(x:V)(π:bA)(off:Nat):List Prop×V:=
 match x with
 |.d (.pt t) y=>(match ii π t,vL π t y with
  |some n,some q=>bif cy n off then bw (.d (.pt q.1) q.2)else bad
  |_,_=>bad)
 |.ad k ρ=>(match fq M k ρ with
  |some q=>(match ii π q.o.strip with
   |some n=>bif cy n off then bw (.ad k (ap ρ π))else bad
   |none=>bad)
  |none=>bad)
 |.bx v=>(match gj M π v with
  |some q=>bif cy q.1 off then bw (.bx q.2)else bad
  |none=>bad)
 |_=>bad
def vn(τ:Ty)(M:Mem)(x:V)(i:Nat):List Prop×V:=
 match eQ τ.fld i with
 |some (off,_,fsz)=>bif aP [τ.ok,neg (Nat.beq fsz 0)]then rG M x (rx (len τ.fld) i) off else bad
 |none=>bad
def lF(agg:bC)(v:V):V:=bif agg then .ag v else v
def vu(B:Tab)(τ:Ty)(M:Mem)(x:V)(i:Nat):List Prop×V:=
 match eQ τ.fld i,x with
 |some (off,ft,_),.ag v=>
  (match gj M (rx (len τ.fld) i) v with
  |some (n,w)=>bif aP [τ.ok,(B.τ ft).ok,cy n off,fX M w (B.τ ft).size,orb (B.τ ft).agg (cy (B.τ ft).size 1)]then bw (lF (B.τ ft).agg w)else bad
  |none=>bad)
 |_,_=>bad
def vv(B:Tab)(τ:Ty)(M:Mem)(x i:V):List Prop×V:=
 match τ.el,i with
 |some e,.d (.int _) n=>
  (match x with
  |.d (.sl t) l=>bif aP [τ.ok,(B.τ e).ok,cy t.size (B.τ e).size]then ([0<=n,n<l.length],.d (.pt t) (l.getD n.toNat t.dflt))else bad
  |.ref k π=>(match fq M k π with
   |some ⟨.sl o,l⟩=>bif aP [τ.ok,(B.τ e).ok,cy o.strip.size (B.τ e).size]then ([0<=n,n<l.length],.ad k (ap π [.ix n.toNat]))else bad
   |some ⟨.fz (.sl t),l⟩=>bif aP [τ.ok,(B.τ e).ok,cy t.size (B.τ e).size]then ([0<=n,n<l.length],.d (.pt t) (l.getD n.toNat t.dflt))else bad
   |_=>bad)
  |_=>bad)
 |_,_=>bad
def Lp(B:Tab)(τ:Ty)(e:bW)(n:Nat)(M:Mem)(x i:V):List Prop×V:=
 match i with
 |.d (.int _) m=>bif aP [τ.ok,(B.τ e).ok]then (match rG M x (rx n m.toNat) (Nat.mul m.toNat (B.τ e).size)with
  |(l,v)=>(((0:Int)<=m)::(m<(n:Int))::l,v))else bad
 |_=>bad
def vy(B:Tab)(τ:Ty)(M:Mem)(x i:V):List Prop×V:=
 match τ.arr with
 |some (e,n)=>Lp B τ e n M x i
 |none=>vv B τ M x i
def p7(τ:Ty)(M:Mem)(x:V):List Prop×V:=
 match x with
 |.d (.pt t) y=>bif aP [τ.ok,cy t.size τ.size,orb τ.agg (cy t.size 1)]then bw (lF τ.agg (fm t y))else bad
 |.ad k π=>(match fq M k π with
  |some q=>bif aP [τ.ok,cy q.o.strip.size τ.size,orb τ.agg (cy q.o.strip.size 1)]then bw (lF τ.agg (toV k π q.o q.x))else bad
  |none=>bad)
 |.bx v=>bif aP [τ.ok,fX M v τ.size,orb τ.agg (cy τ.size 1)]then bw (lF τ.agg v)else bad
 |_=>bad
def mB(l:List α):List (Option α):=l.map some
def oL(l:List α)(i:Nat):List (Option α):=(l.map some).set i none
def ownAtR(l:List (Option α))(i:Nat):Bool:=(l.getD i none).isSome
def rowAtR(z:α)(l:List (Option α))(i:Nat):α:=(l.getD i none).getD z
def vP(l:List (Option α)):Bool:=l.all Option.isSome
def kS(z:α)(l:List (Option α)):List α:=l.map λx=>x.getD z
def gid:Nat:=1000000
abbrev fu:Type:=Option Nat
def rF(_:Ty)(_:Mem)(_:fu)(_:V):Option Rs:=none
def mc(τ:Ty)(M:Mem)(d:fu)(x:V):Rs:=
 match rF τ M d x with
 |some r=>r
 |none=>ck (p7 τ M x) M
def vt(τ:Ty)(M:Mem)(x:V):List Prop×V:=
 match x with
 |.d .str s=>bif aP [τ.ok,τ.st]then bw (.d (.int .i64) s.size)else bad
 |.d (.sl _) l=>bif aP [τ.ok,neg (isN τ.el)]then bw (.d (.int .i64) l.length)else bad
 |.d (.mp _ _) l=>bif aP [τ.ok,neg (isN τ.mp)]then bw (.d (.int .i64) l.length)else bad
 |.d (.ns (.sl _)) l=>bif aP [τ.ok,neg (isN τ.el)]then bw (.d (.int .i64) (l.getD []).length)else bad
 |.nl=>bif aP [τ.ok,neg (isN τ.el)]then bw (.d (.int .i64) (0:Int))else bad
 |.ref k π=>(match fq M k π with
  |some ⟨.sl _,l⟩|some ⟨.fz (.sl _),l⟩=>bif aP [τ.ok,neg (isN τ.el)]then bw (.d (.int .i64) l.length)else bad
  |some ⟨.mp _ _,l⟩=>bif aP [τ.ok,neg (isN τ.mp)]then bw (.d (.int .i64) l.length)else bad
  |_=>bad)
 |_=>bad
def Fu(τ:Ty)(s:ByteArray)(lo hi:Option V):List Prop×V:=
 bif aP [τ.ok,τ.st]then (match lo,hi with
  |some (.d (.int _) a),none=>([0<=a,a<=s.size],.d .str (s.extract a.toNat s.size))
  |some (.d (.int _) a),some (.d (.int _) b)=>([0<=a,a<=b,b<=s.size],.d .str (s.extract a.toNat b.toNat))
  |_,_=>bad)else bad
def BK(B:Tab)(τ:Ty)(x:V)(lo hi:Option V):List Prop×V:=
 match x,τ.el with
 |.d (.sl t) l,some e=>bif aP [τ.ok,(B.τ e).ok,cy t.size (B.τ e).size]then
   (match lo,hi with
   |none,none=>bw (.d (.sl t) l)
   |some (.d (.int _) a),none=>([0<=a,a<=l.length],.d (.sl t) (l.drop a.toNat))
   |none,some (.d (.int _) b)=>([0<=b,b<=l.length],.d (.sl t) (l.take b.toNat))
   |some (.d (.int _) a),some (.d (.int _) b)=>([0<=a,a<=b,b<=l.length],.d (.sl t) ((l.take b.toNat).drop a.toNat))
   |_,_=>bad)else bad
 |.d .str s,none=>Fu τ s lo hi
 |_,_=>bad
def cD(M:Mem):V->List Ev×Mem
 |.ref k _|.ad k _=>(match go M k with|some ob=>([.fz k ob],del k M)|none=>([],M))
 |.p a b=>(match cD M a with|(e,M')=>(match cD M' b with|(e',M'')=>(ap e e',M'')))
 |.ag v|.fn _ v|.ifc _ v|.bx v|.tup v|.gd _ _ _ v=>cD M v
 |_=>([],M)
def fp{β:Type}(l:List (α×Option (List β))):List (α×List β):=l.map λx=>(x.1,x.2.getD [])
def LH(s:T)(x:s.den)(t:T):Option t.den:=
 match s,x,t with
 |.ns (.sl a),x,.sl b=>gF (.sl b) (a:=.sl a) (x.getD [])
 |.sl (.ns (.sl a)),x,.sl (.sl b)=>gF (.sl (.sl b)) (a:=.sl (.sl a)) (kS [] x)
 |.sl (.p c (.ns (.sl a))),x,.sl (.p d (.sl b))=>gF (.sl (.p d (.sl b))) (a:=.sl (.p c (.sl a))) (fp x)
 |.sl a,x,.ns (.sl b)=>(match gF (.sl b) (a:=.sl a) x with|some y=>some (some y)|none=>none)
 |.er i,x,.er j=>bif Nat.beq i j then some x else (match x with|false=>some false|true=>none)
 |_,x,t=>gF t x
def coD:(s:T)->(x:s.den)->(t:T)->Option t.den
 |.p a b,x,.p c d=>(match coD a x.1 c,coD b x.2 d with|some y,some z=>some (y,z)|_,_=>none)
 |.pt a,x,.pt b=>coD a x b
 |s,x,t=>LH s x t
def asD(s:T)(x:s.den)(t:T):Option t.den:=
 match gF t x with
 |some y=>some y
 |none=>coD s x t
def V.as:V->(t:T)->Option t.den
 |.d s x,t=>asD s x t
 |.nl,.sl _=>some []
 |.u,.u=>some ()
 |.p a b,.p t s=>(match a.as t,b.as s with|some x,some y=>some (x,y)|_,_=>none)
 |.fn f v,.fn f' t|.ifc f v,.ifc f' t=>bif Nat.beq f f' then v.as t else none
 |.bx v,.pt t=>v.as t
 |.np,.any=>some ()
 |_,_=>none
def Lv(_:Tab)(_:Ty)(_:T)(_:V)(_:Int):List Prop×V:=bad
def F0(B:Tab)(τ:Ty)(σ:T)(x i:V):List Prop×V:=
 match x,i with
 |.ag v,.d (.int _) m=>Lv B τ σ v m
 |.d .str s,.d (.int _) n=>bif aP [τ.ok,τ.st]then ([0<=n,n<s.size],.d (.int .u8) ((s.data.toList.getD n.toNat 0).toNat))else bad
 |_,_=>bad
def vH(M:Mem)(k:Nat)(π:bA)(t:T):Option t.den:=match fq M k π with|some q=>asD q.o.strip q.x t|none=>none
def V.view(M:Mem):V->(t:T)->Option t.den
 |.d s x,t=>asD s x t
 |.nl,.sl _=>some []
 |.u,.u=>some ()
 |.p a b,.p t s=>(match a.view M t,b.view M s with|some x,some y=>some (x,y)|_,_=>none)
 |.fn f v,.fn f' t|.ifc f v,.ifc f' t=>bif Nat.beq f f' then v.view M t else none
 |.bx v,.pt t=>v.view M t
 |.ref k π,t|.ad k π,.pt t=>vH M k π t
 |.np,.any=>some ()
 |_,_=>none
def eo(r k:Nat):Bool:=aP [neg (Nat.beq r k),Nat.ble (Nat.succ r) gid]
def qZ(k r:Nat)(ρ:bA)(M:Mem):Option (Ob×List Ev×Mem):=
 bif neg (eo r k)then none else
  (match go M r with
  |some ob=>(match get ρ ob.o ob.x with
   |some q=>(match ρ with
    |[]=>some (q,[.kl r],del r M)
    |_=>bif r9 ρ then some (⟨.fz q.o.strip,q.x⟩,[.fz r ob],del r M)else
     (match set ρ ob.o ob.x ⟨.fz q.o.hole,q.o.holeX q.x⟩with
     |some ob'=>some (q,[.tk r ob.o ob'.o],put r ob' M)
     |none=>none))
   |none=>none)
  |none=>none)
def AY(k r:Nat)(ρ:bA)(M:Mem):Option (Ob×List Ev×Mem):=
 bif neg (eo r k)then none else
  (match go M r,ρ with
  |some ⟨.pt o,x⟩,[.de]=>some (⟨.pt o,x⟩,[.kl r],del r M)
  |some ob,ρ=>(match get ρ ob.o ob.x with|some q=>some (⟨.fz (.pt q.o.strip),q.x⟩,[.fz r ob],del r M)|none=>none)
  |none,_=>none)
def conv(k:Nat):T->V->Mem->Option (Ob×List Ev×Mem)
 |.p t s,.p a b,M=>(match conv k t a M with
  |some (q,e,M')=>(match conv k s (b.evs e) M' with
   |some (q',e',M'')=>some (mkP q q',ap e e',M'')
   |none=>none)
  |none=>none)
 |_,.u,M=>some (⟨.fz .u,()⟩,[],M)
 |_,.d t x,M=>some (⟨.fz t,x⟩,[],M)
 |.sl t,.nl,M=>some (⟨.sl t.deep,[]⟩,[],M)
 |_,.np,M=>some (⟨.fz .any,()⟩,[],M)
 |_,.ref r ρ,M=>qZ k r ρ M
 |_,.ad r ρ,M=>AY k r ρ M
 |_,.fn f .u,M=>some (⟨.fz (.fn f .u),()⟩,[],M)
 |_,_,_=>none
def rk(k:Nat)(o:O)(v:V)(M:Mem):Option (o.strip.den×List Ev×Mem):=
 match o with
 |.fz t=>(match cD M v with|(e,M')=>(match (v.evs e).as t with|some x=>some (x,e,M')|none=>none))
 |o=>(match conv k o.strip v M with
  |some (q,e,M')=>(match ja q o with|some x=>some (x,e,M')|none=>none)
  |none=>none)
def rE(k:Nat)(o:O)(v:V)(M:Mem):Option (o.strip.den×List Ev×Mem):=
 match o with
 |.op e=>(match rk k e v M with|some (x,ev,M')=>some (some x,ev,M')|none=>none)
 |o=>rk k o v M
def FS(k:Nat)(v:V)(M:Mem):Option (Ob×List Ev×Mem):=
 match v with
 |.ref r [.ix i]=>bif neg (eo r k)then none else (match go M r with
  |some ⟨.sl e,l⟩=>some (⟨e,l.getD i e.dflt⟩,[.kl r],del r M)
  |_=>none)
 |_=>none
def Bx(b:bC)(k:Nat)(t:T)(v:V)(M:Mem):Option (Ob×List Ev×Mem):=
 match (bif b then FS k v M else none)with
 |some r=>some r
 |none=>conv k t v M
def kD:bA->Option (bA×Nat)
 |[.ix i]=>some ([],i)
 |.l::π=>(match kD π with|some (p,i)=>some (.l::p,i)|none=>none)
 |.r::π=>(match kD π with|some (p,i)=>some (.r::p,i)|none=>none)
 |.de::π=>(match kD π with|some (p,i)=>some (.de::p,i)|none=>none)
 |_=>none
def LC(π:bA)(ob:Ob):Option Ob:=
 match kD π with
 |some (p,i)=>(match get p ob.o ob.x with
  |some ⟨.sl e,l⟩=>set p ob.o ob.x ⟨.sl (.op e),oL l i⟩
  |_=>none)
 |none=>none
def FM(π:bA)(ob:Ob):Option (Prop×Ob):=
 match kD π with
 |some (p,_)=>(match get p ob.o ob.x with
  |some ⟨.sl (.op e),l⟩=>(match set p ob.o ob.x ⟨.sl e,kS e.dflt l⟩with
   |some ob2=>some (vP l=true,ob2)
   |none=>none)
  |_=>none)
 |none=>none
def iZ:T->V
 |.p a b=>.p (iZ a) (iZ b)
 |.sl _=>.nl
 |.u=>.u
 |.pt _|.fn _ _|.er _|.any=>.d .any ()
 |t=>.d t t.dflt
def iV:bA->V->V->Option V
 |[],_,n=>some n
 |.l::π,.p a b,n=>(match iV π a n with|some q=>some (.p q b)|none=>none)
 |.r::π,.p a b,n=>(match iV π b n with|some q=>some (.p a q)|none=>none)
 |_,_,_=>none
def V.cells:V->V
 |.ag v|v=>v
@[reducible] def bo:List T->Type
 |[]=>Unit
 |t::r=>t.den×bo r
@[reducible] def bV:List (Bool×O)->Type
 |[]=>Unit
 |q::r=>q.2.strip.den×bV r
def inN(k:Nat):List Nat->Bool
 |[]=>false
 |j::r=>bif Nat.beq j k then true else inN k r
def KJ:List Nat->Bool
 |[]=>true
 |k::r=>bif inN k r then false else KJ r
def pkN{α:Type}:Nat->List α->Option (α×List α)
 |_,[]=>none
 |0,x::r=>some (x,r)
 |Nat.succ n,x::r=>(match pkN n r with|some (y,s)=>some (y,x::s)|none=>none)
def ew{α:Type}:Nat->α->List α->List α
 |0,u,l=>u::l
 |Nat.succ n,u,x::l=>x::ew n u l
 |Nat.succ _,u,[]=>[u]
def m6(n:Nat)(l:List α):List α:=match pkN n l with|some (_,r)=>r|none=>l
structure Mt where
 o:O
 g:Bool
 pre:o.strip.den->Int->List Prop
 res:o.strip.den->Int->o.strip.den×Int
structure Wt where
 o:O
 as:List T
 ag:List Bool
 pre:o.strip.den->bo as->List Prop
 new:o.strip.den->bo as->o.strip.den
 rt:List (Bool×O)
 res:o.strip.den->bo as->bV rt
 i:Nat
structure Sp where
 args:List T
 ga:List Bool
 sh:Bool
 b:bo args->Bool
 pre:bo args->List Prop
 rt1:List (Bool×O)
 res1:bo args->bV rt1
 rt0:List (Bool×O)
 res0:bo args->bV rt0
structure Wa where
 o:O
 way:bA
 as:List T
 pre:o.strip.den->bo as->List Prop
 new:o.strip.den->bo as->o.strip.den
structure Wc where
 o:O
 i:Nat
 as:List T
 ag:List Bool
 pre:o.strip.den->bo as->List Prop
 new:o.strip.den->bo as->o.strip.den
structure Wu where
 o:O
 as:List T
 ag:List Bool
 pre:o.strip.den->bo as->List Prop
 rt:List (Bool×O)
 res:o.strip.den->bo as->bV rt
 i:Nat
structure Orr where
 vc:List Prop
 av:V
 up:List (Nat×O×Ob)
structure Orc where
 ev:List V->Mem->Orr
structure Pv where
 args:List T
 ga:List Bool
 pre:bo args->List Prop
 rt:List (Bool×O)
 res:bo args->bV rt
 sh:Bool
inductive Mu where
 |v (l:List Pv)
 |o (O:Orc)
 |k (k:Wu)
 |c (c:Wc)
 |m (m:Mt)
 |w (w:Wt)
 |s (s:Sp)
 |a (a:Wa)
structure Ct where
 args:List T
 ga:List Bool
 pre:bo args->List Prop
 rt:List (Bool×O)
 res:bo args->bV rt
 sh:Bool
 mu:Option Mu
def pvCt(p:Pv):Ct:=⟨p.args,p.ga,p.pre,p.rt,p.res,p.sh,none⟩
abbrev cK:Type:=List V
def xY(_:Mem)(_:cK)(_:List Pv):Option Pv:=none
theorem A_{vs:cK}{q:Pv}:∀{l:List Pv},xY M vs l=some q->q∈l:=λh=>by cases h
def fO(s:Sp):Bool->Ct
 |true=>⟨s.args,s.ga,λx=>(s.b x=true)::s.pre x,s.rt1,s.res1,s.sh,none⟩
 |false=>⟨s.args,s.ga,λx=>(s.b x=false)::s.pre x,s.rt0,s.res0,s.sh,none⟩
abbrev eT:Type:=List T
def jY(M:Mem):List V->(ts:eT)->Option (bo ts)
 |[],[]=>some ()
 |v::r,t::ts=>(match v.cells.view M t,jY M r ts with|some x,some y=>some (x,y)|_,_=>none)
 |_,_=>none
def cid(d j:Nat):Nat:=Nat.add (Nat.add 100000 (Nat.mul 100 d)) j
def eK(d:Nat):Nat->(o:O)->o.strip.den->V×Mem×Nat
 |j,.fz t,x=>(fm t x,[],j)
 |j,.p a b,x=>(match eK d j a x.1 with
  |(v,M,j')=>(match eK d j' b x.2 with
   |(v',M',j'')=>(.p v v',ap M' M,j'')))
 |j,.sl e,x=>(.ref (cid d j) [],[(cid d j,⟨.sl e,x⟩)],Nat.succ j)
 |j,.pt o,x=>(.ad (cid d j) [.de],[(cid d j,⟨.pt o,x⟩)],Nat.succ j)
 |j,.mp k v,x=>(.ref (cid d j) [],[(cid d j,⟨.mp k v,x⟩)],Nat.succ j)
 |j,.op _,_=>(.any,[],j)
def newL(d:Nat):Nat->(rs:gS)->bV rs->V×Mem×Nat
 |j,[],_=>(.u,[],j)
 |j,q::r,x=>(match eK d j q.2 x.1 with
  |(v,M,j')=>(match newL d j' r x.2 with
   |(v',M',j'')=>(.p (lF q.1 v) v',ap M' M,j'')))
def uc:List (Bool×O)->V->V
 |[_],.p a _=>a
 |_,v=>.tup v
def fM:List Nat->Mem->Mem
 |[],M=>M
 |k::r,M=>fM r (del k M)
def bJ:Mem->List Nat
 |[]=>[]
 |(k,_)::r=>k::bJ r
def klL:List Nat->List Ev
 |[]=>[]
 |k::r=>.kl k::klL r
def eN(M:Mem):List V->List Ev×Mem
 |[]=>([],M)
 |v::r=>(match cD M v with|(e,M')=>(match eN M' r with|(e',M'')=>(ap e e',M'')))
abbrev cg:Type:=List Ev
def gv(e:cg):List V->List V
 |[]=>[]
 |v::r=>v.evs e::gv e r
abbrev eD:Type:=Operand->V
def gw(f:eD):List Operand->List V
 |[]=>[]
 |x::r=>f x::gw f r
def asL:List V->(ts:eT)->Option (bo ts)
 |[],[]=>some ()
 |v::r,t::ts=>(match v.cells.as t,asL r ts with|some x,some y=>some (x,y)|_,_=>none)
 |_,_=>none
def ge:V->Bool
 |.ag _=>true
 |_=>false
def shp:List V->List Bool->Bool
 |[],[]=>true
 |v::r,g::gs=>bif ge v then (bif g then shp r gs else false)else (bif g then false else shp r gs)
 |_,_=>false
def L8:List Nat->Bool
 |[]=>true
 |_=>false
def KD(_:Mt)(_:cK)(M:Mem):Rs:=bi M
def kM:bA->Bool
 |[.de]=>true
 |_=>false
def Lu:bA->Bool
 |[]=>true
 |_=>false
def pK:V->Option Nat
 |.ad k π=>bif kM π then some k else none
 |.ref k π=>bif Lu π then some k else none
 |_=>none
def nr:O->Bool
 |.pt _|.sl _=>true
 |_=>false
def deK:V->Option Nat
 |.ref k π=>bif kM π then some k else none
 |_=>none
def slO:O->Bool
 |.sl _=>true
 |_=>false
def pbW(W:Wt):Wt:=⟨.pt W.o,W.as,W.ag,W.pre,W.new,W.rt,W.res,W.i⟩
def qT(k:Nat)(W:Wt)(d:Nat)(r:cK)(M:Mem):Rs:=
 bif shp r W.ag then (match eN M r with
   |(e,M1)=>(match go M1 k,asL (gv e r) W.as with
    |some ob,some y=>(match ja ob W.o with
     |some x=>(match newL d 0 W.rt (W.res x y)with
      |(v,N,_)=>bif inN k (bJ N)then bi M else
       ⟨W.pre x y,uc W.rt v,ap e (.cut k W.o W.o::klL (bJ N)),ap N (fM (bJ N) (put k ⟨W.o,W.new x y⟩ M1))⟩)
     |none=>bi M)
    |_,_=>bi M))else bi M
def tv(W:Wt)(d:Nat)(vs:cK)(M:Mem):Rs:=
 match pkN W.i vs with
 |some (v0,r)=>(match pK v0 with
  |some k=>bif nr W.o then qT k W d r M else bi M
  |none=>(match deK v0 with
   |some k=>bif slO W.o then qT k (pbW W) d r M else bi M
   |none=>bi M))
 |none=>bi M
def lrP:bA->Bool
 |[]=>true
 |.l::π|.r::π=>lrP π
 |_=>false
def ro(o:O):bA->Bool
 |.de::π=>(match o with|.pt _=>lrP π|_=>false)
 |_=>false
def Bv(π:bA):V->Option Nat
 |.ad k ρ=>bif peq π ρ then some k else none
 |_=>none
def yq(k:Nat):V->Bool
 |.ad j π=>nob (Nat.beq j k) (kM π)
 |_=>false
def pN(k:Nat):V->V
 |.bx v=>bif yq k v then .bx (.d .any ())else .bx v
 |.p a b=>.p (pN k a) (pN k b)
 |.fn f v=>.fn f (pN k v)
 |v=>v
def nq(k:Nat):List V->List V
 |[]=>[]
 |v::r=>pN k v::nq k r
def tI:T->Bool
 |.any=>true
 |_=>false
def pY:T->Bool
 |.pt t=>neg (tI t)
 |.p a b=>nob (pY a) (pY b)
 |.fn _ t=>pY t
 |_=>true
def gk(k:Nat):V->T->Bool
 |.bx v,.pt t=>bif yq k v then tI t else neg (tI t)
 |.p a b,.p t s=>nob (gk k a t) (gk k b s)
 |.fn _ v,.fn _ t=>gk k v t
 |.ad _ _,t=>nob (pY t) (Nat.beq t.size 1)
 |.d s _,t=>nob (pY t) (Nat.beq s.size t.size)
 |.u,.u=>true
 |_,_=>false
def xX(k:Nat):List V->List T->Bool
 |[],[]=>true
 |v::r,t::ts=>nob (gk k v t) (xX k r ts)
 |_,_=>false
def ou:List T->List Bool
 |[]=>[]
 |_::r=>false::ou r
def xA(W:Wa)(vs:cK)(M:Mem):Rs:=
 match vs with
 |v0::r=>(match Bv W.way v0 with
  |some k=>bif aP [ro W.o W.way,xX k r W.as,shp (nq k r) (ou W.as)]then (match eN M (nq k r)with
   |(e,M1)=>(match go M1 k,asL (gv e (nq k r)) W.as with
    |some ob,some y=>(match ja ob W.o with
     |some x=>⟨W.pre x y,.tup .u,ap e [.cut k W.o W.o],put k ⟨W.o,W.new x y⟩ M1⟩
     |none=>bi M)
    |_,_=>bi M))else bi M
  |none=>bi M)
 |_=>bi M
def FP:T->V->Option Nat
 |.any,.ad k π=>bif kM π then some k else none
 |.p a b,.p v w=>(match FP a v with|some k=>some k|none=>FP b w)
 |.fn _ t,.fn _ v=>FP t v
 |_,_=>none
def tQ(k:Nat):T->V->Bool
 |.any,.ad j π=>nob (Nat.beq j k) (kM π)
 |.any,_=>false
 |.p a b,.p v w=>nob (tQ k a v) (tQ k b w)
 |.fn f t,.fn g v=>nob (Nat.beq f g) (tQ k t v)
 |.p _ _,_|.fn _ _,_=>false
 |_,_=>true
def oD:T->V->V
 |.any,.ad _ _=>.np
 |.p a b,.p v w=>.p (oD a v) (oD b w)
 |.fn _ t,.fn g v=>.fn g (oD t v)
 |_,v=>v
def om(k:Nat):List Bool->List T->List V->Bool
 |[],[],[]=>true
 |true::gs,_::ts,_::vs=>om k gs ts vs
 |false::gs,t::ts,v::vs=>nob (tQ k t v) (om k gs ts vs)
 |_,_,_=>false
def qg:List Bool->List T->List V->List V
 |true::gs,_::ts,v::vs=>v::qg gs ts vs
 |false::gs,t::ts,v::vs=>oD t v::qg gs ts vs
 |_,_,vs=>vs
def kJ{α:Type}(x:α):List α->Nat->α
 |[],_=>x
 |y::_,0=>y
 |_::r,Nat.succ n=>kJ x r n
def boxI(W:Wc)(vs:cK):Option Nat:=bif kJ true W.ag W.i then none else FP (kJ .u W.as W.i) (kJ .u vs W.i)
def tG(W:Wc)(vs:cK)(M:Mem):Rs:=
 match boxI W vs with
 |some k=>bif nob (om k W.ag W.as vs) (shp (qg W.ag W.as vs) W.ag)then (match go M k,jY (del k M) (qg W.ag W.as vs) W.as with
   |some ob,some y=>(match ja ob W.o with
    |some x=>⟨W.pre x y,.tup .u,[.cut k W.o W.o],put k ⟨W.o,W.new x y⟩ M⟩
    |none=>bi M)
   |_,_=>bi M)else bi M
 |none=>bi M
def EE(_:Wu)(_:Nat)(_:cK)(M:Mem):Rs:=bi M
def Bw(_:Orc)(_:cK)(M:Mem):Rs:=bi M
def qc(ct:Ct)(d:Nat)(vs:cK)(M:Mem):Rs:=
 bif shp vs ct.ga then
 (match ct.sh with
 |false=>(match jY M vs ct.args with
  |some x=>(match newL d 0 ct.rt (ct.res x)with
   |(v,N,_)=>⟨ct.pre x,uc ct.rt v,klL (bJ N),ap N (fM (bJ N) M)⟩)
  |none=>bi M)
 |true=>(match eN M vs with
  |(e,M')=>(match asL (gv e vs) ct.args with
   |some x=>(match newL d 0 ct.rt (ct.res x)with
    |(v,N,_)=>⟨ct.pre x,uc ct.rt v,ap e (klL (bJ N)),ap N (fM (bJ N) M')⟩)
   |none=>bi M)))else bi M
def oq(ct:Ct)(d:Nat)(vs:cK)(M:Mem):Rs:=
 match ct.mu with
 |some (.o O)=>Bw O vs M
 |some (.k W)=>EE W d vs M
 |some (.c W)=>tG W vs M
 |some (.m m)=>KD m vs M
 |some (.w W)=>tv W d vs M
 |some (.s _)=>bi M
 |some (.a W)=>xA W vs M
 |some (.v l)=>(match xY M vs l with
  |some p=>qc (pvCt p) d vs M
  |none=>bi M)
 |none=>qc ct d vs M
abbrev eO:Type:=Operand
abbrev qi:Type:=Option Operand
def vC(B:Tab)(τ:Ty)(ρ:eD)(x:eO)(lo hi:qi)(M:Mem):Rs:=
 match ρ x with
 |.ref r π=>(match qZ gid r π M with
  |some (q,e,M')=>(match BK B τ (.d q.o.strip q.x) (gm (λy=>(ρ y).evs e) lo) (gm (λy=>(ρ y).evs e) hi)with
   |(l,v)=>⟨l,v,e,M'⟩)
  |none=>bi M)
 |v=>ck (BK B τ v (gm ρ lo) (gm ρ hi)) M
def nsT:T->Bool
 |.ns _=>true
 |_=>false
def rB(B:Tab)(τ:Ty)(d:fu)(ρ:eD)(x:eO)(lo hi:qi)(M:Mem):Rs:=
 match ρ x,d,gm ρ lo,hi,τ.el with
 |.ref r [],some d,some (.d (.int _) a),none,some e=>(match go M r with
  |some ⟨.sl o,l⟩=>bif aP [eo r d,τ.ok,(B.τ e).ok,cy o.strip.size (B.τ e).size]then
    ⟨[0<=a,a<=l.length],.ref d [],[.kl r,.kl d],(d,⟨.sl o,l.drop a.toNat⟩)::del d (del r M)⟩else bi M
  |_=>bi M)
 |_,_,_,_,_=>bi M
def kK(B:Tab)(t:bW)(d:fu)(ρ:eD)(x:eO)(lo hi:qi)(M:Mem):Rs:=bif nsT (B.σ t)then rB B (B.τ t) d ρ x lo hi M else vC B (B.τ t) ρ x lo hi M
inductive Src where
 |own (j:Nat) (e:O) (l:List e.strip.den)
 |dat (e:cg) (M:Mem) (t:T) (l:List t.den)
 |nil
def r8(M:Mem):V->Option Src
 |.nl=>some .nil
 |.d (.sl t) l=>some (.dat [] M t l)
 |.ref j π=>(match go M j,π with
  |some ⟨.sl e,l⟩,[]=>some (.own j e l)
  |some ob,π=>(match get π ob.o ob.x with
   |some ⟨.sl e,l⟩=>some (.dat [.fz j ob] (del j M) e.strip l)
   |some ⟨.fz (.sl t),l⟩=>some (.dat [.fz j ob] (del j M) t l)
   |_=>none)
  |none,_=>none)
 |_=>none
def aX(n m b:Nat):Prop:=(n+m)*b<=nb
def tx(b k:Nat)(e:O)(l:List e.strip.den)(j:Nat)(e':O)(m:List e'.strip.den)(ev:cg)(M M0:Mem):Rs:=
 match e'.beq e,ja ⟨.sl e',m⟩ (.sl e)with
 |true,some m=>⟨[aX l.length m.length b],.ref k [],ap ev [.kl j,.kl k],(k,⟨.sl e,l++m⟩)::del k (del j M)⟩
 |_,_=>(match gF (.sl e.strip) (a:=.sl e'.strip) m with
  |some m1=>⟨[aX l.length m1.length b],.ref k [],ap ev [.fz j ⟨.sl e',m⟩,.kl k],(k,⟨.sl (.fz e.strip),l++m1⟩)::del k (del j M)⟩
  |none=>bi M0)
def tF(b k:Nat)(e:O)(l:List e.strip.den)(t:T)(m:List t.den)(ev:cg)(M M0:Mem):Rs:=
 match gF (.sl e.strip) (a:=.sl t) m with
 |some m=>⟨[aX l.length m.length b],.ref k [],ap ev [.kl k],(k,⟨.sl (.fz e.strip),l++m⟩)::del k M⟩
 |none=>bi M0
def pO(B:Tab)(dst:fu)(t:bW)(s x:V)(M:Mem):Rs:=
 match (B.τ t).el,dst,r8 M x with
 |some e,some d,some src=>
  bif aP [(B.τ t).ok,(B.τ e).ok,neg (Nat.beq (B.τ e).bytes 0),B.z e,cy (B.σ e).size (B.τ e).size]then
   (match s with
   |.nl=>(match src with
    |.nil=>⟨[],.nl,[],M⟩
    |.own j e' m=>bif aP [eo j d,cy e'.strip.size (B.τ e).size]then⟨[aX 0 m.length (B.τ e).bytes],.ref d [],[.kl j,.kl d],(d,⟨.sl e',m⟩)::del d (del j M)⟩else bi M
    |.dat ev M' t' m=>bif cy t'.size (B.τ e).size then⟨[aX 0 m.length (B.τ e).bytes],.ref d [],ap ev [.kl d],(d,⟨.sl (.fz t'),m⟩)::del d M'⟩else bi M)
   |.ref k π=>(match go M k,π with
    |some ⟨.sl o,l⟩,[]=>bif aP [cy o.strip.size (B.τ e).size,Nat.ble (Nat.succ k) gid]then (match src with
     |.nil=>⟨[],.ref k [],[],M⟩
     |.own j e' m=>bif neg (eo j k)then bi M else tx (B.τ e).bytes k o l j e' m [.kl k] (del k M) M
     |.dat ev M' t' m=>(match go M' k with|some _=>tF (B.τ e).bytes k o l t' m (ap ev [.kl k]) (del k M') M|none=>bi M))else bi M
    |some ob,π=>(match get π ob.o ob.x,set π ob.o ob.x ⟨.fz .any,()⟩with
     |some ⟨.sl o,l⟩,some ob'=>bif aP [cy o.strip.size (B.τ e).size,neg (Nat.beq d k),Nat.ble (Nat.succ k) gid]then (match src with
      |.nil=>⟨[],.ref k π,[],M⟩
      |.own j e' m=>bif aP [eo j k,eo j d]then tx (B.τ e).bytes d o l j e' m [.cut k ob.o ob'.o] (put k ob' M) M else bi M
      |.dat ev M' t' m=>(match go M' k with|some _=>tF (B.τ e).bytes d o l t' m (ap ev [.cut k ob.o ob'.o]) (put k ob' M') M|none=>bi M))else bi M
     |some ⟨.sl o,l⟩,none=>(match LC π ob with
      |some ob'=>bif aP [cy o.strip.size (B.τ e).size,neg (Nat.beq d k),Nat.ble (Nat.succ k) gid]then (match src with
       |.nil=>bi M
       |.own j e' m=>bif aP [eo j k,eo j d]then tx (B.τ e).bytes d o l j e' m [.tk k ob.o ob'.o] (put k ob' M) M else bi M
       |.dat ev M' t' m=>(match go M' k with|some _=>tF (B.τ e).bytes d o l t' m (ap ev [.tk k ob.o ob'.o]) (put k ob' M') M|none=>bi M))else bi M
      |none=>bi M)
     |_,_=>bi M)
    |none,_=>bi M)
   |_=>bi M)
  else bi M
 |_,_,_=>bi M
def pP(B:Tab)(kty:bW):T->Bool
 |.int q=>(match (B.τ kty).int with|some q'=>aP [(B.τ kty).ok,j9 q' q]|none=>false)
 |.str=>aP [(B.τ kty).ok,(B.τ kty).st]
 |.p a b=>nob (nob (B.τ kty).ok (isN (B.τ kty).arr)) (nob (neg (isZ (T.p a b).intsN)) (cy (T.p a b).intsN (B.q kty)))
 |_=>false
def kE(B:Tab)(ety:bW):T->Bool
 |.int q=>aP [(B.τ ety).ok,B.z ety,(B.σ ety).beq (.int q)]
 |.bool=>aP [(B.τ ety).ok,B.z ety,(B.σ ety).beq .bool]
 |_=>false
def pT:V->T->Bool
 |.ag _,.p _ _=>true
 |.ag _,_|_,.p _ _=>false
 |_,_=>true
structure Mp where
 k:T
 v:T
 l:(T.mp k v).den
def LD(M:Mem):V->Option Mp
 |.d (.mp k v) l=>some ⟨k,v,l⟩
 |.ref r π=>(match fq M r π with
  |some ⟨.mp k v,l⟩|some ⟨.fz (.mp k v),l⟩=>some ⟨k,v,l⟩
  |_=>none)
 |_=>none
def E9(B:Tab)(t:bW)(M:Mem)(x i:V)(ok:bC):List Prop×V:=
 match (B.τ t).mp,LD M x with
 |some (kty,ety),some ⟨k,v,l⟩=>bif aP [(B.τ t).ok,pP B kty k,kE B ety v,pT i k]then
   (match i.cells.as k with
   |some y=>bw (bif ok then .tup (.p (.d v (jw k v l y)) (.p (.d .bool (tL k v l y)) .u))else .d v (jw k v l y))
   |none=>bad)else bad
 |_,_=>bad
def DS(B:Tab)(t:bW)(d:fu)(M:Mem):Rs:=
 match (B.τ t).mp,d with
 |some (kty,ety),some d=>bif aP [(B.τ t).ok]then⟨[],.ref d [],[.kl d],(d,⟨.mp (B.σ kty) (B.σ ety),[]⟩)::del d M⟩else bi M
 |_,_=>bi M
def Ed(B:Tab)(t:bW)(m i x:V)(M:Mem):Rs:=
 match (B.τ t).mp,m with
 |some (kty,ety),.ref r π=>(match go M r with
  |some ob=>(match get π ob.o ob.x with
   |some ⟨.mp k v,l⟩=>bif aP [(B.τ t).ok,pP B kty k,kE B ety v,pT i k,neg (ge x)]then
     (match i.cells.as k,x.cells.as v with
     |some y,some z=>(match set π ob.o ob.x ⟨.mp k v,eI k v l y z⟩with
      |some ob'=>(match ja ob' ob.o with
       |some x'=>⟨[aX l.length 1 1],.any,[.cut r ob.o ob.o],put r ⟨ob.o,x'⟩ M⟩
       |none=>bi M)
      |none=>bi M)
     |_,_=>bi M)else bi M
   |_=>bi M)
  |none=>bi M)
 |_,_=>bi M
def eG:T->List Value->Bool
 |.p a b,zs=>nob (eG a (du a.size zs)) (eG b (gu a.size zs))
 |.u,[]=>true
 |.int k,[.int k' (.ofNat 0)]=>j9 k k'
 |.bool,[.bool b]=>neg b
 |.str,[.string s]=>Nat.beq s.size 0
 |.sl _,[.slice none 0 0]|.ns _,[.slice none 0 0]=>true
 |.any,[v]=>v.oneCell'
 |_,_=>false
def BN(B:Tab)(t:bW)(o:fu)(M:Mem):Rs:=
 match o with
 |some k=>bif aP [(B.τ t).ok,B.z t]then
   ⟨[],.ad k [.de],[.kl k],(k,⟨.pt (B.σ t).deep,(B.σ t).deep.dflt⟩)::del k M⟩else bi M
 |none=>bi M
def EZ(B:Tab)(t:bW)(o:fu)(x:V)(M:Mem):Rs:=
 match o with
 |some k=>(match conv k (B.σ t) (x.cells.ev (.kl k)) (del k M)with
  |some (q,e,M')=>⟨[],.ad k [.de],.kl k::e,(k,⟨.pt q.o,q.x⟩)::M'⟩
  |none=>bif neg (isN (x.cells.size M))then⟨[],.bx x.cells,[],M⟩else bi M)
 |none=>bi M
def mg(M:Mem)(place:Nat->Option (bA×Nat×Nat))(f:eD):List (Nat×Operand)->V->Option V
 |[],v=>some v
 |(i,x)::r,v=>(match place i with
  |some (π,off,n)=>(match gj M π v with
   |some (m,w)=>bif aP [cy m off,fX M w n,fX M (f x).cells n]then (match iV π v (f x).cells with|some v'=>mg M place f r v'|none=>none)else none
   |none=>none)
  |none=>none)
def FN(B:Tab)(τ:Ty)(i:Nat):Option (bA×Nat×Nat):=
 match τ.arr with
 |some (e,n)=>bif Nat.ble (Nat.succ i) n then some (rx n i,Nat.mul i (B.τ e).size,(B.τ e).size)else none
 |none=>(match eQ τ.fld i with|some q=>some (rx (len τ.fld) i,q.1,q.2.2)|none=>none)
def yo(B:Tab)(τ:Ty):Bool:=
 match τ.arr with
 |some (e,_)=>(B.τ e).ok
 |none=>τ.sz
abbrev oP:Type:=List (Nat×Operand)
def pq(B:Tab)(t:bW)(parts:oP)(f:eD)(M:Mem):Rs:=
 bif aP [(B.τ t).ok,yo B (B.τ t),B.z t]then
   (match mg M (FN B (B.τ t)) f parts (iZ (B.σ t))with
   |some v=>⟨[],.ag v,[],M⟩
   |none=>bi M)else bi M
def jr(k:Nat)(o:O):List Ev->List V->Mem->Option (List o.strip.den×List Ev×Mem)
 |ev,[],M=>some ([],ev,M)
 |ev,v::r,M=>(match rE k o (v.evs ev) M with
  |some (x,e,M')=>(match jr k o (ap ev e) r M' with
   |some (l,e',M'')=>some (x::l,e',M'')
   |none=>none)
  |none=>none)
def jU(M:Mem)(sz:Nat)(f:eD):List (Nat×Operand)->List V->Option (List V)
 |[],l=>some l
 |(i,x)::r,l=>bif nob (Nat.ble (Nat.succ i) (len l)) (fX M (f x).cells sz)then jU M sz f r (ua l i (f x).cells)else none
def SH:T->V
 |.ns (.sl e)=>.d (.ns (.sl e)) (some [])
 |_=>.nl
def n5(B:Tab)(t:bW)(n:Nat)(parts:oP)(f:eD)(o:fu)(M:Mem):Rs:=
 match o,(B.τ t).el with
 |some k,some e=>
  (match jU M (B.τ e).size f parts (iR (iZ (B.σ e)) n)with
  |some l=>bif aP [(B.τ t).ok,(B.τ e).ok,B.z e,Nat.ble (Nat.mul n (B.τ e).size) 16777216,Nat.ble n nb,cy (B.σ e).size (B.τ e).size]then
    (match gv [.kl k] l with
    |[]=>⟨[],SH (B.σ t),[],M⟩
    |v::r=>(match conv k (B.σ e) v (del k M)with
     |some (q,_,_)=>(match jr k q.o [] (v::r) (del k M)with
      |some (x,ev,M')=>⟨[],.ref k [],.kl k::ev,(k,⟨.sl q.o,x⟩)::M'⟩
      |none=>(match jr k (.fz (B.σ e)) [] (v::r) (del k M)with
       |some (x,ev,M')=>⟨[],.ref k [],.kl k::ev,(k,⟨.sl (.fz (B.σ e)),x⟩)::M'⟩
       |none=>bi M))
     |none=>bi M))else bi M
  |none=>bi M)
 |_,_=>bi M
def Be(B:Tab)(t:bW)(l c:V)(o:fu)(M:Mem):Rs:=
 match o,(B.τ t).el,l,c with
 |some k,some e,.d (.int _) nl,.d (.int _) nc=>
  bif aP [(B.τ t).ok,(B.τ e).ok,B.z e,cy (B.σ e).size (B.τ e).size]then
    ⟨[0<=nl,nl<=nc,nc<=nb,nc*(B.τ e).bytes<=nb],.ref k [],[.kl k],(k,⟨.sl (B.σ e).deep,List.replicate nl.toNat (B.σ e).deep.dflt⟩)::del k M⟩else bi M
 |_,_,_,_=>bi M
def vf(B:Tab)(t:bW)(x y:V)(M:Mem):Rs:=
 match x with
 |.ad k π=>(match go M k,fq M k π with
  |some ob,some q=>bif aP [(B.τ t).ok,fX M y.cells (B.τ t).size,cy q.o.strip.size (B.τ t).size,neg (isZ (B.τ t).size)]then
    (match (bif r9 π then (match rE k q.o y.cells M with
      |some (z,e,M')=>some (⟨q.o,z⟩,e,M')
      |none=>none)else Bx B.tk k (B.σ t) y.cells M)with
     |some (z,e,M')=>(match go M' k,set π ob.o ob.x z with
      |some _,some ob'=>bif cy z.o.strip.size (B.τ t).size then (match FM π ob' with
      |some (c,ob2)=>⟨[c],.any,ap e [.cut k ob.o ob'.o,.cut k ob'.o ob2.o],put k ob2 M'⟩
      |none=>⟨[],.any,ap e [.cut k ob.o ob'.o],put k ob' M'⟩)else bi M
      |_,_=>bi M)
     |none=>bi M)else bi M
  |_,_=>bi M)
 |_=>bi M
def pD(x y:V)(M:Mem)(r:Rs):Rs:=
 match x,y with
 |.ad k [.de],.ad j [.de]=>(match go M k,go r.M k with
  |some ⟨.pt (.fz .any),_⟩,some ⟨.pt (.pt o),z⟩=>bif nob (Nat.blt k gid) (isN (go r.M j))then⟨r.vc,.any,ap r.ev [.un k j],(j,⟨.pt o,z⟩)::del k r.M⟩else r
  |_,_=>r)
 |_,_=>r
def L9(_:Ty)(_ _:V)(_:Mem):Option Rs:=none
def tP(B:Tab)(t:bW)(x y:V)(M:Mem):Rs:=
 match L9 (B.τ t) x y M with
 |some r=>r
 |none=>pD x y M (vf B t x y M)
def qe:V->Option (FuncId×V)
 |.fn f v=>some (f,v)
 |.d (.fn f t) x=>some (f,fm t x)
 |_=>none
def jT(M:Mem):V->Option (List V)
 |.u=>some []
 |.p a b=>(match jT M b with|some r=>bif fX M a 1 then some (a::r)else none|none=>none)
 |_=>none
def y5(M:Mem):List V->Option V
 |[]=>some .u
 |v::r=>(match y5 M r with|some c=>bif nob (neg (ge v)) (fX M v 1)then some (.p v c)else none|none=>none)
abbrev mJ:Type:=List Operand
def EP(M:Mem)(fn:Fn)(first:mJ)(vs:cK):List Prop×V:=
 match fn,first,y5 M vs with
 |.func f,[],some c=>bw (.fn f c)
 |_,_,_=>bad
def Fl(B:Tab)(t:bW)(M:Mem)(x:V):List Prop×V:=
 match x with
 |.ag (.d .str _)=>bif aP [(B.τ t).ok,(B.τ t).agg]then bw (.d (.er t) true)else bad
 |.ag (.d T y)=>bif aP [(B.τ t).ok,(B.τ t).agg]then bw (.d (.ib t T) y)else bad
 |x=>bif aP [(B.τ t).ok,neg (isN (B.τ t).el),neg (ge x),fX M x 1]then bw (.ifc t x)else bad
def inI:V->Option (TypeId×V)
 |.ifc t v=>some (t,v)
 |.d (.ifc t T) y=>some (t,fm T y)
 |.d (.ib t T) y=>some (t,.ag (fm T y))
 |_=>none
def Fq(B:Tab)(i:bW)(ok:bC)(x:V):List Prop×V:=
 match inI x with
 |some (t,_)=>bif BP B.m t i then bw (bif ok then .tup (.p x (.p (.d .bool true) .u))else x)else bad
 |none=>bad
abbrev dM:Type:=FuncId->Option Ct
abbrev bR:Type:=Oper
def bP(B:Tab)(Φ:dM)(o:bR)(ρ:eD)(M:Mem):Rs:=
 match o.op with
 |.move x|.assign x=>ck ([],ρ x) M
 |.nilCheck x=>ck (Fc (ρ x)) M
 |.load t x=>mc (B.τ t) M o.dst (ρ x)
 |.fieldAddr t x i=>ck (vn (B.τ t) M (ρ x) i) M
 |.field t x i=>ck (vu B (B.τ t) M (ρ x) i) M
 |.indexAddr t x i=>ck (vy B (B.τ t) M (ρ x) (ρ i)) M
 |.index t x i=>ck (F0 B (B.τ t) (B.σ t) (ρ x) (ρ i)) M
 |.binOp op t x y _=>ck (EO B t op (KI y) (SY y) (ρ x) (ρ y)) M
 |.unOp op _ x=>ck (FE op (ρ x)) M
 |.convert s d x=>ck (vl B s d M (ρ x)) M
 |.extract x i=>ck (yj (ρ x) i) M
 |.slice t x lo hi none=>kK B t o.dst ρ x lo hi M
 |.alloc e=>BN B e o.dst M
 |.box e x=>EZ B e o.dst (ρ x) M
 |.build t parts=>pq B t (toL parts) ρ M
 |.buildSlice t n parts=>n5 B t n (toL parts) ρ o.dst M
 |.makeSlice t l c=>Be B t (ρ l) (ρ c) o.dst M
 |.store t x y=>tP B t (ρ x) (ρ y) M
 |.lookup t x i ok=>ck (E9 B t M (ρ x) (ρ i) ok) M
 |.makeMap t none=>DS B t o.dst M
 |.makeInterface t x=>ck (Fl B t M (ρ x)) M
 |.typeAssert x _ i ok=>ck (Fq B i ok (ρ x)) M
 |.mapUpdate t m i x=>Ed B t (ρ m) (ρ i) (ρ x) M
 |.makeFunc fn fs cs=>ck (EP M fn (toL fs) (gw ρ (toL cs))) M
 |.call c=>(match c.callee with
  |.builtin .len=>(match toL c.args,toL c.argTypes with
   |[x],[t]=>ck (vt (B.τ t) M (ρ x)) M
   |_,_=>bi M)
  |.builtin .max=>(match toL c.args with
   |[x,y]=>ck (BG true (ρ x) (ρ y)) M
   |_=>bi M)
  |.builtin .min=>(match toL c.args with
   |[x,y]=>ck (BG false (ρ x) (ρ y)) M
   |_=>bi M)
  |.builtin .append=>(match toL c.args,toL c.argTypes with
   |[x,y],[t,t']=>bif Nat.beq t t' then pO B o.dst t (ρ x) (ρ y) M else bi M
   |_,_=>bi M)
  |.value cx=>(match qe (ρ cx),o.dst with
   |some (f,v),some d=>(match Φ f,jT M v with
    |some ct,some cs=>oq ct d (ap (gw ρ (toL c.args)) cs) M
    |_,_=>bi M)
   |_,_=>bi M)
  |.invoke r name=>(match inI (ρ r),o.dst with
   |some (t,v),some d=>(match B7 B.m t name with
    |some f=>(match Φ f with
     |some ct=>oq ct d (v::gw ρ (toL c.args)) M
     |none=>bi M)
    |none=>bi M)
   |_,_=>bi M)
  |_=>bi M)
 |_=>bi M
def conj:List Prop->Prop->Prop
 |[],K=>K
 |p::r,K=>p/\conj r K
def imp(g:Prop):List Prop->Prop->Prop
 |[],K=>K
 |p::r,K=>(g->conj r p)/\K
def cnd(b:bC)(x y:Prop):Prop:=(b=true->x)/\(b=false->y)
def wr(d:fu)(x:V)(env:Env):Env:=
 match d with
 |some d=>(d,x)::env
 |none=>env
def gc:V->Bool->Prop
 |.d .bool b,w=>b=w
 |.gd _ _ P v,w=>P/\gc v w
 |_,_=>False
def gW:V->Bool
 |.d .bool _=>true
 |.gd _ _ _ v=>gW v
 |_=>false
def y4(a b:bC):Bool:=bif a then b else neg b
def ip(f:eD):List Operand->List Prop
 |[]=>[]
 |x::r=>(match f x with
  |.gd _ _ P _=>P::ip f r
  |_=>ip f r)
def gb(o:bR):Bool:=
 match o.op with
 |.store _ _ _|.mapUpdate _ _ _ _=>false
 |.call c=>(match c.callee with
  |.builtin .append=>false
  |_=>true)
 |_=>true
def dv(M:Mem):List Ev->Bool
 |[]=>true
 |.kl k::r=>nob (isN (go M k)) (dv M r)
 |_=>false
def avF(M0 M:Mem):V->V
 |.ref k π=>(match go M0 k with|some _=>.ref k π|none=>(match fq M k π with|some q=>fm q.o.strip q.x|none=>.any))
 |.ad k π=>(match go M0 k with|some _=>.ad k π|none=>(match fq M k π with|some q=>.d (.pt q.o.strip) q.x|none=>.any))
 |.p a b=>.p (avF M0 M a) (avF M0 M b)
 |.ag v=>.ag (avF M0 M v)
 |.tup v=>.tup (avF M0 M v)
 |.fn f v=>.fn f (avF M0 M v)
 |.ifc t v=>.ifc t (avF M0 M v)
 |.bx v=>.bx (avF M0 M v)
 |.gd _ _ _ _=>.any
 |v=>v
abbrev bY:Type:=List Oper
def iN(ops:bY)(j:Nat):Option Nat:=
 match eQ ops j with
 |some o=>o.dst
 |none=>none
def pM(cb side:bC):V->List Prop
 |.gd _ _ P _=>[cb=side->P]
 |_=>[]
def Fd(cb:bC)(a b:eO)(av bv:bC):Bool:=
 match a,b with
 |.const (.bool true),_=>cb||bv
 |_,.const (.bool false)=>cb&&av
 |_,_=>(bif cb then av else bv)
def rj(env:Env)(c a b:eO):List Prop×V:=
 bif aP [(rd env c).strip.isB,(rd env a).strip.isB,(rd env b).strip.isB]then
  (ap (ip (rd env) [c]) (ap (pM (rd env c).strip.boolV true (rd env a)) (pM (rd env c).strip.boolV false (rd env b))),
   .d .bool (Fd (rd env c).strip.boolV a b (rd env a).strip.boolV (rd env b).strip.boolV))
 else bad
def bq:Op->List Operand
 |.move x|.assign x|.nilCheck x|.load _ x|.fieldAddr _ x _|.field _ x _=>[x]
 |.indexAddr _ x i|.index _ x i=>[x,i]
 |.binOp _ _ x y _=>[x,y]
 |.unOp _ _ x|.convert _ _ x|.extract x _=>[x]
 |.slice _ x lo hi _=>x::ap (optL lo) (optL hi)
 |.box _ x=>[x]
 |.build _ ps|.buildSlice _ _ ps=>snds (toL ps)
 |.makeSlice _ l c=>[l,c]
 |.store _ x y=>[x,y]
 |.lookup _ m i _=>[m,i]
 |.mapUpdate _ m i x=>[m,i,x]
 |.makeFunc _ fs cs=>ap (toL fs) (toL cs)
 |.call c=>ap (calO c.callee) (toL c.args)
 |.makeInterface _ x|.typeAssert x _ _ _=>[x]
 |_=>[]
where
 calO:Callee->List Operand
  |.value x|.invoke x _=>[x]
  |_=>[]
 optL:Option Operand->List Operand
  |none=>[]
  |some x=>[x]
 snds:List (Nat×Operand)->List Operand
  |[]=>[]
  |(_,x)::r=>x::snds r
def evR(B:Tab)(Φ:dM)(o:bR)(env:Env)(M:Mem):Rs:=
 match o.op with
 |.pick c a b=>ck (rj env c a b) M
 |_=>(match bP B Φ o (λx=>(rd env x).strip) M with
  |⟨vc,v,e,M'⟩=>⟨ap (ip (rd env) (bq o.op)) vc,v,e,M'⟩)
def tw(B:Tab)(Φ:dM)(all:bY):List Oper->Env->Mem->(Env->Mem->Prop)->Prop
 |[],env,M,K=>K env M
 |o::rest,env,M,K=>
  (match o.guard with
  |none=>(match evR B Φ o env M with
   |⟨vc,v,e,M'⟩=>conj vc (tw B Φ all rest (wr o.dst v (fL env e)) M' K))
  |some (j,want)=>(match iN all j,evR B Φ o env M with
   |some dj,⟨vc,v,e,M'⟩=>bif aP [gW (gt env dj),gb o,dv M e]then
     imp (gc (gt env dj) want) vc (tw B Φ all rest (wr o.dst (.gd j want (gc (gt env dj) want) (avF M M' v)) env) M K)else False
   |none,_=>False))
def dw(B:Tab)(Φ:dM)(all:bY):List Oper->Env->Mem->(Env->Prop)->Prop
 |[],env,_,K=>K env
 |o::rest,env,M,K=>
  (match o.guard with
  |none=>(match evR B Φ o env M with
   |⟨vc,v,e,M'⟩=>bif aP [gb o,dv M e]then conj vc (dw B Φ all rest (wr o.dst (avF M M' v) env) M K)else False)
  |some (j,want)=>(match iN all j,evR B Φ o env M with
   |some dj,⟨vc,v,e,M'⟩=>bif aP [gW (gt env dj),gb o,dv M e]then
     imp (gc (gt env dj) want) vc (dw B Φ all rest (wr o.dst (.gd j want (gc (gt env dj) want) (avF M M' v)) env) M K)else False
   |none,_=>False))
def vV:List (Nat×Bool)->Nat->Bool->Bool
 |[],_,_=>false
 |(i,w)::r,j,w'=>bif nob (Nat.beq i j) (y4 w w')then true else vV r j w'
abbrev wa:Type:=List (Nat×Bool)
def unG(fs:wa):V->V
 |.gd j w P v=>bif vV fs j w then v else .gd j w P v
 |v=>v
def gx:V->Bool
 |.gd _ _ _ _=>true
 |_=>false
def gB(all:bY)(env:Env):Nat->Nat->Bool->List (Nat×Bool)
 |0,_,_=>[]
 |n+1,j,w=>(j,w)::(match iN all j with
  |some d=>(match gt env d with
   |.gd i w' _ _=>gB all env n i w'
   |_=>[])
  |none=>[])
def vA(t:Nat):Option Nat->Bool
 |some d=>Nat.beq d t
 |none=>false
def ES(all:bY)(c:eO)(side:bC)(v:V):V:=
 match c,v with
 |.tmp t,.gd j w P x=>bif nob (vA t (iN all j)) (y4 w side)then x else .gd j w P x
 |_,v=>v
def BA(all:bY)(fs:wa)(env:Env)(c a b:eO):List Prop×V:=
 bif aP [(rd env c).strip.isB,(rd env a).strip.isB,(rd env b).strip.isB]then
  (ap (ip (λx=>unG fs (rd env x)) [c]) (ap (pM (rd env c).strip.boolV true (ES all c true (unG fs (rd env a)))) (pM (rd env c).strip.boolV false (ES all c false (unG fs (rd env b))))),
   .d .bool (Fd (rd env c).strip.boolV a b (rd env a).strip.boolV (rd env b).strip.boolV))
 else bad
def evG(B:Tab)(Φ:dM)(all:bY)(fs:wa)(o:bR)(env:Env)(M:Mem):Rs:=
 match o.op with
 |.pick c a b=>ck (BA all fs env c a b) M
 |_=>(match bP B Φ o (λx=>(rd env x).strip) M with
  |⟨vc,v,e,M'⟩=>⟨ap (ip (λx=>unG fs (rd env x)) (bq o.op)) vc,v,e,M'⟩)
def wIn(d:Nat):List Oper->Bool
 |[]=>false
 |o::r=>bif vA d o.dst then true else wIn d r
def twG(B:Tab)(Φ:dM)(all:bY):List Oper->Env->Mem->(Env->Mem->Prop)->Prop
 |[],env,M,K=>K env M
 |o::rest,env,M,K=>
  (match o.guard with
  |none=>(match evG B Φ all [] o env M with
   |⟨vc,v,e,M'⟩=>bif gx v then False else conj vc (twG B Φ all rest (wr o.dst v (fL env e)) M' K))
  |some (j,want)=>(match iN all j,evG B Φ all (gB all env 8 j want) o env M with
   |some dj,⟨vc,v,e,M'⟩=>bif aP [gW (gt env dj),gb o,dv M e,neg (wIn dj (o::rest))]then
     imp (gc (gt env dj) want) vc (twG B Φ all rest (wr o.dst (.gd j want (gc (gt env dj) want) (avF M M' v)) env) M K)else False
   |none,_=>False))
def dwG(B:Tab)(Φ:dM)(all tl:bY):List Oper->Env->Mem->(Env->Prop)->Prop
 |[],env,_,K=>K env
 |o::rest,env,M,K=>
  (match o.guard with
  |none=>(match evG B Φ all [] o env M with
   |⟨vc,v,e,M'⟩=>bif aP [gb o,dv M e]then conj vc (dwG B Φ all tl rest (wr o.dst (avF M M' v) env) M K)else False)
  |some (j,want)=>(match iN all j,evG B Φ all (gB all env 8 j want) o env M with
   |some dj,⟨vc,v,e,M'⟩=>bif aP [gW (gt env dj),gb o,dv M e,neg (wIn dj (o::rest)),neg (wIn dj tl)]then
     imp (gc (gt env dj) want) vc (dwG B Φ all tl rest (wr o.dst (.gd j want (gc (gt env dj) want) (avF M M' v)) env) M K)else False
   |none,_=>False))
def nogd:Env->Bool
 |[]=>true
 |(_,v)::r=>bif gx v then false else nogd r
def lE:Op->Bool
 |.move _|.assign _|.nilCheck _|.load _ _|.fieldAddr _ _ _|.field _ _ _|.indexAddr _ _ _|.index _ _ _|.binOp _ _ _ _ _|.unOp _ _ _|.convert _ _ _=>true
 |_=>false
def cG:V->Bool
 |.d _ _|.nl|.np|.u=>true
 |.p a b=>nob (cG a) (cG b)
 |.ag v|.fn _ v|.bx v=>cG v
 |_=>false
def vq(env:Env):List Operand->Bool
 |[]=>true
 |x::r=>nob (cG (rd env x)) (vq env r)
def Ux(B:Tab)(e:bW):Ob:=⟨.pt (B.σ e).deep,(B.σ e).deep.dflt⟩
def agm(d:Nat):V->Bool
 |.ad k [.de]=>Nat.beq k d
 |_=>false
def one1(d:Nat):Rs->Option Ob
 |⟨[],_,_,[(k,ob)]⟩=>bif Nat.beq k d then some ob else none
 |_=>none
def bx(_:Tab)(_:dM)(_:bY)(_:Env)(_:Mem)(_:Env->Mem->Prop):Prop:=False
def mF:Op->Bool
 |.move _|.assign _|.extract _ _=>true
 |_=>false
def newK:Op->Bool
 |.alloc _|.build _ _|.makeSlice _ _ _=>true
 |.buildSlice _ n p=>nob (Nat.beq n 0) (Nat.beq (len (toL p)) 0)
 |.call c=>(match c.callee with
  |.value _|.builtin .len=>true
  |_=>false)
 |_=>false
def n9(M:Mem):V->Bool
 |.p a b=>nob (n9 M a) (n9 M b)
 |.ag v|.fn _ v|.bx v=>n9 M v
 |.ref k _|.ad k _=>neg (isN (go M k))
 |.gd _ _ _ _|.ifc _ _|.tup _=>false
 |_=>true
def xG(M:Mem)(env:Env):List Operand->Bool
 |[]=>true
 |x::r=>nob (n9 M (rd env x)) (xG M env r)
def sldK(o:Op)(env:Env):Bool:=
 match o with
 |.slice _ _ _ _ none=>vq env (bq o)
 |_=>false
def litK(o:Op)(env:Env):Bool:=
 match o with
 |.buildSlice _ _ _=>vq env (bq o)
 |.call c=>(match c.callee with
  |.builtin .append=>vq env (bq o)
  |_=>false)
 |_=>false
def pV(M:Mem)(o:Op)(env:Env):Bool:=orb (mF o) (orb (orb (sldK o env) (litK o env)) (nob (orb (lE o) (newK o)) (xG M env (bq o))))
def klB:List Ev->Mem->Bool
 |[],[]=>true
 |.kl k::r,(j,_)::N=>nob (Nat.beq k j) (klB r N)
 |_,_=>false
def rD:List Nat->Mem->Bool
 |[],_=>true
 |k::r,M=>nob (isN (go M k)) (rD r M)
def mi:V->Bool
 |.p a b=>nob (mi a) (mi b)
 |.ag v|.tup v|.fn _ v|.ifc _ v|.bx v=>mi v
 |.gd _ _ _ _=>false
 |_=>true
def lD:Env->Bool
 |[]=>true
 |(_,v)::r=>nob (mi v) (lD r)
def kQ:Op->Bool
 |.build _ _|.slice _ _ _ _ none=>true
 |.call c=>(match c.callee with
  |.builtin .len=>true
  |_=>false)
 |_=>false
def hU(o:Op):Bool:=nob (orb (lE o) (kQ o)) (neg (mF o))
def ksV(ks:bK):V->Bool
 |.d _ _|.nl|.np|.u=>true
 |.p a b=>nob (ksV ks a) (ksV ks b)
 |.ag v|.fn _ v|.bx v=>ksV ks v
 |.ref k _|.ad k _=>inN k ks
 |_=>false
def jx(ks:bK)(env:Env):List Operand->Bool
 |[]=>true
 |x::r=>nob (ksV ks (rd env x)) (jx ks env r)
def xK(env:Env):List Oper->List Nat
 |[]=>[]
 |o::r=>(match o.op with
  |.load _ (.tmp t)=>(match gt env t with
   |.bx (.ad k _)=>k::xK env r
   |_=>xK env r)
  |_=>xK env r)
def F1(τ:Ty):Bool:=aP [τ.ok,cy τ.size 1,neg τ.agg]
def bxK(B:Tab)(as:bK)(o:Op)(env:Env):Bool:=
 match o with
 |.load t (.tmp t0)=>(match gt env t0 with
  |.bx (.ad k π)=>aP [kM π,inN k as,F1 (B.τ t)]
  |_=>false)
 |_=>false
def xv(as:bK):Ev->Bool
 |.kl k|.fz k _=>neg (inN k as)
 |.cut k o o'=>orb (neg (inN k as)) (oy (gH [.de] o) (gH [.de] o'))
 |.mv j _|.un j _|.kn j _=>neg (inN j as)
 |.tk k o o'=>orb (neg (inN k as)) (oy (gH [.de] o) (gH [.de] o'))
def vw(as:bK):List Ev->Bool
 |[]=>true
 |e::r=>nob (xv as e) (vw as r)
def xH(ms:bK)(o:bR):Nat:=o.after.toList.foldl (λm e=>if Region.binds .any e then m |||(1 <<< e.on) |||(ms.getD e.on 0)else m) 0
def db:List Nat->List Oper->List Nat
 |ms,[]=>ms
 |ms,o::r=>db (ms++[xH ms o]) r
def gI(n:Nat)(ms:bK)(m i:Nat):Bool:=(List.range n).any λj=>!(Nat.blt j m)&&!((ms.getD j 0).testBit i)
def Fh(l:bY)(m:Nat):List Bool:=(List.range m).map λi=>gI (len l) (db [] l) m i
def tJ:List Bool->Bool
 |[]=>false
 |b::_=>b
def rp:List Bool->List Bool
 |[]=>[]
 |_::r=>r
abbrev fw:Type:=List Bool
def hx(D:fw)(ks as:bK)(B:Tab)(Φ:dM)(M0:Mem):List Oper->Env->Mem->(Env->Mem->Prop)->Prop
 |[],env,X,K=>K env X
 |o::r,env,X,K=>
  (match o.guard,o.dst with
  |none,some d=>bif pV (ap X M0) o.op env then (match evR B Φ o env (ap X M0)with
   |⟨vc,v,e,N⟩=>bif aP [klB e (du (len e) N),rD (bJ (du (len e) N)) M0,rD (bJ (du (len e) N)) X,mi v,orb (neg (tJ D)) (orb (neg (hU o.op)) (orb (bxK B as o.op env) (nob (jx ks env (bq o.op)) (ksV ks v))))]then conj vc (hx (rp D) ks as B Φ M0 r ((d,v)::env) (ap (du (len e) N) X) K)else False)else False
  |_,_=>False)
def agl(o:bR):Bool:=
 match o.op with
 |.call c=>(match c.callee with
  |.value _=>true
  |_=>false)
 |_=>false
def Bj(o:bR):Bool:=
 match o.op with
 |.call c=>(match c.callee with
  |.value _|.builtin .append=>true
  |_=>false)
 |.buildSlice _ _ _|.binOp _ _ _ _ _|.unOp _ _ _|.convert _ _ _=>true
 |_=>false
def d9(ks:bK):Ev->Bool
 |.kl k|.fz k _|.cut k _ _=>neg (inN k ks)
 |.mv j k|.un j k=>nob (neg (inN j ks)) (neg (inN k ks))
 |.kn j _=>neg (inN j ks)
 |.tk k _ _=>neg (inN k ks)
def bL(ks:bK):List Ev->Bool
 |[]=>true
 |e::r=>nob (d9 ks e) (bL ks r)
def mz(l:bY)(m:Nat):List Bool:=(List.range (Nat.sub (len l) m)).map λj=>(List.range m).any λi=>!(((db [] l).getD (Nat.add m j) 0).testBit i)
def xU:List Bool->List Oper->List Oper
 |b::bs,o::r=>bif nob b (hU o.op)then o::xU bs r else xU bs r
 |_,_=>[]
def my(l:bY)(m:Nat):List (List Oper):=(List.range (Nat.sub (len l) m)).map λj=>xU ((List.range m).map λi=>!(((db [] l).getD (Nat.add m j) 0).testBit i)) (du m l)
def hdP:List (List Oper)->List Oper
 |[]=>[]
 |a::_=>a
def tlP:List (List Oper)->List (List Oper)
 |[]=>[]
 |_::r=>r
def Bd:bA->bA->Bool
 |[],[]=>true
 |.l::a,.l::b|.r::a,.r::b|.de::a,.de::b=>Bd a b
 |.ix i::a,.ix j::b=>nob (Nat.beq i j) (Bd a b)
 |_,_=>false
def L1:V->V->Bool
 |.ref k π,.ref j ρ|.ad k π,.ad j ρ=>nob (Nat.beq k j) (Bd π ρ)
 |_,_=>false
def stB(B:Tab)(Φ:dM)(ks:bK):List Oper->Env->Mem->Bool
 |[],_,_=>true
 |o::r,env,M=>(match o.dst,evR B Φ o env M with
  |some d,⟨[],v,[],_⟩=>nob (nob (pV M o.op env) (nob (jx ks env (bq o.op)) (ksV ks v))) (nob (L1 v (gt env d)) (stB B Φ ks r env M))
  |_,_=>false)
def BR(o:bR):Bool:=
 match o.op with
 |.store _ _ _=>true
 |_=>false
def EY:List Oper->Bool
 |[]=>true
 |o::r=>nob (neg (hU o.op)) (EY r)
def lH(ks as:bK)(B:Tab)(Φ:dM):List (List Oper)->List Bool->List Oper->Env->Mem->Bool
 |_,_,[],_,_=>true
 |ls,fs,o::r,env,M=>(match evR B Φ o env M with
  |⟨_,v,e,M'⟩=>nob (nob (nob (vw as e) (orb (neg (tJ fs)) (orb (L8 ks) (orb (neg (Bj o)) (orb (bL ks e) (stB B Φ ks (hdP ls) (wr o.dst v (fL env e)) M')))))) (orb (neg (BR o)) (orb (L8 ks) (orb (EY (hdP ls)) (orb (bL ks e) (stB B Φ ks (hdP ls) (wr o.dst v (fL env e)) M')))))) (lH ks as B Φ (tlP ls) (rp fs) r (wr o.dst v (fL env e)) M'))
def xo:List Oper->List Nat
 |[]=>[]
 |o::r=>(match o.op,o.dst with
  |.alloc _,some d=>d::xo r
  |_,_=>xo r)
def tgt(o:bR):Option Nat:=
 match o.op with
 |.store _ (.tmp d) _=>some d
 |_=>none
def FL:List Oper->List Nat
 |[]=>[]
 |o::r=>(match tgt o with
  |some d=>d::FL r
  |none=>FL r)
def JG(env:Env):List Operand->List Nat
 |[]=>[]
 |x::r=>(match rd env x with
  |.ad k _|.ref k _=>k::JG env r
  |_=>JG env r)
def t6(env:Env):List Oper->List Nat
 |[]=>[]
 |o::r=>ap (JG env (bq o.op)) (t6 env r)
def klE:List Nat->Env->Env
 |[],env=>env
 |k::r,env=>klE r (evE (.kl k) env)
def klM:List Nat->Mem->Mem
 |[],M=>M
 |k::r,M=>klM r (del k M)
def clr:Env->Env
 |[]=>[]
 |(t,v)::r=>(match v with|.gd _ _ _ _=>(t,.any)::clr r|v=>(t,v)::clr r)
def Fy(Φ:dM)(f:gp)(ct:Ct):FuncId->Option Ct:=λg=>bif Nat.beq g f then some ct else Φ g
structure Spl where
 b:Bool
 f:FuncId
 s:Sp
def argX(s:Sp)(vs:cK)(M:Mem):Option (bo s.args):=
 match s.sh with
 |false=>jY M vs s.args
 |true=>(match eN M vs with|(e,_)=>asL (gv e vs) s.args)
def El(Φ:dM)(o:bR)(env:Env)(M:Mem):Option Spl:=
 match o.op with
 |.call c=>(match c.callee with
  |.value cx=>(match qe (rd env cx).strip with
   |some (f,v)=>(match Φ f,jT M v with
    |some ct,some cs=>(match ct.mu with
     |some (.s s)=>(match argX s (ap (gw (λx=>(rd env x).strip) (toL c.args)) cs) M with
      |some x=>some ⟨s.b x,f,s⟩
      |none=>none)
     |_=>none)
    |_,_=>none)
   |none=>none)
  |_=>none)
 |_=>none
def twS(B:Tab)(Φ:dM)(all:bY):List Oper->Env->Mem->(Env->Mem->Prop)->Prop
 |[],env,M,K=>K env M
 |o::rest,env,M,K=>bif nob (nogd env) (isN o.guard)then
  (match El Φ o env M with
  |some q=>cnd q.b (twG B (Fy Φ q.f (fO q.s true)) all [o] env M (λenv M=>twS B Φ all rest env M K)) (twG B (Fy Φ q.f (fO q.s false)) all [o] env M (λenv M=>twS B Φ all rest env M K))
  |none=>twG B Φ all [o] env M (λenv M=>twS B Φ all rest env M K))else False
def dumV:V->V
 |.d t _=>.d t t.dflt
 |_=>.any
def ifP(p x y:Prop):Prop:=(p->x)/\(¬p->y)
def twQ(B:Tab)(Φ:dM)(all:bY):List Oper->Env->Mem->(Env->Mem->Prop)->Prop
 |[],env,M,K=>K env M
 |o::rest,env,M,K=>
  (match o.guard with
  |none=>(match evG B Φ all [] o env M with
   |⟨vc,v,e,M'⟩=>bif gx v then False else conj vc (twQ B Φ all rest (wr o.dst v (fL env e)) M' K))
  |some (j,want)=>(match iN all j,evG B Φ all (gB all env 8 j want) o env M with
   |some dj,⟨vc,v,e,M'⟩=>bif aP [gW (gt env dj),neg (wIn dj (o::rest))]then
     (bif nob (gb o) (dv M e)then imp (gc (gt env dj) want) vc (twQ B Φ all rest (wr o.dst (.gd j want (gc (gt env dj) want) (avF M M' v)) env) M K)
     else bif gx v then False else ifP (gc (gt env dj) want) (conj vc (twQ B Φ all rest (wr o.dst v (fL env e)) M' K)) (twQ B Φ all rest (wr o.dst (.gd j want (gc (gt env dj) want) (dumV v)) env) M K))else False
   |none,_=>False))
def plc:List Nat->Nat->Nat
 |[],_=>0
 |k::r,i=>bif Nat.beq k i then 0 else Nat.succ (plc r i)
def FT{α β:Type}(f:α->β):List α->List β
 |[]=>[]
 |x::r=>f x::FT f r
def L4(σ:bK)(e:Edge):Edge:={ e with on:=plc σ e.on }
def rH(σ:bK)(o:bR):Oper:={ o with after:=⟨FT (L4 σ) (toL o.after)⟩ }
def nv(σ:bK)(l:bY):List Nat->List Oper
 |[]=>[]
 |k::r=>(match eQ l k with|some o=>rH σ o::nv σ l r|none=>nv σ l r)
def U9(f:bK):List Edge->Bool
 |[]=>false
 |e::r=>bif nob (Region.binds .any e) (inN e.on f)then true else U9 f r
def slow(R:bC)(o:bR):Bool:=orb (neg (gb o)) (orb (nob R (agl o)) (match o.op with
 |.box _ _=>true
 |_=>false))
def yr(R:bC):Nat->List Oper->List Nat->List Nat
 |_,[],f=>f
 |j,o::r,f=>bif orb (slow R o) (U9 f (toL o.after))then yr R (Nat.succ j) r (ap f [j])else yr R (Nat.succ j) r f
def L6(f:bK):Nat->List Oper->List Nat
 |_,[]=>[]
 |j,_::r=>bif inN j f then L6 f (Nat.succ j) r else j::L6 f (Nat.succ j) r
def Bp(R:bC)(l:bY):List Nat:=match yr R 0 l []with|f=>ap (L6 f 0 l) f
def dD(R:bC)(l:bY):List Oper:=match Bp R l with|σ=>nv σ l σ
inductive Sh where
 |d (t:T)
 |ref (k:Nat) (π:bA)
 |ad (k:Nat) (π:bA)
 |fn (f:gp)
 |bx (s:Sh)
 |fc (f:gp) (s:Sh)
 |pr (a b:Sh)
 |u
@[reducible] def Sh.den:Sh->Type
 |.d t=>t.den
 |.bx s|.fc _ s=>s.den
 |.pr a b=>a.den×b.den
 |_=>Unit
def oOf(k:Nat):List (Nat×O)->Option O
 |[]=>none
 |(j,o)::r=>bif Nat.beq j k then some o else oOf k r
def Fm(M:Mem)(os:List (Nat×O))(k:Nat)(π:bA):Bool:=
 match go M k,oOf k os with
 |some q,some o=>orb (kT π) (q.o.beq o)
 |_,_=>false
def F5(M:Mem)(os:List (Nat×O))(k:Nat)(π:bA):Bool:=
 match go M k,oOf k os with
 |some q,some o=>orb (oy (gH π q.o) (gH π o)) (q.o.beq o)
 |_,_=>false
def Sh.read(M:Mem)(os:List (Nat×O)):(s:Sh)->V->Option s.den
 |.d t,v=>v.as t
 |.ref k π,.ref k' π'=>bif nob (Fm M os k π) (nob (Nat.beq k k') (peq π π'))then some ()else none
 |.ad k π,.ad k' π'=>bif nob (F5 M os k π) (nob (Nat.beq k k') (peq π π'))then some ()else none
 |.fn f,.fn f' .u=>bif Nat.beq f f' then some ()else none
 |.bx s,.bx v=>s.read M os v
 |.fc f s,.fn f' v=>bif Nat.beq f f' then s.read M os v else none
 |.pr a b,.p v v'=>(match a.read M os v,b.read M os v' with|some x,some y=>some (x,y)|_,_=>none)
 |.u,.u=>some ()
 |_,_=>none
def Sh.put:(s:Sh)->s.den->V
 |.d t,x=>fm t x
 |.ref k π,_=>.ref k π
 |.ad k π,_=>.ad k π
 |.fn f,_=>.fn f .u
 |.bx s,x=>.bx (s.put x)
 |.fc f s,x=>.fn f (s.put x)
 |.pr a b,x=>.p (a.put x.1) (b.put x.2)
 |.u,_=>.u
abbrev Shs:=List (Nat×Sh)
abbrev Obs:=List (Nat×O)
@[reducible] def gZ:Shs->Type
 |[]=>Unit
 |(_,s)::r=>s.den×gZ r
@[reducible] def fo:Obs->Type
 |[]=>Unit
 |(_,o)::r=>o.strip.den×fo r
def yk(M:Mem)(os:Obs)(env:Env):(l:Shs)->Option (gZ l)
 |[]=>some ()
 |(t,s)::r=>(match s.read M os (gt env t),yk M os env r with|some x,some y=>some (x,y)|_,_=>none)
def pX:(l:Shs)->gZ l->Env
 |[],_=>[]
 |(t,s)::r,x=>(t,s.put x.1)::pX r x.2
def wkO(q:Ob)(o:O):Option o.strip.den:=bif q.o.wk o then gF o.strip q.x else none
def kF(M:Mem):(l:Obs)->Option (fo l)
 |[]=>some ()
 |(k,o)::r=>(match go M k with
  |some q=>(match wkO q o,kF M r with|some x,some y=>some (x,y)|_,_=>none)
  |none=>none)
def dV:(l:Obs)->fo l->Mem
 |[],_=>[]
 |(k,o)::r,x=>(k,⟨o,x.1⟩)::dV r x.2
def inO(k:Nat):Obs->Bool
 |[]=>false
 |(j,_)::r=>orb (Nat.beq j k) (inO k r)
def js(os:Obs):List Nat->Mem->Env->Env×Mem
 |[],M,env=>(env,M)
 |k::r,M,env=>bif inO k os then js os r M env else (match go M k with
  |some ob=>js os r (del k M) (evE (.fz k ob) env)
  |none=>js os r M env)
def ma(os:Obs):Shs->Env->Mem->Env×Mem
 |[],env,M=>(env,M)
 |(t,.ref k [])::r,env,M=>(match gt env t,oOf k os with
  |.nl,some (.sl o)=>ma os r ((t,.ref k [])::evE (.kl k) env) ((k,⟨.sl o,[]⟩)::del k M)
  |.ref j [],_=>bif orb (Nat.beq j k) (neg (Nat.ble (Nat.succ j) gid))then ma os r env M else (match go M j with
   |some ob=>ma os r (evE (.mv j k) (evE (.kl k) env)) ((k,ob)::del j (del k M))
   |none=>ma os r env M)
  |_,_=>ma os r env M)
 |_::r,env,M=>ma os r env M
def BD(_:Obs)(env:Env)(M:Mem):Env×Mem:=(env,M)
def tH(ss:Shs)(os:Obs)(env:Env)(M:Mem):Option ((gZ ss×fo os)×Env):=
 match ma os ss env M with
 |(env0,M0)=>match BD os env0 M0 with
 |(env1,M1)=>(match js os (bJ M1) M1 env1 with
  |(env2,M2)=>(match yk M2 os env2 ss,kF M2 os with
   |some x,some y=>some ((x,y),env2)
   |_,_=>none))
def nA(env:Env):List Nat->Env
 |[]=>[]
 |t::r=>bif cG (gt env t)then (t,gt env t)::nA env r else nA env r
def iP(k:Nat):List Nat->Bool
 |[]=>false
 |j::r=>orb (Nat.beq j k) (iP k r)
def BH(ks:bK):List Oper->Bool
 |[]=>true
 |o::r=>(match o.dst with
  |some d=>bif iP d ks then false else BH ks r
  |none=>BH ks r)
def noW(ks:bK):Code->Bool
 |.region _ ops _=>BH ks (toL ops)
 |.seq a b|.cond _ a b=>nob (noW ks a) (noW ks b)
 |.block _ c|.loop c|.scope c=>noW ks c
 |.label _|.skip|.ret|.exit _|.goto _=>true
 |_=>false
def T.oks:(t:T)->t.den->List Prop
 |.int k,n=>[inK k n]
 |.p a b,x=>ap (a.oks x.1) (b.oks x.2)
 |.sl e,l=>[(T.sl e).ok l]
 |.pt t,x|.fn _ t,x|.ifc _ t,x|.ib _ t,x=>t.oks x
 |.mp k v,l=>[(T.mp k v).ok l]
 |.op t,x=>[(T.op t).ok x]
 |.ns t,x=>[(T.ns t).ok x]
 |.str,s=>[s.size<=nb]
 |.er _,_|.bool,_|.u,_|.any,_=>[]
def Sh.oks:(s:Sh)->s.den->List Prop
 |.d t,x=>t.oks x
 |.bx s,x|.fc _ s,x=>s.oks x
 |.pr a b,x=>ap (a.oks x.1) (b.oks x.2)
 |.ref _ _,_|.ad _ _,_|.fn _,_|.u,_=>[]
def okS:(l:Shs)->gZ l->List Prop
 |[],_=>[]
 |(_,s)::r,x=>ap (s.oks x.1) (okS r x.2)
def okO:(l:Obs)->fo l->List Prop
 |[],_=>[]
 |(_,o)::r,x=>ap (o.strip.oks x.1) (okO r x.2)
def imps:List Prop->Prop->Prop
 |[],K=>K
 |p::r,K=>p->imps r K
def jz{S:Type}(body:S->(S->Prop)->Prop):Nat->S->Prop
 |0,_=>False
 |n+1,s=>body s (jz body n)
def aI{S:Type}(body:S->(S->Prop)->Prop)(s:S):Prop:=∃n,jz body n s
def bZ{S:Type}(k:S->Prop)(f:(S->Prop)->Prop):Prop:=f k
inductive Ann where
 |n
 |s (a b:Ann)
 |l (ss:Shs) (os:Obs) (ks:bK) (a:Ann)
 |j (ss:Shs) (os:Obs) (ks:bK) (a:Ann)
def Ann.fst:Ann->Ann
 |.s a _|a=>a
def Ann.snd:Ann->Ann
 |.s _ b=>b
 |a=>a
inductive Ex where
 |nm
 |ex (id:Nat)
 |rt
 |go (l:Nat)
def B0(ss:Shs)(os:Obs)(env:Env)(M:Mem)(k:gZ ss×fo os->Prop):Prop:=
 match tH ss os env M with
 |some s=>k s.1
 |none=>False
def m9(next:Env->Mem->Prop)(K:Ex->Env->Mem->Prop):Ex->Env->Mem->Prop
 |.nm,env,M=>next env M
 |.ex id,env,M=>K (.ex id) env M
 |.rt,env,M=>K .rt env M
 |.go l,env,M=>K (.go l) env M
def kh(ss:Shs)(os:Obs)(k:gZ ss×fo os->Prop)(K:Ex->Env->Mem->Prop):Ex->Env->Mem->Prop
 |.nm,env,M=>B0 ss os env M k
 |.ex id,env,M=>K (.ex id) env M
 |.rt,env,M=>K .rt env M
 |.go l,env,M=>K (.go l) env M
def qd(id:Nat)(K:Ex->Env->Mem->Prop):Ex->Env->Mem->Prop
 |.nm,env,M=>K .nm env M
 |.ex id',env,M=>bif Nat.beq id' id then K .nm env M else K (.ex id') env M
 |.rt,env,M=>K .rt env M
 |.go l,env,M=>K (.go l) env M
def scpK(K:Ex->Env->Mem->Prop):Ex->Env->Mem->Prop
 |.nm,env,M=>K .nm env M
 |.ex id,env,M=>K (.ex id) env M
 |.rt,env,M=>K .rt env M
 |.go _,_,_=>False
def onK(ss:Shs)(os:Obs)(ks:bK)(env:Env)(K:Ex->Env->Mem->Prop)(s:gZ ss×fo os):Prop:=imps (okS ss s.1) (imps (okO os s.2) (K .nm (ap (pX ss s.1) (nA env ks)) (dV os s.2)))
def decN:Nat->Nat->List Nat
 |0,_=>[]
 |f+1,n=>bif Nat.beq n 0 then []else Nat.sub (Nat.mod n 10000000) 1::decN f (Nat.div n 10000000)
def FH(n:Nat):List Nat:=decN 20 (Nat.div n 10000)
def hrC(n:Nat):Bool:=neg (Nat.ble 5000 (Nat.mod n 10000))
def mC(n:Nat):Nat:=Nat.mod n 2500
def vN(n:Nat):Nat:=bif Nat.ble 5000 n then 5000 else bif Nat.ble 3000 n then 3000 else 2000
def FC(n:Nat):Bool:=nob (Nat.ble 3000 n) (neg (Nat.ble 5000 n))
def fzL:List (Bool×O)->List (Bool×O)
 |[]=>[]
 |q::r=>(q.1,.fz q.2.strip)::fzL r
def fzX:(rt:gS)->bV rt->bV (fzL rt)
 |[],_=>()
 |_::r,x=>(x.1,fzX r x.2)
def fzCt(ct:Ct):Ct:=⟨ct.args,ct.ga,ct.pre,fzL ct.rt,λx=>fzX ct.rt (ct.res x),true,none⟩
def vS(Φ:dM):FuncId->Option Ct:=λf=>match Φ f with
 |some ct=>(match ct.mu with
  |none=>some (fzCt ct)
  |some _=>some ct)
 |none=>none
def KH(env:Env):List Operand->List Nat
 |[]=>[]
 |x::r=>(match rd env x with
  |.ref k _=>k::KH env r
  |_=>KH env r)
def AQ(env:Env):List Oper->List Nat
 |[]=>[]
 |o::r=>ap (KH env (bq o.op)) (AQ env r)
def rI:Nat->List Oper->Nat
 |i,[]=>i
 |i,o::r=>(match o.op with
  |.alloc _=>i
  |_=>rI (Nat.succ i) r)
def kN:Nat->List Oper->Nat
 |i,[]=>i
 |i,o::r=>bif gb o then kN (Nat.succ i) r else i
def TP(i:Nat)(o:bR):Oper:={ o with after:=⟨ap (toL o.after) [⟨i,.data⟩]⟩ }
def L3:Nat->Nat->List Oper->List Oper
 |_,_,[]=>[]
 |0,i,o::r=>TP i o::r
 |Nat.succ j,i,o::r=>o::L3 j i r
def FF:Nat->Nat->List Nat
 |_,0=>[]
 |a,Nat.succ k=>a::FF (Nat.succ a) k
def mvS(i j n:Nat):List Nat:=ap (FF 0 i) (j::ap (FF i (Nat.sub j i)) (FF (Nat.succ j) (Nat.sub n (Nat.succ j))))
def F7(l:bY):List Oper:=L3 (rI 0 l) (kN 0 l) l
def FG(l:bY):List Oper:=nv (mvS (kN 0 l) (rI 0 l) (len l)) (L3 (kN 0 l) (rI 0 l) l) (mvS (kN 0 l) (rI 0 l) (len l))
def hxT(_:Tab)(_:dM)(_:bY)(_:Nat)(_:Env)(_:Mem)(_:Env->Mem->Prop):Prop:=False
abbrev nK:Type:=Nat->Nat
def ev(B:Tab)(Φ:dM)(cut:nK):Code->Ann->(Ex->Env->Mem->Prop)->Env->Mem->Prop
 |.skip,_,K,env,M=>K .nm env M
 |.ret,_,K,env,M=>K .rt env M
 |.exit id,_,K,env,M=>K (.ex id) env M
 |.goto l,_,K,env,M=>K (.go l) env M
 |.label _,_,K,env,M=>K .nm env M
 |.scope c,A,K,env,M=>ev B Φ cut c A (scpK K) env M
 |.seq x y,.j ss os ks A,K,env,M=>bif noW ks x then
   bZ (onK ss os ks env (m9 (λenv M=>ev B Φ cut y A.snd K env M) K)) (λk=>ev B Φ cut x A.fst (kh ss os k (m9 (λenv M=>ev B Φ cut y A.snd K env M) K)) env M)else False
 |.seq x y,A,K,env,M=>ev B Φ cut x A.fst (m9 (λenv M=>ev B Φ cut y A.snd K env M) K) env M
 |.region id ops draw,_,K,env,M=>
  (match draw with
  |false=>bif Nat.beq (cut id) 1600 then (bif nogd env then twQ B Φ (toL ops) (toL ops) env M (λenv M=>K .nm (clr env) M)else False)else
   bif Nat.beq (cut id) 1500 then twS B Φ (toL ops) (toL ops) env M (λenv M=>K .nm (clr env) M)else
   bif nogd env then twG B Φ (toL ops) (toL ops) env M (λenv M=>K .nm (clr env) M)else False
  |true=>bif Nat.beq (cut id) 999999 then (match js [] (t6 env (toL ops)) M env with
    |(env1,M1)=>bx B Φ (toL ops) (klE (xo (toL ops)) env1) [] (λenv X=>K .nm (clr env) (ap X (klM (xo (toL ops)) M1))))else
   bif Nat.beq (cut id) 999998 then (hxT B Φ (F7 (toL ops)) (kN 0 (toL ops)) env M (λenv M=>K .nm (clr env) M)/\hxT B Φ (FG (toL ops)) (Nat.succ (kN 0 (toL ops))) env M (λenv M=>K .nm (clr env) M))else
   bif Nat.ble 10000 (cut id)then
    (match FH (cut id),hrC (cut id),mC (cut id)with
    |ks,hr,m=>bif lD env then hx (Fh (dD hr (toL ops)) m) ks [] B Φ M (du m (dD hr (toL ops))) env [] (λenv X=>bif nob (nogd env) (lH ks [] B Φ (my (dD hr (toL ops)) m) (mz (dD hr (toL ops)) m) (gu m (dD hr (toL ops))) env (ap X M))then twG B Φ (dD hr (toL ops)) (gu m (dD hr (toL ops))) env (ap X M) (λenv M=>K .nm (clr env) M)else False)else False)else
   bif Nat.ble 2000 (cut id)then
    (match (bif FC (cut id)then js [] (t6 env (toL ops)) M env else (env,M)),Nat.sub (cut id) (vN (cut id)),(bif Nat.ble 5000 (cut id)then xK env (toL ops)else [])with
    |(env,M),m,as=>bif lD env then hx (Fh (dD false (toL ops)) m) [] as B Φ M (du m (dD false (toL ops))) env [] (λenv X=>bif nob (nogd env) (lH [] as B Φ (my (dD false (toL ops)) m) (mz (dD false (toL ops)) m) (gu m (dD false (toL ops))) env (ap X M))then twG B Φ (dD false (toL ops)) (gu m (dD false (toL ops))) env (ap X M) (λenv M=>K .nm (clr env) M)else False)else False)else
   bif Nat.ble 1000 (cut id)then
    (match js [] (AQ env (toL ops)) M env with
    |(env,M)=>bif lD env then hx [] [] [] B (vS Φ) M (du (Nat.sub (cut id) 1000) (toL ops)) env [] (λenv X=>bif nogd env then twG B (vS Φ) (toL ops) (gu (Nat.sub (cut id) 1000) (toL ops)) env (ap X M) (λenv M=>K .nm (clr env) M)else False)else False)else
   bif Nat.ble 500 (cut id)then
    (bif lD env then hx [] [] [] B Φ M (du (Nat.sub (cut id) 500) (toL ops)) env [] (λenv X=>bif nogd env then twG B Φ (toL ops) (gu (Nat.sub (cut id) 500) (toL ops)) env (ap X M) (λenv M=>K .nm (clr env) M)else False)else False)else
   bif nogd env then dwG B Φ (toL ops) (gu (cut id) (toL ops)) (du (cut id) (toL ops)) env M (λenv=>twG B Φ (toL ops) (gu (cut id) (toL ops)) env M (λenv M=>K .nm (clr env) M))else False)
 |.cond (.tmp t) x y,.j ss os ks A,K,env,M=>bif aP [(gt env t).isB,noW ks x,noW ks y]then
   bZ (onK ss os ks env K) (λk=>cnd (gt env t).boolV (ev B Φ cut x A.fst (kh ss os k K) env M) (ev B Φ cut y A.snd (kh ss os k K) env M))else False
 |.cond (.tmp t) x y,A,K,env,M=>bif (gt env t).isB then cnd (gt env t).boolV (ev B Φ cut x A.fst K env M) (ev B Φ cut y A.snd K env M)else False
 |.block id c,.j ss os ks A,K,env,M=>bif noW ks c then
   bZ (onK ss os ks env K) (λk=>ev B Φ cut c A (qd id (kh ss os k K)) env M)else False
 |.block id c,A,K,env,M=>ev B Φ cut c A (qd id K) env M
 |.loop c,.l ss os ks A,K,env,M=>bif noW ks c then (match tH ss os env M with
  |some q=>aI (S:=gZ ss×fo os) (λs next=>imps (okS ss s.1) (imps (okO os s.2) (ev B Φ cut c A (kh ss os next K) (ap (pX ss s.1) (nA q.2 ks)) (dV os s.2)))) q.1
  |none=>False)else False
 |_,_,_,_,_=>False
def kV:Nat->List V->Env
 |_,[]=>[]
 |i,v::r=>(i,v)::kV (Nat.succ i) r
def gJ(B:Tab):List TypeId->(ts:eT)->bo ts->List V
 |_,[],_=>[]
 |[],t::ts,x=>fm t x.1::gJ B [] ts x.2
 |q::qs,t::ts,x=>lF (B.τ q).agg (fm t x.1)::gJ B qs ts x.2
def agL(B:Tab)(fn:Func):List Bool:=ap ((toL fn.params).map (λq=>(B.τ q).agg)) (iR false fn.nfree)
def okL:(ts:eT)->bo ts->List Prop
 |[],_=>[]
 |t::ts,x=>ap (t.oks x.1) (okL ts x.2)
def FJ(M:Mem)(o:O)(v:V):Option (o.strip.den×List Ev×Mem):=
 match v with
 |.ref r [.ix i]=>(match go M r with
  |some ⟨.sl e,l⟩=>bif eo r gid then (match wkO ⟨e,l.getD i e.dflt⟩ o with|some x=>some (x,[.kl r],del r M)|none=>none)else none
  |_=>none)
 |_=>none
def FR(M:Mem)(o:O)(v:V):Option (o.strip.den×List Ev×Mem):=
 match o with
 |.fz t=>(match cD M v with|(e,M')=>(match (v.evs e).as t with|some x=>some (x,e,M')|none=>none))
 |o=>(match conv gid o.strip v M with
  |some (q,e,M')=>(match wkO q o with|some x=>some (x,e,M')|none=>FJ M o v)
  |none=>none)
def BI(B:Tab)(env:Env)(M:Mem):ResultVar->Option V
 |.tmp t=>some (gt env t)
 |.cell t q=>(match p7 (B.τ q) M (gt env t)with|([],v)=>some v|_=>none)
def fZ:V->Bool
 |.any|.tup _|.gd _ _ _ _=>false
 |_=>true
def eS(g:bC):V->V
 |.ag v=>bif g then v else .any
 |v=>bif g then .any else v
def xS(B:Tab)(env:Env)(M:Mem):List ResultVar->(rs:gS)->Option (bV rs)
 |[],[]=>some ()
 |r::rs,q::qs=>(match BI B env M r with
  |some v=>bif fZ (eS q.1 v)then (match FR M q.2 (eS q.1 v)with
   |some (x,e,M')=>(match xS B (fL env e) M' rs qs with
    |some y=>some (x,y)
    |none=>none)
   |none=>none)else none
  |none=>none)
 |_,_=>none
def BF(o:Option (bV rt))(K:bV rt->Prop):Prop:=
 match o with
 |some r=>K r
 |none=>False
def vU(B:Tab)(rs:List ResultVar)(rt:gS)(K:bV rt->Prop):Ex->Env->Mem->Prop
 |.ex _,_,_|.go _,_,_=>False
 |.nm,env,M|.rt,env,M=>BF (xS B env M rs rt) K
def evF(B:Tab)(Φ:dM)(cut:nK)(fn:Func)(c:Code)(A:Ann)(ct:Ct)(x:bo ct.args)(K:bV ct.rt->Prop):Prop:=ev B Φ cut c A (vU B (toL fn.results) ct.rt K) (kV 0 (gJ B (toL fn.params) ct.args x)) []
def pG:Option TypeDesc->Bool
 |some (.int _)=>true
 |_=>false
def oA(P:d4):List Field->Nat->Bool
 |[],_=>true
 | f :: r, i => bif aP [neg (f.name == "_"), Nat.beq f.offset i, pG (P.underlying f.type)] then oA P r (Nat.succ i) else false
def yx(P:d4)(t:bW):Nat:=
 match P.underlying t with
 |some (.struct fs)=>bif aP [neg (P.stoodInHeld t),neg (P.eqGuardType P.depth t),oA P (toL fs) 0]then len (toL fs)else 0
 |some (.array n e)=>bif aP [neg (P.eqGuardType P.depth t),pG (P.underlying e),Nat.beq (P.cellsOf e) 1]then n else 0
 |_=>0
def JZ:Option TypeDesc->Bool
 |some (.slice _)|some (.struct _)=>true
 |_=>false
def LA(P:d4)(ms:Array Method):Option TypeDesc->Bool
 |some (.interface want)=>isN (Instr.missingMethod want ms)
 |_=>false
def isM(f:gp):Option Method->Bool
 |some m=>(match toL m.path,m.func with
  |[],some (g,b)=>nob (Nat.beq f g) (neg b)
  |_,_=>false)
 |none=>false
def Lh(P:d4)(e:Mth):Bool:=
 match P.info? e.t with
 |some inf=>aP [JZ (P.underlying e.t),LA P inf.methods (P.underlying e.i),isM e.f (inf.methods.find? (·.name==e.name))]
 |none=>false
def tY(P:d4):List Mth->Bool
 |[]=>true
 |e::r=>nob (Lh P e) (tY P r)
structure TabOk (P:d4) (B:Tab):Prop where
 τ:∀t,(B.τ t).ok=true->ty P t=B.τ t
 z:∀t,B.z t=true->∃zs,tyZ P t=some zs/\eG (B.σ t) zs=true
 q:∀t,isZ (B.q t)=false->yx P t=B.q t
 m:tY P B.m=true
def zOk(P:d4)(t:bW)(d:T):Bool:=match tyZ P t with|some zs=>eG d zs|none=>false
def tyL(P:d4):Nat->Nat->List Ty
 |0,_=>[]
 |n+1,i=>ty P i::tyL P n (Nat.succ i)
def zL(P:d4):Nat->List T->List Bool
 |_,[]=>[]
 |i,d::r=>zOk P i d::zL P (Nat.succ i) r
theorem Qd(P:d4):∀(n i t:Nat)(x:Ty),eQ (tyL P n i) t=some x->x=ty P (i+t)
 |0,_,_,_,h=>by simp[tyL,eQ]at h
 |n+1,i,0,x,h=>by simp only[tyL,eQ,aG]at h;exact h.symm
 |n+1,i,t+1,x,h=>by simp only[tyL,eQ]at h;have:=Qd P n _ t x h;rw[this];exact congrArg (ty P) (Nat.succ_add i t)
def qL(P:d4):Nat->Nat->List Nat
 |0,_=>[]
 |n+1,i=>yx P i::qL P n (Nat.succ i)
theorem R6(P:d4):∀(n i t:Nat)(x:Nat),eQ (qL P n i) t=some x->x=yx P (i+t)
 |0,_,_,_,h=>by simp[qL,eQ]at h
 |n+1,i,0,x,h=>by simp only[qL,eQ,aG]at h;exact h.symm
 |n+1,i,t+1,x,h=>by simp only[qL,eQ]at h;have:=R6 P n _ t x h;rw[this];exact congrArg (yx P) (Nat.succ_add i t)
theorem RU(P:d4):∀(l:eT)(i t:Nat)(d:T),eQ l t=some d->eQ (zL P i l) t=some (zOk P (i+t) d)
 |[],_,_,_,h=>by simp[eQ]at h
 |e::r,i,0,d,h=>by simp only[eQ,aG]at h;subst h;simp[zL,eQ]
 |e::r,i,t+1,d,h=>by simp only[eQ]at h;simp only[zL,eQ];rw[RU P r _ t d h,show Nat.succ i+t=i+(t+1)from Nat.succ_add i t]
def AU(l:List Ty)(d:eT)(z:fw)(q:bK)(m:List Mth):Tab:=
 ⟨λt=>match eQ l t with|some x=>x|none=>Fx,λt=>match eQ d t with|some x=>x|none=>.any,
  λt=>match eQ d t with|some _=>(match eQ z t with|some x=>x|none=>false)|none=>false,λt=>match eQ q t with|some x=>x|none=>0,m,false⟩
def Ld(l:List Ty)(d:eT)(z:fw)(q:bK):Tab:=AU l d z q []
theorem ZK(n:Nat)(l:List Ty)(d:eT)(z:fw)(q:bK)(m:List Mth)(h:tyL P n 0=l)(hz:zL P 0 d=z)(hq:qL P n 0=q)(hm:tY P m=true):TabOk P (AU l d z q m):=by
 constructor
 ·intro t ht;simp only[AU]at ht⊢;split at ht
  ·rename_i x hx;rw[←h]at hx;have:=Qd P n 0 t x hx;rw[this,jC]
  ·simp[Fx]at ht
 ·intro t ht;simp only[AU]at ht⊢;split at ht
  ·rename_i e he;have:=RU P d 0 t e he;rw[hz,jC]at this;rw[this]at ht;simp only[zOk]at ht;split at ht
   ·rename_i zs hzs;exact⟨zs,hzs,ht⟩
   ·cases ht
  ·cases ht
 ·intro t ht;simp only[AU]at ht⊢;split at ht
  ·rename_i x hx;rw[←hq]at hx;have:=R6 P n 0 t x hx;rw[this,jC]
  ·cases ht
 ·exact hm
theorem PE(n:Nat)(l:List Ty)(d:eT)(z:fw)(q:bK)(h:tyL P n 0=l)(hz:zL P 0 d=z)(hq:qL P n 0=q):TabOk P (Ld l d z q):=ZK n l d z q [] h hz hq rfl
def dI:Value->Option Nat
 |.slice (some a) _ (_+1)|.pointer (some a)=>some a.block
 |_=>none
theorem OB{a:Addr}{N K:Nat}(h:dI (.slice (some a) N K)=some b):b=a.block:=by
 cases K with
 |zero=>cases h
 |succ k=>simp only[dI,aG]at h;exact h.symm
def l7(w:aK)(ety:bW)(sz:Nat)(v:bm)(n:Nat)(xs:aJ):Prop:=xs.length=n*sz/\((n=0/\∃oa,v=.slice oa 0 0)\/∃g off c cur,v=.slice (some ⟨g,off,none⟩) n (c+1)/\w.heap[g]? = some (.cells cur ety (0,0))/\n<=c+1/\c+1<=maxLen/\cur.size=off+(c+1)*sz/\(cur.toList.drop off).take (n*sz)=xs)
theorem EN(h:w.ownsRow 0 ety sz v n xs):l7 w ety sz v n xs:=by
 refine⟨h.1,?_⟩;rcases h.2 with⟨hv,hn⟩|⟨g,cap,cur,hv,hb,hg,h1,h2,h3,h4⟩
 ·exact .inl ⟨hn,none,hv⟩
 ·cases cap with
  |zero=>exact .inl ⟨aa,some ⟨g,0,none⟩,by rw[hv,show n=0 from by omega]⟩
  |succ c=>exact .inr ⟨g,0,c,cur,hv,hg,h1,h2,by rw[h3,jC],by simpa using h4⟩
def iW(w:aK)(b o:Nat)(us:aJ):Prop:=∀(j:Nat)(u:bm),us[j]? = some u->w.cell? ⟨b,o+j,none⟩=some u
def gz:(t:T)->t.den->List Value
 |.int k,n=>[.int k n]
 |.bool,b=>[.bool b]
 |.str,s=>[.string s]
 |.p a b,x=>gz a x.1++gz b x.2
 |_,_=>[]
def isP:T->Bool
 |.p _ _=>true
 |_=>false
def cw(t:T)(x:t.den):Value:=bif isP t then .agg (gz t x).toArray else (gz t x).headD undef
def nC(k v:T)(es:Array MapEntry)(l:List (k.den×v.den)):Prop:=es.toList.map (λe=>(e.key,e.val))=l.map λx=>(cw k x.1,cw v x.2)
def ah(Im:aT)(w:aK):(t:T)->t.den->List Value->Prop
 |.int k,n,vs=>vs=[.int k n]/\inK k n
 |.bool,b,vs=>vs=[.bool b]
 |.str,s,vs=>vs=[.string s]/\s.size<=nb
 |.u,_,vs=>vs=[]
 |.p a b,x,vs=>∃va vb,vs=va++vb/\ah Im w a x.1 va/\ah Im w b x.2 vb
 |.sl e,l,vs=>∃oa cap,vs=[.slice oa l.length cap]/\(l.length<=nb/\l.length<=cap)/\(oa=none->l.length=0/\cap=0)/\
   ∀a,oa=some a->0<l.length->a.spot=none/\Im a.block/\∀(i:Nat)(x:e.den),l[i]? = some x->∃us,iW w a.block (a.off+i*e.size) us/\ah Im w e x us
 |.pt t,x,vs=>∃b o us,vs=[.pointer (some ⟨b,o,none⟩)]/\Im b/\iW w b o us/\ah Im w t x us
 |.fn f t,x,vs=>∃us:List Value,vs=[.func (.func f) #[] us.toArray]/\ah Im w t x us
 |.ifc i t,x,vs=>∃u:Value,vs=[.iface i u]/\ah Im w t x [u]
 |.ib i t,x,vs=>∃us:List Value,vs=[.iface i (.agg us.toArray)]/\ah Im w t x us
 |.mp k v,l,vs=>∃r es n,vs=[.map (some r)]/\Im r/\w.heap[r]? = some (.map es n)/\(T.mp k v).ok l/\nC k v es l
 |.op t,x,vs=>vs.length=t.size/\(∀v∈vs,v.oneCell'=true)/\∀y,x=some y->ah Im w t y vs
 |.ns t,x,vs=>(x=none/\vs=[.slice none 0 0])\/∃y a n c,x=some y/\vs=[.slice a n c]/\ah Im w t y vs
 |.er i,x,vs=>(x=false/\vs=[.nilIface])\/∃s,x=true/\vs=[.iface i (.agg #[.string s])]
 |.any,_,vs=>∃v:Value,vs=[v]/\v.oneCell'=true
def O.size(o:O):Nat:=o.strip.size
def Rel(Im:aT)(w:aK):(o:O)->o.strip.den->(Nat->Prop)->List Value->Prop
 |.fz t,x,_,vs=>ah Im w t x vs
 |.p a b,x,S,vs=>∃va vb,∃S1 S2:Nat->Prop,vs=va++vb/\(∀c,S1 c->S c)/\(∀c,S2 c->S c)/\(∀c,S1 c->¬S2 c)/\Rel Im w a x.1 S1 va/\Rel Im w b x.2 S2 vb
 |.sl e,l,S,vs=>∃v ety xs,∃T:Nat->Nat->Prop,vs=[v]/\l7 w ety e.size v l.length xs/\l.length<=nb/\(∀c,dI v=some c->S c)/\(∀i c,T i c->S c/\dI v≠some c)/\
   (∀i j c,i≠j->T i c->¬T j c)/\∀(i:Nat)(x:e.strip.den),l[i]? = some x->Rel Im w e x (T i) ((xs.drop (i*e.size)).take e.size)
 |.mp k v,l,S,vs=>∃r es n,vs=[.map (some r)]/\S r/\w.heap[r]? = some (.map es n)/\(T.mp k v).ok l/\nC k v es l
 |.op e,x,S,vs=>vs.length=e.size/\(∀v∈vs,v.oneCell'=true)/\∀y,x=some y->Rel Im w e y S vs
 |.pt o,x,S,vs=>∃b us ty' S',vs=[.pointer (some ⟨b,0,none⟩)]/\S b/\w.heap[b]? = some (.cells (us:aJ).toArray ty' (0,0))/\(∀c,S' c->S c/\c≠b)/\Rel Im w o x S' us
def cN(Im Im':aT)(w w':aK):Prop:=∀b,Im b->Im' b/\w'.heap[b]? = w.heap[b]?
theorem cN.refl(Im:aT)(w:aK):cN Im Im w w:=λ_ h=>⟨h,rfl⟩
theorem cN.trans{I1 I2 I3:aT}{a b:aK}(h:cN I1 I2 a b)(k:cN I2 I3 b c):cN I1 I3 a c:=λx hx=>⟨(k x (h x hx).1).1,((k x (h x hx).1).2).trans (h x hx).2⟩
theorem iW.keep{o:Nat}(h:w'.heap[b]? = w.heap[b]?)(r:iW w b o us):iW w' b o us:=λj u hu=>by rw[←r j u hu];simp[World.cell?,h]
theorem ah.keep{Im Im':aT}{w w':aK}(h:cN Im Im' w w'):(t:T)->(x:t.den)->(vs:aJ)->ah Im w t x vs->ah Im' w' t x vs
 |.int _,_,_,r|.bool,_,_,r|.str,_,_,r|.u,_,_,r|.any,_,_,r=>by simpa only [ah]using r
 |.p a b,x,vs,r=>by simp only[ah]at r⊢;obtain⟨va,vb,h1,h2,h3⟩:=r;exact⟨va,vb,h1,ah.keep h a _ _ h2,ah.keep h b _ _ h3⟩
 |.sl e,l,vs,r=>by simp only[ah]at r⊢;obtain⟨oa,cap,h1,h2,h3,h4⟩:=r;refine⟨oa,cap,h1,h2,h3,λa ha hpos=>?_⟩;obtain⟨k1,k2,k3⟩:=h4 a ha hpos;refine⟨k1,(h _ k2).1,λi x hx=>?_⟩;obtain⟨us,u1,u2⟩:=k3 i x hx;exact⟨us,u1.keep (h _ k2).2,ah.keep h e x us u2⟩
 |.pt t,x,vs,r=>by simp only[ah]at r⊢;obtain⟨b,o,us,h1,h2,h3,h4⟩:=r;exact⟨b,o,us,h1,(h _ h2).1,h3.keep (h _ h2).2,ah.keep h t x us h4⟩
 |.fn f t,x,vs,r=>by simp only[ah]at r⊢;obtain⟨us,h1,h2⟩:=r;exact⟨us,h1,ah.keep h t x us h2⟩
 |.ifc i t,x,vs,r|.ib i t,x,vs,r=>by simp only[ah]at r⊢;obtain⟨u,h1,h2⟩:=r;exact⟨u,h1,ah.keep h t x _ h2⟩
 |.op t,x,vs,r=>by simp only[ah]at r⊢;exact⟨r.1,r.2.1,λy hy=>ah.keep h t y vs (r.2.2 y hy)⟩
 |.ns t,x,vs,r=>by
  simp only[ah]at r⊢;rcases r with r|⟨y,a,n,c,h1,h2,h3⟩
  ·exact .inl r
  ·exact .inr ⟨y,a,n,c,h1,h2,ah.keep h t y vs h3⟩
 |.er _,_,_,r=>by simpa only [ah]using r
 |.mp k v,l,vs,r=>by simp only[ah]at r⊢;obtain⟨b,es,n,h1,h2,h3,h4⟩:=r;exact⟨b,es,n,h1,(h _ h2).1,by rw[(h _ h2).2];exact h3,h4⟩
theorem ah.len{Im:aT}{w:aK}:(t:T)->(x:t.den)->(vs:aJ)->ah Im w t x vs->vs.length=t.size
 |.int _,_,_,r=>by simp only[ah]at r;rw[r.1];rfl
 |.bool,_,_,r=>by simp only[ah]at r;rw[r];rfl
 |.str,_,_,r=>by simp only[ah]at r;rw[r.1];rfl
 |.u,_,_,r=>by simp only[ah]at r;rw[r];rfl
 |.any,_,_,r=>by simp only[ah]at r;obtain⟨v,h,_⟩:=r;rw[h];rfl
 |.p a b,x,vs,r=>by simp only[ah]at r;obtain⟨va,vb,h1,h2,h3⟩:=r;rw[h1,bj,ah.len a _ _ h2,ah.len b _ _ h3];simp[T.size]
 |.sl e,l,vs,r=>by simp only[ah]at r;obtain⟨oa,cap,h,_⟩:=r;rw[h];rfl
 |.pt t,x,vs,r=>by simp only[ah]at r;obtain⟨b,o,us,h,_⟩:=r;rw[h];rfl
 |.fn f t,x,vs,r=>by simp only[ah]at r;obtain⟨us,h,_⟩:=r;rw[h];rfl
 |.ifc i t,x,vs,r|.ib i t,x,vs,r=>by simp only[ah]at r;obtain⟨u,h,_⟩:=r;rw[h];rfl
 |.mp k v,l,vs,r=>by simp only[ah]at r;obtain⟨b,es,n,h,_⟩:=r;rw[h];rfl
 |.op t,x,vs,r=>by simp only[ah]at r;exact r.1
 |.ns t,x,vs,r=>by simp only[ah]at r;rcases r with⟨_,r⟩|⟨y,a,n,c,_,r,_⟩<;>(rw[r];rfl)
 |.er i,x,vs,r=>by simp only[ah]at r;rcases r with⟨_,r⟩|⟨s,_,r⟩<;>(rw[r];rfl)
theorem ah.ok{Im:aT}{w:aK}:(t:T)->(x:t.den)->(vs:aJ)->ah Im w t x vs->t.ok x
 |.int _,_,_,r=>by simp only[ah]at r;simp only[T.ok];exact r.2
 |.bool,_,_,r=>by simp only[T.ok]
 |.str,_,_,r=>by simp only[ah]at r;simp only[T.ok];exact r.2
 |.u,_,_,r|.any,_,_,r=>by simp only[T.ok]
 |.p a b,x,vs,r=>by simp only[ah]at r;obtain⟨va,vb,h1,h2,h3⟩:=r;simp only[T.ok];exact⟨ah.ok a _ _ h2,ah.ok b _ _ h3⟩
 |.sl e,l,vs,r=>by
  simp only[ah]at r;obtain⟨oa,cap,h1,h2,h3,h4⟩:=r;simp only[T.ok];refine⟨h2.1,λy hy=>?_⟩;obtain⟨i,hi,rfl⟩:=mL hy
  cases oa with
  |none=>have:=(h3 rfl).1;omega
  |some a=>obtain⟨us,_,u2⟩:=(h4 a rfl aa).2.2 i l[i] (bX hi);exact ah.ok e _ us u2
 |.pt t,x,vs,r=>by simp only[ah]at r;obtain⟨b,o,us,_,_,_,h⟩:=r;simp only[T.ok];exact ah.ok t x us h
 |.fn f t,x,vs,r=>by simp only[ah]at r;obtain⟨us,_,h⟩:=r;simp only[T.ok];exact ah.ok t x us h
 |.ifc i t,x,vs,r|.ib i t,x,vs,r=>by simp only[ah]at r;obtain⟨u,_,h⟩:=r;simp only[T.ok];exact ah.ok t x _ h
 |.op t,x,vs,r=>by simp only[ah]at r;simp only[T.ok];exactλy hy=>ah.ok t y vs (r.2.2 y hy)
 |.ns t,x,vs,r=>by
  simp only[ah]at r;simp only[T.ok];rcases r with⟨rfl,_⟩|⟨y,a,n,c,rfl,_,r⟩
  ·exactλy hy=>by cases hy
  ·exactλz hz=>by cases hz;exact ah.ok t y vs r
 |.er _,x,vs,r=>by simp only[T.ok]
 |.mp k v,l,vs,r=>by simp only[ah]at r;obtain⟨b,es,n,_,_,_,h4,_⟩:=r;exact h4
theorem ah.one{Im:aT}{w:aK}:(t:T)->(x:t.den)->(vs:aJ)->ah Im w t x vs->∀v∈vs,v.oneCell'=true
 |.int _,_,_,r=>by simp only[ah]at r;rw[r.1];intro v hv;rw[cP.1 hv];rfl
 |.bool,_,_,r=>by simp only[ah]at r;rw[r];intro v hv;rw[cP.1 hv];rfl
 |.str,_,_,r=>by simp only[ah]at r;rw[r.1];intro v hv;rw[cP.1 hv];rfl
 |.u,_,_,r=>by simp only[ah]at r;rw[r];intro v hv;cases hv
 |.any,_,_,r=>by simp only[ah]at r;obtain⟨u,h,h1⟩:=r;rw[h];intro v hv;rw[cP.1 hv];exact h1
 |.p a b,x,vs,r=>by
  simp only[ah]at r;obtain⟨va,vb,h1,h2,h3⟩:=r;rw[h1];intro v hv;rcases dN.1 hv with hv|hv
  ·exact ah.one a _ _ h2 v hv
  ·exact ah.one b _ _ h3 v hv
 |.sl e,l,vs,r=>by simp only[ah]at r;obtain⟨oa,cap,h,_⟩:=r;rw[h];intro v hv;rw[cP.1 hv];rfl
 |.pt t,x,vs,r=>by simp only[ah]at r;obtain⟨b,o,us,h,_⟩:=r;rw[h];intro v hv;rw[cP.1 hv];rfl
 |.fn f t,x,vs,r=>by simp only[ah]at r;obtain⟨us,h,_⟩:=r;rw[h];intro v hv;rw[cP.1 hv];rfl
 |.ifc i t,x,vs,r|.ib i t,x,vs,r=>by simp only[ah]at r;obtain⟨u,h,_⟩:=r;rw[h];intro v hv;rw[cP.1 hv];rfl
 |.mp k v,l,vs,r=>by simp only[ah]at r;obtain⟨b,es,n,h,_⟩:=r;rw[h];intro v hv;rw[cP.1 hv];rfl
 |.op t,x,vs,r=>by simp only[ah]at r;exact r.2.1
 |.ns t,x,vs,r=>by simp only[ah]at r;rcases r with⟨_,r⟩|⟨y,a,n,c,_,r,_⟩<;>(rw[r];intro v hv;rw[cP.1 hv];rfl)
 |.er i,x,vs,r=>by simp only[ah]at r;rcases r with⟨_,r⟩|⟨s,_,r⟩<;>(rw[r];intro v hv;rw[cP.1 hv];rfl)
theorem On(hr:∀b,dI v=some b->w'.heap[b]? = w.heap[b]?)(hown:l7 w e sz v n xs):l7 w' e sz v n xs:=by
 refine⟨hown.1,?_⟩;rcases hown.2 with hnil|⟨g,off,cap,cur,hv,hg,rest⟩
 ·exact .inl hnil
 ·exact .inr ⟨g,off,cap,cur,hv,by rw[hr g (by rw[hv];rfl)];exact hg,rest⟩
theorem Rel.keep{Im Im':aT}{w w':aK}(h:cN Im Im' w w'):(o:O)->(x:o.strip.den)->(S:aT)->(vs:aJ)->(∀b,S b->w'.heap[b]? = w.heap[b]?)->Rel Im w o x S vs->Rel Im' w' o x S vs
 |.fz t,x,S,vs,_,r=>by simp only[Rel]at r⊢;exact ah.keep h t x vs r
 |.p a b,x,S,vs,hS,r=>by simp only[Rel]at r⊢;obtain⟨va,vb,S1,S2,h1,h2,h3,h4,h5,h6⟩:=r;exact⟨va,vb,S1,S2,h1,h2,h3,h4,Rel.keep h a _ S1 _ (λc hc=>hS c (h2 c hc)) h5,Rel.keep h b _ S2 _ (λc hc=>hS c (h3 c hc)) h6⟩
 |.sl e,l,S,vs,hS,r=>by simp only[Rel]at r⊢;obtain⟨v,ety,xs,T,h1,h2,h3,h4,h5,h6,h7⟩:=r;exact⟨v,ety,xs,T,h1,On (λc hc=>hS c (h4 c hc)) h2,h3,h4,h5,h6,λi x hx=>Rel.keep h e x (T i) _ (λc hc=>hS c (h5 i c hc).1) (h7 i x hx)⟩
 |.pt o,x,S,vs,hS,r=>by simp only[Rel]at r⊢;obtain⟨b,us,ty',S',h1,h2,h3,h4,h5⟩:=r;exact⟨b,us,ty',S',h1,h2,by rw[hS b h2];exact h3,h4,Rel.keep h o x S' us (λc hc=>hS c (h4 c hc).1) h5⟩
 |.op e,x,S,vs,hS,r=>by simp only[Rel]at r⊢;exact⟨r.1,r.2.1,λy hy=>Rel.keep h e y S vs hS (r.2.2 y hy)⟩
 |.mp k v,l,S,vs,hS,r=>by simp only[Rel]at r⊢;obtain⟨b,es,n,h1,h2,h3,h4⟩:=r;exact⟨b,es,n,h1,h2,by rw[hS b h2];exact h3,h4⟩
theorem Rel.wide{Im:aT}{w:aK}:(o:O)->(x:o.strip.den)->(S S':aT)->(vs:aJ)->(∀b,S b->S' b)->Rel Im w o x S vs->Rel Im w o x S' vs
 |.fz t,x,S,S',vs,_,r=>by simpa only [Rel]using r
 |.p a b,x,S,S',vs,hS,r=>by simp only[Rel]at r⊢;obtain⟨va,vb,S1,S2,h1,h2,h3,h4,h5,h6⟩:=r;exact⟨va,vb,S1,S2,h1,λc hc=>hS c (h2 c hc),λc hc=>hS c (h3 c hc),h4,h5,h6⟩
 |.sl e,l,S,S',vs,hS,r=>by simp only[Rel]at r⊢;obtain⟨v,ety,xs,T,h1,h2,h3,h4,h5,h6,h7⟩:=r;exact⟨v,ety,xs,T,h1,h2,h3,λc hc=>hS c (h4 c hc),λi c hc=>⟨hS c (h5 i c hc).1,(h5 i c hc).2⟩,h6,h7⟩
 |.pt o,x,S,S',vs,hS,r=>by simp only[Rel]at r⊢;obtain⟨b,us,ty',S0,h1,h2,h3,h4,h5⟩:=r;exact⟨b,us,ty',S0,h1,hS b h2,h3,λc hc=>⟨hS c (h4 c hc).1,(h4 c hc).2⟩,h5⟩
 |.op e,x,S,S',vs,hS,r=>by simp only[Rel]at r⊢;exact⟨r.1,r.2.1,λy hy=>Rel.wide e y S S' vs hS (r.2.2 y hy)⟩
 |.mp k v,l,S,S',vs,hS,r=>by simp only[Rel]at r⊢;obtain⟨b,es,n,h1,h2,h3⟩:=r;exact⟨b,es,n,h1,hS b h2,h3⟩
theorem Rel.len{Im:aT}{w:aK}:(o:O)->(x:o.strip.den)->(S:aT)->(vs:aJ)->Rel Im w o x S vs->vs.length=o.size
 |.fz t,x,S,vs,r=>by simp only[Rel]at r;exact ah.len t x vs r
 |.p a b,x,S,vs,r=>by simp only[Rel]at r;obtain⟨va,vb,S1,S2,h1,h2,h3,h4,h5,h6⟩:=r;rw[h1,bj,Rel.len a _ _ _ h5,Rel.len b _ _ _ h6];simp[O.size,T.size]
 |.sl e,l,S,vs,r=>by simp only[Rel]at r;obtain⟨v,ety,xs,T,h,_⟩:=r;rw[h];rfl
 |.pt o,x,S,vs,r=>by simp only[Rel]at r;obtain⟨b,us,ty',S',h,_⟩:=r;rw[h];rfl
 |.mp k v,l,S,vs,r=>by simp only[Rel]at r;obtain⟨b,es,n,h,_⟩:=r;rw[h];rfl
 |.op e,x,S,vs,r=>by simp only[Rel]at r;exact r.1
theorem Ov(h:l7 w e sz v n xs):v.oneCell'=true:=by rcases h.2 with⟨_,oa,h⟩|⟨g,off,cap,cur,h,_⟩<;>rw[h]<;>rfl
theorem Rel.one{Im:aT}{w:aK}:(o:O)->(x:o.strip.den)->(S:aT)->(vs:aJ)->Rel Im w o x S vs->∀v∈vs,v.oneCell'=true
 |.fz t,x,S,vs,r=>by simp only[Rel]at r;exact ah.one t x vs r
 |.p a b,x,S,vs,r=>by
  simp only[Rel]at r;obtain⟨va,vb,S1,S2,h1,h2,h3,h4,h5,h6⟩:=r;rw[h1];intro v hv;rcases dN.1 hv with hv|hv
  ·exact Rel.one a _ _ _ h5 v hv
  ·exact Rel.one b _ _ _ h6 v hv
 |.sl e,l,S,vs,r=>by simp only[Rel]at r;obtain⟨v,ety,xs,T,h,h2,_⟩:=r;rw[h];intro u hu;rw[cP.1 hu];exact Ov h2
 |.pt o,x,S,vs,r=>by simp only[Rel]at r;obtain⟨b,us,ty',S',h,_⟩:=r;rw[h];intro u hu;rw[cP.1 hu];rfl
 |.mp k v,l,S,vs,r=>by simp only[Rel]at r;obtain⟨b,es,n,h,_⟩:=r;rw[h];intro u hu;rw[cP.1 hu];rfl
 |.op e,x,S,vs,r=>by simp only[Rel]at r;exact r.2.1
theorem uU(h:l7 w e sz v n xs):
  (n=0/\∃oa,v=.slice oa 0 0)\/∃g off c cur,v=.slice (some ⟨g,off,none⟩) n (c+1)/\w.heap[g]? = some (.cells cur e (0,0))/\n<=c+1/\c+1<=maxLen/\cur.size=off+(c+1)*sz/\(cur.toList.drop off).take (n*sz)=xs:=h.2
theorem AJ(hx:(cur.toList.drop off).take (n*sz)=xs)(h:((xs.drop (i*sz)).take sz)[j]? = some u):cur[off+i*sz+j]? = some u:=by
 rw[g7]at h;split at h
 ·rw[g8,←hx,g7]at h;split at h
  ·rw[g8]at h;rw[wi];simpa using h
  ·cases h
 ·cases h
theorem Rel.frz{Im Im':aT}{w:aK}(hI:∀b,Im b->Im' b):(o:O)->(x:o.strip.den)->(S:aT)->(vs:aJ)->(∀b,S b->Im' b)->Rel Im w o x S vs->ah Im' w o.strip x vs
 |.fz t,x,S,vs,_,r=>by simp only[Rel]at r;exact ah.keep (λb hb=>⟨hI b hb,rfl⟩) t x vs r
 |.p a b,x,S,vs,hS,r=>by simp only[Rel]at r;obtain⟨va,vb,S1,S2,h1,h2,h3,h4,h5,h6⟩:=r;simp only[ah];exact⟨va,vb,h1,Rel.frz hI a _ S1 _ (λc hc=>hS c (h2 c hc)) h5,Rel.frz hI b _ S2 _ (λc hc=>hS c (h3 c hc)) h6⟩
 |.sl e,l,S,vs,hS,r=>by
  simp only[Rel]at r;obtain⟨v,ety,xs,T,h1,h2,h3,h4,h5,h6,h7⟩:=r;simp only[ah];rcases uU h2 with⟨hn,hv⟩|⟨g,off,cap,cur,hv,hg,hc1,hc2,hc3,hc4⟩
  ·obtain⟨oa,hv⟩:=hv;exact⟨oa,0,by rw[h1,hv,hn],⟨h3,aa⟩,λ_=>⟨hn,rfl⟩,λa ha hpos=>aa⟩
  ·refine⟨some ⟨g,off,none⟩,cap+1,by rw[h1,hv],⟨h3,hc1⟩,λh=>by (cases h),λa ha hpos=>?_⟩;cases ha;refine⟨rfl,hS g (h4 g (by rw[hv];rfl)),λi x hx=>⟨_,?_,Rel.frz hI e x (T i) _ (λc hc=>hS c (h5 i c hc).1) (h7 i x hx)⟩⟩;intro j u hu;rw[lQ w g _ cur ety (0,0) hg];have:=AJ hc4 hu;simpa[O.size]using this
 |.pt o,x,S,vs,hS,r=>by simp only[Rel]at r;obtain⟨b,us,ty',S',h1,h2,h3,h4,h5⟩:=r;simp only[ah];refine⟨b,0,us,h1,hS b h2,λj u hu=>?_,Rel.frz hI o x S' us (λc hc=>hS c (h4 c hc).1) h5⟩;rw[lQ w b _ _ ty' (0,0) h3];simpa using hu
 |.op e,x,S,vs,hS,r=>by simp only[Rel]at r;simp only[ah];exact⟨r.1,r.2.1,λy hy=>Rel.frz hI e y S vs hS (r.2.2 y hy)⟩
 |.mp k v,l,S,vs,hS,r=>by simp only[Rel]at r;obtain⟨b,es,n,h1,h2,h3,h4⟩:=r;simp only[ah];exact⟨b,es,n,h1,hS b h2,h3,h4⟩
theorem Rel.ok{x:o.strip.den}(r:Rel Im w o x S vs):o.strip.ok x:=ah.ok _ _ _ (Rel.frz (Im':=λ_=>True) (λ_ _=>trivial) o x S vs (λ_ _=>trivial) r)
def gok:bA->(o:O)->o.strip.den->Prop
 |[],_,_=>True
 |.l::π,.p a _,x=>gok π a x.1
 |.r::π,.p _ b,x=>gok π b x.2
 |.l::π,.fz (.p a _),x=>gok π (.fz a) x.1
 |.r::π,.fz (.p _ b),x=>gok π (.fz b) x.2
 |.ix i::π,.sl e,x=>i<x.length/\gok π e (x.getD i e.dflt)
 |.de::π,.pt t,x=>gok π t x
 |_,_,_=>False
def cellsOf(w:aK)(b o n:Nat):List Value:=(List.range n).map λj=>(w.cell? ⟨b,o+j,none⟩).getD undef
abbrev Pl:=Option (Nat×Nat)
def Pl.plus(p:Pl)(n:Nat):Pl:=p.map λq=>(q.1,q.2+n)
def res(w:aK):bA->O->List Value->Pl->Option (List Value×Pl)
 |[],_,vs,ad=>some (vs,ad)
 |.l::π,.p a _,vs,ad=>res w π a (vs.take a.size) ad
 |.r::π,.p a b,vs,ad=>res w π b (vs.drop a.size) (ad.plus a.size)
 |.l::π,.fz (.p a _),vs,ad=>res w π (.fz a) (vs.take a.size) ad
 |.r::π,.fz (.p a b),vs,ad=>res w π (.fz b) (vs.drop a.size) (ad.plus a.size)
 |.ix i::π,.sl e,vs,_=>(match vs with
  |[.slice (some a) _ _]=>res w π e (cellsOf w a.block (a.off+i*e.size) e.size) (some (a.block,a.off+i*e.size))
  |_=>none)
 |.de::π,.pt t,vs,_=>(match vs with
  |[.pointer (some a)]=>res w π t (cellsOf w a.block a.off t.size) (some (a.block,a.off))
  |_=>none)
 |_,_,_,_=>none
def cn:bA->Bool
 |[]=>false
 |.l::π|.r::π=>cn π
 |.ix _::_|.de::_=>true
def dA(l:aJ)(n:Nat)(us:aJ):List Value:=l.take n++us++l.drop (n+us.length)
def eV:bA->O->List Value->List Value->List Value
 |[],_,_,us=>us
 |.l::π,.p a _,vs,us=>eV π a (vs.take a.size) us++vs.drop a.size
 |.r::π,.p a b,vs,us=>vs.take a.size++eV π b (vs.drop a.size) us
 |.l::π,.fz (.p a _),vs,us=>eV π (.fz a) (vs.take a.size) us++vs.drop a.size
 |.r::π,.fz (.p a b),vs,us=>vs.take a.size++eV π (.fz b) (vs.drop a.size) us
 |_,_,vs,_=>vs
theorem Es{a b:Ob}(h1:∀c,S1 c->S c)(h2:∀c,S2 c->S c)(h3:∀c,S1 c->¬S2 c)(ha:Rel Im w a.o a.x S1 va)(hb:Rel Im w b.o b.x S2 vb):Rel Im w (mkP a b).o (mkP a b).x S (va++vb):=by
 obtain⟨oa,xa⟩:=a;obtain⟨ob,xb⟩:=b;have key:Rel Im w (.p oa ob) (xa,xb) S (va++vb):=by simp only[Rel];exact⟨va,vb,S1,S2,rfl,h1,h2,h3,ha,hb⟩
 cases oa<;>cases ob<;>first|exact key|skip
 simp only[mkP,Rel,ah]at ha hb⊢;exact⟨va,vb,rfl,ha,hb⟩
theorem Q2(a b:Ob):(mkP a b).o.size=a.o.size+b.o.size:=by obtain⟨oa,xa⟩:=a;obtain⟨ob,xb⟩:=b;cases oa<;>cases ob<;>simp[mkP,O.size,T.size]
theorem tg(h:va.length=n):(va++vb).take n=va:=by rw[←h];exact Cj
theorem sX(h:va.length=n):(va++vb).drop n=vb:=by rw[←h];exact List.drop_left
theorem uT{o:Nat}(hl:us.length=n)(h:iW w b o us):cellsOf w b o n=us:=by
 unfold cellsOf;apply lR;intro j;rw[fQ];by_cases hj:j<n
 ·rw[nO hj,bX aa];simp only[dX];rw[h j us[j] (bX aa)];rfl
 ·rw[jj (by simpa using hj),jj aa];rfl
theorem RE{i':Nat}(hx:xs.length=n*sz)(hi:i<n)(hr:row'.length=sz):
  ((dA xs (i*sz) row').drop (i'*sz)).take sz=if i'=i then row' else (xs.drop (i'*sz)).take sz:=by
 have hle:i*sz+sz<=n*sz:=by have:=kw sz (show i+1<=n from hi);rw[jk]at this;omega
 have hs:(dA xs (i*sz) row').length=n*sz:=by simp[dA,hr];omega
 have hget:∀j,(dA xs (i*sz) row')[j]? = if j<i*sz then xs[j]? else if j<i*sz+sz then row'[j-i*sz]? else xs[j]?:=by
  intro j;unfold dA;by_cases h1:j<i*sz
  ·rw[am h1,eP,g9 (by simp;omega),g7,am h1]
  ·rw[ai h1];by_cases h2:j<i*sz+sz
   ·rw[am h2,g9 (by simp;omega),jD (by simp;omega)];congr 1;simp;omega
   ·rw[ai h2,jD (by simp;omega),g8];congr 1;simp;omega
 by_cases e:i'=i
 ·subst e;rw[am rfl];apply lR;intro j;rw[g7,g8,hget];by_cases hj:j<sz
  ·rw[am hj,ai aa,am aa];congr 1;omega
  ·rw[ai hj,jj aa]
 ·rw[ai e];apply lR;intro j;rw[g7,g7,g8,g8,hget];by_cases hj:j<sz
  ·simp only[am hj];rcases Nat.lt_or_gt_of_ne e with hlt|hlt
   ·have:=kw sz (show i'+1<=i from hlt);rw[jk]at this;rw[am aa]
   ·have:=kw sz (show i+1<=i' from hlt);rw[jk]at this;rw[ai aa,ai aa]
  ·simp only[ai hj]
theorem mZ:∀(π:bA)(o:O)(vs us:aJ),cn π=true->eV π o vs us=vs
 |[],_,_,_,h=>by simp[cn]at h
 |.l::π,.p a b,vs,us,h=>by simp only[eV];rw[mZ π a _ us (by simpa[cn]using h),kx]
 |.r::π,.p a b,vs,us,h=>by simp only[eV];rw[mZ π b _ us (by simpa[cn]using h),kx]
 |.l::π,.fz (.p a b),vs,us,h=>by simp only[eV];rw[mZ π (.fz a) _ us (by simpa[cn]using h),kx]
 |.r::π,.fz (.p a b),vs,us,h=>by simp only[eV];rw[mZ π (.fz b) _ us (by simpa[cn]using h),kx]
 |.l::π,.sl e,vs,us,h|.r::π,.sl e,vs,us,h|.l::π,.pt e,vs,us,h|.l::π,.mp _ _,vs,us,h|.l::π,.op _,vs,us,h|.r::π,.pt e,vs,us,h|.r::π,.mp _ _,vs,us,h|.r::π,.op _,vs,us,h|.l::π,.fz (.int _),vs,us,h|.l::π,.fz .bool,vs,us,h|.l::π,.fz .str,vs,us,h|.l::π,.fz .u,vs,us,h|.l::π,.fz (.sl _),vs,us,h|.l::π,.fz (.pt _),vs,us,h|.l::π,.fz (.fn _ _),vs,us,h|.l::π,.fz (.ifc _ _),vs,us,h|.l::π,.fz (.ib _ _),vs,us,h|.l::π,.fz (.mp _ _),vs,us,h|.l::π,.fz (.op _),vs,us,h|.l::π,.fz (.ns _),vs,us,h|.l::π,.fz (.er _),vs,us,h|.l::π,.fz .any,vs,us,h|.r::π,.fz (.int _),vs,us,h|.r::π,.fz .bool,vs,us,h|.r::π,.fz .str,vs,us,h|.r::π,.fz .u,vs,us,h|.r::π,.fz (.sl _),vs,us,h|.r::π,.fz (.pt _),vs,us,h|.r::π,.fz (.fn _ _),vs,us,h|.r::π,.fz (.ifc _ _),vs,us,h|.r::π,.fz (.ib _ _),vs,us,h|.r::π,.fz (.mp _ _),vs,us,h|.r::π,.fz (.op _),vs,us,h|.r::π,.fz (.ns _),vs,us,h|.r::π,.fz (.er _),vs,us,h|.r::π,.fz .any,vs,us,h|.ix _::_,_,vs,us,h|.de::_,_,vs,us,h=>by simp only[eV]
def At(w:aK)(S:aT)(vs:aJ)(ad:Pl):Prop:=∀b off,ad=some (b,off)->¬S b/\∃cur ty',w.heap[b]? = some (.cells cur ty' (0,0))/\∀(j:Nat)(u:bm),vs[j]? = some u->cur[off+j]? = some u
def Wand(Im:aT)(w:aK)(π:bA)(o:O)(x:o.strip.den)(S S':aT)(q:Ob)(vs:aJ)(pl:Pl):Prop:=
 ∀(Im':aT)(w':aK)(n:Ob)(S'':aT)(us':aJ)(ob':Ob),set π o x n=some ob'->n.o.size=q.o.size->Rel Im' w' n.o n.x S'' us'->cN Im Im' w w'->(∀c,S'' c->S c->S' c)->
  (cn π=true->∀b off,pl=some (b,off)->∀cur ty',w.heap[b]? = some (.cells cur ty' (0,0))->w'.heap[b]? = some (.cells (dA cur.toList off us').toArray ty' (0,0)))->
  (∀c,S c->¬S' c->(∀b off,pl=some (b,off)->cn π=true->c≠b)->w'.heap[c]? = w.heap[c]?)->
  ob'.o.size=o.size/\Rel Im' w' ob'.o ob'.x (λc=>(S c/\¬S' c)\/S'' c) (eV π o vs us')
def Foc(Im:aT)(w:aK)(π:bA)(o:O)(x:o.strip.den)(S:aT)(vs:aJ)(ad:Pl)(q:Ob):Prop:=
 ∃us pl,∃S':Nat->Prop,res w π o vs ad=some (us,pl)/\(∀c,S' c->S c)/\Rel Im w q.o q.x S' us/\
  (cn π=true->∃b off cur ty',pl=some (b,off)/\S b/\¬S' b/\w.heap[b]? = some (.cells cur ty' (0,0))/\∀(j:Nat)(u:bm),us[j]? = some u->cur[off+j]? = some u)/\
  (cn π=false->∃n,fh π o=some n/\pl=ad.plus n/\us=(vs.drop n).take us.length/\n+us.length<=vs.length/\∀us':List Value,us'.length=us.length->eV π o vs us'=dA vs n us')/\
  Wand Im w π o x S S' q vs pl
theorem PP(h:n+us.length<=va.length):dA va n us++vb=dA (va++vb) n us:=by unfold dA;rw[Gd aa,yF aa];simp
theorem Q6:va++dA vb n us=dA (va++vb) (va.length+n) us:=by unfold dA;rw[List.take_append,List.drop_append];have h1:va.take (va.length+n)=va:=uh aa;have h2:va.drop (va.length+n+us.length)=[]:=Ck aa;rw[h1,h2,show va.length+n-va.length=n by omega,show va.length+n+us.length-va.length=n+us.length by omega];simp
theorem Foc.left{a:O}{xa:a.strip.den}{b:Ob}{ad:Pl}{x:o.strip.den}(hres:res w (.l::π) o (va++vb) ad=res w π a va ad)(hset:∀n,set (.l::π) o x n=(set π a xa n).map λq=>mkP q b)(hsz:o.size=a.size+b.o.size)(hoff:fh (.l::π) o=fh π a)(hout:∀us,eV (.l::π) o (va++vb) us=eV π a va us++vb)(h1:∀c,S1 c->S c)(h2:∀c,S2 c->S c)(h3:∀c,S1 c->¬S2 c)(hb:Rel Im w b.o b.x S2 vb)(h:Foc Im w π a xa S1 va ad q):Foc Im w (.l::π) o x S (va++vb) ad q:=by
 obtain⟨us,pl,S',e1,e2,e3,e4,e5,e6⟩:=h;refine⟨us,pl,S',by rw[hres,e1],λc hc=>h1 c (e2 c hc),e3,λhh=>?_,λhh=>?_,?_⟩
 ·obtain⟨bb,off,cur,ty',k1,k2,k3,k4,k5⟩:=e4 (by simpa[cn]using hh);exact⟨bb,off,cur,ty',k1,h1 _ k2,k3,k4,k5⟩
 ·obtain⟨n,k1,k2,k3,k4,k5⟩:=e5 (by simpa[cn]using hh);refine⟨n,by rw[hoff,k1],k2,?_,by rw[bj];omega,λus' hl=>?_⟩
  ·rw[yF aa,Gd (by rw[iz];omega)];exact k3
  ·rw[hout,k5 us' hl,PP aa]
 ·intro Im' w' n S'' us' ob' f1 f2 f3 f4 f5 f6 f7;rw[hset]at f1
  cases hs:set π a xa n with
  |none=>rw[hs]at f1;cases f1
  |some qn=>
   rw[hs]at f1;simp only[dX,aG]at f1;subst f1;obtain⟨g1,g2⟩:=e6 Im' w' n S'' us' qn hs f2 f3 f4 (λc hc h=>f5 c hc (h1 c h)) (λhh=>f6 (by simpa[cn]using hh)) (λc hc hn hne=>f7 c (h1 c hc) hn (λbb off hp hh=>hne bb off hp (by simpa[cn]using hh)));refine⟨by rw[Q2,g1,hsz],?_⟩;rw[hout];refine Es (S1:=λc=>(S1 c/\¬S' c)\/S'' c) (S2:=S2) (λc hc=>?_) (λc hc=>?_) (λc hc hc2=>?_) g2 (Rel.keep f4 _ _ S2 _ (λc hc=>?_) hb)
   ·rcases hc with⟨hc,hn⟩|hc
    ·exact .inl ⟨h1 c hc,hn⟩
    ·exact .inr hc
   ·exact .inl ⟨h2 c hc,λhs'=>h3 c (e2 c hs') hc⟩
   ·rcases hc with⟨hc,_⟩|hc
    ·exact h3 c hc hc2
    ·exact h3 c (e2 c (f5 c hc (h2 c hc2))) hc2
   ·refine f7 c (h2 c hc) (λhs'=>h3 c (e2 c hs') hc) (λbb off hp hh e=>?_);obtain⟨b',off',cur,ty',k1,k2,_⟩:=e4 (by simpa[cn]using hh);rw[k1]at hp;cases hp;exact h3 _ k2 (e▸hc)
theorem Foc.right{b:O}{xb:b.strip.den}{a:Ob}{ad:Pl}{x:o.strip.den}(hva:va.length=a.o.size)(hres:res w (.r::π) o (va++vb) ad=res w π b vb (ad.plus a.o.size))(hset:∀n,set (.r::π) o x n=(set π b xb n).map λq=>mkP a q)(hsz:o.size=a.o.size+b.size)(hoff:fh (.r::π) o=(fh π b).map (a.o.size+·))(hout:∀us,eV (.r::π) o (va++vb) us=va++eV π b vb us)(h1:∀c,S1 c->S c)(h2:∀c,S2 c->S c)(h3:∀c,S1 c->¬S2 c)(ha:Rel Im w a.o a.x S1 va)(h:Foc Im w π b xb S2 vb (ad.plus a.o.size) q):Foc Im w (.r::π) o x S (va++vb) ad q:=by
 obtain⟨us,pl,S',e1,e2,e3,e4,e5,e6⟩:=h;refine⟨us,pl,S',by rw[hres,e1],λc hc=>h2 c (e2 c hc),e3,λhh=>?_,λhh=>?_,?_⟩
 ·obtain⟨bb,off,cur,ty',k1,k2,k3,k4,k5⟩:=e4 (by simpa[cn]using hh);exact⟨bb,off,cur,ty',k1,h2 _ k2,k3,k4,k5⟩
 ·obtain⟨n,k1,k2,k3,k4,k5⟩:=e5 (by simpa[cn]using hh);refine⟨a.o.size+n,by rw[hoff,k1];rfl,?_,?_,by rw[bj];omega,λus' hl=>?_⟩
  ·rw[k2];cases ad<;>simp[Pl.plus,wi]
  ·rw[←hva,List.drop_append,Ck aa,rQ,Ge];exact k3
  ·rw[hout,k5 us' hl,Q6,hva]
 ·intro Im' w' n S'' us' ob' f1 f2 f3 f4 f5 f6 f7;rw[hset]at f1
  cases hs:set π b xb n with
  |none=>rw[hs]at f1;cases f1
  |some qn=>
   rw[hs]at f1;simp only[dX,aG]at f1;subst f1;obtain⟨g1,g2⟩:=e6 Im' w' n S'' us' qn hs f2 f3 f4 (λc hc h=>f5 c hc (h2 c h)) (λhh=>f6 (by simpa[cn]using hh)) (λc hc hn hne=>f7 c (h2 c hc) hn (λbb off hp hh=>hne bb off hp (by simpa[cn]using hh)));refine⟨by rw[Q2,g1,hsz],?_⟩;rw[hout];refine Es (S2:=λc=>(S2 c/\¬S' c)\/S'' c) (S1:=S1) (λc hc=>?_) (λc hc=>?_) (λc hc2 hc=>?_) (Rel.keep f4 _ _ S1 _ (λc hc=>?_) ha) g2
   ·exact .inl ⟨h1 c hc,λhs'=>h3 c hc (e2 c hs')⟩
   ·rcases hc with⟨hc,hn⟩|hc
    ·exact .inl ⟨h2 c hc,hn⟩
    ·exact .inr hc
   ·rcases hc with⟨hc,_⟩|hc
    ·exact h3 c hc2 hc
    ·exact h3 c hc2 (e2 c (f5 c hc (h1 c hc2)))
   ·refine f7 c (h1 c hc) (λhs'=>h3 c hc (e2 c hs')) (λbb off hp hh e=>?_);obtain⟨b',off',cur,ty',k1,k2,_⟩:=e4 (by simpa[cn]using hh);rw[k1]at hp;cases hp;exact h3 _ (e▸hc) k2
theorem At.left{ad:Pl}(h1:∀c,S1 c->S c)(h:At w S (va++vb) ad):At w S1 va ad:=by intro b off e;obtain⟨k1,cur,ty',k2,k3⟩:=h b off e;refine⟨λhc=>k1 (h1 b hc),cur,ty',k2,λj u hu=>k3 j u ?_⟩;rw[g9 (gN.1 hu).1];exact hu
theorem At.right{ad:Pl}(hn:va.length=n)(h2:∀c,S2 c->S c)(h:At w S (va++vb) ad):At w S2 vb (ad.plus n):=by
 intro b off e
 cases ad with
 |none=>cases e
 |some p=>obtain⟨b',off'⟩:=p;simp only[Pl.plus,dX,aG,bS]at e;obtain⟨rfl,rfl⟩:=e;obtain⟨k1,cur,ty',k2,k3⟩:=h b' off' rfl;refine⟨λhc=>k1 (h2 b' hc),cur,ty',k2,λj u hu=>?_⟩;have:=k3 (n+j) u (by rw[jD aa];rw[hn,Ge];exact hu);rw[←this];congr 1;omega
theorem Y7{g cap:Nat}(hxl:xs.length=n*sz)(h1:n<=cap+1)(h2:cap+1<=maxLen)(h3:cur.size=off+(cap+1)*sz)(h4:(cur.toList.drop off).take (n*sz)=xs)(hi:i<n)(hr:row'.length=sz)(hm:m+us'.length<=sz)(hrow:row'=dA ((xs.drop (i*sz)).take sz) m us')(hg:w'.heap[g]? = some (.cells (dA cur.toList (off+i*sz+m) us').toArray ety (0,0))):l7 w' ety sz (.slice (some ⟨g,off,none⟩) n (cap+1)) n (dA xs (i*sz) row'):=by
 have hle:i*sz+sz<=n*sz:=by have:=kw sz (show i+1<=n from hi);rw[jk]at this;omega
 have hlc:off+n*sz<=cur.size:=by rw[h3];exact Nat.add_le_add_left (kw _ h1) _
 have hcl:cur.toList.length=cur.size:=ld;refine⟨by simp[dA,hr];omega,.inr ⟨g,off,cap,_,rfl,hg,h1,h2,?_,?_⟩⟩
 ·rw[List.size_toArray,←h3,←hcl];simp[dA];omega
 ·show ((dA cur.toList (off+i*sz+m) us').drop off).take (n*sz)=_;subst hrow;subst h4
  have e0:(dA cur.toList (off+i*sz+m) us').drop off=dA (cur.toList.drop off) (i*sz+m) us':=by
   unfold dA;rw[eP,yF (by simp;omega),Cl,eP,wj];congr 2
   ·omega
   ·congr 1;omega
  rw[e0];have hdl:(cur.toList.drop off).length=cur.size-off:=by rw[iz,hcl]
  generalize cur.toList.drop off=D at *;have hA:(D.take (n*sz)).length=n*sz:=hxl
  have e1:dA (D.take (n*sz)) (i*sz) (dA (((D.take (n*sz)).drop (i*sz)).take sz) m us')=dA (D.take (n*sz)) (i*sz+m) us':=by
   generalize D.take (n*sz)=A at hA hr⊢;have hsl:(dA ((A.drop (i*sz)).take sz) m us').length=sz:=hr;apply lR;intro j
   have hget:∀(B us:aJ)(p:Nat),p+us.length<=B.length->∀j,(dA B p us)[j]? = if j<p then B[j]? else if j<p+us.length then us[j-p]? else B[j]?:=by
    intro B us p hp j;unfold dA;by_cases q1:j<p
    ·rw[am q1,eP,g9 (by simp;omega),g7,am q1]
    ·rw[ai q1];by_cases q2:j<p+us.length
     ·rw[am q2,g9 (by simp;omega),jD (by simp;omega)];congr 1;simp;omega
     ·rw[ai q2,jD (by simp;omega),g8];congr 1;simp;omega
   have hrl:((A.drop (i*sz)).take sz).length=sz:=by simp;omega
   rw[hget A _ (i*sz) aa j,hget A us' (i*sz+m) aa j,hsl];by_cases q1:j<i*sz
   ·rw[am q1,am aa]
   ·rw[ai q1];by_cases q2:j<i*sz+sz
    ·rw[am q2,hget _ us' m aa];by_cases q3:j<i*sz+m
     ·rw[am aa,am q3,g7,am aa,g8];congr 1;omega
     ·rw[ai aa,ai q3];by_cases q4:j<i*sz+m+us'.length
      ·rw[am aa,am q4];congr 1;omega
      ·rw[ai aa,ai q4,g7,am aa,g8];congr 1;omega
    ·rw[ai q2,ai aa,ai aa]
  rw[e1];unfold dA;rw[eP,List.take_append,List.take_append,List.take_take,Cl];simp only[ez,hdl];rw[show min (i*sz+m) (cur.size-off)=i*sz+m by omega,show min (n*sz) (i*sz+m)=i*sz+m by omega,List.take_take,show min (i*sz+m) (n*sz)=i*sz+m by omega];rw[uh (l:=us') aa,eP];congr 3;omega
set_option maxRecDepth 4000 in
theorem pJ{Im:aT}{w:aK}:(π:bA)->(o:O)->(x:o.strip.den)->(S:aT)->(vs:aJ)->(ad:Pl)->(q:Ob)->Rel Im w o x S vs->gok π o x->get π o x=some q->At w S vs ad->Foc Im w π o x S vs ad q
 |[],o,x,S,vs,ad,q,hr,_,hg,hat=>by
  simp only[get,aG]at hg;subst hg;refine⟨vs,ad,S,rfl,λ_ h=>h,hr,λh=>by simp[cn]at h,λ_=>⟨0,rfl,by cases ad<;>simp[Pl.plus],ak,aa,λus' hl=>?_⟩,?_⟩
  ·simp only[eV,dA,List.take_zero,rQ,jC];rw[hl,Ck (aZ _),lS]
  ·intro Im' w' n S'' us' ob' f1 f2 f3 f4 f5 _ _;simp only[set,aG]at f1;subst f1;exact⟨f2,Rel.wide _ _ S'' _ _ (λc hc=>.inr hc) f3⟩
 |.l::π,.p a b,x,S,vs,ad,q,hr,hk,hg,hat=>by
  simp only[Rel]at hr;obtain⟨va,vb,S1,S2,rfl,h1,h2,h3,ha,hb⟩:=hr;have hl:=Rel.len a _ _ _ ha
  refine Foc.left (b:=⟨b,x.2⟩) (S1:=S1) (S2:=S2) (by simp only[res];rw[tg hl]) (λn=>by simp only[set];cases set π a x.1 n<;>rfl) (by simp[O.size,T.size]) (by simp only[fh]) (λus=>by simp only[eV];rw[tg hl,sX hl]) h1 h2 h3 hb
   (pJ π a x.1 S1 va ad q ha (by simpa only [gok]using hk) (by simpa only [get]using hg) (hat.left h1))
 |.r::π,.p a b,x,S,vs,ad,q,hr,hk,hg,hat=>by
  simp only[Rel]at hr;obtain⟨va,vb,S1,S2,rfl,h1,h2,h3,ha,hb⟩:=hr;have hl:=Rel.len a _ _ _ ha
  refine Foc.right (a:=⟨a,x.1⟩) (S1:=S1) (S2:=S2) hl (by simp only[res];rw[sX hl]) (λn=>by simp only[set];cases set π b x.2 n<;>rfl) (by simp[O.size,T.size])
   (by simp only[fh];cases fh π b<;>simp[O.size]) (λus=>by simp only[eV];rw[tg hl,sX hl]) h1 h2 h3 ha
   (pJ π b x.2 S2 vb (ad.plus a.size) q hb (by simpa only [gok]using hk) (by simpa only [get]using hg) (hat.right hl h2))
 |.l::π,.fz (.p a b),x,S,vs,ad,q,hr,hk,hg,hat=>by
  simp only[Rel,ah]at hr;obtain⟨va,vb,rfl,ha,hb⟩:=hr;have hl:=ah.len a _ _ ha
  refine Foc.left (a:=.fz a) (b:=⟨.fz b,x.2⟩) (S1:=λ_=>False) (S2:=λ_=>False) (by simp only[res];rw[tg hl]) (λn=>by simp only[set];cases set π (.fz a) x.1 n<;>rfl) (by simp[O.size,T.size]) (by simp only[fh]) (λus=>by simp only[eV];rw[tg hl,sX hl])
   (λ_ h=>h.elim) (λ_ h=>h.elim) (λ_ h=>h.elim) (by simpa only [Rel]using hb)
   (pJ π (.fz a) x.1 _ va ad q (by simpa only [Rel]using ha) (by simpa only [gok]using hk) (by simpa only [get]using hg) (hat.left (λ_ h=>h.elim)))
 |.r::π,.fz (.p a b),x,S,vs,ad,q,hr,hk,hg,hat=>by
  simp only[Rel,ah]at hr;obtain⟨va,vb,rfl,ha,hb⟩:=hr;have hl:=ah.len a _ _ ha
  refine Foc.right (b:=.fz b) (a:=⟨.fz a,x.1⟩) (S1:=λ_=>False) (S2:=λ_=>False) hl (by simp only[res];rw[sX hl];rfl) (λn=>by simp only[set];cases set π (.fz b) x.2 n<;>rfl) (by simp[O.size,T.size])
   (by simp only[fh];cases fh π (.fz b)<;>simp[O.size]) (λus=>by simp only[eV];rw[tg hl,sX hl])
   (λ_ h=>h.elim) (λ_ h=>h.elim) (λ_ h=>h.elim) (by simpa only [Rel]using ha)
   (pJ π (.fz b) x.2 _ vb (ad.plus a.size) q (by simpa only [Rel]using hb) (by simpa only [gok]using hk) (by simpa only [get]using hg) (hat.right hl (λ_ h=>h.elim)))
 |.ix i::π,.sl e,x,S,vs,ad,q,hr,hk,hg,hat=>by
  simp only[Rel]at hr;obtain⟨v,ety,xs,T,rfl,h2,h3,h4,h5,h6,h7⟩:=hr;simp only[gok]at hk;simp only[get]at hg;obtain⟨hi,hk⟩:=hk;rcases uU h2 with⟨hn,_⟩|⟨g,off0,cap,cur,hv,hgg,hc1,hc2,hc3,hc4⟩
  ·omega
  have hxi:x[i]? = some (x.getD i e.dflt):=by rw[bN,bX hi];rfl
  have hrow:=h7 i _ hxi;have hrl:=Rel.len e _ _ _ hrow;have hcells:iW w g (off0+i*e.size) ((xs.drop (i*e.size)).take e.size):=λj u hu=>by rw[lQ w g _ cur ety (0,0) hgg];exact AJ hc4 hu
  have hat':At w (T i) ((xs.drop (i*e.size)).take e.size) (some (g,off0+i*e.size)):=by intro b off hh;cases hh;refine⟨λhc=>(h5 i g hc).2 (by rw[hv];rfl),cur,ety,hgg,λj u hu=>?_⟩;exact AJ hc4 hu
  obtain⟨us,pl,S',e1,e2,e3,e4,e5,e6⟩:=pJ π e _ (T i) _ (some (g,off0+i*e.size)) q hrow hk hg hat';have hSg:S g:=h4 g (by rw[hv];rfl);have hgT:¬T i g:=λhc=>(h5 i g hc).2 (by rw[hv];rfl);have hres:res w (.ix i::π) (.sl e) [v] ad=some (us,pl):=by rw[hv];simp only[res,jC];rw[uT hrl hcells];exact e1
  refine⟨us,pl,S',hres,λc hc=>(h5 i c (e2 c hc)).1,e3,λ_=>?_,λh=>by simp[cn]at h,?_⟩
  ·cases hh:cn π with
   |true=>obtain⟨b,off,cur',ty',k1,k2,k3,k4,k5⟩:=e4 hh;exact⟨b,off,cur',ty',k1,(h5 i b k2).1,k3,k4,k5⟩
   |false=>
    obtain⟨n,k1,k2,k3,k4,k5⟩:=e5 hh;refine⟨g,off0+i*e.size+n,cur,ety,by rw[k2];rfl,hSg,λhc=>hgT (e2 g hc),hgg,λj u hu=>?_⟩;rw[k3,g7]at hu;split at hu
    ·rw[g8]at hu;have:=AJ hc4 hu;rw[←this];congr 1;omega
    ·cases hu
  ·intro Im' w' n S'' us' ob' f1 f2 f3 f4 f5 f6 f7;simp only[set]at f1
   cases hs:set π e (x.getD i e.dflt) n with
   |none=>rw[hs]at f1;cases f1
   |some qn=>
    rw[hs]at f1;simp only at f1
    cases hcst:ja qn e with
    |none=>rw[hcst]at f1;cases f1
    |some y=>
     rw[hcst]at f1;simp only[aG]at f1;subst f1
     have hcast:∃h:qn.o=e,y=h▸qn.x:=by
      unfold ja at hcst;split at hcst
      ·rename_i h;exact⟨O.beq_eq h,by simpa using hcst.symm⟩
      ·cases hcst
     have hul:us'.length=us.length:=by rw[Rel.len _ _ _ _ f3,Rel.len _ _ _ _ e3];exact f2
     obtain⟨g1,g2⟩:=e6 Im' w' n S'' us' qn hs f2 f3 f4 (λc hc h=>f5 c hc (h5 i c h).1) (λhh b off hp=>f6 rfl b off hp)
      (λc hc hn hne=>f7 c (h5 i c hc).1 hn (λb off hp _=>by
       cases hh:cn π with
       |true=>exact hne b off hp hh
       |false=>obtain⟨m,k1,k2,_⟩:=e5 hh;rw[k2]at hp;simp only[Pl.plus,dX,aG,bS]at hp;obtain⟨rfl,_⟩:=hp;exactλec=>hgT (ec▸hc)))
     obtain⟨rfl,rfl⟩:=hcast;have hol:(eV π qn.o ((xs.drop (i*qn.o.size)).take qn.o.size) us').length=qn.o.size:=Rel.len _ _ _ _ g2;refine⟨rfl,?_⟩;simp only[eV]
     -- the row in the new world
     have hnew:∃xs',l7 w' ety qn.o.size v x.length xs'/\∀i',(xs'.drop (i'*qn.o.size)).take qn.o.size=if i'=i then eV π qn.o ((xs.drop (i*qn.o.size)).take qn.o.size) us' else (xs.drop (i'*qn.o.size)).take qn.o.size:=by
      cases hh:cn π with
      |true=>
       obtain⟨b,off,cur',ty',k1,k2,k3,k4,k5⟩:=e4 hh;refine⟨xs,On (λb' hb'=>?_) h2,λi'=>?_⟩
       ·have hbg:b'=g:=by rw[hv]at hb';simpa[dI]using hb'.symm
        subst hbg;refine f7 b' hSg (λhc=>hgT (e2 b' hc)) (λb2 off2 hp _=>?_);rw[k1]at hp;simp only[aG,bS]at hp;intro ec;exact hgT (by rw[ec,←hp.1];exact k2)
       ·rw[mZ _ _ _ _ hh];split
        ·rename_i ei;rw[ei]
        ·rfl
      |false=>
       obtain⟨m,k1,k2,k3,k4,k5⟩:=e5 hh;have hpl:pl=some (g,off0+i*qn.o.size+m):=by rw[k2];rfl
       have hgw:=f6 rfl g _ hpl cur ety hgg;have hor:=k5 us' hul;rw[hrl]at k4;refine⟨dA xs (i*qn.o.size) (eV π qn.o ((xs.drop (i*qn.o.size)).take qn.o.size) us'),?_,λi'=>RE h2.1 hi hol⟩;rw[hv];exact Y7 h2.1 hc1 hc2 hc3 hc4 hi hol (m:=m) (us':=us') aa hor hgw
     obtain⟨xs',hx1,hx2⟩:=hnew;simp only[Rel];refine⟨v,ety,xs',λi' c=>if i'=i then (T i c/\¬S' c)\/S'' c else T i' c,rfl,by rw[fx];exact hx1,by rw[fx];exact h3,λc hc=>?_,λi' c hc=>?_,λi1 i2 c hne hc1' hc2'=>?_,λi' y hy=>?_⟩
     ·refine .inl ⟨h4 c hc,λhs'=>(h5 i c (e2 c hs')).2 hc⟩
     ·simp only at hc;by_cases ei:i'=i
      ·rw[am ei]at hc;rcases hc with⟨hc,hn⟩|hc
       ·exact⟨.inl ⟨(h5 i c hc).1,hn⟩,(h5 i c hc).2⟩
       ·refine⟨.inr hc,λhr=>?_⟩;exact (h5 i c (e2 c (f5 c hc (h4 c hr)))).2 hr
      ·rw[ai ei]at hc;exact⟨.inl ⟨(h5 i' c hc).1,λhs'=>h6 i' i c ei hc (e2 c hs')⟩,(h5 i' c hc).2⟩
     ·simp only at hc1' hc2';by_cases e1':i1=i
      ·rw[am e1']at hc1';have e2':i2≠i:=λh=>hne (e1'.trans h.symm);rw[ai e2']at hc2';rcases hc1' with⟨hc,_⟩|hc
       ·exact h6 i i2 c (dg e2') hc hc2'
       ·exact h6 i i2 c (dg e2') (e2 c (f5 c hc (h5 i2 c hc2').1)) hc2'
      ·rw[ai e1']at hc1';by_cases e2':i2=i
       ·rw[am e2']at hc2';rcases hc2' with⟨hc,_⟩|hc
        ·exact h6 i1 i c e1' hc1' hc
        ·exact h6 i1 i c e1' hc1' (e2 c (f5 c hc (h5 i1 c hc1').1))
       ·rw[ai e2']at hc2';exact h6 i1 i2 c hne hc1' hc2'
     ·rw[hx2 i'];by_cases ei:i'=i
      ·subst ei;rw[wm]at hy;simp only[hi,eX,aG]at hy;subst hy;simp only[eX];exact g2
      ·simp only[ai ei];rw[wm,ai (dg ei)]at hy;refine Rel.keep f4 _ y (T i') _ (λc hc=>f7 c (h5 i' c hc).1 (λhs'=>h6 i' i c ei hc (e2 c hs')) (λb off hp _ ec=>?_)) (h7 i' y hy)
       cases hh:cn π with
       |true=>obtain⟨b2,off2,cur',ty',k1,k2,_⟩:=e4 hh;rw[k1]at hp;simp only[aG,bS]at hp;exact h6 i' i c ei hc (by rw[ec,←hp.1];exact k2)
       |false=>obtain⟨m,k1,k2,_⟩:=e5 hh;rw[k2]at hp;simp only[Pl.plus,dX,aG,bS]at hp;exact (h5 i' c hc).2 (by rw[hv,ec,←hp.1];rfl)
 |.de::π,.pt t,x,S,vs,ad,q,hr,hk,hg,hat=>by
  simp only[Rel]at hr;obtain⟨b0,us0,ty0,S0,rfl,h2,h3,h4,h5⟩:=hr;simp only[gok]at hk;simp only[get]at hg;have hlen:=Rel.len t _ _ _ h5;have hcells:iW w b0 0 us0:=λj u hu=>by rw[lQ w b0 _ us0.toArray ty0 (0,0) h3];simpa using hu
  have hat':At w S0 us0 (some (b0,0)):=by intro b off hh;cases hh;exact⟨λhc=>(h4 b0 hc).2 rfl,us0.toArray,ty0,h3,λj u hu=>by simpa using hu⟩
  obtain⟨us,pl,S',e1,e2,e3,e4,e5,e6⟩:=pJ π t _ S0 us0 (some (b0,0)) q h5 hk hg hat';have hb0:¬S0 b0:=λhc=>(h4 b0 hc).2 rfl;refine⟨us,pl,S',?_,λc hc=>(h4 c (e2 c hc)).1,e3,λ_=>?_,λh=>by simp[cn]at h,?_⟩
  ·simp only[res];rw[uT hlen hcells];exact e1
  ·cases hh:cn π with
   |true=>obtain⟨b,off,cur',ty',k1,k2,k3,k4,k5⟩:=e4 hh;exact⟨b,off,cur',ty',k1,(h4 b k2).1,k3,k4,k5⟩
   |false=>
    obtain⟨n,k1,k2,k3,k4,k5⟩:=e5 hh;refine⟨b0,n,us0.toArray,ty0,by rw[k2];simp[Pl.plus],h2,λhc=>hb0 (e2 b0 hc),h3,λj u hu=>?_⟩;rw[k3,g7]at hu;split at hu
    ·rw[g8]at hu;simpa using hu
    ·cases hu
  ·intro Im' w' n S'' us' ob' f1 f2 f3 f4 f5 f6 f7;simp only[set]at f1
   cases hs:set π t x n with
   |none=>rw[hs]at f1;cases f1
   |some qn=>
    rw[hs]at f1;simp only[aG]at f1;subst f1;have hul:us'.length=us.length:=by rw[Rel.len _ _ _ _ f3,Rel.len _ _ _ _ e3];exact f2
    obtain⟨g1,g2⟩:=e6 Im' w' n S'' us' qn hs f2 f3 f4 (λc hc h=>f5 c hc (h4 c h).1) (λhh b off hp=>f6 rfl b off hp)
     (λc hc hn hne=>f7 c (h4 c hc).1 hn (λb off hp _=>by
      cases hh:cn π with
      |true=>exact hne b off hp hh
      |false=>obtain⟨m,k1,k2,_⟩:=e5 hh;rw[k2]at hp;simp only[Pl.plus,dX,aG,bS]at hp;obtain⟨rfl,_⟩:=hp;exact (h4 c hc).2))
    refine⟨rfl,?_⟩;simp only[eV,Rel]
    have hnew:w'.heap[b0]? = some (.cells (eV π t us0 us').toArray ty0 (0,0)):=by
     cases hh:cn π with
     |true=>
      obtain⟨b,off,cur',ty',k1,k2,k3,k4,k5⟩:=e4 hh;rw[mZ _ _ _ _ hh,f7 b0 h2 (λhc=>hb0 (e2 b0 hc)) (λb2 off2 hp _=>?_)]
      ·exact h3
      ·rw[k1]at hp;simp only[aG,bS]at hp;intro ec;exact hb0 (by rw[ec,←hp.1];exact k2)
     |false=>obtain⟨m,k1,k2,k3,k4,k5⟩:=e5 hh;have:=f6 rfl b0 m (by rw[k2];simp[Pl.plus]) us0.toArray ty0 h3;rw[this,k5 us' hul]
    refine⟨b0,_,ty0,λc=>(S0 c/\¬S' c)\/S'' c,rfl,.inl ⟨h2,λhc=>hb0 (e2 b0 hc)⟩,hnew,λc hc=>?_,g2⟩;rcases hc with⟨hc,hn⟩|hc
    ·exact⟨.inl ⟨(h4 c hc).1,hn⟩,(h4 c hc).2⟩
    ·exact⟨.inr hc,λec=>hb0 (e2 b0 (f5 b0 (ec▸hc) h2))⟩
 |.l::_,.sl _,_,_,_,_,_,_,hk,_,_|.l::_,.pt _,_,_,_,_,_,_,hk,_,_|.l::_,.fz (.int _),_,_,_,_,_,_,hk,_,_|.l::_,.fz .bool,_,_,_,_,_,_,hk,_,_|.l::_,.fz .str,_,_,_,_,_,_,hk,_,_|.l::_,.fz .u,_,_,_,_,_,_,hk,_,_|.l::_,.fz (.sl _),_,_,_,_,_,_,hk,_,_|.l::_,.fz (.pt _),_,_,_,_,_,_,hk,_,_|.l::_,.fz (.fn _ _),_,_,_,_,_,_,hk,_,_|.l::_,.fz .any,_,_,_,_,_,_,hk,_,_|.r::_,.sl _,_,_,_,_,_,_,hk,_,_|.r::_,.pt _,_,_,_,_,_,_,hk,_,_|.r::_,.fz (.int _),_,_,_,_,_,_,hk,_,_|.r::_,.fz .bool,_,_,_,_,_,_,hk,_,_|.r::_,.fz .str,_,_,_,_,_,_,hk,_,_|.r::_,.fz .u,_,_,_,_,_,_,hk,_,_|.r::_,.fz (.sl _),_,_,_,_,_,_,hk,_,_|.r::_,.fz (.pt _),_,_,_,_,_,_,hk,_,_|.r::_,.fz (.fn _ _),_,_,_,_,_,_,hk,_,_|.r::_,.fz .any,_,_,_,_,_,_,hk,_,_|.ix _::_,.fz _,_,_,_,_,_,_,hk,_,_|.ix _::_,.p _ _,_,_,_,_,_,_,hk,_,_|.ix _::_,.pt _,_,_,_,_,_,_,hk,_,_|.de::_,.fz _,_,_,_,_,_,_,hk,_,_|.de::_,.p _ _,_,_,_,_,_,_,hk,_,_|.de::_,.sl _,_,_,_,_,_,_,hk,_,_=>by simp only[gok]at hk
theorem sZ{Im:aT}{w w':aK}:(π:bA)->(o:O)->(x:o.strip.den)->(S:aT)->(vs:aJ)->(ad:Pl)->Rel Im w o x S vs->gok π o x->(∀b,S b->w'.heap[b]? = w.heap[b]?)->res w' π o vs ad=res w π o vs ad
 |[],o,x,S,vs,ad,_,_,_=>by simp only[res]
 |.l::π,.p a b,x,S,vs,ad,hr,hk,hS=>by simp only[Rel]at hr;obtain⟨va,vb,S1,S2,rfl,h1,h2,h3,ha,hb⟩:=hr;simp only[res];rw[tg (Rel.len a _ _ _ ha)];exact sZ π a x.1 S1 va ad ha (by simpa only [gok]using hk) (λc hc=>hS c (h1 c hc))
 |.r::π,.p a b,x,S,vs,ad,hr,hk,hS=>by simp only[Rel]at hr;obtain⟨va,vb,S1,S2,rfl,h1,h2,h3,ha,hb⟩:=hr;simp only[res];rw[sX (Rel.len a _ _ _ ha)];exact sZ π b x.2 S2 vb _ hb (by simpa only [gok]using hk) (λc hc=>hS c (h2 c hc))
 |.l::π,.fz (.p a b),x,S,vs,ad,hr,hk,hS=>by simp only[Rel,ah]at hr;obtain⟨va,vb,rfl,ha,hb⟩:=hr;simp only[res];rw[tg (ah.len a _ _ ha)];exact sZ π (.fz a) x.1 (λ_=>False) va ad (by simpa only [Rel]using ha) (by simpa only [gok]using hk) (λc hc=>hc.elim)
 |.r::π,.fz (.p a b),x,S,vs,ad,hr,hk,hS=>by simp only[Rel,ah]at hr;obtain⟨va,vb,rfl,ha,hb⟩:=hr;simp only[res];rw[sX (ah.len a _ _ ha)];exact sZ π (.fz b) x.2 (λ_=>False) vb _ (by simpa only [Rel]using hb) (by simpa only [gok]using hk) (λc hc=>hc.elim)
 |.ix i::π,.sl e,x,S,vs,ad,hr,hk,hS=>by
  simp only[Rel]at hr;obtain⟨v,ety,xs,T,rfl,h2,h3,h4,h5,h6,h7⟩:=hr;simp only[gok]at hk;obtain⟨hi,hk⟩:=hk;rcases uU h2 with⟨hn,_⟩|⟨g,off0,cap,cur,hv,hgg,hc1,hc2,hc3,hc4⟩
  ·omega
  have hxi:x[i]? = some (x.getD i e.dflt):=by rw[bN,bX hi];rfl
  have hrow:=h7 i _ hxi;have hrl:=Rel.len e _ _ _ hrow;have hcells:iW w g (off0+i*e.size) ((xs.drop (i*e.size)).take e.size):=λj u hu=>by rw[lQ w g _ cur ety (0,0) hgg];exact AJ hc4 hu
  have hcells':=hcells.keep (w':=w') (hS g (h4 g (by rw[hv];rfl)));rw[hv];simp only[res,jC];rw[uT hrl hcells,uT hrl hcells'];exact sZ π e _ (T i) _ _ hrow hk (λc hc=>hS c (h5 i c hc).1)
 |.de::π,.pt t,x,S,vs,ad,hr,hk,hS=>by
  simp only[Rel]at hr;obtain⟨b0,us0,ty0,S0,rfl,h2,h3,h4,h5⟩:=hr;simp only[gok]at hk;have hlen:=Rel.len t _ _ _ h5;have hcells:iW w b0 0 us0:=λj u hu=>by rw[lQ w b0 _ us0.toArray ty0 (0,0) h3];simpa using hu
  have hcells':=hcells.keep (w':=w') (hS b0 h2);simp only[res];rw[uT hlen hcells,uT hlen hcells'];exact sZ π t x S0 us0 _ h5 hk (λc hc=>hS c (h4 c hc).1)
 |.l::_,.sl _,_,_,_,_,_,_,_|.l::_,.pt _,_,_,_,_,_,_,_|.l::_,.fz (.int _),_,_,_,_,_,_,_|.l::_,.fz .bool,_,_,_,_,_,_,_|.l::_,.fz .str,_,_,_,_,_,_,_|.l::_,.fz .u,_,_,_,_,_,_,_|.l::_,.fz (.sl _),_,_,_,_,_,_,_|.l::_,.fz (.pt _),_,_,_,_,_,_,_|.l::_,.fz (.fn _ _),_,_,_,_,_,_,_|.l::_,.fz .any,_,_,_,_,_,_,_|.r::_,.sl _,_,_,_,_,_,_,_|.r::_,.pt _,_,_,_,_,_,_,_|.r::_,.fz (.int _),_,_,_,_,_,_,_|.r::_,.fz .bool,_,_,_,_,_,_,_|.r::_,.fz .str,_,_,_,_,_,_,_|.r::_,.fz .u,_,_,_,_,_,_,_|.r::_,.fz (.sl _),_,_,_,_,_,_,_|.r::_,.fz (.pt _),_,_,_,_,_,_,_|.r::_,.fz (.fn _ _),_,_,_,_,_,_,_|.r::_,.fz .any,_,_,_,_,_,_,_|.ix _::_,.fz _,_,_,_,_,_,_,_|.ix _::_,.p _ _,_,_,_,_,_,_,_|.ix _::_,.pt _,_,_,_,_,_,_,_|.de::_,.fz _,_,_,_,_,_,_,_|.de::_,.p _ _,_,_,_,_,_,_,_|.de::_,.sl _,_,_,_,_,_,_,_=>by simp only[res]
def Ref(β:gM)(M:Mem)(w:aK)(k:Nat)(π:bA)(vs:aJ):Prop:=∃ob pl,go M k=some ob/\gok π ob.o ob.x/\(∃q,get π ob.o ob.x=some q)/\res w π ob.o [β k] none=some (vs,pl)
def Adr(β:gM)(M:Mem)(w:aK)(k:Nat)(π:bA)(v:bm):Prop:=∃ob us b off,go M k=some ob/\gok π ob.o ob.x/\(∃q,get π ob.o ob.x=some q)/\cn π=true/\res w π ob.o [β k] none=some (us,some (b,off))/\v=.pointer (some ⟨b,off,none⟩)
def ac(β:gM)(M:Mem)(Im:aT)(w:aK):V->List Value->Prop
 |.p a b,vs=>∃va vb,vs=va++vb/\ac β M Im w a va/\ac β M Im w b vb
 |.u,vs=>vs=[]
 |.ref k π,vs=>Ref β M w k π vs
 |.ad k π,vs=>∃v,vs=[v]/\Adr β M w k π v
 |.d t x,vs=>ah Im w t x vs
 |.nl,vs=>∃oa,vs=[.slice oa 0 0]
 |.np,vs=>vs=[.pointer none]
 |.any,vs=>∀u∈vs,u.oneCell'=true
 |.fn f v,vs=>∃us:List Value,vs=[.func (.func f) #[] us.toArray]/\ac β M Im w v us
 |.bx v,vs=>∃b o us,vs=[.pointer (some ⟨b,o,none⟩)]/\Im b/\iW w b o us/\ac β M Im w v us
 |.ag _,_|.tup _,_|.gd _ _ _ _,_=>False
 |.ifc t v,vs=>∃u:Value,vs=[.iface t u]/\ac β M Im w v [u]
mutual
def aj(β:gM)(M:Mem)(Im:aT)(w:aK):V->Value->Prop
 |.any,_=>True
 |.ag x,v=>∃vs:List Value,v=.agg vs.toArray/\ac β M Im w x vs
 |.tup x,v=>∃vs:List Value,v=.tuple vs.toArray/\cH β M Im w x vs
 |.gd _ _ P x,v=>(P->aj β M Im w x v)/\(¬P->v=undef)
 |.ifc t x,v=>ac β M Im w (.ifc t x) [v]
 |.p a b,v=>ac β M Im w (.p a b) [v]
 |.u,v=>ac β M Im w .u [v]
 |.ref k π,v=>ac β M Im w (.ref k π) [v]
 |.ad k π,v=>ac β M Im w (.ad k π) [v]
 |.d t x,v=>ac β M Im w (.d t x) [v]
 |.nl,v=>ac β M Im w .nl [v]
 |.np,v=>ac β M Im w .np [v]
 |.fn f x,v=>ac β M Im w (.fn f x) [v]
 |.bx x,v=>ac β M Im w (.bx x) [v]
def cH(β:gM)(M:Mem)(Im:aT)(w:aK):V->List Value->Prop
 |.p a b,vs=>∃u us,vs=u::us/\aj β M Im w a u/\cH β M Im w b us
 |.u,vs=>vs=[]
 |_,_=>False
end
theorem ky(h:ac β M Im w x [v]):aj β M Im w x v:=by
 cases x with
 |any=>simp only[aj]
 |ag y|tup y|gd _ _ _ y=>simp only[ac]at h
 |ifc _ y|p a b|u|ref k π|ad k π|d t y|nl|np|fn f y|bx y=>simpa only [aj]using h
theorem ac.ev{e:Ev}(hk:cN Im Im' w w')(href:∀k π vs,Ref β M w k π vs->ac β' M' Im' w' (e.ref k π) vs)(had:∀k π v,Adr β M w k π v->ac β' M' Im' w' (e.ad k π) [v]) :
  (x:V)->(vs:aJ)->ac β M Im w x vs->ac β' M' Im' w' (x.ev e) vs
 |.p a b,vs,r=>by simp only[ac,V.ev]at r⊢;obtain⟨va,vb,h1,h2,h3⟩:=r;exact⟨va,vb,h1,ac.ev hk href had a va h2,ac.ev hk href had b vb h3⟩
 |.u,vs,r=>by simpa only [ac,V.ev]using r
 |.ref k π,vs,r=>by simp only[ac,V.ev]at r⊢;exact href k π vs r
 |.ad k π,vs,r=>by simp only[ac,V.ev]at r⊢;obtain⟨v,rfl,h⟩:=r;exact had k π v h
 |.d t x,vs,r=>by simp only[ac,V.ev]at r⊢;exact ah.keep hk t x vs r
 |.nl,vs,r|.np,vs,r|.any,vs,r=>by simpa only [ac,V.ev]using r
 |.fn f v,vs,r=>by simp only[ac,V.ev]at r⊢;obtain⟨us,h1,h2⟩:=r;exact⟨us,h1,ac.ev hk href had v us h2⟩
 |.bx v,vs,r=>by simp only[ac,V.ev]at r⊢;obtain⟨b,o,us,h1,h2,h3,h4⟩:=r;exact⟨b,o,us,h1,(hk b h2).1,h3.keep (hk b h2).2,ac.ev hk href had v us h4⟩
 |.ag _,vs,r|.tup _,vs,r|.gd _ _ _ _,vs,r=>by simp only[ac]at r
 |.ifc t v,vs,r=>by simp only[ac,V.ev]at r⊢;obtain⟨u,h1,h2⟩:=r;exact⟨u,h1,ac.ev hk href had v [u] h2⟩
mutual
theorem aj.ev{e:Ev}(hk:cN Im Im' w w')(href:∀k π vs,Ref β M w k π vs->ac β' M' Im' w' (e.ref k π) vs)(had:∀k π v,Adr β M w k π v->ac β' M' Im' w' (e.ad k π) [v]) :
  (x:V)->(v:bm)->aj β M Im w x v->aj β' M' Im' w' (x.ev e) v
 |.any,v,r=>by simp only[V.ev,aj]
 |.ag x,v,r=>by simp only[aj,V.ev]at r⊢;obtain⟨vs,h1,h2⟩:=r;exact⟨vs,h1,ac.ev hk href had x vs h2⟩
 |.tup x,v,r=>by simp only[aj,V.ev]at r⊢;obtain⟨vs,h1,h2⟩:=r;exact⟨vs,h1,cH.ev hk href had x vs h2⟩
 |.gd j b P x,v,r=>by simp only[aj,V.ev]at r⊢;exact⟨λhp=>aj.ev hk href had x v (r.1 hp),r.2⟩
 |.ifc t x,v,r|.p a b,v,r|.u,v,r|.ref k π,v,r|.ad k π,v,r|.d t x,v,r|.nl,v,r|.np,v,r|.fn f x,v,r|.bx x,v,r=>by simp only[aj]at r;exact ky (ac.ev hk href had _ _ r)
theorem cH.ev{e:Ev}(hk:cN Im Im' w w')(href:∀k π vs,Ref β M w k π vs->ac β' M' Im' w' (e.ref k π) vs)(had:∀k π v,Adr β M w k π v->ac β' M' Im' w' (e.ad k π) [v]) :
  (x:V)->(vs:aJ)->cH β M Im w x vs->cH β' M' Im' w' (x.ev e) vs
 |.p a b,vs,r=>by simp only[cH,V.ev]at r⊢;obtain⟨u,us,h1,h2,h3⟩:=r;exact⟨u,us,h1,aj.ev hk href had a u h2,cH.ev hk href had b us h3⟩
 |.u,vs,r=>by simpa only [cH,V.ev]using r
 |.any,vs,r|.ag x,vs,r|.tup x,vs,r|.gd j b P x,vs,r|.ifc t x,vs,r|.ref k π,vs,r|.ad k π,vs,r|.d t x,vs,r|.nl,vs,r|.np,vs,r|.fn f x,vs,r|.bx x,vs,r=>by simp only[cH]at r
end
theorem ac.keep(hk:cN Im Im' w w')(href:∀k π vs,Ref β M w k π vs->Ref β' M' w' k π vs)(had:∀k π v,Adr β M w k π v->Adr β' M' w' k π v) :
  (x:V)->(vs:aJ)->ac β M Im w x vs->ac β' M' Im' w' x vs
 |.p a b,vs,r=>by simp only[ac]at r⊢;obtain⟨va,vb,h1,h2,h3⟩:=r;exact⟨va,vb,h1,ac.keep hk href had a va h2,ac.keep hk href had b vb h3⟩
 |.u,vs,r=>by simpa only [ac]using r
 |.ref k π,vs,r=>by simp only[ac]at r⊢;exact href k π vs r
 |.ad k π,vs,r=>by simp only[ac]at r⊢;obtain⟨v,rfl,h⟩:=r;exact⟨v,rfl,had k π v h⟩
 |.d t x,vs,r=>by simp only[ac]at r⊢;exact ah.keep hk t x vs r
 |.nl,vs,r|.np,vs,r|.any,vs,r=>by simpa only [ac]using r
 |.fn f v,vs,r=>by simp only[ac]at r⊢;obtain⟨us,h1,h2⟩:=r;exact⟨us,h1,ac.keep hk href had v us h2⟩
 |.bx v,vs,r=>by simp only[ac]at r⊢;obtain⟨b,o,us,h1,h2,h3,h4⟩:=r;exact⟨b,o,us,h1,(hk b h2).1,h3.keep (hk b h2).2,ac.keep hk href had v us h4⟩
 |.ag _,vs,r|.tup _,vs,r|.gd _ _ _ _,vs,r=>by simp only[ac]at r
 |.ifc t v,vs,r=>by simp only[ac]at r⊢;obtain⟨u,h1,h2⟩:=r;exact⟨u,h1,ac.keep hk href had v [u] h2⟩
mutual
theorem aj.keep(hk:cN Im Im' w w')(href:∀k π vs,Ref β M w k π vs->Ref β' M' w' k π vs)(had:∀k π v,Adr β M w k π v->Adr β' M' w' k π v) :
  (x:V)->(v:bm)->aj β M Im w x v->aj β' M' Im' w' x v
 |.any,v,r=>by simp only[aj]
 |.ag x,v,r=>by simp only[aj]at r⊢;obtain⟨vs,h1,h2⟩:=r;exact⟨vs,h1,ac.keep hk href had x vs h2⟩
 |.tup x,v,r=>by simp only[aj]at r⊢;obtain⟨vs,h1,h2⟩:=r;exact⟨vs,h1,cH.keep hk href had x vs h2⟩
 |.gd j b P x,v,r=>by simp only[aj]at r⊢;exact⟨λhp=>aj.keep hk href had x v (r.1 hp),r.2⟩
 |.ifc t x,v,r|.p a b,v,r|.u,v,r|.ref k π,v,r|.ad k π,v,r|.d t x,v,r|.nl,v,r|.np,v,r|.fn f x,v,r|.bx x,v,r=>by simp only[aj]at r;exact ky (ac.keep hk href had _ _ r)
theorem cH.keep(hk:cN Im Im' w w')(href:∀k π vs,Ref β M w k π vs->Ref β' M' w' k π vs)(had:∀k π v,Adr β M w k π v->Adr β' M' w' k π v) :
  (x:V)->(vs:aJ)->cH β M Im w x vs->cH β' M' Im' w' x vs
 |.p a b,vs,r=>by simp only[cH]at r⊢;obtain⟨u,us,h1,h2,h3⟩:=r;exact⟨u,us,h1,aj.keep hk href had a u h2,cH.keep hk href had b us h3⟩
 |.u,vs,r=>by simpa only [cH]using r
 |.any,vs,r|.ag x,vs,r|.tup x,vs,r|.gd j b P x,vs,r|.ifc t x,vs,r|.ref k π,vs,r|.ad k π,vs,r|.d t x,vs,r|.nl,vs,r|.np,vs,r|.fn f x,vs,r|.bx x,vs,r=>by simp only[cH]at r
end
theorem IK{a:Nat}(h:¬a=b):Nat.beq a b=false:=by
 cases hb:Nat.beq a b with
 |false=>rfl
 |true=>exact absurd (dh hb) h
theorem gY(k:Nat)(v:V)(r:Env)(t:Nat):gt ((k,v)::r) t=if k=t then v else gt r t:=by
 simp only[gt];by_cases h:k=t
 ·simp[h]
 ·rw[ai h];have:Nat.beq k t=false:=IK h;rw[this];rfl
theorem dR(k:Nat)(v:Ob)(r:Mem)(t:Nat):go ((k,v)::r) t=if k=t then some v else go r t:=by
 simp only[go];by_cases h:k=t
 ·simp[h]
 ·rw[ai h];have:Nat.beq k t=false:=IK h;rw[this];rfl
theorem dP(j k:Nat)(x y:α):(bif Nat.beq j k then x else y)=if j=k then x else y:=by
 by_cases h:j=k
 ·simp[h]
 ·rw[ai h];have:Nat.beq j k=false:=IK h;rw[this];rfl
def bF(M:Mem)(k:Nat):Prop:=(go M k).isSome=true
theorem cz{o:Ob}(h:go M k=some o):bF M k:=by unfold bF;rw[h];rfl
theorem AH(h:bF M k):∃o,go M k=some o:=yG.1 h
theorem fU(k:Nat):∀M:Mem,go (del k M) k=none
 |[]=>rfl
 |(j,o)::r=>by
  simp only[del,dP];split
  ·exact fU k r
  ·rename_i h;rw[dR,ai h];exact fU k r
theorem fg{k j:Nat}(h:j≠k):∀M:Mem,go (del k M) j=go M j
 |[]=>rfl
 |(i,o)::r=>by
  simp only[del,dP];by_cases e:i=k
  ·subst e;rw[am rfl,dR,ai (dg h)];exact fg h r
  ·rw[ai e,dR,dR,fg h r]
theorem lx:bF (del k M) j<->j≠k/\bF M j:=by
 unfold bF;by_cases h:j=k
 ·subst h;simp[fU]
 ·simp[fg h,h]
theorem pn{k j:Nat}(o:Ob)(h:j≠k):∀M:Mem,go (put k o M) j=go M j
 |[]=>rfl
 |(i,x)::r=>by
  simp only[put,dP];by_cases e:i=k
  ·subst e;rw[am rfl,dR,dR,ai (dg h),ai (dg h)]
  ·rw[ai e,dR,dR,pn o h r]
theorem sR{k:Nat}(o:Ob):∀M:Mem,bF M k->go (put k o M) k=some o
 |[],h=>by simp[bF,go]at h
 |(i,x)::r,h=>by
  simp only[put,dP];by_cases e:i=k
  ·subst e;rw[am rfl,dR,am rfl]
  ·rw[ai e,dR,ai e];refine sR o r ?_;unfold bF at h⊢
   rwa [dR,ai e]at h
theorem xp{o:Ob}:bF (put k o M) j<->bF M j:=by
 by_cases e:j=k
 ·subst e;by_cases h:bF M j
  ·exact⟨λ_=>h,λ_=>cz (sR o M h)⟩
  ·refine⟨λh'=>?_,λh'=>absurd h' h⟩;exfalso
   have:∀M:Mem,¬bF M j->¬bF (put j o M) j:=by
    intro M
    induction M with
    |nil=>intro h;exact h
    |cons q r ih=>
     obtain⟨i,x⟩:=q;intro hn hl;unfold bF at hn hl ih;simp only[put,dP]at hl;by_cases e:i=j
     ·subst e;rw[dR,am rfl]at hn;exact hn rfl
     ·rw[ai e,dR,ai e]at hl;rw[dR,ai e]at hn;exact ih hn hl
   exact this M h h'
 ·unfold bF;rw[pn o e]
theorem SW(e:Ev)(t:Nat):∀env:Env,gt (evE e env) t=(gt env t).ev e
 |[]=>by simp[evE,gt,V.ev]
 |(j,v)::r=>by
  simp only[evE,gY];split
  ·rfl
  ·exact SW e t r
structure Fr where
 w0:World
 wk:World
 A:Nat->Prop
 R:Nat->Prop
 I:Nat->Prop
 nt:Nat
 fv:Nat->Option Value
 cs:Prop
variable {F:Fr}
def Fr.RR(F:Fr)(b:Nat):Prop:=F.R b
def Fr.Fs(F:Fr)(b:Nat):Prop:=F.w0.heap.size<=b\/F.cs/\F.R b
theorem Fr.Fs.r(h:F.Fs b):F.RR b\/F.w0.heap.size<=b:=h.elim .inr λh=>.inl h.2
def Fr.ok(F:Fr)(k:Nat):Prop:=k<F.nt/\F.fv k=none
structure Ow where
 β:Nat->Value
 σ:Nat->Nat->Prop
 L:Nat->Prop
variable {p p' p'':Ow}
structure TD (w' w:aK):Prop where
 t:w'.tape=w.tape
 d:w.drawn<=w'.drawn
theorem TD.refl(w:aK):TD w w:=⟨rfl,aZ _⟩
theorem TD.trans{a b:aK}(h:TD c b)(k:TD b a):TD c a:=⟨h.t.trans k.t,eu k.d h.d⟩
def Imm(F:Fr)(p:Ow)(M:Mem)(w:aK):Nat->Prop:=λb=>b<w.heap.size/\(F.A b\/F.RR b\/F.w0.heap.size<=b)/\¬p.L b/\∀k,bF M k->¬p.σ k b
structure Hp (F:Fr) (p:Ow) (M:Mem) (w:aK):Prop where
 objs:∀k ob,go M k=some ob->Rel (Imm F p M w) w ob.o ob.x (p.σ k) [p.β k]
 sep:∀k k' b,k≠k'->bF M k->bF M k'->p.σ k b->¬p.σ k' b
 own:∀k b,bF M k->p.σ k b->b<w.heap.size/\(gid<=k/\F.RR b\/F.Fs b)
 lim:∀b,p.L b->b<w.heap.size/\F.Fs b/\∀k,bF M k->¬p.σ k b
 os:w.os=F.w0.os
 tape:TD w F.w0
 output:w.output=F.w0.output
 size:F.w0.heap.size<=w.heap.size
 old:∀b,b<F.w0.heap.size->¬F.RR b->w.heap[b]? = F.w0.heap[b]?
structure St (F:Fr) (p:Ow) (env:Env) (M:Mem) (a:Act) (w:aK):Prop where
 defers:a.defers=[]
 nt:a.tmps.size=F.nt
 fix:∀t v,F.fv t=some v->a.tmps.getD t undef=v
 ik:∀b,F.I b->Imm F p M w b/\w.heap[b]? = F.wk.heap[b]?
 lz:∀b,¬p.L b
 slots:∀t,aj p.β M (Imm F p M w) w (gt env t) (a.tmps.getD t undef)
 hp:Hp F p M w
structure Tr (F:Fr) (p:Ow) (M:Mem) (w:aK) (e:cg) (p':Ow) (M':Mem) (w':aK):Prop where
 keep:cN (Imm F p M w) (Imm F p' M' w') w w'
 c:∀v vs,ac p.β M (Imm F p M w) w v vs->ac p'.β M' (Imm F p' M' w') w' (v.evs e) vs
 s:∀v u,aj p.β M (Imm F p M w) w v u->aj p'.β M' (Imm F p' M' w') w' (v.evs e) u
 hp:Hp F p' M' w'
theorem xO(v:V):∀(e e':cg),v.evs (ap e e')=(v.evs e).evs e'
 |[],e'=>rfl
 |x::e,e'=>by simp only[ap,V.evs];exact xO _ e e'
theorem l6(t:Nat):∀(e:cg)(env:Env),gt (fL env e) t=(gt env t).evs e
 |[],env=>rfl
 |x::e,env=>by simp only[fL,V.evs];rw[l6 t e,SW]
theorem Tr.trans{e e':cg}(h:Tr F p M w e p' M' w')(k:Tr F p' M' w' e' p'' M'' w''):Tr F p M w (ap e e') p'' M'' w'':=⟨h.keep.trans k.keep,λv vs r=>by rw[xO];exact k.c _ _ (h.c v vs r),λv u r=>by rw[xO];exact k.s _ _ (h.s v u r),k.hp⟩
theorem Tr.one(e:Ev)(hk:cN (Imm F p M w) (Imm F p' M' w') w w')(href:∀k π vs,Ref p.β M w k π vs->ac p'.β M' (Imm F p' M' w') w' (e.ref k π) vs)(had:∀k π v,Adr p.β M w k π v->ac p'.β M' (Imm F p' M' w') w' (e.ad k π) [v])(hp':Hp F p' M' w'):Tr F p M w [e] p' M' w':=
 ⟨hk,λv vs r=>by simp only[V.evs];exact ac.ev hk href had v vs r,λv u r=>by simp only[V.evs];exact aj.ev hk href had v u r,hp'⟩
theorem Tr.zero(hk:cN (Imm F p M w) (Imm F p' M' w') w w')(href:∀k π vs,Ref p.β M w k π vs->Ref p'.β M' w' k π vs)(had:∀k π v,Adr p.β M w k π v->Adr p'.β M' w' k π v)(hp':Hp F p' M' w'):Tr F p M w [] p' M' w':=
 ⟨hk,λv vs r=>by simp only[V.evs];exact ac.keep hk href had v vs r,λv u r=>by simp only[V.evs];exact aj.keep hk href had v u r,hp'⟩
theorem Tr.refl(h:Hp F p M w):Tr F p M w [] p M w:=Tr.zero (cN.refl _ _) (λ_ _ _ r=>r) (λ_ _ _ r=>r) h
theorem St.tr{e:cg}(h:St F p env M a w)(t:Tr F p M w e p' M' w')(hL:∀b,¬p'.L b):St F p' (fL env e) M' a w':=by refine⟨h.defers,h.nt,h.fix,λb hb=>⟨(t.keep b (h.ik b hb).1).1,((t.keep b (h.ik b hb).1).2).trans (h.ik b hb).2⟩,hL,λn=>?_,t.hp⟩;rw[l6];exact t.s _ _ (h.slots n)
theorem Ref.same(hp:Hp F p M w)(h:Ref p.β M w k π vs)(hM:go M' k=go M k)(hβ:p'.β k=p.β k)(hb:bF M k->∀b,p.σ k b->w'.heap[b]? = w.heap[b]?):Ref p'.β M' w' k π vs:=by obtain⟨ob,pl,h1,h2,h3,h4⟩:=h;refine⟨ob,pl,by rw[hM,h1],h2,h3,?_⟩;rw[hβ,sZ π ob.o ob.x (p.σ k) _ none (hp.objs k ob h1) h2 (hb (cz h1))];exact h4
theorem Adr.same(hp:Hp F p M w)(h:Adr p.β M w k π v)(hM:go M' k=go M k)(hβ:p'.β k=p.β k)(hb:bF M k->∀b,p.σ k b->w'.heap[b]? = w.heap[b]?):Adr p'.β M' w' k π v:=by obtain⟨ob,us,b,off,h1,h2,h3,h4,h5,h6⟩:=h;refine⟨ob,us,b,off,by rw[hM,h1],h2,h3,h4,?_,h6⟩;rw[hβ,sZ π ob.o ob.x (p.σ k) _ none (hp.objs k ob h1) h2 (hb (cz h1))];exact h5
theorem St.write(h:St F p env M a w)(d:Nat)(x:V)(v:bm)(hx:aj p.β M (Imm F p M w) w x v)(hd:F.ok d):St F p ((d,x)::env) M (a.put (some d) v) w:=by
 refine⟨by simpa[Act.put]using h.defers,by simpa[Act.put]using h.nt,λt v' ht=>?_,h.ik,h.lz,λt=>?_,h.hp⟩
 ·have hne:d≠t:=λe=>by have:=hd.2;rw[e,ht]at this;cases this
  have:=h.fix t v' ht;simpa[Act.put,hne]using this
 rw[gY];simp only[Act.put];by_cases e:d=t
 ·subst e;rw[am rfl];simpa[h.nt,hd.1]using hx
 ·rw[ai e];have:=h.slots t;simpa[e]using this
theorem St.weak(h:St F p env M a w)(he:∀t,gt env' t=.any\/gt env' t=gt env t):St F p env' M a w:=by
 refine⟨h.defers,h.nt,h.fix,h.ik,h.lz,λt=>?_,h.hp⟩;rcases he t with e|e
 ·rw[e];simp only[aj]
 ·rw[e];exact h.slots t
theorem look(hp:Hp F p M w)(h1:go M k=some ob)(h2:gok π ob.o ob.x)(h3:get π ob.o ob.x=some q):Foc (Imm F p M w) w π ob.o ob.x (p.σ k) [p.β k] none q:=pJ π ob.o ob.x (p.σ k) [p.β k] none q (hp.objs k ob h1) h2 h3 (λb off e=>by cases e)
theorem Ref.one(hp:Hp F p M w)(h:Ref p.β M w k π vs):∀u∈vs,u.oneCell'=true:=by obtain⟨ob,pl,h1,h2,⟨q,h3⟩,h4⟩:=h;obtain⟨us,pl',S',e1,e2,e3,_⟩:=look hp h1 h2 h3;rw[e1]at h4;cases h4;exact Rel.one _ _ _ _ e3
theorem Adr.one(h:Adr p.β M w k π v):v.oneCell'=true:=by obtain⟨_,_,_,_,_,_,_,_,_,rfl⟩:=h;rfl
structure Ext (w w':aK):Prop where
 os:w'.os=w.os
 tape:TD w' w
 output:w'.output=w.output
 size:w.heap.size<=w'.heap.size
 old:∀b,b<w.heap.size->w'.heap[b]? = w.heap[b]?
theorem Ext.refl(w:aK):Ext w w:=⟨rfl,TD.refl w,rfl,aZ _,λ_ _=>rfl⟩
theorem Ext.of_grown(h:w.grownBy w' none)(hd:w.drawn<=w'.drawn):Ext w w':=⟨h.os,⟨h.tape,hd⟩,h.output,h.size,λb hb=>h.block b hb ak⟩
theorem Tr.ext(h:Hp F p M w)(e:Ext w w'):Tr F p M w [] p M w':=by
 have hk:cN (Imm F p M w) (Imm F p M w') w w':=λb hb=>⟨⟨by have:=e.size;have:=hb.1;omega,hb.2⟩,e.old b hb.1⟩
 refine Tr.zero hk (λ_ _ _ r=>r.same h rfl rfl (λhl b hb=>e.old b (h.own _ b hl hb).1)) (λ_ _ _ r=>r.same h rfl rfl (λhl b hb=>e.old b (h.own _ b hl hb).1))
  ⟨λk ob hg=>Rel.keep hk _ _ _ _ (λb hb=>e.old b (h.own k b (cz hg) hb).1) (h.objs k ob hg),h.sep,λk b h1 h2=>?_,λb hb=>?_,e.os.trans h.os,e.tape.trans h.tape,e.output.trans h.output,eu h.size e.size,λb hb hR=>?_⟩
 ·have:=h.own k b h1 h2;exact⟨by have:=e.size;omega,this.2⟩
 ·have:=h.lim b hb;exact⟨by have:=e.size;omega,this.2⟩
 ·rw[e.old b (by have:=h.size;omega)];exact h.old b hb hR
theorem St.ext(h:St F p env M a w)(e:Ext w w'):St F p env M a w':=by simpa[fL]using h.tr (Tr.ext h.hp e) h.lz
theorem Hp.del(h:Hp F p M w)(k:Nat):Hp F p (del k M) w/\cN (Imm F p M w) (Imm F p (del k M) w) w w:=by
 have hk:cN (Imm F p M w) (Imm F p (Bm.del k M) w) w w:=λb hb=>⟨⟨hb.1,hb.2.1,hb.2.2.1,λj hj=>hb.2.2.2 j (lx.1 hj).2⟩,rfl⟩;refine⟨⟨λj ob hg=>?_,λj j' b hne hj hj'=>h.sep j j' b hne (lx.1 hj).2 (lx.1 hj').2,λj b hj=>h.own j b (lx.1 hj).2,λb hb=>⟨(h.lim b hb).1,(h.lim b hb).2.1,λj hj=>(h.lim b hb).2.2 j (lx.1 hj).2⟩,h.os,h.tape,h.output,h.size,h.old⟩,hk⟩;have hjk:j≠k:=by rintro rfl;rw[fU]at hg;cases hg
 rw[fg hjk]at hg;exact Rel.keep hk _ _ _ _ (λ_ _=>rfl) (h.objs j ob hg)
theorem Tr.kl(h:Hp F p M w)(k:Nat):Tr F p M w [.kl k] p (del k M) w:=by
 refine Tr.one (.kl k) (h.del k).2 (λj π vs r=>?_) (λj π v r=>?_) (h.del k).1
 ·simp only[Ev.ref,dP];split
  ·simp only[ac];exact r.one h
  ·rename_i hne;simp only[ac];exact r.same h (fg hne M) rfl (λ_ _ _=>rfl)
 ·simp only[Ev.ad,dP];split
  ·simp only[ac];intro u hu;rw[cP.1 hu];exact r.one
  ·rename_i hne;simp only[ac];exact⟨v,rfl,r.same h (fg hne M) rfl (λ_ _ _=>rfl)⟩
theorem uY(h:Hp F p M w)(hl:bF M k)(hb:p.σ k b):Imm F p (del k M) w b:=by obtain⟨h1,h2⟩:=h.own k b hl hb;exact⟨h1,h2.elim (λh=>.inr (.inl h.2)) (λh=>.inr h.r),λhL=>(h.lim b hL).2.2 k hl hb,λj hj=>h.sep k j b (dg (lx.1 hj).1) hl (lx.1 hj).2 hb⟩
theorem fG{β:gM}{Im:aT}:(t:T)->(x:t.den)->(vs:aJ)->ah Im w t x vs->ac β M Im w (fm t x) vs
 |.p a b,x,vs,r=>by simp only[ah]at r;obtain⟨va,vb,h1,h2,h3⟩:=r;simp only[fm,ac];exact⟨va,vb,h1,fG a _ va h2,fG b _ vb h3⟩
 |.u,x,vs,r=>by simpa only [fm,ac,ah]using r
 |.int _,x,vs,r|.bool,x,vs,r|.str,x,vs,r|.sl _,x,vs,r|.pt _,x,vs,r|.fn _ _,x,vs,r|.ifc _ _,x,vs,r|.ib _ _,x,vs,r|.mp _ _,x,vs,r|.op _,x,vs,r|.ns _,x,vs,r|.er _,x,vs,r|.any,x,vs,r=>by simpa only [fm,ac]using r
theorem Tr.frz(h:Hp F p M w)(k:Nat)(ob:Ob)(hk:go M k=some ob):Tr F p M w [.fz k ob] p (del k M) w:=by
 have hl:=cz hk;refine Tr.one (.fz k ob) (h.del k).2 (λj π vs r=>?_) (λj π v r=>?_) (h.del k).1
 ·simp only[Ev.ref,dP];split
  ·rename_i e;subst e;obtain⟨ob',pl,h1,h2,⟨q,h3⟩,h4⟩:=r;rw[hk]at h1;cases h1;rw[h3];obtain⟨us,pl',S',e1,e2,e3,_⟩:=look h hk h2 h3;rw[e1]at h4;cases h4;exact fG _ _ _ (Rel.frz (λb hb=>((h.del j).2 b hb).1) _ _ S' _ (λb hb=>uY h hl (e2 b hb)) e3)
  ·rename_i hne;simp only[ac];exact r.same h (fg hne M) rfl (λ_ _ _=>rfl)
 ·simp only[Ev.ad,dP];split
  ·rename_i e;subst e;obtain⟨ob',us0,b0,off0,h1,h2,⟨q,h3⟩,h4,h5,rfl⟩:=r;rw[hk]at h1;cases h1;rw[h3];obtain⟨us,pl',S',e1,e2,e3,e4,_⟩:=look h hk h2 h3;rw[e1]at h5;simp only[aG,bS]at h5;obtain⟨rfl,rfl⟩:=h5;obtain⟨b,off,cur,ty',k1,k2,k3,k4,k5⟩:=e4 h4;simp only[aG,bS]at k1;obtain⟨rfl,rfl⟩:=k1;simp only[ac,ah];refine⟨b0,off0,us,rfl,uY h hl k2,λj' u hu=>?_,Rel.frz (λb hb=>((h.del j).2 b hb).1) _ _ S' _ (λb hb=>uY h hl (e2 b hb)) e3⟩;rw[lQ w b0 _ cur ty' (0,0) k4];exact k5 j' u hu
  ·rename_i hne;simp only[ac];exact⟨v,rfl,r.same h (fg hne M) rfl (λ_ _ _=>rfl)⟩
theorem Tr.lim(h:Hp F p M w)(k:Nat)(hl:bF M k)(hg:k<gid):Tr F p M w [.kl k] ⟨p.β,p.σ,λb=>p.L b\/p.σ k b⟩ (del k M) w:=by
 have hI:∀b,Imm F p M w b->Imm F ⟨p.β,p.σ,λb=>p.L b\/p.σ k b⟩ (Bm.del k M) w b:=λb hb=>⟨hb.1,hb.2.1,λhc=>hc.elim hb.2.2.1 (hb.2.2.2 k hl),λj hj=>hb.2.2.2 j (lx.1 hj).2⟩;have hk:cN (Imm F p M w) (Imm F ⟨p.β,p.σ,λb=>p.L b\/p.σ k b⟩ (Bm.del k M) w) w w:=λb hb=>⟨hI b hb,rfl⟩;refine Tr.one (.kl k) hk (λj π vs r=>?_) (λj π v r=>?_) ⟨λj ob hgo=>?_,λj j' b hne hj hj'=>h.sep j j' b hne (lx.1 hj).2 (lx.1 hj').2,λj b hj=>h.own j b (lx.1 hj).2,λb hb=>?_,h.os,h.tape,h.output,h.size,h.old⟩
 ·simp only[Ev.ref,dP];split
  ·simp only[ac];exact r.one h
  ·rename_i hne;simp only[ac];exact r.same (p':=⟨p.β,p.σ,_⟩) h (fg hne M) rfl (λ_ _ _=>rfl)
 ·simp only[Ev.ad,dP];split
  ·simp only[ac];intro u hu;rw[cP.1 hu];exact r.one
  ·rename_i hne;simp only[ac];exact⟨v,rfl,r.same (p':=⟨p.β,p.σ,_⟩) h (fg hne M) rfl (λ_ _ _=>rfl)⟩
 ·have hjk:j≠k:=by rintro rfl;rw[fU]at hgo;cases hgo
  rw[fg hjk]at hgo;exact Rel.keep hk _ _ _ _ (λ_ _=>rfl) (h.objs j ob hgo)
 ·rcases hb with hb|hb
  ·exact⟨(h.lim b hb).1,(h.lim b hb).2.1,λj hj=>(h.lim b hb).2.2 j (lx.1 hj).2⟩
  ·obtain⟨k1,k2⟩:=h.own k b hl hb;refine⟨k1,k2.elim (λh=>by have:=h.1;omega) id,λj hj=>h.sep k j b (dg (lx.1 hj).1) hl (lx.1 hj).2 hb⟩
def Ow.updL(p:Ow)(k:Nat)(v:bm)(r L':aT):Ow:=⟨λj=>if j=k then v else p.β j,λj=>if j=k then r else p.σ j,L'⟩
def Ow.upd(p:Ow)(k:Nat)(v:bm)(r:aT):Ow:=p.updL k v r λ_=>False
structure ExtL (w w':aK) (L:aT):Prop where
 os:w'.os=w.os
 tape:TD w' w
 output:w'.output=w.output
 size:w.heap.size<=w'.heap.size
 old:∀b,b<w.heap.size->¬L b->w'.heap[b]? = w.heap[b]?
theorem Ext.toL(h:Ext w w')(L:aT):ExtL w w' L:=⟨h.os,h.tape,h.output,h.size,λb hb _=>h.old b hb⟩
theorem Tr.newL(h:Hp F p M w)(k:Nat)(hk:go M k=none)(v:bm)(r L':aT)(ob:Ob)(hg:ExtL w w' p.L)(hL':∀b,L' b->p.L b/\¬r b)(hr:∀b,r b->w.heap.size<=b/\b<w'.heap.size\/p.L b)(ho:cN (Imm F p M w) (Imm F (p.updL k v r L') ((k,ob)::M) w') w w'->Rel (Imm F (p.updL k v r L') ((k,ob)::M) w') w' ob.o ob.x r [v]):
  Tr F p M w [] (p.updL k v r L') ((k,ob)::M) w':=by
 have hnl:¬bF M k:=by unfold bF;rw[hk];simp
 have hlive:∀j,bF ((k,ob)::M) j<->j=k\/bF M j:=λj=>by
  unfold bF;rw[dR];by_cases e:k=j
  ·simp[e]
  ·rw[ai e];simp[dg e]
 have hβ:∀j,j≠k->(p.updL k v r L').β j=p.β j:=λj hj=>by simp[Ow.updL,hj]
 have hσ:∀j,j≠k->(p.updL k v r L').σ j=p.σ j:=λj hj=>by simp[Ow.updL,hj]
 have hβk:(p.updL k v r L').β k=v:=by simp[Ow.updL]
 have hσk:(p.updL k v r L').σ k=r:=by simp[Ow.updL]
 have hkeep:cN (Imm F p M w) (Imm F (p.updL k v r L') ((k,ob)::M) w') w w':=λb hb=>by
  refine⟨⟨by have:=hg.size;have:=hb.1;omega,hb.2.1,λh=>hb.2.2.1 (hL' b h).1,λj hj=>?_⟩,hg.old b hb.1 hb.2.2.1⟩;rcases (hlive j).1 hj with rfl|hj
  ·rw[hσk];intro hrb;rcases hr b hrb with h1|h1
   ·have:=hb.1;omega
   ·exact hb.2.2.1 h1
  ·have hne:j≠k:=λe=>hnl (e▸hj);rw[hσ j hne];exact hb.2.2.2 j hj
 have hgo:∀j,j≠k->go ((k,ob)::M) j=go M j:=λj hj=>by rw[dR,ai (dg hj)]
 have hblk:∀j,bF M j->∀b,p.σ j b->w'.heap[b]? = w.heap[b]?:=λj hj b hb=>hg.old b (h.own j b hj hb).1 (λhL=>(h.lim b hL).2.2 j hj hb);refine Tr.zero hkeep (λj π vs q=>?_) (λj π v' q=>?_) ⟨λj o hj=>?_,λj j' b hne hj hj' hb=>?_,λj b hj hb=>?_,λb hb=>?_,hg.os.trans h.os,hg.tape.trans h.tape,hg.output.trans h.output,eu h.size hg.size,λb hb hR=>?_⟩
 ·have hne:j≠k:=by rintro rfl;obtain⟨o,_,h1,_⟩:=q;rw[hk]at h1;cases h1
  exact q.same h (hgo j hne) (hβ j hne) (hblk j)
 ·have hne:j≠k:=by rintro rfl;obtain⟨o,_,_,_,h1,_⟩:=q;rw[hk]at h1;cases h1
  exact q.same h (hgo j hne) (hβ j hne) (hblk j)
 ·by_cases e:j=k
  ·subst e;rw[dR,am rfl]at hj;cases hj;rw[hβk,hσk];exact ho hkeep
  ·rw[hgo j e]at hj;rw[hβ j e,hσ j e];exact Rel.keep hkeep _ _ _ _ (hblk j (cz hj)) (h.objs j o hj)
 ·rcases (hlive j).1 hj with ej|hj0
  ·rw[ej,hσk]at hb;rcases (hlive j').1 hj' with ej'|hj0'
   ·exact absurd (ej.trans ej'.symm) hne
   ·have hn':j'≠k:=λe=>hnl (e▸hj0');rw[hσ j' hn'];intro hb';rcases hr b hb with h1|h1
    ·have:=(h.own j' b hj0' hb').1;omega
    ·exact (h.lim b h1).2.2 j' hj0' hb'
  ·have hn:j≠k:=λe=>hnl (e▸hj0);rw[hσ j hn]at hb;rcases (hlive j').1 hj' with ej'|hj0'
   ·rw[ej',hσk];intro hb';rcases hr b hb' with h1|h1
    ·have:=(h.own j b hj0 hb).1;omega
    ·exact (h.lim b h1).2.2 j hj0 hb
   ·have hn':j'≠k:=λe=>hnl (e▸hj0');rw[hσ j' hn'];exact h.sep j j' b hne hj0 hj0' hb
 ·rcases (hlive j).1 hj with ej|hj
  ·subst ej;rw[hσk]at hb;rcases hr b hb with h1|h1
   ·exact⟨h1.2,.inr (.inl (eu h.size h1.1))⟩
   ·exact⟨by have:=(h.lim b h1).1;have:=hg.size;omega,.inr (h.lim b h1).2.1⟩
  ·have hn:j≠k:=λe=>hnl (e▸hj);rw[hσ j hn]at hb;have:=h.own j b hj hb;exact⟨by have:=hg.size;omega,this.2⟩
 ·have hb':=hL' b hb;refine⟨by have:=(h.lim b hb'.1).1;have:=hg.size;omega,(h.lim b hb'.1).2.1,λj hj=>?_⟩;rcases (hlive j).1 hj with ej|hj
  ·rw[ej,hσk];exact hb'.2
  ·have hn:j≠k:=λe=>hnl (e▸hj);rw[hσ j hn];exact (h.lim b hb'.1).2.2 j hj
 ·rw[hg.old b (by have:=h.size;omega) (λhL=>(h.lim b hL).2.1.r.elim hR λh'=>aa)];exact h.old b hb hR
theorem Tr.new(h:Hp F p M w)(k:Nat)(hk:go M k=none)(v:bm)(r:aT)(ob:Ob)(hg:ExtL w w' p.L)(hr:∀b,r b->w.heap.size<=b/\b<w'.heap.size\/p.L b)(ho:cN (Imm F p M w) (Imm F (p.upd k v r) ((k,ob)::M) w') w w'->Rel (Imm F (p.upd k v r) ((k,ob)::M) w') w' ob.o ob.x r [v]):
  Tr F p M w [] (p.upd k v r) ((k,ob)::M) w':=Tr.newL h k hk v r (λ_=>False) ob hg (λ_ hb=>hb.elim) hr ho
theorem Tr.drop(h:Hp F p M w)(L':aT)(hL:∀b,L' b->p.L b):Tr F p M w [] ⟨p.β,p.σ,L'⟩ M w:=by have hk:cN (Imm F p M w) (Imm F ⟨p.β,p.σ,L'⟩ M w) w w:=λb hb=>⟨⟨hb.1,hb.2.1,λh=>hb.2.2.1 (hL b h),hb.2.2.2⟩,rfl⟩;refine Tr.zero hk (λ_ _ _ r=>r) (λ_ _ _ r=>r) ⟨λk ob hg=>Rel.keep hk _ _ _ _ (λ_ _=>rfl) (h.objs k ob hg),h.sep,h.own,λb hb=>h.lim b (hL b hb),h.os,h.tape,h.output,h.size,h.old⟩
theorem Tr.grow(h:Hp F p M w)(hL:∀b,¬p.L b)(e:Ext w w')(L':aT)(hn:∀b,L' b->w.heap.size<=b/\b<w'.heap.size):Tr F p M w [] ⟨p.β,p.σ,L'⟩ M w':=by
 have hk:cN (Imm F p M w) (Imm F ⟨p.β,p.σ,L'⟩ M w') w w':=λb hb=>⟨⟨by have:=e.size;have:=hb.1;omega,hb.2.1,λh=>by have:=(hn b h).1;have:=hb.1;omega,hb.2.2.2⟩,e.old b hb.1⟩
 refine Tr.zero hk (λ_ _ _ r=>r.same h rfl rfl (λhl b hb=>e.old b (h.own _ b hl hb).1)) (λ_ _ _ r=>r.same h rfl rfl (λhl b hb=>e.old b (h.own _ b hl hb).1))
  ⟨λk ob hg=>Rel.keep hk _ _ _ _ (λb hb=>e.old b (h.own k b (cz hg) hb).1) (h.objs k ob hg),h.sep,λk b h1 h2=>?_,λb hb=>?_,e.os.trans h.os,e.tape.trans h.tape,e.output.trans h.output,eu h.size e.size,λb hb hR=>?_⟩
 ·have:=h.own k b h1 h2;exact⟨by have:=e.size;omega,this.2⟩
 ·refine⟨(hn b hb).2,.inl (by have:=(hn b hb).1;have:=h.size;omega),λk hk hs=>?_⟩;have:=(h.own k b hk hs).1;have:=(hn b hb).1;omega
 ·rw[e.old b (by have:=h.size;omega)];exact h.old b hb hR
end Go.Bm
