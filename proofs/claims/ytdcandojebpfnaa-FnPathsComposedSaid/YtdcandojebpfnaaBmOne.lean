/- The typed machine that the walks of this claim go by: its data, its operations and the proof that each is sound. No condition. -/
import Derived.WalkKit
set_option linter.unusedVariables false
set_option linter.unusedSimpArgs false
set_option linter.unusedSectionVars false
/- The gi machine:data with Lean types,trees of own memory,abstract values. -/
namespace Go.Bm
open Go.RowKit
def nb:Nat:=140737488355328
def inK (k:IntKind) (n:Int):Prop:=k.min<=n/\n<=k.max
def ap {α:Type}:List α->List α->List α
 | [],b=>b
 | x::a,b=>x::ap a b
theorem mr {α:Type} (a b:List α):ap a b=a++b:=by
 induction a with
 | nil=>rfl
 | cons x a ih=>rw [ap,ih];rfl
def len {α:Type}:List α->Nat
 | []=>0
 | _::r=>Nat.succ (len r)
theorem avn {α:Type} (a:List α):len a=a.length:=by
 induction a with
 | nil=>rfl
 | cons x a ih=>rw [len,ih];rfl
def ng {α:Type}:List α->Nat->Option α
 | [],_=>none
 | x::_,0=>some x
 | _::r,n+1=>ng r n
theorem zm {α:Type} (a:List α) (i:Nat):ng a i=a[i]?:=by
 induction a generalizing i with
 | nil=>rfl
 | cons x a ih=>cases i with
  | zero=>rfl
  | succ i=>rw [ng,ih];rfl
def jx {α:Type}:Nat->List α->List α
 | 0,_=>[]
 | _+1,[]=>[]
 | n+1,x::r=>x::jx n r
theorem aiz {α:Type} (n:Nat) (a:List α):jx n a=a.take n:=by
 induction n generalizing a with
 | zero=>rfl
 | succ n ih=>cases a with
  | nil=>rfl
  | cons x a=>rw [jx,ih];rfl
def oh {α:Type}:Nat->List α->List α
 | 0,a=>a
 | _+1,[]=>[]
 | n+1,_::r=>oh n r
theorem aoc {α:Type} (n:Nat) (a:List α):oh n a=a.drop n:=by
 induction n generalizing a with
 | zero=>rfl
 | succ n ih=>cases a with
  | nil=>rfl
  | cons x a=>rw [oh,ih];rfl
def ab7 {α:Type} (x:α):Nat->List α
 | 0=>[]
 | n+1=>x::ab7 x n
def ap6 {α:Type}:List α->Nat->α->List α
 | [],_,_=>[]
 | _::r,0,y=>y::r
 | x::r,n+1,y=>x::ap6 r n y
def bbf {α:Type} (p:α->Bool):List α->Bool
 | []=>true
 | x::r=>bif p x then bbf p r else false
def toL {α:Type}:Array α->List α
 | ⟨l⟩=>l
def aku:Nat->Nat->Nat
 | 0,b=>b
 | a+1,b=>Nat.succ (aku a b)
@[simp] theorem aqr (a b:Nat):aku a b=a+b:=by
 induction a with
 | zero=>simp [aku]
 | succ a ih=>rw [aku,ih];omega
def isZ:Nat->Bool
 | 0=>true
 | _+1=>false
def bnf:Nat->Nat
 | 0=>0
 | n+1=>n
def gl:Nat->Nat->Bool
 | 0,b=>isZ b
 | a+1,b=>bif isZ b then false else gl a (bnf b)
@[simp] theorem iv (a b:Nat):gl a b=(a == b):=by
 induction a generalizing b with
 | zero=>cases b <;> rfl
 | succ a ih=>cases b with
  | zero=>rfl
  | succ b=>simp only [gl,isZ,bnf,cond_false];rw [ih];simp
def nob (a b:Bool):Bool:=bif a then b else false
def neg (a:Bool):Bool:=bif a then false else true
def orb (a b:Bool):Bool:=bif a then true else b
def xq {α β:Type} (f:α->β):Option α->Option β
 | none=>none
 | some x=>some (f x)
def isN {α:Type}:Option α->Bool
 | none=>true
 | some _=>false
@[simp] theorem bc (a b:Bool):nob a b=(a && b):=by cases a <;> rfl
@[simp] theorem nx (a b:Bool):orb a b=(a || b):=by cases a <;> rfl
@[simp] theorem ro (a:Bool):neg a=!a:=by cases a <;> rfl
inductive T where
 | int (k:IntKind)
 | bool
 | str
 | u
 | p (a b:T)
 | sl (e:T)
 | pt (t:T)
 | fn (f:FuncId) (t:T)
 | ifc (i:TypeId) (t:T)
 | mp (k v:T)
 | op (t:T)
 | ns (t:T)
 | any
@[reducible] def T.den:T->Type
 | .int _=>Int
 | .bool=>Bool
 | .str=>ByteArray
 | .u=>Unit
 | .p a b=>a.den×b.den
 | .sl e=>List e.den
 | .pt t=>t.den
 | .fn _ t=>t.den
 | .ifc _ t=>t.den
 | .mp k v=>List (k.den×v.den)
 | .op t=>Option t.den
 | .ns t=>Option t.den
 | .any=>Unit
def T.dflt:(t:T)->t.den
 | .int _=>(0:Int)
 | .bool=>false
 | .str=>ByteArray.empty
 | .u=>()
 | .p a b=>(a.dflt,b.dflt)
 | .sl _=>[]
 | .pt t=>t.dflt
 | .fn _ t=>t.dflt
 | .ifc _ t=>t.dflt
 | .mp _ _=>[]
 | .op _=>none
 | .ns _=>none
 | .any=>()
def T.size:T->Nat
 | .u=>0
 | .p a b=>aku a.size b.size
 | .op t=>t.size
 | _=>1
def ac0:IntKind->IntKind->Bool
 | .i8,.i8=>true
 | .i16,.i16=>true
 | .i32,.i32=>true
 | .i64,.i64=>true
 | .u8,.u8=>true
 | .u16,.u16=>true
 | .u32,.u32=>true
 | .u64,.u64=>true
 | _,_=>false
theorem abg {a b:IntKind} (h:ac0 a b=true):a=b:=by cases a <;> cases b <;> first | rfl | (simp [ac0]at h)
theorem bi5 (a:IntKind):ac0 a a=true:=by cases a <;> rfl
def T.beq:T->T->Bool
 | .int k,.int k'=>ac0 k k'
 | .bool,.bool=>true
 | .str,.str=>true
 | .u,.u=>true
 | .p a b,.p a' b'=>nob (a.beq a') (b.beq b')
 | .sl e,.sl e'=>e.beq e'
 | .pt e,.pt e'=>e.beq e'
 | .fn f t,.fn f' t'=>nob (Nat.beq f f') (t.beq t')
 | .ifc f t,.ifc f' t'=>nob (Nat.beq f f') (t.beq t')
 | .mp k v,.mp k' v'=>nob (k.beq k') (v.beq v')
 | .op e,.op e'=>e.beq e'
 | .ns e,.ns e'=>e.beq e'
 | .any,.any=>true
 | _,_=>false
theorem T.beq_eq:{a b:T}->a.beq b=true->a=b
 | .int k,b,h=>by cases b <;> simp [T.beq]at h;rw [abg h]
 | .bool,b,h=>by cases b <;> simp [T.beq]at h;rfl
 | .str,b,h=>by cases b <;> simp [T.beq]at h;rfl
 | .u,b,h=>by cases b <;> simp [T.beq]at h;rfl
 | .p a1 a2,b,h=>by cases b <;> simp [T.beq]at h;rw [T.beq_eq h.1,T.beq_eq h.2]
 | .sl e,b,h=>by cases b <;> simp [T.beq]at h;rw [T.beq_eq h]
 | .pt e,b,h=>by cases b <;> simp [T.beq]at h;rw [T.beq_eq h]
 | .fn f t,b,h=>by cases b <;> simp [T.beq]at h;rw [h.1,T.beq_eq h.2]
 | .ifc f t,b,h=>by cases b <;> simp [T.beq]at h;rw [h.1,T.beq_eq h.2]
 | .mp k v,b,h=>by cases b <;> simp [T.beq]at h;rw [T.beq_eq h.1,T.beq_eq h.2]
 | .op e,b,h=>by cases b <;> simp [T.beq]at h;rw [T.beq_eq h]
 | .ns e,b,h=>by cases b <;> simp [T.beq]at h;rw [T.beq_eq h]
 | .any,b,h=>by cases b <;> simp [T.beq]at h;rfl
def p7 {a:T} (b:T) (x:a.den):Option b.den:=
 match h:a.beq b with
 | true=>some (T.beq_eq h ▸ x)
 | false=>none
theorem T.beq_refl:(a:T)->a.beq a=true
 | .int k=>bi5 k
 | .bool=>rfl
 | .str=>rfl
 | .u=>rfl
 | .p a b=>by simp only [T.beq,T.beq_refl a,T.beq_refl b,bc,Bool.and_self]
 | .sl e=>by simp only [T.beq];exact T.beq_refl e
 | .pt e=>by simp only [T.beq];exact T.beq_refl e
 | .fn f t=>by simp only [T.beq,T.beq_refl t,bc,Bool.and_true];exact Nat.beq_refl f
 | .ifc f t=>by simp only [T.beq,T.beq_refl t,bc,Bool.and_true];exact Nat.beq_refl f
 | .mp k v=>by simp only [T.beq,T.beq_refl k,T.beq_refl v,bc,Bool.and_self]
 | .op e=>by simp only [T.beq,T.beq_refl e]
 | .ns e=>by simp only [T.beq,T.beq_refl e]
 | .any=>rfl
theorem yk {a:T} (x:a.den):p7 a x=some x:=by
 unfold p7
 split
 ·rfl
 ·rename_i h;rw [T.beq_refl a]at h;cases h
def T.dec:(t:T)->DecidableEq t.den
 | .int _=>fun a b=>decEq (α:=Int) a b
 | .bool=>fun a b=>decEq (α:=Bool) a b
 | .str=>fun a b=>decEq (α:=ByteArray) a b
 | .u=>fun _ _=>isTrue rfl
 | .p a b=>@instDecidableEqProd a.den b.den a.dec b.dec
 | .sl e=>@instDecidableEqList e.den e.dec
 | .pt t=>t.dec
 | .fn _ t=>t.dec
 | .ifc _ t=>t.dec
 | .mp k v=>@instDecidableEqList (k.den×v.den) (@instDecidableEqProd k.den v.den k.dec v.dec)
 | .op t=>@Option.instDecidableEq t.den t.dec
 | .ns t=>@Option.instDecidableEq t.den t.dec
 | .any=>fun _ _=>isTrue rfl
def eqR (t:T) (a b:t.den):Bool:=@decide (a=b) (t.dec a b)
theorem adg {t:T} {a b:t.den}:eqR t a b=true<->a=b:=by simp [eqR]
@[simp] theorem bbp {t:T} (a:t.den):eqR t a a=true:=adg.2 rfl
theorem bnj {t:T} {a b:t.den} (h:a ≠ b):eqR t a b=false:=by
 cases h':eqR t a b with
 | false=>rfl
 | true=>exact absurd (adg.1 h') h
def bi8 (k v:T) (l:List (k.den×v.den)) (x:k.den):Option v.den:=(l.find? fun e=>eqR k x e.1).map (·.2)
def bhi (k v:T):List (k.den×v.den)->k.den->v.den->List (k.den×v.den)
 | [],x,y=>[(x,y)]
 | e::r,x,y=>if eqR k x e.1=true then (x,y)::r else e::bhi k v r x y
def T.ok:(t:T)->t.den->Prop
 | .int k,n=>inK k n
 | .str,s=>s.size<=nb
 | .p a b,x=>a.ok x.1/\b.ok x.2
 | .sl e,l=>l.length<=nb/\∀ y ∈ l,e.ok y
 | .pt t,x=>t.ok x
 | .fn _ t,x=>t.ok x
 | .ifc _ t,x=>t.ok x
 | .mp k v,l=>l.length<=nb/\∀ y ∈ l,k.ok y.1/\v.ok y.2
 | .op t,x=>∀ y,x=some y->t.ok y
 | .ns t,x=>∀ y,x=some y->t.ok y
 | .bool,_=>True
 | .u,_=>True
 | .any,_=>True
inductive O where
 | fz (t:T)
 | p (a b:O)
 | sl (e:O)
 | pt (t:O)
 | mp (k v:T)
 | op (e:O)
@[reducible] def O.strip:O->T
 | .fz t=>t
 | .p a b=>.p a.strip b.strip
 | .sl e=>.sl e.strip
 | .pt t=>.pt t.strip
 | .mp k v=>.mp k v
 | .op e=>.op e.strip
def O.beq:O->O->Bool
 | .fz t,.fz t'=>t.beq t'
 | .p a b,.p a' b'=>nob (a.beq a') (b.beq b')
 | .sl e,.sl e'=>e.beq e'
 | .pt e,.pt e'=>e.beq e'
 | .mp k v,.mp k' v'=>nob (k.beq k') (v.beq v')
 | .op e,.op e'=>e.beq e'
 | _,_=>false
theorem O.beq_eq:{a b:O}->a.beq b=true->a=b
 | .fz t,b,h=>by cases b <;> simp [O.beq]at h;rw [T.beq_eq h]
 | .p a1 a2,b,h=>by cases b <;> simp [O.beq]at h;rw [O.beq_eq h.1,O.beq_eq h.2]
 | .sl e,b,h=>by cases b <;> simp [O.beq]at h;rw [O.beq_eq h]
 | .pt e,b,h=>by cases b <;> simp [O.beq]at h;rw [O.beq_eq h]
 | .mp k v,b,h=>by cases b <;> simp [O.beq]at h;rw [T.beq_eq h.1,T.beq_eq h.2]
 | .op e,b,h=>by cases b <;> simp [O.beq]at h;rw [O.beq_eq h]
theorem O.beq_refl:(o:O)->o.beq o=true
 | .fz t=>by simp only [O.beq];exact T.beq_refl t
 | .p a b=>by simp only [O.beq,O.beq_refl a,O.beq_refl b,bc,Bool.and_self]
 | .sl e=>by simp only [O.beq];exact O.beq_refl e
 | .pt e=>by simp only [O.beq];exact O.beq_refl e
 | .mp k v=>by simp only [O.beq,T.beq_refl k,T.beq_refl v,bc,Bool.and_self]
 | .op e=>by simp only [O.beq];exact O.beq_refl e
def O.wk:O->O->Bool
 | .p a b,.p a' b'=>nob (a.wk a') (b.wk b')
 | .sl e,.sl e'=>e.wk e'
 | .pt e,.pt e'=>e.wk e'
 | .mp k v,.mp k' v'=>nob (k.beq k') (v.beq v')
 | .op e,.op e'=>e.beq e'
 | o,.fz t=>o.strip.beq t
 | .fz (.p a b),.p a' b'=>nob (O.wk (.fz a) a') (O.wk (.fz b) b')
 | _,_=>false
structure Ob where
 o:O
 x:o.strip.den
def yu (q:Ob) (o:O):Option o.strip.den:=
 match h:q.o.beq o with
 | true=>some (O.beq_eq h ▸ q.x)
 | false=>none
def mkP (a b:Ob):Ob:=
 match a,b with
 | ⟨.fz s,x⟩,⟨.fz t,y⟩=>⟨.fz (.p s t),(x,y)⟩
 | ⟨o,x⟩,⟨o',y⟩=>⟨.p o o',(x,y)⟩
def T.deep:T->O
 | .p a b=>(match a.deep,b.deep with
  | .fz s,.fz t=>.fz (.p s t)
  | o,o'=>.p o o')
 | .sl e=>.sl e.deep
 | .mp k v=>.mp k v
 | t=>.fz t
theorem T.deep_strip:(t:T)->t.deep.strip=t
 | .p a b=>by
  have h1:=T.deep_strip a
  have h2:=T.deep_strip b
  simp only [T.deep]
  split
  ·rename_i h h';rw [h]at h1;rw [h']at h2;simp only [O.strip]at h1 h2 ⊢;rw [h1,h2]
  ·simp only [O.strip,h1,h2]
 | .sl e=>by simp only [T.deep,O.strip,T.deep_strip e]
 | .int _=>rfl
 | .bool=>rfl
 | .str=>rfl
 | .u=>rfl
 | .pt _=>rfl
 | .fn _ _=>rfl
 | .ifc _ _=>rfl
 | .mp _ _=>rfl
 | .op _=>rfl
 | .ns _=>rfl
 | .any=>rfl
def O.dflt:(o:O)->o.strip.den
 | .fz t=>t.dflt
 | .p a b=>(a.dflt,b.dflt)
 | .sl _=>[]
 | .pt t=>t.dflt
 | .mp _ _=>[]
 | .op _=>none
inductive Step where
 | l
 | r
 | de
 | ix (i:Nat)
abbrev b9:=List Step
def get:b9->(o:O)->o.strip.den->Option Ob
 | [],o,x=>some ⟨o,x⟩
 | .l::π,.p a _,x=>get π a x.1
 | .r::π,.p _ b,x=>get π b x.2
 | .l::π,.fz (.p a _),x=>get π (.fz a) x.1
 | .r::π,.fz (.p _ b),x=>get π (.fz b) x.2
 | .ix i::π,.sl e,x=>get π e (x.getD i e.dflt)
 | .de::π,.pt t,x=>get π t x
 | _,_,_=>none
def set:b9->(o:O)->o.strip.den->Ob->Option Ob
 | [],_,_,n=>some n
 | .l::π,.p a b,x,n=>(match set π a x.1 n with | some q=>some (mkP q ⟨b,x.2⟩) | none=>none)
 | .r::π,.p a b,x,n=>(match set π b x.2 n with | some q=>some (mkP ⟨a,x.1⟩ q) | none=>none)
 | .l::π,.fz (.p a b),x,n=>(match set π (.fz a) x.1 n with | some q=>some (mkP q ⟨.fz b,x.2⟩) | none=>none)
 | .r::π,.fz (.p a b),x,n=>(match set π (.fz b) x.2 n with | some q=>some (mkP ⟨.fz a,x.1⟩ q) | none=>none)
 | .ix i::π,.sl e,x,n=>(match set π e (x.getD i e.dflt) n with
  | some q=>(match yu q e with | some y=>some ⟨.sl e,x.set i y⟩ | none=>none)
  | none=>none)
 | .de::π,.pt t,x,n=>(match set π t x n with | some q=>some ⟨.pt q.o,q.x⟩ | none=>none)
 | _,_,_,_=>none
def ajy:b9->Bool
 | []=>false
 | .ix _::_=>true
 | _::π=>ajy π
inductive V where
 | any
 | nl
 | np
 | u
 | d (t:T) (x:t.den)
 | ref (k:Nat) (π:b9)
 | ad (k:Nat) (π:b9)
 | p (a b:V)
 | ag (v:V)
 | tup (v:V)
 | gd (j:Nat) (w:Bool) (P:Prop) (v:V)
 | fn (f:FuncId) (v:V)
 | ifc (t:TypeId) (v:V)
 | bx (v:V)
abbrev Env:=List (Nat×V)
abbrev Mem:=List (Nat×Ob)
def gt:Env->Nat->V
 | [],_=>.any
 | (k,v)::r,t=>bif Nat.beq k t then v else gt r t
def go:Mem->Nat->Option Ob
 | [],_=>none
 | (k,v)::r,t=>bif Nat.beq k t then some v else go r t
def del (k:Nat):Mem->Mem
 | []=>[]
 | (j,o)::r=>bif Nat.beq j k then del k r else (j,o)::del k r
def put (k:Nat) (o:Ob):Mem->Mem
 | []=>[]
 | (j,x)::r=>bif Nat.beq j k then (k,o)::r else (j,x)::put k o r
def pb (M:Mem) (k:Nat) (π:b9):Option Ob:=
 match go M k with
 | some ob=>get π ob.o ob.x
 | none=>none
def n9:(t:T)->t.den->V
 | .p a b,x=>.p (n9 a x.1) (n9 b x.2)
 | .u,_=>.u
 | t,x=>.d t x
def toV (k:Nat):b9->(o:O)->o.strip.den->V
 | _,.fz t,x=>n9 t x
 | π,.pt _,_=>.ad k (ap π [.de])
 | π,_,_=>.ref k π
def peq:b9->b9->Bool
 | [],[]=>true
 | .l::a,.l::b=>peq a b
 | .r::a,.r::b=>peq a b
 | .de::a,.de::b=>peq a b
 | _,_=>false
def jp:b9->O->Option Nat
 | [],_=>some 0
 | .l::π,.p a _=>jp π a
 | .r::π,.p a b=>(match jp π b with | some n=>some (aku a.strip.size n) | none=>none)
 | .l::π,.fz (.p a _)=>jp π (.fz a)
 | .r::π,.fz (.p a b)=>(match jp π (.fz b)with | some n=>some (aku a.size n) | none=>none)
 | _,_=>none
def qw:b9->O->Option Nat
 | .de::π,.pt o=>jp π o
 | _,_=>none
def aag:Option Nat->Option Nat->Bool
 | some a,some b=>gl a b
 | _,_=>false
def ab4:b9->Bool
 | []=>true
 | _=>false
def O.hole:O->T
 | .fz t=>t
 | .p a b=>.p a.hole b.hole
 | .sl _=>.any
 | .pt _=>.any
 | .mp _ _=>.any
 | .op e=>.op e.strip
def O.holeX:(o:O)->o.strip.den->o.hole.den
 | .fz _,x=>x
 | .p a b,x=>(a.holeX x.1,b.holeX x.2)
 | .sl _,_=>()
 | .pt _,_=>()
 | .mp _ _,_=>()
 | .op _,_=>none
def trk:b9->O->Option (List Nat)
 | [],_=>some []
 | .l::π,.p a _=>(match trk π a with | some l=>some (0::a.strip.size::l) | none=>none)
 | .r::π,.p a b=>(match trk π b with | some l=>some (1::a.strip.size::l) | none=>none)
 | .de::π,.pt t=>(match trk π t with | some l=>some (2::t.strip.size::l) | none=>none)
 | _,_=>none
def bax:List Nat->List Nat->Bool
 | [],[]=>true
 | a::l,b::r=>nob (gl a b) (bax l r)
 | _,_=>false
theorem bcd:∀ {a b:List Nat},bax a b=true->a=b
 | [],[],_=>rfl
 | a::l,b::r,h=>by
  simp only [bax,bc,Bool.and_eq_true,iv,beq_iff_eq]at h
  rw [h.1,bcd h.2]
 | [],_::_,h=>by cases h
 | _::_,[],h=>by cases h
def baq:Option (List Nat)->Option (List Nat)->Bool
 | some a,some b=>bax a b
 | _,_=>false
inductive Ev where
 | mv (r k:Nat)
 | kl (k:Nat)
 | cut (k:Nat) (o o':O)
 | fz (k:Nat) (ob:Ob)
 | un (k j:Nat)
 | tk (k:Nat) (o o':O)
def Ev.ref (k:Nat) (π:b9):Ev->V
 | .mv r k'=>bif Nat.beq k r then .ref k' π else .ref k π
 | .kl r=>bif Nat.beq k r then .any else .ref k π
 | .cut r _ _=>bif Nat.beq k r then (bif ab4 π then .ref k π else .any)else .ref k π
 | .fz r ob=>bif Nat.beq k r then (match get π ob.o ob.x with | some q=>n9 q.o.strip q.x | none=>.any)else .ref k π
 | .un r _=>bif Nat.beq k r then .any else .ref k π
 | .tk r o o'=>bif Nat.beq k r then (bif orb (ab4 π) (baq (trk π o) (trk π o'))then .ref k π else .any)else .ref k π
def Ev.ad (k:Nat) (π:b9):Ev->V
 | .mv r k'=>bif Nat.beq k r then .ad k' π else .ad k π
 | .kl r=>bif Nat.beq k r then .any else .ad k π
 | .cut r o o'=>bif Nat.beq k r then (bif aag (qw π o) (qw π o')then .ad k π else .any)else .ad k π
 | .fz r ob=>bif Nat.beq k r then (match get π ob.o ob.x with | some q=>.d (.pt q.o.strip) q.x | none=>.any)else .ad k π
 | .un r j=>bif Nat.beq k r then (match π with | [.de]=>.bx (.ad j [.de]) | _=>.any)else .ad k π
 | .tk r o o'=>bif Nat.beq k r then (bif aag (qw π o) (qw π o')then .ad k π else .any)else .ad k π
def V.ev (e:Ev):V->V
 | .ref k π=>e.ref k π
 | .ad k π=>e.ad k π
 | .p a b=>.p (a.ev e) (b.ev e)
 | .ag v=>.ag (v.ev e)
 | .tup v=>.tup (v.ev e)
 | .gd j w P v=>.gd j w P (v.ev e)
 | .fn f v=>.fn f (v.ev e)
 | .ifc t v=>.ifc t (v.ev e)
 | .bx v=>.bx (v.ev e)
 | v=>v
def V.evs (v:V):List Ev->V
 | []=>v
 | e::r=>(v.ev e).evs r
def evE (e:Ev):Env->Env
 | []=>[]
 | (t,v)::r=>(t,v.ev e)::evE e r
def rr (env:Env):List Ev->Env
 | []=>env
 | e::r=>rr (evE e env) r
end Go.Bm
/- The gi machine:what the operations give. -/
namespace Go.Bm
open Go.RowKit
structure Ty where
 ok:Bool
 agg:Bool
 bl:Bool
 st:Bool
 sz:Bool
 size:Nat
 bytes:Nat
 el:Option TypeId
 int:Option IntKind
 mp:Option (TypeId×TypeId)
 fld:List (Nat×TypeId×Nat)
 arr:Option (TypeId×Nat)
def tx (P:Program) (i:TypeInfo) (u:TypeDesc):Ty:={
 ok:=true
 agg:=(match u with | .struct _=>true | .array _ _=>true | _=>false)
 bl:=(match u with | .bool=>true | _=>false)
 st:=(match u with | .string=>true | _=>false)
 sz:=(match u with | .struct fs=>fs.toList.all fun f=>(P.info? f.type).isSome | _=>false)
 size:=i.size
 bytes:=i.bytes
 el:=(match u with | .slice e=>some e | _=>none)
 int:=(match u with | .int k=>some k | _=>none)
 mp:=(match u with | .map k e=>(match P.info? e with | some ie=>(match ie.zero with | some (.agg _)=>none | some _=>some (k,e) | none=>none) | none=>none) | _=>none)
 fld:=(match u with | .struct fs=>fs.toList.map fun f=>(f.offset,f.type,P.cellsOf f.type) | _=>[])
 arr:=(match u with | .array n e=>some (e,n) | _=>none) }
def bhc:Ty:=⟨false,false,false,false,false,0,0,none,none,none,[],none⟩
def ty (P:Program) (t:TypeId):Ty:=
 match P.info? t,P.underlying t with
 | some i,some u=>tx P i u
 | _,_=>bhc
def tyZ (P:Program) (t:TypeId):Option (List Value):=
 match P.info? t with
 | some i=>(match i.zero with | some z=>some z.cells.toList | none=>none)
 | none=>none
structure Mth where
 t:TypeId
 i:TypeId
 name:String
 f:FuncId
structure Tab where
 τ:TypeId->Ty
 σ:TypeId->T
 z:TypeId->Bool
 q:TypeId->Nat
 m:List Mth
def aub:List Mth->TypeId->String->Option FuncId
 | [],_,_=>none
 | e::r,t,n=>bif nob (Nat.beq e.t t) (e.name == n)then some e.f else aub r t n
def aea:Nat->Nat->b9
 | 0,_=>[]
 | 1,_=>[]
 | _+2,0=>[.l]
 | n+2,i+1=>.r::aea (Nat.succ n) i
def cy:b9->T->Option Nat
 | [],_=>some 0
 | .l::π,.p a _=>cy π a
 | .r::π,.p a b=>(match cy π b with | some n=>some (aku a.size n) | none=>none)
 | _,_=>none
def asv:b9->(t:T)->t.den->Option ((t:T)×t.den)
 | [],t,x=>some ⟨t,x⟩
 | .l::π,.p a _,x=>asv π a x.1
 | .r::π,.p _ b,x=>asv π b x.2
 | _,_,_=>none
structure Rs where
 vc:List Prop
 av:V
 ev:List Ev
 M:Mem
def da (M:Mem):Rs:=⟨[False],.any,[],M⟩
def dz (q:List Prop×V) (M:Mem):Rs:=⟨q.1,q.2,[],M⟩
def bad:List Prop×V:=([False],.any)
def d5 (v:V):List Prop×V:=([],v)
def bt:List Bool->Bool
 | []=>true
 | b::r=>bif b then bt r else false
def inKb (k:IntKind) (n:Int):Bool:=bt [decide (k.min<=n),decide (n<=k.max)]
def rdV:Value->V
 | .int k n=>.d (.int k) n
 | .bool b=>.d .bool b
 | .string s=>.d .str s
 | .slice none n m=>bif nob (Nat.beq n 0) (Nat.beq m 0)then .nl else .any
 | .pointer none=>.np
 | _=>.any
def rd (env:Env):Operand->V
 | .tmp t=>gt env t
 | .const v=>rdV v
 | .func f=>.fn f .u
 | .global _=>.any
def bg8:Value->Bool
 | .int k n=>inKb k n
 | .string s=>Nat.ble s.size nb
 | _=>true
def abn:Operand->Bool
 | .const v=>bg8 v
 | _=>true
def V.boolV:V->Bool
 | .d .bool b=>b
 | _=>false
def V.isB:V->Bool
 | .d .bool _=>true
 | _=>false
def V.strip:V->V
 | .gd _ _ _ v=>v
 | v=>v
def ar (k:IntKind) (n:Int):List Prop×V:=
 match k with
 | .i64=>([inK .i64 n],.d (.int .i64) n)
 | k=>([],.d (.int k) (k.wrap n))
def aej (k:IntKind) (a b:Int):Int:=k.wrap ((BitVec.ofInt k.bits a &&& BitVec.ofInt k.bits b).toNat:Nat)
def zp (k:IntKind) (a b:Int):Int:=a.fdiv (2 ^ (min b.toNat k.bits))
def abk (op:BinOp) (k:IntKind) (a b:Int):List Prop×V:=
 match op with
 | .and=>d5 (.d (.int k) (aej k a b))
 | .shr=>([0<=b,inK k (zp k a b)],.d (.int k) (zp k a b))
 | .add=>ar k (a+b)
 | .sub=>ar k (a - b)
 | .mul=>ar k (a * b)
 | .quo=>(match ar k (a.tdiv b)with | (l,v)=>((b ≠ 0)::l,v))
 | .rem=>([b ≠ 0,inK k (a.tmod b)],.d (.int k) (a.tmod b))
 | .eql=>d5 (.d .bool (a == b))
 | .neq=>d5 (.d .bool (a != b))
 | .lss=>d5 (.d .bool (decide (a < b)))
 | .leq=>d5 (.d .bool (decide (a<=b)))
 | .gtr=>d5 (.d .bool (decide (b < a)))
 | .geq=>d5 (.d .bool (decide (b<=a)))
 | _=>bad
def mxR (a b:Int):Int:=if b > a then b else a
def mnR (a b:Int):Int:=if b < a then b else a
def bcs (g:Bool) (x y:V):List Prop×V:=
 match x,y with
 | .d (.int k) a,.d (.int k') b=>bif ac0 k k' then d5 (.d (.int k) (bif g then mxR a b else mnR a b))else bad
 | _,_=>bad
def afp (op:BinOp) (a b:ByteArray):List Prop×V:=
 match op with
 | .add=>([a.size+b.size<=nb],.d .str (a++b))
 | .eql=>d5 (.d .bool (a.toList == b.toList))
 | .neq=>d5 (.d .bool (!(a.toList == b.toList)))
 | .lss=>d5 (.d .bool (Op.bytesLess a.toList b.toList))
 | .leq=>d5 (.d .bool (Op.bytesLess a.toList b.toList || a.toList == b.toList))
 | .gtr=>d5 (.d .bool (!(Op.bytesLess a.toList b.toList || a.toList == b.toList)))
 | .geq=>d5 (.d .bool (!(Op.bytesLess a.toList b.toList)))
 | _=>bad
def ba0 (τ:Ty) (op:BinOp) (x y:V):List Prop×V:=
 match x,y with
 | .d (.int k) a,.d (.int k') b=>bif ac0 k k' then abk op k a b else bad
 | .d .bool a,.d .bool b=>bif bt [τ.ok,τ.bl]then (match op with
  | .eql=>d5 (.d .bool (a == b))
  | .neq=>d5 (.d .bool (a != b))
  | _=>bad)else bad
 | .d .str a,.d .str b=>afp op a b
 | _,_=>bad
def ad4:Nat->V->V->Option Bool
 | 1,.d (.int k) x,.d (.int k') y=>bif ac0 k k' then some (x == y)else none
 | Nat.succ (Nat.succ n),.p (.d (.int k) x) a,.p (.d (.int k') y) b=>(match ad4 (Nat.succ n) a b with
  | some r=>bif ac0 k k' then some ((x == y) && r)else none
  | none=>none)
 | _,_,_=>none
def bnk (n:Nat) (op:BinOp) (a b:V):List Prop×V:=
 match op,ad4 n a b with
 | .eql,some r=>d5 (.d .bool r)
 | .neq,some r=>d5 (.d .bool (!r))
 | _,_=>bad
def avi (B:Tab) (t:TypeId) (op:BinOp) (x y:V):List Prop×V:=
 match x,y with
 | .ag a,.ag b=>bnk (B.q t) op a b
 | x,y=>ba0 (B.τ t) op x y
def bbh:Operand->Bool
 | .const (.slice none n m)=>nob (Nat.beq n 0) (Nat.beq m 0)
 | _=>false
def ave (B:Tab) (t:TypeId) (op:BinOp) (z:Bool) (x y:V):List Prop×V:=
 match z,x,op with
 | true,.d (.ns _) l,.eql=>bif bt [(B.τ t).ok,neg (isN (B.τ t).el)]then d5 (.d .bool l.isNone)else bad
 | true,.d (.ns _) l,.neq=>bif bt [(B.τ t).ok,neg (isN (B.τ t).el)]then d5 (.d .bool l.isSome)else bad
 | _,_,_=>avi B t op x y
def bhk (op:UnOp) (x:V):List Prop×V:=
 match op,x with
 | .not,.d .bool b=>d5 (.d .bool (!b))
 | .neg,.d (.int k) n=>ar k (0 - n)
 | _,_=>bad
def atz (τ σ:Ty) (x:V):List Prop×V:=
 match x,τ.int,σ.int with
 | .d (.int k) n,some k1,some k'=>bif bt [τ.ok,σ.ok,ac0 k1 k]then (bif ac0 k k' then d5 (.d (.int k) n)else d5 (.d (.int k') (k'.wrap n)))else bad
 | _,_,_=>bad
def nth:V->Nat->Option V
 | .p a _,0=>some a
 | .p _ b,i+1=>nth b i
 | _,_=>none
def aqs (x:V) (i:Nat):List Prop×V:=
 match x with
 | .tup v=>(match nth v i with | some y=>d5 y | none=>bad)
 | _=>bad
def bar (x:V):List Prop×V:=
 match x with
 | .d (.pt t) y=>d5 (.d (.pt t) y)
 | .ad k π=>d5 (.ad k π)
 | .bx v=>d5 (.bx v)
 | _=>bad
def bl2:Option Nat->Option Nat->Option Nat
 | some a,some b=>some (aku a b)
 | _,_=>none
def V.size (M:Mem):V->Option Nat
 | .p a b=>bl2 (a.size M) (b.size M)
 | .u=>some 0
 | .ref k π=>(match pb M k π with | some q=>some q.o.strip.size | none=>none)
 | .d t _=>some t.size
 | .ad _ _=>some 1
 | .nl=>some 1
 | .np=>some 1
 | .fn _ _=>some 1
 | .ifc _ _=>some 1
 | .bx _=>some 1
 | _=>none
def l8 (M:Mem) (v:V) (n:Nat):Bool:=match v.size M with | some m=>gl m n | none=>false
def fw (M:Mem):b9->V->Option (Nat×V)
 | [],v=>some (0,v)
 | .l::π,.p a _=>fw M π a
 | .r::π,.p a b=>(match a.size M,fw M π b with | some m,some (n,v)=>some (aku m n,v) | _,_=>none)
 | π,.ref k ρ=>(match pb M k ρ,pb M k (ap ρ π)with
  | some q,some q'=>(match cy π q.o.strip with | some n=>some (n,toV k (ap ρ π) q'.o q'.x) | none=>none)
  | _,_=>none)
 | _,_=>none
def ago (M:Mem) (x:V) (π:b9) (off:Nat):List Prop×V:=
 match x with
 | .d (.pt t) y=>(match cy π t,asv π t y with
  | some n,some q=>bif gl n off then d5 (.d (.pt q.1) q.2)else bad
  | _,_=>bad)
 | .ad k ρ=>(match pb M k ρ with
  | some q=>(match cy π q.o.strip with
   | some n=>bif gl n off then d5 (.ad k (ap ρ π))else bad
   | none=>bad)
  | none=>bad)
 | .bx v=>(match fw M π v with
  | some q=>bif gl q.1 off then d5 (.bx q.2)else bad
  | none=>bad)
 | _=>bad
def aca (τ:Ty) (M:Mem) (x:V) (i:Nat):List Prop×V:=
 match ng τ.fld i with
 | some (off,_,fsz)=>bif bt [τ.ok,neg (Nat.beq fsz 0)]then ago M x (aea (len τ.fld) i) off else bad
 | none=>bad
def ac1 (agg:Bool) (v:V):V:=bif agg then .ag v else v
def afo (B:Tab) (τ:Ty) (M:Mem) (x:V) (i:Nat):List Prop×V:=
 match ng τ.fld i,x with
 | some (off,ft,_),.ag v=>
  (match fw M (aea (len τ.fld) i) v with
  | some (n,w)=>bif bt [τ.ok,(B.τ ft).ok,gl n off,l8 M w (B.τ ft).size,orb (B.τ ft).agg (gl (B.τ ft).size 1)]then d5 (ac1 (B.τ ft).agg w)else bad
  | none=>bad)
 | _,_=>bad
def afg (B:Tab) (τ:Ty) (M:Mem) (x i:V):List Prop×V:=
 match τ.el,i with
 | some e,.d (.int _) n=>
  (match x with
  | .d (.sl t) l=>bif bt [τ.ok,(B.τ e).ok,gl t.size (B.τ e).size]then ([0<=n,n < l.length],.d (.pt t) (l.getD n.toNat t.dflt))else bad
  | .ref k π=>(match pb M k π with
   | some ⟨.sl o,l⟩=>bif bt [τ.ok,(B.τ e).ok,gl o.strip.size (B.τ e).size]then ([0<=n,n < l.length],.ad k (ap π [.ix n.toNat]))else bad
   | some ⟨.fz (.sl t),l⟩=>bif bt [τ.ok,(B.τ e).ok,gl t.size (B.τ e).size]then ([0<=n,n < l.length],.d (.pt t) (l.getD n.toNat t.dflt))else bad
   | _=>bad)
  | _=>bad)
 | _,_=>bad
def ba2 (B:Tab) (τ:Ty) (e:TypeId) (n:Nat) (M:Mem) (x i:V):List Prop×V:=
 match i with
 | .d (.int _) m=>bif bt [τ.ok,(B.τ e).ok]then (match ago M x (aea n m.toNat) (Nat.mul m.toNat (B.τ e).size)with
  | (l,v)=>(((0:Int)<=m)::(m < (n:Int))::l,v))else bad
 | _=>bad
def aff (B:Tab) (τ:Ty) (M:Mem) (x i:V):List Prop×V:=
 match τ.arr with
 | some (e,n)=>ba2 B τ e n M x i
 | none=>afg B τ M x i
def bh5 (τ:Ty) (x i:V):List Prop×V:=
 match x,i with
 | .d .str s,.d (.int _) n=>bif bt [τ.ok,τ.st]then ([0<=n,n < s.size],.d (.int .u8) ((s.data.toList.getD n.toNat 0).toNat))else bad
 | _,_=>bad
def ur (τ:Ty) (M:Mem) (x:V):List Prop×V:=
 match x with
 | .d (.pt t) y=>bif bt [τ.ok,gl t.size τ.size,orb τ.agg (gl t.size 1)]then d5 (ac1 τ.agg (n9 t y))else bad
 | .ad k π=>(match pb M k π with
  | some q=>bif bt [τ.ok,gl q.o.strip.size τ.size,orb τ.agg (gl q.o.strip.size 1)]then d5 (ac1 τ.agg (toV k π q.o q.x))else bad
  | none=>bad)
 | .bx v=>bif bt [τ.ok,l8 M v τ.size,orb τ.agg (gl τ.size 1)]then d5 (ac1 τ.agg v)else bad
 | _=>bad
def ac6 {α:Type} (l:List α):List (Option α):=l.map some
def ae9 {α:Type} (l:List α) (i:Nat):List (Option α):=(l.map some).set i none
def biy {α:Type} (l:List (Option α)) (i:Nat):Bool:=(l.getD i none).isSome
def alg {α:Type} (z:α) (l:List (Option α)) (i:Nat):α:=(l.getD i none).getD z
def as2 {α:Type} (l:List (Option α)):Bool:=l.all Option.isSome
def ae6 {α:Type} (z:α) (l:List (Option α)):List α:=l.map fun x=>x.getD z
def gid:Nat:=1000000
def ab6 (τ:Ty) (M:Mem) (d:Option Nat) (x:V):Option Rs:=
 match x,d with
 | .ad k [.ix i],some d=>(match go M k with
  | some ⟨.sl (.op (.sl o)),l⟩=>some (bif bt [τ.ok,gl τ.size 1,neg τ.agg,neg (Nat.beq d k),Nat.ble (Nat.succ k) gid]then
    ⟨[biy l i=true],.ref d [],[.cut k (.sl (.op (.sl o))) (.sl (.op (.sl o))),.kl d],(d,⟨.sl o,alg [] l i⟩)::del d (put k ⟨.sl (.op (.sl o)),l.set i none⟩ M)⟩else da M)
  | _=>none)
 | _,_=>none
def sj (τ:Ty) (M:Mem) (d:Option Nat) (x:V):Rs:=
 match ab6 τ M d x with
 | some r=>r
 | none=>dz (ur τ M x) M
def am7 (τ:Ty) (M:Mem) (x:V):List Prop×V:=
 match x with
 | .d .str s=>bif bt [τ.ok,τ.st]then d5 (.d (.int .i64) s.size)else bad
 | .d (.sl _) l=>bif bt [τ.ok,neg (isN τ.el)]then d5 (.d (.int .i64) l.length)else bad
 | .d (.mp _ _) l=>bif bt [τ.ok,neg (isN τ.mp)]then d5 (.d (.int .i64) l.length)else bad
 | .nl=>bif bt [τ.ok,neg (isN τ.el)]then d5 (.d (.int .i64) (0:Int))else bad
 | .ref k π=>(match pb M k π with
  | some ⟨.sl _,l⟩=>bif bt [τ.ok,neg (isN τ.el)]then d5 (.d (.int .i64) l.length)else bad
  | some ⟨.fz (.sl _),l⟩=>bif bt [τ.ok,neg (isN τ.el)]then d5 (.d (.int .i64) l.length)else bad
  | some ⟨.mp _ _,l⟩=>bif bt [τ.ok,neg (isN τ.mp)]then d5 (.d (.int .i64) l.length)else bad
  | _=>bad)
 | _=>bad
def bc0 (B:Tab) (τ:Ty) (x:V) (lo hi:Option V):List Prop×V:=
 match x,τ.el with
 | .d (.sl t) l,some e=>bif bt [τ.ok,(B.τ e).ok,gl t.size (B.τ e).size]then
   (match lo,hi with
   | none,none=>d5 (.d (.sl t) l)
   | some (.d (.int _) a),none=>([0<=a,a<=l.length],.d (.sl t) (l.drop a.toNat))
   | none,some (.d (.int _) b)=>([0<=b,b<=l.length],.d (.sl t) (l.take b.toNat))
   | some (.d (.int _) a),some (.d (.int _) b)=>([0<=a,a<=b,b<=l.length],.d (.sl t) ((l.take b.toNat).drop a.toNat))
   | _,_=>bad)else bad
 | _,_=>bad
def cf (M:Mem):V->List Ev×Mem
 | .ref k _=>(match go M k with | some ob=>([.fz k ob],del k M) | none=>([],M))
 | .ad k _=>(match go M k with | some ob=>([.fz k ob],del k M) | none=>([],M))
 | .p a b=>(match cf M a with | (e,M')=>(match cf M' b with | (e',M'')=>(ap e e',M'')))
 | .ag v=>cf M v
 | .fn _ v=>cf M v
 | .ifc _ v=>cf M v
 | .bx v=>cf M v
 | .tup v=>cf M v
 | .gd _ _ _ v=>cf M v
 | _=>([],M)
def asD (s:T) (x:s.den) (t:T):Option t.den:=
 match s,x,t with
 | .ns (.sl a),x,.sl b=>p7 (.sl b) (a:=.sl a) (x.getD [])
 | .sl (.ns (.sl a)),x,.sl (.sl b)=>p7 (.sl (.sl b)) (a:=.sl (.sl a)) (ae6 [] x)
 | _,x,t=>p7 t x
def V.as:V->(t:T)->Option t.den
 | .d s x,t=>asD s x t
 | .nl,.sl _=>some []
 | .u,.u=>some ()
 | .p a b,.p t s=>(match a.as t,b.as s with | some x,some y=>some (x,y) | _,_=>none)
 | .fn f v,.fn f' t=>bif Nat.beq f f' then v.as t else none
 | .ifc f v,.ifc f' t=>bif Nat.beq f f' then v.as t else none
 | .bx v,.pt t=>v.as t
 | .np,.any=>some ()
 | _,_=>none
def ap7 (M:Mem) (k:Nat) (π:b9) (t:T):Option t.den:=match pb M k π with | some q=>p7 t q.x | none=>none
def V.view (M:Mem):V->(t:T)->Option t.den
 | .d s x,t=>asD s x t
 | .nl,.sl _=>some []
 | .u,.u=>some ()
 | .p a b,.p t s=>(match a.view M t,b.view M s with | some x,some y=>some (x,y) | _,_=>none)
 | .fn f v,.fn f' t=>bif Nat.beq f f' then v.view M t else none
 | .ifc f v,.ifc f' t=>bif Nat.beq f f' then v.view M t else none
 | .bx v,.pt t=>v.view M t
 | .ref k π,t=>ap7 M k π t
 | .ad k π,.pt t=>ap7 M k π t
 | .np,.any=>some ()
 | _,_=>none
def qa (r k:Nat):Bool:=bt [neg (Nat.beq r k),Nat.ble (Nat.succ r) gid]
def adb (k r:Nat) (ρ:b9) (M:Mem):Option (Ob×List Ev×Mem):=
 bif neg (qa r k)then none else
  (match go M r with
  | some ob=>(match get ρ ob.o ob.x with
   | some q=>(match ρ with
    | []=>some (q,[.kl r],del r M)
    | _=>bif ajy ρ then some (⟨.fz q.o.strip,q.x⟩,[.fz r ob],del r M)else
     (match set ρ ob.o ob.x ⟨.fz q.o.hole,q.o.holeX q.x⟩with
     | some ob'=>some (q,[.cut r ob.o ob'.o],put r ob' M)
     | none=>none))
   | none=>none)
  | none=>none)
def apj (k r:Nat) (ρ:b9) (M:Mem):Option (Ob×List Ev×Mem):=
 bif neg (qa r k)then none else
  (match go M r,ρ with
  | some ⟨.pt o,x⟩,[.de]=>some (⟨.pt o,x⟩,[.kl r],del r M)
  | some ob,ρ=>(match get ρ ob.o ob.x with | some q=>some (⟨.fz (.pt q.o.strip),q.x⟩,[.fz r ob],del r M) | none=>none)
  | none,_=>none)
def conv (k:Nat):T->V->Mem->Option (Ob×List Ev×Mem)
 | .p t s,.p a b,M=>(match conv k t a M with
  | some (q,e,M')=>(match conv k s (b.evs e) M' with
   | some (q',e',M'')=>some (mkP q q',ap e e',M'')
   | none=>none)
  | none=>none)
 | _,.u,M=>some (⟨.fz .u,()⟩,[],M)
 | _,.d t x,M=>some (⟨.fz t,x⟩,[],M)
 | .sl t,.nl,M=>some (⟨.sl t.deep,[]⟩,[],M)
 | _,.np,M=>some (⟨.fz .any,()⟩,[],M)
 | _,.ref r ρ,M=>adb k r ρ M
 | _,.ad r ρ,M=>apj k r ρ M
 | _,.fn f .u,M=>some (⟨.fz (.fn f .u),()⟩,[],M)
 | _,_,_=>none
def ad6 (k:Nat) (o:O) (v:V) (M:Mem):Option (o.strip.den×List Ev×Mem):=
 match o with
 | .fz t=>(match cf M v with | (e,M')=>(match (v.evs e).as t with | some x=>some (x,e,M') | none=>none))
 | o=>(match conv k o.strip v M with
  | some (q,e,M')=>(match yu q o with | some x=>some (x,e,M') | none=>none)
  | none=>none)
def ahr (k:Nat) (o:O) (v:V) (M:Mem):Option (o.strip.den×List Ev×Mem):=
 match o with
 | .op e=>(match ad6 k e v M with | some (x,ev,M')=>some (some x,ev,M') | none=>none)
 | o=>ad6 k o v M
def um:b9->Option (b9×Nat)
 | [.ix i]=>some ([],i)
 | .l::π=>(match um π with | some (p,i)=>some (.l::p,i) | none=>none)
 | .r::π=>(match um π with | some (p,i)=>some (.r::p,i) | none=>none)
 | .de::π=>(match um π with | some (p,i)=>some (.de::p,i) | none=>none)
 | _=>none
def bl7 (π:b9) (ob:Ob):Option Ob:=
 match um π with
 | some (p,i)=>(match get p ob.o ob.x with
  | some ⟨.sl e,l⟩=>set p ob.o ob.x ⟨.sl (.op e),ae9 l i⟩
  | _=>none)
 | none=>none
def bdz (π:b9) (ob:Ob):Option (Prop×Ob):=
 match um π with
 | some (p,_)=>(match get p ob.o ob.x with
  | some ⟨.sl (.op e),l⟩=>(match set p ob.o ob.x ⟨.sl e,ae6 e.dflt l⟩with
   | some ob2=>some (as2 l=true,ob2)
   | none=>none)
  | _=>none)
 | none=>none
def u9:T->V
 | .p a b=>.p (u9 a) (u9 b)
 | .sl _=>.nl
 | .u=>.u
 | .pt _=>.d .any ()
 | .fn _ _=>.d .any ()
 | .any=>.d .any ()
 | t=>.d t t.dflt
def j9:b9->V->V->Option V
 | [],_,n=>some n
 | .l::π,.p a b,n=>(match j9 π a n with | some q=>some (.p q b) | none=>none)
 | .r::π,.p a b,n=>(match j9 π b n with | some q=>some (.p a q) | none=>none)
 | _,_,_=>none
def V.cells:V->V
 | .ag v=>v
 | v=>v
@[reducible] def bi:List T->Type
 | []=>Unit
 | t::r=>t.den×bi r
@[reducible] def js:List (Bool×O)->Type
 | []=>Unit
 | q::r=>q.2.strip.den×js r
def inN (k:Nat):List Nat->Bool
 | []=>false
 | j::r=>bif Nat.beq j k then true else inN k r
def aik:List Nat->Bool
 | []=>true
 | k::r=>bif inN k r then false else aik r
structure Mt where
 o:O
 g:Bool
 pre:o.strip.den->Int->List Prop
 res:o.strip.den->Int->o.strip.den×Int
structure Wt where
 o:O
 as:List T
 ag:List Bool
 pre:o.strip.den->bi as->List Prop
 new:o.strip.den->bi as->o.strip.den
 rt:List (Bool×O)
 res:o.strip.den->bi as->js rt
structure Sp where
 args:List T
 ga:List Bool
 sh:Bool
 b:bi args->Bool
 pre:bi args->List Prop
 rt1:List (Bool×O)
 res1:bi args->js rt1
 rt0:List (Bool×O)
 res0:bi args->js rt0
structure Wa where
 o:O
 way:b9
 as:List T
 pre:o.strip.den->bi as->List Prop
 new:o.strip.den->bi as->o.strip.den
inductive Mu where
 | m (m:Mt)
 | w (w:Wt)
 | s (s:Sp)
 | a (a:Wa)
structure Ct where
 args:List T
 ga:List Bool
 pre:bi args->List Prop
 rt:List (Bool×O)
 res:bi args->js rt
 sh:Bool
 mu:Option Mu
def spCt (s:Sp):Bool->Ct
 | true=>⟨s.args,s.ga,fun x=>(s.b x=true)::s.pre x,s.rt1,s.res1,s.sh,none⟩
 | false=>⟨s.args,s.ga,fun x=>(s.b x=false)::s.pre x,s.rt0,s.res0,s.sh,none⟩
def afe (M:Mem):List V->(ts:List T)->Option (bi ts)
 | [],[]=>some ()
 | v::r,t::ts=>(match v.cells.view M t,afe M r ts with | some x,some y=>some (x,y) | _,_=>none)
 | _,_=>none
def cid (d j:Nat):Nat:=Nat.add (Nat.add 100000 (Nat.mul 100 d)) j
def mq (d:Nat):Nat->(o:O)->o.strip.den->V×Mem×Nat
 | j,.fz t,x=>(n9 t x,[],j)
 | j,.p a b,x=>(match mq d j a x.1 with
  | (v,M,j')=>(match mq d j' b x.2 with
   | (v',M',j'')=>(.p v v',ap M' M,j'')))
 | j,.sl e,x=>(.ref (cid d j) [],[(cid d j,⟨.sl e,x⟩)],Nat.succ j)
 | j,.pt o,x=>(.ad (cid d j) [.de],[(cid d j,⟨.pt o,x⟩)],Nat.succ j)
 | j,.mp k v,x=>(.ref (cid d j) [],[(cid d j,⟨.mp k v,x⟩)],Nat.succ j)
 | j,.op _,_=>(.any,[],j)
def newL (d:Nat):Nat->(rs:List (Bool×O))->js rs->V×Mem×Nat
 | j,[],_=>(.u,[],j)
 | j,q::r,x=>(match mq d j q.2 x.1 with
  | (v,M,j')=>(match newL d j' r x.2 with
   | (v',M',j'')=>(.p (ac1 q.1 v) v',ap M' M,j'')))
def ap0:List (Bool×O)->V->V
 | [_],.p a _=>a
 | _,v=>.tup v
def rp:List Nat->Mem->Mem
 | [],M=>M
 | k::r,M=>rp r (del k M)
def cj:Mem->List Nat
 | []=>[]
 | (k,_)::r=>k::cj r
def klL:List Nat->List Ev
 | []=>[]
 | k::r=>.kl k::klL r
def qg (M:Mem):List V->List Ev×Mem
 | []=>([],M)
 | v::r=>(match cf M v with | (e,M')=>(match qg M' r with | (e',M'')=>(ap e e',M'')))
def vi (e:List Ev):List V->List V
 | []=>[]
 | v::r=>v.evs e::vi e r
def sk (f:Operand->V):List Operand->List V
 | []=>[]
 | x::r=>f x::sk f r
def asL:List V->(ts:List T)->Option (bi ts)
 | [],[]=>some ()
 | v::r,t::ts=>(match v.cells.as t,asL r ts with | some x,some y=>some (x,y) | _,_=>none)
 | _,_=>none
def ac9:V->Bool
 | .ag _=>true
 | _=>false
def shp:List V->List Bool->Bool
 | [],[]=>true
 | v::r,g::gs=>bif ac9 v then (bif g then shp r gs else false)else (bif g then false else shp r gs)
 | _,_=>false
def nilK:List Nat->Bool
 | []=>true
 | _=>false
def bd5 (_:Mt) (_:List V) (M:Mem):Rs:=da M
def bds:b9->Bool
 | [.de]=>true
 | _=>false
def bhn:b9->Bool
 | []=>true
 | _=>false
def an2:V->Option Nat
 | .ad k π=>bif bds π then some k else none
 | .ref k π=>bif bhn π then some k else none
 | _=>none
def ajt:O->Bool
 | .pt _=>true
 | .sl _=>true
 | _=>false
def ahx (W:Wt) (d:Nat) (vs:List V) (M:Mem):Rs:=
 match vs with
 | v0::r=>(match an2 v0 with
  | some k=>bif nob (ajt W.o) (shp r W.ag)then (match qg M r with
   | (e,M1)=>(match go M1 k,asL (vi e r) W.as with
    | some ob,some y=>(match yu ob W.o with
     | some x=>(match newL d 0 W.rt (W.res x y)with
      | (v,N,_)=>bif inN k (cj N)then da M else
       ⟨W.pre x y,ap0 W.rt v,ap e (.cut k W.o W.o::klL (cj N)),ap N (rp (cj N) (put k ⟨W.o,W.new x y⟩ M1))⟩)
     | none=>da M)
    | _,_=>da M))else da M
  | none=>da M)
 | _=>da M
def bqw:T->Bool
 | .any=>true
 | _=>false
def at6:List T->List Bool
 | []=>[]
 | _::r=>false::at6 r
def axi (_:Wa) (_:List V) (M:Mem):Rs:=da M
def aa3 (ct:Ct) (d:Nat) (vs:List V) (M:Mem):Rs:=
 match ct.mu with
 | some (.m m)=>bd5 m vs M
 | some (.w W)=>ahx W d vs M
 | some (.s _)=>da M
 | some (.a W)=>axi W vs M
 | none=>
 bif shp vs ct.ga then
 (match ct.sh with
 | false=>(match afe M vs ct.args with
  | some x=>(match newL d 0 ct.rt (ct.res x)with
   | (v,N,_)=>⟨ct.pre x,ap0 ct.rt v,klL (cj N),ap N (rp (cj N) M)⟩)
  | none=>da M)
 | true=>(match qg M vs with
  | (e,M')=>(match asL (vi e vs) ct.args with
   | some x=>(match newL d 0 ct.rt (ct.res x)with
    | (v,N,_)=>⟨ct.pre x,ap0 ct.rt v,ap e (klL (cj N)),ap N (rp (cj N) M')⟩)
   | none=>da M)))else da M
def auw (B:Tab) (τ:Ty) (ρ:Operand->V) (x:Operand) (lo hi:Option Operand) (M:Mem):Rs:=
 match ρ x with
 | .ref r π=>(match adb gid r π M with
  | some (q,e,M')=>(match bc0 B τ (.d q.o.strip q.x) (xq (fun y=>(ρ y).evs e) lo) (xq (fun y=>(ρ y).evs e) hi)with
   | (l,v)=>⟨l,v,e,M'⟩)
  | none=>da M)
 | v=>dz (bc0 B τ v (xq ρ lo) (xq ρ hi)) M
def nsT:T->Bool
 | .ns _=>true
 | _=>false
def an3 (B:Tab) (τ:Ty) (d:Option Nat) (ρ:Operand->V) (x:Operand) (lo hi:Option Operand) (M:Mem):Rs:=
 match ρ x,d,xq ρ lo,hi,τ.el with
 | .ref r [],some d,some (.d (.int _) a),none,some e=>(match go M r with
  | some ⟨.sl o,l⟩=>bif bt [qa r d,τ.ok,(B.τ e).ok,gl o.strip.size (B.τ e).size]then
    ⟨[0<=a,a<=l.length],.ref d [],[.kl r,.kl d],(d,⟨.sl o,l.drop a.toNat⟩)::del d (del r M)⟩else da M
  | _=>da M)
 | _,_,_,_,_=>da M
def aui (B:Tab) (t:TypeId) (d:Option Nat) (ρ:Operand->V) (x:Operand) (lo hi:Option Operand) (M:Mem):Rs:=
 bif nsT (B.σ t)then an3 B (B.τ t) d ρ x lo hi M else auw B (B.τ t) ρ x lo hi M
inductive Src where
 | own (j:Nat) (e:O) (l:List e.strip.den)
 | dat (e:List Ev) (M:Mem) (t:T) (l:List t.den)
 | nil
def ahp (M:Mem):V->Option Src
 | .nl=>some .nil
 | .d (.sl t) l=>some (.dat [] M t l)
 | .ref j π=>(match go M j,π with
  | some ⟨.sl e,l⟩,[]=>some (.own j e l)
  | some ob,π=>(match get π ob.o ob.x with
   | some ⟨.sl e,l⟩=>some (.dat [.fz j ob] (del j M) e.strip l)
   | some ⟨.fz (.sl t),l⟩=>some (.dat [.fz j ob] (del j M) t l)
   | _=>none)
  | none,_=>none)
 | _=>none
def fg (n m b:Nat):Prop:=(n+m) * b<=nb
def af0 (b:Nat) (k:Nat) (e:O) (l:List e.strip.den) (j:Nat) (e':O) (m:List e'.strip.den) (ev:List Ev) (M:Mem) (M0:Mem):Rs:=
 match e'.beq e,yu ⟨.sl e',m⟩ (.sl e)with
 | true,some m=>⟨[fg l.length m.length b],.ref k [],ap ev [.kl j,.kl k],(k,⟨.sl e,l++m⟩)::del k (del j M)⟩
 | _,_=>(match p7 (.sl e.strip) (a:=.sl e'.strip) m with
  | some m1=>⟨[fg l.length m1.length b],.ref k [],ap ev [.fz j ⟨.sl e',m⟩,.kl k],(k,⟨.sl (.fz e.strip),l++m1⟩)::del k (del j M)⟩
  | none=>da M0)
def af2 (b:Nat) (k:Nat) (e:O) (l:List e.strip.den) (t:T) (m:List t.den) (ev:List Ev) (M:Mem) (M0:Mem):Rs:=
 match p7 (.sl e.strip) (a:=.sl t) m with
 | some m=>⟨[fg l.length m.length b],.ref k [],ap ev [.kl k],(k,⟨.sl (.fz e.strip),l++m⟩)::del k M⟩
 | none=>da M0
def afi (B:Tab) (dst:Option Nat) (t:TypeId) (s x:V) (M:Mem):Rs:=
 match (B.τ t).el,dst,ahp M x with
 | some e,some d,some src=>
  bif bt [(B.τ t).ok,(B.τ e).ok,neg (Nat.beq (B.τ e).bytes 0),B.z e,gl (B.σ e).size (B.τ e).size]then
   (match s with
   | .nl=>(match src with
    | .nil=>⟨[],.nl,[],M⟩
    | .own j e' m=>bif bt [qa j d,gl e'.strip.size (B.τ e).size]then ⟨[fg 0 m.length (B.τ e).bytes],.ref d [],[.kl j,.kl d],(d,⟨.sl e',m⟩)::del d (del j M)⟩else da M
    | .dat ev M' t' m=>bif gl t'.size (B.τ e).size then ⟨[fg 0 m.length (B.τ e).bytes],.ref d [],ap ev [.kl d],(d,⟨.sl (.fz t'),m⟩)::del d M'⟩else da M)
   | .ref k π=>(match go M k,π with
    | some ⟨.sl o,l⟩,[]=>bif bt [gl o.strip.size (B.τ e).size,Nat.ble (Nat.succ k) gid]then (match src with
     | .nil=>⟨[],.ref k [],[],M⟩
     | .own j e' m=>bif neg (qa j k)then da M else af0 (B.τ e).bytes k o l j e' m [.kl k] (del k M) M
     | .dat ev M' t' m=>(match go M' k with | some _=>af2 (B.τ e).bytes k o l t' m (ap ev [.kl k]) (del k M') M | none=>da M))else da M
    | some ob,π=>(match get π ob.o ob.x,set π ob.o ob.x ⟨.fz .any,()⟩with
     | some ⟨.sl o,l⟩,some ob'=>bif bt [gl o.strip.size (B.τ e).size,neg (Nat.beq d k),Nat.ble (Nat.succ k) gid]then (match src with
      | .nil=>⟨[],.ref k π,[],M⟩
      | .own j e' m=>bif bt [qa j k,qa j d]then af0 (B.τ e).bytes d o l j e' m [.cut k ob.o ob'.o] (put k ob' M) M else da M
      | .dat ev M' t' m=>(match go M' k with | some _=>af2 (B.τ e).bytes d o l t' m (ap ev [.cut k ob.o ob'.o]) (put k ob' M') M | none=>da M))else da M
     | some ⟨.sl o,l⟩,none=>(match bl7 π ob with
      | some ob'=>bif bt [gl o.strip.size (B.τ e).size,neg (Nat.beq d k),Nat.ble (Nat.succ k) gid]then (match src with
       | .nil=>da M
       | .own j e' m=>bif bt [qa j k,qa j d]then af0 (B.τ e).bytes d o l j e' m [.tk k ob.o ob'.o] (put k ob' M) M else da M
       | .dat ev M' t' m=>(match go M' k with | some _=>af2 (B.τ e).bytes d o l t' m (ap ev [.tk k ob.o ob'.o]) (put k ob' M') M | none=>da M))else da M
      | none=>da M)
     | _,_=>da M)
    | none,_=>da M)
   | _=>da M)
  else da M
 | _,_,_=>da M
structure Mp where
 k:T
 v:T
 l:(T.mp k v).den
def bbg (_:Tab) (_:TypeId) (_:Mem) (_ _:V) (_:Bool):List Prop×V:=bad
def axw (_:Tab) (_:TypeId) (_:Option Nat) (M:Mem):Rs:=da M
def axr (_:Tab) (_:TypeId) (_ _ _:V) (M:Mem):Rs:=da M
def jt:T->List Value->Bool
 | .p a b,zs=>nob (jt a (jx a.size zs)) (jt b (oh a.size zs))
 | .u,[]=>true
 | .int k,[.int k' (.ofNat 0)]=>ac0 k k'
 | .bool,[.bool b]=>neg b
 | .str,[.string s]=>Nat.beq s.size 0
 | .sl _,[.slice none 0 0]=>true
 | .ns _,[.slice none 0 0]=>true
 | .any,[v]=>v.oneCell'
 | _,_=>false
def awe (B:Tab) (t:TypeId) (o:Option Nat) (M:Mem):Rs:=
 match o with
 | some k=>bif bt [(B.τ t).ok,B.z t]then
   ⟨[],.ad k [.de],[.kl k],(k,⟨.pt (B.σ t).deep,(B.σ t).deep.dflt⟩)::del k M⟩else da M
 | none=>da M
def bas (B:Tab) (t:TypeId) (o:Option Nat) (x:V) (M:Mem):Rs:=
 match o with
 | some k=>(match conv k (B.σ t) (x.cells.ev (.kl k)) (del k M)with
  | some (q,e,M')=>⟨[],.ad k [.de],.kl k::e,(k,⟨.pt q.o,q.x⟩)::M'⟩
  | none=>bif neg (isN (x.cells.size M))then ⟨[],.bx x.cells,[],M⟩else da M)
 | none=>da M
def ug (M:Mem) (place:Nat->Option (b9×Nat×Nat)) (f:Operand->V):List (Nat×Operand)->V->Option V
 | [],v=>some v
 | (i,x)::r,v=>(match place i with
  | some (π,off,n)=>(match fw M π v with
   | some (m,w)=>bif bt [gl m off,l8 M w n,l8 M (f x).cells n]then (match j9 π v (f x).cells with | some v'=>ug M place f r v' | none=>none)else none
   | none=>none)
  | none=>none)
def bh3 (B:Tab) (τ:Ty) (i:Nat):Option (b9×Nat×Nat):=
 match τ.arr with
 | some (e,n)=>bif Nat.ble (Nat.succ i) n then some (aea n i,Nat.mul i (B.τ e).size,(B.τ e).size)else none
 | none=>(match ng τ.fld i with | some q=>some (aea (len τ.fld) i,q.1,q.2.2) | none=>none)
def aql (B:Tab) (τ:Ty):Bool:=
 match τ.arr with
 | some (e,_)=>(B.τ e).ok
 | none=>τ.sz
def zk (B:Tab) (t:TypeId) (parts:List (Nat×Operand)) (f:Operand->V) (M:Mem):Rs:=
 bif bt [(B.τ t).ok,aql B (B.τ t),B.z t]then
   (match ug M (bh3 B (B.τ t)) f parts (u9 (B.σ t))with
   | some v=>⟨[],.ag v,[],M⟩
   | none=>da M)else da M
def ph (k:Nat) (o:O):List Ev->List V->Mem->Option (List o.strip.den×List Ev×Mem)
 | ev,[],M=>some ([],ev,M)
 | ev,v::r,M=>(match ahr k o (v.evs ev) M with
  | some (x,e,M')=>(match ph k o (ap ev e) r M' with
   | some (l,e',M'')=>some (x::l,e',M'')
   | none=>none)
  | none=>none)
def qc (M:Mem) (sz:Nat) (f:Operand->V):List (Nat×Operand)->List V->Option (List V)
 | [],l=>some l
 | (i,x)::r,l=>bif nob (Nat.ble (Nat.succ i) (len l)) (l8 M (f x).cells sz)then qc M sz f r (ap6 l i (f x).cells)else none
def biz:T->V
 | .ns (.sl e)=>.d (.ns (.sl e)) (some [])
 | _=>.nl
def acm (B:Tab) (t:TypeId) (n:Nat) (parts:List (Nat×Operand)) (f:Operand->V) (o:Option Nat) (M:Mem):Rs:=
 match o,(B.τ t).el with
 | some k,some e=>
  (match qc M (B.τ e).size f parts (ab7 (u9 (B.σ e)) n)with
  | some l=>bif bt [(B.τ t).ok,(B.τ e).ok,B.z e,Nat.ble (Nat.mul n (B.τ e).size) 16777216,Nat.ble n nb,gl (B.σ e).size (B.τ e).size]then
    (match vi [.kl k] l with
    | []=>⟨[],biz (B.σ t),[],M⟩
    | v::r=>(match conv k (B.σ e) v (del k M)with
     | some (q,_,_)=>(match ph k q.o [] (v::r) (del k M)with
      | some (x,ev,M')=>⟨[],.ref k [],.kl k::ev,(k,⟨.sl q.o,x⟩)::M'⟩
      | none=>(match ph k (.fz (B.σ e)) [] (v::r) (del k M)with
       | some (x,ev,M')=>⟨[],.ref k [],.kl k::ev,(k,⟨.sl (.fz (B.σ e)),x⟩)::M'⟩
       | none=>da M))
     | none=>da M))else da M
  | none=>da M)
 | _,_=>da M
def ao6 (B:Tab) (t:TypeId) (l c:V) (o:Option Nat) (M:Mem):Rs:=
 match o,(B.τ t).el,l,c with
 | some k,some e,.d (.int _) nl,.d (.int _) nc=>
  bif bt [(B.τ t).ok,(B.τ e).ok,B.z e,gl (B.σ e).size (B.τ e).size]then
    ⟨[0<=nl,nl<=nc,nc<=nb,nc * (B.τ e).bytes<=nb],.ref k [],[.kl k],(k,⟨.sl (B.σ e).deep,List.replicate nl.toNat (B.σ e).deep.dflt⟩)::del k M⟩else da M
 | _,_,_,_=>da M
def x5 (B:Tab) (t:TypeId) (x y:V) (M:Mem):Rs:=
 match x with
 | .ad k π=>(match go M k,pb M k π with
  | some ob,some q=>bif bt [(B.τ t).ok,l8 M y.cells (B.τ t).size,gl q.o.strip.size (B.τ t).size,neg (isZ (B.τ t).size)]then
    (match (bif ajy π then (match ahr k q.o y.cells M with
      | some (z,e,M')=>some (⟨q.o,z⟩,e,M')
      | none=>none)else conv k (B.σ t) y.cells M)with
     | some (z,e,M')=>(match go M' k,set π ob.o ob.x z with
      | some _,some ob'=>bif gl z.o.strip.size (B.τ t).size then (match bdz π ob' with
      | some (c,ob2)=>⟨[c],.any,ap e [.cut k ob.o ob'.o,.cut k ob'.o ob2.o],put k ob2 M'⟩
      | none=>⟨[],.any,ap e [.cut k ob.o ob'.o],put k ob' M'⟩)else da M
      | _,_=>da M)
     | none=>da M)else da M
  | _,_=>da M)
 | _=>da M
def bay (o:O) (M:Mem) (y:V):Option (List Prop×V×List Ev×Mem):=
 match o,y with
 | .fz (.ns (.sl t)),.ref j []=>(match go M j with
  | some ⟨.sl e,l⟩=>(match p7 (.sl t) (a:=.sl e.strip) l with
   | some l'=>some ([0 < l'.length],.d (.ns (.sl t)) (some l'),[.fz j ⟨.sl e,l⟩],del j M)
   | none=>none)
  | _=>none)
 | _,_=>none
def bq0 (M:Mem):V->O
 | .ad k π=>(match pb M k π with | some q=>q.o | none=>.fz .any)
 | _=>.fz .any
def afa (B:Tab) (t:TypeId) (x y:V) (M:Mem):Rs:=
 match bay (bq0 M x) M y with
 | some (c,y',e,M1)=>(match x5 B t (x.evs e) y' M1 with
  | r=>⟨ap c r.vc,r.av,ap e r.ev,r.M⟩)
 | none=>x5 B t x y M
def ail (x y:V) (M:Mem) (r:Rs):Rs:=
 match x,y with
 | .ad k [.de],.ad j [.de]=>(match go M k,go r.M k with
  | some ⟨.pt (.fz .any),_⟩,some ⟨.pt (.pt o),z⟩=>bif nob (Nat.blt k gid) (isN (go r.M j))then ⟨r.vc,.any,ap r.ev [.un k j],(j,⟨.pt o,z⟩)::del k r.M⟩else r
  | _,_=>r)
 | _,_=>r
def an8:V->Option (FuncId×V)
 | .fn f v=>some (f,v)
 | .d (.fn f t) x=>some (f,n9 t x)
 | _=>none
def rq (M:Mem):V->Option (List V)
 | .u=>some []
 | .p a b=>(match rq M b with | some r=>bif l8 M a 1 then some (a::r)else none | none=>none)
 | _=>none
def awm (M:Mem):List V->Option V
 | []=>some .u
 | v::r=>(match awm M r with | some c=>bif nob (neg (ac9 v)) (l8 M v 1)then some (.p v c)else none | none=>none)
def at3 (M:Mem) (fn:Fn) (first:List Operand) (vs:List V):List Prop×V:=
 match fn,first,awm M vs with
 | .func f,[],some c=>d5 (.fn f c)
 | _,_,_=>bad
def bha (_:Tab) (_:TypeId) (_:Mem) (_:V):List Prop×V:=bad
def inI:V->Option (TypeId×V)
 | .ifc t v=>some (t,v)
 | .d (.ifc t T) y=>some (t,n9 T y)
 | _=>none
def bh9 (_:Tab) (_:TypeId) (_:Bool) (_:V):List Prop×V:=bad
def ew (B:Tab) (Φ:FuncId->Option Ct) (o:Oper) (ρ:Operand->V) (M:Mem):Rs:=
 match o.op with
 | .move x=>dz ([],ρ x) M
 | .assign x=>dz ([],ρ x) M
 | .nilCheck x=>dz (bar (ρ x)) M
 | .load t x=>sj (B.τ t) M o.dst (ρ x)
 | .fieldAddr t x i=>dz (aca (B.τ t) M (ρ x) i) M
 | .field t x i=>dz (afo B (B.τ t) M (ρ x) i) M
 | .indexAddr t x i=>dz (aff B (B.τ t) M (ρ x) (ρ i)) M
 | .index t x i=>dz (bh5 (B.τ t) (ρ x) (ρ i)) M
 | .binOp op t x y _=>dz (ave B t op (bbh y) (ρ x) (ρ y)) M
 | .unOp op _ x=>dz (bhk op (ρ x)) M
 | .convert s d x=>dz (atz (B.τ s) (B.τ d) (ρ x)) M
 | .extract x i=>dz (aqs (ρ x) i) M
 | .slice t x lo hi none=>aui B t o.dst ρ x lo hi M
 | .alloc e=>awe B e o.dst M
 | .box e x=>bas B e o.dst (ρ x) M
 | .build t parts=>zk B t (toL parts) ρ M
 | .buildSlice t n parts=>acm B t n (toL parts) ρ o.dst M
 | .makeSlice t l c=>ao6 B t (ρ l) (ρ c) o.dst M
 | .store t x y=>ail (ρ x) (ρ y) M (afa B t (ρ x) (ρ y) M)
 | .lookup t x i ok=>dz (bbg B t M (ρ x) (ρ i) ok) M
 | .makeMap t none=>axw B t o.dst M
 | .makeInterface t x=>dz (bha B t M (ρ x)) M
 | .typeAssert x _ i ok=>dz (bh9 B i ok (ρ x)) M
 | .mapUpdate t m i x=>axr B t (ρ m) (ρ i) (ρ x) M
 | .makeFunc fn fs cs=>dz (at3 M fn (toL fs) (sk ρ (toL cs))) M
 | .call c=>(match c.callee with
  | .builtin .len=>(match toL c.args,toL c.argTypes with
   | [x],[t]=>dz (am7 (B.τ t) M (ρ x)) M
   | _,_=>da M)
  | .builtin .max=>(match toL c.args with
   | [x,y]=>dz (bcs true (ρ x) (ρ y)) M
   | _=>da M)
  | .builtin .min=>(match toL c.args with
   | [x,y]=>dz (bcs false (ρ x) (ρ y)) M
   | _=>da M)
  | .builtin .append=>(match toL c.args,toL c.argTypes with
   | [x,y],[t,t']=>bif Nat.beq t t' then afi B o.dst t (ρ x) (ρ y) M else da M
   | _,_=>da M)
  | .value cx=>(match an8 (ρ cx),o.dst with
   | some (f,v),some d=>(match Φ f,rq M v with
    | some ct,some cs=>aa3 ct d (ap (sk ρ (toL c.args)) cs) M
    | _,_=>da M)
   | _,_=>da M)
  | .invoke r name=>(match inI (ρ r),o.dst with
   | some (t,v),some d=>(match aub B.m t name with
    | some f=>(match Φ f with
     | some ct=>aa3 ct d (v::sk ρ (toL c.args)) M
     | none=>da M)
    | none=>da M)
   | _,_=>da M)
  | _=>da M)
 | _=>da M
end Go.Bm
/- The gi machine:regions,code,loops. -/
namespace Go.Bm
open Go.RowKit
def conj:List Prop->Prop->Prop
 | [],K=>K
 | p::r,K=>p/\conj r K
def imp (g:Prop):List Prop->Prop->Prop
 | [],K=>K
 | p::r,K=>(g->conj r p)/\K
def cnd (b:Bool) (x y:Prop):Prop:=(b=true->x)/\(b=false->y)
def wr (d:Option Nat) (x:V) (env:Env):Env:=
 match d with
 | some d=>(d,x)::env
 | none=>env
def gc:V->Bool->Prop
 | .d .bool b,w=>b=w
 | .gd _ _ P v,w=>P/\gc v w
 | _,_=>False
def lx:V->Bool
 | .d .bool _=>true
 | .gd _ _ _ v=>lx v
 | _=>false
def aws (a b:Bool):Bool:=bif a then b else neg b
def nf (f:Operand->V):List Operand->List Prop
 | []=>[]
 | x::r=>(match f x with
  | .gd _ _ P _=>P::nf f r
  | _=>nf f r)
def ni (o:Oper):Bool:=
 match o.op with
 | .store _ _ _=>false
 | .mapUpdate _ _ _ _=>false
 | .call c=>(match c.callee with
  | .builtin .append=>false
  | _=>true)
 | _=>true
def fresh (M:Mem):List Ev->Bool
 | []=>true
 | .kl k::r=>nob (isN (go M k)) (fresh M r)
 | _=>false
def avF (M0 M:Mem):V->V
 | .ref k π=>(match go M0 k with | some _=>.ref k π | none=>(match pb M k π with | some q=>n9 q.o.strip q.x | none=>.any))
 | .ad k π=>(match go M0 k with | some _=>.ad k π | none=>(match pb M k π with | some q=>.d (.pt q.o.strip) q.x | none=>.any))
 | .p a b=>.p (avF M0 M a) (avF M0 M b)
 | .ag v=>.ag (avF M0 M v)
 | .tup v=>.tup (avF M0 M v)
 | .fn f v=>.fn f (avF M0 M v)
 | .ifc t v=>.ifc t (avF M0 M v)
 | .bx v=>.bx (avF M0 M v)
 | .gd _ _ _ _=>.any
 | v=>v
def tj (ops:List Oper) (j:Nat):Option Nat:=
 match ng ops j with
 | some o=>o.dst
 | none=>none
def afl (cb:Bool) (side:Bool):V->List Prop
 | .gd _ _ P _=>[cb=side->P]
 | _=>[]
def bap (cb:Bool) (a b:Operand) (av bv:Bool):Bool:=
 match a,b with
 | .const (.bool true),_=>cb || bv
 | _,.const (.bool false)=>cb && av
 | _,_=>(bif cb then av else bv)
def ad1 (env:Env) (c a b:Operand):List Prop×V:=
 bif bt [(rd env c).strip.isB,(rd env a).strip.isB,(rd env b).strip.isB]then
  (ap (nf (rd env) [c]) (ap (afl (rd env c).strip.boolV true (rd env a)) (afl (rd env c).strip.boolV false (rd env b))),
   .d .bool (bap (rd env c).strip.boolV a b (rd env a).strip.boolV (rd env b).strip.boolV))
 else bad
def cu:Op->List Operand
 | .move x=>[x]
 | .assign x=>[x]
 | .nilCheck x=>[x]
 | .load _ x=>[x]
 | .fieldAddr _ x _=>[x]
 | .field _ x _=>[x]
 | .indexAddr _ x i=>[x,i]
 | .index _ x i=>[x,i]
 | .binOp _ _ x y _=>[x,y]
 | .unOp _ _ x=>[x]
 | .convert _ _ x=>[x]
 | .extract x _=>[x]
 | .slice _ x lo hi _=>x::ap (optL lo) (optL hi)
 | .box _ x=>[x]
 | .build _ ps=>snds (toL ps)
 | .buildSlice _ _ ps=>snds (toL ps)
 | .makeSlice _ l c=>[l,c]
 | .store _ x y=>[x,y]
 | .lookup _ m i _=>[m,i]
 | .mapUpdate _ m i x=>[m,i,x]
 | .makeFunc _ fs cs=>ap (toL fs) (toL cs)
 | .call c=>ap (calO c.callee) (toL c.args)
 | .makeInterface _ x=>[x]
 | .typeAssert x _ _ _=>[x]
 | _=>[]
where
 calO:Callee->List Operand
  | .value x=>[x]
  | .invoke x _=>[x]
  | _=>[]
 optL:Option Operand->List Operand
  | none=>[]
  | some x=>[x]
 snds:List (Nat×Operand)->List Operand
  | []=>[]
  | (_,x)::r=>x::snds r
def evR (B:Tab) (Φ:FuncId->Option Ct) (o:Oper) (env:Env) (M:Mem):Rs:=
 match o.op with
 | .pick c a b=>dz (ad1 env c a b) M
 | _=>(match ew B Φ o (fun x=>(rd env x).strip) M with
  | ⟨vc,v,e,M'⟩=>⟨ap (nf (rd env) (cu o.op)) vc,v,e,M'⟩)
def tw (B:Tab) (Φ:FuncId->Option Ct) (all:List Oper):List Oper->Env->Mem->(Env->Mem->Prop)->Prop
 | [],env,M,K=>K env M
 | o::rest,env,M,K=>
  (match o.guard with
  | none=>(match evR B Φ o env M with
   | ⟨vc,v,e,M'⟩=>conj vc (tw B Φ all rest (wr o.dst v (rr env e)) M' K))
  | some (j,want)=>(match tj all j,evR B Φ o env M with
   | some dj,⟨vc,v,e,M'⟩=>bif bt [lx (gt env dj),ni o,fresh M e]then
     imp (gc (gt env dj) want) vc (tw B Φ all rest (wr o.dst (.gd j want (gc (gt env dj) want) (avF M M' v)) env) M K)else False
   | none,_=>False))
def dw (B:Tab) (Φ:FuncId->Option Ct) (all:List Oper):List Oper->Env->Mem->(Env->Prop)->Prop
 | [],env,_,K=>K env
 | o::rest,env,M,K=>
  (match o.guard with
  | none=>(match evR B Φ o env M with
   | ⟨vc,v,e,M'⟩=>bif bt [ni o,fresh M e]then conj vc (dw B Φ all rest (wr o.dst (avF M M' v) env) M K)else False)
  | some (j,want)=>(match tj all j,evR B Φ o env M with
   | some dj,⟨vc,v,e,M'⟩=>bif bt [lx (gt env dj),ni o,fresh M e]then
     imp (gc (gt env dj) want) vc (dw B Φ all rest (wr o.dst (.gd j want (gc (gt env dj) want) (avF M M' v)) env) M K)else False
   | none,_=>False))
def asc:List (Nat×Bool)->Nat->Bool->Bool
 | [],_,_=>false
 | (i,w)::r,j,w'=>bif nob (Nat.beq i j) (aws w w')then true else asc r j w'
def unG (fs:List (Nat×Bool)):V->V
 | .gd j w P v=>bif asc fs j w then v else .gd j w P v
 | v=>v
def su:V->Bool
 | .gd _ _ _ _=>true
 | _=>false
def mn (all:List Oper) (env:Env):Nat->Nat->Bool->List (Nat×Bool)
 | 0,_,_=>[]
 | n+1,j,w=>(j,w)::(match tj all j with
  | some d=>(match gt env d with
   | .gd i w' _ _=>mn all env n i w'
   | _=>[])
  | none=>[])
def ano (t:Nat):Option Nat->Bool
 | some d=>Nat.beq d t
 | none=>false
def bav (all:List Oper) (c:Operand) (side:Bool) (v:V):V:=
 match c,v with
 | .tmp t,.gd j w P x=>bif nob (ano t (tj all j)) (aws w side)then x else .gd j w P x
 | _,v=>v
def au9 (all:List Oper) (fs:List (Nat×Bool)) (env:Env) (c a b:Operand):List Prop×V:=
 bif bt [(rd env c).strip.isB,(rd env a).strip.isB,(rd env b).strip.isB]then
  (ap (nf (fun x=>unG fs (rd env x)) [c]) (ap (afl (rd env c).strip.boolV true (bav all c true (unG fs (rd env a)))) (afl (rd env c).strip.boolV false (bav all c false (unG fs (rd env b))))),
   .d .bool (bap (rd env c).strip.boolV a b (rd env a).strip.boolV (rd env b).strip.boolV))
 else bad
def evG (B:Tab) (Φ:FuncId->Option Ct) (all:List Oper) (fs:List (Nat×Bool)) (o:Oper) (env:Env) (M:Mem):Rs:=
 match o.op with
 | .pick c a b=>dz (au9 all fs env c a b) M
 | _=>(match ew B Φ o (fun x=>(rd env x).strip) M with
  | ⟨vc,v,e,M'⟩=>⟨ap (nf (fun x=>unG fs (rd env x)) (cu o.op)) vc,v,e,M'⟩)
def wIn (d:Nat):List Oper->Bool
 | []=>false
 | o::r=>bif ano d o.dst then true else wIn d r
def twG (B:Tab) (Φ:FuncId->Option Ct) (all:List Oper):List Oper->Env->Mem->(Env->Mem->Prop)->Prop
 | [],env,M,K=>K env M
 | o::rest,env,M,K=>
  (match o.guard with
  | none=>(match evG B Φ all [] o env M with
   | ⟨vc,v,e,M'⟩=>bif su v then False else conj vc (twG B Φ all rest (wr o.dst v (rr env e)) M' K))
  | some (j,want)=>(match tj all j,evG B Φ all (mn all env 8 j want) o env M with
   | some dj,⟨vc,v,e,M'⟩=>bif bt [lx (gt env dj),ni o,fresh M e,neg (wIn dj (o::rest))]then
     imp (gc (gt env dj) want) vc (twG B Φ all rest (wr o.dst (.gd j want (gc (gt env dj) want) (avF M M' v)) env) M K)else False
   | none,_=>False))
def dwG (B:Tab) (Φ:FuncId->Option Ct) (all tl:List Oper):List Oper->Env->Mem->(Env->Prop)->Prop
 | [],env,_,K=>K env
 | o::rest,env,M,K=>
  (match o.guard with
  | none=>(match evG B Φ all [] o env M with
   | ⟨vc,v,e,M'⟩=>bif bt [ni o,fresh M e]then conj vc (dwG B Φ all tl rest (wr o.dst (avF M M' v) env) M K)else False)
  | some (j,want)=>(match tj all j,evG B Φ all (mn all env 8 j want) o env M with
   | some dj,⟨vc,v,e,M'⟩=>bif bt [lx (gt env dj),ni o,fresh M e,neg (wIn dj (o::rest)),neg (wIn dj tl)]then
     imp (gc (gt env dj) want) vc (dwG B Φ all tl rest (wr o.dst (.gd j want (gc (gt env dj) want) (avF M M' v)) env) M K)else False
   | none,_=>False))
def nogd:Env->Bool
 | []=>true
 | (_,v)::r=>bif su v then false else nogd r
def acs:Op->Bool
 | .move _=>true
 | .assign _=>true
 | .nilCheck _=>true
 | .load _ _=>true
 | .fieldAddr _ _ _=>true
 | .field _ _ _=>true
 | .indexAddr _ _ _=>true
 | .index _ _ _=>true
 | .binOp _ _ _ _ _=>true
 | .unOp _ _ _=>true
 | .convert _ _ _=>true
 | _=>false
def cd:V->Bool
 | .d _ _=>true
 | .nl=>true
 | .np=>true
 | .u=>true
 | .p a b=>nob (cd a) (cd b)
 | .ag v=>cd v
 | .fn _ v=>cd v
 | .bx v=>cd v
 | _=>false
def ait (env:Env):List Operand->Bool
 | []=>true
 | x::r=>nob (cd (rd env x)) (ait env r)
def ake (B:Tab) (e:TypeId):Ob:=⟨.pt (B.σ e).deep,(B.σ e).deep.dflt⟩
def bm9 (d:Nat):V->Bool
 | .ad k [.de]=>Nat.beq k d
 | _=>false
def bmp (d:Nat):Rs->Option Ob
 | ⟨[],_,_,[(k,ob)]⟩=>bif Nat.beq k d then some ob else none
 | _=>none
def bx (_:Tab) (_:FuncId->Option Ct) (_:List Oper) (_:Env) (_:Mem) (_:Env->Mem->Prop):Prop:=False
def am3:Op->Bool
 | .move _=>true
 | .assign _=>true
 | .extract _ _=>true
 | _=>false
def newK:Op->Bool
 | .alloc _=>true
 | .build _ _=>true
 | .makeSlice _ _ _=>true
 | .buildSlice _ n p=>nob (Nat.beq n 0) (Nat.beq (len (toL p)) 0)
 | .call c=>(match c.callee with
  | .value _=>true
  | .builtin .len=>true
  | _=>false)
 | _=>false
def ad5 (M:Mem):V->Bool
 | .p a b=>nob (ad5 M a) (ad5 M b)
 | .ag v=>ad5 M v
 | .fn _ v=>ad5 M v
 | .bx v=>ad5 M v
 | .ref k _=>neg (isN (go M k))
 | .ad k _=>neg (isN (go M k))
 | .gd _ _ _ _=>false
 | .ifc _ _=>false
 | .tup _=>false
 | _=>true
def alb (M:Mem) (env:Env):List Operand->Bool
 | []=>true
 | x::r=>nob (ad5 M (rd env x)) (alb M env r)
def litK (o:Op) (env:Env):Bool:=
 match o with
 | .buildSlice _ _ _=>ait env (cu o)
 | .call c=>(match c.callee with
  | .builtin .append=>ait env (cu o)
  | _=>false)
 | _=>false
def amv (M:Mem) (o:Op) (env:Env):Bool:=orb (am3 o) (orb (litK o env) (nob (orb (acs o) (newK o)) (alb M env (cu o))))
def klB:List Ev->Mem->Bool
 | [],[]=>true
 | .kl k::r,(j,_)::N=>nob (Nat.beq k j) (klB r N)
 | _,_=>false
def ahd:List Nat->Mem->Bool
 | [],_=>true
 | k::r,M=>nob (isN (go M k)) (ahd r M)
def vr:V->Bool
 | .p a b=>nob (vr a) (vr b)
 | .ag v=>vr v
 | .tup v=>vr v
 | .fn _ v=>vr v
 | .ifc _ v=>vr v
 | .bx v=>vr v
 | .gd _ _ _ _=>false
 | _=>true
def w6:Env->Bool
 | []=>true
 | (_,v)::r=>nob (vr v) (w6 r)
def ar1:Op->Bool
 | .build _ _=>true
 | _=>false
def yq (o:Op):Bool:=nob (orb (acs o) (ar1 o)) (neg (am3 o))
def ksV (ks:List Nat):V->Bool
 | .d _ _=>true
 | .nl=>true
 | .np=>true
 | .u=>true
 | .p a b=>nob (ksV ks a) (ksV ks b)
 | .ag v=>ksV ks v
 | .fn _ v=>ksV ks v
 | .bx v=>ksV ks v
 | .ref k _=>inN k ks
 | .ad k _=>inN k ks
 | _=>false
def w9 (ks:List Nat) (env:Env):List Operand->Bool
 | []=>true
 | x::r=>nob (ksV ks (rd env x)) (w9 ks env r)
def alf (env:Env):List Oper->List Nat
 | []=>[]
 | o::r=>(match o.op with
  | .load _ (.tmp t)=>(match gt env t with
   | .bx (.ad k _)=>k::alf env r
   | _=>alf env r)
  | _=>alf env r)
def bhz (τ:Ty):Bool:=bt [τ.ok,gl τ.size 1,neg τ.agg]
def bxK (B:Tab) (as:List Nat) (o:Op) (env:Env):Bool:=
 match o with
 | .load t (.tmp t0)=>(match gt env t0 with
  | .bx (.ad k π)=>bt [bds π,inN k as,bhz (B.τ t)]
  | _=>false)
 | _=>false
def ahe (as:List Nat):Ev->Bool
 | .kl k=>neg (inN k as)
 | .fz k _=>neg (inN k as)
 | .cut k o o'=>orb (neg (inN k as)) (aag (qw [.de] o) (qw [.de] o'))
 | .mv j _=>neg (inN j as)
 | .un j _=>neg (inN j as)
 | .tk k o o'=>orb (neg (inN k as)) (aag (qw [.de] o) (qw [.de] o'))
def ans (as:List Nat):List Ev->Bool
 | []=>true
 | e::r=>nob (ahe as e) (ans as r)
def alm (ms:List Nat) (o:Oper):Nat:=o.after.toList.foldl (fun m e=>if Region.binds .any e then m ||| (1 <<< e.on) ||| (ms.getD e.on 0)else m) 0
def g8:List Nat->List Oper->List Nat
 | ms,[]=>ms
 | ms,o::r=>g8 (ms++[alm ms o]) r
def tq (n:Nat) (ms:List Nat) (m i:Nat):Bool:=(List.range n).any fun j=>!(Nat.blt j m) && !((ms.getD j 0).testBit i)
def ba1 (l:List Oper) (m:Nat):List Bool:=(List.range m).map fun i=>tq (len l) (g8 [] l) m i
def ajo:List Bool->Bool
 | []=>false
 | b::_=>b
def ahf:List Bool->List Bool
 | []=>[]
 | _::r=>r
def hx (D:List Bool) (ks as:List Nat) (B:Tab) (Φ:FuncId->Option Ct) (M0:Mem):List Oper->Env->Mem->(Env->Mem->Prop)->Prop
 | [],env,X,K=>K env X
 | o::r,env,X,K=>
  (match o.guard,o.dst with
  | none,some d=>bif amv (ap X M0) o.op env then (match evR B Φ o env (ap X M0)with
   | ⟨vc,v,e,N⟩=>bif bt [klB e (jx (len e) N),ahd (cj (jx (len e) N)) M0,ahd (cj (jx (len e) N)) X,vr v,orb (neg (ajo D)) (orb (neg (yq o.op)) (orb (bxK B as o.op env) (nob (w9 ks env (cu o.op)) (ksV ks v))))]then conj vc (hx (ahf D) ks as B Φ M0 r ((d,v)::env) (ap (jx (len e) N) X) K)else False)else False
  | _,_=>False)
def bq4 (o:Oper):Bool:=
 match o.op with
 | .call c=>(match c.callee with
  | .value _=>true
  | _=>false)
 | _=>false
def avq (o:Oper):Bool:=
 match o.op with
 | .call c=>(match c.callee with
  | .value _=>true
  | .builtin .append=>true
  | _=>false)
 | .buildSlice _ _ _=>true
 | .binOp _ _ _ _ _=>true
 | .unOp _ _ _=>true
 | .convert _ _ _=>true
 | _=>false
def lq (ks:List Nat):Ev->Bool
 | .kl k=>neg (inN k ks)
 | .fz k _=>neg (inN k ks)
 | .cut k _ _=>neg (inN k ks)
 | .mv j k=>nob (neg (inN j ks)) (neg (inN k ks))
 | .un j k=>nob (neg (inN j ks)) (neg (inN k ks))
 | .tk k _ _=>neg (inN k ks)
def gx (ks:List Nat):List Ev->Bool
 | []=>true
 | e::r=>nob (lq ks e) (gx ks r)
def abe (l:List Oper) (m:Nat):List Bool:=(List.range (Nat.sub (len l) m)).map fun j=>(List.range m).any fun i=>!(((g8 [] l).getD (Nat.add m j) 0).testBit i)
def aqt:List Bool->List Oper->List Oper
 | b::bs,o::r=>bif nob b (yq o.op)then o::aqt bs r else aqt bs r
 | _,_=>[]
def acw (l:List Oper) (m:Nat):List (List Oper):=(List.range (Nat.sub (len l) m)).map fun j=>aqt ((List.range m).map fun i=>!(((g8 [] l).getD (Nat.add m j) 0).testBit i)) (jx m l)
def hdP:List (List Oper)->List Oper
 | []=>[]
 | a::_=>a
def tlP:List (List Oper)->List (List Oper)
 | []=>[]
 | _::r=>r
def ao1:b9->b9->Bool
 | [],[]=>true
 | .l::a,.l::b=>ao1 a b
 | .r::a,.r::b=>ao1 a b
 | .de::a,.de::b=>ao1 a b
 | .ix i::a,.ix j::b=>nob (Nat.beq i j) (ao1 a b)
 | _,_=>false
def blh:V->V->Bool
 | .ref k π,.ref j ρ=>nob (Nat.beq k j) (ao1 π ρ)
 | .ad k π,.ad j ρ=>nob (Nat.beq k j) (ao1 π ρ)
 | _,_=>false
def stB (B:Tab) (Φ:FuncId->Option Ct) (ks:List Nat):List Oper->Env->Mem->Bool
 | [],_,_=>true
 | o::r,env,M=>(match o.dst,evR B Φ o env M with
  | some d,⟨[],v,[],_⟩=>nob (nob (amv M o.op env) (nob (w9 ks env (cu o.op)) (ksV ks v))) (nob (blh v (gt env d)) (stB B Φ ks r env M))
  | _,_=>false)
def ad8 (ks as:List Nat) (B:Tab) (Φ:FuncId->Option Ct):List (List Oper)->List Bool->List Oper->Env->Mem->Bool
 | _,_,[],_,_=>true
 | ls,fs,o::r,env,M=>(match evR B Φ o env M with
  | ⟨_,v,e,M'⟩=>nob (nob (ans as e) (orb (neg (ajo fs)) (orb (nilK ks) (orb (neg (avq o)) (orb (gx ks e) (stB B Φ ks (hdP ls) (wr o.dst v (rr env e)) M')))))) (ad8 ks as B Φ (tlP ls) (ahf fs) r (wr o.dst v (rr env e)) M'))
def aer:List Oper->List Nat
 | []=>[]
 | o::r=>(match o.op,o.dst with
  | .alloc _,some d=>d::aer r
  | _,_=>aer r)
def tgt (o:Oper):Option Nat:=
 match o.op with
 | .store _ (.tmp d) _=>some d
 | _=>none
def agx:List Oper->List Nat
 | []=>[]
 | o::r=>(match tgt o with
  | some d=>d::agx r
  | none=>agx r)
def at5 (env:Env):List Operand->List Nat
 | []=>[]
 | x::r=>(match rd env x with
  | .ad k _=>k::at5 env r
  | .ref k _=>k::at5 env r
  | _=>at5 env r)
def agi (env:Env):List Oper->List Nat
 | []=>[]
 | o::r=>ap (at5 env (cu o.op)) (agi env r)
def klE:List Nat->Env->Env
 | [],env=>env
 | k::r,env=>klE r (evE (.kl k) env)
def klM:List Nat->Mem->Mem
 | [],M=>M
 | k::r,M=>klM r (del k M)
def clr:Env->Env
 | []=>[]
 | (t,v)::r=>(match v with | .gd _ _ _ _=>(t,.any)::clr r | v=>(t,v)::clr r)
structure Spl where
 b:Bool
 f:FuncId
 s:Sp
def twS (_:Tab) (_:FuncId->Option Ct) (_:List Oper) (_:List Oper) (_:Env) (_:Mem) (_:Env->Mem->Prop):Prop:=False
def dumV:V->V
 | .d t _=>.d t t.dflt
 | _=>.any
def ifP (p x y:Prop):Prop:=(p->x)/\(¬ p->y)
def twQ (B:Tab) (Φ:FuncId->Option Ct) (all:List Oper):List Oper->Env->Mem->(Env->Mem->Prop)->Prop
 | [],env,M,K=>K env M
 | o::rest,env,M,K=>
  (match o.guard with
  | none=>(match evG B Φ all [] o env M with
   | ⟨vc,v,e,M'⟩=>bif su v then False else conj vc (twQ B Φ all rest (wr o.dst v (rr env e)) M' K))
  | some (j,want)=>(match tj all j,evG B Φ all (mn all env 8 j want) o env M with
   | some dj,⟨vc,v,e,M'⟩=>bif bt [lx (gt env dj),neg (wIn dj (o::rest))]then
     (bif nob (ni o) (fresh M e)then imp (gc (gt env dj) want) vc (twQ B Φ all rest (wr o.dst (.gd j want (gc (gt env dj) want) (avF M M' v)) env) M K)
     else bif su v then False else ifP (gc (gt env dj) want) (conj vc (twQ B Φ all rest (wr o.dst v (rr env e)) M' K)) (twQ B Φ all rest (wr o.dst (.gd j want (gc (gt env dj) want) (dumV v)) env) M K))else False
   | none,_=>False))
def plc:List Nat->Nat->Nat
 | [],_=>0
 | k::r,i=>bif Nat.beq k i then 0 else Nat.succ (plc r i)
def bgx {α β:Type} (f:α->β):List α->List β
 | []=>[]
 | x::r=>f x::bgx f r
def bmt (σ:List Nat) (e:Edge):Edge:={ e with on:=plc σ e.on }
def aa2 (σ:List Nat) (o:Oper):Oper:={ o with after:=⟨bgx (bmt σ) (toL o.after)⟩ }
def zf (σ:List Nat) (l:List Oper):List Nat->List Oper
 | []=>[]
 | k::r=>(match ng l k with | some o=>aa2 σ o::zf σ l r | none=>zf σ l r)
def bm5 (f:List Nat):List Edge->Bool
 | []=>false
 | e::r=>bif nob (Region.binds .any e) (inN e.on f)then true else bm5 f r
def slow (R:Bool) (o:Oper):Bool:=orb (neg (ni o)) (orb (nob R (bq4 o)) (match o.op with
 | .box _ _=>true
 | _=>false))
def aym (R:Bool):Nat->List Oper->List Nat->List Nat
 | _,[],f=>f
 | j,o::r,f=>bif orb (slow R o) (bm5 f (toL o.after))then aym R (Nat.succ j) r (ap f [j])else aym R (Nat.succ j) r f
def blm (f:List Nat):Nat->List Oper->List Nat
 | _,[]=>[]
 | j,_::r=>bif inN j f then blm f (Nat.succ j) r else j::blm f (Nat.succ j) r
def avw (R:Bool) (l:List Oper):List Nat:=match aym R 0 l []with | f=>ap (blm f 0 l) f
def gq (R:Bool) (l:List Oper):List Oper:=match avw R l with | σ=>zf σ l σ
inductive Sh where
 | d (t:T)
 | ref (k:Nat) (π:b9)
 | ad (k:Nat) (π:b9)
 | fn (f:FuncId)
 | bx (s:Sh)
 | fc (f:FuncId) (s:Sh)
 | pr (a b:Sh)
 | u
@[reducible] def Sh.den:Sh->Type
 | .d t=>t.den
 | .bx s=>s.den
 | .fc _ s=>s.den
 | .pr a b=>a.den×b.den
 | _=>Unit
def oOf (k:Nat):List (Nat×O)->Option O
 | []=>none
 | (j,o)::r=>bif Nat.beq j k then some o else oOf k r
def baz (M:Mem) (os:List (Nat×O)) (k:Nat) (π:b9):Bool:=
 match go M k,oOf k os with
 | some q,some o=>orb (ab4 π) (q.o.beq o)
 | _,_=>false
def big (M:Mem) (os:List (Nat×O)) (k:Nat) (π:b9):Bool:=
 match go M k,oOf k os with
 | some q,some o=>orb (aag (qw π q.o) (qw π o)) (q.o.beq o)
 | _,_=>false
def Sh.read (M:Mem) (os:List (Nat×O)):(s:Sh)->V->Option s.den
 | .d t,v=>v.as t
 | .ref k π,.ref k' π'=>bif nob (baz M os k π) (nob (Nat.beq k k') (peq π π'))then some ()else none
 | .ad k π,.ad k' π'=>bif nob (big M os k π) (nob (Nat.beq k k') (peq π π'))then some ()else none
 | .fn f,.fn f' .u=>bif Nat.beq f f' then some ()else none
 | .bx s,.bx v=>s.read M os v
 | .fc f s,.fn f' v=>bif Nat.beq f f' then s.read M os v else none
 | .pr a b,.p v v'=>(match a.read M os v,b.read M os v' with | some x,some y=>some (x,y) | _,_=>none)
 | .u,.u=>some ()
 | _,_=>none
def Sh.put:(s:Sh)->s.den->V
 | .d t,x=>n9 t x
 | .ref k π,_=>.ref k π
 | .ad k π,_=>.ad k π
 | .fn f,_=>.fn f .u
 | .bx s,x=>.bx (s.put x)
 | .fc f s,x=>.fn f (s.put x)
 | .pr a b,x=>.p (a.put x.1) (b.put x.2)
 | .u,_=>.u
abbrev Shs:=List (Nat×Sh)
abbrev Obs:=List (Nat×O)
@[reducible] def vf:Shs->Type
 | []=>Unit
 | (_,s)::r=>s.den×vf r
@[reducible] def pp:Obs->Type
 | []=>Unit
 | (_,o)::r=>o.strip.den×pp r
def aqf (M:Mem) (os:Obs) (env:Env):(l:Shs)->Option (vf l)
 | []=>some ()
 | (t,s)::r=>(match s.read M os (gt env t),aqf M os env r with | some x,some y=>some (x,y) | _,_=>none)
def akx:(l:Shs)->vf l->Env
 | [],_=>[]
 | (t,s)::r,x=>(t,s.put x.1)::akx r x.2
def wkO (q:Ob) (o:O):Option o.strip.den:=
 bif q.o.wk o then p7 o.strip q.x else none
def zd (M:Mem):(l:Obs)->Option (pp l)
 | []=>some ()
 | (k,o)::r=>(match go M k with
  | some q=>(match wkO q o,zd M r with | some x,some y=>some (x,y) | _,_=>none)
  | none=>none)
def mc:(l:Obs)->pp l->Mem
 | [],_=>[]
 | (k,o)::r,x=>(k,⟨o,x.1⟩)::mc r x.2
def inO (k:Nat):Obs->Bool
 | []=>false
 | (j,_)::r=>orb (Nat.beq j k) (inO k r)
def pg (os:Obs):List Nat->Mem->Env->Env×Mem
 | [],M,env=>(env,M)
 | k::r,M,env=>bif inO k os then pg os r M env else (match go M k with
  | some ob=>pg os r (del k M) (evE (.fz k ob) env)
  | none=>pg os r M env)
def sa (os:Obs):Shs->Env->Mem->Env×Mem
 | [],env,M=>(env,M)
 | (t,.ref k [])::r,env,M=>(match gt env t,oOf k os with
  | .nl,some (.sl o)=>sa os r ((t,.ref k [])::evE (.kl k) env) ((k,⟨.sl o,[]⟩)::del k M)
  | .ref j [],_=>bif orb (Nat.beq j k) (neg (Nat.ble (Nat.succ j) gid))then sa os r env M else (match go M j with
   | some ob=>sa os r (evE (.mv j k) (evE (.kl k) env)) ((k,ob)::del j (del k M))
   | none=>sa os r env M)
  | _,_=>sa os r env M)
 | _::r,env,M=>sa os r env M
def afr:Obs->Env->Mem->Env×Mem
 | [],env,M=>(env,M)
 | (k,.sl (.op e))::r,env,M=>(match go M k with
  | some ⟨.sl e',l⟩=>(match yu ⟨.sl e',l⟩ (.sl e)with
   | some l'=>afr r (evE (.cut k (.sl e') (.sl (.op e))) env) (put k ⟨.sl (.op e),ac6 l'⟩ M)
   | none=>afr r env M)
  | _=>afr r env M)
 | _::r,env,M=>afr r env M
def ajw (ss:Shs) (os:Obs) (env:Env) (M:Mem):Option ((vf ss×pp os)×Env):=
 match sa os ss env M with
 | (env0,M0)=>match afr os env0 M0 with
 | (env1,M1)=>(match pg os (cj M1) M1 env1 with
  | (env2,M2)=>(match aqf M2 os env2 ss,zd M2 os with
   | some x,some y=>some ((x,y),env2)
   | _,_=>none))
def kept (env:Env):List Nat->Env
 | []=>[]
 | t::r=>bif cd (gt env t)then (t,gt env t)::kept env r else kept env r
def acz (k:Nat):List Nat->Bool
 | []=>false
 | j::r=>orb (Nat.beq j k) (acz k r)
def bcj (ks:List Nat):List Oper->Bool
 | []=>true
 | o::r=>(match o.dst with
  | some d=>bif acz d ks then false else bcj ks r
  | none=>bcj ks r)
def noW (ks:List Nat):Code->Bool
 | .region _ ops _=>bcj ks (toL ops)
 | .seq a b=>nob (noW ks a) (noW ks b)
 | .cond _ a b=>nob (noW ks a) (noW ks b)
 | .block _ c=>noW ks c
 | .loop c=>noW ks c
 | .scope c=>noW ks c
 | .label _=>true
 | .skip=>true
 | .ret=>true
 | .exit _=>true
 | .goto _=>true
 | _=>false
def T.oks:(t:T)->t.den->List Prop
 | .int k,n=>[inK k n]
 | .p a b,x=>ap (a.oks x.1) (b.oks x.2)
 | .sl e,l=>[(T.sl e).ok l]
 | .pt t,x=>t.oks x
 | .fn _ t,x=>t.oks x
 | .ifc _ t,x=>t.oks x
 | .mp k v,l=>[(T.mp k v).ok l]
 | .op t,x=>[(T.op t).ok x]
 | .ns t,x=>[(T.ns t).ok x]
 | .str,s=>[s.size<=nb]
 | .bool,_=>[]
 | .u,_=>[]
 | .any,_=>[]
def Sh.oks:(s:Sh)->s.den->List Prop
 | .d t,x=>t.oks x
 | .bx s,x=>s.oks x
 | .fc _ s,x=>s.oks x
 | .pr a b,x=>ap (a.oks x.1) (b.oks x.2)
 | .ref _ _,_=>[]
 | .ad _ _,_=>[]
 | .fn _,_=>[]
 | .u,_=>[]
def okS:(l:Shs)->vf l->List Prop
 | [],_=>[]
 | (_,s)::r,x=>ap (s.oks x.1) (okS r x.2)
def okO:(l:Obs)->pp l->List Prop
 | [],_=>[]
 | (_,o)::r,x=>ap (o.strip.oks x.1) (okO r x.2)
def imps:List Prop->Prop->Prop
 | [],K=>K
 | p::r,K=>p->imps r K
def vl {S:Type} (body:S->(S->Prop)->Prop):Nat->S->Prop
 | 0,_=>False
 | n+1,s=>body s (vl body n)
def bu {S:Type} (body:S->(S->Prop)->Prop) (s:S):Prop:=∃ n,vl body n s
def fk {S:Type} (k:S->Prop) (f:(S->Prop)->Prop):Prop:=f k
inductive Ann where
 | n
 | s (a b:Ann)
 | l (ss:Shs) (os:Obs) (ks:List Nat) (a:Ann)
 | j (ss:Shs) (os:Obs) (ks:List Nat) (a:Ann)
def Ann.fst:Ann->Ann
 | .s a _=>a
 | a=>a
def Ann.snd:Ann->Ann
 | .s _ b=>b
 | a=>a
inductive Ex where
 | nm
 | ex (id:Nat)
 | rt
 | go (l:Nat)
def aut (ss:Shs) (os:Obs) (env:Env) (M:Mem) (k:vf ss×pp os->Prop):Prop:=
 match ajw ss os env M with
 | some s=>k s.1
 | none=>False
def aew (next:Env->Mem->Prop) (K:Ex->Env->Mem->Prop):Ex->Env->Mem->Prop
 | .nm,env,M=>next env M
 | .ex id,env,M=>K (.ex id) env M
 | .rt,env,M=>K .rt env M
 | .go l,env,M=>K (.go l) env M
def xc (ss:Shs) (os:Obs) (k:vf ss×pp os->Prop) (K:Ex->Env->Mem->Prop):Ex->Env->Mem->Prop
 | .nm,env,M=>aut ss os env M k
 | .ex id,env,M=>K (.ex id) env M
 | .rt,env,M=>K .rt env M
 | .go l,env,M=>K (.go l) env M
def ak1 (id:Nat) (K:Ex->Env->Mem->Prop):Ex->Env->Mem->Prop
 | .nm,env,M=>K .nm env M
 | .ex id',env,M=>bif Nat.beq id' id then K .nm env M else K (.ex id') env M
 | .rt,env,M=>K .rt env M
 | .go l,env,M=>K (.go l) env M
def scpK (K:Ex->Env->Mem->Prop):Ex->Env->Mem->Prop
 | .nm,env,M=>K .nm env M
 | .ex id,env,M=>K (.ex id) env M
 | .rt,env,M=>K .rt env M
 | .go _,_,_=>False
def onK (ss:Shs) (os:Obs) (ks:List Nat) (env:Env) (K:Ex->Env->Mem->Prop) (s:vf ss×pp os):Prop:=
 imps (okS ss s.1) (imps (okO os s.2) (K .nm (ap (akx ss s.1) (kept env ks)) (mc os s.2)))
def decN:Nat->Nat->List Nat
 | 0,_=>[]
 | f+1,n=>bif Nat.beq n 0 then []else Nat.sub (Nat.mod n 10000000) 1::decN f (Nat.div n 10000000)
def bh4 (n:Nat):List Nat:=decN 20 (Nat.div n 10000)
def hrC (n:Nat):Bool:=neg (Nat.ble 5000 (Nat.mod n 10000))
def mC (n:Nat):Nat:=Nat.mod n 2500
def arq (n:Nat):Nat:=bif Nat.ble 5000 n then 5000 else bif Nat.ble 3000 n then 3000 else 2000
def bgs (n:Nat):Bool:=nob (Nat.ble 3000 n) (neg (Nat.ble 5000 n))
def fzL:List (Bool×O)->List (Bool×O)
 | []=>[]
 | q::r=>(q.1,.fz q.2.strip)::fzL r
def fzX:(rt:List (Bool×O))->js rt->js (fzL rt)
 | [],_=>()
 | _::r,x=>(x.1,fzX r x.2)
def fzCt (ct:Ct):Ct:=⟨ct.args,ct.ga,ct.pre,fzL ct.rt,fun x=>fzX ct.rt (ct.res x),true,none⟩
def arz (Φ:FuncId->Option Ct):FuncId->Option Ct:=fun f=>match Φ f with
 | some ct=>(match ct.mu with
  | none=>some (fzCt ct)
  | some _=>some ct)
 | none=>none
def bbq (env:Env):List Operand->List Nat
 | []=>[]
 | x::r=>(match rd env x with
  | .ref k _=>k::bbq env r
  | _=>bbq env r)
def aow (env:Env):List Oper->List Nat
 | []=>[]
 | o::r=>ap (bbq env (cu o.op)) (aow env r)
def akr:Nat->List Oper->Nat
 | i,[]=>i
 | i,o::r=>(match o.op with
  | .alloc _=>i
  | _=>akr (Nat.succ i) r)
def ab2:Nat->List Oper->Nat
 | i,[]=>i
 | i,o::r=>bif ni o then ab2 (Nat.succ i) r else i
def am5 (i:Nat) (o:Oper):Oper:={ o with after:=⟨ap (toL o.after) [⟨i,.data⟩]⟩ }
def rk:Nat->Nat->List Oper->List Oper
 | _,_,[]=>[]
 | 0,i,o::r=>am5 i o::r
 | Nat.succ j,i,o::r=>o::rk j i r
def bgz:Nat->Nat->List Nat
 | _,0=>[]
 | a,Nat.succ k=>a::bgz (Nat.succ a) k
def mvS (i j n:Nat):List Nat:=ap (bgz 0 i) (j::ap (bgz i (Nat.sub j i)) (bgz (Nat.succ j) (Nat.sub n (Nat.succ j))))
def ax2 (l:List Oper):List Oper:=rk (akr 0 l) (ab2 0 l) l
def bbb (l:List Oper):List Oper:=zf (mvS (ab2 0 l) (akr 0 l) (len l)) (rk (ab2 0 l) (akr 0 l) l) (mvS (ab2 0 l) (akr 0 l) (len l))
def hxT (B:Tab) (Φ:FuncId->Option Ct) (l:List Oper) (m:Nat) (env:Env) (M:Mem) (K:Env->Mem->Prop):Prop:=
 bif w6 env then hx [] [] [] B Φ M (jx m l) env [] (fun env X=>bif nogd env then twG B Φ l (oh m l) env (ap X M) K else False)else False
def ev (B:Tab) (Φ:FuncId->Option Ct) (cut:Nat->Nat):Code->Ann->(Ex->Env->Mem->Prop)->Env->Mem->Prop
 | .skip,_,K,env,M=>K .nm env M
 | .ret,_,K,env,M=>K .rt env M
 | .exit id,_,K,env,M=>K (.ex id) env M
 | .goto l,_,K,env,M=>K (.go l) env M
 | .label _,_,K,env,M=>K .nm env M
 | .scope c,A,K,env,M=>ev B Φ cut c A (scpK K) env M
 | .seq x y,.j ss os ks A,K,env,M=>bif noW ks x then
   fk (onK ss os ks env (aew (fun env M=>ev B Φ cut y A.snd K env M) K)) (fun k=>ev B Φ cut x A.fst (xc ss os k (aew (fun env M=>ev B Φ cut y A.snd K env M) K)) env M)else False
 | .seq x y,A,K,env,M=>ev B Φ cut x A.fst (aew (fun env M=>ev B Φ cut y A.snd K env M) K) env M
 | .region id ops draw,_,K,env,M=>
  (match draw with
  | false=>bif Nat.beq (cut id) 1600 then (bif nogd env then twQ B Φ (toL ops) (toL ops) env M (fun env M=>K .nm (clr env) M)else False)else
   bif Nat.beq (cut id) 1500 then twS B Φ (toL ops) (toL ops) env M (fun env M=>K .nm (clr env) M)else
   bif nogd env then twG B Φ (toL ops) (toL ops) env M (fun env M=>K .nm (clr env) M)else False
  | true=>bif Nat.beq (cut id) 999999 then (match pg [] (agi env (toL ops)) M env with
    | (env1,M1)=>bx B Φ (toL ops) (klE (aer (toL ops)) env1) [] (fun env X=>K .nm (clr env) (ap X (klM (aer (toL ops)) M1))))else
   bif Nat.beq (cut id) 999998 then (hxT B Φ (ax2 (toL ops)) (ab2 0 (toL ops)) env M (fun env M=>K .nm (clr env) M)/\hxT B Φ (bbb (toL ops)) (Nat.succ (ab2 0 (toL ops))) env M (fun env M=>K .nm (clr env) M))else
   bif Nat.ble 10000 (cut id)then
    (match bh4 (cut id),hrC (cut id),mC (cut id)with
    | ks,hr,m=>bif w6 env then hx (ba1 (gq hr (toL ops)) m) ks [] B Φ M (jx m (gq hr (toL ops))) env [] (fun env X=>bif nob (nogd env) (ad8 ks [] B Φ (acw (gq hr (toL ops)) m) (abe (gq hr (toL ops)) m) (oh m (gq hr (toL ops))) env (ap X M))then twG B Φ (gq hr (toL ops)) (oh m (gq hr (toL ops))) env (ap X M) (fun env M=>K .nm (clr env) M)else False)else False)else
   bif Nat.ble 2000 (cut id)then
    (match (bif bgs (cut id)then pg [] (agi env (toL ops)) M env else (env,M)),Nat.sub (cut id) (arq (cut id)),(bif Nat.ble 5000 (cut id)then alf env (toL ops)else [])with
    | (env,M),m,as=>bif w6 env then hx (bif Nat.ble 5000 (cut id)then ba1 (gq false (toL ops)) m else ab7 true m) [] as B Φ M (jx m (gq false (toL ops))) env [] (fun env X=>bif nob (nogd env) (ad8 [] as B Φ (acw (gq false (toL ops)) m) (abe (gq false (toL ops)) m) (oh m (gq false (toL ops))) env (ap X M))then twG B Φ (gq false (toL ops)) (oh m (gq false (toL ops))) env (ap X M) (fun env M=>K .nm (clr env) M)else False)else False)else
   bif Nat.ble 1000 (cut id)then
    (match pg [] (aow env (toL ops)) M env with
    | (env,M)=>bif w6 env then hx [] [] [] B (arz Φ) M (jx (Nat.sub (cut id) 1000) (toL ops)) env [] (fun env X=>bif nogd env then twG B (arz Φ) (toL ops) (oh (Nat.sub (cut id) 1000) (toL ops)) env (ap X M) (fun env M=>K .nm (clr env) M)else False)else False)else
   bif Nat.ble 500 (cut id)then
    (bif w6 env then hx [] [] [] B Φ M (jx (Nat.sub (cut id) 500) (toL ops)) env [] (fun env X=>bif nogd env then twG B Φ (toL ops) (oh (Nat.sub (cut id) 500) (toL ops)) env (ap X M) (fun env M=>K .nm (clr env) M)else False)else False)else
   bif nogd env then dwG B Φ (toL ops) (oh (cut id) (toL ops)) (jx (cut id) (toL ops)) env M (fun env=>twG B Φ (toL ops) (oh (cut id) (toL ops)) env M (fun env M=>K .nm (clr env) M))else False)
 | .cond (.tmp t) x y,.j ss os ks A,K,env,M=>bif bt [(gt env t).isB,noW ks x,noW ks y]then
   fk (onK ss os ks env K) (fun k=>
    cnd (gt env t).boolV (ev B Φ cut x A.fst (xc ss os k K) env M) (ev B Φ cut y A.snd (xc ss os k K) env M))else False
 | .cond (.tmp t) x y,A,K,env,M=>bif (gt env t).isB then cnd (gt env t).boolV (ev B Φ cut x A.fst K env M) (ev B Φ cut y A.snd K env M)else False
 | .block id c,.j ss os ks A,K,env,M=>bif noW ks c then
   fk (onK ss os ks env K) (fun k=>ev B Φ cut c A (ak1 id (xc ss os k K)) env M)else False
 | .block id c,A,K,env,M=>ev B Φ cut c A (ak1 id K) env M
 | .loop c,.l ss os ks A,K,env,M=>bif noW ks c then (match ajw ss os env M with
  | some q=>bu (S:=vf ss×pp os) (fun s next=>imps (okS ss s.1) (imps (okO os s.2) (ev B Φ cut c A (xc ss os next K) (ap (akx ss s.1) (kept q.2 ks)) (mc os s.2)))) q.1
  | none=>False)else False
 | _,_,_,_,_=>False
def aid:Nat->List V->Env
 | _,[]=>[]
 | i,v::r=>(i,v)::aid (Nat.succ i) r
def xi (B:Tab):List TypeId->(ts:List T)->bi ts->List V
 | _,[],_=>[]
 | [],t::ts,x=>n9 t x.1::xi B [] ts x.2
 | q::qs,t::ts,x=>ac1 (B.τ q).agg (n9 t x.1)::xi B qs ts x.2
def agL (B:Tab) (fn:Func):List Bool:=ap ((toL fn.params).map (fun q=>(B.τ q).agg)) (ab7 false fn.nfree)
def okL:(ts:List T)->bi ts->List Prop
 | [],_=>[]
 | t::ts,x=>ap (t.oks x.1) (okL ts x.2)
def bhf (M:Mem) (o:O) (v:V):Option (o.strip.den×List Ev×Mem):=
 match o with
 | .fz t=>(match cf M v with | (e,M')=>(match (v.evs e).as t with | some x=>some (x,e,M') | none=>none))
 | o=>(match conv gid o.strip v M with
  | some (q,e,M')=>(match wkO q o with | some x=>some (x,e,M') | none=>none)
  | none=>none)
def bdt (B:Tab) (env:Env) (M:Mem):ResultVar->Option V
 | .tmp t=>some (gt env t)
 | .cell t q=>(match ur (B.τ q) M (gt env t)with | ([],v)=>some v | _=>none)
def nr:V->Bool
 | .any=>false
 | .tup _=>false
 | .gd _ _ _ _=>false
 | _=>true
def mz (g:Bool):V->V
 | .ag v=>bif g then v else .any
 | v=>bif g then .any else v
def apu (B:Tab) (env:Env) (M:Mem):List ResultVar->(rs:List (Bool×O))->Option (js rs)
 | [],[]=>some ()
 | r::rs,q::qs=>(match bdt B env M r with
  | some v=>bif nr (mz q.1 v)then (match bhf M q.2 (mz q.1 v)with
   | some (x,e,M')=>(match apu B (rr env e) M' rs qs with
    | some y=>some (x,y)
    | none=>none)
   | none=>none)else none
  | none=>none)
 | _,_=>none
def aw6 {rt:List (Bool×O)} (o:Option (js rt)) (K:js rt->Prop):Prop:=
 match o with
 | some r=>K r
 | none=>False
def ask (B:Tab) (rs:List ResultVar) (rt:List (Bool×O)) (K:js rt->Prop):Ex->Env->Mem->Prop
 | .ex _,_,_=>False
 | .go _,_,_=>False
 | .nm,env,M=>aw6 (apu B env M rs rt) K
 | .rt,env,M=>aw6 (apu B env M rs rt) K
def evF (B:Tab) (Φ:FuncId->Option Ct) (cut:Nat->Nat) (fn:Func) (c:Code) (A:Ann) (ct:Ct) (x:bi ct.args) (K:js ct.rt->Prop):Prop:=
 ev B Φ cut c A (ask B (toL fn.results) ct.rt K) (aid 0 (xi B (toL fn.params) ct.args x)) []
def ajl:Option TypeDesc->Bool
 | some (.int _)=>true
 | _=>false
def aj3 (P:Program):List Field->Nat->Bool
 | [],_=>true
 | f :: r, i => bif bt [neg (f.name == "_"), Nat.beq f.offset i, ajl (P.underlying f.type)] then aj3 P r (Nat.succ i) else false
def ba7 (P:Program) (t:TypeId):Nat:=
 match P.underlying t with
 | some (.struct fs)=>bif bt [neg (P.stoodInHeld t),neg (P.eqGuardType P.depth t),aj3 P (toL fs) 0]then len (toL fs)else 0
 | some (.array n e)=>bif bt [neg (P.eqGuardType P.depth t),ajl (P.underlying e),Nat.beq (P.cellsOf e) 1]then n else 0
 | _=>0
def aw8:Option TypeDesc->Bool
 | some (.slice _)=>true
 | _=>false
def hasI (P:Program) (ms:Array Method):Option TypeDesc->Bool
 | some (.interface want)=>isN (Instr.missingMethod want ms)
 | _=>false
def isM (f:FuncId):Option Method->Bool
 | some m=>(match toL m.path,m.func with
  | [],some (g,b)=>nob (Nat.beq f g) (neg b)
  | _,_=>false)
 | none=>false
def bno (P:Program) (e:Mth):Bool:=
 match P.info? e.t with
 | some inf=>bt [aw8 (P.underlying e.t),hasI P inf.methods (P.underlying e.i),isM e.f (inf.methods.find? (·.name == e.name))]
 | none=>false
def awf (P:Program):List Mth->Bool
 | []=>true
 | e::r=>nob (bno P e) (awf P r)
structure TabOk (P:Program) (B:Tab):Prop where
 τ:∀ t,(B.τ t).ok=true->ty P t=B.τ t
 z:∀ t,B.z t=true->∃ zs,tyZ P t=some zs/\jt (B.σ t) zs=true
 q:∀ t,isZ (B.q t)=false->ba7 P t=B.q t
 m:awf P B.m=true
def zOk (P:Program) (t:TypeId) (d:T):Bool:=match tyZ P t with | some zs=>jt d zs | none=>false
def tyL (P:Program):Nat->Nat->List Ty
 | 0,_=>[]
 | n+1,i=>ty P i::tyL P n (Nat.succ i)
def zL (P:Program):Nat->List T->List Bool
 | _,[]=>[]
 | i,d::r=>zOk P i d::zL P (Nat.succ i) r
theorem bbd (P:Program):∀ (n i t:Nat) (x:Ty),ng (tyL P n i) t=some x->x=ty P (i+t)
 | 0,_,_,_,h=>by simp [tyL,ng]at h
 | n+1,i,0,x,h=>by simp only [tyL,ng,Option.some.injEq]at h;exact h.symm
 | n+1,i,t+1,x,h=>by
  simp only [tyL,ng]at h
  have:=bbd P n _ t x h
  rw [this];exact congrArg (ty P) (Nat.succ_add i t)
def qL (P:Program):Nat->Nat->List Nat
 | 0,_=>[]
 | n+1,i=>ba7 P i::qL P n (Nat.succ i)
theorem bfa (P:Program):∀ (n i t:Nat) (x:Nat),ng (qL P n i) t=some x->x=ba7 P (i+t)
 | 0,_,_,_,h=>by simp [qL,ng]at h
 | n+1,i,0,x,h=>by simp only [qL,ng,Option.some.injEq]at h;exact h.symm
 | n+1,i,t+1,x,h=>by
  simp only [qL,ng]at h
  have:=bfa P n _ t x h
  rw [this];exact congrArg (ba7 P) (Nat.succ_add i t)
theorem bfk (P:Program):∀ (l:List T) (i t:Nat) (d:T),ng l t=some d->ng (zL P i l) t=some (zOk P (i+t) d)
 | [],_,_,_,h=>by simp [ng]at h
 | e::r,i,0,d,h=>by simp only [ng,Option.some.injEq]at h;subst h;simp [zL,ng]
 | e::r,i,t+1,d,h=>by
  simp only [ng]at h
  simp only [zL,ng]
  rw [bfk P r _ t d h,show Nat.succ i+t=i+(t+1)from Nat.succ_add i t]
def apw (l:List Ty) (d:List T) (z:List Bool) (q:List Nat) (m:List Mth):Tab:=
 ⟨fun t=>match ng l t with | some x=>x | none=>bhc,fun t=>match ng d t with | some x=>x | none=>.any,
  fun t=>match ng d t with | some _=>(match ng z t with | some x=>x | none=>false) | none=>false,fun t=>match ng q t with | some x=>x | none=>0,m⟩
def bnb (l:List Ty) (d:List T) (z:List Bool) (q:List Nat):Tab:=apw l d z q []
theorem bjs {P:Program} (n:Nat) (l:List Ty) (d:List T) (z:List Bool) (q:List Nat) (m:List Mth) (h:tyL P n 0=l) (hz:zL P 0 d=z) (hq:qL P n 0=q) (hm:awf P m=true):TabOk P (apw l d z q m):=by
 constructor
 ·intro t ht
  simp only [apw]at ht ⊢
  split at ht
  ·rename_i x hx
   rw [← h]at hx
   have:=bbd P n 0 t x hx
   rw [this,Nat.zero_add]
  ·simp [bhc]at ht
 ·intro t ht
  simp only [apw]at ht ⊢
  split at ht
  ·rename_i e he
   have:=bfk P d 0 t e he
   rw [hz,Nat.zero_add]at this
   rw [this]at ht
   simp only [zOk]at ht
   split at ht
   ·rename_i zs hzs;exact ⟨zs,hzs,ht⟩
   ·cases ht
  ·cases ht
 ·intro t ht
  simp only [apw]at ht ⊢
  split at ht
  ·rename_i x hx
   rw [← hq]at hx
   have:=bfa P n 0 t x hx
   rw [this,Nat.zero_add]
  ·cases ht
 ·exact hm
theorem bld {P:Program} (n:Nat) (l:List Ty) (d:List T) (z:List Bool) (q:List Nat) (h:tyL P n 0=l) (hz:zL P 0 d=z) (hq:qL P n 0=q):TabOk P (bnb l d z q):=bjs n l d z q [] h hz hq rfl
end Go.Bm
/- The gi machine:what data and own trees have to do with memory. -/
namespace Go.Bm
open Go.RowKit
def lu:Value->Option Nat
 | .slice (some a) _ (_+1)=>some a.block
 | .pointer (some a)=>some a.block
 | _=>none
theorem at4 {a:Addr} {N K b:Nat} (h:lu (.slice (some a) N K)=some b):b=a.block:=by
 cases K with
 | zero=>cases h
 | succ k=>simp only [lu,Option.some.injEq]at h;exact h.symm
def vm (w:World) (ety:TypeId) (sz:Nat) (v:Value) (n:Nat) (xs:List Value):Prop:=
 xs.length=n * sz/\((n=0/\∃ oa,v=.slice oa 0 0)\/∃ g off c cur,v=.slice (some ⟨g,off,none⟩) n (c+1)/\w.heap[g]? = some (.cells cur ety (0,0))/\n<=c+1/\c+1<=maxLen/\cur.size=off+(c+1) * sz/\(cur.toList.drop off).take (n * sz)=xs)
theorem aun {w:World} {ety:TypeId} {sz:Nat} {v:Value} {n:Nat} {xs:List Value} (h:w.ownsRow 0 ety sz v n xs):vm w ety sz v n xs:=by
 refine ⟨h.1,?_⟩
 rcases h.2 with ⟨hv,hn⟩ | ⟨g,cap,cur,hv,hb,hg,h1,h2,h3,h4⟩
 ·exact .inl ⟨hn,none,hv⟩
 ·cases cap with
  | zero=>exact .inl ⟨by omega,some ⟨g,0,none⟩,by rw [hv,show n=0 from by omega]⟩
  | succ c=>exact .inr ⟨g,0,c,cur,hv,hg,h1,h2,by rw [h3,Nat.zero_add],by simpa using h4⟩
def ol (w:World) (b o:Nat) (us:List Value):Prop:=∀ (j:Nat) (u:Value),us[j]? = some u->w.cell? ⟨b,o+j,none⟩=some u
def bic:(t:T)->t.den->List Value
 | .int k,n=>[.int k n]
 | .bool,b=>[.bool b]
 | .str,s=>[.string s]
 | .p a b,x=>bic a x.1++bic b x.2
 | _,_=>[]
def isP:T->Bool
 | .p _ _=>true
 | _=>false
def ak3 (t:T) (x:t.den):Value:=bif isP t then .agg (bic t x).toArray else (bic t x).headD undef
def blx (k v:T) (es:Array MapEntry) (l:List (k.den×v.den)):Prop:=es.toList.map (fun e=>(e.key,e.val))=l.map fun x=>(ak3 k x.1,ak3 v x.2)
def aq (Im:Nat->Prop) (w:World):(t:T)->t.den->List Value->Prop
 | .int k,n,vs=>vs=[.int k n]/\inK k n
 | .bool,b,vs=>vs=[.bool b]
 | .str,s,vs=>vs=[.string s]/\s.size<=nb
 | .u,_,vs=>vs=[]
 | .p a b,x,vs=>∃ va vb,vs=va++vb/\aq Im w a x.1 va/\aq Im w b x.2 vb
 | .sl e,l,vs=>∃ oa cap,vs=[.slice oa l.length cap]/\(l.length<=nb/\l.length<=cap)/\(oa=none->l.length=0/\cap=0)/\
   ∀ a,oa=some a->0 < l.length->a.spot=none/\Im a.block/\∀ (i:Nat) (x:e.den),l[i]? = some x->∃ us,ol w a.block (a.off+i * e.size) us/\aq Im w e x us
 | .pt t,x,vs=>∃ b o us,vs=[.pointer (some ⟨b,o,none⟩)]/\Im b/\ol w b o us/\aq Im w t x us
 | .fn f t,x,vs=>∃ us:List Value,vs=[.func (.func f) #[] us.toArray]/\aq Im w t x us
 | .ifc i t,x,vs=>∃ u:Value,vs=[.iface i u]/\aq Im w t x [u]
 | .mp k v,l,vs=>∃ r es n,vs=[.map (some r)]/\Im r/\w.heap[r]? = some (.map es n)/\(T.mp k v).ok l/\blx k v es l
 | .op t,x,vs=>vs.length=t.size/\(∀ v ∈ vs,v.oneCell'=true)/\∀ y,x=some y->aq Im w t y vs
 | .ns t,x,vs=>(x=none/\vs=[.slice none 0 0])\/∃ y a n c,x=some y/\vs=[.slice (some a) n c]/\aq Im w t y vs
 | .any,_,vs=>∃ v:Value,vs=[v]/\v.oneCell'=true
def O.size (o:O):Nat:=o.strip.size
def Rel (Im:Nat->Prop) (w:World):(o:O)->o.strip.den->(Nat->Prop)->List Value->Prop
 | .fz t,x,_,vs=>aq Im w t x vs
 | .p a b,x,S,vs=>∃ va vb,∃ S1 S2:Nat->Prop,vs=va++vb/\(∀ c,S1 c->S c)/\(∀ c,S2 c->S c)/\(∀ c,S1 c->¬ S2 c)/\Rel Im w a x.1 S1 va/\Rel Im w b x.2 S2 vb
 | .sl e,l,S,vs=>∃ v ety xs,∃ T:Nat->Nat->Prop,vs=[v]/\vm w ety e.size v l.length xs/\l.length<=nb/\(∀ c,lu v=some c->S c)/\(∀ i c,T i c->S c/\lu v ≠ some c)/\
   (∀ i j c,i ≠ j->T i c->¬ T j c)/\∀ (i:Nat) (x:e.strip.den),l[i]? = some x->Rel Im w e x (T i) ((xs.drop (i * e.size)).take e.size)
 | .mp k v,l,S,vs=>∃ r es n,vs=[.map (some r)]/\S r/\w.heap[r]? = some (.map es n)/\(T.mp k v).ok l/\blx k v es l
 | .op e,x,S,vs=>vs.length=e.size/\(∀ v ∈ vs,v.oneCell'=true)/\∀ y,x=some y->Rel Im w e y S vs
 | .pt o,x,S,vs=>∃ b us ty' S',vs=[.pointer (some ⟨b,0,none⟩)]/\S b/\w.heap[b]? = some (.cells (us:List Value).toArray ty' (0,0))/\(∀ c,S' c->S c/\c ≠ b)/\Rel Im w o x S' us
def jc (Im Im':Nat->Prop) (w w':World):Prop:=∀ b,Im b->Im' b/\w'.heap[b]? = w.heap[b]?
theorem jc.refl (Im:Nat->Prop) (w:World):jc Im Im w w:=fun _ h=>⟨h,rfl⟩
theorem jc.trans {I1 I2 I3:Nat->Prop} {a b c:World} (h:jc I1 I2 a b) (k:jc I2 I3 b c):jc I1 I3 a c:=
 fun x hx=>⟨(k x (h x hx).1).1,((k x (h x hx).1).2).trans (h x hx).2⟩
theorem ol.keep {w w':World} {b o:Nat} {us:List Value} (h:w'.heap[b]? = w.heap[b]?) (r:ol w b o us):ol w' b o us:=
 fun j u hu=>by rw [← r j u hu];simp [World.cell?,h]
theorem aq.keep {Im Im':Nat->Prop} {w w':World} (h:jc Im Im' w w'):(t:T)->(x:t.den)->(vs:List Value)->aq Im w t x vs->aq Im' w' t x vs
 | .int _,_,_,r=>by simpa only [aq]using r
 | .bool,_,_,r=>by simpa only [aq]using r
 | .str,_,_,r=>by simpa only [aq]using r
 | .u,_,_,r=>by simpa only [aq]using r
 | .any,_,_,r=>by simpa only [aq]using r
 | .p a b,x,vs,r=>by
  simp only [aq]at r ⊢
  obtain ⟨va,vb,h1,h2,h3⟩:=r
  exact ⟨va,vb,h1,aq.keep h a _ _ h2,aq.keep h b _ _ h3⟩
 | .sl e,l,vs,r=>by
  simp only [aq]at r ⊢
  obtain ⟨oa,cap,h1,h2,h3,h4⟩:=r
  refine ⟨oa,cap,h1,h2,h3,fun a ha hpos=>?_⟩
  obtain ⟨k1,k2,k3⟩:=h4 a ha hpos
  refine ⟨k1,(h _ k2).1,fun i x hx=>?_⟩
  obtain ⟨us,u1,u2⟩:=k3 i x hx
  exact ⟨us,u1.keep (h _ k2).2,aq.keep h e x us u2⟩
 | .pt t,x,vs,r=>by
  simp only [aq]at r ⊢
  obtain ⟨b,o,us,h1,h2,h3,h4⟩:=r
  exact ⟨b,o,us,h1,(h _ h2).1,h3.keep (h _ h2).2,aq.keep h t x us h4⟩
 | .fn f t,x,vs,r=>by
  simp only [aq]at r ⊢
  obtain ⟨us,h1,h2⟩:=r
  exact ⟨us,h1,aq.keep h t x us h2⟩
 | .ifc i t,x,vs,r=>by
  simp only [aq]at r ⊢
  obtain ⟨u,h1,h2⟩:=r
  exact ⟨u,h1,aq.keep h t x _ h2⟩
 | .op t,x,vs,r=>by
  simp only [aq]at r ⊢
  exact ⟨r.1,r.2.1,fun y hy=>aq.keep h t y vs (r.2.2 y hy)⟩
 | .ns t,x,vs,r=>by
  simp only [aq]at r ⊢
  rcases r with r | ⟨y,a,n,c,h1,h2,h3⟩
  ·exact .inl r
  ·exact .inr ⟨y,a,n,c,h1,h2,aq.keep h t y vs h3⟩
 | .mp k v,l,vs,r=>by
  simp only [aq]at r ⊢
  obtain ⟨b,es,n,h1,h2,h3,h4⟩:=r
  exact ⟨b,es,n,h1,(h _ h2).1,by rw [(h _ h2).2];exact h3,h4⟩
theorem aq.len {Im:Nat->Prop} {w:World}:(t:T)->(x:t.den)->(vs:List Value)->aq Im w t x vs->vs.length=t.size
 | .int _,_,_,r=>by simp only [aq]at r;rw [r.1];rfl
 | .bool,_,_,r=>by simp only [aq]at r;rw [r];rfl
 | .str,_,_,r=>by simp only [aq]at r;rw [r.1];rfl
 | .u,_,_,r=>by simp only [aq]at r;rw [r];rfl
 | .any,_,_,r=>by simp only [aq]at r;obtain ⟨v,h,_⟩:=r;rw [h];rfl
 | .p a b,x,vs,r=>by
  simp only [aq]at r
  obtain ⟨va,vb,h1,h2,h3⟩:=r
  rw [h1,List.length_append,aq.len a _ _ h2,aq.len b _ _ h3];simp [T.size]
 | .sl e,l,vs,r=>by simp only [aq]at r;obtain ⟨oa,cap,h,_⟩:=r;rw [h];rfl
 | .pt t,x,vs,r=>by simp only [aq]at r;obtain ⟨b,o,us,h,_⟩:=r;rw [h];rfl
 | .fn f t,x,vs,r=>by simp only [aq]at r;obtain ⟨us,h,_⟩:=r;rw [h];rfl
 | .ifc i t,x,vs,r=>by simp only [aq]at r;obtain ⟨u,h,_⟩:=r;rw [h];rfl
 | .mp k v,l,vs,r=>by simp only [aq]at r;obtain ⟨b,es,n,h,_⟩:=r;rw [h];rfl
 | .op t,x,vs,r=>by simp only [aq]at r;exact r.1
 | .ns t,x,vs,r=>by simp only [aq]at r;rcases r with ⟨_,r⟩ | ⟨y,a,n,c,_,r,_⟩ <;> (rw [r];rfl)
theorem aq.ok {Im:Nat->Prop} {w:World}:(t:T)->(x:t.den)->(vs:List Value)->aq Im w t x vs->t.ok x
 | .int _,_,_,r=>by simp only [aq]at r;simp only [T.ok];exact r.2
 | .bool,_,_,r=>by simp only [T.ok]
 | .str,_,_,r=>by simp only [aq]at r;simp only [T.ok];exact r.2
 | .u,_,_,r=>by simp only [T.ok]
 | .any,_,_,r=>by simp only [T.ok]
 | .p a b,x,vs,r=>by
  simp only [aq]at r
  obtain ⟨va,vb,h1,h2,h3⟩:=r
  simp only [T.ok]
  exact ⟨aq.ok a _ _ h2,aq.ok b _ _ h3⟩
 | .sl e,l,vs,r=>by
  simp only [aq]at r
  obtain ⟨oa,cap,h1,h2,h3,h4⟩:=r
  simp only [T.ok]
  refine ⟨h2.1,fun y hy=>?_⟩
  obtain ⟨i,hi,rfl⟩:=List.getElem_of_mem hy
  cases oa with
  | none=>have:=(h3 rfl).1;omega
  | some a=>
   obtain ⟨us,_,u2⟩:=(h4 a rfl (by omega)).2.2 i l[i] (List.getElem?_eq_getElem hi)
   exact aq.ok e _ us u2
 | .pt t,x,vs,r=>by simp only [aq]at r;obtain ⟨b,o,us,_,_,_,h⟩:=r;simp only [T.ok];exact aq.ok t x us h
 | .fn f t,x,vs,r=>by simp only [aq]at r;obtain ⟨us,_,h⟩:=r;simp only [T.ok];exact aq.ok t x us h
 | .ifc i t,x,vs,r=>by simp only [aq]at r;obtain ⟨u,_,h⟩:=r;simp only [T.ok];exact aq.ok t x _ h
 | .op t,x,vs,r=>by
  simp only [aq]at r
  simp only [T.ok]
  exact fun y hy=>aq.ok t y vs (r.2.2 y hy)
 | .ns t,x,vs,r=>by
  simp only [aq]at r
  simp only [T.ok]
  rcases r with ⟨rfl,_⟩ | ⟨y,a,n,c,rfl,_,r⟩
  ·exact fun y hy=>by cases hy
  ·exact fun z hz=>by cases hz;exact aq.ok t y vs r
 | .mp k v,l,vs,r=>by
  simp only [aq]at r
  obtain ⟨b,es,n,_,_,_,h4,_⟩:=r
  exact h4
theorem aq.one {Im:Nat->Prop} {w:World}:(t:T)->(x:t.den)->(vs:List Value)->aq Im w t x vs->∀ v ∈ vs,v.oneCell'=true
 | .int _,_,_,r=>by simp only [aq]at r;rw [r.1];intro v hv;rw [List.mem_singleton.1 hv];rfl
 | .bool,_,_,r=>by simp only [aq]at r;rw [r];intro v hv;rw [List.mem_singleton.1 hv];rfl
 | .str,_,_,r=>by simp only [aq]at r;rw [r.1];intro v hv;rw [List.mem_singleton.1 hv];rfl
 | .u,_,_,r=>by simp only [aq]at r;rw [r];intro v hv;cases hv
 | .any,_,_,r=>by simp only [aq]at r;obtain ⟨u,h,h1⟩:=r;rw [h];intro v hv;rw [List.mem_singleton.1 hv];exact h1
 | .p a b,x,vs,r=>by
  simp only [aq]at r
  obtain ⟨va,vb,h1,h2,h3⟩:=r
  rw [h1]
  intro v hv
  rcases List.mem_append.1 hv with hv | hv
  ·exact aq.one a _ _ h2 v hv
  ·exact aq.one b _ _ h3 v hv
 | .sl e,l,vs,r=>by simp only [aq]at r;obtain ⟨oa,cap,h,_⟩:=r;rw [h];intro v hv;rw [List.mem_singleton.1 hv];rfl
 | .pt t,x,vs,r=>by simp only [aq]at r;obtain ⟨b,o,us,h,_⟩:=r;rw [h];intro v hv;rw [List.mem_singleton.1 hv];rfl
 | .fn f t,x,vs,r=>by simp only [aq]at r;obtain ⟨us,h,_⟩:=r;rw [h];intro v hv;rw [List.mem_singleton.1 hv];rfl
 | .ifc i t,x,vs,r=>by simp only [aq]at r;obtain ⟨u,h,_⟩:=r;rw [h];intro v hv;rw [List.mem_singleton.1 hv];rfl
 | .mp k v,l,vs,r=>by simp only [aq]at r;obtain ⟨b,es,n,h,_⟩:=r;rw [h];intro v hv;rw [List.mem_singleton.1 hv];rfl
 | .op t,x,vs,r=>by simp only [aq]at r;exact r.2.1
 | .ns t,x,vs,r=>by simp only [aq]at r;rcases r with ⟨_,r⟩ | ⟨y,a,n,c,_,r,_⟩ <;> (rw [r];intro v hv;rw [List.mem_singleton.1 hv];rfl)
theorem apd {w w':World} {e:TypeId} {sz n:Nat} {v:Value} {xs:List Value} (hr:∀ b,lu v=some b->w'.heap[b]? = w.heap[b]?) (hown:vm w e sz v n xs):vm w' e sz v n xs:=by
 refine ⟨hown.1,?_⟩
 rcases hown.2 with hnil | ⟨g,off,cap,cur,hv,hg,rest⟩
 ·exact .inl hnil
 ·exact .inr ⟨g,off,cap,cur,hv,by rw [hr g (by rw [hv];rfl)];exact hg,rest⟩
theorem Rel.keep {Im Im':Nat->Prop} {w w':World} (h:jc Im Im' w w'):(o:O)->(x:o.strip.den)->(S:Nat->Prop)->(vs:List Value)->(∀ b,S b->w'.heap[b]? = w.heap[b]?)->Rel Im w o x S vs->Rel Im' w' o x S vs
 | .fz t,x,S,vs,_,r=>by simp only [Rel]at r ⊢;exact aq.keep h t x vs r
 | .p a b,x,S,vs,hS,r=>by
  simp only [Rel]at r ⊢
  obtain ⟨va,vb,S1,S2,h1,h2,h3,h4,h5,h6⟩:=r
  exact ⟨va,vb,S1,S2,h1,h2,h3,h4,Rel.keep h a _ S1 _ (fun c hc=>hS c (h2 c hc)) h5,Rel.keep h b _ S2 _ (fun c hc=>hS c (h3 c hc)) h6⟩
 | .sl e,l,S,vs,hS,r=>by
  simp only [Rel]at r ⊢
  obtain ⟨v,ety,xs,T,h1,h2,h3,h4,h5,h6,h7⟩:=r
  exact ⟨v,ety,xs,T,h1,apd (fun c hc=>hS c (h4 c hc)) h2,h3,h4,h5,h6,fun i x hx=>Rel.keep h e x (T i) _ (fun c hc=>hS c (h5 i c hc).1) (h7 i x hx)⟩
 | .pt o,x,S,vs,hS,r=>by
  simp only [Rel]at r ⊢
  obtain ⟨b,us,ty',S',h1,h2,h3,h4,h5⟩:=r
  exact ⟨b,us,ty',S',h1,h2,by rw [hS b h2];exact h3,h4,Rel.keep h o x S' us (fun c hc=>hS c (h4 c hc).1) h5⟩
 | .op e,x,S,vs,hS,r=>by
  simp only [Rel]at r ⊢
  exact ⟨r.1,r.2.1,fun y hy=>Rel.keep h e y S vs hS (r.2.2 y hy)⟩
 | .mp k v,l,S,vs,hS,r=>by
  simp only [Rel]at r ⊢
  obtain ⟨b,es,n,h1,h2,h3,h4⟩:=r
  exact ⟨b,es,n,h1,h2,by rw [hS b h2];exact h3,h4⟩
theorem Rel.wide {Im:Nat->Prop} {w:World}:(o:O)->(x:o.strip.den)->(S S':Nat->Prop)->(vs:List Value)->(∀ b,S b->S' b)->Rel Im w o x S vs->Rel Im w o x S' vs
 | .fz t,x,S,S',vs,_,r=>by simpa only [Rel]using r
 | .p a b,x,S,S',vs,hS,r=>by
  simp only [Rel]at r ⊢
  obtain ⟨va,vb,S1,S2,h1,h2,h3,h4,h5,h6⟩:=r
  exact ⟨va,vb,S1,S2,h1,fun c hc=>hS c (h2 c hc),fun c hc=>hS c (h3 c hc),h4,h5,h6⟩
 | .sl e,l,S,S',vs,hS,r=>by
  simp only [Rel]at r ⊢
  obtain ⟨v,ety,xs,T,h1,h2,h3,h4,h5,h6,h7⟩:=r
  exact ⟨v,ety,xs,T,h1,h2,h3,fun c hc=>hS c (h4 c hc),fun i c hc=>⟨hS c (h5 i c hc).1,(h5 i c hc).2⟩,h6,h7⟩
 | .pt o,x,S,S',vs,hS,r=>by
  simp only [Rel]at r ⊢
  obtain ⟨b,us,ty',S0,h1,h2,h3,h4,h5⟩:=r
  exact ⟨b,us,ty',S0,h1,hS b h2,h3,fun c hc=>⟨hS c (h4 c hc).1,(h4 c hc).2⟩,h5⟩
 | .op e,x,S,S',vs,hS,r=>by
  simp only [Rel]at r ⊢
  exact ⟨r.1,r.2.1,fun y hy=>Rel.wide e y S S' vs hS (r.2.2 y hy)⟩
 | .mp k v,l,S,S',vs,hS,r=>by
  simp only [Rel]at r ⊢
  obtain ⟨b,es,n,h1,h2,h3⟩:=r
  exact ⟨b,es,n,h1,hS b h2,h3⟩
theorem Rel.len {Im:Nat->Prop} {w:World}:(o:O)->(x:o.strip.den)->(S:Nat->Prop)->(vs:List Value)->Rel Im w o x S vs->vs.length=o.size
 | .fz t,x,S,vs,r=>by simp only [Rel]at r;exact aq.len t x vs r
 | .p a b,x,S,vs,r=>by
  simp only [Rel]at r
  obtain ⟨va,vb,S1,S2,h1,h2,h3,h4,h5,h6⟩:=r
  rw [h1,List.length_append,Rel.len a _ _ _ h5,Rel.len b _ _ _ h6];simp [O.size,T.size]
 | .sl e,l,S,vs,r=>by simp only [Rel]at r;obtain ⟨v,ety,xs,T,h,_⟩:=r;rw [h];rfl
 | .pt o,x,S,vs,r=>by simp only [Rel]at r;obtain ⟨b,us,ty',S',h,_⟩:=r;rw [h];rfl
 | .mp k v,l,S,vs,r=>by simp only [Rel]at r;obtain ⟨b,es,n,h,_⟩:=r;rw [h];rfl
 | .op e,x,S,vs,r=>by simp only [Rel]at r;exact r.1
theorem aro {w:World} {e:TypeId} {sz n:Nat} {v:Value} {xs:List Value} (h:vm w e sz v n xs):v.oneCell'=true:=by
 rcases h.2 with ⟨_,oa,h⟩ | ⟨g,off,cap,cur,h,_⟩ <;> rw [h] <;> rfl
theorem Rel.one {Im:Nat->Prop} {w:World}:(o:O)->(x:o.strip.den)->(S:Nat->Prop)->(vs:List Value)->Rel Im w o x S vs->∀ v ∈ vs,v.oneCell'=true
 | .fz t,x,S,vs,r=>by simp only [Rel]at r;exact aq.one t x vs r
 | .p a b,x,S,vs,r=>by
  simp only [Rel]at r
  obtain ⟨va,vb,S1,S2,h1,h2,h3,h4,h5,h6⟩:=r
  rw [h1]
  intro v hv
  rcases List.mem_append.1 hv with hv | hv
  ·exact Rel.one a _ _ _ h5 v hv
  ·exact Rel.one b _ _ _ h6 v hv
 | .sl e,l,S,vs,r=>by
  simp only [Rel]at r;obtain ⟨v,ety,xs,T,h,h2,_⟩:=r;rw [h];intro u hu;rw [List.mem_singleton.1 hu];exact aro h2
 | .pt o,x,S,vs,r=>by simp only [Rel]at r;obtain ⟨b,us,ty',S',h,_⟩:=r;rw [h];intro u hu;rw [List.mem_singleton.1 hu];rfl
 | .mp k v,l,S,vs,r=>by simp only [Rel]at r;obtain ⟨b,es,n,h,_⟩:=r;rw [h];intro u hu;rw [List.mem_singleton.1 hu];rfl
 | .op e,x,S,vs,r=>by simp only [Rel]at r;exact r.2.1
theorem ye {w:World} {e:TypeId} {sz n:Nat} {v:Value} {xs:List Value} (h:vm w e sz v n xs) :
  (n=0/\∃ oa,v=.slice oa 0 0)\/∃ g off c cur,v=.slice (some ⟨g,off,none⟩) n (c+1)/\w.heap[g]? = some (.cells cur e (0,0))/\n<=c+1/\c+1<=maxLen/\cur.size=off+(c+1) * sz/\(cur.toList.drop off).take (n * sz)=xs:=h.2
theorem ami {cur:Array Value} {xs:List Value} {n i sz j off:Nat} {u:Value} (hx:(cur.toList.drop off).take (n * sz)=xs) (h:((xs.drop (i * sz)).take sz)[j]? = some u):cur[off+i * sz+j]? = some u:=by
 rw [List.getElem?_take]at h
 split at h
 ·rw [List.getElem?_drop,← hx,List.getElem?_take]at h
  split at h
  ·rw [List.getElem?_drop]at h;rw [Nat.add_assoc];simpa using h
  ·cases h
 ·cases h
theorem Rel.frz {Im Im':Nat->Prop} {w:World} (hI:∀ b,Im b->Im' b):(o:O)->(x:o.strip.den)->(S:Nat->Prop)->(vs:List Value)->(∀ b,S b->Im' b)->Rel Im w o x S vs->aq Im' w o.strip x vs
 | .fz t,x,S,vs,_,r=>by simp only [Rel]at r;exact aq.keep (fun b hb=>⟨hI b hb,rfl⟩) t x vs r
 | .p a b,x,S,vs,hS,r=>by
  simp only [Rel]at r
  obtain ⟨va,vb,S1,S2,h1,h2,h3,h4,h5,h6⟩:=r
  simp only [aq]
  exact ⟨va,vb,h1,Rel.frz hI a _ S1 _ (fun c hc=>hS c (h2 c hc)) h5,Rel.frz hI b _ S2 _ (fun c hc=>hS c (h3 c hc)) h6⟩
 | .sl e,l,S,vs,hS,r=>by
  simp only [Rel]at r
  obtain ⟨v,ety,xs,T,h1,h2,h3,h4,h5,h6,h7⟩:=r
  simp only [aq]
  rcases ye h2 with ⟨hn,hv⟩ | ⟨g,off,cap,cur,hv,hg,hc1,hc2,hc3,hc4⟩
  ·obtain ⟨oa,hv⟩:=hv
   exact ⟨oa,0,by rw [h1,hv,hn],⟨h3,by omega⟩,fun _=>⟨hn,rfl⟩,fun a ha hpos=>by omega⟩
  ·refine ⟨some ⟨g,off,none⟩,cap+1,by rw [h1,hv],⟨h3,hc1⟩,fun h=>by (cases h),fun a ha hpos=>?_⟩
   cases ha
   refine ⟨rfl,hS g (h4 g (by rw [hv];rfl)),fun i x hx=>⟨_,?_,Rel.frz hI e x (T i) _ (fun c hc=>hS c (h5 i c hc).1) (h7 i x hx)⟩⟩
   intro j u hu
   rw [cell_of_row w g _ cur ety (0,0) hg]
   have:=ami hc4 hu
   simpa [O.size]using this
 | .pt o,x,S,vs,hS,r=>by
  simp only [Rel]at r
  obtain ⟨b,us,ty',S',h1,h2,h3,h4,h5⟩:=r
  simp only [aq]
  refine ⟨b,0,us,h1,hS b h2,fun j u hu=>?_,Rel.frz hI o x S' us (fun c hc=>hS c (h4 c hc).1) h5⟩
  rw [cell_of_row w b _ _ ty' (0,0) h3]
  simpa using hu
 | .op e,x,S,vs,hS,r=>by
  simp only [Rel]at r
  simp only [aq]
  exact ⟨r.1,r.2.1,fun y hy=>Rel.frz hI e y S vs hS (r.2.2 y hy)⟩
 | .mp k v,l,S,vs,hS,r=>by
  simp only [Rel]at r
  obtain ⟨b,es,n,h1,h2,h3,h4⟩:=r
  simp only [aq]
  exact ⟨b,es,n,h1,hS b h2,h3,h4⟩
end Go.Bm
/- The gi machine:a part of an own tree,looked at and replaced. -/
namespace Go.Bm
open Go.RowKit
theorem Rel.ok {Im:Nat->Prop} {w:World} {o:O} {x:o.strip.den} {S:Nat->Prop} {vs:List Value} (r:Rel Im w o x S vs):o.strip.ok x:=
 aq.ok _ _ _ (Rel.frz (Im':=fun _=>True) (fun _ _=>trivial) o x S vs (fun _ _=>trivial) r)
def gok:b9->(o:O)->o.strip.den->Prop
 | [],_,_=>True
 | .l::π,.p a _,x=>gok π a x.1
 | .r::π,.p _ b,x=>gok π b x.2
 | .l::π,.fz (.p a _),x=>gok π (.fz a) x.1
 | .r::π,.fz (.p _ b),x=>gok π (.fz b) x.2
 | .ix i::π,.sl e,x=>i < x.length/\gok π e (x.getD i e.dflt)
 | .de::π,.pt t,x=>gok π t x
 | _,_,_=>False
def cellsOf (w:World) (b o n:Nat):List Value:=(List.range n).map fun j=>(w.cell? ⟨b,o+j,none⟩).getD undef
abbrev Pl:=Option (Nat×Nat)
def Pl.plus (p:Pl) (n:Nat):Pl:=p.map fun q=>(q.1,q.2+n)
def res (w:World):b9->O->List Value->Pl->Option (List Value×Pl)
 | [],_,vs,ad=>some (vs,ad)
 | .l::π,.p a _,vs,ad=>res w π a (vs.take a.size) ad
 | .r::π,.p a b,vs,ad=>res w π b (vs.drop a.size) (ad.plus a.size)
 | .l::π,.fz (.p a _),vs,ad=>res w π (.fz a) (vs.take a.size) ad
 | .r::π,.fz (.p a b),vs,ad=>res w π (.fz b) (vs.drop a.size) (ad.plus a.size)
 | .ix i::π,.sl e,vs,_=>(match vs with
  | [.slice (some a) _ _]=>res w π e (cellsOf w a.block (a.off+i * e.size) e.size) (some (a.block,a.off+i * e.size))
  | _=>none)
 | .de::π,.pt t,vs,_=>(match vs with
  | [.pointer (some a)]=>res w π t (cellsOf w a.block a.off t.size) (some (a.block,a.off))
  | _=>none)
 | _,_,_,_=>none
def dy:b9->Bool
 | []=>false
 | .l::π=>dy π
 | .r::π=>dy π
 | .ix _::_=>true
 | .de::_=>true
def gk (l:List Value) (n:Nat) (us:List Value):List Value:=l.take n++us++l.drop (n+us.length)
def gb:b9->O->List Value->List Value->List Value
 | [],_,_,us=>us
 | .l::π,.p a _,vs,us=>gb π a (vs.take a.size) us++vs.drop a.size
 | .r::π,.p a b,vs,us=>vs.take a.size++gb π b (vs.drop a.size) us
 | .l::π,.fz (.p a _),vs,us=>gb π (.fz a) (vs.take a.size) us++vs.drop a.size
 | .r::π,.fz (.p a b),vs,us=>vs.take a.size++gb π (.fz b) (vs.drop a.size) us
 | _,_,vs,_=>vs
theorem aqu {Im:Nat->Prop} {w:World} {a b:Ob} {S1 S2 S:Nat->Prop} {va vb:List Value} (h1:∀ c,S1 c->S c) (h2:∀ c,S2 c->S c) (h3:∀ c,S1 c->¬ S2 c)
  (ha:Rel Im w a.o a.x S1 va) (hb:Rel Im w b.o b.x S2 vb):Rel Im w (mkP a b).o (mkP a b).x S (va++vb):=by
 obtain ⟨oa,xa⟩:=a
 obtain ⟨ob,xb⟩:=b
 have key:Rel Im w (.p oa ob) (xa,xb) S (va++vb):=by
  simp only [Rel]
  exact ⟨va,vb,S1,S2,rfl,h1,h2,h3,ha,hb⟩
 cases oa <;> cases ob <;> first | exact key | skip
 simp only [mkP,Rel,aq]at ha hb ⊢
 exact ⟨va,vb,rfl,ha,hb⟩
theorem bda (a b:Ob):(mkP a b).o.size=a.o.size+b.o.size:=by
 obtain ⟨oa,xa⟩:=a
 obtain ⟨ob,xb⟩:=b
 cases oa <;> cases ob <;> simp [mkP,O.size,T.size]
theorem aar {va vb:List Value} {n:Nat} (h:va.length=n):(va++vb).take n=va:=by rw [← h];exact List.take_left
theorem aap {va vb:List Value} {n:Nat} (h:va.length=n):(va++vb).drop n=vb:=by rw [← h];exact List.drop_left
theorem ym {w:World} {b o n:Nat} {us:List Value} (hl:us.length=n) (h:ol w b o us):cellsOf w b o n=us:=by
 unfold cellsOf
 apply List.ext_getElem?
 intro j
 rw [List.getElem?_map]
 by_cases hj:j < n
 ·rw [List.getElem?_range hj,List.getElem?_eq_getElem (by omega)]
  simp only [Option.map_some]
  rw [h j us[j] (List.getElem?_eq_getElem (by omega))]
  rfl
 ·rw [List.getElem?_eq_none (by simpa using hj),List.getElem?_eq_none (by omega)]
  rfl
theorem bex {xs row':List Value} {n sz i i':Nat} (hx:xs.length=n * sz) (hi:i < n) (hr:row'.length=sz) :
  ((gk xs (i * sz) row').drop (i' * sz)).take sz=if i'=i then row' else (xs.drop (i' * sz)).take sz:=by
 have hle:i * sz+sz<=n * sz:=by have:=Nat.mul_le_mul_right sz (show i+1<=n from hi);rw [Nat.add_mul]at this;omega
 have hs:(gk xs (i * sz) row').length=n * sz:=by simp [gk,hr];omega
 have hget:∀ j,(gk xs (i * sz) row')[j]? = if j < i * sz then xs[j]? else if j < i * sz+sz then row'[j - i * sz]? else xs[j]?:=by
  intro j
  unfold gk
  by_cases h1:j < i * sz
  ·rw [if_pos h1,List.append_assoc,List.getElem?_append_left (by simp;omega),List.getElem?_take,if_pos h1]
  ·rw [if_neg h1]
   by_cases h2:j < i * sz+sz
   ·rw [if_pos h2,List.getElem?_append_left (by simp;omega),List.getElem?_append_right (by simp;omega)]
    congr 1;simp;omega
   ·rw [if_neg h2,List.getElem?_append_right (by simp;omega),List.getElem?_drop]
    congr 1;simp;omega
 by_cases e:i'=i
 ·subst e
  rw [if_pos rfl]
  apply List.ext_getElem?
  intro j
  rw [List.getElem?_take,List.getElem?_drop,hget]
  by_cases hj:j < sz
  ·rw [if_pos hj,if_neg (by omega),if_pos (by omega)];congr 1;omega
  ·rw [if_neg hj,List.getElem?_eq_none (by omega)]
 ·rw [if_neg e]
  apply List.ext_getElem?
  intro j
  rw [List.getElem?_take,List.getElem?_take,List.getElem?_drop,List.getElem?_drop,hget]
  by_cases hj:j < sz
  ·simp only [if_pos hj]
   rcases Nat.lt_or_gt_of_ne e with hlt | hlt
   ·have:=Nat.mul_le_mul_right sz (show i'+1<=i from hlt);rw [Nat.add_mul]at this
    rw [if_pos (by omega)]
   ·have:=Nat.mul_le_mul_right sz (show i+1<=i' from hlt);rw [Nat.add_mul]at this
    rw [if_neg (by omega),if_neg (by omega)]
  ·simp only [if_neg hj]
theorem qd:∀ (π:b9) (o:O) (vs us:List Value),dy π=true->gb π o vs us=vs
 | [],_,_,_,h=>by simp [dy]at h
 | .l::π,.p a b,vs,us,h=>by simp only [gb];rw [qd π a _ us (by simpa [dy]using h),List.take_append_drop]
 | .r::π,.p a b,vs,us,h=>by simp only [gb];rw [qd π b _ us (by simpa [dy]using h),List.take_append_drop]
 | .l::π,.fz (.p a b),vs,us,h=>by simp only [gb];rw [qd π (.fz a) _ us (by simpa [dy]using h),List.take_append_drop]
 | .r::π,.fz (.p a b),vs,us,h=>by simp only [gb];rw [qd π (.fz b) _ us (by simpa [dy]using h),List.take_append_drop]
 | .l::π,.sl e,vs,us,h=>by simp only [gb]
 | .r::π,.sl e,vs,us,h=>by simp only [gb]
 | .l::π,.pt e,vs,us,h=>by simp only [gb]
 | .l::π,.mp _ _,vs,us,h=>by simp only [gb]
 | .l::π,.op _,vs,us,h=>by simp only [gb]
 | .r::π,.pt e,vs,us,h=>by simp only [gb]
 | .r::π,.mp _ _,vs,us,h=>by simp only [gb]
 | .r::π,.op _,vs,us,h=>by simp only [gb]
 | .l::π,.fz (.int _),vs,us,h=>by simp only [gb]
 | .l::π,.fz .bool,vs,us,h=>by simp only [gb]
 | .l::π,.fz .str,vs,us,h=>by simp only [gb]
 | .l::π,.fz .u,vs,us,h=>by simp only [gb]
 | .l::π,.fz (.sl _),vs,us,h=>by simp only [gb]
 | .l::π,.fz (.pt _),vs,us,h=>by simp only [gb]
 | .l::π,.fz (.fn _ _),vs,us,h=>by simp only [gb]
 | .l::π,.fz (.ifc _ _),vs,us,h=>by simp only [gb]
 | .l::π,.fz (.mp _ _),vs,us,h=>by simp only [gb]
 | .l::π,.fz (.op _),vs,us,h=>by simp only [gb]
 | .l::π,.fz (.ns _),vs,us,h=>by simp only [gb]
 | .l::π,.fz .any,vs,us,h=>by simp only [gb]
 | .r::π,.fz (.int _),vs,us,h=>by simp only [gb]
 | .r::π,.fz .bool,vs,us,h=>by simp only [gb]
 | .r::π,.fz .str,vs,us,h=>by simp only [gb]
 | .r::π,.fz .u,vs,us,h=>by simp only [gb]
 | .r::π,.fz (.sl _),vs,us,h=>by simp only [gb]
 | .r::π,.fz (.pt _),vs,us,h=>by simp only [gb]
 | .r::π,.fz (.fn _ _),vs,us,h=>by simp only [gb]
 | .r::π,.fz (.ifc _ _),vs,us,h=>by simp only [gb]
 | .r::π,.fz (.mp _ _),vs,us,h=>by simp only [gb]
 | .r::π,.fz (.op _),vs,us,h=>by simp only [gb]
 | .r::π,.fz (.ns _),vs,us,h=>by simp only [gb]
 | .r::π,.fz .any,vs,us,h=>by simp only [gb]
 | .ix _::_,_,vs,us,h=>by simp only [gb]
 | .de::_,_,vs,us,h=>by simp only [gb]
def At (w:World) (S:Nat->Prop) (vs:List Value) (ad:Pl):Prop:=
 ∀ b off,ad=some (b,off)->¬ S b/\∃ cur ty',w.heap[b]? = some (.cells cur ty' (0,0))/\∀ (j:Nat) (u:Value),vs[j]? = some u->cur[off+j]? = some u
def Wand (Im:Nat->Prop) (w:World) (π:b9) (o:O) (x:o.strip.den) (S S':Nat->Prop) (q:Ob) (vs:List Value) (pl:Pl):Prop:=
 ∀ (Im':Nat->Prop) (w':World) (n:Ob) (S'':Nat->Prop) (us':List Value) (ob':Ob),set π o x n=some ob'->n.o.size=q.o.size->Rel Im' w' n.o n.x S'' us'->jc Im Im' w w'->(∀ c,S'' c->S c->S' c)->
  (dy π=true->∀ b off,pl=some (b,off)->∀ cur ty',w.heap[b]? = some (.cells cur ty' (0,0))->w'.heap[b]? = some (.cells (gk cur.toList off us').toArray ty' (0,0)))->
  (∀ c,S c->¬ S' c->(∀ b off,pl=some (b,off)->dy π=true->c ≠ b)->w'.heap[c]? = w.heap[c]?)->
  ob'.o.size=o.size/\Rel Im' w' ob'.o ob'.x (fun c=>(S c/\¬ S' c)\/S'' c) (gb π o vs us')
def Foc (Im:Nat->Prop) (w:World) (π:b9) (o:O) (x:o.strip.den) (S:Nat->Prop) (vs:List Value) (ad:Pl) (q:Ob):Prop:=
 ∃ us pl,∃ S':Nat->Prop,res w π o vs ad=some (us,pl)/\(∀ c,S' c->S c)/\Rel Im w q.o q.x S' us/\
  (dy π=true->∃ b off cur ty',pl=some (b,off)/\S b/\¬ S' b/\w.heap[b]? = some (.cells cur ty' (0,0))/\∀ (j:Nat) (u:Value),us[j]? = some u->cur[off+j]? = some u)/\
  (dy π=false->∃ n,jp π o=some n/\pl=ad.plus n/\us=(vs.drop n).take us.length/\n+us.length<=vs.length/\∀ us':List Value,us'.length=us.length->gb π o vs us'=gk vs n us')/\
  Wand Im w π o x S S' q vs pl
theorem bbn {va vb us:List Value} {n:Nat} (h:n+us.length<=va.length):gk va n us++vb=gk (va++vb) n us:=by
 unfold gk
 rw [List.take_append_of_le_length (by omega),List.drop_append_of_le_length (by omega)]
 simp
theorem bbk {va vb us:List Value} {n:Nat}:va++gk vb n us=gk (va++vb) (va.length+n) us:=by
 unfold gk
 rw [List.take_append,List.drop_append]
 have h1:va.take (va.length+n)=va:=List.take_of_length_le (by omega)
 have h2:va.drop (va.length+n+us.length)=[]:=List.drop_of_length_le (by omega)
 rw [h1,h2,show va.length+n - va.length=n by omega,show va.length+n+us.length - va.length=n+us.length by omega]
 simp
theorem Foc.left {Im:Nat->Prop} {w:World} {π:b9} {a:O} {xa:a.strip.den} {b:Ob} {S S1 S2:Nat->Prop} {va vb:List Value} {ad:Pl} {q:Ob} {o:O} {x:o.strip.den}
  (hres:res w (.l::π) o (va++vb) ad=res w π a va ad) (hset:∀ n,set (.l::π) o x n=(set π a xa n).map fun q=>mkP q b) (hsz:o.size=a.size+b.o.size)
  (hoff:jp (.l::π) o=jp π a) (hout:∀ us,gb (.l::π) o (va++vb) us=gb π a va us++vb)
  (h1:∀ c,S1 c->S c) (h2:∀ c,S2 c->S c) (h3:∀ c,S1 c->¬ S2 c) (hb:Rel Im w b.o b.x S2 vb) (h:Foc Im w π a xa S1 va ad q):Foc Im w (.l::π) o x S (va++vb) ad q:=by
 obtain ⟨us,pl,S',e1,e2,e3,e4,e5,e6⟩:=h
 refine ⟨us,pl,S',by rw [hres,e1],fun c hc=>h1 c (e2 c hc),e3,fun hh=>?_,fun hh=>?_,?_⟩
 ·obtain ⟨bb,off,cur,ty',k1,k2,k3,k4,k5⟩:=e4 (by simpa [dy]using hh)
  exact ⟨bb,off,cur,ty',k1,h1 _ k2,k3,k4,k5⟩
 ·obtain ⟨n,k1,k2,k3,k4,k5⟩:=e5 (by simpa [dy]using hh)
  refine ⟨n,by rw [hoff,k1],k2,?_,by rw [List.length_append];omega,fun us' hl=>?_⟩
  ·rw [List.drop_append_of_le_length (by omega),List.take_append_of_le_length (by rw [List.length_drop];omega)];exact k3
  ·rw [hout,k5 us' hl,bbn (by omega)]
 ·intro Im' w' n S'' us' ob' f1 f2 f3 f4 f5 f6 f7
  rw [hset]at f1
  cases hs:set π a xa n with
  | none=>rw [hs]at f1;cases f1
  | some qn=>
   rw [hs]at f1
   simp only [Option.map_some,Option.some.injEq]at f1
   subst f1
   obtain ⟨g1,g2⟩:=e6 Im' w' n S'' us' qn hs f2 f3 f4 (fun c hc h=>f5 c hc (h1 c h)) (fun hh=>f6 (by simpa [dy]using hh)) (fun c hc hn hne=>f7 c (h1 c hc) hn (fun bb off hp hh=>hne bb off hp (by simpa [dy]using hh)))
   refine ⟨by rw [bda,g1,hsz],?_⟩
   rw [hout]
   refine aqu (S1:=fun c=>(S1 c/\¬ S' c)\/S'' c) (S2:=S2) (fun c hc=>?_) (fun c hc=>?_) (fun c hc hc2=>?_) g2 (Rel.keep f4 _ _ S2 _ (fun c hc=>?_) hb)
   ·rcases hc with ⟨hc,hn⟩ | hc
    ·exact .inl ⟨h1 c hc,hn⟩
    ·exact .inr hc
   ·exact .inl ⟨h2 c hc,fun hs'=>h3 c (e2 c hs') hc⟩
   ·rcases hc with ⟨hc,_⟩ | hc
    ·exact h3 c hc hc2
    ·exact h3 c (e2 c (f5 c hc (h2 c hc2))) hc2
   ·refine f7 c (h2 c hc) (fun hs'=>h3 c (e2 c hs') hc) (fun bb off hp hh e=>?_)
    obtain ⟨b',off',cur,ty',k1,k2,_⟩:=e4 (by simpa [dy]using hh)
    rw [k1]at hp
    cases hp
    exact h3 _ k2 (e ▸ hc)
theorem Foc.right {Im:Nat->Prop} {w:World} {π:b9} {b:O} {xb:b.strip.den} {a:Ob} {S S1 S2:Nat->Prop} {va vb:List Value} {ad:Pl} {q:Ob} {o:O} {x:o.strip.den}
  (hva:va.length=a.o.size)
  (hres:res w (.r::π) o (va++vb) ad=res w π b vb (ad.plus a.o.size)) (hset:∀ n,set (.r::π) o x n=(set π b xb n).map fun q=>mkP a q) (hsz:o.size=a.o.size+b.size)
  (hoff:jp (.r::π) o=(jp π b).map (a.o.size+·)) (hout:∀ us,gb (.r::π) o (va++vb) us=va++gb π b vb us)
  (h1:∀ c,S1 c->S c) (h2:∀ c,S2 c->S c) (h3:∀ c,S1 c->¬ S2 c) (ha:Rel Im w a.o a.x S1 va) (h:Foc Im w π b xb S2 vb (ad.plus a.o.size) q):Foc Im w (.r::π) o x S (va++vb) ad q:=by
 obtain ⟨us,pl,S',e1,e2,e3,e4,e5,e6⟩:=h
 refine ⟨us,pl,S',by rw [hres,e1],fun c hc=>h2 c (e2 c hc),e3,fun hh=>?_,fun hh=>?_,?_⟩
 ·obtain ⟨bb,off,cur,ty',k1,k2,k3,k4,k5⟩:=e4 (by simpa [dy]using hh)
  exact ⟨bb,off,cur,ty',k1,h2 _ k2,k3,k4,k5⟩
 ·obtain ⟨n,k1,k2,k3,k4,k5⟩:=e5 (by simpa [dy]using hh)
  refine ⟨a.o.size+n,by rw [hoff,k1];rfl,?_,?_,by rw [List.length_append];omega,fun us' hl=>?_⟩
  ·rw [k2];cases ad <;> simp [Pl.plus,Nat.add_assoc]
  ·rw [← hva,List.drop_append,List.drop_of_length_le (by omega),List.nil_append,Nat.add_sub_cancel_left];exact k3
  ·rw [hout,k5 us' hl,bbk,hva]
 ·intro Im' w' n S'' us' ob' f1 f2 f3 f4 f5 f6 f7
  rw [hset]at f1
  cases hs:set π b xb n with
  | none=>rw [hs]at f1;cases f1
  | some qn=>
   rw [hs]at f1
   simp only [Option.map_some,Option.some.injEq]at f1
   subst f1
   obtain ⟨g1,g2⟩:=e6 Im' w' n S'' us' qn hs f2 f3 f4 (fun c hc h=>f5 c hc (h2 c h)) (fun hh=>f6 (by simpa [dy]using hh)) (fun c hc hn hne=>f7 c (h2 c hc) hn (fun bb off hp hh=>hne bb off hp (by simpa [dy]using hh)))
   refine ⟨by rw [bda,g1,hsz],?_⟩
   rw [hout]
   refine aqu (S2:=fun c=>(S2 c/\¬ S' c)\/S'' c) (S1:=S1) (fun c hc=>?_) (fun c hc=>?_) (fun c hc2 hc=>?_) (Rel.keep f4 _ _ S1 _ (fun c hc=>?_) ha) g2
   ·exact .inl ⟨h1 c hc,fun hs'=>h3 c hc (e2 c hs')⟩
   ·rcases hc with ⟨hc,hn⟩ | hc
    ·exact .inl ⟨h2 c hc,hn⟩
    ·exact .inr hc
   ·rcases hc with ⟨hc,_⟩ | hc
    ·exact h3 c hc2 hc
    ·exact h3 c hc2 (e2 c (f5 c hc (h1 c hc2)))
   ·refine f7 c (h1 c hc) (fun hs'=>h3 c hc (e2 c hs')) (fun bb off hp hh e=>?_)
    obtain ⟨b',off',cur,ty',k1,k2,_⟩:=e4 (by simpa [dy]using hh)
    rw [k1]at hp
    cases hp
    exact h3 _ (e ▸ hc) k2
end Go.Bm
/- The gi machine:the look into an own tree. -/
namespace Go.Bm
open Go.RowKit
theorem At.left {w:World} {S S1:Nat->Prop} {va vb:List Value} {ad:Pl} (h1:∀ c,S1 c->S c) (h:At w S (va++vb) ad):At w S1 va ad:=by
 intro b off e
 obtain ⟨k1,cur,ty',k2,k3⟩:=h b off e
 refine ⟨fun hc=>k1 (h1 b hc),cur,ty',k2,fun j u hu=>k3 j u ?_⟩
 rw [List.getElem?_append_left (List.getElem?_eq_some_iff.1 hu).1];exact hu
theorem At.right {w:World} {S S2:Nat->Prop} {va vb:List Value} {ad:Pl} {n:Nat} (hn:va.length=n) (h2:∀ c,S2 c->S c) (h:At w S (va++vb) ad):At w S2 vb (ad.plus n):=by
 intro b off e
 cases ad with
 | none=>cases e
 | some p=>
  obtain ⟨b',off'⟩:=p
  simp only [Pl.plus,Option.map_some,Option.some.injEq,Prod.mk.injEq]at e
  obtain ⟨rfl,rfl⟩:=e
  obtain ⟨k1,cur,ty',k2,k3⟩:=h b' off' rfl
  refine ⟨fun hc=>k1 (h2 b' hc),cur,ty',k2,fun j u hu=>?_⟩
  have:=k3 (n+j) u (by rw [List.getElem?_append_right (by omega)];rw [hn,Nat.add_sub_cancel_left];exact hu)
  rw [← this];congr 1;omega
theorem aw3 {w':World} {ety:TypeId} {sz n:Nat} {g off cap:Nat} {cur:Array Value} {xs row':List Value} {i:Nat} (hxl:xs.length=n * sz)
  (h1:n<=cap+1) (h2:cap+1<=maxLen) (h3:cur.size=off+(cap+1) * sz) (h4:(cur.toList.drop off).take (n * sz)=xs) (hi:i < n) (hr:row'.length=sz) {m:Nat} {us':List Value} (hm:m+us'.length<=sz)
  (hrow:row'=gk ((xs.drop (i * sz)).take sz) m us')
  (hg:w'.heap[g]? = some (.cells (gk cur.toList (off+i * sz+m) us').toArray ety (0,0))):vm w' ety sz (.slice (some ⟨g,off,none⟩) n (cap+1)) n (gk xs (i * sz) row'):=by
 have hle:i * sz+sz<=n * sz:=by have:=Nat.mul_le_mul_right sz (show i+1<=n from hi);rw [Nat.add_mul]at this;omega
 have hlc:off+n * sz<=cur.size:=by rw [h3];exact Nat.add_le_add_left (Nat.mul_le_mul_right _ h1) _
 have hcl:cur.toList.length=cur.size:=Array.length_toList
 refine ⟨by simp [gk,hr];omega,.inr ⟨g,off,cap,_,rfl,hg,h1,h2,?_,?_⟩⟩
 ·rw [List.size_toArray,← h3,← hcl];simp [gk];omega
 ·show ((gk cur.toList (off+i * sz+m) us').drop off).take (n * sz)=_
  subst hrow
  subst h4
  have e0:(gk cur.toList (off+i * sz+m) us').drop off=gk (cur.toList.drop off) (i * sz+m) us':=by
   unfold gk
   rw [List.append_assoc,List.drop_append_of_le_length (by simp;omega),List.drop_take,List.append_assoc,List.drop_drop]
   congr 2
   ·omega
   ·congr 1;omega
  rw [e0]
  have hdl:(cur.toList.drop off).length=cur.size - off:=by rw [List.length_drop,hcl]
  generalize cur.toList.drop off=D at *
  have hA:(D.take (n * sz)).length=n * sz:=hxl
  have e1:gk (D.take (n * sz)) (i * sz) (gk (((D.take (n * sz)).drop (i * sz)).take sz) m us')=gk (D.take (n * sz)) (i * sz+m) us':=by
   generalize D.take (n * sz)=A at hA hr ⊢
   have hsl:(gk ((A.drop (i * sz)).take sz) m us').length=sz:=hr
   apply List.ext_getElem?
   intro j
   have hget:∀ (B us:List Value) (p:Nat),p+us.length<=B.length->∀ j,(gk B p us)[j]? = if j < p then B[j]? else if j < p+us.length then us[j - p]? else B[j]?:=by
    intro B us p hp j
    unfold gk
    by_cases q1:j < p
    ·rw [if_pos q1,List.append_assoc,List.getElem?_append_left (by simp;omega),List.getElem?_take,if_pos q1]
    ·rw [if_neg q1]
     by_cases q2:j < p+us.length
     ·rw [if_pos q2,List.getElem?_append_left (by simp;omega),List.getElem?_append_right (by simp;omega)]
      congr 1;simp;omega
     ·rw [if_neg q2,List.getElem?_append_right (by simp;omega),List.getElem?_drop]
      congr 1;simp;omega
   have hrl:((A.drop (i * sz)).take sz).length=sz:=by simp;omega
   rw [hget A _ (i * sz) (by omega) j,hget A us' (i * sz+m) (by omega) j,hsl]
   by_cases q1:j < i * sz
   ·rw [if_pos q1,if_pos (by omega)]
   ·rw [if_neg q1]
    by_cases q2:j < i * sz+sz
    ·rw [if_pos q2,hget _ us' m (by omega)]
     by_cases q3:j < i * sz+m
     ·rw [if_pos (by omega),if_pos q3,List.getElem?_take,if_pos (by omega),List.getElem?_drop];congr 1;omega
     ·rw [if_neg (by omega),if_neg q3]
      by_cases q4:j < i * sz+m+us'.length
      ·rw [if_pos (by omega),if_pos q4];congr 1;omega
      ·rw [if_neg (by omega),if_neg q4,List.getElem?_take,if_pos (by omega),List.getElem?_drop];congr 1;omega
    ·rw [if_neg q2,if_neg (by omega),if_neg (by omega)]
  rw [e1]
  unfold gk
  rw [List.append_assoc,List.take_append,List.take_append,List.take_take,List.drop_take]
  simp only [List.length_take,hdl]
  rw [show min (i * sz+m) (cur.size - off)=i * sz+m by omega,show min (n * sz) (i * sz+m)=i * sz+m by omega,List.take_take,show min (i * sz+m) (n * sz)=i * sz+m by omega]
  rw [List.take_of_length_le (l:=us') (by omega),List.append_assoc]
  congr 3
  omega
set_option maxRecDepth 4000 in
theorem afd {Im:Nat->Prop} {w:World}:(π:b9)->(o:O)->(x:o.strip.den)->(S:Nat->Prop)->(vs:List Value)->(ad:Pl)->(q:Ob)->Rel Im w o x S vs->gok π o x->get π o x=some q->At w S vs ad->Foc Im w π o x S vs ad q
 | [],o,x,S,vs,ad,q,hr,_,hg,hat=>by
  simp only [get,Option.some.injEq]at hg
  subst hg
  refine ⟨vs,ad,S,rfl,fun _ h=>h,hr,fun h=>by simp [dy]at h,fun _=>⟨0,rfl,by cases ad <;> simp [Pl.plus],by simp,by omega,fun us' hl=>?_⟩,?_⟩
  ·simp only [gb,gk,List.take_zero,List.nil_append,Nat.zero_add]
   rw [hl,List.drop_of_length_le (Nat.le_refl _),List.append_nil]
  ·intro Im' w' n S'' us' ob' f1 f2 f3 f4 f5 _ _
   simp only [set,Option.some.injEq]at f1
   subst f1
   exact ⟨f2,Rel.wide _ _ S'' _ _ (fun c hc=>.inr hc) f3⟩
 | .l::π,.p a b,x,S,vs,ad,q,hr,hk,hg,hat=>by
  simp only [Rel]at hr
  obtain ⟨va,vb,S1,S2,rfl,h1,h2,h3,ha,hb⟩:=hr
  have hl:=Rel.len a _ _ _ ha
  refine Foc.left (b:=⟨b,x.2⟩) (S1:=S1) (S2:=S2) (by simp only [res];rw [aar hl]) (fun n=>by simp only [set];cases set π a x.1 n <;> rfl) (by simp [O.size,T.size]) (by simp only [jp]) (fun us=>by simp only [gb];rw [aar hl,aap hl]) h1 h2 h3 hb
   (afd π a x.1 S1 va ad q ha (by simpa only [gok]using hk) (by simpa only [get]using hg) (hat.left h1))
 | .r::π,.p a b,x,S,vs,ad,q,hr,hk,hg,hat=>by
  simp only [Rel]at hr
  obtain ⟨va,vb,S1,S2,rfl,h1,h2,h3,ha,hb⟩:=hr
  have hl:=Rel.len a _ _ _ ha
  refine Foc.right (a:=⟨a,x.1⟩) (S1:=S1) (S2:=S2) hl (by simp only [res];rw [aap hl]) (fun n=>by simp only [set];cases set π b x.2 n <;> rfl) (by simp [O.size,T.size])
   (by simp only [jp];cases jp π b <;> simp [O.size]) (fun us=>by simp only [gb];rw [aar hl,aap hl]) h1 h2 h3 ha
   (afd π b x.2 S2 vb (ad.plus a.size) q hb (by simpa only [gok]using hk) (by simpa only [get]using hg) (hat.right hl h2))
 | .l::π,.fz (.p a b),x,S,vs,ad,q,hr,hk,hg,hat=>by
  simp only [Rel,aq]at hr
  obtain ⟨va,vb,rfl,ha,hb⟩:=hr
  have hl:=aq.len a _ _ ha
  refine Foc.left (a:=.fz a) (b:=⟨.fz b,x.2⟩) (S1:=fun _=>False) (S2:=fun _=>False) (by simp only [res];rw [aar hl]) (fun n=>by simp only [set];cases set π (.fz a) x.1 n <;> rfl) (by simp [O.size,T.size]) (by simp only [jp]) (fun us=>by simp only [gb];rw [aar hl,aap hl])
   (fun _ h=>h.elim) (fun _ h=>h.elim) (fun _ h=>h.elim) (by simpa only [Rel]using hb)
   (afd π (.fz a) x.1 _ va ad q (by simpa only [Rel]using ha) (by simpa only [gok]using hk) (by simpa only [get]using hg) (hat.left (fun _ h=>h.elim)))
 | .r::π,.fz (.p a b),x,S,vs,ad,q,hr,hk,hg,hat=>by
  simp only [Rel,aq]at hr
  obtain ⟨va,vb,rfl,ha,hb⟩:=hr
  have hl:=aq.len a _ _ ha
  refine Foc.right (b:=.fz b) (a:=⟨.fz a,x.1⟩) (S1:=fun _=>False) (S2:=fun _=>False) hl (by simp only [res];rw [aap hl];rfl) (fun n=>by simp only [set];cases set π (.fz b) x.2 n <;> rfl) (by simp [O.size,T.size])
   (by simp only [jp];cases jp π (.fz b) <;> simp [O.size]) (fun us=>by simp only [gb];rw [aar hl,aap hl])
   (fun _ h=>h.elim) (fun _ h=>h.elim) (fun _ h=>h.elim) (by simpa only [Rel]using ha)
   (afd π (.fz b) x.2 _ vb (ad.plus a.size) q (by simpa only [Rel]using hb) (by simpa only [gok]using hk) (by simpa only [get]using hg) (hat.right hl (fun _ h=>h.elim)))
 | .ix i::π,.sl e,x,S,vs,ad,q,hr,hk,hg,hat=>by
  simp only [Rel]at hr
  obtain ⟨v,ety,xs,T,rfl,h2,h3,h4,h5,h6,h7⟩:=hr
  simp only [gok]at hk
  simp only [get]at hg
  obtain ⟨hi,hk⟩:=hk
  rcases ye h2 with ⟨hn,_⟩ | ⟨g,off0,cap,cur,hv,hgg,hc1,hc2,hc3,hc4⟩
  ·omega
  have hxi:x[i]? = some (x.getD i e.dflt):=by rw [List.getD_eq_getElem?_getD,List.getElem?_eq_getElem hi];rfl
  have hrow:=h7 i _ hxi
  have hrl:=Rel.len e _ _ _ hrow
  have hcells:ol w g (off0+i * e.size) ((xs.drop (i * e.size)).take e.size):=fun j u hu=>by
   rw [cell_of_row w g _ cur ety (0,0) hgg];exact ami hc4 hu
  have hat':At w (T i) ((xs.drop (i * e.size)).take e.size) (some (g,off0+i * e.size)):=by
   intro b off hh
   cases hh
   refine ⟨fun hc=>(h5 i g hc).2 (by rw [hv];rfl),cur,ety,hgg,fun j u hu=>?_⟩
   exact ami hc4 hu
  obtain ⟨us,pl,S',e1,e2,e3,e4,e5,e6⟩:=afd π e _ (T i) _ (some (g,off0+i * e.size)) q hrow hk hg hat'
  have hSg:S g:=h4 g (by rw [hv];rfl)
  have hgT:¬ T i g:=fun hc=>(h5 i g hc).2 (by rw [hv];rfl)
  have hres:res w (.ix i::π) (.sl e) [v] ad=some (us,pl):=by
   rw [hv]
   simp only [res,Nat.zero_add]
   rw [ym hrl hcells]
   exact e1
  refine ⟨us,pl,S',hres,fun c hc=>(h5 i c (e2 c hc)).1,e3,fun _=>?_,fun h=>by simp [dy]at h,?_⟩
  ·cases hh:dy π with
   | true=>
    obtain ⟨b,off,cur',ty',k1,k2,k3,k4,k5⟩:=e4 hh
    exact ⟨b,off,cur',ty',k1,(h5 i b k2).1,k3,k4,k5⟩
   | false=>
    obtain ⟨n,k1,k2,k3,k4,k5⟩:=e5 hh
    refine ⟨g,off0+i * e.size+n,cur,ety,by rw [k2];rfl,hSg,fun hc=>hgT (e2 g hc),hgg,fun j u hu=>?_⟩
    rw [k3,List.getElem?_take]at hu
    split at hu
    ·rw [List.getElem?_drop]at hu
     have:=ami hc4 hu
     rw [← this];congr 1;omega
    ·cases hu
  ·intro Im' w' n S'' us' ob' f1 f2 f3 f4 f5 f6 f7
   simp only [set]at f1
   cases hs:set π e (x.getD i e.dflt) n with
   | none=>rw [hs]at f1;cases f1
   | some qn=>
    rw [hs]at f1
    simp only at f1
    cases hcst:yu qn e with
    | none=>rw [hcst]at f1;cases f1
    | some y=>
     rw [hcst]at f1
     simp only [Option.some.injEq]at f1
     subst f1
     have hcast:∃ h:qn.o=e,y=h ▸ qn.x:=by
      unfold yu at hcst
      split at hcst
      ·rename_i h;exact ⟨O.beq_eq h,by simpa using hcst.symm⟩
      ·cases hcst
     have hul:us'.length=us.length:=by rw [Rel.len _ _ _ _ f3,Rel.len _ _ _ _ e3];exact f2
     obtain ⟨g1,g2⟩:=e6 Im' w' n S'' us' qn hs f2 f3 f4 (fun c hc h=>f5 c hc (h5 i c h).1) (fun hh b off hp=>f6 rfl b off hp)
      (fun c hc hn hne=>f7 c (h5 i c hc).1 hn (fun b off hp _=>by
       cases hh:dy π with
       | true=>exact hne b off hp hh
       | false=>
        obtain ⟨m,k1,k2,_⟩:=e5 hh
        rw [k2]at hp
        simp only [Pl.plus,Option.map_some,Option.some.injEq,Prod.mk.injEq]at hp
        obtain ⟨rfl,_⟩:=hp
        exact fun ec=>hgT (ec ▸ hc)))
     obtain ⟨rfl,rfl⟩:=hcast
     have hol:(gb π qn.o ((xs.drop (i * qn.o.size)).take qn.o.size) us').length=qn.o.size:=Rel.len _ _ _ _ g2
     refine ⟨rfl,?_⟩
     simp only [gb]
     -- the row in the new world
     have hnew:∃ xs',vm w' ety qn.o.size v x.length xs'/\∀ i',(xs'.drop (i' * qn.o.size)).take qn.o.size=if i'=i then gb π qn.o ((xs.drop (i * qn.o.size)).take qn.o.size) us' else (xs.drop (i' * qn.o.size)).take qn.o.size:=by
      cases hh:dy π with
      | true=>
       obtain ⟨b,off,cur',ty',k1,k2,k3,k4,k5⟩:=e4 hh
       refine ⟨xs,apd (fun b' hb'=>?_) h2,fun i'=>?_⟩
       ·have hbg:b'=g:=by rw [hv]at hb';simpa [lu]using hb'.symm
        subst hbg
        refine f7 b' hSg (fun hc=>hgT (e2 b' hc)) (fun b2 off2 hp _=>?_)
        rw [k1]at hp
        simp only [Option.some.injEq,Prod.mk.injEq]at hp
        intro ec
        exact hgT (by rw [ec,← hp.1];exact k2)
       ·rw [qd _ _ _ _ hh]
        split
        ·rename_i ei;rw [ei]
        ·rfl
      | false=>
       obtain ⟨m,k1,k2,k3,k4,k5⟩:=e5 hh
       have hpl:pl=some (g,off0+i * qn.o.size+m):=by rw [k2];rfl
       have hgw:=f6 rfl g _ hpl cur ety hgg
       have hor:=k5 us' hul
       rw [hrl]at k4
       refine ⟨gk xs (i * qn.o.size) (gb π qn.o ((xs.drop (i * qn.o.size)).take qn.o.size) us'),?_,fun i'=>bex h2.1 hi hol⟩
       rw [hv]
       exact aw3 h2.1 hc1 hc2 hc3 hc4 hi hol (m:=m) (us':=us') (by omega) hor hgw
     obtain ⟨xs',hx1,hx2⟩:=hnew
     simp only [Rel]
     refine ⟨v,ety,xs',fun i' c=>if i'=i then (T i c/\¬ S' c)\/S'' c else T i' c,rfl,by rw [List.length_set];exact hx1,by rw [List.length_set];exact h3,fun c hc=>?_,fun i' c hc=>?_,fun i1 i2 c hne hc1' hc2'=>?_,fun i' y hy=>?_⟩
     ·refine .inl ⟨h4 c hc,fun hs'=>(h5 i c (e2 c hs')).2 hc⟩
     ·simp only at hc
      by_cases ei:i'=i
      ·rw [if_pos ei]at hc
       rcases hc with ⟨hc,hn⟩ | hc
       ·exact ⟨.inl ⟨(h5 i c hc).1,hn⟩,(h5 i c hc).2⟩
       ·refine ⟨.inr hc,fun hr=>?_⟩
        exact (h5 i c (e2 c (f5 c hc (h4 c hr)))).2 hr
      ·rw [if_neg ei]at hc
       exact ⟨.inl ⟨(h5 i' c hc).1,fun hs'=>h6 i' i c ei hc (e2 c hs')⟩,(h5 i' c hc).2⟩
     ·simp only at hc1' hc2'
      by_cases e1':i1=i
      ·rw [if_pos e1']at hc1'
       have e2':i2 ≠ i:=fun h=>hne (e1'.trans h.symm)
       rw [if_neg e2']at hc2'
       rcases hc1' with ⟨hc,_⟩ | hc
       ·exact h6 i i2 c (Ne.symm e2') hc hc2'
       ·exact h6 i i2 c (Ne.symm e2') (e2 c (f5 c hc (h5 i2 c hc2').1)) hc2'
      ·rw [if_neg e1']at hc1'
       by_cases e2':i2=i
       ·rw [if_pos e2']at hc2'
        rcases hc2' with ⟨hc,_⟩ | hc
        ·exact h6 i1 i c e1' hc1' hc
        ·exact h6 i1 i c e1' hc1' (e2 c (f5 c hc (h5 i1 c hc1').1))
       ·rw [if_neg e2']at hc2'
        exact h6 i1 i2 c hne hc1' hc2'
     ·rw [hx2 i']
      by_cases ei:i'=i
      ·subst ei
       rw [List.getElem?_set]at hy
       simp only [hi,if_true,Option.some.injEq]at hy
       subst hy
       simp only [if_true]
       exact g2
      ·simp only [if_neg ei]
       rw [List.getElem?_set,if_neg (Ne.symm ei)]at hy
       refine Rel.keep f4 _ y (T i') _ (fun c hc=>f7 c (h5 i' c hc).1 (fun hs'=>h6 i' i c ei hc (e2 c hs')) (fun b off hp _ ec=>?_)) (h7 i' y hy)
       cases hh:dy π with
       | true=>
        obtain ⟨b2,off2,cur',ty',k1,k2,_⟩:=e4 hh
        rw [k1]at hp
        simp only [Option.some.injEq,Prod.mk.injEq]at hp
        exact h6 i' i c ei hc (by rw [ec,← hp.1];exact k2)
       | false=>
        obtain ⟨m,k1,k2,_⟩:=e5 hh
        rw [k2]at hp
        simp only [Pl.plus,Option.map_some,Option.some.injEq,Prod.mk.injEq]at hp
        exact (h5 i' c hc).2 (by rw [hv,ec,← hp.1];rfl)
 | .de::π,.pt t,x,S,vs,ad,q,hr,hk,hg,hat=>by
  simp only [Rel]at hr
  obtain ⟨b0,us0,ty0,S0,rfl,h2,h3,h4,h5⟩:=hr
  simp only [gok]at hk
  simp only [get]at hg
  have hlen:=Rel.len t _ _ _ h5
  have hcells:ol w b0 0 us0:=fun j u hu=>by rw [cell_of_row w b0 _ us0.toArray ty0 (0,0) h3];simpa using hu
  have hat':At w S0 us0 (some (b0,0)):=by
   intro b off hh
   cases hh
   exact ⟨fun hc=>(h4 b0 hc).2 rfl,us0.toArray,ty0,h3,fun j u hu=>by simpa using hu⟩
  obtain ⟨us,pl,S',e1,e2,e3,e4,e5,e6⟩:=afd π t _ S0 us0 (some (b0,0)) q h5 hk hg hat'
  have hb0:¬ S0 b0:=fun hc=>(h4 b0 hc).2 rfl
  refine ⟨us,pl,S',?_,fun c hc=>(h4 c (e2 c hc)).1,e3,fun _=>?_,fun h=>by simp [dy]at h,?_⟩
  ·simp only [res]
   rw [ym hlen hcells]
   exact e1
  ·cases hh:dy π with
   | true=>
    obtain ⟨b,off,cur',ty',k1,k2,k3,k4,k5⟩:=e4 hh
    exact ⟨b,off,cur',ty',k1,(h4 b k2).1,k3,k4,k5⟩
   | false=>
    obtain ⟨n,k1,k2,k3,k4,k5⟩:=e5 hh
    refine ⟨b0,n,us0.toArray,ty0,by rw [k2];simp [Pl.plus],h2,fun hc=>hb0 (e2 b0 hc),h3,fun j u hu=>?_⟩
    rw [k3,List.getElem?_take]at hu
    split at hu
    ·rw [List.getElem?_drop]at hu;simpa using hu
    ·cases hu
  ·intro Im' w' n S'' us' ob' f1 f2 f3 f4 f5 f6 f7
   simp only [set]at f1
   cases hs:set π t x n with
   | none=>rw [hs]at f1;cases f1
   | some qn=>
    rw [hs]at f1
    simp only [Option.some.injEq]at f1
    subst f1
    have hul:us'.length=us.length:=by rw [Rel.len _ _ _ _ f3,Rel.len _ _ _ _ e3];exact f2
    obtain ⟨g1,g2⟩:=e6 Im' w' n S'' us' qn hs f2 f3 f4 (fun c hc h=>f5 c hc (h4 c h).1) (fun hh b off hp=>f6 rfl b off hp)
     (fun c hc hn hne=>f7 c (h4 c hc).1 hn (fun b off hp _=>by
      cases hh:dy π with
      | true=>exact hne b off hp hh
      | false=>
       obtain ⟨m,k1,k2,_⟩:=e5 hh
       rw [k2]at hp
       simp only [Pl.plus,Option.map_some,Option.some.injEq,Prod.mk.injEq]at hp
       obtain ⟨rfl,_⟩:=hp
       exact (h4 c hc).2))
    refine ⟨rfl,?_⟩
    simp only [gb,Rel]
    have hnew:w'.heap[b0]? = some (.cells (gb π t us0 us').toArray ty0 (0,0)):=by
     cases hh:dy π with
     | true=>
      obtain ⟨b,off,cur',ty',k1,k2,k3,k4,k5⟩:=e4 hh
      rw [qd _ _ _ _ hh,f7 b0 h2 (fun hc=>hb0 (e2 b0 hc)) (fun b2 off2 hp _=>?_)]
      ·exact h3
      ·rw [k1]at hp
       simp only [Option.some.injEq,Prod.mk.injEq]at hp
       intro ec
       exact hb0 (by rw [ec,← hp.1];exact k2)
     | false=>
      obtain ⟨m,k1,k2,k3,k4,k5⟩:=e5 hh
      have:=f6 rfl b0 m (by rw [k2];simp [Pl.plus]) us0.toArray ty0 h3
      rw [this,k5 us' hul]
    refine ⟨b0,_,ty0,fun c=>(S0 c/\¬ S' c)\/S'' c,rfl,.inl ⟨h2,fun hc=>hb0 (e2 b0 hc)⟩,hnew,fun c hc=>?_,g2⟩
    rcases hc with ⟨hc,hn⟩ | hc
    ·exact ⟨.inl ⟨(h4 c hc).1,hn⟩,(h4 c hc).2⟩
    ·exact ⟨.inr hc,fun ec=>hb0 (e2 b0 (f5 b0 (ec ▸ hc) h2))⟩
 | .l::_,.sl _,_,_,_,_,_,_,hk,_,_=>by simp only [gok]at hk
 | .l::_,.pt _,_,_,_,_,_,_,hk,_,_=>by simp only [gok]at hk
 | .l::_,.fz (.int _),_,_,_,_,_,_,hk,_,_=>by simp only [gok]at hk
 | .l::_,.fz .bool,_,_,_,_,_,_,hk,_,_=>by simp only [gok]at hk
 | .l::_,.fz .str,_,_,_,_,_,_,hk,_,_=>by simp only [gok]at hk
 | .l::_,.fz .u,_,_,_,_,_,_,hk,_,_=>by simp only [gok]at hk
 | .l::_,.fz (.sl _),_,_,_,_,_,_,hk,_,_=>by simp only [gok]at hk
 | .l::_,.fz (.pt _),_,_,_,_,_,_,hk,_,_=>by simp only [gok]at hk
 | .l::_,.fz (.fn _ _),_,_,_,_,_,_,hk,_,_=>by simp only [gok]at hk
 | .l::_,.fz .any,_,_,_,_,_,_,hk,_,_=>by simp only [gok]at hk
 | .r::_,.sl _,_,_,_,_,_,_,hk,_,_=>by simp only [gok]at hk
 | .r::_,.pt _,_,_,_,_,_,_,hk,_,_=>by simp only [gok]at hk
 | .r::_,.fz (.int _),_,_,_,_,_,_,hk,_,_=>by simp only [gok]at hk
 | .r::_,.fz .bool,_,_,_,_,_,_,hk,_,_=>by simp only [gok]at hk
 | .r::_,.fz .str,_,_,_,_,_,_,hk,_,_=>by simp only [gok]at hk
 | .r::_,.fz .u,_,_,_,_,_,_,hk,_,_=>by simp only [gok]at hk
 | .r::_,.fz (.sl _),_,_,_,_,_,_,hk,_,_=>by simp only [gok]at hk
 | .r::_,.fz (.pt _),_,_,_,_,_,_,hk,_,_=>by simp only [gok]at hk
 | .r::_,.fz (.fn _ _),_,_,_,_,_,_,hk,_,_=>by simp only [gok]at hk
 | .r::_,.fz .any,_,_,_,_,_,_,hk,_,_=>by simp only [gok]at hk
 | .ix _::_,.fz _,_,_,_,_,_,_,hk,_,_=>by simp only [gok]at hk
 | .ix _::_,.p _ _,_,_,_,_,_,_,hk,_,_=>by simp only [gok]at hk
 | .ix _::_,.pt _,_,_,_,_,_,_,hk,_,_=>by simp only [gok]at hk
 | .de::_,.fz _,_,_,_,_,_,_,hk,_,_=>by simp only [gok]at hk
 | .de::_,.p _ _,_,_,_,_,_,_,hk,_,_=>by simp only [gok]at hk
 | .de::_,.sl _,_,_,_,_,_,_,hk,_,_=>by simp only [gok]at hk
end Go.Bm
/- The gi machine:the state. -/
namespace Go.Bm
open Go.RowKit
theorem aaw {Im:Nat->Prop} {w w':World}:(π:b9)->(o:O)->(x:o.strip.den)->(S:Nat->Prop)->(vs:List Value)->(ad:Pl)->Rel Im w o x S vs->gok π o x->(∀ b,S b->w'.heap[b]? = w.heap[b]?)->res w' π o vs ad=res w π o vs ad
 | [],o,x,S,vs,ad,_,_,_=>by simp only [res]
 | .l::π,.p a b,x,S,vs,ad,hr,hk,hS=>by
  simp only [Rel]at hr
  obtain ⟨va,vb,S1,S2,rfl,h1,h2,h3,ha,hb⟩:=hr
  simp only [res]
  rw [aar (Rel.len a _ _ _ ha)]
  exact aaw π a x.1 S1 va ad ha (by simpa only [gok]using hk) (fun c hc=>hS c (h1 c hc))
 | .r::π,.p a b,x,S,vs,ad,hr,hk,hS=>by
  simp only [Rel]at hr
  obtain ⟨va,vb,S1,S2,rfl,h1,h2,h3,ha,hb⟩:=hr
  simp only [res]
  rw [aap (Rel.len a _ _ _ ha)]
  exact aaw π b x.2 S2 vb _ hb (by simpa only [gok]using hk) (fun c hc=>hS c (h2 c hc))
 | .l::π,.fz (.p a b),x,S,vs,ad,hr,hk,hS=>by
  simp only [Rel,aq]at hr
  obtain ⟨va,vb,rfl,ha,hb⟩:=hr
  simp only [res]
  rw [aar (aq.len a _ _ ha)]
  exact aaw π (.fz a) x.1 (fun _=>False) va ad (by simpa only [Rel]using ha) (by simpa only [gok]using hk) (fun c hc=>hc.elim)
 | .r::π,.fz (.p a b),x,S,vs,ad,hr,hk,hS=>by
  simp only [Rel,aq]at hr
  obtain ⟨va,vb,rfl,ha,hb⟩:=hr
  simp only [res]
  rw [aap (aq.len a _ _ ha)]
  exact aaw π (.fz b) x.2 (fun _=>False) vb _ (by simpa only [Rel]using hb) (by simpa only [gok]using hk) (fun c hc=>hc.elim)
 | .ix i::π,.sl e,x,S,vs,ad,hr,hk,hS=>by
  simp only [Rel]at hr
  obtain ⟨v,ety,xs,T,rfl,h2,h3,h4,h5,h6,h7⟩:=hr
  simp only [gok]at hk
  obtain ⟨hi,hk⟩:=hk
  rcases ye h2 with ⟨hn,_⟩ | ⟨g,off0,cap,cur,hv,hgg,hc1,hc2,hc3,hc4⟩
  ·omega
  have hxi:x[i]? = some (x.getD i e.dflt):=by rw [List.getD_eq_getElem?_getD,List.getElem?_eq_getElem hi];rfl
  have hrow:=h7 i _ hxi
  have hrl:=Rel.len e _ _ _ hrow
  have hcells:ol w g (off0+i * e.size) ((xs.drop (i * e.size)).take e.size):=fun j u hu=>by
   rw [cell_of_row w g _ cur ety (0,0) hgg];exact ami hc4 hu
  have hcells':=hcells.keep (w':=w') (hS g (h4 g (by rw [hv];rfl)))
  rw [hv]
  simp only [res,Nat.zero_add]
  rw [ym hrl hcells,ym hrl hcells']
  exact aaw π e _ (T i) _ _ hrow hk (fun c hc=>hS c (h5 i c hc).1)
 | .de::π,.pt t,x,S,vs,ad,hr,hk,hS=>by
  simp only [Rel]at hr
  obtain ⟨b0,us0,ty0,S0,rfl,h2,h3,h4,h5⟩:=hr
  simp only [gok]at hk
  have hlen:=Rel.len t _ _ _ h5
  have hcells:ol w b0 0 us0:=fun j u hu=>by rw [cell_of_row w b0 _ us0.toArray ty0 (0,0) h3];simpa using hu
  have hcells':=hcells.keep (w':=w') (hS b0 h2)
  simp only [res]
  rw [ym hlen hcells,ym hlen hcells']
  exact aaw π t x S0 us0 _ h5 hk (fun c hc=>hS c (h4 c hc).1)
 | .l::_,.sl _,_,_,_,_,_,_,_=>by simp only [res]
 | .l::_,.pt _,_,_,_,_,_,_,_=>by simp only [res]
 | .l::_,.fz (.int _),_,_,_,_,_,_,_=>by simp only [res]
 | .l::_,.fz .bool,_,_,_,_,_,_,_=>by simp only [res]
 | .l::_,.fz .str,_,_,_,_,_,_,_=>by simp only [res]
 | .l::_,.fz .u,_,_,_,_,_,_,_=>by simp only [res]
 | .l::_,.fz (.sl _),_,_,_,_,_,_,_=>by simp only [res]
 | .l::_,.fz (.pt _),_,_,_,_,_,_,_=>by simp only [res]
 | .l::_,.fz (.fn _ _),_,_,_,_,_,_,_=>by simp only [res]
 | .l::_,.fz .any,_,_,_,_,_,_,_=>by simp only [res]
 | .r::_,.sl _,_,_,_,_,_,_,_=>by simp only [res]
 | .r::_,.pt _,_,_,_,_,_,_,_=>by simp only [res]
 | .r::_,.fz (.int _),_,_,_,_,_,_,_=>by simp only [res]
 | .r::_,.fz .bool,_,_,_,_,_,_,_=>by simp only [res]
 | .r::_,.fz .str,_,_,_,_,_,_,_=>by simp only [res]
 | .r::_,.fz .u,_,_,_,_,_,_,_=>by simp only [res]
 | .r::_,.fz (.sl _),_,_,_,_,_,_,_=>by simp only [res]
 | .r::_,.fz (.pt _),_,_,_,_,_,_,_=>by simp only [res]
 | .r::_,.fz (.fn _ _),_,_,_,_,_,_,_=>by simp only [res]
 | .r::_,.fz .any,_,_,_,_,_,_,_=>by simp only [res]
 | .ix _::_,.fz _,_,_,_,_,_,_,_=>by simp only [res]
 | .ix _::_,.p _ _,_,_,_,_,_,_,_=>by simp only [res]
 | .ix _::_,.pt _,_,_,_,_,_,_,_=>by simp only [res]
 | .de::_,.fz _,_,_,_,_,_,_,_=>by simp only [res]
 | .de::_,.p _ _,_,_,_,_,_,_,_=>by simp only [res]
 | .de::_,.sl _,_,_,_,_,_,_,_=>by simp only [res]
def Ref (β:Nat->Value) (M:Mem) (w:World) (k:Nat) (π:b9) (vs:List Value):Prop:=
 ∃ ob pl,go M k=some ob/\gok π ob.o ob.x/\(∃ q,get π ob.o ob.x=some q)/\res w π ob.o [β k] none=some (vs,pl)
def Adr (β:Nat->Value) (M:Mem) (w:World) (k:Nat) (π:b9) (v:Value):Prop:=
 ∃ ob us b off,go M k=some ob/\gok π ob.o ob.x/\(∃ q,get π ob.o ob.x=some q)/\dy π=true/\res w π ob.o [β k] none=some (us,some (b,off))/\v=.pointer (some ⟨b,off,none⟩)
def ai (β:Nat->Value) (M:Mem) (Im:Nat->Prop) (w:World):V->List Value->Prop
 | .p a b,vs=>∃ va vb,vs=va++vb/\ai β M Im w a va/\ai β M Im w b vb
 | .u,vs=>vs=[]
 | .ref k π,vs=>Ref β M w k π vs
 | .ad k π,vs=>∃ v,vs=[v]/\Adr β M w k π v
 | .d t x,vs=>aq Im w t x vs
 | .nl,vs=>∃ oa,vs=[.slice oa 0 0]
 | .np,vs=>vs=[.pointer none]
 | .any,vs=>∀ u ∈ vs,u.oneCell'=true
 | .fn f v,vs=>∃ us:List Value,vs=[.func (.func f) #[] us.toArray]/\ai β M Im w v us
 | .bx v,vs=>∃ b o us,vs=[.pointer (some ⟨b,o,none⟩)]/\Im b/\ol w b o us/\ai β M Im w v us
 | .ag _,_=>False
 | .tup _,_=>False
 | .gd _ _ _ _,_=>False
 | .ifc t v,vs=>∃ u:Value,vs=[.iface t u]/\ai β M Im w v [u]
mutual
def al (β:Nat->Value) (M:Mem) (Im:Nat->Prop) (w:World):V->Value->Prop
 | .any,_=>True
 | .ag x,v=>∃ vs:List Value,v=.agg vs.toArray/\ai β M Im w x vs
 | .tup x,v=>∃ vs:List Value,v=.tuple vs.toArray/\cz β M Im w x vs
 | .gd _ _ P x,v=>(P->al β M Im w x v)/\(¬ P->v=undef)
 | .ifc t x,v=>ai β M Im w (.ifc t x) [v]
 | .p a b,v=>ai β M Im w (.p a b) [v]
 | .u,v=>ai β M Im w .u [v]
 | .ref k π,v=>ai β M Im w (.ref k π) [v]
 | .ad k π,v=>ai β M Im w (.ad k π) [v]
 | .d t x,v=>ai β M Im w (.d t x) [v]
 | .nl,v=>ai β M Im w .nl [v]
 | .np,v=>ai β M Im w .np [v]
 | .fn f x,v=>ai β M Im w (.fn f x) [v]
 | .bx x,v=>ai β M Im w (.bx x) [v]
def cz (β:Nat->Value) (M:Mem) (Im:Nat->Prop) (w:World):V->List Value->Prop
 | .p a b,vs=>∃ u us,vs=u::us/\al β M Im w a u/\cz β M Im w b us
 | .u,vs=>vs=[]
 | _,_=>False
end
section
variable {β β':Nat->Value} {M M':Mem} {Im Im':Nat->Prop} {w w':World}
theorem bq {x:V} {v:Value} (h:ai β M Im w x [v]):al β M Im w x v:=by
 cases x with
 | any=>simp only [al]
 | ag y=>simp only [ai]at h
 | tup y=>simp only [ai]at h
 | gd _ _ _ y=>simp only [ai]at h
 | ifc _ y=>simpa only [al]using h
 | p a b=>simpa only [al]using h
 | u=>simpa only [al]using h
 | ref k π=>simpa only [al]using h
 | ad k π=>simpa only [al]using h
 | d t y=>simpa only [al]using h
 | nl=>simpa only [al]using h
 | np=>simpa only [al]using h
 | fn f y=>simpa only [al]using h
 | bx y=>simpa only [al]using h
theorem ai.ev {e:Ev} (hk:jc Im Im' w w') (href:∀ k π vs,Ref β M w k π vs->ai β' M' Im' w' (e.ref k π) vs) (had:∀ k π v,Adr β M w k π v->ai β' M' Im' w' (e.ad k π) [v]) :
  (x:V)->(vs:List Value)->ai β M Im w x vs->ai β' M' Im' w' (x.ev e) vs
 | .p a b,vs,r=>by
  simp only [ai,V.ev]at r ⊢
  obtain ⟨va,vb,h1,h2,h3⟩:=r
  exact ⟨va,vb,h1,ai.ev hk href had a va h2,ai.ev hk href had b vb h3⟩
 | .u,vs,r=>by simpa only [ai,V.ev]using r
 | .ref k π,vs,r=>by simp only [ai,V.ev]at r ⊢;exact href k π vs r
 | .ad k π,vs,r=>by simp only [ai,V.ev]at r ⊢;obtain ⟨v,rfl,h⟩:=r;exact had k π v h
 | .d t x,vs,r=>by simp only [ai,V.ev]at r ⊢;exact aq.keep hk t x vs r
 | .nl,vs,r=>by simpa only [ai,V.ev]using r
 | .np,vs,r=>by simpa only [ai,V.ev]using r
 | .any,vs,r=>by simpa only [ai,V.ev]using r
 | .fn f v,vs,r=>by
  simp only [ai,V.ev]at r ⊢
  obtain ⟨us,h1,h2⟩:=r
  exact ⟨us,h1,ai.ev hk href had v us h2⟩
 | .bx v,vs,r=>by
  simp only [ai,V.ev]at r ⊢
  obtain ⟨b,o,us,h1,h2,h3,h4⟩:=r
  exact ⟨b,o,us,h1,(hk b h2).1,h3.keep (hk b h2).2,ai.ev hk href had v us h4⟩
 | .ag _,vs,r=>by simp only [ai]at r
 | .tup _,vs,r=>by simp only [ai]at r
 | .gd _ _ _ _,vs,r=>by simp only [ai]at r
 | .ifc t v,vs,r=>by
  simp only [ai,V.ev]at r ⊢
  obtain ⟨u,h1,h2⟩:=r
  exact ⟨u,h1,ai.ev hk href had v [u] h2⟩
mutual
theorem al.ev {e:Ev} (hk:jc Im Im' w w') (href:∀ k π vs,Ref β M w k π vs->ai β' M' Im' w' (e.ref k π) vs) (had:∀ k π v,Adr β M w k π v->ai β' M' Im' w' (e.ad k π) [v]) :
  (x:V)->(v:Value)->al β M Im w x v->al β' M' Im' w' (x.ev e) v
 | .any,v,r=>by simp only [V.ev,al]
 | .ag x,v,r=>by
  simp only [al,V.ev]at r ⊢
  obtain ⟨vs,h1,h2⟩:=r
  exact ⟨vs,h1,ai.ev hk href had x vs h2⟩
 | .tup x,v,r=>by
  simp only [al,V.ev]at r ⊢
  obtain ⟨vs,h1,h2⟩:=r
  exact ⟨vs,h1,cz.ev hk href had x vs h2⟩
 | .gd j b P x,v,r=>by
  simp only [al,V.ev]at r ⊢
  exact ⟨fun hp=>al.ev hk href had x v (r.1 hp),r.2⟩
 | .ifc t x,v,r=>by simp only [al]at r;exact bq (ai.ev hk href had _ _ r)
 | .p a b,v,r=>by simp only [al]at r;exact bq (ai.ev hk href had _ _ r)
 | .u,v,r=>by simp only [al]at r;exact bq (ai.ev hk href had _ _ r)
 | .ref k π,v,r=>by simp only [al]at r;exact bq (ai.ev hk href had _ _ r)
 | .ad k π,v,r=>by simp only [al]at r;exact bq (ai.ev hk href had _ _ r)
 | .d t x,v,r=>by simp only [al]at r;exact bq (ai.ev hk href had _ _ r)
 | .nl,v,r=>by simp only [al]at r;exact bq (ai.ev hk href had _ _ r)
 | .np,v,r=>by simp only [al]at r;exact bq (ai.ev hk href had _ _ r)
 | .fn f x,v,r=>by simp only [al]at r;exact bq (ai.ev hk href had _ _ r)
 | .bx x,v,r=>by simp only [al]at r;exact bq (ai.ev hk href had _ _ r)
theorem cz.ev {e:Ev} (hk:jc Im Im' w w') (href:∀ k π vs,Ref β M w k π vs->ai β' M' Im' w' (e.ref k π) vs) (had:∀ k π v,Adr β M w k π v->ai β' M' Im' w' (e.ad k π) [v]) :
  (x:V)->(vs:List Value)->cz β M Im w x vs->cz β' M' Im' w' (x.ev e) vs
 | .p a b,vs,r=>by
  simp only [cz,V.ev]at r ⊢
  obtain ⟨u,us,h1,h2,h3⟩:=r
  exact ⟨u,us,h1,al.ev hk href had a u h2,cz.ev hk href had b us h3⟩
 | .u,vs,r=>by simpa only [cz,V.ev]using r
 | .any,vs,r=>by simp only [cz]at r
 | .ag x,vs,r=>by simp only [cz]at r
 | .tup x,vs,r=>by simp only [cz]at r
 | .gd j b P x,vs,r=>by simp only [cz]at r
 | .ifc t x,vs,r=>by simp only [cz]at r
 | .ref k π,vs,r=>by simp only [cz]at r
 | .ad k π,vs,r=>by simp only [cz]at r
 | .d t x,vs,r=>by simp only [cz]at r
 | .nl,vs,r=>by simp only [cz]at r
 | .np,vs,r=>by simp only [cz]at r
 | .fn f x,vs,r=>by simp only [cz]at r
 | .bx x,vs,r=>by simp only [cz]at r
end
theorem ai.keep (hk:jc Im Im' w w') (href:∀ k π vs,Ref β M w k π vs->Ref β' M' w' k π vs) (had:∀ k π v,Adr β M w k π v->Adr β' M' w' k π v) :
  (x:V)->(vs:List Value)->ai β M Im w x vs->ai β' M' Im' w' x vs
 | .p a b,vs,r=>by
  simp only [ai]at r ⊢
  obtain ⟨va,vb,h1,h2,h3⟩:=r
  exact ⟨va,vb,h1,ai.keep hk href had a va h2,ai.keep hk href had b vb h3⟩
 | .u,vs,r=>by simpa only [ai]using r
 | .ref k π,vs,r=>by simp only [ai]at r ⊢;exact href k π vs r
 | .ad k π,vs,r=>by simp only [ai]at r ⊢;obtain ⟨v,rfl,h⟩:=r;exact ⟨v,rfl,had k π v h⟩
 | .d t x,vs,r=>by simp only [ai]at r ⊢;exact aq.keep hk t x vs r
 | .nl,vs,r=>by simpa only [ai]using r
 | .np,vs,r=>by simpa only [ai]using r
 | .any,vs,r=>by simpa only [ai]using r
 | .fn f v,vs,r=>by
  simp only [ai]at r ⊢
  obtain ⟨us,h1,h2⟩:=r
  exact ⟨us,h1,ai.keep hk href had v us h2⟩
 | .bx v,vs,r=>by
  simp only [ai]at r ⊢
  obtain ⟨b,o,us,h1,h2,h3,h4⟩:=r
  exact ⟨b,o,us,h1,(hk b h2).1,h3.keep (hk b h2).2,ai.keep hk href had v us h4⟩
 | .ag _,vs,r=>by simp only [ai]at r
 | .tup _,vs,r=>by simp only [ai]at r
 | .gd _ _ _ _,vs,r=>by simp only [ai]at r
 | .ifc t v,vs,r=>by
  simp only [ai]at r ⊢
  obtain ⟨u,h1,h2⟩:=r
  exact ⟨u,h1,ai.keep hk href had v [u] h2⟩
mutual
theorem al.keep (hk:jc Im Im' w w') (href:∀ k π vs,Ref β M w k π vs->Ref β' M' w' k π vs) (had:∀ k π v,Adr β M w k π v->Adr β' M' w' k π v) :
  (x:V)->(v:Value)->al β M Im w x v->al β' M' Im' w' x v
 | .any,v,r=>by simp only [al]
 | .ag x,v,r=>by
  simp only [al]at r ⊢
  obtain ⟨vs,h1,h2⟩:=r
  exact ⟨vs,h1,ai.keep hk href had x vs h2⟩
 | .tup x,v,r=>by
  simp only [al]at r ⊢
  obtain ⟨vs,h1,h2⟩:=r
  exact ⟨vs,h1,cz.keep hk href had x vs h2⟩
 | .gd j b P x,v,r=>by
  simp only [al]at r ⊢
  exact ⟨fun hp=>al.keep hk href had x v (r.1 hp),r.2⟩
 | .ifc t x,v,r=>by simp only [al]at r;exact bq (ai.keep hk href had _ _ r)
 | .p a b,v,r=>by simp only [al]at r;exact bq (ai.keep hk href had _ _ r)
 | .u,v,r=>by simp only [al]at r;exact bq (ai.keep hk href had _ _ r)
 | .ref k π,v,r=>by simp only [al]at r;exact bq (ai.keep hk href had _ _ r)
 | .ad k π,v,r=>by simp only [al]at r;exact bq (ai.keep hk href had _ _ r)
 | .d t x,v,r=>by simp only [al]at r;exact bq (ai.keep hk href had _ _ r)
 | .nl,v,r=>by simp only [al]at r;exact bq (ai.keep hk href had _ _ r)
 | .np,v,r=>by simp only [al]at r;exact bq (ai.keep hk href had _ _ r)
 | .fn f x,v,r=>by simp only [al]at r;exact bq (ai.keep hk href had _ _ r)
 | .bx x,v,r=>by simp only [al]at r;exact bq (ai.keep hk href had _ _ r)
theorem cz.keep (hk:jc Im Im' w w') (href:∀ k π vs,Ref β M w k π vs->Ref β' M' w' k π vs) (had:∀ k π v,Adr β M w k π v->Adr β' M' w' k π v) :
  (x:V)->(vs:List Value)->cz β M Im w x vs->cz β' M' Im' w' x vs
 | .p a b,vs,r=>by
  simp only [cz]at r ⊢
  obtain ⟨u,us,h1,h2,h3⟩:=r
  exact ⟨u,us,h1,al.keep hk href had a u h2,cz.keep hk href had b us h3⟩
 | .u,vs,r=>by simpa only [cz]using r
 | .any,vs,r=>by simp only [cz]at r
 | .ag x,vs,r=>by simp only [cz]at r
 | .tup x,vs,r=>by simp only [cz]at r
 | .gd j b P x,vs,r=>by simp only [cz]at r
 | .ifc t x,vs,r=>by simp only [cz]at r
 | .ref k π,vs,r=>by simp only [cz]at r
 | .ad k π,vs,r=>by simp only [cz]at r
 | .d t x,vs,r=>by simp only [cz]at r
 | .nl,vs,r=>by simp only [cz]at r
 | .np,vs,r=>by simp only [cz]at r
 | .fn f x,vs,r=>by simp only [cz]at r
 | .bx x,vs,r=>by simp only [cz]at r
end
end
theorem an1 {a b:Nat} (h:¬ a=b):Nat.beq a b=false:=by
 cases hb:Nat.beq a b with
 | false=>rfl
 | true=>exact absurd (Nat.eq_of_beq_eq_true hb) h
theorem im (k:Nat) (v:V) (r:Env) (t:Nat):gt ((k,v)::r) t=if k=t then v else gt r t:=by
 simp only [gt]
 by_cases h:k=t
 ·simp [h]
 ·rw [if_neg h];have:Nat.beq k t=false:=an1 h
  rw [this];rfl
theorem fx (k:Nat) (v:Ob) (r:Mem) (t:Nat):go ((k,v)::r) t=if k=t then some v else go r t:=by
 simp only [go]
 by_cases h:k=t
 ·simp [h]
 ·rw [if_neg h];have:Nat.beq k t=false:=an1 h
  rw [this];rfl
theorem dv {α:Type} (j k:Nat) (x y:α):(bif Nat.beq j k then x else y)=if j=k then x else y:=by
 by_cases h:j=k
 ·simp [h]
 ·rw [if_neg h];have:Nat.beq j k=false:=an1 h
  rw [this];rfl
def er (M:Mem) (k:Nat):Prop:=(go M k).isSome=true
theorem c8 {M:Mem} {k:Nat} {o:Ob} (h:go M k=some o):er M k:=by unfold er;rw [h];rfl
theorem av6 {M:Mem} {k:Nat} (h:er M k):∃ o,go M k=some o:=Option.isSome_iff_exists.1 h
theorem fp (k:Nat):∀ M:Mem,go (del k M) k=none
 | []=>rfl
 | (j,o)::r=>by
  simp only [del,dv]
  split
  ·exact fp k r
  ·rename_i h;rw [fx,if_neg h];exact fp k r
theorem fo {k j:Nat} (h:j ≠ k):∀ M:Mem,go (del k M) j=go M j
 | []=>rfl
 | (i,o)::r=>by
  simp only [del,dv]
  by_cases e:i=k
  ·subst e
   rw [if_pos rfl,fx,if_neg (Ne.symm h)];exact fo h r
  ·rw [if_neg e,fx,fx,fo h r]
theorem p8 {k j:Nat} {M:Mem}:er (del k M) j<->j ≠ k/\er M j:=by
 unfold er
 by_cases h:j=k
 ·subst h;simp [fp]
 ·simp [fo h,h]
theorem kv {k j:Nat} (o:Ob) (h:j ≠ k):∀ M:Mem,go (put k o M) j=go M j
 | []=>rfl
 | (i,x)::r=>by
  simp only [put,dv]
  by_cases e:i=k
  ·subst e
   rw [if_pos rfl,fx,fx,if_neg (Ne.symm h),if_neg (Ne.symm h)]
  ·rw [if_neg e,fx,fx,kv o h r]
theorem mf {k:Nat} (o:Ob):∀ M:Mem,er M k->go (put k o M) k=some o
 | [],h=>by simp [er,go]at h
 | (i,x)::r,h=>by
  simp only [put,dv]
  by_cases e:i=k
  ·subst e
   rw [if_pos rfl,fx,if_pos rfl]
  ·rw [if_neg e,fx,if_neg e]
   refine mf o r ?_
   unfold er at h ⊢
   rwa [fx,if_neg e]at h
theorem uu {k j:Nat} {o:Ob} {M:Mem}:er (put k o M) j<->er M j:=by
 by_cases e:j=k
 ·subst e
  by_cases h:er M j
  ·exact ⟨fun _=>h,fun _=>c8 (mf o M h)⟩
  ·refine ⟨fun h'=>?_,fun h'=>absurd h' h⟩
   exfalso
   have:∀ M:Mem,¬ er M j->¬ er (put j o M) j:=by
    intro M
    induction M with
    | nil=>intro h;exact h
    | cons q r ih=>
     obtain ⟨i,x⟩:=q
     intro hn hl
     unfold er at hn hl ih
     simp only [put,dv]at hl
     by_cases e:i=j
     ·subst e;rw [fx,if_pos rfl]at hn;exact hn rfl
     ·rw [if_neg e,fx,if_neg e]at hl
      rw [fx,if_neg e]at hn
      exact ih hn hl
   exact this M h h'
 ·unfold er;rw [kv o e]
theorem alr (e:Ev) (t:Nat):∀ env:Env,gt (evE e env) t=(gt env t).ev e
 | []=>by simp [evE,gt,V.ev]
 | (j,v)::r=>by
  simp only [evE,im]
  split
  ·rfl
  ·exact alr e t r
structure Fr where
 w0:World
 wk:World
 A:Nat->Prop
 R:Nat->Prop
 I:Nat->Prop
 nt:Nat
 fv:Nat->Option Value
def Fr.RR (F:Fr) (b:Nat):Prop:=F.R b
def Fr.ok (F:Fr) (k:Nat):Prop:=k < F.nt/\F.fv k=none
structure Ow where
 β:Nat->Value
 σ:Nat->Nat->Prop
 L:Nat->Prop
structure TD (w' w:World):Prop where
 t:w'.tape=w.tape
 d:w.drawn<=w'.drawn
theorem TD.refl (w:World):TD w w:=⟨rfl,Nat.le_refl _⟩
theorem TD.trans {a b c:World} (h:TD c b) (k:TD b a):TD c a:=⟨h.t.trans k.t,Nat.le_trans k.d h.d⟩
def Imm (F:Fr) (p:Ow) (M:Mem) (w:World):Nat->Prop:=
 fun b=>b < w.heap.size/\(F.A b\/F.RR b\/F.w0.heap.size<=b)/\¬ p.L b/\∀ k,er M k->¬ p.σ k b
structure Hp (F:Fr) (p:Ow) (M:Mem) (w:World):Prop where
 objs:∀ k ob,go M k=some ob->Rel (Imm F p M w) w ob.o ob.x (p.σ k) [p.β k]
 sep:∀ k k' b,k ≠ k'->er M k->er M k'->p.σ k b->¬ p.σ k' b
 own:∀ k b,er M k->p.σ k b->b < w.heap.size/\(gid<=k/\F.RR b\/F.w0.heap.size<=b)
 lim:∀ b,p.L b->b < w.heap.size/\F.w0.heap.size<=b/\∀ k,er M k->¬ p.σ k b
 os:w.os=F.w0.os
 tape:TD w F.w0
 output:w.output=F.w0.output
 size:F.w0.heap.size<=w.heap.size
 old:∀ b,b < F.w0.heap.size->¬ F.RR b->w.heap[b]? = F.w0.heap[b]?
structure St (F:Fr) (p:Ow) (env:Env) (M:Mem) (a:Act) (w:World):Prop where
 defers:a.defers=[]
 nt:a.tmps.size=F.nt
 fix:∀ t v,F.fv t=some v->a.tmps.getD t undef=v
 ik:∀ b,F.I b->Imm F p M w b/\w.heap[b]? = F.wk.heap[b]?
 lz:∀ b,¬ p.L b
 slots:∀ t,al p.β M (Imm F p M w) w (gt env t) (a.tmps.getD t undef)
 hp:Hp F p M w
structure Tr (F:Fr) (p:Ow) (M:Mem) (w:World) (e:List Ev) (p':Ow) (M':Mem) (w':World):Prop where
 keep:jc (Imm F p M w) (Imm F p' M' w') w w'
 c:∀ v vs,ai p.β M (Imm F p M w) w v vs->ai p'.β M' (Imm F p' M' w') w' (v.evs e) vs
 s:∀ v u,al p.β M (Imm F p M w) w v u->al p'.β M' (Imm F p' M' w') w' (v.evs e) u
 hp:Hp F p' M' w'
theorem alt (v:V):∀ (e e':List Ev),v.evs (ap e e')=(v.evs e).evs e'
 | [],e'=>rfl
 | x::e,e'=>by simp only [ap,V.evs];exact alt _ e e'
theorem uc (t:Nat):∀ (e:List Ev) (env:Env),gt (rr env e) t=(gt env t).evs e
 | [],env=>rfl
 | x::e,env=>by simp only [rr,V.evs];rw [uc t e,alr]
section
variable {F:Fr} {p p' p'':Ow} {env:Env} {M M' M'':Mem} {a:Act} {w w' w'':World}
theorem Tr.trans {e e':List Ev} (h:Tr F p M w e p' M' w') (k:Tr F p' M' w' e' p'' M'' w''):Tr F p M w (ap e e') p'' M'' w'':=
 ⟨h.keep.trans k.keep,fun v vs r=>by rw [alt];exact k.c _ _ (h.c v vs r),fun v u r=>by rw [alt];exact k.s _ _ (h.s v u r),k.hp⟩
theorem Tr.one (e:Ev) (hk:jc (Imm F p M w) (Imm F p' M' w') w w')
  (href:∀ k π vs,Ref p.β M w k π vs->ai p'.β M' (Imm F p' M' w') w' (e.ref k π) vs) (had:∀ k π v,Adr p.β M w k π v->ai p'.β M' (Imm F p' M' w') w' (e.ad k π) [v]) (hp':Hp F p' M' w'):Tr F p M w [e] p' M' w':=
 ⟨hk,fun v vs r=>by simp only [V.evs];exact ai.ev hk href had v vs r,fun v u r=>by simp only [V.evs];exact al.ev hk href had v u r,hp'⟩
theorem Tr.zero (hk:jc (Imm F p M w) (Imm F p' M' w') w w')
  (href:∀ k π vs,Ref p.β M w k π vs->Ref p'.β M' w' k π vs) (had:∀ k π v,Adr p.β M w k π v->Adr p'.β M' w' k π v) (hp':Hp F p' M' w'):Tr F p M w [] p' M' w':=
 ⟨hk,fun v vs r=>by simp only [V.evs];exact ai.keep hk href had v vs r,fun v u r=>by simp only [V.evs];exact al.keep hk href had v u r,hp'⟩
theorem Tr.refl (h:Hp F p M w):Tr F p M w [] p M w:=Tr.zero (jc.refl _ _) (fun _ _ _ r=>r) (fun _ _ _ r=>r) h
theorem St.tr {e:List Ev} (h:St F p env M a w) (t:Tr F p M w e p' M' w') (hL:∀ b,¬ p'.L b):St F p' (rr env e) M' a w':=by
 refine ⟨h.defers,h.nt,h.fix,fun b hb=>⟨(t.keep b (h.ik b hb).1).1,((t.keep b (h.ik b hb).1).2).trans (h.ik b hb).2⟩,hL,fun n=>?_,t.hp⟩
 rw [uc]
 exact t.s _ _ (h.slots n)
theorem Ref.same (hp:Hp F p M w) {k:Nat} {π:b9} {vs:List Value} (h:Ref p.β M w k π vs) (hM:go M' k=go M k) (hβ:p'.β k=p.β k) (hb:er M k->∀ b,p.σ k b->w'.heap[b]? = w.heap[b]?):Ref p'.β M' w' k π vs:=by
 obtain ⟨ob,pl,h1,h2,h3,h4⟩:=h
 refine ⟨ob,pl,by rw [hM,h1],h2,h3,?_⟩
 rw [hβ,aaw π ob.o ob.x (p.σ k) _ none (hp.objs k ob h1) h2 (hb (c8 h1))]
 exact h4
theorem Adr.same (hp:Hp F p M w) {k:Nat} {π:b9} {v:Value} (h:Adr p.β M w k π v) (hM:go M' k=go M k) (hβ:p'.β k=p.β k) (hb:er M k->∀ b,p.σ k b->w'.heap[b]? = w.heap[b]?):Adr p'.β M' w' k π v:=by
 obtain ⟨ob,us,b,off,h1,h2,h3,h4,h5,h6⟩:=h
 refine ⟨ob,us,b,off,by rw [hM,h1],h2,h3,h4,?_,h6⟩
 rw [hβ,aaw π ob.o ob.x (p.σ k) _ none (hp.objs k ob h1) h2 (hb (c8 h1))]
 exact h5
theorem St.write (h:St F p env M a w) (d:Nat) (x:V) (v:Value) (hx:al p.β M (Imm F p M w) w x v) (hd:F.ok d):St F p ((d,x)::env) M (a.put (some d) v) w:=by
 refine ⟨by simpa [Act.put]using h.defers,by simpa [Act.put]using h.nt,fun t v' ht=>?_,h.ik,h.lz,fun t=>?_,h.hp⟩
 ·have hne:d ≠ t:=fun e=>by have:=hd.2;rw [e,ht]at this;cases this
  have:=h.fix t v' ht
  simpa [Act.put,hne]using this
 rw [im]
 simp only [Act.put]
 by_cases e:d=t
 ·subst e
  rw [if_pos rfl]
  simpa [h.nt,hd.1]using hx
 ·rw [if_neg e]
  have:=h.slots t
  simpa [e]using this
theorem St.weak {env':Env} (h:St F p env M a w) (he:∀ t,gt env' t=.any\/gt env' t=gt env t):St F p env' M a w:=by
 refine ⟨h.defers,h.nt,h.fix,h.ik,h.lz,fun t=>?_,h.hp⟩
 rcases he t with e | e
 ·rw [e];simp only [al]
 ·rw [e];exact h.slots t
theorem look (hp:Hp F p M w) {k:Nat} {ob:Ob} {π:b9} {q:Ob} (h1:go M k=some ob) (h2:gok π ob.o ob.x) (h3:get π ob.o ob.x=some q):Foc (Imm F p M w) w π ob.o ob.x (p.σ k) [p.β k] none q:=
 afd π ob.o ob.x (p.σ k) [p.β k] none q (hp.objs k ob h1) h2 h3 (fun b off e=>by cases e)
theorem Ref.one (hp:Hp F p M w) {k:Nat} {π:b9} {vs:List Value} (h:Ref p.β M w k π vs):∀ u ∈ vs,u.oneCell'=true:=by
 obtain ⟨ob,pl,h1,h2,⟨q,h3⟩,h4⟩:=h
 obtain ⟨us,pl',S',e1,e2,e3,_⟩:=look hp h1 h2 h3
 rw [e1]at h4
 cases h4
 exact Rel.one _ _ _ _ e3
theorem Adr.one {k:Nat} {π:b9} {v:Value} (h:Adr p.β M w k π v):v.oneCell'=true:=by
 obtain ⟨_,_,_,_,_,_,_,_,_,rfl⟩:=h;rfl
structure Ext (w w':World):Prop where
 os:w'.os=w.os
 tape:TD w' w
 output:w'.output=w.output
 size:w.heap.size<=w'.heap.size
 old:∀ b,b < w.heap.size->w'.heap[b]? = w.heap[b]?
theorem Ext.refl (w:World):Ext w w:=⟨rfl,TD.refl w,rfl,Nat.le_refl _,fun _ _=>rfl⟩
theorem Ext.trans {w1 w2 w3:World} (h:Ext w1 w2) (k:Ext w2 w3):Ext w1 w3:=
 ⟨k.os.trans h.os,k.tape.trans h.tape,k.output.trans h.output,Nat.le_trans h.size k.size,fun b hb=>(k.old b (Nat.lt_of_lt_of_le hb h.size)).trans (h.old b hb)⟩
theorem Ext.of_grown {w w':World} (h:w.grownBy w' none) (hd:w.drawn<=w'.drawn):Ext w w':=⟨h.os,⟨h.tape,hd⟩,h.output,h.size,fun b hb=>h.block b hb (by simp)⟩
theorem Tr.ext (h:Hp F p M w) (e:Ext w w'):Tr F p M w [] p M w':=by
 have hk:jc (Imm F p M w) (Imm F p M w') w w':=fun b hb=>⟨⟨by have:=e.size;have:=hb.1;omega,hb.2⟩,e.old b hb.1⟩
 refine Tr.zero hk (fun _ _ _ r=>r.same h rfl rfl (fun hl b hb=>e.old b (h.own _ b hl hb).1)) (fun _ _ _ r=>r.same h rfl rfl (fun hl b hb=>e.old b (h.own _ b hl hb).1))
  ⟨fun k ob hg=>Rel.keep hk _ _ _ _ (fun b hb=>e.old b (h.own k b (c8 hg) hb).1) (h.objs k ob hg),h.sep,fun k b h1 h2=>?_,fun b hb=>?_,e.os.trans h.os,e.tape.trans h.tape,e.output.trans h.output,Nat.le_trans h.size e.size,fun b hb hR=>?_⟩
 ·have:=h.own k b h1 h2;exact ⟨by have:=e.size;omega,this.2⟩
 ·have:=h.lim b hb;exact ⟨by have:=e.size;omega,this.2⟩
 ·rw [e.old b (by have:=h.size;omega)];exact h.old b hb hR
theorem St.ext (h:St F p env M a w) (e:Ext w w'):St F p env M a w':=by simpa [rr]using h.tr (Tr.ext h.hp e) h.lz
theorem Hp.del (h:Hp F p M w) (k:Nat):Hp F p (del k M) w/\jc (Imm F p M w) (Imm F p (del k M) w) w w:=by
 have hk:jc (Imm F p M w) (Imm F p (Bm.del k M) w) w w:=fun b hb=>⟨⟨hb.1,hb.2.1,hb.2.2.1,fun j hj=>hb.2.2.2 j (p8.1 hj).2⟩,rfl⟩
 refine ⟨⟨fun j ob hg=>?_,fun j j' b hne hj hj'=>h.sep j j' b hne (p8.1 hj).2 (p8.1 hj').2,fun j b hj=>h.own j b (p8.1 hj).2,fun b hb=>⟨(h.lim b hb).1,(h.lim b hb).2.1,fun j hj=>(h.lim b hb).2.2 j (p8.1 hj).2⟩,h.os,h.tape,h.output,h.size,h.old⟩,hk⟩
 have hjk:j ≠ k:=by rintro rfl;rw [fp]at hg;cases hg
 rw [fo hjk]at hg
 exact Rel.keep hk _ _ _ _ (fun _ _=>rfl) (h.objs j ob hg)
theorem Tr.kl (h:Hp F p M w) (k:Nat):Tr F p M w [.kl k] p (del k M) w:=by
 refine Tr.one (.kl k) (h.del k).2 (fun j π vs r=>?_) (fun j π v r=>?_) (h.del k).1
 ·simp only [Ev.ref,dv]
  split
  ·simp only [ai];exact r.one h
  ·rename_i hne;simp only [ai];exact r.same h (fo hne M) rfl (fun _ _ _=>rfl)
 ·simp only [Ev.ad,dv]
  split
  ·simp only [ai];intro u hu;rw [List.mem_singleton.1 hu];exact r.one
  ·rename_i hne;simp only [ai];exact ⟨v,rfl,r.same h (fo hne M) rfl (fun _ _ _=>rfl)⟩
theorem adc (h:Hp F p M w) {k b:Nat} (hl:er M k) (hb:p.σ k b):Imm F p (del k M) w b:=by
 obtain ⟨h1,h2⟩:=h.own k b hl hb
 exact ⟨h1,h2.elim (fun h=>.inr (.inl h.2)) (fun h=>.inr (.inr h)),fun hL=>(h.lim b hL).2.2 k hl hb,fun j hj=>h.sep k j b (Ne.symm (p8.1 hj).1) hl (p8.1 hj).2 hb⟩
theorem sm {β:Nat->Value} {Im:Nat->Prop}:(t:T)->(x:t.den)->(vs:List Value)->aq Im w t x vs->ai β M Im w (n9 t x) vs
 | .p a b,x,vs,r=>by
  simp only [aq]at r
  obtain ⟨va,vb,h1,h2,h3⟩:=r
  simp only [n9,ai]
  exact ⟨va,vb,h1,sm a _ va h2,sm b _ vb h3⟩
 | .u,x,vs,r=>by simpa only [n9,ai,aq]using r
 | .int _,x,vs,r=>by simpa only [n9,ai]using r
 | .bool,x,vs,r=>by simpa only [n9,ai]using r
 | .str,x,vs,r=>by simpa only [n9,ai]using r
 | .sl _,x,vs,r=>by simpa only [n9,ai]using r
 | .pt _,x,vs,r=>by simpa only [n9,ai]using r
 | .fn _ _,x,vs,r=>by simpa only [n9,ai]using r
 | .ifc _ _,x,vs,r=>by simpa only [n9,ai]using r
 | .mp _ _,x,vs,r=>by simpa only [n9,ai]using r
 | .op _,x,vs,r=>by simpa only [n9,ai]using r
 | .ns _,x,vs,r=>by simpa only [n9,ai]using r
 | .any,x,vs,r=>by simpa only [n9,ai]using r
theorem Tr.frz (h:Hp F p M w) (k:Nat) (ob:Ob) (hk:go M k=some ob):Tr F p M w [.fz k ob] p (del k M) w:=by
 have hl:=c8 hk
 refine Tr.one (.fz k ob) (h.del k).2 (fun j π vs r=>?_) (fun j π v r=>?_) (h.del k).1
 ·simp only [Ev.ref,dv]
  split
  ·rename_i e
   subst e
   obtain ⟨ob',pl,h1,h2,⟨q,h3⟩,h4⟩:=r
   rw [hk]at h1
   cases h1
   rw [h3]
   obtain ⟨us,pl',S',e1,e2,e3,_⟩:=look h hk h2 h3
   rw [e1]at h4
   cases h4
   exact sm _ _ _ (Rel.frz (fun b hb=>((h.del j).2 b hb).1) _ _ S' _ (fun b hb=>adc h hl (e2 b hb)) e3)
  ·rename_i hne;simp only [ai];exact r.same h (fo hne M) rfl (fun _ _ _=>rfl)
 ·simp only [Ev.ad,dv]
  split
  ·rename_i e
   subst e
   obtain ⟨ob',us0,b0,off0,h1,h2,⟨q,h3⟩,h4,h5,rfl⟩:=r
   rw [hk]at h1
   cases h1
   rw [h3]
   obtain ⟨us,pl',S',e1,e2,e3,e4,_⟩:=look h hk h2 h3
   rw [e1]at h5
   simp only [Option.some.injEq,Prod.mk.injEq]at h5
   obtain ⟨rfl,rfl⟩:=h5
   obtain ⟨b,off,cur,ty',k1,k2,k3,k4,k5⟩:=e4 h4
   simp only [Option.some.injEq,Prod.mk.injEq]at k1
   obtain ⟨rfl,rfl⟩:=k1
   simp only [ai,aq]
   refine ⟨b0,off0,us,rfl,adc h hl k2,fun j' u hu=>?_,Rel.frz (fun b hb=>((h.del j).2 b hb).1) _ _ S' _ (fun b hb=>adc h hl (e2 b hb)) e3⟩
   rw [cell_of_row w b0 _ cur ty' (0,0) k4]
   exact k5 j' u hu
  ·rename_i hne;simp only [ai];exact ⟨v,rfl,r.same h (fo hne M) rfl (fun _ _ _=>rfl)⟩
theorem Tr.lim (h:Hp F p M w) (k:Nat) (hl:er M k) (hg:k < gid):Tr F p M w [.kl k] ⟨p.β,p.σ,fun b=>p.L b\/p.σ k b⟩ (del k M) w:=by
 have hI:∀ b,Imm F p M w b->Imm F ⟨p.β,p.σ,fun b=>p.L b\/p.σ k b⟩ (Bm.del k M) w b:=fun b hb=>⟨hb.1,hb.2.1,fun hc=>hc.elim hb.2.2.1 (hb.2.2.2 k hl),fun j hj=>hb.2.2.2 j (p8.1 hj).2⟩
 have hk:jc (Imm F p M w) (Imm F ⟨p.β,p.σ,fun b=>p.L b\/p.σ k b⟩ (Bm.del k M) w) w w:=fun b hb=>⟨hI b hb,rfl⟩
 refine Tr.one (.kl k) hk (fun j π vs r=>?_) (fun j π v r=>?_) ⟨fun j ob hgo=>?_,fun j j' b hne hj hj'=>h.sep j j' b hne (p8.1 hj).2 (p8.1 hj').2,fun j b hj=>h.own j b (p8.1 hj).2,fun b hb=>?_,h.os,h.tape,h.output,h.size,h.old⟩
 ·simp only [Ev.ref,dv]
  split
  ·simp only [ai];exact r.one h
  ·rename_i hne;simp only [ai];exact r.same (p':=⟨p.β,p.σ,_⟩) h (fo hne M) rfl (fun _ _ _=>rfl)
 ·simp only [Ev.ad,dv]
  split
  ·simp only [ai];intro u hu;rw [List.mem_singleton.1 hu];exact r.one
  ·rename_i hne;simp only [ai];exact ⟨v,rfl,r.same (p':=⟨p.β,p.σ,_⟩) h (fo hne M) rfl (fun _ _ _=>rfl)⟩
 ·have hjk:j ≠ k:=by rintro rfl;rw [fp]at hgo;cases hgo
  rw [fo hjk]at hgo
  exact Rel.keep hk _ _ _ _ (fun _ _=>rfl) (h.objs j ob hgo)
 ·rcases hb with hb | hb
  ·exact ⟨(h.lim b hb).1,(h.lim b hb).2.1,fun j hj=>(h.lim b hb).2.2 j (p8.1 hj).2⟩
  ·obtain ⟨k1,k2⟩:=h.own k b hl hb
   refine ⟨k1,k2.elim (fun h=>by have:=h.1;omega) id,fun j hj=>h.sep k j b (Ne.symm (p8.1 hj).1) hl (p8.1 hj).2 hb⟩
def Ow.updL (p:Ow) (k:Nat) (v:Value) (r L':Nat->Prop):Ow:=⟨fun j=>if j=k then v else p.β j,fun j=>if j=k then r else p.σ j,L'⟩
def Ow.upd (p:Ow) (k:Nat) (v:Value) (r:Nat->Prop):Ow:=p.updL k v r fun _=>False
structure ExtL (w w':World) (L:Nat->Prop):Prop where
 os:w'.os=w.os
 tape:TD w' w
 output:w'.output=w.output
 size:w.heap.size<=w'.heap.size
 old:∀ b,b < w.heap.size->¬ L b->w'.heap[b]? = w.heap[b]?
theorem Ext.toL {w w':World} (h:Ext w w') (L:Nat->Prop):ExtL w w' L:=⟨h.os,h.tape,h.output,h.size,fun b hb _=>h.old b hb⟩
theorem Tr.newL (h:Hp F p M w) (k:Nat) (hk:go M k=none) (v:Value) (r L':Nat->Prop) (ob:Ob) (hg:ExtL w w' p.L)
  (hL':∀ b,L' b->p.L b/\¬ r b) (hr:∀ b,r b->w.heap.size<=b/\b < w'.heap.size\/p.L b)
  (ho:jc (Imm F p M w) (Imm F (p.updL k v r L') ((k,ob)::M) w') w w'->Rel (Imm F (p.updL k v r L') ((k,ob)::M) w') w' ob.o ob.x r [v]) :
  Tr F p M w [] (p.updL k v r L') ((k,ob)::M) w':=by
 have hnl:¬ er M k:=by unfold er;rw [hk];simp
 have hlive:∀ j,er ((k,ob)::M) j<->j=k\/er M j:=fun j=>by
  unfold er;rw [fx]
  by_cases e:k=j
  ·simp [e]
  ·rw [if_neg e];simp [Ne.symm e]
 have hβ:∀ j,j ≠ k->(p.updL k v r L').β j=p.β j:=fun j hj=>by simp [Ow.updL,hj]
 have hσ:∀ j,j ≠ k->(p.updL k v r L').σ j=p.σ j:=fun j hj=>by simp [Ow.updL,hj]
 have hβk:(p.updL k v r L').β k=v:=by simp [Ow.updL]
 have hσk:(p.updL k v r L').σ k=r:=by simp [Ow.updL]
 have hkeep:jc (Imm F p M w) (Imm F (p.updL k v r L') ((k,ob)::M) w') w w':=fun b hb=>by
  refine ⟨⟨by have:=hg.size;have:=hb.1;omega,hb.2.1,fun h=>hb.2.2.1 (hL' b h).1,fun j hj=>?_⟩,hg.old b hb.1 hb.2.2.1⟩
  rcases (hlive j).1 hj with rfl | hj
  ·rw [hσk];intro hrb
   rcases hr b hrb with h1 | h1
   ·have:=hb.1;omega
   ·exact hb.2.2.1 h1
  ·have hne:j ≠ k:=fun e=>hnl (e ▸ hj)
   rw [hσ j hne];exact hb.2.2.2 j hj
 have hgo:∀ j,j ≠ k->go ((k,ob)::M) j=go M j:=fun j hj=>by rw [fx,if_neg (Ne.symm hj)]
 have hblk:∀ j,er M j->∀ b,p.σ j b->w'.heap[b]? = w.heap[b]?:=fun j hj b hb=>hg.old b (h.own j b hj hb).1 (fun hL=>(h.lim b hL).2.2 j hj hb)
 refine Tr.zero hkeep (fun j π vs q=>?_) (fun j π v' q=>?_) ⟨fun j o hj=>?_,fun j j' b hne hj hj' hb=>?_,fun j b hj hb=>?_,fun b hb=>?_,hg.os.trans h.os,hg.tape.trans h.tape,hg.output.trans h.output,Nat.le_trans h.size hg.size,fun b hb hR=>?_⟩
 ·have hne:j ≠ k:=by rintro rfl;obtain ⟨o,_,h1,_⟩:=q;rw [hk]at h1;cases h1
  exact q.same h (hgo j hne) (hβ j hne) (hblk j)
 ·have hne:j ≠ k:=by rintro rfl;obtain ⟨o,_,_,_,h1,_⟩:=q;rw [hk]at h1;cases h1
  exact q.same h (hgo j hne) (hβ j hne) (hblk j)
 ·by_cases e:j=k
  ·subst e
   rw [fx,if_pos rfl]at hj
   cases hj
   rw [hβk,hσk]
   exact ho hkeep
  ·rw [hgo j e]at hj
   rw [hβ j e,hσ j e]
   exact Rel.keep hkeep _ _ _ _ (hblk j (c8 hj)) (h.objs j o hj)
 ·rcases (hlive j).1 hj with ej | hj0
  ·rw [ej,hσk]at hb
   rcases (hlive j').1 hj' with ej' | hj0'
   ·exact absurd (ej.trans ej'.symm) hne
   ·have hn':j' ≠ k:=fun e=>hnl (e ▸ hj0')
    rw [hσ j' hn']
    intro hb'
    rcases hr b hb with h1 | h1
    ·have:=(h.own j' b hj0' hb').1;omega
    ·exact (h.lim b h1).2.2 j' hj0' hb'
  ·have hn:j ≠ k:=fun e=>hnl (e ▸ hj0)
   rw [hσ j hn]at hb
   rcases (hlive j').1 hj' with ej' | hj0'
   ·rw [ej',hσk]
    intro hb'
    rcases hr b hb' with h1 | h1
    ·have:=(h.own j b hj0 hb).1;omega
    ·exact (h.lim b h1).2.2 j hj0 hb
   ·have hn':j' ≠ k:=fun e=>hnl (e ▸ hj0')
    rw [hσ j' hn'];exact h.sep j j' b hne hj0 hj0' hb
 ·rcases (hlive j).1 hj with ej | hj
  ·subst ej
   rw [hσk]at hb
   rcases hr b hb with h1 | h1
   ·exact ⟨h1.2,.inr (Nat.le_trans h.size h1.1)⟩
   ·exact ⟨by have:=(h.lim b h1).1;have:=hg.size;omega,.inr (h.lim b h1).2.1⟩
  ·have hn:j ≠ k:=fun e=>hnl (e ▸ hj)
   rw [hσ j hn]at hb
   have:=h.own j b hj hb
   exact ⟨by have:=hg.size;omega,this.2⟩
 ·have hb':=hL' b hb
  refine ⟨by have:=(h.lim b hb'.1).1;have:=hg.size;omega,(h.lim b hb'.1).2.1,fun j hj=>?_⟩
  rcases (hlive j).1 hj with ej | hj
  ·rw [ej,hσk];exact hb'.2
  ·have hn:j ≠ k:=fun e=>hnl (e ▸ hj)
   rw [hσ j hn];exact (h.lim b hb'.1).2.2 j hj
 ·rw [hg.old b (by have:=h.size;omega) (fun hL=>by have:=(h.lim b hL).2.1;omega)];exact h.old b hb hR
theorem Tr.new (h:Hp F p M w) (k:Nat) (hk:go M k=none) (v:Value) (r:Nat->Prop) (ob:Ob) (hg:ExtL w w' p.L)
  (hr:∀ b,r b->w.heap.size<=b/\b < w'.heap.size\/p.L b)
  (ho:jc (Imm F p M w) (Imm F (p.upd k v r) ((k,ob)::M) w') w w'->Rel (Imm F (p.upd k v r) ((k,ob)::M) w') w' ob.o ob.x r [v]) :
  Tr F p M w [] (p.upd k v r) ((k,ob)::M) w':=Tr.newL h k hk v r (fun _=>False) ob hg (fun _ hb=>hb.elim) hr ho
theorem Tr.drop (h:Hp F p M w) (L':Nat->Prop) (hL:∀ b,L' b->p.L b):Tr F p M w [] ⟨p.β,p.σ,L'⟩ M w:=by
 have hk:jc (Imm F p M w) (Imm F ⟨p.β,p.σ,L'⟩ M w) w w:=fun b hb=>⟨⟨hb.1,hb.2.1,fun h=>hb.2.2.1 (hL b h),hb.2.2.2⟩,rfl⟩
 refine Tr.zero hk (fun _ _ _ r=>r) (fun _ _ _ r=>r) ⟨fun k ob hg=>Rel.keep hk _ _ _ _ (fun _ _=>rfl) (h.objs k ob hg),h.sep,h.own,fun b hb=>h.lim b (hL b hb),h.os,h.tape,h.output,h.size,h.old⟩
theorem Tr.grow (h:Hp F p M w) (hL:∀ b,¬ p.L b) (e:Ext w w') (L':Nat->Prop) (hn:∀ b,L' b->w.heap.size<=b/\b < w'.heap.size):Tr F p M w [] ⟨p.β,p.σ,L'⟩ M w':=by
 have hk:jc (Imm F p M w) (Imm F ⟨p.β,p.σ,L'⟩ M w') w w':=fun b hb=>⟨⟨by have:=e.size;have:=hb.1;omega,hb.2.1,fun h=>by have:=(hn b h).1;have:=hb.1;omega,hb.2.2.2⟩,e.old b hb.1⟩
 refine Tr.zero hk (fun _ _ _ r=>r.same h rfl rfl (fun hl b hb=>e.old b (h.own _ b hl hb).1)) (fun _ _ _ r=>r.same h rfl rfl (fun hl b hb=>e.old b (h.own _ b hl hb).1))
  ⟨fun k ob hg=>Rel.keep hk _ _ _ _ (fun b hb=>e.old b (h.own k b (c8 hg) hb).1) (h.objs k ob hg),h.sep,fun k b h1 h2=>?_,fun b hb=>?_,e.os.trans h.os,e.tape.trans h.tape,e.output.trans h.output,Nat.le_trans h.size e.size,fun b hb hR=>?_⟩
 ·have:=h.own k b h1 h2;exact ⟨by have:=e.size;omega,this.2⟩
 ·refine ⟨(hn b hb).2,by have:=(hn b hb).1;have:=h.size;omega,fun k hk hs=>?_⟩
  have:=(h.own k b hk hs).1;have:=(hn b hb).1;omega
 ·rw [e.old b (by have:=h.size;omega)];exact h.old b hb hR
end
end Go.Bm
