/- The typed machine that the walks of this claim go by: its data, its operations and the proof that each is sound. No condition. -/
import Derived.Test.YtgcfmnhbleipdaaGreatDoorBmTwo
import GoSem.ClaimJoined
import Derived.MapKept
import Derived.ChangeKeysEq
import Derived.Orders
set_option linter.unusedVariables false
set_option linter.unusedSimpArgs false
set_option linter.unusedSectionVars false
/- The du machine:calls. -/
namespace Go.Bm
open Go.RowKit
abbrev a1m:=@Nat.lt_or_ge
abbrev a4s:=@Array.getElem?_eq_none
abbrev a1o:=@Nat.lt_of_lt_of_le
abbrev a4t:=@Nat.lt_succ_self
abbrev a2i:=@List.cons_append
abbrev a2n:=@List.mem_append_right
abbrev a1t:=@List.mem_append_left
abbrev a4u:=@List.append_inj
abbrev a3b:=@if_false
abbrev a1u:=@Bool.true_and
abbrev a2w:=@Prod.ext
abbrev a4v:=@List.set_cons_zero
abbrev a3c:=@List.getElem_mem
abbrev a2o:=@List.map_append
abbrev a2j:=@List.map_nil
abbrev a23:=@Array.getElem?_eq_getElem
abbrev a3q:=@Oper.upon_enter
abbrev a5b:=@Value.pointer.injEq
abbrev a26:=@List.mem_cons_of_mem
abbrev a3r:=@Nat.sub_zero
abbrev a4a:=@Array.getElem?_append_left
abbrev a4b:=@Array.size_map
abbrev a3d:=@Array.getD_eq_getD_getElem?
abbrev a3e:=@Oper.wp_mono
abbrev a3f:=@List.mem_cons_self
abbrev a2x:=@getD_set_ne
abbrev a4w:=@of_decide_eq_true
abbrev a2y:=@Nat.blt_eq
abbrev a3s:=@mem_ready
abbrev a4c:=@List.not_mem_nil
abbrev a2d:=@List.mem_map
abbrev a3t:=@List.mem_filterMap
abbrev a4x:=@List.drop_eq_nil_of_le
abbrev a4d:=@List.drop_eq_getElem_cons
abbrev a3g:=@Array.mem_of_getElem?
abbrev a27:=@List.getElem?_take_of_lt
abbrev a28:=@Option.some.inj
def T.flat:T->Bool
 |.int _=>true
 |.bool=>true
 |.str=>true
 |.u=>true
 |.any=>true
 |.p a b=>nob a.flat b.flat
 |.fn _ t=>t.flat
 |.ifc _ t=>t.flat
 |.mp _ _=>false
 |.op _=>false
 |.ns _=>false
 |.er _=>true
 |.sl _=>false
 |.pt _=>false
def O.flat:O->Bool
 |.fz t=>t.flat
 |.p a b=>nob a.flat b.flat
 |.sl e=>e.flat
 |.pt o=>o.flat
 |.mp _ _=>true
 |.op e=>e.flat
def ajs:List (Bool×O)->Bool
 |[]=>true
 |q::r=>nob q.2.flat (ajs r)
theorem aac{Im Im':Nat->Prop}{w:World}:(t:T)->t.flat=true->(x:t.den)->(vs:List Value)->ai Im w t x vs->ai Im' w t x vs
 |.int _,_,_,_,r=>by simpa only [ai]using r
 |.bool,_,_,_,r=>by simpa only [ai]using r
 |.str,_,_,_,r=>by simpa only [ai]using r
 |.u,_,_,_,r=>by simpa only [ai]using r
 |.any,_,_,_,r=>by simpa only [ai]using r
 |.p a b,h,x,vs,r=>by simp only[T.flat,am,a0a]at h;simp only[ai]at r⊢;obtain⟨va,vb,h1,h2,h3⟩:=r;exact⟨va,vb,h1,aac a h.1 _ _ h2,aac b h.2 _ _ h3⟩
 |.fn f t,h,x,vs,r=>by simp only[T.flat]at h;simp only[ai]at r⊢;obtain⟨us,h1,h2⟩:=r;exact⟨us,h1,aac t h _ _ h2⟩
 |.ifc f t,h,x,vs,r=>by simp only[T.flat]at h;simp only[ai]at r⊢;obtain⟨u,h1,h2⟩:=r;exact⟨u,h1,aac t h _ _ h2⟩
 |.mp _ _,h,_,_,_=>by simp[T.flat]at h
 |.op _,h,_,_,_=>by simp[T.flat]at h
 |.ns _,h,_,_,_=>by simp[T.flat]at h
 |.er _,_,_,_,r=>by simpa only [ai]using r
 |.sl _,h,_,_,_=>by simp[T.flat]at h
 |.pt _,h,_,_,_=>by simp[T.flat]at h
theorem ub{Im Im':Nat->Prop}{w:World}:(o:O)->o.flat=true->(x:o.strip.den)->(S:Nat->Prop)->(vs:List Value)->Rel Im w o x S vs->Rel Im' w o x S vs
 |.fz t,h,x,S,vs,r=>by simp only[O.flat]at h;simp only[Rel]at r⊢;exact aac t h x vs r
 |.p a b,h,x,S,vs,r=>by simp only[O.flat,am,a0a]at h;simp only[Rel]at r⊢;obtain⟨va,vb,S1,S2,h1,h2,h3,h4,h5,h6⟩:=r;exact⟨va,vb,S1,S2,h1,h2,h3,h4,ub a h.1 _ _ _ h5,ub b h.2 _ _ _ h6⟩
 |.sl e,h,x,S,vs,r=>by simp only[O.flat]at h;simp only[Rel]at r⊢;obtain⟨v,ety,xs,T,h1,h2,h3,h4,h5,h6,h7⟩:=r;exact⟨v,ety,xs,T,h1,h2,h3,h4,h5,h6,fun i x hx=>ub e h _ _ _ (h7 i x hx)⟩
 |.pt o,h,x,S,vs,r=>by simp only[O.flat]at h;simp only[Rel]at r⊢;obtain⟨b,us,ty',S',h1,h2,h3,h4,h5⟩:=r;exact⟨b,us,ty',S',h1,h2,h3,h4,ub o h _ _ _ h5⟩
 |.op e,h,x,S,vs,r=>by simp only[O.flat]at h;simp only[Rel]at r⊢;exact⟨r.1,r.2.1,fun y hy=>ub e h _ _ _ (r.2.2 y hy)⟩
 |.mp k v,h,x,S,vs,r=>by simp only[Rel]at r⊢;exact r
def oi(A:Nat->Prop)(w:World):List Bool->(ts:List T)->dy ts->List Value->Prop
 |[],[],_,us=>us=[]
 |g::gs,t::ts,x,us=>∃u us' vs,us=u::us'/\(g=true->u=.agg (vs:List Value).toArray)/\(g=false->vs=[u])/\ai A w t x.1 vs/\oi A w gs ts x.2 us'
 |_,_,_,_=>False
def ji(Im:Nat->Prop)(w:World):(rs:List (Bool×O))->je rs->(Nat->Prop)->List Value->Prop
 |[],_,_,us=>us=[]
 |q::rs,x,S,us=>∃u us' vs,∃S1 S2:Nat->Prop,us=u::us'/\(q.1=true->u=.agg (vs:List Value).toArray)/\(q.1=false->vs=[u])/\(∀b,S1 b->S b)/\(∀b,S2 b->S b)/\(∀b,S1 b->¬S2 b)/\Rel Im w q.2 x.1 S1 vs/\ji Im w rs x.2 S2 us'
def nx:List Value->Value
 |[u]=>u
 |l=>.tuple l.toArray
def asx(P:Program)(f:FuncId):Prop:=∀args w,(callFunc f args).run P w=.ok (.enter f args) w
theorem tq {P : Program} {f : FuncId} {fn : Func} {c : Code} (hf : P.funcs[f]? = some fn) (hb : fn.body = some c) (hn : (fn.name == "runtime.NumGoroutine") = false) : asx P f := by
 intro args w;have h : ¬ fn.name = "runtime.NumGoroutine" := by simpa using hn
 simp[callFunc,hf,hb,h]
structure ExtS (w w':World) (T:Nat->Prop):Prop where
 os:w'.os=w.os
 tape:TD w' w
 output:w'.output=w.output
 size:w.heap.size<=w'.heap.size
 old:∀b,b<w.heap.size->¬T b->w'.heap[b]? = w.heap[b]?
def ErrG(P:Program)(A:Nat->Prop)(w:World):Prop:=
 ∀ g, P.globalNamed "errors.errorType" = some g -> A g /\ ∃ rt et, (P.cutTypes.find? (·.1 == "internal/reflectlite.rtype")).map (·.2) = some rt /\ et < P.types.size /\
  P.rowNamed et [101,114,114,111,114]=true/\w.cell? ⟨g,0,none⟩=some (.iface rt (.agg #[typeHandle P et]))
theorem azd{w w':World}{b:Nat}(h:w'.heap[b]? = w.heap[b]?):w'.cell? ⟨b,0,none⟩=w.cell? ⟨b,0,none⟩:=by simp only[World.cell?,h]
theorem cell_lt{w:World}{b:Nat}{v:Value}(h:w.cell? ⟨b,0,none⟩=some v):b<w.heap.size:=by
 rcases a1m b w.heap.size with h'|h'
 ·exact h'
 ·simp[World.cell?,a4s h']at h
theorem ErrG.of{P:Program}{A A':Nat->Prop}{w w':World}(h:ErrG P A w)(hA:∀b,A b->b<w.heap.size->A' b/\w'.heap[b]? = w.heap[b]?):ErrG P A' w':=fun g hg=>by obtain⟨h1,rt,et,h2,h3,h4,h5⟩:=h g hg;obtain⟨k1,k2⟩:=hA g h1 (cell_lt h5);exact⟨k1,rt,et,h2,h3,h4,by rw[azd k2];exact h5⟩
def MtOk(P:Program)(f:FuncId)(m:Mt):Prop:=
 m.o.flat=true/\∀(A:Nat->Prop) (w:World) (u:Value) (vs:List Value) (x:m.o.strip.den) (k:Int) (S:Nat->Prop),ErrG P A w->(∀b,S b->¬A b)->(m.g=true->u=.agg vs.toArray)->(m.g=false->vs=[u])->Rel (fun _=>False) w m.o x S vs->
  (∀b,S b->b<w.heap.size)->inK .i64 k->ab (m.pre x k)->
  Calls P f #[u,.int .i64 k] w fun e w'=>e=.returned (.int .i64 (m.res x k).2)/\ExtS w w' S/\inK .i64 (m.res x k).2/\
   ∃S':Nat->Prop,Rel (fun _=>False) w' m.o (m.res x k).1 S' vs/\∀b,S' b->S b\/w.heap.size<=b/\b<w'.heap.size
def bhe(P:Program)(f:FuncId)(W:Wt):Prop:=
 ∀(A:Nat->Prop) (w:World) (u:Value) (x:W.o.strip.den) (us:List Value) (y:dy W.as) (S:Nat->Prop),ErrG P A w->(∀b,A b->b<w.heap.size)->(∀b,S b->b<w.heap.size/\¬A b)->
  Rel (fun b=>A b) w W.o x S [u]->oi A w W.ag W.as y us->ab (W.pre x y)->
  Calls P f (u::us).toArray w fun e w'=>∃rs R S',e=.returned (nx rs)/\ExtS w w' S/\(∀b,R b->w.heap.size<=b/\b<w'.heap.size)/\(∀b,S' b->(S b\/w.heap.size<=b/\b<w'.heap.size)/\¬R b)/\
   Rel (fun b=>b<w'.heap.size/\(A b\/S b\/w.heap.size<=b)/\¬S' b/\¬R b) w' W.o (W.new x y) S' [u]/\
   ji (fun b=>b<w'.heap.size/\(A b\/S b\/w.heap.size<=b)/\¬S' b/\¬R b) w' W.rt (W.res x y) R rs
def AlR(w:World)(u:Value):T->List Value->Prop
 |.pt t,vs=>aj2 t=true->∃b o,vs=[.pointer (some ⟨b,o,none⟩)]/\oy w b o [u]
 |.p a b,vs=>∃va vb,vs=va++vb/\va.length=a.size/\AlR w u a va/\AlR w u b vb
 |.fn f t,vs=>∃us:List Value,vs=[.func (.func f) #[] us.toArray]/\AlR w u t us
 |_,_=>True
def AlL(w:World)(u:Value):List T->List Value->Prop
 |t::ts,v::vs=>AlR w u t [v]/\AlL w u ts vs
 |_,_=>True
def bmq(P:Program)(f:FuncId)(W:Wa):Prop:=
 ∀(A:Nat->Prop) (w:World) (u v:Value) (x:W.o.strip.den) (us:List Value) (y:dy W.as) (S:Nat->Prop),ErrG P A w->(∀b,A b->b<w.heap.size)->(∀b,S b->b<w.heap.size/\¬A b)->
  Rel (fun b=>A b) w W.o x S [u]->Adr (fun _=>u) [(0,⟨W.o,x⟩)] w 0 W.way v->oi A w (aaa W.as) W.as y us->AlL w u W.as us->ab (W.pre x y)->
  Calls P f (v::us).toArray w fun e w'=>∃S',e=.returned (nx [])/\ExtS w w' S/\(∀b,S' b->S b\/w.heap.size<=b/\b<w'.heap.size)/\
   Rel (fun b=>b<w'.heap.size/\(A b\/S b\/w.heap.size<=b)/\¬S' b) w' W.o (W.new x y) S' [u]
def AnF(A:Nat->Prop)(w:World)(u:Value):(t:T)->t.den->List Value->Prop
 |.any,_,vs=>vs=[u]
 |.p a b,x,vs=>∃va vb,vs=va++vb/\AnF A w u a x.1 va/\AnF A w u b x.2 vb
 |.fn f t,x,vs=>∃us:List Value,vs=[.func (.func f) #[] us.toArray]/\AnF A w u t x us
 |t,x,vs=>ai A w t x vs
def yo(A:Nat->Prop)(w:World)(u:Value):List Bool->(ts:List T)->dy ts->List Value->Prop
 |[],[],_,us=>us=[]
 |true::gs,t::ts,x,us=>∃us' vs,us=.agg (vs:List Value).toArray::us'/\ai A w t x.1 vs/\yo A w u gs ts x.2 us'
 |false::gs,t::ts,x,us=>∃v us',us=v::us'/\AnF A w u t x.1 [v]/\yo A w u gs ts x.2 us'
 |_,_,_,_=>False
def bm6(P:Program)(f:FuncId)(W:Wc):Prop:=
 W.o.flat=true/\∀(A:Nat->Prop) (w:World) (u:Value) (x:W.o.strip.den) (us:List Value) (y:dy W.as) (S:Nat->Prop),ErrG P A w->(∀b,A b->b<w.heap.size)->(∀b,S b->b<w.heap.size/\¬A b)->
  Rel (fun b=>A b) w W.o x S [u]->yo A w u W.ag W.as y us->ab (W.pre x y)->
  Calls P f us.toArray w fun e w'=>∃S',e=.returned (nx [])/\ExtS w w' S/\(∀b,S' b->S b\/w.heap.size<=b/\b<w'.heap.size)/\
   Rel (fun b=>b<w'.heap.size/\(A b\/S b\/w.heap.size<=b)/\¬S' b) w' W.o (W.new x y) S' [u]
def bdp(P:Program)(f:FuncId)(ct:Ct):Prop:=∀(A:Nat->Prop) (w:World) (us:List Value) (x:dy ct.args),ErrG P A w->(∀b,A b->b<w.heap.size)->oi A w ct.ga ct.args x us->ab (ct.pre x)->
  Calls P f us.toArray w fun e w'=>∃rs S,e=.returned (nx rs)/\Ext w w'/\(∀b,S b->w.heap.size<=b/\b<w'.heap.size)/\
   ji (fun b=>b<w'.heap.size/\(ct.sh=true/\A b\/w.heap.size<=b)/\¬S b) w' ct.rt (ct.res x) S rs
def bn(P:Program)(f:FuncId)(ct:Ct):Prop:=
 asx P f/\match ct.mu with
 |some (.m m)=>MtOk P f m
 |some (.w W)=>bhe P f W
 |some (.a W)=>bmq P f W
 |some (.c W)=>bm6 P f W
 |some (.s s)=>bdp P f (ti s true)/\bdp P f (ti s false)
 |none=>bdp P f ct
def z7(P:Program)(Φ:FuncId->Option Ct):Prop:=∀f ct,Φ f=some ct->bn P f ct
def agl(P:Program)(F:Fr):Prop:=ErrG P (fun b=>F.A b/\¬F.RR b) F.w0
def si(P:Program)(F:Fr)(Φ:FuncId->Option Ct):Prop:=z7 P Φ/\agl P F
section
variable {F:Fr} {p p' p'':Ow} {env:Env} {M M' M'':Mem} {a:Act} {w w' w'':World} {P:Program} {B:Tab}
def All(F:Fr)(w:World):Nat->Prop:=fun b=>b<w.heap.size/\(F.A b\/F.RR b\/F.w0.heap.size<=b)
theorem axb{b:Nat}(h:Imm F p M w b):All F w b:=⟨h.1,h.2.1⟩
theorem bgi(hp:Hp F p M w){k b:Nat}(hl:bt M k)(h:p.σ k b):All F w b:=by obtain⟨h1,h2⟩:=hp.own k b hl h;exact⟨h1,h2.elim (fun h=>.inr (.inl h.2)) (fun h=>.inr (.inr h))⟩
theorem lx(hp:Hp F p M w){A:Nat->Prop}{N:Mem}(hN:∀j ob,go N j=some ob->go M j=some ob)(hI:∀b,Imm F p M w b->A b)(hW:∀j b,bt N j->p.σ j b->A b):(v:V)->(t:T)->(vs:List Value)->(x:t.den)->aa p.β M (Imm F p M w) w v vs->v.view N t=some x->ai A w t x vs
 |.d s y,t,vs,x,r,h=>by simp only[aa]at r;simp only[V.view]at h;exact ai.keep (fun b hb=>⟨hI b hb,rfl⟩) _ _ _ (ah0 h r)
 |.p a b,.p t s,vs,x,r,h=>by
  simp only[aa]at r;simp only[V.view]at h;split at h
  ·rename_i y z hy hz;cases h;obtain⟨va,vb,h1,h2,h3⟩:=r;simp only[ai];exact⟨va,vb,h1,lx hp hN hI hW a t va y h2 hy,lx hp hN hI hW b s vb z h3 hz⟩
  ·cases h
 |.nl,.sl _,vs,x,r,h=>by simp only[aa]at r;simp only[V.view,a0d]at h;subst h;simp only[ai];obtain⟨oa,r⟩:=r;exact⟨oa,0,r,⟨a09 _,a0f _⟩,fun _=>⟨rfl,rfl⟩,fun a ha hpos=>absurd hpos (a31 0)⟩
 |.u,.u,vs,x,r,h=>by simp only[aa]at r;simp only[ai];exact r
 |.np,.any,vs,x,r,h=>by simp only[aa]at r;simp only[ai];exact⟨_,r,rfl⟩
 |.bx v,.pt t,vs,x,r,h=>by simp only[V.view]at h;simp only[aa]at r;obtain⟨b,o,us,h1,h2,h3,h4⟩:=r;simp only[ai];exact⟨b,o,us,h1,hI _ h2,h3,lx hp hN hI hW v t us x h4 h⟩
 |.fn f v,.fn f' t,vs,x,r,h=>by
  simp only[aa]at r;simp only[V.view,ck]at h;split at h
  ·rename_i e;subst e;obtain⟨us,h1,h2⟩:=r;simp only[ai];exact⟨us,h1,lx hp hN hI hW v t us x h2 h⟩
  ·cases h
 |.ref k π,t,vs,x,r,h=>by
  simp only[aa]at r;have h':apl N k π t=some x:=by cases t <;> simpa only [V.view]using h
  unfold apl at h';split at h'
  ·rename_i q hq;obtain⟨ob,h0,h2⟩:=qc hq;have h1:=hN _ _ h0;obtain⟨ob',pl,k1,k2,k3,k4⟩:=r;rw[h1]at k1;cases k1;obtain⟨us,pl',S',e1,e2,e3,_⟩:=look hp h1 k2 h2;rw[e1]at k4;cases k4;exact ah0 h' (Rel.frz hI _ _ S' _ (fun b hb=>hW _ b (bo h0) (e2 b hb)) e3)
  ·cases h'
 |.ad k π,.pt t,vs,x,r,h=>by
  simp only[aa]at r;obtain⟨v,rfl,r⟩:=r;simp only[V.view,apl]at h;split at h
  ·rename_i q hq;obtain⟨ob,h0,h2⟩:=qc hq;have h1:=hN _ _ h0;obtain⟨ob',us0,b0,off0,k1,k2,k3,k4,k5,rfl⟩:=r;rw[h1]at k1;cases k1;obtain⟨us,pl',S',e1,e2,e3,e4,_⟩:=look hp h1 k2 h2;rw[e1]at k5;simp only[a0d,a0j]at k5;obtain⟨rfl,rfl⟩:=k5;obtain⟨b,off,cur,ty',c1,c2,c3,c4,c5⟩:=e4 k4;simp only[a0d,a0j]at c1;obtain⟨rfl,rfl⟩:=c1;have:=ah0 h (Rel.frz hI _ _ S' _ (fun b hb=>hW _ b (bo h0) (e2 b hb)) e3);simp only[ai];exact⟨b0,off0,us,rfl,hW _ b0 (bo h0) c2,fun j u hu=>by rw[a19 w b0 _ cur ty' (0,0) c4];exact c5 j u hu,this⟩
  ·cases h
 |.p _ _,.int _,_,_,_,h=>by simp[V.view]at h
 |.p _ _,.bool,_,_,_,h=>by simp[V.view]at h
 |.p _ _,.str,_,_,_,h=>by simp[V.view]at h
 |.p _ _,.u,_,_,_,h=>by simp[V.view]at h
 |.p _ _,.sl _,_,_,_,h=>by simp[V.view]at h
 |.p _ _,.pt _,_,_,_,h=>by simp[V.view]at h
 |.p _ _,.fn _ _,_,_,_,h=>by simp[V.view]at h
 |.p _ _,.any,_,_,_,h=>by simp[V.view]at h
 |.nl,.int _,_,_,_,h=>by simp[V.view]at h
 |.nl,.bool,_,_,_,h=>by simp[V.view]at h
 |.nl,.str,_,_,_,h=>by simp[V.view]at h
 |.nl,.u,_,_,_,h=>by simp[V.view]at h
 |.nl,.p _ _,_,_,_,h=>by simp[V.view]at h
 |.nl,.pt _,_,_,_,h=>by simp[V.view]at h
 |.nl,.fn _ _,_,_,_,h=>by simp[V.view]at h
 |.nl,.any,_,_,_,h=>by simp[V.view]at h
 |.u,.int _,_,_,_,h=>by simp[V.view]at h
 |.u,.bool,_,_,_,h=>by simp[V.view]at h
 |.u,.str,_,_,_,h=>by simp[V.view]at h
 |.u,.sl _,_,_,_,h=>by simp[V.view]at h
 |.u,.p _ _,_,_,_,h=>by simp[V.view]at h
 |.u,.pt _,_,_,_,h=>by simp[V.view]at h
 |.u,.fn _ _,_,_,_,h=>by simp[V.view]at h
 |.u,.any,_,_,_,h=>by simp[V.view]at h
 |.np,.int _,_,_,_,h=>by simp[V.view]at h
 |.np,.bool,_,_,_,h=>by simp[V.view]at h
 |.np,.str,_,_,_,h=>by simp[V.view]at h
 |.np,.sl _,_,_,_,h=>by simp[V.view]at h
 |.np,.p _ _,_,_,_,h=>by simp[V.view]at h
 |.np,.pt _,_,_,_,h=>by simp[V.view]at h
 |.np,.fn _ _,_,_,_,h=>by simp[V.view]at h
 |.np,.u,_,_,_,h=>by simp[V.view]at h
 |.fn _ _,.int _,_,_,_,h=>by simp[V.view]at h
 |.fn _ _,.bool,_,_,_,h=>by simp[V.view]at h
 |.fn _ _,.str,_,_,_,h=>by simp[V.view]at h
 |.fn _ _,.sl _,_,_,_,h=>by simp[V.view]at h
 |.fn _ _,.p _ _,_,_,_,h=>by simp[V.view]at h
 |.fn _ _,.pt _,_,_,_,h=>by simp[V.view]at h
 |.fn _ _,.u,_,_,_,h=>by simp[V.view]at h
 |.fn _ _,.any,_,_,_,h=>by simp[V.view]at h
 |.bx _,.int _,_,_,_,h=>by simp[V.view]at h
 |.bx _,.bool,_,_,_,h=>by simp[V.view]at h
 |.bx _,.str,_,_,_,h=>by simp[V.view]at h
 |.bx _,.sl _,_,_,_,h=>by simp[V.view]at h
 |.bx _,.p _ _,_,_,_,h=>by simp[V.view]at h
 |.bx _,.fn _ _,_,_,_,h=>by simp[V.view]at h
 |.bx _,.u,_,_,_,h=>by simp[V.view]at h
 |.bx _,.any,_,_,_,h=>by simp[V.view]at h
 |.ad _ _,.int _,_,_,_,h=>by simp[V.view]at h
 |.ad _ _,.bool,_,_,_,h=>by simp[V.view]at h
 |.ad _ _,.str,_,_,_,h=>by simp[V.view]at h
 |.ad _ _,.u,_,_,_,h=>by simp[V.view]at h
 |.ad _ _,.p _ _,_,_,_,h=>by simp[V.view]at h
 |.ad _ _,.sl _,_,_,_,h=>by simp[V.view]at h
 |.ad _ _,.fn _ _,_,_,_,h=>by simp[V.view]at h
 |.ad _ _,.any,_,_,_,h=>by simp[V.view]at h
 |.any,_,_,_,_,h=>by simp[V.view]at h
 |.ag _,_,_,_,r,h=>by simp[V.view]at h
 |.tup _,_,_,_,r,h=>by simp[V.view]at h
 |.gd _ _ _ _,_,_,_,r,h=>by simp[V.view]at h
 |.ifc f v,.ifc f' t,vs,x,r,h=>by
  simp only[aa]at r;simp only[V.view,ck]at h;split at h
  ·rename_i e;subst e;obtain⟨u,h1,h2⟩:=r;simp only[ai];exact⟨u,h1,lx hp hN hI hW v t [u] x h2 h⟩
  ·cases h
 |.ifc _ _,.int _,_,_,_,h=>by simp[V.view]at h
 |.ifc _ _,.bool,_,_,_,h=>by simp[V.view]at h
 |.ifc _ _,.str,_,_,_,h=>by simp[V.view]at h
 |.ifc _ _,.sl _,_,_,_,h=>by simp[V.view]at h
 |.ifc _ _,.p _ _,_,_,_,h=>by simp[V.view]at h
 |.ifc _ _,.pt _,_,_,_,h=>by simp[V.view]at h
 |.ifc _ _,.u,_,_,_,h=>by simp[V.view]at h
 |.ifc _ _,.any,_,_,_,h=>by simp[V.view]at h
 |.ifc _ _,.fn _ _,_,_,_,h=>by simp[V.view]at h
theorem bq1(hp:Hp F p M w)(v:V)(t:T)(vs:List Value)(x:t.den)(r:aa p.β M (Imm F p M w) w v vs)(h:v.view M t=some x):ai (All F w) w t x vs:=lx hp (fun _ _ h=>h) (fun _ h=>axb h) (fun _ _ hl h=>bgi hp hl h) v t vs x r h
theorem alv(hG:agl P F)(hp:Hp F p M w)(hL:∀b,¬p.L b):ErrG P (Imm F p M w) w:=hG.of fun b hb hl=>⟨⟨a1o hl hp.size,.inl hb.1,hL b,fun k hk hs=>by
  rcases (hp.own k b hk hs).2 with h|h
  ·exact hb.2 h.2
  ·omega⟩,hp.old b hl hb.2⟩
theorem bq6(hG:agl P F)(hp:Hp F p M w):ErrG P (All F w) w:=hG.of fun b hb hl=>⟨⟨a1o hl hp.size,.inl hb.1⟩,hp.old b hl hb.2⟩
theorem xn(hp:Hp F p M w){v:V}{u:Value}(h:ah p.β M (Imm F p M w) w v u)(hc:kw v=true):∃vs:List Value,(qd v=true->u=.agg vs.toArray)/\(qd v=false->vs=[u])/\aa p.β M (Imm F p M w) w v.cells vs:=by
 have hcc:=ad5 hp h hc;refine⟨u.cells.toList,fun ha=>?_,fun ha=>?_,hcc⟩
 ·cases v <;> simp[qd]at ha;simp only[ah]at h;obtain⟨vs,rfl,_⟩:=h;simp[Value.cells]
 ·have key:aa p.β M (Imm F p M w) w v [u]->u.cells.toList=[u]:=fun r=>by rw[az0 (aa.one hp v _ r u (by simp))]
  cases v with
  |any=>cases hc
  |tup _=>cases hc
  |gd _ _ _ _=>cases hc
  |ifc _ _=>exact key (by simpa only [ah]using h)
  |ag y=>cases ha
  |p a b=>exact key (by simpa only [ah]using h)
  |u=>exact key (by simpa only [ah]using h)
  |ref k π=>exact key (by simpa only [ah]using h)
  |ad k π=>exact key (by simpa only [ah]using h)
  |d t y=>exact key (by simpa only [ah]using h)
  |nl=>exact key (by simpa only [ah]using h)
  |np=>exact key (by simpa only [ah]using h)
  |fn f y=>exact key (by simpa only [ah]using h)
  |bx y=>exact key (by simpa only [ah]using h)
theorem acn{v:V}{t:T}{x:t.den}(h:v.cells.view M t=some x):kw v=true:=by cases v <;> first|rfl|(exfalso;revert h;cases t <;> simp[V.cells,V.view])
theorem ae1{v:V}{t:T}{x:t.den}(h:v.cells.as t=some x):kw v=true:=by cases v <;> first|rfl|(exfalso;revert h;cases t <;> simp[V.cells,V.as])
theorem aeg{v:V}{r:List V}{g:Bool}{gs:List Bool}(h:shp (v::r) (g::gs)=true):qd v=g/\shp r gs=true:=by simp only[shp]at h;cases ha:qd v <;> cases g <;> simp[ha]at h⊢ <;> exact h
theorem bdw(hp:Hp F p M w):(vs:List V)->(gs:List Bool)->(ts:List T)->(x:dy ts)->(us:List Value)->us.length=vs.length->(∀(i:Nat) v u,vs[i]? = some v->us[i]? = some u->ah p.β M (Imm F p M w) w v u)->shp vs gs=true->v6 M vs ts=some x->oi (All F w) w gs ts x us
 |[],[],[],x,us,hl,_,_,h=>by simp only[oi];exact a11 (by simpa using hl)
 |[],_::_,_,x,us,hl,_,hs,h=>by simp[shp]at hs
 |[],[],_::_,x,us,hl,_,hs,h=>by simp[v6]at h
 |_::_,[],_,x,us,hl,_,hs,h=>by simp[shp]at hs
 |_::_,_::_,[],x,us,hl,_,hs,h=>by simp[v6]at h
 |v::r,g::gs,t::ts,x,us,hl,hr,hs,h=>by
  simp only[v6]at h;split at h
  ·rename_i y z hy hz;cases h
   cases us with
   |nil=>simp at hl
   |cons u us=>obtain⟨s1,s2⟩:=aeg hs;obtain⟨cs,c1,c2,c3⟩:=xn hp (hr 0 v u rfl rfl) (acn hy);simp only[oi];exact⟨u,us,cs,rfl,fun hg=>c1 (s1.trans hg),fun hg=>c2 (s1.trans hg),bq1 hp _ _ _ _ c3 hy,bdw hp r gs ts z us (by simpa using hl) (fun i v' u' hv' hu'=>hr (i+1) v' u' (by simpa using hv') (by simpa using hu')) s2 hz⟩
  ·cases h
theorem avm(hp:Hp F p M w):(vs:List V)->(gs:List Bool)->(ts:List T)->(x:dy ts)->(us:List Value)->us.length=vs.length->(∀(i:Nat) v u,vs[i]? = some v->us[i]? = some u->ah p.β M (Imm F p M w) w v u)->shp vs gs=true->asL vs ts=some x->oi (Imm F p M w) w gs ts x us
 |[],[],[],x,us,hl,_,_,h=>by simp only[oi];exact a11 (by simpa using hl)
 |[],_::_,_,x,us,hl,_,hs,h=>by simp[shp]at hs
 |[],[],_::_,x,us,hl,_,hs,h=>by simp[asL]at h
 |_::_,[],_,x,us,hl,_,hs,h=>by simp[shp]at hs
 |_::_,_::_,[],x,us,hl,_,hs,h=>by simp[asL]at h
 |v::r,g::gs,t::ts,x,us,hl,hr,hs,h=>by
  simp only[asL]at h;split at h
  ·rename_i y z hy hz;cases h
   cases us with
   |nil=>simp at hl
   |cons u us=>obtain⟨s1,s2⟩:=aeg hs;obtain⟨cs,c1,c2,c3⟩:=xn hp (hr 0 v u rfl rfl) (ae1 hy);simp only[oi];exact⟨u,us,cs,rfl,fun hg=>c1 (s1.trans hg),fun hg=>c2 (s1.trans hg),aai _ _ _ _ c3 hy,avm hp r gs ts z us (by simpa using hl) (fun i v' u' hv' hu'=>hr (i+1) v' u' (by simpa using hv') (by simpa using hu')) s2 hz⟩
  ·cases h
theorem bqx(e:Ev)(v:V):qd (v.ev e)=qd v:=by
 cases v with
 |ref k π=>
  have hx:∀t x,qd (kg t x)=false:=fun t x=>by cases t <;> rfl
  cases e <;> simp only[V.ev,Ev.ref,ck] <;> split <;> first|rfl|(split <;> first|rfl|exact hx _ _)|(cases w8 π <;> rfl)|(rename_i o o' _;cases orb (w8 π) (bap (trk π o) (trk π o')) <;> rfl)
 |ad k π=>cases e <;> simp only[V.ev,Ev.ad,ck] <;> split <;> first|rfl|(split <;> rfl)|(rename_i o o' _;cases y7 (qu π o) (qu π o') <;> rfl)
 |_=>rfl
theorem bc8(v:V):∀e:List Ev,qd (v.evs e)=qd v
 |[]=>rfl
 |x::e=>by simp only[V.evs];rw[bc8 _ e,bqx]
theorem aqp(e:List Ev):∀(vs:List V) (gs:List Bool),shp (rn e vs) gs=shp vs gs
 |[],[]=>rfl
 |[],_::_=>rfl
 |_::_,[]=>rfl
 |v::r,g::gs=>by simp only[rn,shp,bc8];rw[aqp e r gs]
theorem be8{d i j:Nat}(h:cid d i=cid d j):i=j:=by unfold cid at h;exact Nat.add_left_cancel h
structure Ad (F:Fr) (p:Ow) (M:Mem) (w:World) (d n j j':Nat) (S:Nat->Prop) (N:Mem) (p':Ow):Prop where
 le:j<=j'
 fr:∀i,j'<=i->i<n->go (ap N M) (cid d i)=none
 keys:∀k∈cc N,∃i,j<=i/\i<j'/\k=cid d i
 tr:Tr F p M w [] p' (ap N M) w
 L:∀b,p'.L b<->p.L b/\¬S b
 old:∀i ob,go M i=some ob->go (ap N M) i=some ob/\p'.β i=p.β i/\p'.σ i=p.σ i
theorem Ad.one(h:Hp F p M w)(d n j:Nat)(hjn:j<n){S:Nat->Prop}{ob:Ob}{u:Value}(hfr:∀i,j<=i->i<n->go M (cid d i)=none)(hr:Rel (Imm F p M w) w ob.o ob.x S [u])(hS:∀b,S b->p.L b) :
  Ad F p M w d n j (Nat.succ j) S [(cid d j,ob)] (p.updL (cid d j) u S fun b=>p.L b/\¬S b):=by
 refine⟨a2v j,fun i hi hin=>?_,fun k hk=>⟨j,a0f _,a4t _,by simpa[cc]using hk⟩,?_,fun b=>a2l,fun i o hi=>?_⟩
 ·have hne:cid d j≠cid d i:=fun e=>by have:=be8 e;subst this;exact a31 _ hi
  simp only[ap];rw[c8,ds hne];exact hfr i (by exact Nat.le_of_succ_le hi) hin
 ·simp only[ap];exact Tr.newL h _ (hfr j (a0f _) hjn) u S _ ob ⟨rfl,⟨rfl,a0f _⟩,rfl,a0f _,fun _ _ _=>rfl⟩ (fun b hb=>hb) (fun b hb=>.inr (hS b hb)) (fun hkp=>Rel.keep hkp _ _ _ _ (fun _ _=>rfl) hr)
 ·have hne:i≠cid d j:=by rintro rfl;rw[hfr j (a0f _) hjn]at hi;cases hi
  refine⟨by simp only[ap];rw[c8,ds (a0w hne)];exact hi,by simp[Ow.updL,hne],by simp[Ow.updL,hne]⟩
theorem Ad.none(h:Hp F p M w)(d n j:Nat)(S:Nat->Prop)(hfr:∀i,j<=i->i<n->go M (cid d i)=none):Ad F p M w d n j j S [] ⟨p.β,p.σ,fun b=>p.L b/\¬S b⟩:=⟨a0f _,hfr,fun k hk=>by simp[cc]at hk,Tr.drop h _ (fun b hb=>hb.1),fun b=>a2l,fun i ob hi=>⟨hi,rfl,rfl⟩⟩
theorem amg:∀(N N':Mem),cc (ap N N')=cc N++cc N'
 |[],N'=>rfl
 |(k,_)::N,N'=>by simp only[ap,cc,amg N N',a2i]
theorem atd{α:Type}(a b c:List α):ap (ap a b) c=ap a (ap b c):=by simp only[ic,a07]
theorem Ad.two{d n j j' j'':Nat}{S S1 S2:Nat->Prop}{N N':Mem}(h1:Ad F p M w d n j j' S1 N p')(h2:Ad F p' (ap N M) w d n j' j'' S2 N' p'')(hS1:∀b,S1 b->S b)(hS2:∀b,S2 b->S b) :
  Ad F p M w d n j j'' S (ap N' N) ⟨p''.β,p''.σ,fun b=>p''.L b/\¬S b⟩:=by
 have hap:ap (ap N' N) M=ap N' (ap N M):=atd _ _ _;refine⟨a08 h1.le h2.le,fun i hi hin=>by rw[hap];exact h2.fr i hi hin,fun k hk=>?_,?_,fun b=>?_,fun i ob hi=>?_⟩
 ·rw[amg]at hk;rcases a04.1 hk with hk|hk
  ·obtain⟨i,a1,a2,a3⟩:=h2.keys k hk;exact⟨i,a08 h1.le a1,a2,a3⟩
  ·obtain⟨i,a1,a2,a3⟩:=h1.keys k hk;exact⟨i,a1,a1o a2 h2.le,a3⟩
 ·rw[hap];exact h1.tr.trans (h2.tr.trans (Tr.drop h2.tr.hp _ (fun b hb=>hb.1)))
 ·show p''.L b/\¬S b<->_;rw[h2.L,h1.L];constructor
  ·rintro⟨⟨⟨a1,_⟩,_⟩,a2⟩;exact⟨a1,a2⟩
  ·rintro⟨a1,a2⟩;exact⟨⟨⟨a1,fun h=>a2 (hS1 b h)⟩,fun h=>a2 (hS2 b h)⟩,a2⟩
 ·obtain⟨a1,a2,a3⟩:=h1.old i ob hi;obtain⟨b1,b2,b3⟩:=h2.old i ob a1;exact⟨by rw[hap];exact b1,b2.trans a2,b3.trans a3⟩
theorem aqx(d:Nat):(o:O)->(j:Nat)->(x:o.strip.den)->j<=(fo d j o x).2.2/\∀i,j<=i->i<(fo d j o x).2.2->cid d i∈cc (fo d j o x).2.1
 |.fz t,j,x=>by simp only[fo];exact⟨a0f _,fun i h1 h2=>by omega⟩
 |.sl e,j,x=>by simp only[fo];exact⟨a2v _,fun i h1 h2=>by (have:i=j:=by omega);subst this;simp[cc]⟩
 |.pt e,j,x=>by simp only[fo];exact⟨a2v _,fun i h1 h2=>by (have:i=j:=by omega);subst this;simp[cc]⟩
 |.mp k v,j,x=>by simp only[fo];exact⟨a2v _,fun i h1 h2=>by (have:i=j:=by omega);subst this;simp[cc]⟩
 |.op e,j,x=>by simp only[fo];exact⟨a0f _,fun i h1 h2=>by omega⟩
 |.p a b,j,x=>by
  obtain⟨a1,a2⟩:=aqx d a j x.1;simp only[fo];generalize fo d j a x.1=q1 at a1 a2⊢;obtain⟨v1,N1,j1⟩:=q1;simp only at a1 a2⊢;obtain⟨b1,b2⟩:=aqx d b j1 x.2;generalize fo d j1 b x.2=q2 at b1 b2⊢;obtain⟨v2,N2,j2⟩:=q2;simp only at b1 b2⊢;refine⟨a08 a1 b1,fun i h1 h2=>?_⟩;rw[amg];by_cases h:i<j1
  ·exact a2n _ (a2 i h1 h)
  ·exact a1t _ (b2 i (by omega) h2)
theorem aqe(d:Nat):(rs:List (Bool×O))->(j:Nat)->(x:je rs)->j<=(newL d j rs x).2.2/\∀i,j<=i->i<(newL d j rs x).2.2->cid d i∈cc (newL d j rs x).2.1
 |[],j,x=>by simp only[newL];exact⟨a0f _,fun i h1 h2=>by omega⟩
 |q::rs,j,x=>by
  obtain⟨a1,a2⟩:=aqx d q.2 j x.1;simp only[newL];generalize fo d j q.2 x.1=q1 at a1 a2⊢;obtain⟨v1,N1,j1⟩:=q1;simp only at a1 a2⊢;obtain⟨b1,b2⟩:=aqe d rs j1 x.2;generalize newL d j1 rs x.2=q2 at b1 b2⊢;obtain⟨v2,N2,j2⟩:=q2;simp only at b1 b2⊢;refine⟨a08 a1 b1,fun i h1 h2=>?_⟩;rw[amg];by_cases h:i<j1
  ·exact a2n _ (a2 i h1 h)
  ·exact a1t _ (b2 i (by omega) h2)
theorem axl(d n:Nat):(o:O)->(M:Mem)->(p:Ow)->(j:Nat)->(x:o.strip.den)->(S:Nat->Prop)->(vs:List Value)->Hp F p M w->Rel (Imm F p M w) w o x S vs->(∀b,S b->p.L b)->(fo d j o x).2.2<=n->(∀i,j<=i->i<n->go M (cid d i)=none)->
  ∃p',Ad F p M w d n j (fo d j o x).2.2 S (fo d j o x).2.1 p'/\aa p'.β (ap (fo d j o x).2.1 M) (Imm F p' (ap (fo d j o x).2.1 M) w) w (fo d j o x).1 vs
 |.fz t,M,p,j,x,S,vs,h,r,hS,hn,hfr=>by simp only[fo,ap];have ha:=Ad.none h d n j S hfr;refine⟨_,ha,fw t x vs ?_⟩;simp only[Rel]at r;exact ai.keep ha.tr.keep _ _ _ r
 |.op e,M,p,j,x,S,vs,h,r,hS,hn,hfr=>by simp only[fo,ap];have ha:=Ad.none h d n j S hfr;refine⟨_,ha,?_⟩;simp only[Rel]at r;simp only[aa];exact r.2.1
 |.sl e,M,p,j,x,S,vs,h,r,hS,hn,hfr=>by
  simp only[fo];obtain⟨u,rfl⟩:∃u,vs=[u]:=by simp only[Rel]at r;obtain⟨v,_,_,_,rfl,_⟩:=r;exact⟨v,rfl⟩
  have ha:=Ad.one (ob:=⟨.sl e,x⟩) h d n j (by simp only[fo]at hn;exact hn) hfr r hS;refine⟨_,ha,?_⟩;simp only[aa,ap];refine⟨⟨.sl e,x⟩,Option.none,lk _ _ _,by simp only[gok],⟨⟨.sl e,x⟩,by simp only[get]⟩,?_⟩;simp only[res,Ow.updL,a01]
 |.mp e e',M,p,j,x,S,vs,h,r,hS,hn,hfr=>by
  simp only[fo];obtain⟨u,rfl⟩:∃u,vs=[u]:=by simp only[Rel]at r;obtain⟨b,_,_,rfl,_⟩:=r;exact⟨_,rfl⟩
  have ha:=Ad.one (ob:=⟨.mp e e',x⟩) h d n j (by simp only[fo]at hn;exact hn) hfr r hS;refine⟨_,ha,?_⟩;simp only[aa,ap];refine⟨⟨.mp e e',x⟩,Option.none,lk _ _ _,by simp only[gok],⟨⟨.mp e e',x⟩,by simp only[get]⟩,?_⟩;simp only[res,Ow.updL,a01]
 |.pt o,M,p,j,x,S,vs,h,r,hS,hn,hfr=>by
  simp only[fo];obtain⟨b,us,ty',S',rfl,_⟩:∃b us ty' S',vs=[.pointer (some ⟨b,0,Option.none⟩)]/\S b/\w.heap[b]? = some (.cells (us:List Value).toArray ty' (0,0))/\(∀c,S' c->S c/\c≠b)/\Rel (Imm F p M w) w o x S' us:=by simp only[Rel]at r;exact r
  have ha:=Ad.one (ob:=⟨.pt o,x⟩) h d n j (by simp only[fo]at hn;exact hn) hfr r hS;refine⟨_,ha,?_⟩;simp only[aa,ap];refine⟨_,rfl,⟨.pt o,x⟩,cellsOf w b 0 o.size,b,0,lk _ _ _,by simp only[gok],⟨⟨o,x⟩,by simp only[get]⟩,rfl,?_,rfl⟩;simp only[res,Ow.updL,a01]
 |.p a b,M,p,j,x,S,vs,h,r,hS,hn,hfr=>by
  simp only[Rel]at r;obtain⟨va,vb,S1,S2,rfl,h1,h2,h3,ha,hb⟩:=r;have hle:=aqx d b (fo d j a x.1).2.2 x.2;simp only[fo]at hn;obtain⟨p1,a1,a2⟩:=axl d n a M p j x.1 S1 va h ha (fun c hc=>hS c (h1 c hc)) (a08 hle.1 hn) hfr;simp only[fo];generalize fo d j a x.1=q1 at a1 a2 hn hle⊢;obtain⟨v1,N1,j1⟩:=q1;simp only at a1 a2 hn hle⊢;obtain⟨p2,b1,b2⟩:=axl d n b (ap N1 M) p1 j1 x.2 S2 vb a1.tr.hp (Rel.keep a1.tr.keep _ _ _ _ (fun _ _=>rfl) hb) (fun c hc=>(a1.L c).2 ⟨hS c (h2 c hc),fun hc1=>h3 c hc1 hc⟩) hn a1.fr;generalize fo d j1 b x.2=q2 at b1 b2⊢;obtain⟨v2,N2,j2⟩:=q2;simp only at b1 b2⊢;have hc:=a1.two b1 h1 h2;refine⟨_,hc,?_⟩;have hd:=Tr.drop b1.tr.hp (fun b=>p2.L b/\¬S b) (fun b hb=>hb.1);rw[atd];simp only[aa];refine⟨va,vb,rfl,?_,?_⟩
  ·have:=(b1.tr.trans hd).c _ _ a2;simpa only [ap,V.evs]using this
  ·have:=hd.c _ _ b2;simpa only [V.evs]using this
theorem ayq(d n:Nat):(rs:List (Bool×O))->(M:Mem)->(p:Ow)->(j:Nat)->(x:je rs)->(S:Nat->Prop)->(us:List Value)->Hp F p M w->ji (Imm F p M w) w rs x S us->(∀b,S b->p.L b)->(newL d j rs x).2.2<=n->(∀i,j<=i->i<n->go M (cid d i)=none)->
  ∃p',Ad F p M w d n j (newL d j rs x).2.2 S (newL d j rs x).2.1 p'/\cf p'.β (ap (newL d j rs x).2.1 M) (Imm F p' (ap (newL d j rs x).2.1 M) w) w (newL d j rs x).1 us
 |[],M,p,j,x,S,us,h,r,hS,hn,hfr=>by simp only[ji]at r;simp only[newL,ap,cf];exact⟨_,Ad.none h d n j S hfr,r⟩
 |q::rs,M,p,j,x,S,us,h,r,hS,hn,hfr=>by
  simp only[ji]at r;obtain⟨u,us',vs,S1,S2,rfl,g1,g2,h1,h2,h3,ha,hb⟩:=r;have hle:=aqe d rs (fo d j q.2 x.1).2.2 x.2;simp only[newL]at hn;obtain⟨p1,a1,a2⟩:=axl d n q.2 M p j x.1 S1 vs h ha (fun c hc=>hS c (h1 c hc)) (a08 hle.1 hn) hfr;simp only[newL];generalize fo d j q.2 x.1=q1 at a1 a2 hn hle⊢;obtain⟨v1,N1,j1⟩:=q1;simp only at a1 a2 hn hle⊢
  have hbk:∀(rs:List (Bool×O)) (x:je rs) (S:Nat->Prop) (us:List Value),ji (Imm F p M w) w rs x S us->ji (Imm F p1 (ap N1 M) w) w rs x S us:=by
   intro rs
   induction rs with
   |nil=>intro x S us r;simpa only [ji]using r
   |cons q rs ih=>intro x S us r;simp only[ji]at r⊢;obtain⟨u,us',vs,S1,S2,e1,e2,e3,e4,e5,e6,e7,e8⟩:=r;exact⟨u,us',vs,S1,S2,e1,e2,e3,e4,e5,e6,Rel.keep a1.tr.keep _ _ _ _ (fun _ _=>rfl) e7,ih _ _ _ e8⟩
  obtain⟨p2,b1,b2⟩:=ayq d n rs (ap N1 M) p1 j1 x.2 S2 us' a1.tr.hp (hbk _ _ _ _ hb) (fun c hc=>(a1.L c).2 ⟨hS c (h2 c hc),fun hc1=>h3 c hc1 hc⟩) hn a1.fr;generalize newL d j1 rs x.2=q2 at b1 b2⊢;obtain⟨v2,N2,j2⟩:=q2;simp only at b1 b2⊢;have hc:=a1.two b1 h1 h2;refine⟨_,hc,?_⟩;have hd:=Tr.drop b1.tr.hp (fun b=>p2.L b/\¬S b) (fun b hb=>hb.1);rw[atd];simp only[cf];refine⟨u,us',rfl,?_,?_⟩
  ·have h4:=(b1.tr.trans hd).c _ _ a2;simp only[ap,V.evs]at h4
   cases hq:q.1 with
   |true=>simp only[xd,a0c,ah];exact⟨vs,g1 hq,h4⟩
   |false=>have:=g2 hq;subst this;simp only[xd,a0g];exact a7 h4
  ·have hT:∀(v:V) (us:List Value),cf p2.β (ap N2 (ap N1 M)) (Imm F p2 (ap N2 (ap N1 M)) w) w v us->cf p2.β (ap N2 (ap N1 M)) (Imm F ⟨p2.β,p2.σ,fun b=>p2.L b/\¬S b⟩ (ap N2 (ap N1 M)) w) w v us:=fun v us r=>by
    have h5:ah p2.β (ap N2 (ap N1 M)) (Imm F p2 (ap N2 (ap N1 M)) w) w (.tup v) (.tuple us.toArray):=by simp only[ah];exact⟨us,rfl,r⟩
    have h6:=hd.s _ _ h5;simp only[V.evs,ah,Value.tuple.injEq]at h6;obtain⟨us',e1,e2⟩:=h6;have:us=us':=by simpa using congrArg Array.toList e1
    rw[this];exact e2
   exact hT _ _ b2
end
end Go.Bm
/- The du machine:calls that write what they are handed. -/
namespace Go.Bm
open Go.RowKit
theorem bi7(a b:V):∀e:List Ev,(V.p a b).evs e=.p (a.evs e) (b.evs e)
 |[]=>rfl
 |x::e=>by simp only[V.evs,V.ev];exact bi7 _ _ e
theorem bme(a:V):∀e:List Ev,(V.ag a).evs e=.ag (a.evs e)
 |[]=>rfl
 |x::e=>by simp only[V.evs,V.ev];exact bme _ e
theorem bey(a:V):∀e:List Ev,(V.tup a).evs e=.tup (a.evs e)
 |[]=>rfl
 |x::e=>by simp only[V.evs,V.ev];exact bey _ e
theorem bly(j:Nat)(b:Bool)(P:Prop)(a:V):∀e:List Ev,(V.gd j b P a).evs e=.gd j b P (a.evs e)
 |[]=>rfl
 |x::e=>by simp only[V.evs,V.ev];exact bly j b P _ e
theorem bma(f:FuncId)(a:V):∀e:List Ev,(V.fn f a).evs e=.fn f (a.evs e)
 |[]=>rfl
 |x::e=>by simp only[V.evs,V.ev];exact bma f _ e
theorem be5(t:TypeId)(a:V):∀e:List Ev,(V.ifc t a).evs e=.ifc t (a.evs e)
 |[]=>rfl
 |x::e=>by simp only[V.evs,V.ev];exact be5 t _ e
theorem blo(a:V):∀e:List Ev,(V.bx a).evs e=.bx (a.evs e)
 |[]=>rfl
 |x::e=>by simp only[V.evs,V.ev];exact blo _ e
theorem bh1:∀e:List Ev,V.u.evs e=.u
 |[]=>rfl
 |x::e=>by simp only[V.evs,V.ev];exact bh1 e
theorem alc:∀e:List Ev,V.any.evs e=.any
 |[]=>rfl
 |x::e=>by simp only[V.evs,V.ev];exact alc e
theorem bk2:∀e:List Ev,V.nl.evs e=.nl
 |[]=>rfl
 |x::e=>by simp only[V.evs,V.ev];exact bk2 e
theorem bkj:∀e:List Ev,V.np.evs e=.np
 |[]=>rfl
 |x::e=>by simp only[V.evs,V.ev];exact bkj e
theorem bo6(t:T)(y:t.den):∀e:List Ev,(V.d t y).evs e=.d t y
 |[]=>rfl
 |x::e=>by simp only[V.evs,V.ev];exact bo6 t y e
section
variable {β β':Nat->Value} {M M':Mem} {Im Im':Nat->Prop} {w w':World}
theorem aa.evs{e:List Ev}(hk:gn Im Im' w w')(href:∀k π vs,Ref β M w k π vs->aa β' M' Im' w' ((V.ref k π).evs e) vs)(had:∀k π v,Adr β M w k π v->aa β' M' Im' w' ((V.ad k π).evs e) [v]) :
  (x:V)->(vs:List Value)->aa β M Im w x vs->aa β' M' Im' w' (x.evs e) vs
 |.p a b,vs,r=>by rw[bi7];simp only[aa]at r⊢;obtain⟨va,vb,h1,h2,h3⟩:=r;exact⟨va,vb,h1,aa.evs hk href had a va h2,aa.evs hk href had b vb h3⟩
 |.u,vs,r=>by rw[bh1];simpa only [aa]using r
 |.ref k π,vs,r=>by simp only[aa]at r;exact href k π vs r
 |.ad k π,vs,r=>by simp only[aa]at r;obtain⟨v,rfl,h⟩:=r;exact had k π v h
 |.d t x,vs,r=>by rw[bo6];simp only[aa]at r⊢;exact ai.keep hk t x vs r
 |.nl,vs,r=>by rw[bk2];simpa only [aa]using r
 |.np,vs,r=>by rw[bkj];simpa only [aa]using r
 |.any,vs,r=>by rw[alc];simpa only [aa]using r
 |.fn f v,vs,r=>by rw[bma];simp only[aa]at r⊢;obtain⟨us,h1,h2⟩:=r;exact⟨us,h1,aa.evs hk href had v us h2⟩
 |.bx v,vs,r=>by rw[blo];simp only[aa]at r⊢;obtain⟨b,o,us,h1,h2,h3,h4⟩:=r;exact⟨b,o,us,h1,(hk b h2).1,h3.keep (hk b h2).2,aa.evs hk href had v us h4⟩
 |.ag _,vs,r=>by simp only[aa]at r
 |.tup _,vs,r=>by simp only[aa]at r
 |.gd _ _ _ _,vs,r=>by simp only[aa]at r
 |.ifc t v,vs,r=>by rw[be5];simp only[aa]at r⊢;obtain⟨u,h1,h2⟩:=r;exact⟨u,h1,aa.evs hk href had v [u] h2⟩
mutual
theorem ah.evs{e:List Ev}(hk:gn Im Im' w w')(href:∀k π vs,Ref β M w k π vs->aa β' M' Im' w' ((V.ref k π).evs e) vs)(had:∀k π v,Adr β M w k π v->aa β' M' Im' w' ((V.ad k π).evs e) [v]) :
  (x:V)->(v:Value)->ah β M Im w x v->ah β' M' Im' w' (x.evs e) v
 |.any,v,r=>by rw[alc];simp only[ah]
 |.ag x,v,r=>by rw[bme];simp only[ah]at r⊢;obtain⟨vs,h1,h2⟩:=r;exact⟨vs,h1,aa.evs hk href had x vs h2⟩
 |.tup x,v,r=>by rw[bey];simp only[ah]at r⊢;obtain⟨vs,h1,h2⟩:=r;exact⟨vs,h1,cf.evs hk href had x vs h2⟩
 |.gd j b P x,v,r=>by rw[bly];simp only[ah]at r⊢;exact⟨fun hp=>ah.evs hk href had x v (r.1 hp),r.2⟩
 |.ifc t x,v,r=>by simp only[ah]at r;exact a7 (aa.evs hk href had _ _ r)
 |.p a b,v,r=>by simp only[ah]at r;exact a7 (aa.evs hk href had _ _ r)
 |.u,v,r=>by simp only[ah]at r;exact a7 (aa.evs hk href had _ _ r)
 |.ref k π,v,r=>by simp only[ah]at r;exact a7 (aa.evs hk href had _ _ r)
 |.ad k π,v,r=>by simp only[ah]at r;exact a7 (aa.evs hk href had _ _ r)
 |.d t x,v,r=>by simp only[ah]at r;exact a7 (aa.evs hk href had _ _ r)
 |.nl,v,r=>by simp only[ah]at r;exact a7 (aa.evs hk href had _ _ r)
 |.np,v,r=>by simp only[ah]at r;exact a7 (aa.evs hk href had _ _ r)
 |.fn f x,v,r=>by simp only[ah]at r;exact a7 (aa.evs hk href had _ _ r)
 |.bx x,v,r=>by simp only[ah]at r;exact a7 (aa.evs hk href had _ _ r)
theorem cf.evs{e:List Ev}(hk:gn Im Im' w w')(href:∀k π vs,Ref β M w k π vs->aa β' M' Im' w' ((V.ref k π).evs e) vs)(had:∀k π v,Adr β M w k π v->aa β' M' Im' w' ((V.ad k π).evs e) [v]) :
  (x:V)->(vs:List Value)->cf β M Im w x vs->cf β' M' Im' w' (x.evs e) vs
 |.p a b,vs,r=>by rw[bi7];simp only[cf]at r⊢;obtain⟨u,us,h1,h2,h3⟩:=r;exact⟨u,us,h1,ah.evs hk href had a u h2,cf.evs hk href had b us h3⟩
 |.u,vs,r=>by rw[bh1];simpa only [cf]using r
 |.any,vs,r=>by simp only[cf]at r
 |.ag x,vs,r=>by simp only[cf]at r
 |.tup x,vs,r=>by simp only[cf]at r
 |.gd j b P x,vs,r=>by simp only[cf]at r
 |.ifc t x,vs,r=>by simp only[cf]at r
 |.ref k π,vs,r=>by simp only[cf]at r
 |.ad k π,vs,r=>by simp only[cf]at r
 |.d t x,vs,r=>by simp only[cf]at r
 |.nl,vs,r=>by simp only[cf]at r
 |.np,vs,r=>by simp only[cf]at r
 |.fn f x,vs,r=>by simp only[cf]at r
 |.bx x,vs,r=>by simp only[cf]at r
end
end
theorem axg{k:Nat}:∀{l:List Nat},inN k l=true<->k∈l
 |[]=>by simp[inN]
 |j::r=>by
  simp only[inN,ck];by_cases h:j=k
  ·rw[d0 h];simp[h]
  ·rw[ds h,axg];simp[a0w h]
theorem ahd:∀{l:List Nat},ya l=true<->l.Nodup
 |[]=>by simp[ya]
 |k::r=>by
  simp only[ya,List.nodup_cons];rw[←ahd]
  cases h:inN k r with
  |true=>simp only[a0c];rw[axg]at h;simp[h]
  |false=>
   simp only[a0g];have:k∉r:=fun hk=>by rw[axg.2 hk]at h;cases h
   simp[this]
theorem aom:∀{l:List Nat},ajv l=true->∀k∈l,∀j∈l,gid<=k->gid<=j
 |[],_,k,hk,_,_,_=>by cases hk
 |[a],_,k,hk,j,hj,hg=>by simp only[a0u]at hk hj;subst hk;subst hj;exact hg
 |a::b::r,h,k,hk,j,hj,hg=>by
  simp only[ajv]at h;have hb:∀n,Nat.ble gid n=true<->gid<=n:=fun n=>by rw[Nat.ble_eq]
  cases ha:Nat.ble gid a with
  |true=>
   rw[ha]at h;simp only[a0c]at h
   cases hb':Nat.ble gid b with
   |false=>rw[hb']at h;cases h
   |true=>
    rw[hb']at h;have ih:=aom h b (by simp);rcases a0s.1 hj with rfl|hj
    ·exact (hb _).1 ha
    ·exact ih j hj ((hb _).1 hb')
  |false=>
   rw[ha]at h;simp only[a0g]at h
   cases hb':Nat.ble gid b with
   |true=>rw[hb']at h;cases h
   |false=>
    rw[hb']at h;have na:¬gid<=a:=fun h'=>by rw[(hb _).2 h']at ha;cases ha
    have nb':¬gid<=b:=fun h'=>by rw[(hb _).2 h']at hb';cases hb'
    exfalso;rcases a0s.1 hk with rfl|hk
    ·exact na hg
    ·exact nb' (aom h k hk b (by simp) hg)
theorem awt:(v:V)->(t:T)->(x:t.den)->v.as t=some x->gz v=[]
 |.p a b,t,x,h=>by
  cases t with
  |p t s=>
   simp only[V.as]at h
   cases ha:a.as t with
   |none=>simp[ha]at h
   |some y=>
    cases hb:b.as s with
    |none=>simp[ha,hb]at h
    |some z=>simp only[gz,awt a t y ha,awt b s z hb,ap]
  |_=>simp[V.as]at h
 |.ref k π,t,x,h=>by cases t <;> simp[V.as]at h
 |.any,_,_,_=>rfl
 |.nl,_,_,_=>rfl
 |.np,_,_,_=>rfl
 |.u,_,_,_=>rfl
 |.d _ _,_,_,_=>rfl
 |.ad _ _,_,_,_=>rfl
 |.ag _,_,_,_=>rfl
 |.tup _,_,_,_=>rfl
 |.gd _ _ _ _,_,_,_=>rfl
 |.fn _ _,_,_,_=>rfl
 |.ifc _ _,_,_,_=>rfl
 |.bx _,_,_,_=>rfl
section
variable {F:Fr} {p:Ow} {M:Mem} {w w':World}
structure Upd (F:Fr) (p:Ow) (M:Mem) (w w':World) (T S':Nat->Prop) (L:List Nat) (σ':Nat->Nat->Prop) (M0 M1:Mem) (e:List Ev):Prop where
 keys:∀k,k∈L->∃ob ob',go M k=some ob/\go M1 k=some ob'/\∀Im':Nat->Prop,gn (Imm F p M w) Im' w w'->Rel Im' w' ob'.o ob'.x (σ' k) [p.β k]
 sub:∀k,k∈L->∀c,σ' k c->(p.σ k c/\¬T c)\/S' c
 dis:∀k k',k∈L->k'∈L->k≠k'->∀c,σ' k c->¬σ' k' c
 rest:∀k,k∉L->go M1 k=go M0 k
 ref:∀k π,(V.ref k π).evs e=if k∈L then (if w8 π=true then .ref k π else .any)else .ref k π
 ad:∀k,k∉L->∀π,(V.ad k π).evs e=.ad k π
 adk:∀k,k∈L->∀π,(V.ad k π).evs e=.any\/((V.ad k π).evs e=.ad k π/\∃ob ob' n,go M k=some ob/\go M1 k=some ob'/\qu π ob.o=some n/\qu π ob'.o=some n)
def Back(F:Fr)(p:Ow)(M:Mem)(w:World)(o:O)(v:V)(vs:List Value)(S:Nat->Prop):Prop:=
 ∀(w':World) (x':o.strip.den) (S' T:Nat->Prop) (M0 M1:Mem) (e:List Ev),Rel (fun _=>False) w' o x' S' vs->
  (∀c,c<w.heap.size->¬T c->w'.heap[c]? = w.heap[c]?)->
  (∀c,T c->S c\/∃k,k∉gz v/\bt M k/\p.σ k c)->
  (∀c,S' c->w.heap.size<=c\/T c)->
  (∀k,k∈gz v->go M0 k=go M k)->xk o v x' M0=some (e,M1)->
  ∃σ':Nat->Nat->Prop,Upd F p M w w' T S' (gz v) σ' M0 M1 e
theorem bgr(hp:Hp F p M w)(o:O)(hf:o.flat=true)(k:Nat)(π:bq)(hup:∀x M,xk o (.ref k π) x M=arb k π o x M)(vs:List Value)(x:o.strip.den)(r:aa p.β M (Imm F p M w) w (.ref k π) vs)(h:bia M k π o=some x) :
  ∃S:Nat->Prop,Rel (fun _=>False) w o x S vs/\(∀c,S c->∃j,j∈gz (.ref k π)/\bt M j/\p.σ j c)/\Back F p M w o (.ref k π) vs S:=by
 unfold bia at h
 cases hg:my M k π with
 |none=>rw[hg]at h;cases h
 |some q=>
 rw[hg]at h;have hq:=vf h;subst hq;obtain⟨ob,hk,hget⟩:=qc hg;simp only[aa]at r;obtain⟨ob1,pl1,k1,k2,_,k4⟩:=r;rw[hk]at k1;cases k1;obtain⟨us,pl,S,e1,e2,e3,e4,e5,e6⟩:=look hp hk k2 hget;rw[e1]at k4;cases k4;have hl:=bo hk
 have hout:di π ob.o [p.β k] vs=[p.β k]:=by
  cases hh:cm π with
  |true=>exact nq π _ _ _ hh
  |false=>
   obtain⟨n,k1,k2,k3,k4,k5⟩:=e5 hh;rw[k5 vs rfl];refine mt (fun j u hu=>?_);rw[k3,a1e]at hu;split at hu
   ·rw[a1c]at hu;exact hu
   ·cases hu
 refine⟨S,ub _ hf _ _ _ e3,fun c hc=>⟨k,by simp[gz],hl,e2 c hc⟩,fun w' x' S'' T M0 M1 e hr hw hT hS hM hu=>?_⟩;simp only[gz,a0u]at hT hM⊢;rw[hup]at hu;unfold arb at hu;rw[hM k rfl,hk]at hu;dsimp only at hu
 cases hset:set π ob.o ob.x ⟨o,x'⟩with
 |none=>rw[hset]at hu;cases hu
 |some ob'=>
 rw[hset]at hu;simp only[a0d,a0j]at hu;obtain⟨rfl,rfl⟩:=hu
 have hTs:∀c,p.σ k c->T c->S c:=fun c hc ht=>by
  rcases hT c ht with h|⟨j,j1,j2,j3⟩
  ·exact h
  ·exact (hp.sep j k c j1 j2 hl j3 hc).elim
 have hsame:∀c,p.σ k c->¬S c->w'.heap[c]? = w.heap[c]?:=fun c hc hn=>hw c (hp.own k c hl hc).1 (fun ht=>hn (hTs c hc ht));have hlive0:bt M0 k:=by unfold bt;rw[hM k rfl,hk];rfl
 refine⟨fun _ c=>(p.σ k c/\¬S c)\/S'' c,fun j hj=>?_,fun j hj c hc=>?_,fun j j' hj hj' hne=>?_,fun j hj=>?_,fun j ρ=>?_,fun j hj ρ=>?_,fun j hj ρ=>?_⟩
 ·simp only[a0u]at hj;subst hj;refine⟨ob,ob',hk,mq ob' M0 hlive0,fun Im' hkp=>?_⟩
  have hwd:=e6 Im' w' ⟨o,x'⟩ S'' vs ob' hset rfl (ub _ hf _ _ _ hr) hkp (fun c h1 h2=>by
   rcases hS c h1 with h|h
   ·have:=(hp.own j c hl h2).1;omega
   ·exact hTs c h2 h) (fun hh b off hpl cur ty' hb=>by
   obtain⟨b0,off0,cur0,ty0,q1,q2,q3,q4,q5⟩:=e4 hh;rw[q1]at hpl;cases hpl;rw[q4]at hb;cases hb;rw[hsame b q2 q3,q4,mt (by simpa using q5)]) (fun c h1 h2 _=>hsame c h1 h2)
  rw[hout]at hwd;exact hwd.2
 ·simp only[a0u]at hj;subst hj;rcases hc with⟨h1,h2⟩|h1
  ·exact .inl ⟨h1,fun ht=>h2 (hTs c h1 ht)⟩
  ·exact .inr h1
 ·simp only[a0u]at hj hj';exact absurd (hj.trans hj'.symm) hne
 ·exact ng ob' (by simpa using hj) M0
 ·simp only[V.evs,V.ev,Ev.ref,ck,a0u];cases w8 ρ <;> simp
 ·simp only[a0u]at hj;simp only[V.evs,V.ev,Ev.ad,ck,ds hj]
 ·simp only[a0u]at hj;subst hj;simp only[V.evs,V.ev,Ev.ad,ck,a01]
  cases hs:y7 (qu ρ ob.o) (qu ρ ob'.o)with
  |false=>exact .inl (by simp only[a0g])
  |true=>obtain⟨n,s1,s2⟩:=amk hs;exact .inr ⟨by simp only[a0c],ob,ob',n,hk,mq ob' M0 hlive0,s1,s2⟩
theorem aqr(hp:Hp F p M w):(o:O)->o.flat=true->(v:V)->(vs:List Value)->(x:o.strip.den)->aa p.β M (Imm F p M w) w v vs->uu M o v=some x->ya (gz v)=true->
  ∃S:Nat->Prop,Rel (fun _=>False) w o x S vs/\(∀c,S c->∃k,k∈gz v/\bt M k/\p.σ k c)/\Back F p M w o v vs S
 |.fz t,hf,v,vs,x,r,h,_=>by simp only[uu]at h;simp only[O.flat]at hf;have h1:=aai v t vs x r h;have h2:=awt v t x h;refine⟨fun _=>False,by simp only[Rel];exact aac t hf x vs h1,fun c hc=>hc.elim,fun w' x' S' T M0 M1 e _ _ _ _ _ hu=>?_⟩;simp only[xk,a0d,a0j]at hu;obtain⟨rfl,rfl⟩:=hu;rw[h2];exact⟨p.σ,fun k hk=>by simp at hk,fun k hk=>by simp at hk,fun k k' hk=>by simp at hk,fun k _=>rfl,fun k π=>by simp[V.evs],fun k _ π=>by simp[V.evs],fun k hk=>by simp at hk⟩
 |.p a b,hf,v,vs,x,r,h,hnd=>by
  cases v with
  |p v v2=>
   simp only[O.flat,am,a0a]at hf;simp only[uu]at h
   cases ha:uu M a v with
   |none=>simp[ha]at h
   |some xa=>
   cases hb:uu M b v2 with
   |none=>simp[ha,hb]at h
   |some xb=>
   simp only[ha,hb,a0d]at h;subst h;simp only[aa]at r;obtain⟨va,vb,rfl,ra,rb⟩:=r;simp only[gz,ic]at hnd;rw[ahd,List.nodup_append]at hnd;obtain⟨n1,n2,n3⟩:=hnd;obtain⟨Sa,a1,a2,a3⟩:=aqr hp a hf.1 v va xa ra ha (ahd.2 n1);obtain⟨Sb,b1,b2,b3⟩:=aqr hp b hf.2 v2 vb xb rb hb (ahd.2 n2);have hdis:∀c,Sa c->¬Sb c:=fun c h1 h2=>by obtain⟨k,k1,k2,k3⟩:=a2 c h1;obtain⟨j,j1,j2,j3⟩:=b2 c h2;exact hp.sep k j c (n3 k k1 j j1) k2 j2 k3 j3
   refine⟨fun c=>Sa c\/Sb c,?_,fun c hc=>?_,fun w' x' S' T M0 M1 e hr hw hT hS hM hu=>?_⟩
   ·simp only[Rel];exact⟨va,vb,Sa,Sb,rfl,fun c h=>.inl h,fun c h=>.inr h,hdis,a1,b1⟩
   ·simp only[gz,ic,a04];rcases hc with hc|hc
    ·obtain⟨k,k1,k2⟩:=a2 c hc;exact⟨k,.inl k1,k2⟩
    ·obtain⟨k,k1,k2⟩:=b2 c hc;exact⟨k,.inr k1,k2⟩
   ·simp only[Rel]at hr;obtain⟨va',vb',S1,S2,he,s1,s2,s3,ra',rb'⟩:=hr;have hl:va.length=va'.length:=by rw[Rel.len a _ _ _ a1,Rel.len a _ _ _ ra']
    obtain⟨rfl,rfl⟩:=a4u he hl;simp only[gz,ic,a04]at hT hM;simp only[xk]at hu
    cases hua:xk a v x'.1 M0 with
    |none=>simp[hua]at hu
    |some ea=>
    obtain⟨e1,Ma⟩:=ea;simp only[hua]at hu
    cases hub:xk b v2 x'.2 Ma with
    |none=>simp[hub]at hu
    |some eb=>
    obtain⟨e2,Mb⟩:=eb;simp only[hub,a0d,a0j]at hu;obtain⟨rfl,rfl⟩:=hu
    obtain⟨σa,A⟩:=a3 w' x'.1 S1 T M0 Ma e1 ra' hw (fun c hc=>by
     rcases hT c hc with (h|h)|⟨k,h1,h2⟩
     ·exact .inl h
     ·obtain⟨k,k1,k2⟩:=b2 c h;exact .inr ⟨k,fun hk=>n3 k hk k k1 rfl,k2⟩
     ·exact .inr ⟨k,fun hk=>h1 (.inl hk),h2⟩) (fun c hc=>hS c (s1 c hc)) (fun k hk=>hM k (.inl hk)) hua
    obtain⟨σb,B⟩:=b3 w' x'.2 S2 T Ma Mb e2 rb' hw (fun c hc=>by
     rcases hT c hc with (h|h)|⟨k,h1,h2⟩
     ·obtain⟨k,k1,k2⟩:=a2 c h;exact .inr ⟨k,fun hk=>n3 k k1 k hk rfl,k2⟩
     ·exact .inl h
     ·exact .inr ⟨k,fun hk=>h1 (.inr hk),h2⟩) (fun c hc=>hS c (s2 c hc)) (fun k hk=>by rw[A.rest k (fun h=>n3 k h k hk rfl)];exact hM k (.inr hk)) hub
    simp only[gz,ic];obtain⟨σc,ga,gb⟩:∃σc:Nat->Nat->Prop,(∀k,k∈gz v->σc k=σa k)/\∀k,k∈gz v2->σc k=σb k:=⟨fun j=>if j∈gz v then σa j else σb j,fun k hk=>by simp[hk],fun k hk=>by have:k∉gz v:=fun h=>n3 k h k hk rfl;simp[this]⟩
    have hcr:∀k k',k∈gz v->k'∈gz v2->∀c,σa k c->¬σb k' c:=fun k k' hk hk' c h1 h2=>by
     obtain⟨_,_,g1,_⟩:=A.keys k hk;obtain⟨_,_,g2,_⟩:=B.keys k' hk';have hne:=n3 k hk k' hk'
     have big:∀j,bt M j->p.σ j c->¬T c->(w.heap.size<=c\/T c)->False:=fun j hj hs hn ho=>by
      rcases ho with ho|ho
      ·have:=(hp.own j c hj hs).1;omega
      ·exact hn ho
     rcases A.sub k hk c h1 with⟨q1,q2⟩|q1
     ·rcases B.sub k' hk' c h2 with⟨q3,_⟩|q3
      ·exact hp.sep k k' c hne (bo g1) (bo g2) q1 q3
      ·exact big k (bo g1) q1 q2 (hS c (s2 c q3))
     ·rcases B.sub k' hk' c h2 with⟨q3,q4⟩|q3
      ·exact big k' (bo g2) q3 q4 (hS c (s1 c q1))
      ·exact s3 c q1 q3
    refine⟨σc,fun k hk=>?_,fun k hk c hc=>?_,fun k k' hk hk' hne c hc=>?_,fun k hk=>?_,fun k π=>?_,fun k hk π=>?_,fun k hk π=>?_⟩
    ·rcases a04.1 hk with hk|hk
     ·rw[ga k hk];obtain⟨ob,ob',g1,g2,g3⟩:=A.keys k hk;exact⟨ob,ob',g1,by rw[B.rest k (fun h=>n3 k hk k h rfl)];exact g2,g3⟩
     ·rw[gb k hk];exact B.keys k hk
    ·rcases a04.1 hk with hk|hk
     ·rw[ga k hk]at hc;exact (A.sub k hk c hc).imp id (s1 c)
     ·rw[gb k hk]at hc;exact (B.sub k hk c hc).imp id (s2 c)
    ·rcases a04.1 hk with hk|hk
     ·rw[ga k hk]at hc;rcases a04.1 hk' with hk'|hk'
      ·rw[ga k' hk'];exact A.dis k k' hk hk' hne c hc
      ·rw[gb k' hk'];exact hcr k k' hk hk' c hc
     ·rw[gb k hk]at hc;rcases a04.1 hk' with hk'|hk'
      ·rw[ga k' hk'];exact fun h=>hcr k' k hk' hk c h hc
      ·rw[gb k' hk'];exact B.dis k k' hk hk' hne c hc
    ·simp only[a04,not_or]at hk;rw[B.rest k hk.2,A.rest k hk.1]
    ·rw[←ic,zz,A.ref];by_cases h1:k∈gz v
     ·have h2:k∉gz v2:=fun h=>n3 k h1 k h rfl;rw[d0 h1,d0 (a04.2 (.inl h1))];split
      ·rw[B.ref,ds h2]
      ·exact alc _
     ·rw[ds h1,B.ref];simp only[a04,h1,false_or]
    ·simp only[a04,not_or]at hk;rw[←ic,zz,A.ad k hk.1,B.ad k hk.2]
    ·rcases a04.1 hk with hk|hk
     ·have h2:k∉gz v2:=fun h=>n3 k hk k h rfl;rcases A.adk k hk π with h|⟨h,ob,ob',n,g1,g2,g3,g4⟩
      ·exact .inl (by rw[←ic,zz,h];exact alc _)
      ·exact .inr ⟨by rw[←ic,zz,h,B.ad k h2],ob,ob',n,g1,by rw[B.rest k h2];exact g2,g3,g4⟩
     ·have h1:k∉gz v:=fun h=>n3 k h k hk rfl;rw[←ic,zz,A.ad k h1];exact B.adk k hk π
  |ref k π=>exact bgr hp (.p a b) hf k π (fun _ _=>rfl) vs x r h
  |_=>simp[uu]at h
 |.pt t,_,v,vs,x,_,h,_=>by cases v <;> simp[uu]at h
 |.sl eo,hf,v,vs,x,r,h,_=>by
  cases v with
  |ref k π=>exact bgr hp (.sl eo) hf k π (fun _ _=>rfl) vs x r h
  |_=>simp[uu]at h
theorem bre(hp:Hp F p M w){L:List Nat}{σ':Nat->Nat->Prop}{T S':Nat->Prop}{M1:Mem}{e:List Ev}(hX:ExtS w w' T)(hT:∀c,T c->∃k,k∈L/\bt M k/\p.σ k c)
  (hS:∀c,S' c->T c\/w.heap.size<=c/\c<w'.heap.size) (U:Upd F p M w w' T S' L σ' M M1 e) (hg:ajv L=true):∃p',Tr F p M w e p' M1 w'/\∀b,¬p'.L b:=by
 generalize hp':(⟨p.β,fun j=>if j∈L then σ' j else p.σ j,fun _=>False⟩:Ow)=p';have hβ:p'.β=p.β:=by rw[←hp']
 have hσ1:∀j,j∈L->p'.σ j=σ' j:=fun j hj=>by rw[←hp'];simp[hj]
 have hσ2:∀j,j∉L->p'.σ j=p.σ j:=fun j hj=>by rw[←hp'];simp[hj]
 have hL':∀b,¬p'.L b:=by rw[←hp'];exact fun b h=>h
 have hlv:∀j,bt M1 j<->bt M j:=fun j=>by
  by_cases hj:j∈L
  ·obtain⟨ob,ob',g1,g2,_⟩:=U.keys j hj;exact⟨fun _=>bo g1,fun _=>bo g2⟩
  ·unfold bt;rw[U.rest j hj]
 have hTs:∀j c,j∉L->bt M j->p.σ j c->¬T c:=fun j c hj hl hc ht=>by obtain⟨k,k1,k2,k3⟩:=hT c ht;exact hp.sep k j c (fun e=>hj (e▸k1)) k2 hl k3 hc
 have hkeep:gn (Imm F p M w) (Imm F p' M1 w') w w':=fun b hb=>by
  have hnT:¬T b:=fun ht=>by obtain⟨k,_,k2,k3⟩:=hT b ht;exact hb.2.2.2 k k2 k3
  refine⟨⟨a1o hb.1 hX.size,hb.2.1,hL' b,fun j hj=>?_⟩,hX.old b hb.1 hnT⟩;by_cases h:j∈L
  ·rw[hσ1 j h];intro hc;rcases U.sub j h b hc with⟨q,_⟩|q
   ·exact hb.2.2.2 j ((hlv j).1 hj) q
   ·rcases hS b q with q|q
    ·exact hnT q
    ·have:=hb.1;omega
  ·rw[hσ2 j h];exact hb.2.2.2 j ((hlv j).1 hj)
 have hoth:∀j,j∉L->bt M j->∀b,p.σ j b->w'.heap[b]? = w.heap[b]?:=fun j hj hl b hb=>hX.old b (hp.own j b hl hb).1 (hTs j b hj hl hb)
 have href:∀k π vs,Ref p.β M w k π vs->aa p'.β M1 (Imm F p' M1 w') w' ((V.ref k π).evs e) vs:=fun k π vs r=>by
  rw[U.ref];by_cases h:k∈L
  ·rw[d0 h]
   cases π with
   |nil=>simp only[w8,a01,aa];obtain⟨o,pl0,k1,k2,k3,k4⟩:=r;simp only[res,a0d,a0j]at k4;obtain⟨rfl,rfl⟩:=k4;obtain⟨ob,ob',g1,g2,_⟩:=U.keys k h;exact⟨ob',none,g2,by simp only[gok],⟨ob',by simp only[get]⟩,by simp only[res,hβ]⟩
   |cons s ρ=>simp only[w8,a02,a3b,aa];exact r.one hp
  ·rw[ds h];simp only[aa];exact r.same hp (U.rest k h) (by rw[hβ]) (hoth k h)
 have had:∀k π v,Adr p.β M w k π v->aa p'.β M1 (Imm F p' M1 w') w' ((V.ad k π).evs e) [v]:=fun k π v r=>by
  by_cases h:k∈L
  ·rcases U.adk k h π with he|⟨he,ob,ob',m,g1,g2,s1,s2⟩
   ·rw[he];simp only[aa];intro u hu;rw[a0u.1 hu];exact r.one
   ·rw[he];simp only[aa];refine⟨v,rfl,?_⟩;obtain⟨o,us0,b0,off0,k1,k2,k3,k4,k5,rfl⟩:=r;rw[g1]at k1;cases k1;obtain⟨ρ1,o1,rfl,e1,f1⟩:=zv s1;obtain⟨ρ2,o2,e2',e2,f2⟩:=zv s2;simp only[a0i,a0e]at e2';subst e2';obtain⟨ox,xx⟩:=ob;obtain⟨ox',xx'⟩:=ob';simp only at e1 e2;subst e1 e2;have hr:=hp.objs k _ g1;simp only[Rel]at hr;obtain⟨bb,us1,ty',S1,r1,r2,r3,r4,r5⟩:=hr;simp only[a0i,a0b]at r1;rw[r1]at k5;simp only[res]at k5;obtain⟨_,_,us2,q3⟩:=qw w ρ1 o1 m f1 xx (cellsOf w bb 0 o1.size) (some (bb,0));rw[q3]at k5;simp only[a0d,a0j]at k5;obtain⟨q1,q2,us3,q3'⟩:=qw w' ρ1 o2 m f2 xx' (cellsOf w' bb 0 o2.size) (some (bb,0));refine⟨_,us3,b0,off0,g2,by simpa only [gok]using q2,by simpa only [get]using q1,by simp only[cm],?_,rfl⟩;rw[hβ,r1];simp only[res];rw[q3',k5.2]
  ·rw[U.ad k h];simp only[aa];exact⟨v,rfl,r.same hp (U.rest k h) (by rw[hβ]) (hoth k h)⟩
 have hin:∀k c,k∈L->σ' k c->∀j,j∉L->bt M j->¬p.σ j c:=fun k c hk hc j hj hl hs=>by
  obtain⟨_,_,g1,_⟩:=U.keys k hk;rcases U.sub k hk c hc with⟨q,_⟩|q
  ·exact hp.sep k j c (fun e=>hj (e▸hk)) (bo g1) hl q hs
  ·rcases hS c q with q|q
   ·exact hTs j c hj hl hs q
   ·have:=(hp.own j c hl hs).1;omega
 refine⟨p',⟨hkeep,aa.evs hkeep href had,ah.evs hkeep href had,⟨fun j o hj=>?_,fun j j' b hne hj hj' hb=>?_,fun j b hj hb=>?_,fun b hb=>(hL' b hb).elim,hX.os.trans hp.os,hX.tape.trans hp.tape,hX.output.trans hp.output,a08 hp.size hX.size,fun b hb hR=>?_⟩⟩,hL'⟩
 ·by_cases h:j∈L
  ·obtain⟨ob,ob',g1,g2,g3⟩:=U.keys j h;rw[g2]at hj;cases hj;rw[hβ,hσ1 j h];exact g3 _ hkeep
  ·rw[U.rest j h]at hj;rw[hβ,hσ2 j h];exact Rel.keep hkeep _ _ _ _ (hoth j h (bo hj)) (hp.objs j o hj)
 ·have hj1:=(hlv j).1 hj;have hj2:=(hlv j').1 hj';by_cases h:j∈L
  ·rw[hσ1 j h]at hb;by_cases h':j'∈L
   ·rw[hσ1 j' h'];exact U.dis j j' h h' hne b hb
   ·rw[hσ2 j' h'];exact hin j b h hb j' h' hj2
  ·rw[hσ2 j h]at hb;by_cases h':j'∈L
   ·rw[hσ1 j' h'];exact fun hc=>hin j' b h' hc j h hj1 hb
   ·rw[hσ2 j' h'];exact hp.sep j j' b hne hj1 hj2 hb
 ·have hj1:=(hlv j).1 hj;by_cases h:j∈L
  ·rw[hσ1 j h]at hb;rcases U.sub j h b hb with⟨q,_⟩|q
   ·have:=hp.own j b hj1 q;exact⟨a1o this.1 hX.size,this.2⟩
   ·rcases hS b q with q|q
    ·obtain⟨k,k1,k2,k3⟩:=hT b q;have:=hp.own k b k2 k3;refine⟨a1o this.1 hX.size,?_⟩;rcases this.2 with⟨a1,a2⟩|a1
     ·exact .inl ⟨aom hg k k1 j h a1,a2⟩
     ·exact .inr a1
    ·exact⟨q.2,.inr (a08 hp.size q.1)⟩
  ·rw[hσ2 j h]at hb;have:=hp.own j b hj1 hb;exact⟨a1o this.1 hX.size,this.2⟩
 ·rw[hX.old b (a1o hb hp.size) (fun ht=>?_)]
  ·exact hp.old b hb hR
  ·obtain⟨k,_,k2,k3⟩:=hT b ht;rcases (hp.own k b k2 k3).2 with⟨_,a2⟩|a1
   ·exact hR a2
   ·omega
end
end Go.Bm
/- The du machine:what a call leaves that writes a box. -/
namespace Go.Bm
open Go.RowKit
section
variable {F:Fr} {p:Ow} {M:Mem} {w w':World}
theorem al0(hp:Hp F p M w)(hL:∀b,¬p.L b){k:Nat}{o:O}{x x':o.strip.den}(hk:go M k=some ⟨o,x⟩){A S' R:Nat->Prop}(hA:∀b,A b->Imm F p M w b)(hX:ExtS w w' (p.σ k))
  (hR:∀b,R b->w.heap.size<=b/\b<w'.heap.size) (hS:∀b,S' b->(p.σ k b\/w.heap.size<=b/\b<w'.heap.size)/\¬R b)
  (hrel:Rel (fun b=>b<w'.heap.size/\(A b\/p.σ k b\/w.heap.size<=b)/\¬S' b/\¬R b) w' o x' S' [p.β k]) :
  ∃p',Tr F p M w [.cut k o o] p' (put k ⟨o,x'⟩ M) w'/\(∀b,p'.L b<->R b)/\(∀b,(b<w'.heap.size/\(A b\/p.σ k b\/w.heap.size<=b)/\¬S' b/\¬R b)->Imm F p' (put k ⟨o,x'⟩ M) w' b):=by
 generalize hp':(⟨p.β,fun j=>if j=k then S' else p.σ j,R⟩:Ow)=p';have hβ:p'.β=p.β:=by rw[←hp']
 have hσ1:p'.σ k=S':=by rw[←hp'];simp
 have hσ2:∀j,j≠k->p'.σ j=p.σ j:=fun j hj=>by rw[←hp'];simp[hj]
 have hL':∀b,p'.L b<->R b:=by rw[←hp'];exact fun b=>a2l
 have hlk:=bo hk;have hg1:go (put k ⟨o,x'⟩ M) k=some ⟨o,x'⟩:=mq _ _ hlk;have hg2:∀j,j≠k->go (put k ⟨o,x'⟩ M) j=go M j:=fun j hj=>ng _ hj _
 have hlv:∀j,bt (put k ⟨o,x'⟩ M) j<->bt M j:=fun j=>by
  by_cases hj:j=k
  ·subst hj;exact⟨fun _=>hlk,fun _=>bo hg1⟩
  ·unfold bt;rw[hg2 j hj]
 have hR0:∀b,R b->∀j,bt M j->¬p.σ j b:=fun b hb j hj hs=>by have:=(hp.own j b hj hs).1;have:=(hR b hb).1;omega
 have hS0:∀b,S' b->∀j,j≠k->bt M j->¬p.σ j b:=fun b hb j hj hl hs=>by
  rcases (hS b hb).1 with h|h
  ·exact hp.sep k j b (a0w hj) hlk hl h hs
  ·have:=(hp.own j b hl hs).1;omega
 have hkeep:gn (Imm F p M w) (Imm F p' (put k ⟨o,x'⟩ M) w') w w':=fun b hb=>by
  have hnT:¬p.σ k b:=hb.2.2.2 k hlk;refine⟨⟨a1o hb.1 hX.size,hb.2.1,fun h=>?_,fun j hj=>?_⟩,hX.old b hb.1 hnT⟩
  ·have:=(hR b ((hL' b).1 h)).1;have:=hb.1;omega
  ·by_cases h:j=k
   ·subst h;rw[hσ1];intro hc;rcases (hS b hc).1 with q|q
    ·exact hnT q
    ·have:=hb.1;omega
   ·rw[hσ2 j h];exact hb.2.2.2 j ((hlv j).1 hj)
 have hoth:∀j,j≠k->bt M j->∀b,p.σ j b->w'.heap[b]? = w.heap[b]?:=fun j hj hl b hb=>hX.old b (hp.own j b hl hb).1 (fun h=>hp.sep k j b (a0w hj) hlk hl h hb)
 have himm:∀b,(b<w'.heap.size/\(A b\/p.σ k b\/w.heap.size<=b)/\¬S' b/\¬R b)->Imm F p' (put k ⟨o,x'⟩ M) w' b:=fun b ⟨b1,b2,b3,b4⟩=>by
  rcases b2 with h|h|h
  ·exact (hkeep b (hA b h)).1
  ·have hown:=hp.own k b hlk h;refine⟨b1,?_,fun h=>b4 ((hL' b).1 h),fun j hj=>?_⟩
   ·rcases hown.2 with⟨_,h2⟩|h2
    ·exact .inr (.inl h2)
    ·exact .inr (.inr h2)
   ·by_cases hjk:j=k
    ·subst hjk;rw[hσ1];exact b3
    ·rw[hσ2 j hjk];exact hp.sep k j b (a0w hjk) hlk ((hlv j).1 hj) h
  ·refine⟨b1,.inr (.inr (a08 hp.size h)),fun h=>b4 ((hL' b).1 h),fun j hj=>?_⟩;by_cases hjk:j=k
   ·subst hjk;rw[hσ1];exact b3
   ·rw[hσ2 j hjk];exact fun hs=>by have:=(hp.own j b ((hlv j).1 hj) hs).1;omega
 have href:∀j π vs,Ref p.β M w j π vs->aa p'.β (put k ⟨o,x'⟩ M) (Imm F p' (put k ⟨o,x'⟩ M) w') w' (Ev.ref j π (.cut k o o)) vs:=fun j π vs r=>by
  simp only[Ev.ref,ck];by_cases h:j=k
  ·subst h;rw[d0 rfl]
   cases π with
   |nil=>simp only[w8,a0c,aa];obtain⟨ob,pl0,k1,k2,k3,k4⟩:=r;simp only[res,a0d,a0j]at k4;obtain⟨rfl,rfl⟩:=k4;exact⟨_,none,hg1,by simp only[gok],⟨_,by simp only[get];rfl⟩,by simp only[res,hβ]⟩
   |cons s ρ=>simp only[w8,a0g,aa];exact r.one hp
  ·rw[ds h];simp only[aa];exact r.same hp (hg2 j h) (by rw[hβ]) (hoth j h)
 have had:∀j π v,Adr p.β M w j π v->aa p'.β (put k ⟨o,x'⟩ M) (Imm F p' (put k ⟨o,x'⟩ M) w') w' (Ev.ad j π (.cut k o o)) [v]:=fun j π v r=>by
  simp only[Ev.ad,ck];by_cases h:j=k
  ·subst h;rw[d0 rfl]
   cases hs:y7 (qu π o) (qu π o)with
   |false=>simp only[a0g,aa];intro u hu;rw[a0u.1 hu];exact r.one
   |true=>obtain⟨n,s1,_⟩:=amk hs;simp only[a0c,aa];refine⟨v,rfl,?_⟩;obtain⟨o0,us0,b0,off0,k1,k2,k3,k4,k5,rfl⟩:=r;rw[hk]at k1;cases k1;obtain⟨ρ1,o1,rfl,e1,f1⟩:=zv s1;subst e1;have hr:=hp.objs j _ hk;simp only[Rel]at hr;obtain⟨bb,us1,ty',S1,r1,r2,r3,r4,r5⟩:=hr;simp only[a0i,a0b]at r1;rw[r1]at k5;simp only[res]at k5;obtain⟨_,_,us2,q3⟩:=qw w ρ1 o1 n f1 x (cellsOf w bb 0 o1.size) (some (bb,0));rw[q3]at k5;simp only[a0d,a0j]at k5;obtain⟨q1,q2,us3,q3'⟩:=qw w' ρ1 o1 n f1 x' (cellsOf w' bb 0 o1.size) (some (bb,0));refine⟨_,us3,b0,off0,hg1,by simpa only [gok]using q2,by simpa only [get]using q1,by simp only[cm],?_,rfl⟩;rw[hβ,r1];simp only[res];rw[q3',k5.2]
  ·rw[ds h];simp only[aa];exact⟨v,rfl,r.same hp (hg2 j h) (by rw[hβ]) (hoth j h)⟩
 refine⟨p',Tr.one _ hkeep href had ⟨fun j ob hj=>?_,fun j j' b hne hj hj' hb=>?_,fun j b hj hb=>?_,fun b hb=>?_,hX.os.trans hp.os,hX.tape.trans hp.tape,hX.output.trans hp.output,a08 hp.size hX.size,fun b hb hRR=>?_⟩,hL',himm⟩
 ·by_cases h:j=k
  ·subst h;rw[hg1]at hj;cases hj;rw[hβ,hσ1];exact Rel.keep (fun b hb=>⟨himm b hb,rfl⟩) _ _ _ _ (fun _ _=>rfl) hrel
  ·rw[hg2 j h]at hj;rw[hβ,hσ2 j h];exact Rel.keep hkeep _ _ _ _ (hoth j h (bo hj)) (hp.objs j ob hj)
 ·have hj1:=(hlv j).1 hj;have hj2:=(hlv j').1 hj';by_cases h:j=k
  ·subst h;rw[hσ1]at hb;rw[hσ2 j' (a0w hne)];exact hS0 b hb j' (a0w hne) hj2
  ·rw[hσ2 j h]at hb;by_cases h':j'=k
   ·subst h';rw[hσ1];exact fun hc=>hS0 b hc j h hj1 hb
   ·rw[hσ2 j' h'];exact hp.sep j j' b hne hj1 hj2 hb
 ·have hj1:=(hlv j).1 hj;by_cases h:j=k
  ·subst h;rw[hσ1]at hb;rcases (hS b hb).1 with q|q
   ·have:=hp.own j b hj1 q;exact⟨a1o this.1 hX.size,this.2⟩
   ·exact⟨q.2,.inr (a08 hp.size q.1)⟩
  ·rw[hσ2 j h]at hb;have:=hp.own j b hj1 hb;exact⟨a1o this.1 hX.size,this.2⟩
 ·have hb:=(hL' b).1 hb;refine⟨(hR b hb).2,a08 hp.size (hR b hb).1,fun j hj=>?_⟩;by_cases h:j=k
  ·subst h;rw[hσ1];exact fun hs=>(hS b hs).2 hb
  ·rw[hσ2 j h];exact hR0 b hb j ((hlv j).1 hj)
 ·rw[hX.old b (a1o hb hp.size) (fun ht=>?_)]
  ·exact hp.old b hb hRR
  ·rcases (hp.own k b hlk ht).2 with⟨_,a2⟩|a1
   ·exact hRR a2
   ·omega
end
end Go.Bm
/- The du machine:maps. -/
namespace Go.Bm
open Go.RowKit
section
variable {F:Fr} {p p' p'':Ow} {env:Env} {M M' M'':Mem} {a:Act} {w w' w'':World} {P:Program} {B:Tab}
theorem bfx{Im:Nat->Prop}{w:World}:(k:T)->0<k.intsN->(x:k.den)->(vs:List Value)->ai Im w k x vs->vs=sv k x
 |.int k,_,x,vs,r=>by simp only[ai]at r;simp only[sv];exact r.1
 |.p a b,h,x,vs,r=>by
  cases a <;> simp only[T.intsN]at h <;> try omega
  simp only[ai]at r;obtain⟨va,vb,rfl,⟨rfl,_⟩,hb⟩:=r;have hb':0<b.intsN:=by cases hn:b.intsN with|zero=>simp[hn]at h|succ n=>omega
  simp only[sv];rw[bfx b hb' x.2 vb hb]
 |.bool,h,_,_,_=>by simp[T.intsN]at h
 |.str,h,_,_,_=>by simp[T.intsN]at h
 |.u,h,_,_,_=>by simp[T.intsN]at h
 |.sl _,h,_,_,_=>by simp[T.intsN]at h
 |.pt _,h,_,_,_=>by simp[T.intsN]at h
 |.fn _ _,h,_,_,_=>by simp[T.intsN]at h
 |.ifc _ _,h,_,_,_=>by simp[T.intsN]at h
 |.mp _ _,h,_,_,_=>by simp[T.intsN]at h
 |.op _,h,_,_,_=>by simp[T.intsN]at h
 |.ns _,h,_,_,_=>by simp[T.intsN]at h
 |.er _,h,_,_,_=>by simp[T.intsN]at h
 |.any,h,_,_,_=>by simp[T.intsN]at h
theorem axy{Im:Nat->Prop}{w:World}:(k:T)->0<k.intsN->(x:k.den)->k.ok x->ai Im w k x (sv k x)
 |.int k,_,x,h=>by simp only[ai,sv];exact⟨trivial,h⟩
 |.p a b,h,x,hk=>by
  cases a <;> simp only[T.intsN]at h <;> try omega
  have hb':0<b.intsN:=by cases hn:b.intsN with|zero=>simp[hn]at h|succ n=>omega
  simp only[T.ok]at hk;simp only[ai,sv];exact⟨_,_,rfl,⟨rfl,hk.1⟩,axy b hb' x.2 hk.2⟩
 |.bool,h,_,_=>by simp[T.intsN]at h
 |.str,h,_,_=>by simp[T.intsN]at h
 |.u,h,_,_=>by simp[T.intsN]at h
 |.sl _,h,_,_=>by simp[T.intsN]at h
 |.pt _,h,_,_=>by simp[T.intsN]at h
 |.fn _ _,h,_,_=>by simp[T.intsN]at h
 |.ifc _ _,h,_,_=>by simp[T.intsN]at h
 |.mp _ _,h,_,_=>by simp[T.intsN]at h
 |.op _,h,_,_=>by simp[T.intsN]at h
 |.ns _,h,_,_=>by simp[T.intsN]at h
 |.er _,h,_,_=>by simp[T.intsN]at h
 |.any,h,_,_=>by simp[T.intsN]at h
theorem bpe{k:IntKind}(x y:Int):eqR (.int k) x y=(x==y):=by
 cases h:(x==y)with
 |true=>exact dc.2 (by simpa using h)
 |false=>exact vz (by simpa using h)
theorem bt3(x y:ByteArray):eqR .str x y=(x==y):=by
 cases h:(x==y)with
 |true=>exact dc.2 ((MapKept.bytes_beq x y).1 h)
 |false=>exact vz (fun e=>by rw[(MapKept.bytes_beq x y).2 e]at h;cases h)
theorem azn:(k:T)->(n:Nat)->k.intsN=n+1->(x y:k.den)->x4 (n+1) (kg k x) (kg k y)=some (eqR k x y)
 |.int k,n,h,x,y=>by
  simp only[T.intsN]at h;have:n=0:=by omega
  subst this;simp only[kg,x4,aoz,a0c,bpe]
 |.p a b,n,h,x,y=>by
  cases a <;> simp only[T.intsN]at h <;> try omega
  rename_i k
  cases hn:b.intsN with
  |zero=>simp[hn]at h
  |succ m=>
   simp only[hn]at h;have:n=m+1:=by omega
   subst this;have ih:=azn b m hn x.2 y.2;simp only[kg,x4,Nat.succ_eq_add_one,ih,aoz,a0c];congr 1
   cases hx:(x.1==y.1)with
   |true=>
    simp only[a1u];have e:x.1=y.1:=by simpa using hx
    cases hb:eqR b x.2 y.2 with
    |true=>exact (dc.2 (a2w e (dc.1 hb))).symm
    |false=>refine (vz fun h=>?_).symm;rw[h,aby]at hb;cases hb
   |false=>simp only[Bool.false_and];refine (vz fun h=>?_).symm;rw[h]at hx;simp at hx
 |.bool,_,h,_,_=>by simp[T.intsN]at h
 |.str,_,h,_,_=>by simp[T.intsN]at h
 |.u,_,h,_,_=>by simp[T.intsN]at h
 |.sl _,_,h,_,_=>by simp[T.intsN]at h
 |.pt _,_,h,_,_=>by simp[T.intsN]at h
 |.fn _ _,_,h,_,_=>by simp[T.intsN]at h
 |.ifc _ _,_,h,_,_=>by simp[T.intsN]at h
 |.mp _ _,_,h,_,_=>by simp[T.intsN]at h
 |.op _,_,h,_,_=>by simp[T.intsN]at h
 |.ns _,_,h,_,_=>by simp[T.intsN]at h
 |.er _,_,h,_,_=>by simp[T.intsN]at h
 |.any,_,h,_,_=>by simp[T.intsN]at h
structure KeyR (P:Program) (kty:TypeId) (k:T):Prop where
 check:∀(w:World) (e:Bool) (x:k.den),k.ok x->(Instr.checkKey e 10000 kty (d4 k x)).run P w=.ok () w
 find:∀(w:World) (v:T) (x:k.den),k.ok x->∀(es:List MapEntry) (l:List (k.den×v.den)),(∀y∈l,k.ok y.1)->es.map (fun e=>(e.key,e.val))=l.map (fun y=>(d4 k y.1,d4 v y.2))->
  ((Instr.findKey kty (d4 k x) es).run P w=.ok none w/\s9 k v l x=none/\∀z,jq k v l x z=l++[(x,z)])\/
  ∃j y,(Instr.findKey kty (d4 k x) es).run P w=.ok (some (j,d4 v y)) w/\l[j]? = some (x,y)/\s9 k v l x=some y/\∀z,jq k v l x z=l.set j (x,z)
 same:∀(x:k.den),Instr.sameBits 10000 (d4 k x) (d4 k x)=true
theorem jl{k v:T}{e:k.den×v.den}{r:List (k.den×v.den)}{x:k.den}:s9 k v (e::r) x=if eqR k x e.1=true then some e.2 else s9 k v r x:=by unfold s9;rw[List.find?_cons];cases h:eqR k x e.1 <;> simp
theorem akm{kty:TypeId}{k:T}(heq:∀(w:World) (x y:k.den),k.ok x->k.ok y->(Op.equal kty (d4 k x) (d4 k y)).run P w=.ok (eqR k x y) w)(w:World)(v:T)(x:k.den)(hx:k.ok x):∀(es:List MapEntry) (l:List (k.den×v.den)) (i:Nat),(∀y∈l,k.ok y.1)->es.map (fun e=>(e.key,e.val))=l.map (fun y=>(d4 k y.1,d4 v y.2))->
  ((Instr.findAsking kty (d4 k x) es i).run P w=.ok none w/\s9 k v l x=none/\∀z,jq k v l x z=l++[(x,z)])\/
  ∃j y,(Instr.findAsking kty (d4 k x) es i).run P w=.ok (some (i+j,d4 v y)) w/\l[j]? = some (x,y)/\s9 k v l x=some y/\∀z,jq k v l x z=l.set j (x,z)
 |[],l,i,hl,h=>by
  cases l with
  |cons _ _=>simp at h
  |nil=>exact .inl ⟨by simp[Instr.findAsking],rfl,fun z=>rfl⟩
 |e::es,l,i,hl,h=>by
  cases l with
  |nil=>simp at h
  |cons y r=>
   simp only[a05,a0i,a0j]at h;obtain⟨⟨h1,h2⟩,h3⟩:=h;have he:=heq w x y.1 hx (hl y (by simp));rw[←h1]at he
   cases hq:eqR k x y.1 with
   |true=>
    have e1:=dc.1 hq;refine .inr ⟨0,y.2,?_,?_,?_,fun z=>?_⟩
    ·simp[Instr.findAsking,he,hq,h2]
    ·rw[e1];rfl
    ·rw[jl,d0 hq]
    ·simp only[jq,hq,a01,a4v]
   |false=>
    rcases akm heq w v x hx es r (i+1) (fun z hz=>hl z (by simp[hz])) h3 with⟨a1,a2,a3⟩|⟨j,z,a1,a2,a3,a4⟩
    ·refine .inl ⟨?_,?_,fun z=>?_⟩
     ·simp[Instr.findAsking,he,hq,a1]
     ·rw[jl,ds (by rw[hq];simp)];exact a2
     ·simp only[jq,hq,a02,a3b,a3,a2i]
    ·refine .inr ⟨j+1,z,?_,?_,?_,fun u=>?_⟩
     ·simp[Instr.findAsking,he,hq,a1];omega
     ·simpa using a2
     ·rw[jl,ds (by rw[hq];simp)];exact a3
     ·simp only[jq,hq,a02,a3b,a4,List.set_cons_succ]
theorem bdg{kd:TypeDesc}{k:T}(heq:∀(x y:k.den),Instr.sameNow kd (d4 k x) (d4 k y)=some (eqR k x y))(v:T)(x:k.den):∀(es:List MapEntry) (l:List (k.den×v.den)) (i:Nat),es.map (fun e=>(e.key,e.val))=l.map (fun y=>(d4 k y.1,d4 v y.2))->
  (Instr.findNow kd (d4 k x) es i=some none/\s9 k v l x=none/\∀z,jq k v l x z=l++[(x,z)])\/
  ∃j y,Instr.findNow kd (d4 k x) es i=some (some (i+j,d4 v y))/\l[j]? = some (x,y)/\s9 k v l x=some y/\∀z,jq k v l x z=l.set j (x,z)
 |[],l,i,h=>by
  cases l with
  |cons _ _=>simp at h
  |nil=>exact .inl ⟨by simp[Instr.findNow],rfl,fun z=>rfl⟩
 |e::es,l,i,h=>by
  cases l with
  |nil=>simp at h
  |cons y r=>
   simp only[a05,a0i,a0j]at h;obtain⟨⟨h1,h2⟩,h3⟩:=h;have he:=heq x y.1;rw[←h1]at he
   cases hq:eqR k x y.1 with
   |true=>
    have e1:=dc.1 hq;refine .inr ⟨0,y.2,?_,?_,?_,fun z=>?_⟩
    ·simp[Instr.findNow,he,hq,h2]
    ·rw[e1];rfl
    ·rw[jl,d0 hq]
    ·simp only[jq,hq,a01,a4v]
   |false=>
    rcases bdg heq v x es r (i+1) h3 with⟨a1,a2,a3⟩|⟨j,z,a1,a2,a3,a4⟩
    ·refine .inl ⟨?_,?_,fun z=>?_⟩
     ·simp[Instr.findNow,he,hq,a1]
     ·rw[jl,ds (by rw[hq];simp)];exact a2
     ·simp only[jq,hq,a02,a3b,a3,a2i]
    ·refine .inr ⟨j+1,z,?_,?_,?_,fun u=>?_⟩
     ·simp[Instr.findNow,he,hq,a1];omega
     ·simpa using a2
     ·rw[jl,ds (by rw[hq];simp)];exact a3
     ·simp only[jq,hq,a02,a3b,a4,List.set_cons_succ]
theorem bft{kty:TypeId}{kd:TypeDesc}{k:T}(hu:P.underlying kty=some kd)(heq:∀(x y:k.den),Instr.sameNow kd (d4 k x) (d4 k y)=some (eqR k x y))
  (hc:∀(w:World) (e:Bool) (x:k.den),(Instr.checkKey e 10000 kty (d4 k x)).run P w=.ok () w) (hs:∀(x:k.den),Instr.sameBits 10000 (d4 k x) (d4 k x)=true):KeyR P kty k:=by
 refine⟨fun w e x _=>hc w e x,fun w v x _ es l _ h=>?_,hs⟩;rcases bdg heq v x es l 0 h with⟨a1,a2,a3⟩|⟨j,y,a1,a2,a3,a4⟩
 ·exact .inl ⟨by simp[Instr.findKey,a0y hu,a1],a2,a3⟩
 ·exact .inr ⟨j,y,by simp[Instr.findKey,a0y hu,a1],a2,a3,a4⟩
theorem bkn(n:Nat):∀vs:List Value,(∀v∈vs,∃q m,v=.int q m)->Instr.sameBits (n+2) (.agg vs.toArray) (.agg vs.toArray)=true:=by intro vs h;simp only[Instr.sameBits,a34,a1u,a1l];intro x hx;obtain⟨i,hi,rfl⟩:=a2f hx;simp only[List.getElem_zip];obtain⟨q,m,hm⟩:=h (vs[i]'(by simp at hi;omega)) (a3c _);simp[hm,Instr.sameBits]
theorem aph:(k:T)->0<k.intsN->(x:k.den)->(sv k x).length=k.intsN/\∀v∈sv k x,∃q m,v=Value.int q m
 |.int k,_,x=>⟨rfl,fun v hv=>⟨k,x,by simpa[sv]using hv⟩⟩
 |.p a b,h,x=>by
  cases a <;> simp only[T.intsN]at h <;> try omega
  rename_i k
  cases hn:b.intsN with
  |zero=>simp[hn]at h
  |succ m=>
   obtain⟨h1,h2⟩:=aph b (by omega) x.2;simp only[sv,T.intsN,hn,a2i,a2s,a0l,h1];refine⟨trivial,fun v hv=>?_⟩;rcases a0s.1 hv with rfl|hv
   ·exact⟨_,_,rfl⟩
   ·exact h2 v hv
 |.bool,h,_=>by simp[T.intsN]at h
 |.str,h,_=>by simp[T.intsN]at h
 |.u,h,_=>by simp[T.intsN]at h
 |.sl _,h,_=>by simp[T.intsN]at h
 |.pt _,h,_=>by simp[T.intsN]at h
 |.fn _ _,h,_=>by simp[T.intsN]at h
 |.ifc _ _,h,_=>by simp[T.intsN]at h
 |.mp _ _,h,_=>by simp[T.intsN]at h
 |.op _,h,_=>by simp[T.intsN]at h
 |.ns _,h,_=>by simp[T.intsN]at h
 |.er _,h,_=>by simp[T.intsN]at h
 |.any,h,_=>by simp[T.intsN]at h
theorem api(w:World)(e:Bool)(n:Nat):∀(fs:List Field) (pre vs:List Value),ac8 P fs pre.length=true->fs.length=vs.length->(∀v∈vs,∃q m,v=Value.int q m)->
  (forIn fs () (fun f (_:Unit)=>(do
   if f.name ≠ "_" then Instr.checkKey e (n + 1) f.type (← part f.type (pre ++ vs).toArray f.offset)
   pure (ForInStep.yield ()):Sem (ForInStep Unit)))).run P w=.ok () w
 |[],_,_,_,_,_=>by simp
 |f::fs,pre,[],_,h,_=>by simp at h
 |f::fs,pre,v::vs,hf,hl,hi=>by
  obtain⟨q,m,rfl⟩:=hi v (by simp);simp only[ac8]at hf
  cases hb : bg [neg (f.name == "_"), Nat.beq f.offset pre.length, afc (P.underlying f.type)] with
  |false=>rw[hb]at hf;cases hf
  |true=>
   rw[hb]at hf;simp only[cond_true]at hf;simp only[au,bh,Bool.and_true,Bool.and_eq_true,kh,Bool.not_eq_true']at hb;obtain⟨h1,h2,h3⟩:=hb;have h2:=Nat.eq_of_beq_eq_true h2;have h1 : f.name ≠ "_" := by simpa using h1
   cases hu:P.underlying f.type with
   |none=>rw[hu]at h3;cases h3
   |some u=>
    rw[hu]at h3;cases u <;> simp only[afc,a02]at h3;have hp:P.plainKey f.type=true:=by simp[Program.plainKey,hu]
    have p1:(part f.type (pre++.int q m::vs).toArray f.offset).run P w=.ok (.int q m) w:=run_part_plain w hp (by rw[h2];simp);have p2:(Instr.checkKey e (n+1) f.type (.int q m)).run P w=.ok () w:=by unfold Instr.checkKey;simp[a0y hu]
    have ih:=api w e n fs (pre++[.int q m]) vs (by simpa using hf) (by simpa using hl) (fun v hv=>hi v (by simp[hv]));simp only[a07,List.singleton_append]at ih;simp only[List.forIn_cons,a1j,h1,ne_eq,not_false_eq_true,a01,a1r,p1,p2,a2m];exact ih
theorem bez(hB:TabOk P B){kty:TypeId}{k:T}(h:ae8 B kty k=true):KeyR P kty k:=by
 cases k with
 |int q=>
  simp only[ae8]at h;split at h
  ·rename_i q' hq;simp only[au,bh,a0k,a0a]at h;obtain⟨h1,h2⟩:=h;have:=we h2;subst this;have e:=hB.τ kty h1;rw[←e]at h1 hq;obtain⟨i,c,hi,hc⟩:=dl h1;rw[gp hi hc]at hq;simp only[nw]at hq;cases c <;> simp at hq;subst hq;refine bft hc (fun x y=>?_) (fun w e x=>?_) (fun x=>?_)
   ·simp only[d4,isP,a0g,sv,a32,Instr.sameNow,a01,bpe]
   ·exact MapKept.run_checkKey hc (by simp[d4,isP,sv,MapKept.IsKey]) e 9999
   ·simp[d4,isP,sv,Instr.sameBits]
  ·cases h
 |str=>
  simp only[ae8,au,bh,a0k,a0a]at h;obtain⟨h1,h2⟩:=h;have e:=hB.τ kty h1;rw[←e]at h1 h2;obtain⟨i,c,hi,hc⟩:=dl h1;rw[gp hi hc]at h2;simp only[nw]at h2;cases c <;> simp at h2;refine bft hc (fun x y=>?_) (fun w e x=>?_) (fun x=>?_)
  ·simp only[d4,isP,a0g,sv,a32,Instr.sameNow,bt3]
  ·exact MapKept.run_checkKey hc (by simp[d4,isP,sv,MapKept.IsKey]) e 9999
  ·simp[d4,isP,sv,Instr.sameBits,(MapKept.bytes_beq _ _).2]
 |p a b=>
  simp only[ae8,am,a0a,fe,a0t,kh,a1i]at h;obtain⟨⟨hko,hka⟩,h1,h2⟩:=h;have hpos:0<(T.p a b).intsN:=by cases hn:(T.p a b).intsN with|zero=>rw[hn]at h1;simp[isZ]at h1|succ n=>omega
  have hz:isZ (B.q kty)=false:=by rw[←h2];exact h1
  have hq:=hB.q kty hz;unfold ax1 at hq;split at hq
  ·rename_i fs hu
   cases hall:bg [neg (P.stoodInHeld kty),neg (P.eqGuardType P.depth kty),ac8 P (toL fs) 0]with
   |false=>rw[hall]at hq;simp only[a0g]at hq;rw[←hq]at hz;cases hz
   |true=>
    rw[hall]at hq;simp only[a0c]at hq;simp only[au,bh,a0k,a0a,kh,a1i]at hall;obtain⟨g1,g2,g3⟩:=hall;have hfs:P.fieldsOf kty=fs:=by simp[Program.fieldsOf,hu]
    have htl:toL fs=fs.toList:=by cases fs;rfl
    rw[htl]at g3 hq;rw[aol]at hq;have hfl:fs.toList.length=(T.p a b).intsN:=by rw[h2,←hq]
    have heq:∀(w:World) (x y:(T.p a b).den),(T.p a b).ok x->(T.p a b).ok y->(Op.equal kty (d4 (.p a b) x) (d4 (.p a b) y)).run P w=.ok (eqR (.p a b) x y) w:=fun w x y hx hy=>by have hev:∀z:(T.p a b).den,d4 (.p a b) z=.agg (sv (.p a b) z).toArray:=fun z=>rfl;rw[hev,hev];obtain⟨n,hn⟩:∃n,(T.p a b).intsN=n+1:=⟨(T.p a b).intsN-1,by omega⟩;have he:=azn (.p a b) n hn x y;have r1:=fw (β:=fun _=>undef) (M:=[]) (Im:=fun _=>False) (w:=w) _ _ _ (axy (.p a b) hpos x hx);have r2:=fw (β:=fun _=>undef) (M:=[]) (Im:=fun _=>False) (w:=w) _ _ _ (axy (.p a b) hpos y hy);show (Op.equalIn (9999+1) kty _ _).run P w=_;rw[run_equalIn_struct w 9999 kty _ _ (by rw[hfs];exact hu) g1,hfs];have:=eqF w P (w0:=w) 9998 (n+1) _ _ _ _ _ [] [] fs.toList he r1 r2 g3 (by rw[hfl,hn]) rfl;simpa using this
    refine⟨fun w e x hx=>?_,fun w v x hx es l hl h=>?_,fun x=>?_⟩
    ·obtain⟨c1,c2⟩:=aph (.p a b) hpos x;show (Instr.checkKey e (9999+1) kty (.agg (sv (.p a b) x).toArray)).run P w=_;unfold Instr.checkKey;simp only[a1j,a0y hu,a1r];rw[←Array.forIn_toList];have:=api (P:=P) w e 9998 fs.toList [] (sv (.p a b) x) g3 (by rw[hfl,c1]) c2;simp at this⊢;rw[this];rfl
    ·cases es with
     |nil=>
      rcases akm heq w v x hx [] l 0 hl h with⟨a1,a2,a3⟩|⟨j,y,a1,_⟩
      ·exact .inl ⟨by simp[Instr.findKey,a0y hu,Instr.findNow],a2,a3⟩
      ·simp[Instr.findAsking]at a1
     |cons e0 es0=>
      have hs:Instr.findNow (.struct fs) (d4 (.p a b) x) (e0::es0) 0=none:=by simp[Instr.findNow,Instr.sameNow]
      rcases akm heq w v x hx (e0::es0) l 0 hl h with⟨a1,a2,a3⟩|⟨j,y,a1,a2,a3,a4⟩
      ·exact .inl ⟨by simp[Instr.findKey,a0y hu,hs,a1],a2,a3⟩
      ·exact .inr ⟨j,y,by simp[Instr.findKey,a0y hu,hs,a1],a2,a3,a4⟩
    ·exact bkn 9998 _ (aph (.p a b) hpos x).2
  ·rename_i n e hu;exfalso;have e1:=hB.τ kty hko;obtain⟨inf,u,hi,hu'⟩:=dl (P:=P) (t:=kty) (by rw[e1];exact hko);rw[hu]at hu';cases hu';rw[←e1,gp hi hu]at hka;simp[nw,isN]at hka
  ·rw[←hq]at hz;cases hz
 |bool=>cases h
 |u=>cases h
 |sl _=>cases h
 |pt _=>cases h
 |fn _ _=>cases h
 |ifc _ _=>cases h
 |mp _ _=>cases h
 |op _=>cases h
 |ns _=>cases h
 |er _=>cases h
 |any=>cases h
theorem bke(hB:TabOk P B){t kty ety:TypeId}(hk:(B.τ t).ok=true)(h:(B.τ t).mp=some (kty,ety)):P.underlying t=some (.map kty ety)/\∀i cs,P.info? ety=some i->i.zero≠some (.agg cs):=by
 have e:=hB.τ t hk;rw[←e]at hk h;obtain⟨inf,c,hi,hc⟩:=dl hk;rw[gp hi hc]at h;simp only[nw]at h;cases c <;> simp only[reduceCtorEq]at h;rename_i k0 e0
 cases hie:P.info? e0 with
 |none=>simp[hie]at h
 |some ie=>
  simp only[hie]at h;split at h
  ·cases h
  ·rename_i z hz hna;cases h;refine⟨hc,fun i cs hi2 hh=>?_⟩;rw[hie]at hi2;cases hi2;rw[hh]at hna;cases hna;exact hz cs rfl
  ·cases h
theorem bqo(hB:TabOk P B){ety:TypeId}{v:T}(h:wi B ety v=true)(hz:∀i cs,P.info? ety=some i->i.zero≠some (.agg cs))(w:World):(zeroValue ety).run P w=.ok (d4 v v.dflt) w:=by
 have key:B.z ety=true->(B.σ ety).beq v=true->(v=.bool\/∃q,v=.int q)->(zeroValue ety).run P w=.ok (d4 v v.dflt) w:=by
  intro h1 h2 h3;obtain⟨i,z,e1,e2,e3⟩:=aek hB h1;have e4:=T.beq_eq h2;rw[e4]at e3;have hr:(zeroValue ety).run P w=.ok z w:=by simp[zeroValue,typeInfo,e1,e2]
  have hc:z.cells=#[z]:=by cases z <;> first|rfl|exact absurd e2 (hz i _ e1)
  rw[hc]at e3;rw[hr];rcases h3 with rfl|⟨q,rfl⟩
  ·cases z <;> simp[ge]at e3;subst e3;rfl
  ·cases z <;> try (simp[ge]at e3;done)
   rename_i k' n
   cases n with
   |negSucc n=>cases e3
   |ofNat n=>
    cases n with
    |zero=>have:=we (show aad q k'=true from e3);subst this;rfl
    |succ n=>cases e3
 cases v <;> simp only[wi,a02]at h
 ·simp only[au,bh,a0k,a0a]at h;exact key h.2.1 h.2.2 (.inr ⟨_,rfl⟩)
 ·simp only[au,bh,a0k,a0a]at h;exact key h.2.1 h.2.2 (.inl rfl)
theorem bjl{ety:TypeId}{v:T}(h:wi B ety v=true){Im:Nat->Prop}{x:v.den}(hx:v.ok x):ai Im w v x [d4 v x]:=by
 cases v <;> simp only[wi,a02]at h
 ·simp only[d4,isP,a0g,sv,a32,ai];exact⟨trivial,hx⟩
 ·simp only[d4,isP,a0g,sv,a32,ai]
theorem bs5{ety:TypeId}{v:T}(h:wi B ety v=true){Im:Nat->Prop}{x:v.den}{vs:List Value}(r:ai Im w v x vs):vs=[d4 v x]:=by
 cases v <;> simp only[wi,a02]at h
 ·simp only[ai]at r;rw[r.1];rfl
 ·simp only[ai]at r;rw[r];rfl
theorem ay4{kty:TypeId}{k:T}(h:ae8 B kty k=true):0<k.intsN\/k=.str:=by
 cases k <;> simp only[ae8,a02]at h
 ·exact .inl (by simp[T.intsN])
 ·exact .inr rfl
 ·rename_i a b;simp only[am,a0a,kh,a1i]at h;refine .inl ?_
  cases hn:(T.p a b).intsN with
  |zero=>rw[hn]at h;simp[isZ]at h
  |succ n=>omega
theorem bfh{Im:Nat->Prop}{β:Nat->Value}{i:V}{iu:Value}{k:T}{y:k.den}(hi:ah β M Im w i iu)(hg:aix i k=true)(hk:0<k.intsN\/k=.str)(ha:i.cells.as k=some y):iu=d4 k y/\k.ok y:=by
 cases i with
 |ag v=>
  simp only[ah]at hi;obtain⟨vs,rfl,hc⟩:=hi;have r:=aai v k vs y hc ha;cases k <;> simp only[aix,a02]at hg;rename_i a b;rcases hk with hk|hk
  ·exact⟨by rw[bfx _ hk y vs r];rfl,ai.ok _ _ _ r⟩
  ·cases hk
 |d t0 x0=>
  rw[bd]at hi;simp only[V.cells,V.as]at ha;have r:=ah0 ha hi;refine⟨?_,ai.ok _ _ _ r⟩;cases k <;> simp only[T.intsN,a31,reduceCtorEq,or_self]at hk
  ·simp only[ai,a0i,a0b]at r;exact r.1
  ·simp only[ai,a0i,a0b]at r;exact r.1
  ·simp[aix]at hg
 |nl=>cases k <;> simp[V.cells,V.as,T.intsN]at ha hk
 |np=>cases k <;> simp[V.cells,V.as,T.intsN]at ha hk
 |u=>cases k <;> simp[V.cells,V.as,T.intsN]at ha hk
 |any=>simp[V.cells,V.as]at ha
 |ref _ _=>simp[V.cells,V.as]at ha
 |ad _ _=>simp[V.cells,V.as]at ha
 |tup _=>simp[V.cells,V.as]at ha
 |gd _ _ _ _=>simp[V.cells,V.as]at ha
 |ifc _ _=>cases k <;> first|(simp[aix]at hg;done)|(simp[V.cells,V.as,T.intsN]at ha hk)
 |p a b=>cases k <;> first|(simp[aix]at hg;done)|(simp[V.cells,V.as]at ha)
 |fn _ _=>cases k <;> first|(simp[aix]at hg;done)|(simp[V.cells,V.as,T.intsN]at ha hk)
 |bx _=>cases k <;> first|(simp[aix]at hg;done)|(simp[V.cells,V.as,T.intsN]at ha hk)
theorem bsz{Im:Nat->Prop}{β:Nat->Value}{ety:TypeId}{i:V}{iu:Value}{v:T}{y:v.den}(hi:ah β M Im w i iu)(hg:neg (qd i)=true)(hk:wi B ety v=true)(ha:i.cells.as v=some y):iu=d4 v y/\v.ok y:=by
 cases i with
 |d t0 x0=>rw[bd]at hi;simp only[V.cells,V.as]at ha;have r:=ah0 ha hi;refine⟨?_,ai.ok _ _ _ r⟩;have:=bs5 hk r;simpa using this
 |ag v=>simp[qd]at hg
 |nl=>cases v <;> simp[V.cells,V.as,wi]at ha hk
 |np=>cases v <;> simp[V.cells,V.as,wi]at ha hk
 |u=>cases v <;> simp[V.cells,V.as,wi]at ha hk
 |any=>simp[V.cells,V.as]at ha
 |ref _ _=>simp[V.cells,V.as]at ha
 |ad _ _=>simp[V.cells,V.as]at ha
 |tup _=>simp[V.cells,V.as]at ha
 |gd _ _ _ _=>simp[V.cells,V.as]at ha
 |ifc _ _=>cases v <;> simp[V.cells,V.as,wi]at ha hk
 |p a b=>cases v <;> simp[V.cells,V.as,wi]at ha hk
 |fn _ _=>cases v <;> simp[V.cells,V.as,wi]at ha hk
 |bx _=>cases v <;> simp[V.cells,V.as,wi]at ha hk
theorem bso(hp:Hp F p M w){x:V}{u:Value}(hx:ah p.β M (Imm F p M w) w x u){q:Mp}(h:bno M x=some q):∃r es n,u=.map (some r)/\w.heap[r]? = some (.map es n)/\(T.mp q.k q.v).ok q.l/\agh q.k q.v es q.l:=by
 unfold bno at h;split at h
 ·cases h;simp only[bd,ai,a0i,a0b]at hx;obtain⟨r,es,n,h1,_,h3,h4⟩:=hx;exact⟨r,es,n,h1,h3,h4⟩
 ·rename_i r π;simp only[ah,aa]at hx;split at h
  ·rename_i k v l hg;cases h;obtain⟨S,hr⟩:=hx.look hp hg;simp only[Rel,a0i,a0b]at hr;obtain⟨r,es,n,h1,_,h3,h4⟩:=hr;exact⟨r,es,n,h1,h3,h4⟩
  ·rename_i k v l hg;cases h;obtain⟨S,hr⟩:=hx.look hp hg;simp only[Rel,ai,a0i,a0b]at hr;obtain⟨r,es,n,h1,_,h3,h4⟩:=hr;exact⟨r,es,n,h1,h3,h4⟩
  ·cases h
 ·cases h
theorem brm{ety:TypeId}{v:T}(hk:wi B ety v=true):v.ok v.dflt:=by
 cases v <;> simp only[wi,a02]at hk
 ·rename_i q;simp only[T.ok,T.dflt];cases q <;> exact⟨by decide,by decide⟩
 ·trivial
theorem blx(hB:TabOk P B)(hp:Hp F p M w){t:TypeId}(x i:V)(u iu:Value)(ok:Bool)(hx:ah p.β M (Imm F p M w) w x u)(hi:ah p.β M (Imm F p M w) w i iu)(hv:ab (aut B t M x i ok).1) :
  ∃r,(Instr.lookup t u iu ok).run P w=.ok r w/\ah p.β M (Imm F p M w) w (aut B t M x i ok).2 r:=by
 unfold aut at hv⊢;split at hv
 ·rename_i kty ety k v l hmp hmo
  cases hk:bg [(B.τ t).ok,ae8 B kty k,wi B ety v,aix i k]with
  |false=>rw[hk]at hv;exact hv.1.elim
  |true=>
   simp only[hk,a0c]at hv⊢;simp only[au,bh,a0k,a0a]at hk;obtain⟨k1,k2,k3,k4⟩:=hk;split at hv
   ·rename_i y hy;obtain⟨hu,hz⟩:=bke hB k1 hmp;have K:=bez hB k2;obtain⟨r,es,n,rfl,hb,hl,he⟩:=bso hp hx hmo;simp only at hl he;obtain⟨rfl,hky⟩:=bfh hi k4 (ay4 k2) hy;simp only[T.ok]at hl;have hc:=K.check w es.isEmpty y hky
    have fin:∀(z:v.den) (b:Bool),v.ok z->(Instr.lookup t (.map (some r)) (d4 k y) ok).run P w=.ok (if ok then .tuple #[d4 v z,.bool b]else d4 v z) w->rj k v l y=z->aj5 k v l y=b->
      ∃r',(Instr.lookup t (.map (some r)) (d4 k y) ok).run P w=.ok r' w/\ah p.β M (Imm F p M w) w (ci (bif ok then .tup (.p (.d v (rj k v l y)) (.p (.d .bool (aj5 k v l y)) .u))else .d v (rj k v l y))).2 r':=by
     intro z b hz' hr h1 h2;refine⟨_,hr,?_⟩;rw[h1,h2]
     cases ok with
     |true=>
      simp only[ci,a0c,a01,ah,cf];refine⟨[d4 v z,.bool b],rfl,_,_,rfl,?_,_,_,rfl,?_,rfl⟩
      ·exact bd.2 (bjl k3 hz')
      ·exact bd.2 (by simp only[ai])
     |false=>simp only[ci,a0g,a02,a3b];rw[bd];exact bjl k3 hz'
    rcases K.find w v y hky es.toList l (fun z hz=>(hl.2 z hz).1) he with⟨a1,a2,_⟩|⟨j,z,a1,a2,a3,_⟩
    ·refine fin v.dflt false (brm k3) ?_ (by simp[rj,a2]) (by simp[aj5,a2]);have h0:=bqo hB k3 hz w;cases ok <;> simp[Instr.lookup,a0y hu,a35 hb,hc,a1,h0]
    ·refine fin z true (hl.2 _ (a3a a2)).2 ?_ (by simp[rj,a3]) (by simp[aj5,a3]);cases ok <;> simp[Instr.lookup,a0y hu,a35 hb,hc,a1]
   ·exact hv.1.elim
 ·exact hv.1.elim
theorem bii(hB:TabOk P B)(h:Hp F p M w)(hL:∀b,¬p.L b){t:TypeId}(dst:Option Nat)(hv:ab (ap8 B t dst M).vc)(qt:Bool) :
  ∃v w',(Instr.makeMap t none).run P w=.ok v w'/\e9 F p M w qt (ap8 B t dst M) v w':=by
 unfold ap8 at hv⊢;split at hv
 ·rename_i kty ety d hmp
  cases hk:bg [(B.τ t).ok]with
  |false=>rw[hk]at hv;exact hv.1.elim
  |true=>
   simp only[hk,a0c]at hv⊢;have hg:=Ext.of_grown (a36 w (.map #[] 0) none) (a0f _);have hnew:(w.alloc (.map #[] 0)).heap[w.heap.size]? = some (.map #[] 0):=a20 w _;have hsz:w.heap.size<(w.alloc (.map #[] 0)).heap.size:=(a03.1 hnew).1;obtain⟨d1,d2⟩:=Hp.del h d;have tn:=Tr.new d1 d (cy d _) (.map (some w.heap.size)) (fun b=>b=w.heap.size) ⟨.mp (B.σ kty) (B.σ ety),[]⟩ (hg.toL p.L) (fun b hb=>.inl (by rw[hb];exact⟨a0f _,hsz⟩)) (fun _=>by simp only[Rel];exact⟨_,_,_,rfl,rfl,hnew,⟨a09 _,fun y hy=>by cases hy⟩,rfl⟩);refine⟨.map (some w.heap.size),w.alloc (.map #[] 0),by simp[Instr.makeMap],_,(Tr.kl h d).trans tn,fun b hb=>hb,?_,?_⟩
   ·simp only[ah,aa];exact⟨_,none,lk _ _ _,by simp only[gok],⟨_,by simp only[get];rfl⟩,by rw[aaf];simp only[res]⟩
   ·exact fun hf _=>bbr (amh hf).1 hg
 ·exact hv.1.elim
theorem bmd{k v:T}{es:Array MapEntry}{l:List (k.den×v.den)}(he:agh k v es l)(x:k.den)(z:v.den)(n:Nat):agh k v (es.push ⟨d4 k x,d4 v z,n⟩) (l++[(x,z)]):=by unfold agh at he⊢;simp only[Array.toList_push,a2o,he,a05,a2j]
theorem bes{k v:T}{es:Array MapEntry}{l:List (k.den×v.den)}(he:agh k v es l)(j:Nat)(x:k.den)(z:v.den):agh k v (es.modify j fun e=>{ e with key:=d4 k x,val:=d4 v z }) (l.set j (x,z)):=by
 unfold agh at he⊢;apply a2a;intro i;have hi:=congrArg (fun L=>L[i]?) he;simp only[a1b,a2t]at hi⊢;rw[Array.getElem?_modify,a3m];have hlen:es.size=l.length:=by have:=congrArg List.length he;simpa using this
 by_cases e:j=i
 ·subst e;simp only[a01];by_cases hj:j<l.length
  ·rw[d0 hj,a23 (by omega)];simp
  ·rw[ds hj,a4s (by omega)];rfl
 ·rw[ds e,ds e];exact hi
theorem baf{t kty ety:TypeId}{k v:T}{r n:Nat}{es:Array MapEntry}{l:List (k.den×v.den)}(hu:P.underlying t=some (.map kty ety))(K:KeyR P kty k)(hb:w.heap[r]? = some (.map es n))(hl:∀y∈l,k.ok y.1)(he:agh k v es l){y:k.den}(hy:k.ok y)(z:v.den) :
  ∃es' n',(Instr.mapUpdate t (.map (some r)) (d4 k y) (d4 v z)).run P w=.ok () { w with heap:=w.heap.setIfInBounds r (.map es' n') }/\agh k v es' (jq k v l y z):=by
 have hc:=K.check w false y hy;rcases K.find w v y hy es.toList l hl he with⟨a1,a2,a3⟩|⟨j,u,a1,a2,a3,a4⟩
 ·refine⟨_,n+1,?_,by rw[a3];exact bmd he y z n⟩;simp only[Instr.mapUpdate,a1j,a0y hu,a1r,a35 hb,hc,a1];rw[MapKept.run_setObj_map _ hb]
 ·refine⟨_,n,?_,by rw[a4];exact bes he j y z⟩
  have hkey:∃e,es[j]? = some e/\e.key=d4 k y:=by
   have hi:=congrArg (fun L=>L[j]?) he;simp only[a1b,a2t,a2,a00]at hi
   cases hj:es[j]? with
   |none=>rw[hj]at hi;cases hi
   |some e=>rw[hj]at hi;simp only[a00,a0d,a0j]at hi;exact⟨e,rfl,hi.1⟩
  obtain⟨e,e1,e2⟩:=hkey;have hst:(Instr.keyThatStays (d4 k y) (d4 k y)).run P w=.ok (d4 k y) w:=by simp[Instr.keyThatStays,K.same]
  simp only[Instr.mapUpdate,a1j,a0y hu,a1r,a35 hb,hc,a1,e1,a00,a0z,e2,hst];rw[MapKept.run_setObj_map _ hb]
theorem arc{k v:T}{l:List (k.den×v.den)}{x:k.den}{z:v.den}:∀{l:List (k.den×v.den)},(jq k v l x z).length<=l.length+1/\∀y∈jq k v l x z,y∈l\/y=(x,z)
 |[]=>by simp[jq]
 |e::r=>by
  have ih:=@arc k v l x z r;simp only[jq];split
  ·simp only[a0l];refine⟨by omega,fun y hy=>?_⟩;rcases a0s.1 hy with h|h
   ·exact .inr h
   ·exact .inl (by simp[h])
  ·simp only[a0l];refine⟨by omega,fun y hy=>?_⟩;rcases a0s.1 hy with h|h
   ·exact .inl (by simp[h])
   ·rcases ih.2 y h with h|h
    ·exact .inl (by simp[h])
    ·exact .inr h
theorem bik(hB:TabOk P B)(h:Hp F p M w)(hL:∀b,¬p.L b){t:TypeId}(m i x:V)(u iu xu:Value)(hm:ah p.β M (Imm F p M w) w m u)(hi:ah p.β M (Imm F p M w) w i iu)(hx:ah p.β M (Imm F p M w) w x xu)(hv:ab (aqi B t m i x M).vc) :
  ∃w',(Instr.mapUpdate t u iu xu).run P w=.ok () w'/\e9 F p M w false (aqi B t m i x M) undef w':=by
 unfold aqi at hv⊢;split at hv
 ·rename_i kty ety r π hmp;split at hv
  ·rename_i ob hob;split at hv
   ·rename_i k v l hq
    cases hk:bg [(B.τ t).ok,ae8 B kty k,wi B ety v,aix i k,neg (qd x)]with
    |false=>rw[hk]at hv;exact hv.1.elim
    |true=>
     simp only[hk,a0c]at hv⊢;simp only[au,bh,a0k,a0a]at hk;obtain⟨k1,k2,k3,k4,k5⟩:=hk;split at hv
     ·rename_i y z hy hz;split at hv
      ·rename_i ob' hset;split at hv
       ·rename_i x' hcast;simp only[cr,da,a0b]at hv;have hob':=vf hcast;obtain⟨hu,_⟩:=bke hB k1 hmp;have K:=bez hB k2;simp only[ah,aa]at hm;obtain⟨ob1,pl,q1,q2,q3,q4⟩:=hm;rw[hob]at q1;cases q1;obtain⟨us,pl',S',e1,e2,e3,e4,e5,e6⟩:=look h hob q2 hq;rw[e1]at q4;simp only[a0d,a0j]at q4;obtain⟨rfl,rfl⟩:=q4;simp only[Rel,a0i,a0b]at e3;obtain⟨rr,es,n,rfl,hSr,hb,hl,he⟩:=e3;obtain⟨rfl,hky⟩:=bfh hi k4 (ay4 k2) hy;obtain⟨rfl,hzv⟩:=bsz hx k5 k3 hz;simp only[T.ok]at hl;obtain⟨es',n',hrun,he'⟩:=baf hu K hb (fun a ha=>(hl.2 a ha).1) he hky z;refine⟨_,hrun,?_⟩;generalize hw':({ w with heap:=w.heap.setIfInBounds rr (.map es' n') }:World)=w';have hsz:w'.heap.size=w.heap.size:=by subst hw';simp
        have hold:∀c,c≠rr->w'.heap[c]? = w.heap[c]?:=fun c hc=>by subst hw';simp[Array.getElem?_setIfInBounds,a0w hc]
        have hnew:w'.heap[rr]? = some (.map es' n'):=by have:=(a03.1 hb).1;subst hw';simp[Array.getElem?_setIfInBounds,this]
        have hlen:=(@arc k v l y z l).1;have hroom:l.length+1<=nb:=by simpa[ey]using hv
        have hok:(T.mp k v).ok (jq k v l y z):=by
         simp only[T.ok];refine⟨by omega,fun a ha=>?_⟩;rcases (@arc k v l y z l).2 a ha with h1|h1
         ·exact hl.2 a h1
         ·subst h1;exact⟨hky,hzv⟩
        have hlr:=bo hob;have hrrσ:p.σ r rr:=e2 rr hSr
        have hout:di π ob.o [p.β r] [.map (some rr)]=[p.β r]:=by
         cases hh:cm π with
         |true=>exact nq π _ _ _ hh
         |false=>
          obtain⟨m,g1,g2,g3,g4,g5⟩:=e5 hh;rw[g5 _ rfl];refine mt (fun j u hu=>?_);rw[g3,a1e]at hu;split at hu
          ·rw[a1c]at hu;exact hu
          ·cases hu
        let S2:Nat->Prop:=fun c=>(p.σ r c/\¬S' c)\/S' c
        have hS2:∀c,S2 c->p.σ r c:=fun c hc=>hc.elim (fun h=>h.1) (e2 c);let Im':Nat->Prop:=fun b=>b<w'.heap.size/\(Imm F p M w b\/p.σ r b\/w.heap.size<=b)/\¬S2 b/\¬False
        have hkeep:gn (Imm F p M w) Im' w w':=fun b hb'=>by have hns:¬p.σ r b:=hb'.2.2.2 r hlr;exact⟨⟨by rw[hsz];exact hb'.1,.inl hb',fun hc=>hns (hS2 b hc),fun h=>h⟩,hold b (fun e=>hns (e▸hrrσ))⟩
        have hwd:=e6 Im' w' ⟨.mp k v,jq k v l y z⟩ S' [.map (some rr)] ob' hset rfl (by
         simp only[Rel];exact⟨rr,es',n',rfl,hSr,hnew,hok,he'⟩) hkeep (fun c hc _=>hc)
         (fun hh b off hp cur ty' hbb=>by obtain⟨b0,off0,cur0,ty0,g1,g2,g3,g4,g5⟩:=e4 hh;rw[g1]at hp;cases hp;rw[g4]at hbb;cases hbb;rw[hold b (fun e=>g3 (e▸hSr)),g4,mt (by simpa using g5)])
         (fun c hc hn _=>hold c (fun e=>hn (e▸hSr)))
        rw[hout,hob']at hwd;obtain⟨p',t1,t2,_⟩:=al0 (w':=w') (A:=Imm F p M w) (S':=S2) (R:=fun _=>False) h hL (k:=r) (o:=ob.o) (x:=ob.x) (x':=x') hob (fun b hb=>hb) ⟨by subst hw';rfl,by subst hw';exact⟨rfl,a0f _⟩,by subst hw';rfl,by rw[hsz];exact a0f _,fun b _ hns=>hold b (fun e=>hns (e▸hrrσ))⟩ (fun b hb=>hb.elim) (fun b hb=>⟨.inl (hS2 b hb),fun h=>h⟩) hwd.2;exact⟨p',t1,fun b hb=>(t2 b).1 hb,by simp only[ah],fun _ hq=>by cases hq⟩
       ·exact hv.1.elim
      ·exact hv.1.elim
     ·exact hv.1.elim
   ·exact hv.1.elim
  ·exact hv.1.elim
 ·exact hv.1.elim
end
end Go.Bm
/- The du machine:interfaces. -/
namespace Go.Bm
open Go.RowKit
variable {P:Program} {B:Tab} {F:Fr} {p:Ow} {M:Mem} {w:World}
theorem bgg:∀{l:List Mth} {t i:TypeId},apt P l=true->bcl l t i=true->∃inf,P.info? t=some inf/\bn1 P inf.methods (P.underlying i)=true
 |[],_,_,_,h=>by cases h
 |e::r,t,i,ha,h=>by
  simp only[apt,am,a0a]at ha;simp only[bcl,mi,am,a1f,a0a]at h;rcases h with⟨h1,h2⟩|h
  ·have e1:e.t=t:=a0v h1;have e2:e.i=i:=a0v h2;subst e1;subst e2;have hm:=ha.1;unfold bh3 at hm;split at hm
   ·rename_i inf hi;simp only[au,bh,a0k,a0a]at hm;exact⟨inf,hi,hm.2.1⟩
   ·cases hm
  ·exact bgg ha.2 h
theorem bbp:∀{l:List Mth} {t:TypeId} {n:String} {f:FuncId},apt P l=true->av1 l t n=some f->∃inf,P.info? t=some inf/\aw5 (P.underlying t)=true/\isM f (inf.methods.find? (·.name==n))=true
 |[],_,_,_,_,h=>by cases h
 |e::r,t,n,f,ha,h=>by
  simp only[apt,am,a0a]at ha;unfold av1 at h
  cases hc:nob (Nat.beq e.t t) (e.name==n)with
  |true=>
   rw[hc]at h;cases h;simp only[am,a0a]at hc;have e1:e.t=t:=a0v hc.1;have e2:e.name=n:=by simpa using hc.2
   subst e1;subst e2;have hm:=ha.1;unfold bh3 at hm;split at hm
   ·rename_i inf hi;simp only[au,bh,a0k,a0a]at hm;exact⟨inf,hi,hm.1,hm.2.2⟩
   ·cases hm
  |false=>rw[hc]at h;exact bbp ha.2 h
theorem bky{l:List Mth}{t:TypeId}{n:String}{f:FuncId}(ha:apt P l=true)(h:av1 l t n=some f)(k:Nat)(v:Value):(method (k+1) t v n).run P w=.ok (f,v) w:=by
 obtain⟨inf,h1,h2,h3⟩:=bbp ha h;unfold isM at h3;split at h3
 ·rename_i m hm;split at h3
  ·rename_i g b hp hf;simp only[am,a0a,kh,a1i]at h3;have e:f=g:=a0v h3.1;subst e
   cases hu:P.underlying t with
   |none=>rw[hu]at h2;cases h2
   |some d=>
    rw[hu]at h2;cases d <;> simp only[aw5,a02]at h2;have hpe:m.path.toList=[]:=by rw[←dh];exact hp
    simp[method,run_typeInfo w h1,hm,hpe,follow,hf,h3.2,receiverAt,a0y hu,Place.get]
  ·cases h3
 ·cases h3
theorem bkc{x v:V}{t:TypeId}{u:Value}{β:Nat->Value}{Im:Nat->Prop}(hx:ah β M Im w x u)(h:inI x=some (t,v)):∃y,u=.iface t y/\aa β M Im w v [y]:=by
 unfold inI at h;split at h
 ·cases h;simp only[ah,aa]at hx;obtain⟨y,h1,h2⟩:=hx;exact⟨y,by simpa using h1,h2⟩
 ·cases h;rw[bd]at hx;simp only[ai]at hx;obtain⟨y,h1,h2⟩:=hx;exact⟨y,by simpa using h1,fw _ _ _ h2⟩
 ·cases h
theorem bot(hB:TabOk P B)(hp:Hp F p M w){t:TypeId}(x:V)(u:Value)(hx:ah p.β M (Imm F p M w) w x u)(hv:ab (ba0 B t M x).1) :
  ∃r,(Instr.makeInterface t u).run P w=.ok r w/\ah p.β M (Imm F p M w) w (ba0 B t M x).2 r:=by
 unfold ba0 at hv⊢;split at hv
 ·rename_i s
  cases hk:bg [(B.τ t).ok,(B.τ t).agg]with
  |false=>rw[hk]at hv;exact hv.1.elim
  |true=>
  simp only[a0c];simp only[au,bh,a0k,a0a]at hk;obtain⟨k1,k2⟩:=hk;have hty:=hB.τ t k1
  have hc:P.concrete t=true:=by
   unfold ty at hty;split at hty
   ·rename_i i d h1 h2;unfold Program.concrete;rw[h2];cases d <;> first|rfl|(rw[←hty]at k2;simp[nw]at k2)
   ·rw[←hty]at k1;cases k1
  simp only[ah]at hx;obtain⟨vs,rfl,r⟩:=hx;simp only[aa,ai]at r;obtain⟨rfl,_⟩:=r;exact⟨_,run_makeInterface w t _ hc,by simp only[ci];rw[bd];simp only[ai];exact .inr ⟨s,trivial,rfl⟩⟩
 ·rename_i hne
  cases hk:bg [(B.τ t).ok,neg (isN (B.τ t).el),neg (qd x),jx M x 1]with
  |false=>rw[hk]at hv;exact hv.1.elim
  |true=>
   simp only[a0c];simp only[au,bh,a0k,a0a]at hk;obtain⟨k1,k2,k3,k4⟩:=hk;have hty:=hB.τ t k1
   have hc:P.concrete t=true:=by
    unfold ty at hty;split at hty
    ·rename_i i d h1 h2;unfold Program.concrete;rw[h2];cases d <;> first|rfl|(rw[←hty]at k2;simp[nw,isN]at k2)
    ·rw[←hty]at k1;cases k1
   refine⟨.iface t u,run_makeInterface w t u hc,?_⟩;have k3':qd x=false:=by simpa using k3
   have hcx:x.cells=x:=by cases x <;> first|rfl|(simp[qd]at k3')
   have hcc:kw x=true:=acl (M:=M) (n:=1) (by rw[hcx];exact ld k4);obtain⟨vs,_,a2,a3⟩:=xn hp hx hcc;rw[a2 k3',hcx]at a3;simp only[ci,ah,aa];exact⟨u,rfl,a3⟩
theorem bo1(hB:TabOk P B){i xt:TypeId}(ok:Bool)(x:V)(u:Value){β:Nat->Value}{Im:Nat->Prop}(hx:ah β M Im w x u)(hv:ab (ba4 B i ok x).1) :
  ∃r,(Instr.typeAssert u xt i ok).run P w=.ok r w/\ah β M Im w (ba4 B i ok x).2 r:=by
 unfold ba4 at hv⊢;split at hv
 ·rename_i t v hin;obtain⟨y,rfl,hy⟩:=bkc hx hin
  cases hm:bcl B.m t i with
  |false=>rw[hm]at hv;exact hv.1.elim
  |true=>
   simp only[a0c];obtain⟨inf,h1,h2⟩:=bgg hB.m hm
   cases hu:P.underlying i with
   |none=>rw[hu]at h2;cases h2
   |some d=>
    rw[hu]at h2;cases d <;> simp only[bn1,a02]at h2;rename_i want
    have hn:Instr.missingMethod want inf.methods=none:=by
     cases hq:Instr.missingMethod want inf.methods with
     |none=>rfl
     |some _=>rw[hq]at h2;cases h2
    cases ok with
    |true=>refine⟨.tuple #[.iface t y,.bool true],by simp[Instr.typeAssert,a0y hu,run_typeInfo w h1,hn],?_⟩;simp only[ci,a0c,ah,cf];exact⟨_,rfl,_,_,rfl,hx,_,_,rfl,bd.2 (by simp only[ai]),rfl⟩
    |false=>exact⟨.iface t y,by simp[Instr.typeAssert,a0y hu,run_typeInfo w h1,hn],by simpa only [ci,a0g]using hx⟩
 ·exact hv.1.elim
end Go.Bm
/- The du machine:every operation is sound. -/
namespace Go.Bm
open Go.RowKit
section
variable {F:Fr} {p p' p'':Ow} {env:Env} {M M' M'':Mem} {a:Act} {w w' w'':World} {P:Program} {B:Tab}
theorem au5{o:Oper}{K:Act->World->Prop}{Q:Exit->Act->World->Prop}{v:Value}{w':World}(h:(execOp a.eval o).run P w=.ok (.value v) w')(hk:K (a.put o.dst v) w'):o.wp P a w K Q:=by unfold Oper.wp;rw[h];exact hk
theorem bby{o:Oper}{K:Act->World->Prop}{Q:Exit->Act->World->Prop}{w':World}(h:(execOp a.eval o).run P w=.ok .skip w')(hk:K (a.put o.dst undef) w'):o.wp P a w K Q:=by unfold Oper.wp;rw[h];exact hk
theorem bl3{Im:Nat->Prop}{t:T}{l:List t.den}{oa:Option Addr}{cap lo hi:Nat}(h:ai Im w (.sl t) l [.slice oa l.length cap])(h1:lo<=hi)(h2:hi<=l.length) :
  ai Im w (.sl t) ((l.take hi).drop lo) [sliced oa lo hi cap t.size]:=by
 have hlen:((l.take hi).drop lo).length=hi-lo:=by rw[a1n,a1d];omega
 simp only[ai,a0i,a0b,Value.slice.injEq]at h⊢;obtain⟨oa',cap',⟨rfl,_,rfl⟩,⟨g1,g2⟩,g3,g4⟩:=h;refine⟨if cap=lo then oa else oa.map (·.add (lo*t.size)),cap-lo,by simp only[sliced,hlen],⟨by omega,by omega⟩,fun hn=>?_,fun ad had hpos=>?_⟩
 ·have:oa=none:=by
   split at hn
   ·exact hn
   ·cases oa with
    |none=>rfl
    |some _=>cases hn
  obtain⟨e1,e2⟩:=g3 this;omega
 ·have hne:cap≠lo:=by omega
  rw[ds hne]at had
  cases oa with
  |none=>cases had
  |some ad0=>
   simp only[a00,a0d]at had;obtain⟨k1,k2,k3⟩:=g4 ad0 rfl (by omega);obtain⟨b,o,s⟩:=ad0;simp only at k1 k2 k3;subst k1;rw[a2u]at had;subst had;refine⟨rfl,k2,fun i x hx=>?_⟩;rw[a1c,a1e]at hx;split at hx
   ·obtain⟨us,u1,u2⟩:=k3 (lo+i) x hx;refine⟨us,?_,u2⟩;rw[a1q,←a3k]at u1;exact u1
   ·cases hx
theorem tn1{n:Int}{m:Nat}(h:n<=m):n.toNat<=m:=by omega
theorem tn2{a b:Int}(h:a<=b):a.toNat<=b.toNat:=by omega
theorem bge(hB:TabOk P B){t:TypeId}{x0:Operand}{lo0 hi0:Option Operand}(x:V)(f:Operand->V)(hx:ah p.β M (Imm F p M w) w x (a.eval x0))(hlo:∀y,lo0=some y->ah p.β M (Imm F p M w) w (f y) (a.eval y))(hhi:∀y,hi0=some y->ah p.β M (Imm F p M w) w (f y) (a.eval y))
  (hv:ab (bbs B (B.τ t) x (wm f lo0) (wm f hi0)).1):∃r,(Instr.sliceAt t (a.eval x0) (lo0.map a.eval) (hi0.map a.eval) none).run P w=.ok r w/\ah p.β M (Imm F p M w) w (bbs B (B.τ t) x (wm f lo0) (wm f hi0)).2 r:=by
 unfold bbs at hv⊢;split at hv
 ·rename_i te l e he;have hk:=io hv;simp only[hk,a0c]at hv⊢;simp only[au,bh,a0k,a0a,fe,a0t]at hk;obtain⟨k1,k2,k3⟩:=hk;have eτ:=hB.τ t k1;have eτ':=hB.τ e k2;rw[←eτ]at k1 he;rw[←eτ']at k2 k3;obtain⟨inf,u,hi,hu⟩:=dl k1;obtain⟨infe,ue,hie,hue⟩:=dl k2;rw[gp hi hu]at he;rw[gp hie hue]at k3;simp only[nw]at he k3;cases u <;> simp at he;obtain rfl:=he.symm;rw[bd]at hx;have hx0:=hx;simp only[ai,a0i,a0b]at hx;obtain⟨oa,cap,hsl,⟨hn,hcap⟩,_⟩:=hx;rw[hsl]at hx0;have hel:P.elem t=e:=by simp[Program.elem,hu]
  have hu':P.underlying t=some (.slice (P.elem t)):=by rw[hel];exact hu
  have hsz:(sizeOf (P.elem t)).run P w=.ok infe.size w:=by rw[hel];simp[sizeOf,typeInfo,hie]
  have fin:∀(lo hi:Nat) (lv hv:Option Value),lo<=hi->hi<=l.length->(Instr.slice t (.slice oa l.length cap) lv hv none).run P w=((sizeOf (P.elem t)).run P w).andThen (fun s w=>.ok (sliced oa lo hi cap s) w)->∀z,z=(l.take hi).drop lo->
    ∃r,(Instr.sliceAt t (a.eval x0) lv hv none).run P w=.ok r w/\ah p.β M (Imm F p M w) w (.d (.sl te) z) r:=fun lo hi lv hv h1 h2 hrun z hz=>by
   refine⟨sliced oa lo hi cap infe.size,?_,?_⟩
   ·rw[run_sliceAt_slice w t _ _ _ _ hu',hsl,hrun,hsz];rfl
   ·rw[bd,hz,←k3];exact bl3 hx0 h1 h2
  cases lo0 with
  |none=>
   cases hi0 with
   |none=>exact fin 0 l.length none none (a09 _) (a0f _) (run_slice_all w t oa l.length cap hu') l (by simp)
   |some yh=>
    have h2:=hhi yh rfl;simp only[wm]at hv⊢;split at hv
    ·rename_i heq;cases heq
    ·rename_i heq;cases heq
    ·rename_i kb b e1 e2;simp only[a0d]at e2;rw[e2,bd,c9]at h2;simp only[cr,da,a0b]at hv;simp only[e2];have hb2:(b:Int)<=(l.length:Int):=hv.2;refine fin 0 b.toNat none (some (a.eval yh)) (a09 _) ?_ (by rw[h2.1];exact run_slice_h w t oa l.length cap hu' kb b hv.1 (Int.le_trans hb2 (Int.ofNat_le.2 hcap))) _ (by simp);exact tn1 hb2
    ·rename_i heq _;cases heq
    ·exact hv.1.elim
  |some yl=>
   have h1:=hlo yl rfl
   cases hi0 with
   |none=>
    simp only[wm]at hv⊢;split at hv
    ·rename_i heq _;cases heq
    ·rename_i ka b e1 e2;simp only[a0d]at e1;rw[e1,bd,c9]at h1;simp only[cr,da,a0b]at hv;simp only[e1];have hb2:(b:Int)<=(l.length:Int):=hv.2;refine fin b.toNat l.length (some (a.eval yl)) none ?_ (a0f _) (by rw[h1.1];exact run_slice_l w t oa l.length cap hu' ka b hv.1 hb2) _ (by simp);exact tn1 hb2
    ·rename_i heq _;cases heq
    ·rename_i heq;cases heq
    ·exact hv.1.elim
   |some yh=>
    have h2:=hhi yh rfl;simp only[wm]at hv⊢;split at hv
    ·rename_i heq _;cases heq
    ·rename_i heq;cases heq
    ·rename_i heq _;cases heq
    ·rename_i ka b kb c e1 e2;simp only[a0d]at e1 e2;rw[e1,bd,c9]at h1;rw[e2,bd,c9]at h2;simp only[cr,da,a0b]at hv;simp only[e1,e2];obtain⟨v1,v2,v3⟩:=hv;have hb2:(b:Int)<=c:=v2;have hb3:(c:Int)<=(l.length:Int):=v3;refine fin b.toNat c.toNat (some (a.eval yl)) (some (a.eval yh)) ?_ ?_ (by rw[h1.1,h2.1];exact run_slice_lh w t oa l.length cap hu' ka kb b c v1 v2 (Int.le_trans hb3 (Int.ofNat_le.2 hcap))) _ rfl
     ·exact tn2 hb2
     ·exact tn1 hb3
    ·exact hv.1.elim
 ·exact hv.1.elim
theorem alu:(vs:List V)->(M:Mem)->Hp F p M w->Tr F p M w (mw M vs).1 p (mw M vs).2 w
 |[],M,h=>by simp only[mw];exact Tr.refl h
 |v::r,M,h=>by simp only[mw];have h1:=wa v M h;exact h1.trans (alu r _ h1.hp)
theorem bg2:(vs:List V)->(M:Mem)->((mw M vs).1=[]/\(mw M vs).2=M)\/∃x r,(mw M vs).1=x::r/\fm M [x]=false
 |[],M=>.inl ⟨rfl,rfl⟩
 |v::r,M=>by
  simp only[mw];rcases ye v M with⟨h1,h2⟩|⟨x,e,h1,h2⟩
  ·rw[h1,h2];simp only[ap];exact bg2 r M
  ·exact .inr ⟨x,_,by rw[h1];rfl,h2⟩
theorem bdt:(ks:List Nat)->(M:Mem)->Hp F p M w->Tr F p M w (klL ks) p (qr ks M) w
 |[],M,h=>by simp only[klL,qr];exact Tr.refl h
 |k::r,M,h=>by simp only[klL,qr];have h1:=Tr.kl h k;exact h1.trans (bdt r _ h1.hp)
theorem aqt:(ks:List Nat)->(M:Mem)->(k:Nat)->(k∈ks\/go M k=none->go (qr ks M) k=none)/\(k∉ks->go (qr ks M) k=go M k)
 |[],M,k=>⟨fun h=>Or.elim h (fun h=>by cases h) (fun h=>h),fun _=>rfl⟩
 |i::r,M,k=>by
  simp only[qr];obtain⟨h1,h2⟩:=aqt r (del i M) k;refine⟨fun h=>h1 ?_,fun h=>?_⟩
  ·rcases h with h|h
   ·rcases a0s.1 h with rfl|h
    ·exact .inr (cy k M)
    ·exact .inl h
   ·by_cases e:k=i
    ·subst e;exact .inr (cy k M)
    ·exact .inr (by rw[dm e];exact h)
  ·simp only[a0s,not_or]at h;rw[h2 h.2,dm h.1]
theorem ays:(ks:List Nat)->fm M (klL ks)=true->∀k∈ks,go M k=none
 |[],_,k,hk=>by cases hk
 |i::r,h,k,hk=>by
  obtain⟨h1,h2⟩:=amh h;rcases a0s.1 hk with rfl|hk
  ·exact h1
  ·exact ays r h2 k hk
theorem ji.keep{Im Im':Nat->Prop}(hk:∀b,Im b->Im' b):(rs:List (Bool×O))->(x:je rs)->(S:Nat->Prop)->(us:List Value)->ji Im w rs x S us->ji Im' w rs x S us
 |[],x,S,us,r=>by simpa only [ji]using r
 |q::rs,x,S,us,r=>by simp only[ji]at r⊢;obtain⟨u,us',vs,S1,S2,e1,e2,e3,e4,e5,e6,e7,e8⟩:=r;exact⟨u,us',vs,S1,S2,e1,e2,e3,e4,e5,e6,Rel.keep (fun b hb=>⟨hk b hb,rfl⟩) _ _ _ _ (fun _ _=>rfl) e7,ji.keep hk rs _ _ _ e8⟩
theorem be0{β:Nat->Value}{Im:Nat->Prop}(rs:List (Bool×O))(v:V)(us:List Value)(hl:us.length=rs.length)(r:cf β M Im w v us):ah β M Im w (apd rs v) (nx us):=by
 match rs,us,hl with
 |[],[],_=>simp only[apd,nx,ah];exact⟨[],rfl,r⟩
 |[q],[u],_=>
  cases v with
  |p a b=>simp only[cf]at r;obtain⟨u',us',e,h1,h2⟩:=r;simp only[a0i]at e;obtain⟨rfl,_⟩:=e;simp only[apd,nx];exact h1
  |u=>simp only[cf]at r;cases r
  |_=>simp only[cf]at r
 |q::q'::rs,u::u'::us,_=>simp only[apd,nx,ah];exact⟨_,rfl,r⟩
theorem atw{Im:Nat->Prop}:(rs:List (Bool×O))->(x:je rs)->(S:Nat->Prop)->(us:List Value)->ji Im w rs x S us->us.length=rs.length
 |[],x,S,us,r=>by simp only[ji]at r;rw[r];rfl
 |q::rs,x,S,us,r=>by simp only[ji]at r;obtain⟨u,us',vs,S1,S2,rfl,_,_,_,_,_,_,e8⟩:=r;simp[atw rs _ _ _ e8]
theorem bf3(h:Hp F p M w)(hL:∀b,¬p.L b)(ct:Ct)(d:Nat)(x:dy ct.args){A:Nat->Prop}(hA:ct.sh=true->∀b,A b->Imm F p M w b){rs:List Value}{S:Nat->Prop}
  (he:Ext w w') (hS:∀b,S b->w.heap.size<=b/\b<w'.heap.size) (hr:ji (fun b=>b<w'.heap.size/\(ct.sh=true/\A b\/w.heap.size<=b)/\¬S b) w' ct.rt (ct.res x) S rs) {N:Mem} {v:V} {j':Nat} (hN:newL d 0 ct.rt (ct.res x)=(v,N,j')) :
  ∃p',Tr F p M w (klL (cc N)) p' (ap N (qr (cc N) M)) w'/\(∀b,¬p'.L b)/\ah p'.β (ap N (qr (cc N) M)) (Imm F p' (ap N (qr (cc N) M)) w') w' (apd ct.rt v) (nx rs)/\
   (fm M (klL (cc N))=true->Qt p M p' (ap N (qr (cc N) M)) w w'):=by
 have h1:=bdt (cc N) M h;have h2:=Tr.grow h1.hp hL he S hS
 have hkeep:∀b,(fun b=>b<w'.heap.size/\(ct.sh=true/\A b\/w.heap.size<=b)/\¬S b) b->Imm F ⟨p.β,p.σ,S⟩ (qr (cc N) M) w' b:=fun b ⟨b1,b2,b3⟩=>by
  rcases b2 with⟨b2,b4⟩|b2
  ·have:=hA b2 b b4;exact⟨b1,this.2.1,b3,(h1.keep b this).1.2.2.2⟩
  ·refine⟨b1,.inr (.inr (a08 h.size b2)),b3,fun k hk hs=>?_⟩;have:=(h1.hp.own k b hk hs).1;omega
 obtain⟨hle,hkeys⟩:=aqe d ct.rt 0 (ct.res x);have hnew:=ayq (F:=F) (w:=w') d j' ct.rt (qr (cc N) M) ⟨p.β,p.σ,S⟩ 0 (ct.res x) S rs h2.hp (ji.keep hkeep _ _ _ _ hr) (fun b hb=>hb);rw[hN]at hnew hle hkeys;simp only at hnew hle hkeys;obtain⟨p2,a1,a2⟩:=hnew (a0f _) (fun i hi hij=>(aqt (cc N) M _).1 (.inl (hkeys i hi hij)));have h3:=Tr.drop a1.tr.hp (fun _=>False) (fun b hb=>hb.elim);refine⟨⟨p2.β,p2.σ,fun _=>False⟩,?_,fun b hb=>hb,?_,fun hf=>⟨he,fun j ob hj=>?_⟩⟩
 ·have h4:=h1.trans (h2.trans (a1.tr.trans h3));simpa only [ap,aih]using h4
 ·have h5:=h3.s _ _ (be0 ct.rt v rs (atw _ _ _ _ hr) a2);simpa only [V.evs]using h5
 ·have hn:j∉cc N:=fun hk=>by have:=ays _ hf j hk;rw[this]at hj;cases hj
  have:=a1.old j ob (by rw[(aqt (cc N) M j).2 hn];exact hj);exact this
theorem al2(f:Operand->V):∀(l:List Operand) (i:Nat),(rz f l)[i]? = (l[i]?).map f
 |[],i=>by simp[rz]
 |x::l,0=>by simp[rz]
 |x::l,i+1=>by simp only[rz,a2h];exact al2 f l i
theorem al7(f:Operand->V):∀l:List Operand,(rz f l).length=l.length
 |[]=>rfl
 |x::l=>by simp[rz,al7 f l]
variable {Φ:FuncId->Option Ct}
theorem bs6{v c:V}{u:Value}{f:FuncId}(h:ah p.β M (Imm F p M w) w v u)(hf:ako v=some (f,c)):∃us:List Value,u=.func (.func f) #[] us.toArray/\aa p.β M (Imm F p M w) w c us:=by
 unfold ako at hf;split at hf
 ·cases hf;simp only[ah,aa]at h;obtain⟨us,e,h1⟩:=h;exact⟨us,by simpa using e,h1⟩
 ·cases hf;simp only[ah,aa,ai]at h;obtain⟨us,e,h2⟩:=h;exact⟨us,by simpa using e,fw _ _ _ h2⟩
 ·cases hf
theorem bgl(hp:Hp F p M w):(c:V)->(us:List Value)->(cs:List V)->aa p.β M (Imm F p M w) w c us->qv M c=some cs->us.length=cs.length/\∀(i:Nat) v u,cs[i]? = some v->us[i]? = some u->ah p.β M (Imm F p M w) w v u
 |.u,us,cs,r,h=>by simp only[qv,a0d]at h;simp only[aa]at r;subst h;subst r;exact⟨rfl,fun i v u hv=>by simp at hv⟩
 |.p a b,us,cs,r,h=>by
  simp only[qv]at h;simp only[aa]at r;obtain⟨va,vb,rfl,r1,r2⟩:=r
  cases hb:qv M b with
  |none=>rw[hb]at h;cases h
  |some rs=>
   rw[hb]at h
   cases hs:jx M a 1 with
   |false=>simp only[hs]at h;cases h
   |true=>
    simp only[hs,a0c,a0d]at h;subst h;have hl:=u4 hp a va 1 r1 (ld hs);obtain⟨k1,k2⟩:=bgl hp b vb rs r2 hb
    match va,hl with
    |[u0],_=>
     refine⟨by simp[k1],fun i v u hv hu=>?_⟩
     cases i with
     |zero=>simp only[a1s,a2i,a0d]at hv hu;subst hv;subst hu;exact a7 r1
     |succ i=>exact k2 i v u (by simpa using hv) (by simpa using hu)
 |.any,_,_,_,h=>by simp[qv]at h
 |.nl,_,_,_,h=>by simp[qv]at h
 |.np,_,_,_,h=>by simp[qv]at h
 |.d _ _,_,_,_,h=>by simp[qv]at h
 |.ref _ _,_,_,_,h=>by simp[qv]at h
 |.ad _ _,_,_,_,h=>by simp[qv]at h
 |.ag _,_,_,_,h=>by simp[qv]at h
 |.tup _,_,_,_,h=>by simp[qv]at h
 |.gd _ _ _ _,_,_,_,h=>by simp[qv]at h
 |.fn _ _,_,_,_,h=>by simp[qv]at h
 |.ifc _ _,_,_,_,h=>by simp[qv]at h
 |.bx _,_,_,_,h=>by simp[qv]at h
theorem bfa(hp:Hp F p M w):(vs:List V)->(us:List Value)->(c:V)->us.length=vs.length->(∀(i:Nat) v u,vs[i]? = some v->us[i]? = some u->ah p.β M (Imm F p M w) w v u)->ayj M vs=some c->aa p.β M (Imm F p M w) w c us
 |[],us,c,hl,_,h=>by simp only[ayj,a0d]at h;subst h;simp only[aa];exact a11 hl
 |v::vs,us,c,hl,hr,h=>by
  simp only[ayj]at h
  cases hc:ayj M vs with
  |none=>rw[hc]at h;cases h
  |some c'=>
   rw[hc]at h
   cases hk:nob (neg (qd v)) (jx M v 1)with
   |false=>simp only[hk]at h;cases h
   |true=>
    simp only[hk,a0c,a0d]at h;subst h;simp only[am,a0a,kh,a1i]at hk
    match us,hl with
    |u::us,hl=>
     have h0:=hr 0 v u rfl rfl;have ih:=bfa hp vs us c' (by simpa using hl) (fun i v u hv hu=>hr (i+1) v u (by simpa using hv) (by simpa using hu)) hc;have hcv:kw v=true:=by have hs:=ld hk.2;cases v <;> first|rfl|(simp[V.size]at hs;done)|(simp[qd]at hk;done)
     obtain⟨vs1,_,a2,a3⟩:=xn hp h0 hcv;have e:=a2 hk.1;subst e;have hcells:v.cells=v:=by cases v <;> first|rfl|(simp[qd]at hk;done)
     rw[hcells]at a3;simp only[aa];exact⟨[u],us,rfl,a3,ih⟩
theorem bql{β:Nat->Value}{Im:Nat->Prop}{v:V}{vs:List Value}{k:Int}(h:aa β M Im w v vs)(hk:v.as (.int .i64)=some k):vs=[.int .i64 k]/\inK .i64 k:=by have:=aai v (.int .i64) vs k h hk;simpa only [ai]using this
theorem bmg(hG:agl P F)(h:Hp F p M w)(hL:∀b,¬p.L b){f:FuncId}{m:Mt}(hm:MtOk P f m)(vs:List V)(us:List Value)(hlen:us.length=vs.length)(hrel:∀(i:Nat) v u,vs[i]? = some v->us[i]? = some u->ah p.β M (Imm F p M w) w v u)
  {o:Oper} (hr:(execOp a.eval o).run P w=.ok (.enter f us.toArray) w) (hv:ab (akz m vs M).vc) (qt:Bool) (Q:Exit->Act->World->Prop):o.wp P a w (fun a' w'=>∃v,a'=a.put o.dst v/\e9 F p M w qt (akz m vs M) v w') Q:=by
 unfold akz at hv⊢;split at hv
 ·rename_i v kv
  cases hb:bg [shp [v,kv] [m.g,false],ya (gz v.cells),neg (al6 (gz v.cells)),ajv (gz v.cells)]with
  |false=>rw[hb]at hv;exact hv.1.elim
  |true=>
  simp only[hb,a0c]at hv⊢;simp only[au,bh,a0k,a0a]at hb;obtain⟨b1,b2,b3,b4⟩:=hb;obtain⟨s1,s2⟩:=aeg b1;obtain⟨s3,_⟩:=aeg s2
  cases hg:uu M m.o v.cells with
  |none=>simp only[hg]at hv;exact hv.1.elim
  |some x=>
  cases hk:kv.cells.as (.int .i64)with
  |none=>simp only[hg,hk]at hv;exact hv.1.elim
  |some k=>
  simp only[hg,hk]at hv⊢;split at hv
  ·rename_i c co co' e M1 hu
   match us,hlen with
   |[],hl=>simp at hl
   |[_],hl=>simp at hl
   |_::_::_::_,hl=>simp at hl
   |[u1,u2],_=>
   have r1:=hrel 0 v u1 rfl rfl;have r2:=hrel 1 kv u2 rfl rfl
   have c1:kw v=true:=by
    cases v with
    |any=>simp[V.cells,gz,al6]at b3
    |tup _=>simp[V.cells,gz,al6]at b3
    |gd _ _ _ _=>simp[V.cells,gz,al6]at b3
    |ifc _ _=>rfl
    |_=>rfl
   obtain⟨vs1,a1,a2,a3⟩:=xn h r1 c1;obtain⟨vs2,k1,k2,k3⟩:=xn h r2 (ae1 hk);have hk2:=k2 s3;subst hk2;obtain⟨i1,i2⟩:=bql k3 hk;simp only[a0i,a0b]at i1;subst i1;obtain⟨S,g1,g2,g3⟩:=aqr h m.o hm.1 v.cells vs1 x a3 hg b2;unfold Oper.wp;rw[hr,a3q];refine (hm.2 (Imm F p M w) w u1 vs1 x k S (alv hG h hL) (fun b hb hi=>by obtain⟨j,_,j2,j3⟩:=g2 b hb;exact hi.2.2.2 j j2 j3) (fun hg=>a1 (s1.trans hg)) (fun hg=>a2 (s1.trans hg)) g1 (fun b hb=>by obtain⟨j,_,j2,j3⟩:=g2 b hb;exact (h.own j b j2 j3).1) i2 hv).mono fun e' w' ⟨he1,he2,he3,S',he4,he5⟩=>?_;subst he1;obtain⟨σ',U⟩:=g3 w' _ S' S M M1 _ he4 he2.old (fun c hc=>.inl hc) (fun c hc=>(he5 c hc).elim .inr (fun h=>.inl h.1)) (fun _ _=>rfl) hu;obtain⟨p',t1,t2⟩:=bre h he2 g2 he5 U b4;refine⟨_,rfl,p',t1,t2,?_,fun hfr _=>?_⟩
   ·rw[bd,c9];exact⟨rfl,he3⟩
   ·simp[fm]at hfr
  ·exact hv.1.elim
 ·exact hv.1.elim
theorem ahq{π:bq}(h:ab2 π=true):π=[.de]:=by
 unfold ab2 at h;split at h
 ·rfl
 ·cases h
theorem aur{v:V}{k:Nat}(h:afg v=some k):v=.ad k [.de]\/v=.ref k []:=by
 unfold afg at h;split at h
 ·rename_i j π
  cases hd:ab2 π with
  |false=>rw[hd]at h;cases h
  |true=>rw[hd]at h;simp only[a0c,a0d]at h;rw[h,ahq hd];exact .inl rfl
 ·rename_i j π
  cases π with
  |nil=>simp only[bih,a0c,a0d]at h;rw[h];exact .inr rfl
  |cons _ _=>simp[bih]at h
 ·cases h
theorem bh5{v:V}{k:Nat}(h:afg v=some k):∃π,v=.ad k π\/v=.ref k π:=by
 rcases aur h with h|h
 ·exact⟨_,.inl h⟩
 ·exact⟨_,.inr h⟩
theorem bdx(k:Nat)(v0:V)(h0:∃π,v0=.ad k π\/v0=.ref k π):∀(v:V) (M:Mem),bt (ca M v).2 k->v0.evs (ca M v).1=v0/\bt M k:=by
 have one:∀(j:Nat) (M:Mem) (ob:Ob),bt (del j M) k->v0.evs [.fz j ob]=v0/\bt M k:=fun j M ob hl=>by
  have hne:k≠j:=fun e=>by subst e;unfold bt at hl;rw[cy]at hl;cases hl
  refine⟨by obtain⟨π,h|h⟩:=h0 <;> simp only[h,V.evs,V.ev,Ev.ad,Ev.ref,ck,ds hne],?_⟩;unfold bt at hl⊢;rwa [dm hne]at hl
 intro v
 induction v with
 |p a b iha ihb=>intro M hl;simp only[ca]at hl⊢;obtain⟨h1,h2⟩:=ihb _ hl;obtain⟨h3,h4⟩:=iha _ h2;rw[zz,h3];exact⟨h1,h4⟩
 |ref j ρ=>
  intro M hl;simp only[ca]at hl⊢
  cases hg:go M j with
  |none=>rw[hg]at hl;exact⟨rfl,hl⟩
  |some ob=>rw[hg]at hl;exact one j M ob hl
 |ad j ρ=>
  intro M hl;simp only[ca]at hl⊢
  cases hg:go M j with
  |none=>rw[hg]at hl;exact⟨rfl,hl⟩
  |some ob=>rw[hg]at hl;exact one j M ob hl
 |ag v ih=>intro M hl;simp only[ca]at hl⊢;exact ih M hl
 |fn f v ih=>intro M hl;simp only[ca]at hl⊢;exact ih M hl
 |ifc f v ih=>intro M hl;simp only[ca]at hl⊢;exact ih M hl
 |bx v ih=>intro M hl;simp only[ca]at hl⊢;exact ih M hl
 |tup v ih=>intro M hl;simp only[ca]at hl⊢;exact ih M hl
 |gd _ _ _ v ih=>intro M hl;simp only[ca]at hl⊢;exact ih M hl
 |_=>intro M hl;exact⟨rfl,hl⟩
theorem aq3(k:Nat)(v0:V)(h0:∃π,v0=.ad k π\/v0=.ref k π):∀(vs:List V) (M:Mem),bt (mw M vs).2 k->v0.evs (mw M vs).1=v0
 |[],_,_=>rfl
 |v::r,M,hl=>by
  simp only[mw]at hl⊢;have h1:=aq3 k v0 h0 r _ hl
  have lv:∀(vs:List V) (M:Mem),bt (mw M vs).2 k->bt M k:=fun vs=>by
   induction vs with
   |nil=>intro M h;exact h
   |cons v vs ih=>intro M h;simp only[mw]at h;exact (bdx k v0 h0 v M (ih _ h)).2
  rw[zz,(bdx k v0 h0 v M (lv _ _ hl)).1];exact h1
theorem ai5(hp:Hp F p M w){k:Nat}{ob:Ob}(hg:go M k=some ob){v0:V}(h0:afg v0=some k){e:List Ev}(hs:v0.evs e=v0){u:Value}(hu:ah p.β M (Imm F p M w) w (v0.evs e) u):u=p.β k:=by
 rw[hs]at hu;rcases aur h0 with rfl|rfl
 ·simp only[ah,aa]at hu;obtain⟨_,e1,hadr⟩:=hu;simp only[a0i,a0b]at e1;subst e1;obtain⟨o0,us0,b0,off0,k1,k2,k3,k4,k5,k6⟩:=hadr;rw[hg]at k1;cases k1;have hrk:=hp.objs k _ hg;obtain⟨oo,xx⟩:=ob
  cases oo with
  |pt o1=>simp only[Rel]at hrk;obtain⟨bb,us1,ty',S1,r1,_⟩:=hrk;simp only[a0i,a0b]at r1;rw[r1]at k5;simp only[res,a0d,a0j]at k5;rw[k6,r1,k5.2.1,k5.2.2]
  |fz t=>obtain⟨q,hq⟩:=k3;cases t <;> simp[get]at hq <;> simp[res]at k5
  |p a b=>obtain⟨q,hq⟩:=k3;simp[get]at hq
  |sl e=>obtain⟨q,hq⟩:=k3;simp[get]at hq
  |mp e e'=>obtain⟨q,hq⟩:=k3;simp[get]at hq
  |op e=>obtain⟨q,hq⟩:=k3;simp[get]at hq
 ·simp only[ah,aa]at hu;obtain⟨o0,pl0,k1,k2,k3,k4⟩:=hu;simp only[res,a0d,a0j,a0i,a0b]at k4;exact k4.1.symm
def bol(P:Program)(f:FuncId)(W:Wt)(Lk:World->Value->Value->Prop):Prop:=
 ∀(A:Nat->Prop) (w:World) (r u:Value) (x:W.o.strip.den) (us:List Value) (y:dy W.as) (S:Nat->Prop),ErrG P A w->(∀b,A b->b<w.heap.size)->(∀b,S b->b<w.heap.size/\¬A b)->
  Rel (fun b=>A b) w W.o x S [r]->Lk w r u->oi A w W.ag W.as y us->ab (W.pre x y)->
  Calls P f (u::us).toArray w fun e w'=>∃rs R S',e=.returned (nx rs)/\ExtS w w' S/\(∀b,R b->w.heap.size<=b/\b<w'.heap.size)/\(∀b,S' b->(S b\/w.heap.size<=b/\b<w'.heap.size)/\¬R b)/\
   Rel (fun b=>b<w'.heap.size/\(A b\/S b\/w.heap.size<=b)/\¬S' b/\¬R b) w' W.o (W.new x y) S' [r]/\
   ji (fun b=>b<w'.heap.size/\(A b\/S b\/w.heap.size<=b)/\¬S' b/\¬R b) w' W.rt (W.res x y) R rs
theorem bty{f:FuncId}{W:Wt}(h:bhe P f W):bol P f W (fun _ r u=>u=r):=fun A w r u x us y S h0 h1 h2 h3 h4 h5 h6=>by subst h4;exact h A w u x us y S h0 h1 h2 h3 h5 h6
def Holds(w:World)(r u:Value):Prop:=∃b ty,r=.pointer (some ⟨b,0,none⟩)/\w.heap[b]? = some (.cells #[u] ty)
theorem bth{f:FuncId}{W:Wt}(hs:slO W.o=true)(h:bhe P f W):bol P f (pbW W) Holds:=fun A w r u x us y S h0 h1 h2 h3 h4 h5 h6=>by
 obtain⟨b,ty,rfl,hb⟩:=h4;simp only[pbW,Rel]at h3;obtain⟨b',us1,ty',S1,r1,r2,r3,r4,r5⟩:=h3;simp only[a0i,a5b,a0d,Addr.mk.injEq,a0b,a0e]at r1;subst r1;rw[hb]at r3;have e1:us1=[u]:=by simp only[a0d,Obj.cells.injEq]at r3;have:=congrArg Array.toList r3.1;simpa using this.symm
 subst e1;refine (h A w u x us y S1 h0 h1 (fun c hc=>h2 c (r4 c hc).1) r5 h5 h6).mono fun e w' ⟨rs,R,S2,e1,e2,e3,e4,e5,e6⟩=>?_;have hR:¬R b:=fun hr=>by have:=(e3 b hr).1;have:=(h2 b r2).1;omega
 have hS2:∀c,(c<w'.heap.size/\(A c\/S1 c\/w.heap.size<=c)/\¬S2 c/\¬R c)->(c<w'.heap.size/\(A c\/S c\/w.heap.size<=c)/\¬(S2 c\/c=b)/\¬R c):=fun c ⟨k1,k2,k3,k4⟩=>by
  refine⟨k1,k2.elim .inl fun k=>k.elim (fun k=>.inr (.inl (r4 c k).1)) fun k=>.inr (.inr k),fun hc=>hc.elim k3 fun hc=>?_,k4⟩;subst hc;rcases k2 with k|k|k
  ·exact (h2 c r2).2 k
  ·exact (r4 c k).2 rfl
  ·have:=(h2 c r2).1;omega
 have hold:w'.heap[b]? = w.heap[b]?:=e2.old b (h2 b r2).1 (fun hc=>(r4 b hc).2 rfl)
 have hb2:¬S2 b:=fun hc=>by
  rcases (e4 b hc).1 with k|k
  ·exact (r4 b k).2 rfl
  ·have:=(h2 b r2).1;omega
 refine⟨rs,R,fun c=>S2 c\/c=b,e1,⟨e2.os,e2.tape,e2.output,e2.size,fun c hc hn=>e2.old c hc fun k=>hn (r4 c k).1⟩,e3,fun c hc=>?_,?_,?_⟩
 ·rcases hc with hc|hc
  ·obtain⟨k1,k2⟩:=e4 c hc;exact⟨k1.elim (fun k=>.inl (r4 c k).1) .inr,k2⟩
  ·subst hc;exact⟨.inl r2,hR⟩
 ·simp only[pbW,Rel];refine⟨b,[u],ty,S2,rfl,.inr rfl,by rw[hold,hb],fun c hc=>⟨.inl hc,fun k=>by subst k;exact hb2 hc⟩,?_⟩;exact Rel.keep (fun c hc=>⟨hS2 c hc,rfl⟩) _ _ _ _ (fun _ _=>rfl) e5
 ·exact ji.keep hS2 _ _ _ _ e6
theorem ar2(hG:agl P F)(h:Hp F p M w)(hL:∀b,¬p.L b){f:FuncId}{W:Wt}{Lk:World->Value->Value->Prop}(hw:bol P f W Lk)(k:Nat)(u:Value)(r:List V)(us:List Value)(hlnk:∀x,go (mw M r).2 k=some ⟨W.o,x⟩->Lk w (p.β k) u)(hlen:us.length=r.length)(hrel:∀(i:Nat) v u,r[i]? = some v->us[i]? = some u->ah p.β M (Imm F p M w) w v u)
  {o:Oper} {d:Nat} (hr:(execOp a.eval o).run P w=.ok (.enter f (u::us).toArray) w) (hv:ab (w5 k W d r M).vc) (qt:Bool) (Q:Exit->Act->World->Prop):o.wp P a w (fun a' w'=>∃v,a'=a.put o.dst v/\e9 F p M w qt (w5 k W d r M) v w') Q:=by
 unfold w5 at hv⊢
 cases b2:shp r W.ag with
 |false=>rw[b2]at hv;exact hv.1.elim
 |true=>
 simp only[b2,a0c]at hv⊢;have hfz:=alu r M h;generalize hz:mw M r=z at hv hfz hlnk⊢;obtain⟨e0,M1⟩:=z;simp only at hv hfz hlnk⊢
 cases hg:go M1 k with
 |none=>simp only[hg]at hv;exact hv.1.elim
 |some ob=>
 cases hy:asL (rn e0 r) W.as with
 |none=>simp only[hg,hy]at hv;exact hv.1.elim
 |some y=>
 simp only[hg,hy]at hv⊢
 cases hc:ri ob W.o with
 |none=>simp only[hc]at hv;exact hv.1.elim
 |some x=>
 simp only[hc]at hv⊢;have:=vf hc;subst this;generalize hN:newL d 0 W.rt (W.res x y)=q at hv⊢;obtain⟨v,N,j'⟩:=q;simp only at hv⊢
 cases hin:inN k (cc N)with
 |true=>rw[hin]at hv;exact hv.1.elim
 |false=>
 simp only[hin,a0g]at hv⊢;have hl:=hlen
 have hrel1:∀(i:Nat) v u',(rn e0 r)[i]? = some v->us[i]? = some u'->ah p.β M1 (Imm F p M1 w) w v u':=fun i v u' hv hu'=>by
  rw[aie]at hv
  cases hx:r[i]? with
  |none=>rw[hx]at hv;cases hv
  |some v0=>rw[hx]at hv;simp only[a00,a0d]at hv;subst hv;exact hfz.s _ _ (hrel i v0 u' hx hu')
 have hbox:Lk w (p.β k) u:=hlnk x hg;have hlk:=bo hg;unfold Oper.wp;rw[hr,a3q];refine (hw (Imm F p M1 w) w (p.β k) u x us y (p.σ k) (alv hG hfz.hp hL) (fun b hb=>hb.1) (fun b hb=>⟨(hfz.hp.own k b hlk hb).1,fun hi=>hi.2.2.2 k hlk hb⟩) (hfz.hp.objs k _ hg) hbox (avm hfz.hp _ _ _ _ _ (by rw[xm];simpa using hl) hrel1 (by rw[aqp];exact b2) hy) hv).mono fun e w' ⟨rs,R,S',e1,e2,e3,e4,e5,e6⟩=>?_;subst e1;obtain⟨p1,t1,t2,t3⟩:=al0 hfz.hp hL hg (fun b hb=>hb) e2 e3 e4 e5;generalize hM2:put k (⟨W.o,W.new x y⟩:Ob) M1=M2 at t1 t3⊢;have h1:=bdt (cc N) M2 t1.hp;obtain⟨hle,hkeys⟩:=aqe d W.rt 0 (W.res x y);have hnew:=ayq (F:=F) (w:=w') d j' W.rt (qr (cc N) M2) p1 0 (W.res x y) R rs h1.hp (ji.keep (fun b hb=>(h1.keep b (t3 b hb)).1) _ _ _ _ e6) (fun b hb=>(t2 b).2 hb);rw[hN]at hnew hle hkeys;simp only at hnew hle hkeys;obtain⟨p2,a1,a2⟩:=hnew (a0f _) (fun i hi hij=>(aqt (cc N) M2 _).1 (.inl (hkeys i hi hij)));have h3:=Tr.drop a1.tr.hp (fun _=>False) (fun b hb=>hb.elim);refine⟨_,rfl,⟨p2.β,p2.σ,fun _=>False⟩,?_,fun b hb=>hb,?_,fun hfr _=>?_⟩
 ·have h4:=hfz.trans (t1.trans (h1.trans (a1.tr.trans h3)));simpa only [ap,aih]using h4
 ·have h5:=h3.s _ _ (be0 W.rt v rs (atw _ _ _ _ e6) a2);simpa only [V.evs]using h5
 ·exfalso
  have:∀e:List Ev,fm M (ap e (.cut k W.o W.o::klL (cc N)))=false:=fun e=>by
   induction e with
   |nil=>rfl
   |cons x e ih=>cases x <;> simp[ap,fm,ih]
  rw[this]at hfr;cases hfr
theorem bqi{Im:Nat->Prop}{w:World}:(o:O)->(x:o.strip.den)->(S:Nat->Prop)->(vs:List Value)->slO o=true->Rel Im w o x S vs->vs.length=1
 |.sl e,x,S,vs,_,r=>by simp only[Rel]at r;obtain⟨v',_,_,_,rfl,_⟩:=r;rfl
 |.fz _,_,_,_,h,_=>by cases h
 |.p _ _,_,_,_,h,_=>by cases h
 |.pt _,_,_,_,h,_=>by cases h
 |.mp _ _,_,_,_,h,_=>by cases h
 |.op _,_,_,_,h,_=>by cases h
theorem bnw:(o:O)->slO o=true->o.size=1
 |.sl e,_=>rfl
 |.fz _,h=>by cases h
 |.p _ _,h=>by cases h
 |.pt _,h=>by cases h
 |.mp _ _,h=>by cases h
 |.op _,h=>by cases h
theorem br7{v:V}{k:Nat}(h:deK v=some k):v=.ref k [.de]:=by
 unfold deK at h;split at h
 ·rename_i j π
  cases hd:ab2 π with
  |false=>rw[hd]at h;cases h
  |true=>rw[hd]at h;simp only[a0c,a0d]at h;rw[h,ahq hd]
 ·cases h
theorem bhl(hG:agl P F)(h:Hp F p M w)(hL:∀b,¬p.L b){f:FuncId}{W:Wt}(hw:bhe P f W)(vs:List V)(us:List Value)(hlen:us.length=vs.length)(hrel:∀(i:Nat) v u,vs[i]? = some v->us[i]? = some u->ah p.β M (Imm F p M w) w v u)
  {o:Oper} {d:Nat} (hr:(execOp a.eval o).run P w=.ok (.enter f us.toArray) w) (hv:ab (acg W d vs M).vc) (qt:Bool) (Q:Exit->Act->World->Prop):o.wp P a w (fun a' w'=>∃v,a'=a.put o.dst v/\e9 F p M w qt (acg W d vs M) v w') Q:=by
 unfold acg at hv⊢;split at hv
 ·rename_i v0 r
  match us,hlen with
  |[],hl=>simp at hl
  |u::us,hl=>
  have hl':us.length=r.length:=by simpa using hl
  have hrel':∀(i:Nat) v u',r[i]? = some v->us[i]? = some u'->ah p.β M (Imm F p M w) w v u':=fun i v u' h1 h2=>hrel (i+1) v u' (by simpa using h1) (by simpa using h2);have hfz:=alu r M h;have hu:=hfz.s _ _ (hrel 0 _ u rfl rfl)
  cases hroot:afg v0 with
  |some k=>
   simp only[hroot]at hv⊢
   cases hb:al9 W.o with
   |false=>rw[hb]at hv;exact hv.1.elim
   |true=>
   simp only[hb,a0c]at hv⊢;exact ar2 hG h hL (bty hw) k u r us (fun x hg=>ai5 hfz.hp hg hroot (aq3 k v0 (bh5 hroot) r M (bo hg)) hu) hl' hrel' hr hv qt Q
  |none=>
   simp only[hroot]at hv⊢
   cases hde:deK v0 with
   |none=>simp only[hde]at hv;exact hv.1.elim
   |some k=>
   simp only[hde]at hv⊢
   cases hb:slO W.o with
   |false=>rw[hb]at hv;exact hv.1.elim
   |true=>
   simp only[hb,a0c]at hv⊢;have hv0:=br7 hde;subst hv0;refine ar2 hG h hL (bth hb hw) k u r us (fun x hg=>?_) hl' hrel' hr hv qt Q;rw[aq3 k _ ⟨[.de],.inr rfl⟩ r M (bo hg)]at hu;simp only[ah,aa]at hu;obtain⟨o0,pl0,k1,k2,k3,k4⟩:=hu;rw[hg]at k1;cases k1;have hrk:=hfz.hp.objs k _ hg;simp only[pbW,Rel]at hrk;obtain⟨bb,us1,ty',S1,r1,r2,r3,r4,r5⟩:=hrk;simp only[a0i,a0b]at r1;have hsz:us1.length=1:=bqi _ _ _ _ hb r5;have hs1:W.o.size=1:=bnw _ hb;refine⟨bb,ty',r1,?_⟩
   obtain⟨z,rfl⟩:∃z,us1=[z]:=by
    match us1,hsz with
    |[z],_=>exact⟨z,rfl⟩
   rw[r1]at k4;simp only[pbW,res,hs1,a0d,a0j]at k4;rw[r3];have k5:cellsOf w bb 0 1=[z]:=by simp[cellsOf,World.cell?,r3]
   rw[k5]at k4;simp only[a0i,a0b]at k4;rw[k4.1]
 ·exact hv.1.elim
theorem aqh:(a b:bq)->peq a b=true->a=b
 |[],[],_=>rfl
 |.l::a,.l::b,h=>by rw[aqh a b (by simpa only [peq]using h)]
 |.r::a,.r::b,h=>by rw[aqh a b (by simpa only [peq]using h)]
 |.de::a,.de::b,h=>by rw[aqh a b (by simpa only [peq]using h)]
 |[],_::_,h=>by simp[peq]at h
 |s::a,[],h=>by cases s <;> simp[peq]at h
 |.l::a,.r::b,h=>by simp[peq]at h
 |.l::a,.de::b,h=>by simp[peq]at h
 |.l::a,.ix _::b,h=>by simp[peq]at h
 |.r::a,.l::b,h=>by simp[peq]at h
 |.r::a,.de::b,h=>by simp[peq]at h
 |.r::a,.ix _::b,h=>by simp[peq]at h
 |.de::a,.l::b,h=>by simp[peq]at h
 |.de::a,.r::b,h=>by simp[peq]at h
 |.de::a,.ix _::b,h=>by simp[peq]at h
 |.ix _::a,s::b,h=>by cases s <;> simp[peq]at h
theorem bg0{π:bq}{v:V}{k:Nat}(h:au0 π v=some k):v=.ad k π:=by
 unfold au0 at h;split at h
 ·rename_i j ρ
  cases hp:peq π ρ with
  |false=>rw[hp]at h;cases h
  |true=>rw[hp]at h;simp only[a0c,a0d]at h;rw[←aqh _ _ hp,h]
 ·cases h
theorem bf1{k:Nat}{v:V}(h:awq k v=true):v=.ad k [.de]:=by
 unfold awq at h;split at h
 ·rename_i j π;simp only[am,a0a]at h;rw[ahq h.2,a0v h.1]
 ·cases h
theorem ah1{β:Nat->Value}{Im:Nat->Prop}{k:Nat}:(v:V)->(vs:List Value)->aa β M Im w v vs->aa β M Im w (afk k v) vs
 |.bx v,vs,r=>by
  simp only[afk]
  cases hi:awq k v with
  |false=>simpa only [a0g]using r
  |true=>have hv:=bf1 hi;subst hv;simp only[a0c];simp only[aa]at r⊢;obtain⟨b,o,us,h1,h2,h3,z,h4,h5⟩:=r;refine⟨b,o,us,h1,h2,h3,?_⟩;simp only[ai];obtain⟨_,_,_,_,_,_,_,_,_,rfl⟩:=h5;exact⟨_,h4,rfl⟩
 |.p a b,vs,r=>by simp only[afk,aa]at r⊢;obtain⟨va,vb,h1,h2,h3⟩:=r;exact⟨va,vb,h1,ah1 a _ h2,ah1 b _ h3⟩
 |.fn f v,vs,r=>by simp only[afk,aa]at r⊢;obtain⟨us,h1,h2⟩:=r;exact⟨us,h1,ah1 v _ h2⟩
 |.any,_,r=>r
 |.nl,_,r=>r
 |.np,_,r=>r
 |.u,_,r=>r
 |.d _ _,_,r=>r
 |.ref _ _,_,r=>r
 |.ad _ _,_,r=>r
 |.ag _,_,r=>r
 |.tup _,_,r=>r
 |.gd _ _ _ _,_,r=>r
 |.ifc _ _,_,r=>r
theorem bnd{β:Nat->Value}{Im:Nat->Prop}{k:Nat}{v:V}{u:Value}(r:ah β M Im w v u):ah β M Im w (afk k v) u:=by
 cases v with
 |bx v=>exact a7 (ah1 (k:=k) _ _ (by simpa only [ah]using r))
 |p a b=>exact a7 (ah1 (k:=k) _ _ (by simpa only [ah]using r))
 |fn f v=>exact a7 (ah1 (k:=k) _ _ (by simpa only [ah]using r))
 |_=>exact r
theorem azo(k:Nat):∀(vs:List V) (i:Nat),(aaj k vs)[i]? = vs[i]?.map (afk k)
 |[],i=>by simp[aaj]
 |v::r,0=>by simp[aaj]
 |v::r,i+1=>by simp only[aaj,a2h];exact azo k r i
theorem azh(k:Nat):∀(vs:List V),(aaj k vs).length=vs.length
 |[]=>rfl
 |v::r=>by simp only[aaj,a0l,azh k r]
theorem ao3{Im:Nat->Prop}{u:Value}:(t:T)->(x:t.den)->(vs:List Value)->ai Im w t x vs->akd t=true->AlR w u t vs
 |.p a b,x,vs,r,h=>by simp only[ai]at r;obtain⟨va,vb,h1,h2,h3⟩:=r;simp only[akd,am,a0a]at h;simp only[AlR];exact⟨va,vb,h1,ai.len _ _ _ h2,ao3 a _ _ h2 h.1,ao3 b _ _ h3 h.2⟩
 |.fn f t,x,vs,r,h=>by simp only[ai]at r;obtain⟨us,h1,h2⟩:=r;simp only[AlR];exact⟨us,h1,ao3 t _ _ h2 h⟩
 |.pt t,x,vs,r,h=>by simp only[akd,kh,a1i]at h;simp only[AlR,h];intro h;cases h
 |.int _,_,_,_,_=>by simp only[AlR]
 |.bool,_,_,_,_=>by simp only[AlR]
 |.str,_,_,_,_=>by simp only[AlR]
 |.u,_,_,_,_=>by simp only[AlR]
 |.any,_,_,_,_=>by simp only[AlR]
 |.sl _,_,_,_,_=>by simp only[AlR]
 |.ifc _ _,_,_,_,_=>by simp only[AlR]
 |.mp _ _,_,_,_,_=>by simp only[AlR]
 |.op _,_,_,_,_=>by simp only[AlR]
 |.ns _,_,_,_,_=>by simp only[AlR]
 |.er _,_,_,_,_=>by simp only[AlR]
theorem bog{β:Nat->Value}{Im:Nat->Prop}{k:Nat}:∀(v:V) (t:T) (vs:List Value),pe k v t=true->aa β M Im w v vs->vs.length=t.size:=by
 intro v
 induction v with
 |bx v _=>
  intro t vs h r
  cases t with
  |pt t=>simp only[aa]at r;obtain⟨_,_,_,rfl,_⟩:=r;rfl
  |_=>simp[pe]at h
 |ad j π=>
  intro t vs h r;simp only[aa]at r;obtain⟨_,rfl,_⟩:=r;have h2:Nat.beq t.size 1=true:=by cases t <;> (simp only[pe,am,a0a]at h;exact h.2)
  exact (a0v h2).symm
 |p a b iha ihb=>
  intro t vs h r
  cases t with
  |p t s=>simp only[pe,am,a0a]at h;simp only[aa]at r;obtain⟨va,vb,rfl,h1,h2⟩:=r;rw[a0q,iha _ _ h.1 h1,ihb _ _ h.2 h2];simp[T.size]
  |_=>simp[pe]at h
 |fn f v _=>
  intro t vs h r
  cases t with
  |fn f' t=>simp only[aa]at r;obtain⟨_,rfl,_⟩:=r;rfl
  |_=>simp[pe]at h
 |d s y=>
  intro t vs h r;have h2:Nat.beq s.size t.size=true:=by cases t <;> (simp only[pe,am,a0a]at h;exact h.2)
  simp only[aa]at r;rw[ai.len _ _ _ r];exact a0v h2
 |u=>
  intro t vs h r
  cases t with
  |u=>simp only[aa]at r;subst r;rfl
  |_=>simp[pe]at h
 |_=>intro t vs h r;cases t <;> simp[pe]at h
theorem br8(hp:Hp F p M w){k:Nat}{ob:Ob}(hg:go M k=some ob){Im:Nat->Prop}:∀(v:V) (t:T) (x:t.den) (vs:List Value),aa p.β M (Imm F p M w) w v vs->ai Im w t x vs->pe k v t=true->AlR w (p.β k) t vs:=by
 intro v
 induction v with
 |bx v _=>
  intro t x vs r rf h
  cases t with
  |pt t=>
   simp only[pe]at h;simp only[AlR];intro ha
   cases hi:awq k v with
   |false=>rw[hi]at h;simp only[a0g,kh,ha]at h;cases h
   |true=>have hv:=bf1 hi;subst hv;simp only[aa]at r;obtain⟨b,o,us,h1,h2,h3,z,h4,h5⟩:=r;subst h4;have:=ai5 hp hg (v0:=.ad k [.de]) (by simp[afg,ab2]) (e:=[]) rfl (u:=z) (by simp only[V.evs,ah,aa];exact⟨z,rfl,h5⟩);subst this;exact⟨b,o,h1,h3⟩
  |_=>simp[pe]at h
 |p a b iha ihb=>
  intro t x vs r rf h
  cases t with
  |p t s=>simp only[pe,am,a0a]at h;simp only[aa]at r;simp only[ai]at rf;obtain⟨va,vb,rfl,h1,h2⟩:=r;obtain⟨va',vb',e,g1,g2⟩:=rf;have hl:=bog _ _ _ h.1 h1;have hl':=ai.len _ _ _ g1;obtain⟨rfl,rfl⟩:=a4u e (by rw[hl,hl']);simp only[AlR];exact⟨_,_,rfl,hl,iha _ _ _ h1 g1 h.1,ihb _ _ _ h2 g2 h.2⟩
  |_=>simp[pe]at h
 |fn f v ih=>
  intro t x vs r rf h
  cases t with
  |fn f' t=>
   simp only[pe]at h;simp only[aa]at r;simp only[ai]at rf;obtain⟨us,rfl,h1⟩:=r;obtain⟨us',e,g1⟩:=rf;simp only[a0i,Value.func.injEq,Fn.func.injEq,a0b,a0e]at e;obtain⟨rfl,e⟩:=e;have e:us=us':=by simpa using e
   subst e;simp only[AlR];exact⟨us,rfl,ih _ _ _ h1 g1 h⟩
  |_=>simp[pe]at h
 |ad j π=>
  intro t x vs r rf h;have h2:akd t=true:=by cases t <;> (simp only[pe,am,a0a]at h;exact h.1)
  exact ao3 _ _ _ rf h2
 |d s y=>
  intro t x vs r rf h;have h2:akd t=true:=by cases t <;> (simp only[pe,am,a0a]at h;exact h.1)
  exact ao3 _ _ _ rf h2
 |u=>
  intro t x vs r rf h
  cases t with
  |u=>simp only[AlR]
  |_=>simp[pe]at h
 |_=>intro t x vs r rf h;cases t <;> simp[pe]at h
theorem bjz{β:Nat->Value}{Im:Nat->Prop}{k:Nat}{v:V}{t:T}{u:Value}(h:pe k v t=true)(r:ah β M Im w v u):aa β M Im w v [u]:=by
 cases v with
 |any=>cases t <;> simp[pe]at h
 |ag _=>cases t <;> simp[pe]at h
 |tup _=>cases t <;> simp[pe]at h
 |gd _ _ _ _=>cases t <;> simp[pe]at h
 |_=>simpa only [ah]using r
theorem bpr(hp:Hp F p M w){k:Nat}{ob:Ob}(hg:go M k=some ob){Im:Nat->Prop}:(vs:List V)->(ts:List T)->(y:dy ts)->(us:List Value)->(∀(i:Nat) v u,vs[i]? = some v->us[i]? = some u->ah p.β M (Imm F p M w) w v u)->oi Im w (aaa ts) ts y us->aqq k vs ts=true->AlL w (p.β k) ts us
 |_,[],_,us,_,_,_=>by cases us <;> simp only[AlL]
 |[],_::_,_,_,_,_,h=>by simp[aqq]at h
 |v::r,t::ts,y,us,hr,ha,h=>by simp only[aaa,oi]at ha;obtain⟨u,us',vs,rfl,_,h2,h3,h4⟩:=ha;have:=h2 trivial;subst this;simp only[aqq,am,a0a]at h;simp only[AlL];exact⟨br8 hp hg _ _ _ _ (bjz h.1 (hr 0 _ _ rfl rfl)) h3 h.1,bpr hp hg r ts y.2 us' (fun i v u hv hu=>hr (i+1) v u (by simpa using hv) (by simpa using hu)) h4 h.2⟩
theorem Tr.un(h:Hp F p M w)(hL:∀b,¬p.L b){k j:Nat}{o:O}{x:o.strip.den}(hk:go M k=some ⟨.pt (.pt o),x⟩)(hj:go M j=none)(hg:k<gid) :
  ∃p',Tr F p M w [.un k j] p' ((j,⟨.pt o,x⟩)::Bm.del k M) w/\∀b,¬p'.L b:=by
 have hro:=h.objs k _ hk;simp only[Rel]at hro;obtain⟨b0,us0,ty0,S0,r1,r2,r3,r4,r5⟩:=hro;have r5':=r5;obtain⟨b1,us1,ty1,S1,q1,q2,q3,q4,q5⟩:=r5;subst q1;simp only[a0i,a0b]at r1;generalize hp':(⟨fun i=>if i=j then .pointer (some ⟨b1,0,none⟩)else p.β i,fun i=>if i=j then S0 else p.σ i,fun _=>False⟩:Ow)=p';have hjk:j≠k:=by rintro rfl;rw[hk]at hj;cases hj
 have hβj:p'.β j=.pointer (some ⟨b1,0,none⟩):=by rw[←hp'];simp
 have hσj:p'.σ j=S0:=by rw[←hp'];simp
 have hβ:∀i,i≠j->p'.β i=p.β i:=fun i hi=>by rw[←hp'];simp[hi]
 have hσ:∀i,i≠j->p'.σ i=p.σ i:=fun i hi=>by rw[←hp'];simp[hi]
 have hL':∀b,¬p'.L b:=fun b hb=>by rw[←hp']at hb;exact hb
 generalize hM1:(((j,⟨.pt o,x⟩)::Bm.del k M):Mem)=M1;have hgj:go M1 j=some ⟨.pt o,x⟩:=by rw[←hM1];exact lk _ _ _
 have hgi:∀i,i≠j->i≠k->go M1 i=go M i:=fun i h1 h2=>by rw[←hM1,c8,ds (a0w h1),dm h2]
 have hgk:go M1 k=none:=by rw[←hM1,c8,ds hjk,cy]
 have hlive:∀i,bt M1 i->i=j\/(i≠j/\i≠k/\bt M i):=fun i hi=>by
  by_cases e:i=j
  ·exact .inl e
  ·by_cases e':i=k
   ·subst e';unfold bt at hi;rw[hgk]at hi;cases hi
   ·refine .inr ⟨e,e',?_⟩;unfold bt at hi⊢;rwa [hgi i e e']at hi
 have hlk:=bo hk
 have hkeep:gn (Imm F p M w) (Imm F p' M1 w) w w:=fun b hb=>by
  refine⟨⟨hb.1,hb.2.1,hL' b,fun i hi=>?_⟩,rfl⟩;rcases hlive i hi with rfl|⟨h1,h2,h3⟩
  ·rw[hσj];exact fun hs=>hb.2.2.2 k hlk (r4 b hs).1
  ·rw[hσ i h1];exact hb.2.2.2 i h3
 have hb0:Imm F p' M1 w b0:=by
  obtain⟨o1,o2⟩:=h.own k b0 hlk r2;refine⟨o1,.inr (o2.elim (fun h=>.inl h.2) .inr),hL' b0,fun i hi=>?_⟩;rcases hlive i hi with rfl|⟨h1,h2,h3⟩
  ·rw[hσj];exact fun hs=>(r4 b0 hs).2 rfl
  ·rw[hσ i h1];exact fun hs=>h.sep k i b0 (a0w h2) hlk h3 r2 hs
 have hne:∀i,bt M i->i≠j:=fun i hi e=>by subst e;unfold bt at hi;rw[hj]at hi;cases hi
 have hinner:Rel (Imm F p' M1 w) w (.pt o) x S0 [.pointer (some ⟨b1,0,none⟩)]:=Rel.keep hkeep _ _ _ _ (fun _ _=>rfl) r5';refine⟨p',Tr.one _ hkeep (fun i π vs r=>?_) (fun i π v r=>?_) ⟨fun i ob hi=>?_,fun i i' b hne' hi hi' hb=>?_,fun i b hi hb=>?_,fun b hb=>absurd hb (hL' b),h.os,h.tape,h.output,h.size,h.old⟩,hL'⟩
 ·simp only[Ev.ref,ck];have hij:i≠j:=by obtain⟨o,_,h1,_⟩:=r;exact hne i (bo h1)
  split
  ·rename_i e;subst e;simp only[aa];obtain⟨ob,pl,h1,h2,⟨q,h3⟩,h4⟩:=r;obtain⟨us,pl',S',e1,e2,e3,_⟩:=look h h1 h2 h3;rw[e1]at h4;cases h4;exact Rel.one _ _ _ _ e3
  ·rename_i e;simp only[aa];exact r.same h (hgi i hij e) (hβ i hij) (fun _ _ _=>rfl)
 ·simp only[Ev.ad,ck];have hij:i≠j:=by obtain⟨o,_,_,_,h1,_⟩:=r;exact hne i (bo h1)
  split
  ·rename_i e;subst e;split
   ·obtain⟨o',us,b,off,h1,h2,h3,h4,h5,h6⟩:=r;rw[hk]at h1;cases h1;rw[r1]at h5;simp only[res,a0d,a0j]at h5;rw[aa];refine⟨b0,0,[.pointer (some ⟨b1,0,none⟩)],by rw[h6,←h5.2.1,←h5.2.2],hb0,fun i' u hu=>?_,?_⟩
    ·cases i' with
     |zero=>simp only[a1s,a0d]at hu;subst hu;simp[World.cell?,r3]
     |succ i'=>simp at hu
    ·simp only[aa];refine⟨_,rfl,_,cellsOf w b1 0 o.size,b1,0,hgj,by simp only[gok],by simp only[get];exact⟨_,rfl⟩,by simp only[cm],by rw[hβj];simp only[res],rfl⟩
   ·simp only[aa];obtain⟨_,_,_,_,_,_,_,_,_,rfl⟩:=r;intro u hu;simp only[a0u]at hu;subst hu;rfl
  ·rename_i e;simp only[aa];exact⟨v,rfl,r.same h (hgi i hij e) (hβ i hij) (fun _ _ _=>rfl)⟩
 ·rcases hlive i (bo hi)with rfl|⟨h1,h2,h3⟩
  ·rw[hgj]at hi;cases hi;rw[hβj,hσj];exact hinner
  ·rw[hgi i h1 h2]at hi;rw[hβ i h1,hσ i h1];exact Rel.keep hkeep _ _ _ _ (fun _ _=>rfl) (h.objs i ob hi)
 ·rcases hlive i hi with e|⟨h1,h2,h3⟩
  ·rcases hlive i' hi' with e'|⟨h1',h2',h3'⟩
   ·exact absurd (e.trans e'.symm) hne'
   ·rw[e,hσj]at hb;rw[hσ i' h1'];exact h.sep k i' b (a0w h2') hlk h3' (r4 b hb).1
  ·rw[hσ i h1]at hb;rcases hlive i' hi' with e'|⟨h1',h2',h3'⟩
   ·rw[e',hσj];exact fun hs=>h.sep i k b h2 h3 hlk hb (r4 b hs).1
   ·rw[hσ i' h1'];exact h.sep i i' b hne' h3 h3' hb
 ·rcases hlive i hi with e|⟨h1,h2,h3⟩
  ·rw[e,hσj]at hb;obtain⟨o1,o2⟩:=h.own k b hlk (r4 b hb).1;exact⟨o1,o2.elim (fun h=>by have:=h.1;omega) .inr⟩
  ·rw[hσ i h1]at hb;exact h.own i b h3 hb
theorem bkq(x y:V)(M:Mem)(r:Rs):(abe x y M r).vc=r.vc:=by
 unfold abe;split
 ·split
  ·rename_i k j _ _ _ o z _ _;cases nob (Nat.blt k gid) (isN (go r.M j)) <;> rfl
  ·rfl
 ·rfl
theorem bk6{x y:V}{r:Rs}{v:Value}(h:e9 F p M w false r v w'):e9 F p M w false (abe x y M r) v w':=by
 unfold abe;split
 ·rename_i k j;split
  ·rename_i q1 q2 o z h1 h2
   cases hb:nob (Nat.blt k gid) (isN (go r.M j))with
   |false=>simpa only [a0g]using h
   |true=>
    simp only[a0c];simp only[am,a0a]at hb;obtain⟨p1,t1,l1,v1,_⟩:=h
    have hj:go r.M j=none:=by
     cases hg:go r.M j with
     |none=>rfl
     |some _=>rw[hg]at hb;simp[isN]at hb
    obtain⟨p2,t2,l2⟩:=Tr.un t1.hp l1 h2 hj (by simpa using hb.1);exact⟨p2,t1.trans t2,l2,by simp only[ah],fun _ hq=>by cases hq⟩
  ·exact h
 ·exact h
theorem bhw(hG:agl P F)(h:Hp F p M w)(hL:∀b,¬p.L b){f:FuncId}{W:Wa}(hw:bmq P f W)(vs:List V)(us:List Value)(hlen:us.length=vs.length)(hrel:∀(i:Nat) v u,vs[i]? = some v->us[i]? = some u->ah p.β M (Imm F p M w) w v u)
  {o:Oper} (hr:(execOp a.eval o).run P w=.ok (.enter f us.toArray) w) (hv:ab (ahr W vs M).vc) (qt:Bool) (Q:Exit->Act->World->Prop):o.wp P a w (fun a' w'=>∃v,a'=a.put o.dst v/\e9 F p M w qt (ahr W vs M) v w') Q:=by
 unfold ahr at hv⊢;split at hv
 ·rename_i v0 r
  cases hroot:au0 W.way v0 with
  |none=>simp only[hroot]at hv;exact hv.1.elim
  |some k=>
  simp only[hroot]at hv⊢;have hv0:=bg0 hroot
  cases hb:bg [ag7 W.o W.way,aqq k r W.as,shp (aaj k r) (aaa W.as)]with
  |false=>rw[hb]at hv;exact hv.1.elim
  |true=>
  simp only[hb,a0c]at hv⊢;simp only[au,bh,a0k,a0a]at hb;obtain⟨b1,b2,b3⟩:=hb
  have hrel':∀(i:Nat) v u,(aaj k r)[i]? = some v->us[i+1]? = some u->ah p.β M (Imm F p M w) w v u:=fun i v u hv hu=>by
   rw[azo]at hv
   cases hx:r[i]? with
   |none=>rw[hx]at hv;cases hv
   |some v1=>rw[hx]at hv;simp only[a00,a0d]at hv;subst hv;exact bnd (hrel (i+1) v1 u (by simpa using hx) hu)
  have hll:=azh k r;generalize hr':aaj k r=r' at hv b3 hrel' hll⊢;have hfz:=alu r' M h;generalize hz:mw M r'=z at hv hfz⊢;obtain⟨e0,M1⟩:=z;simp only at hv hfz⊢
  cases hg:go M1 k with
  |none=>simp only[hg]at hv;exact hv.1.elim
  |some ob=>
  cases hy:asL (rn e0 r') W.as with
  |none=>simp only[hg,hy]at hv;exact hv.1.elim
  |some y=>
  simp only[hg,hy]at hv⊢
  cases hc:ri ob W.o with
  |none=>simp only[hc]at hv;exact hv.1.elim
  |some x=>
  simp only[hc]at hv⊢;have:=vf hc;subst this
  match us,hlen with
  |[],hl=>simp at hl
  |u::us,hl=>
  have hu:ah p.β M1 (Imm F p M1 w) w (v0.evs e0) u:=hfz.s _ _ (hrel 0 _ u rfl rfl)
  have hrel1:∀(i:Nat) v u',(rn e0 r')[i]? = some v->us[i]? = some u'->ah p.β M1 (Imm F p M1 w) w v u':=fun i v u' hv hu'=>by
   rw[aie]at hv
   cases hx:r'[i]? with
   |none=>rw[hx]at hv;cases hv
   |some v0=>rw[hx]at hv;simp only[a00,a0d]at hv;subst hv;exact hfz.s _ _ (hrel' i v0 u' hx (by simpa using hu'))
  have hst:v0.evs e0=v0:=by have h0:=aq3 k v0 ⟨_,.inl hv0⟩ r' M (by rw[hz];exact bo hg);rw[hz]at h0;exact h0
  have hlM:bt M k:=by
   have lv:∀(vs:List V) (M:Mem),bt (mw M vs).2 k->bt M k:=fun vs=>by
    induction vs with
    |nil=>intro M h;exact h
    |cons v vs ih=>intro M h;simp only[mw]at h;exact (bdx k v0 ⟨_,.inl hv0⟩ v M (ih _ h)).2
   exact lv r' M (by rw[hz];exact bo hg)
  obtain⟨ob0,hg0⟩:=ahx hlM;have hadr:Adr (fun _=>p.β k) [(0,⟨W.o,x⟩)] w 0 W.way u:=by rw[hst,hv0]at hu;simp only[ah,aa]at hu;obtain⟨_,e1,hadr⟩:=hu;simp only[a0i,a0b]at e1;subst e1;obtain⟨o0,us0,b0,off0,k1,k2,k3,k4,k5,k6⟩:=hadr;rw[hg]at k1;cases k1;exact⟨_,us0,b0,off0,by rw[c8,d0 rfl],k2,k3,k4,k5,k6⟩
  have harg:=avm hfz.hp _ _ _ _ _ (by rw[xm,hll];simpa using hl) hrel1 (by rw[aqp];exact b3) hy;have hal:AlL w (p.β k) W.as us:=bpr h hg0 r W.as y us (fun i v u hv hu=>hrel (i+1) v u (by simpa using hv) (by simpa using hu)) harg b2;have hlk:=bo hg;unfold Oper.wp;rw[hr,a3q];refine (hw (Imm F p M1 w) w (p.β k) u x us y (p.σ k) (alv hG hfz.hp hL) (fun b hb=>hb.1) (fun b hb=>⟨(hfz.hp.own k b hlk hb).1,fun hi=>hi.2.2.2 k hlk hb⟩) (hfz.hp.objs k _ hg) hadr harg hal hv).mono fun e w' ⟨S',e1,e2,e4,e5⟩=>?_;subst e1;obtain⟨p1,t1,t2,t3⟩:=al0 hfz.hp hL hg (S':=S') (R:=fun _=>False) (fun b hb=>hb) e2 (fun b hb=>hb.elim) (fun b hb=>⟨e4 b hb,fun h=>h⟩) (Rel.keep (fun b hb=>⟨⟨hb.1,hb.2.1,hb.2.2,fun h=>h⟩,rfl⟩) _ _ _ _ (fun _ _=>rfl) e5);have h3:=Tr.drop t1.hp (fun _=>False) (fun b hb=>hb.elim);refine⟨_,rfl,⟨p1.β,p1.σ,fun _=>False⟩,?_,fun b hb=>hb,?_,fun hfr _=>?_⟩
  ·have h4:=hfz.trans (t1.trans h3);simpa only [ap,aih]using h4
  ·simp only[ah,cf];exact⟨[],rfl,rfl⟩
  ·exfalso
   have:∀e:List Ev,fm M (ap e [.cut k W.o W.o])=false:=fun e=>by
    induction e with
    |nil=>rfl
    |cons x e ih=>cases x <;> simp[ap,fm,ih]
   rw[this]at hfr;cases hfr
 ·exact hv.1.elim
theorem amm(hp:Hp F p M w){A:Nat->Prop}{N:Mem}(hN:∀j ob,go N j=some ob->go M j=some ob)(hI:∀b,Imm F p M w b->A b)(hW:∀j b,bt N j->p.σ j b->A b){k:Nat}{ob:Ob}(hg:go M k=some ob):(v:V)->(t:T)->(vs:List Value)->(x:t.den)->aa p.β M (Imm F p M w) w v vs->ajy k t v=true->(ais t v).view N t=some x->AnF A w (p.β k) t x vs
 |.ad j π,.any,vs,x,r,h,hx=>by simp only[ajy,am,a0a]at h;obtain⟨h1,h2⟩:=h;have h1:=a0v h1;subst h1;have h2:=ahq h2;subst h2;have r':=r;simp only[aa]at r;obtain⟨z,rfl,_⟩:=r;simp only[AnF];rw[ai5 hp hg (v0:=.ad j [.de]) (by simp[afg,ab2]) (e:=[]) rfl (u:=z) (by simp only[V.evs,ah];exact r')]
 |.p v v',.p t t',vs,x,r,h,hx=>by
  simp only[ajy,am,a0a]at h;simp only[ais,V.view]at hx;split at hx
  ·rename_i y z hy hz;cases hx;simp only[aa]at r;obtain⟨va,vb,h1,h2,h3⟩:=r;simp only[AnF];exact⟨va,vb,h1,amm hp hN hI hW hg v t va y h2 h.1 hy,amm hp hN hI hW hg v' t' vb z h3 h.2 hz⟩
  ·cases hx
 |.fn f v,.fn f' t,vs,x,r,h,hx=>by simp only[ajy,am,a0a]at h;have h1:=a0v h.1;subst h1;simp only[ais,V.view,ck,a01]at hx;simp only[aa]at r;obtain⟨us,h1,h2⟩:=r;simp only[AnF];exact⟨us,h1,amm hp hN hI hW hg v t us x h2 h.2 hx⟩
 |v,.int _,vs,x,r,h,hx=>by simp only[AnF];exact lx hp hN hI hW v _ vs x r (by cases v <;> exact hx)
 |v,.bool,vs,x,r,h,hx=>by simp only[AnF];exact lx hp hN hI hW v _ vs x r (by cases v <;> exact hx)
 |v,.str,vs,x,r,h,hx=>by simp only[AnF];exact lx hp hN hI hW v _ vs x r (by cases v <;> exact hx)
 |v,.u,vs,x,r,h,hx=>by simp only[AnF];exact lx hp hN hI hW v _ vs x r (by cases v <;> exact hx)
 |v,.sl _,vs,x,r,h,hx=>by simp only[AnF];exact lx hp hN hI hW v _ vs x r (by cases v <;> exact hx)
 |v,.pt _,vs,x,r,h,hx=>by simp only[AnF];exact lx hp hN hI hW v _ vs x r (by cases v <;> exact hx)
 |v,.ifc _ _,vs,x,r,h,hx=>by simp only[AnF];exact lx hp hN hI hW v _ vs x r (by cases v <;> exact hx)
 |v,.mp _ _,vs,x,r,h,hx=>by simp only[AnF];exact lx hp hN hI hW v _ vs x r (by cases v <;> exact hx)
 |v,.op _,vs,x,r,h,hx=>by simp only[AnF];exact lx hp hN hI hW v _ vs x r (by cases v <;> exact hx)
 |v,.ns _,vs,x,r,h,hx=>by simp only[AnF];exact lx hp hN hI hW v _ vs x r (by cases v <;> exact hx)
 |v,.er _,vs,x,r,h,hx=>by simp only[AnF];exact lx hp hN hI hW v _ vs x r (by cases v <;> exact hx)
theorem ap6(hp:Hp F p M w){A:Nat->Prop}{N:Mem}(hN:∀j ob,go N j=some ob->go M j=some ob)(hI:∀b,Imm F p M w b->A b)(hW:∀j b,bt N j->p.σ j b->A b){k:Nat}{ob:Ob}(hg:go M k=some ob):(vs:List V)->(gs:List Bool)->(ts:List T)->(x:dy ts)->(us:List Value)->us.length=vs.length->(∀(i:Nat) v u,vs[i]? = some v->us[i]? = some u->ah p.β M (Imm F p M w) w v u)->shp (akq gs ts vs) gs=true->zu k gs ts vs=true->v6 N (akq gs ts vs) ts=some x->yo A w (p.β k) gs ts x us
 |[],[],[],x,us,hl,_,_,_,h=>by simp only[yo];exact a11 (by simpa using hl)
 |[],[],_::_,x,us,hl,_,hs,ho,h=>by simp[zu]at ho
 |[],g::_,ts,x,us,hl,_,hs,ho,h=>by cases g <;> cases ts <;> simp[zu]at ho
 |_::_,[],ts,x,us,hl,_,hs,ho,h=>by cases ts <;> simp[zu]at ho
 |_::_,g::_,[],x,us,hl,_,hs,ho,h=>by cases g <;> simp[zu]at ho
 |v::r,true::gs,t::ts,x,us,hl,hr,hs,ho,h=>by
  simp only[zu]at ho;simp only[akq]at hs h;simp only[v6]at h;split at h
  ·rename_i y z hy hz;cases h
   cases us with
   |nil=>simp at hl
   |cons u us=>obtain⟨s1,s2⟩:=aeg hs;obtain⟨cs,c1,c2,c3⟩:=xn hp (hr 0 v u rfl rfl) (acn hy);simp only[yo];have c1:=c1 s1;subst c1;exact⟨us,cs,rfl,lx hp hN hI hW _ _ _ _ c3 hy,ap6 hp hN hI hW hg r gs ts z us (by simpa using hl) (fun i v' u' hv' hu'=>hr (i+1) v' u' (by simpa using hv') (by simpa using hu')) s2 ho hz⟩
  ·cases h
 |v::r,false::gs,t::ts,x,us,hl,hr,hs,ho,h=>by
  simp only[zu,am,a0a]at ho;simp only[akq]at hs h;simp only[v6]at h;split at h
  ·rename_i y z hy hz;cases h
   cases us with
   |nil=>simp at hl
   |cons u us=>
    obtain⟨s1,s2⟩:=aeg hs
    have hav:qd v=false:=by
     cases v with
     |ag z=>cases t <;> exact s1
     |_=>rfl
    have hcv:kw v=true:=by
     cases v with
     |any=>have:=acn hy;cases t <;> exact this
     |tup _=>have:=acn hy;cases t <;> exact this
     |gd _ _ _ _=>have:=acn hy;cases t <;> exact this
     |_=>rfl
    obtain⟨cs,c1,c2,c3⟩:=xn hp (hr 0 v u rfl rfl) hcv;have c2:=c2 hav;subst c2;have hcc:v.cells=v:=by cases v <;> first|rfl|(simp[qd]at hav)
    rw[hcc]at c3;have hhc:(ais t v).cells=ais t v:=by have:qd (ais t v)=false:=s1;cases hh:ais t v <;> first|rfl|(rw[hh]at this;simp[qd]at this)
    rw[hhc]at hy;simp only[yo];exact⟨u,us,rfl,amm hp hN hI hW hg v t [u] y c3 ho.1 hy,ap6 hp hN hI hW hg r gs ts z us (by simpa using hl) (fun i v' u' hv' hu'=>hr (i+1) v' u' (by simpa using hv') (by simpa using hu')) s2 ho.2 hz⟩
  ·cases h
theorem bmu(hG:agl P F)(h:Hp F p M w)(hL:∀b,¬p.L b){f:FuncId}{W:Wc}(hw:bm6 P f W)(vs:List V)(us:List Value)(hlen:us.length=vs.length)(hrel:∀(i:Nat) v u,vs[i]? = some v->us[i]? = some u->ah p.β M (Imm F p M w) w v u)
  {o:Oper} (hr:(execOp a.eval o).run P w=.ok (.enter f us.toArray) w) (hv:ab (ajq W vs M).vc) (qt:Bool) (Q:Exit->Act->World->Prop):o.wp P a w (fun a' w'=>∃v,a'=a.put o.dst v/\e9 F p M w qt (ajq W vs M) v w') Q:=by
 unfold ajq at hv⊢
 cases hk:boxI W vs with
 |none=>simp only[hk]at hv;exact hv.1.elim
 |some k=>
 simp only[hk]at hv⊢
 cases hb:nob (zu k W.ag W.as vs) (shp (akq W.ag W.as vs) W.ag)with
 |false=>rw[hb]at hv;exact hv.1.elim
 |true=>
 simp only[hb,a0c]at hv⊢;simp only[am,a0a]at hb;obtain⟨b1,b2⟩:=hb
 cases hg:go M k with
 |none=>simp only[hg]at hv;exact hv.1.elim
 |some ob=>
 cases hy:v6 (del k M) (akq W.ag W.as vs) W.as with
 |none=>simp only[hg,hy]at hv;exact hv.1.elim
 |some y=>
 simp only[hg,hy]at hv⊢
 cases hc:ri ob W.o with
 |none=>simp only[hc]at hv;exact hv.1.elim
 |some x=>
 simp only[hc]at hv⊢;have:=vf hc;subst this;have hlk:=bo hg
 have hdel:∀j ob,go (del k M) j=some ob->j≠k/\go M j=some ob:=fun j ob hj=>by
  have hne:j≠k:=fun e=>by subst e;rw[cy]at hj;cases hj
  exact⟨hne,by rwa [dm hne]at hj⟩
 have hargs:=ap6 h (A:=fun b=>All F w b/\¬p.σ k b) (N:=del k M) (fun j ob hj=>(hdel j ob hj).2) (fun b hb=>⟨axb hb,hb.2.2.2 k hlk⟩) (fun j b hj hb=>by obtain⟨ob,ho⟩:=ahx hj;obtain⟨k1,k2⟩:=hdel j ob ho;exact⟨bgi h (bo k2) hb,h.sep j k b k1 (bo k2) hlk hb⟩) hg vs W.ag W.as y us hlen hrel b2 b1 hy;have hE:ErrG P (fun b=>All F w b/\¬p.σ k b) w:=(alv hG h hL).of fun b hb _=>⟨⟨axb hb,hb.2.2.2 k hlk⟩,rfl⟩;unfold Oper.wp;rw[hr,a3q];refine (hw.2 (fun b=>All F w b/\¬p.σ k b) w (p.β k) x us y (p.σ k) hE (fun b hb=>hb.1.1) (fun b hb=>⟨(h.own k b hlk hb).1,fun hi=>hi.2 hb⟩) (ub _ hw.1 _ _ _ (h.objs k _ hg)) hargs hv).mono fun e w' ⟨S',e1,e2,e4,e5⟩=>?_;subst e1;obtain⟨p1,t1,t2,t3⟩:=al0 h hL hg (S':=S') (R:=fun _=>False) (A:=Imm F p M w) (fun b hb=>hb) e2 (fun b hb=>hb.elim) (fun b hb=>⟨e4 b hb,fun h=>h⟩) (ub _ hw.1 _ _ _ e5);have h3:=Tr.drop t1.hp (fun _=>False) (fun b hb=>hb.elim);refine⟨_,rfl,⟨p1.β,p1.σ,fun _=>False⟩,?_,fun b hb=>hb,?_,fun hfr _=>?_⟩
 ·have h4:=t1.trans h3;simpa only [ap,aih]using h4
 ·simp only[ah,cf];exact⟨[],rfl,rfl⟩
 ·simp[fm]at hfr
theorem azb(hΦ:si P F Φ)(h:Hp F p M w)(hL:∀b,¬p.L b){f:FuncId}{ct:Ct}(hf:Φ f=some ct)(vs:List V)(us:List Value)(hlen:us.length=vs.length)(hrel:∀(i:Nat) v u,vs[i]? = some v->us[i]? = some u->ah p.β M (Imm F p M w) w v u){o:Oper}{d:Nat}(hr0:(∀args w,(callFunc f args).run P w=.ok (.enter f args) w)->(execOp a.eval o).run P w=.ok (.enter f us.toArray) w)
  (hv:ab (zc ct d vs M).vc) (qt:Bool) (Q:Exit->Act->World->Prop):o.wp P a w (fun a' w'=>∃v,a'=a.put o.dst v/\e9 F p M w qt (zc ct d vs M) v w') Q:=by
 obtain⟨hΦ,hG⟩:=hΦ;obtain⟨hcall,hspec⟩:=hΦ f ct hf;have hr:=hr0 hcall;unfold zc at hv⊢
 cases hmu:ct.mu with
 |some mu=>
  cases mu with
  |m m=>simp only[hmu]at hv hspec⊢;exact bmg hG h hL hspec _ _ hlen hrel hr hv qt Q
  |w W=>simp only[hmu]at hv hspec⊢;exact bhl hG h hL hspec _ _ hlen hrel hr hv qt Q
  |s s=>simp only[hmu]at hv;exact hv.1.elim
  |a W=>simp only[hmu]at hv hspec⊢;exact bhw hG h hL hspec _ _ hlen hrel hr hv qt Q
  |c W=>simp only[hmu]at hv hspec⊢;exact bmu hG h hL hspec _ _ hlen hrel hr hv qt Q
 |none=>
 simp only[hmu]at hv hspec⊢;unfold bdp at hspec
 cases hs:shp vs ct.ga with
 |false=>rw[hs]at hv;exact hv.1.elim
 |true=>
  simp only[hs,a0c]at hv⊢
  cases hsh:ct.sh with
  |false=>
   simp only[hsh]at hv⊢;split at hv
   ·rename_i x hx;generalize hN:newL d 0 ct.rt (ct.res x)=q at hv⊢;obtain⟨v,N,j'⟩:=q;simp only at hv⊢;unfold Oper.wp;rw[hr,a3q];refine (hspec (All F w) w _ x (bq6 hG h) (fun b hb=>hb.1) (bdw h _ _ _ _ _ hlen hrel hs hx) hv).mono fun e w' ⟨rs,S,he1,he2,he3,he4⟩=>?_;subst he1;obtain⟨p',t1,t2,t3,t4⟩:=bf3 h hL ct d x (A:=All F w) (fun h=>by rw[hsh]at h;cases h) he2 he3 he4 hN;exact⟨_,rfl,p',t1,t2,t3,fun hfr _=>t4 hfr⟩
   ·exact hv.1.elim
  |true=>
   simp only[hsh]at hv⊢;have hfz:=alu vs M h;have hff:=bg2 vs M;generalize mw M vs=z at hv hfz hff⊢;obtain⟨e0,M1⟩:=z;simp only at hv hfz hff⊢;split at hv
   ·rename_i x hx;generalize hN:newL d 0 ct.rt (ct.res x)=q at hv⊢;obtain⟨v,N,j'⟩:=q;simp only at hv⊢;unfold Oper.wp;rw[hr,a3q]
    have hrel1:∀(i:Nat) v u,(rn e0 vs)[i]? = some v->us[i]? = some u->ah p.β M1 (Imm F p M1 w) w v u:=fun i v u hv hu=>by
     rw[aie]at hv
     cases hx:vs[i]? with
     |none=>rw[hx]at hv;cases hv
     |some v0=>rw[hx]at hv;simp only[a00,a0d]at hv;subst hv;exact hfz.s _ _ (hrel i v0 u hx hu)
    refine (hspec (Imm F p M1 w) w _ x (alv hG hfz.hp hL) (fun b hb=>hb.1) (avm hfz.hp _ _ _ _ _ (by rw[xm];exact hlen) hrel1 (by rw[aqp];exact hs) hx) hv).mono fun e w' ⟨rs,S,he1,he2,he3,he4⟩=>?_;subst he1;obtain⟨p',t1,t2,t3,t4⟩:=bf3 hfz.hp hL ct d x (A:=Imm F p M1 w) (fun _ b hb=>hb) he2 he3 he4 hN;refine⟨_,rfl,p',hfz.trans t1,t2,t3,fun hfr _=>?_⟩;rcases hff with⟨rfl,rfl⟩|⟨y,r,rfl,hy⟩
    ·exact t4 hfr
    ·exfalso;rw[show ap (y::r) (klL (cc N))=y::ap r (klL (cc N))from rfl]at hfr;rw[aj0 hy]at hfr;cases hfr
   ·exact hv.1.elim
theorem aey{q:Nat×Operand}{ps:Array (Nat×Operand)}(h:q∈ps.toList):q.2∈cd.snds (toL ps):=by
 rw[dh];generalize ps.toList=l at h
 induction l with
 |nil=>cases h
 |cons x l ih=>
  obtain⟨i,y⟩:=x;simp only[cd.snds];rcases a0s.1 h with rfl|h
  ·simp
  ·exact a26 _ (ih h)
theorem biq(hB:TabOk P B)(h:Hp F p M w)(hL:∀b,¬p.L b){t:TypeId}(dst:Option Nat)(x:V)(u:Value)(hx:ah p.β M (Imm F p M w) w x u)(hv:ab (tz (B.τ t) M dst x).vc)(qt:Bool) :
  ∃r,(Instr.loadAt t u).run P w=.ok r w/\e9 F p M w qt (tz (B.τ t) M dst x) r w:=by
 unfold tz at hv⊢
 cases htk:abx (B.τ t) M dst x with
 |none=>simp only[htk,cq]at hv⊢;obtain⟨r,h1,h2⟩:=ap2 hB h _ _ hx hv;exact⟨r,h1,e9.pure h hL h2 _⟩
 |some R=>
  simp only[htk]at hv⊢;unfold abx at htk;split at htk
  ·rename_i k i d;split at htk
   ·rename_i o l hgo;cases htk
    cases hk:bg [(B.τ t).ok,dz (B.τ t).size 1,neg (B.τ t).agg,neg (Nat.beq d k),Nat.ble (Nat.succ k) gid]with
    |false=>rw[hk]at hv;exact hv.1.elim
    |true=>
     simp only[hk,a0c,cr,da,a0b]at hv⊢;simp only[au,bh,a0k,a0a,fe,a0t,kh,a1i]at hk;obtain⟨k1,k2,k3,k4,k5⟩:=hk;have hkg:k<gid:=a15 k5;have hgM:my M k [.ix i]=some ⟨.op (.sl o),l.getD i none⟩:=by simp only[my,hgo,get,O.dflt]
     have hev:x8 (B.τ t) M (.ad k [.ix i])=([],.ref k [.ix i]):=by have hz:(O.op (.sl o)).strip.size=1:=rfl;simp only[x8,hgM,hz,k1,k2,k3,xd,a0g];rfl
     obtain⟨r,h1,h2⟩:=ap2 hB h (.ad k [.ix i]) u hx (by rw[hev];trivial);refine⟨r,h1,?_⟩;rw[hev]at h2;simp only[ah,aa]at h2;obtain⟨ob1,pl,q1,q2,q3,q4⟩:=h2;rw[hgo]at q1;cases q1;simp only[gok]at q2;have hy:l.getD i none=some (alb [] l i):=by simp only[bl5]at hv;obtain⟨y,hy⟩:=a48.1 hv;simp only[alb,hy,a0z]
     obtain⟨p1,S,s1,s2,s3,s4,s5⟩:=Tr.row h hgo hkg q2.1 hy q4;obtain⟨d1,d2⟩:=Hp.del s4.hp d;have tn:=Tr.new d1 d (cy d _) r S ⟨.sl o,alb [] l i⟩ ⟨rfl,⟨rfl,a0f _⟩,rfl,a0f _,fun _ _ _=>rfl⟩ (fun b hb=>.inr ((s2 b).2 (.inr hb))) (fun hkp=>Rel.keep (d2.trans hkp) _ _ _ _ (fun _ _=>rfl) s5);refine⟨_,s4.trans ((Tr.kl s4.hp d).trans tn),fun b hb=>hb,?_,fun hf _=>by simp[fm]at hf⟩;simp only[ah,aa];exact⟨⟨.sl o,alb [] l i⟩,none,lk _ _ _,by simp only[gok],⟨⟨.sl o,alb [] l i⟩,by simp only[get]⟩,by rw[aaf];simp only[res]⟩
   ·cases htk
  ·cases htk
theorem bq9{r:Nat}{π:bq}(q:Ob)(M':Mem)(hc:aap gid r π M=some (q,[],M')):False:=by
 unfold aap at hc
 cases hok:neg (og r gid)with
 |true=>rw[hok]at hc;cases hc
 |false=>
  rw[hok]at hc;simp only[a0g]at hc
  cases hg:go M r with
  |none=>rw[hg]at hc;cases hc
  |some ob=>
   rw[hg]at hc;simp only at hc
   cases hq:get π ob.o ob.x with
   |none=>rw[hq]at hc;cases hc
   |some q0=>
    rw[hq]at hc
    cases π with
    |nil=>cases hc
    |cons s π=>
     simp only at hc
     cases hh:ahf (s::π)with
     |true=>rw[hh]at hc;cases hc
     |false=>rw[hh]at hc;simp only[a0g]at hc;split at hc <;> cases hc
theorem bnq(hB:TabOk P B)(h:Hp F p M w)(hL:∀b,¬p.L b){t:TypeId}(ρ:Operand->V)(x:Operand)(lo hi:Option Operand)(hx:ah p.β M (Imm F p M w) w (ρ x) (a.eval x))(hlo:∀y,lo=some y->ah p.β M (Imm F p M w) w (ρ y) (a.eval y))(hhi:∀y,hi=some y->ah p.β M (Imm F p M w) w (ρ y) (a.eval y))
  (hv:ab (ano B (B.τ t) ρ x lo hi M).vc) (qt:Bool) {o:Oper} (ho:o.op=.slice t x lo hi none):∃v w',(execOp a.eval o).run P w=.ok (.value v) w'/\e9 F p M w qt (ano B (B.τ t) ρ x lo hi M) v w':=by
 unfold ano at hv⊢;split at hv
 ·rename_i r π hr;split at hv
  ·rename_i q e M' hc;rw[hr]at hx;have hx1:Ref p.β M w r π [a.eval x]:=by have:=hx;simp only[ah,aa]at this;exact this
   obtain⟨_,p1,S,cv⟩:=bdv h gid r π [a.eval x] q e M' hx1 hc;have td:=Tr.drop cv.tr.hp (fun b=>p.L b) (fun b hb=>(cv.L b).2 (.inl hb));have tt:Tr F p M w e ⟨p1.β,p1.σ,fun b=>p.L b⟩ M' w:=by have:=cv.tr.trans td;rwa [aih]at this
   have hrel:ah p1.β M' (Imm F ⟨p1.β,p1.σ,fun b=>p.L b⟩ M' w) w (.d q.o.strip q.x) (a.eval x):=by rw[bd];refine Rel.frz (fun b hb=>(td.keep b hb).1) q.o q.x S [a.eval x] (fun b hb=>?_) cv.rel;have hl:=cv.tr.hp.lim b ((cv.L b).2 (.inr hb));exact⟨hl.1,.inr (.inr hl.2.1),fun h=>cv.sp b hb h,hl.2.2⟩
   obtain⟨u,h1,h2⟩:=bge (p:=⟨p1.β,p1.σ,fun b=>p.L b⟩) (M:=M') hB (x0:=x) (lo0:=lo) (hi0:=hi) _ (fun y=>(ρ y).evs e) hrel (fun y hy=>tt.s _ _ (hlo y hy)) (fun y hy=>tt.s _ _ (hhi y hy)) hv;refine⟨u,w,by simp[execOp,ho,h1],_,tt,hL,h2,fun hf _=>?_⟩;exfalso;rcases cv.fr with⟨e1,_,_⟩|⟨y,r',e1,e2⟩
   ·subst e1;exact bq9 q M' hc
   ·subst e1;have:=aj0 (M:=M) (r:=r') e2;rw[this]at hf;cases hf
  ·exact hv.1.elim
 ·obtain⟨u,h1,h2⟩:=bge hB (x0:=x) (lo0:=lo) (hi0:=hi) _ ρ hx hlo hhi hv;exact⟨u,w,by simp[execOp,ho,h1],e9.pure h hL h2 _⟩
theorem bsp(hB:TabOk P B)(h:Hp F p M w)(hL:∀b,¬p.L b){t:TypeId}(d:Option Nat)(ρ:Operand->V)(x:Operand)(lo hi:Option Operand)(hx:ah p.β M (Imm F p M w) w (ρ x) (a.eval x))(hlo:∀y,lo=some y->ah p.β M (Imm F p M w) w (ρ y) (a.eval y))
  (hv:ab (ahh B (B.τ t) d ρ x lo hi M).vc) (qt:Bool) {o:Oper} (ho:o.op=.slice t x lo hi none):∃v w',(execOp a.eval o).run P w=.ok (.value v) w'/\e9 F p M w qt (ahh B (B.τ t) d ρ x lo hi M) v w':=by
 unfold ahh at hv⊢;split at hv
 ·rename_i r d ki n e hr hlo0 he
  obtain⟨y,rfl,hy⟩:∃y,lo=some y/\ρ y=.d (.int ki) n:=by
   cases lo with
   |none=>cases hlo0
   |some y=>simp only[wm,a0d]at hlo0;exact⟨y,rfl,hlo0⟩
  split at hv
  ·rename_i oo l hg
   cases hk:bg [og r d,(B.τ t).ok,(B.τ e).ok,dz oo.strip.size (B.τ e).size]with
   |false=>rw[hk]at hv;exact hv.1.elim
   |true=>
    simp only[hk,a0c,cr,da,a0b]at hv⊢;simp only[au,bh,a0k,a0a,fe,a0t]at hk;obtain⟨k0,k1,k2,k3⟩:=hk;obtain⟨hne,hgid⟩:=zx (r:=r) (k:=d) (by rw[k0];rfl);have eτ:=hB.τ t k1;have eτ':=hB.τ e k2;rw[←eτ]at k1 he;rw[←eτ']at k2 k3;obtain⟨inf,u,hi',hu⟩:=dl k1;obtain⟨infe,ue,hie,hue⟩:=dl k2;rw[gp hi' hu]at he;rw[gp hie hue]at k3;simp only[nw]at he k3;cases u <;> simp at he;obtain rfl:=he.symm;have h1:=hlo y rfl;rw[hy,bd,c9]at h1;rw[hr]at hx;simp only[ah,aa]at hx;obtain⟨ob,pl,q1,q2,q3,q4⟩:=hx;rw[hg]at q1;cases q1;simp only[res,a0d,a0j,a0i,a0b]at q4;have hvβ:=q4.1;have hrel:=h.objs r _ hg;rw[hvβ]at hrel;have hrel0:=hrel;simp only[Rel,a0i,a0b]at hrel;obtain⟨v',ety,xs,T,rfl,r2,r3,r4,r5,r6,r7⟩:=hrel;have hel:P.elem t=e:=by simp[Program.elem,hu]
    have hu':P.underlying t=some (.slice (P.elem t)):=by rw[hel];exact hu
    have hsz:(sizeOf (P.elem t)).run P w=.ok infe.size w:=by rw[hel];simp[sizeOf,typeInfo,hie]
    have hn0:(0:Int)<=n:=hv.1;have hnl:n<=(l.length:Int):=hv.2;have hnn:n.toNat<=l.length:=tn1 hnl
    obtain⟨oa,cap,hsl,hcap⟩:∃oa cap,a.eval x=.slice oa l.length cap/\l.length<=cap:=by
     rcases zr r2 with⟨hn,oa,hs⟩|⟨g,off,c,cur,hs,_,hc,_⟩
     ·exact⟨oa,0,by rw[hs,hn],by omega⟩
     ·exact⟨_,_,hs,hc⟩
    have hrun:(execOp a.eval o).run P w=.ok (.value (sliced oa n.toNat l.length cap infe.size)) w:=by
     have:(Instr.sliceAt t (a.eval x) (some (a.eval y)) none none).run P w=.ok (sliced oa n.toNat l.length cap infe.size) w:=by rw[run_sliceAt_slice w t _ _ _ _ hu',hsl,h1.1,run_slice_l w t oa l.length cap hu' ki n hn0 hnl,hsz];rfl
     simp[execOp,ho,this]
    have c2:=Cv.whole h d hg hgid;obtain⟨hk1,hk2⟩:=Hp.del c2.tr.hp d;have hxl:xs.length=l.length*oo.size:=r2.1;have hos:oo.size=infe.size:=k3
    -- the row that begins later
    have hnew:ve w ety oo.size (sliced oa n.toNat l.length cap infe.size) (l.drop n.toNat).length (xs.drop (n.toNat*oo.size))/\∀b,jz (sliced oa n.toNat l.length cap infe.size)=some b->jz (a.eval x)=some b:=by
     rcases zr r2 with⟨hn,oa',hs⟩|⟨g,off,c,cur,hs,hg1,hc1,hc2,hc3,hc4⟩
     ·rw[hs]at hsl;simp only[Value.slice.injEq]at hsl;obtain⟨rfl,_,rfl⟩:=hsl;have hz:n.toNat=0:=by omega
      have hl0:l=[]:=a11 hn;subst hl0;rw[hz];simp only[sliced,a01,List.drop_nil,a0p,a3r,Nat.zero_mul,List.drop_zero];have hxs:xs=[]:=a11 (by simpa using hxl);rw[hxs];exact⟨be3 w ety _ _,fun b hb=>by cases oa' <;> cases hb⟩
     ·rw[hs]at hsl;simp only[Value.slice.injEq]at hsl;obtain⟨rfl,_,rfl⟩:=hsl;have hdl:(xs.drop (n.toNat*oo.size)).length=(l.drop n.toNat).length*oo.size:=by rw[a1n,a1n,hxl,Nat.sub_mul]
      by_cases hce:c+1=n.toNat
      ·have hll:l.length=n.toNat:=by omega
       have e0:(l.drop n.toNat).length=0:=by rw[a1n];omega
       simp only[sliced,d0 hce];rw[show l.length-n.toNat=0 by omega,show c+1-n.toNat=0 by omega];refine⟨⟨hdl,.inl ⟨e0,_,rfl⟩⟩,fun b hb=>by cases hb⟩
      ·simp only[sliced,ds hce,a00];rw[a2u];obtain⟨m,hm⟩:∃m,c+1-n.toNat=m+1:=⟨c-n.toNat,by omega⟩;rw[hm];refine⟨⟨hdl,.inr ⟨g,off+n.toNat*infe.size,m,cur,by rw[a1n],hg1,by rw[a1n];omega,by omega,?_,?_⟩⟩,fun b hb=>by rw[hs];exact hb⟩
       ·rw[hc3,←hm,hos,Nat.sub_mul];have:n.toNat*infe.size<=(c+1)*infe.size:=a1z _ (by omega);omega
       ·rw[←hc4,a4m,a3l,hos,a1n,Nat.sub_mul]
    obtain⟨o1,o2⟩:=hnew;have hσ:∀b,p.σ r b->p.L b\/p.σ r b:=fun b hb=>.inr hb;have hld:∀i,(l.drop n.toNat)[i]? = l[n.toNat+i]?:=fun i=>a1c;refine⟨_,w,hrun,e9.appQ (r:=⟨_,.ref d [],[.kl r,.kl d],_⟩) (p':=_) (c2.tr.trans ((Tr.kl c2.tr.hp d).trans (Tr.new (w':=w) hk1 d (cy d _) (sliced oa n.toNat l.length cap infe.size) (p.σ r) ⟨.sl oo,l.drop n.toNat⟩ ⟨rfl,⟨rfl,a0f _⟩,rfl,a0f _,fun _ _ _=>rfl⟩ (fun b hb=>.inr (.inr hb)) (fun hkp=>?_)))) (fun b hb=>hb) ?_ ?_⟩
    ·simp only[Rel];refine⟨_,ety,_,fun i=>T (n.toNat+i),rfl,o1,by rw[a1n];omega,fun b hb=>r4 b (o2 b hb),fun i c hc=>⟨(r5 _ c hc).1,fun e=>(r5 _ c hc).2 (o2 c e)⟩,fun i j c hij=>r6 _ _ c (by omega),fun i z hz=>?_⟩;rw[hld]at hz;have:=r7 _ z hz;rw[a3l,←a1q];exact Rel.keep ((c2.tr.keep.trans (Tr.kl c2.tr.hp d).keep).trans hkp) _ _ _ _ (fun _ _=>rfl) this
    ·simp only[ah,aa];refine⟨⟨.sl oo,l.drop n.toNat⟩,none,lk _ _ _,by simp only[gok],⟨⟨.sl oo,l.drop n.toNat⟩,by simp only[get]⟩,?_⟩;rw[aaf];simp only[res]
    ·show fm M [.kl r,.kl d]=false;simp[fm,hg,isN]
  ·exact hv.1.elim
 ·exact hv.1.elim
theorem bnt(hB:TabOk P B)(h:Hp F p M w)(hL:∀b,¬p.L b){t:TypeId}(d:Option Nat)(ρ:Operand->V)(x:Operand)(lo hi:Option Operand)(hx:ah p.β M (Imm F p M w) w (ρ x) (a.eval x))(hlo:∀y,lo=some y->ah p.β M (Imm F p M w) w (ρ y) (a.eval y))(hhi:∀y,hi=some y->ah p.β M (Imm F p M w) w (ρ y) (a.eval y))
  (hv:ab (xq B t d ρ x lo hi M).vc) (qt:Bool) {o:Oper} (ho:o.op=.slice t x lo hi none):∃v w',(execOp a.eval o).run P w=.ok (.value v) w'/\e9 F p M w qt (xq B t d ρ x lo hi M) v w':=by
 unfold xq at hv⊢
 cases hn:nsT (B.σ t)with
 |true=>simp only[hn,a0c]at hv⊢;exact bsp hB h hL d ρ x lo hi hx hlo hv qt ho
 |false=>simp only[hn,a0g]at hv⊢;exact bnq hB h hL ρ x lo hi hx hlo hhi hv qt ho
theorem bp3(hΦ:si P F Φ)(hB:TabOk P B)(h:Hp F p M w)(hL:∀b,¬p.L b)(o:Oper)(ρ:Operand->V)(hρ:∀x∈cd o.op,ah p.β M (Imm F p M w) w (ρ x) (a.eval x))(hv:ab (c6 B Φ o ρ M).vc)(Q:Exit->Act->World->Prop) :
  o.wp P a w (fun a' w'=>∃v,a'=a.put o.dst v/\e9 F p M w (n9 o) (c6 B Φ o ρ M) v w') Q:=by
 have pure_ok:∀{q:List Prop×V} {r:Value},(execOp a.eval o).run P w=.ok (.value r) w->ah p.β M (Imm F p M w) w q.2 r->o.wp P a w (fun a' w'=>∃v,a'=a.put o.dst v/\e9 F p M w (n9 o) (cq q M) v w') Q:=fun hr hx=>au5 hr ⟨_,rfl,e9.pure h hL hx _⟩;have val_ok:∀{r:Rs},(∃v w',(execOp a.eval o).run P w=.ok (.value v) w'/\e9 F p M w (n9 o) r v w')->o.wp P a w (fun a' w'=>∃v,a'=a.put o.dst v/\e9 F p M w (n9 o) r v w') Q:=fun⟨v,w',hr,hd⟩=>au5 hr ⟨_,rfl,hd⟩;obtain⟨dst,op,ty',pos,after,guard⟩:=o;cases op
 case move x=>exact pure_ok (r:=a.eval x) (by simp[execOp]) (hρ x (by simp[cd]))
 case assign x=>exact pure_ok (r:=a.eval x) (by simp[execOp]) (hρ x (by simp[cd]))
 case nilCheck x=>simp only[c6,cq]at hv;obtain⟨⟨ad,h1⟩,h2⟩:=boq _ _ (hρ x (by simp[cd])) hv;exact pure_ok (r:=a.eval x) (by simp[execOp,h1]) h2
 case load t x=>simp only[c6]at hv⊢;obtain⟨r,h1,h2⟩:=biq hB h hL dst _ _ (hρ x (by simp[cd])) hv (n9 { dst:=dst,op:=.load t x,type:=ty',pos:=pos,after:=after,guard:=guard });exact val_ok ⟨r,w,by simp[execOp,h1],h2⟩
 case fieldAddr t x i=>simp only[c6,cq]at hv;obtain⟨r,h1,h2⟩:=bkx hB h _ _ (hρ x (by simp[cd])) hv;exact pure_ok (r:=r) (by simp[execOp,h1]) h2
 case field t x i=>simp only[c6,cq]at hv;obtain⟨r,h1,h2⟩:=bnp hB h _ _ (hρ x (by simp[cd])) hv;exact pure_ok (r:=r) (by simp[execOp,h1]) h2
 case indexAddr t x i=>simp only[c6,cq]at hv;obtain⟨r,h1,h2⟩:=bm5 hB h _ _ _ _ (hρ x (by simp[cd])) (hρ i (by simp[cd])) hv;exact pure_ok (r:=r) (by simp[execOp,h1]) h2
 case index t x i=>simp only[c6,cq]at hv;obtain⟨r,h1,h2⟩:=bqe hB t _ _ _ _ (hρ x (by simp[cd])) (hρ i (by simp[cd])) hv;exact pure_ok (r:=r) (by simp[execOp,h1]) h2
 case binOp op t x y yt=>simp only[c6,cq]at hv;obtain⟨r,h1,h2⟩:=bj9 hB op t x y _ _ _ _ _ _ (bkm a y) (bkg a y) (hρ x (by simp[cd])) (hρ y (by simp[cd])) hv;refine pure_ok (r:=r) ?_ h2;simp only[execOp,a1j,a2m]at h1⊢;rw[h1];rfl
 case unOp op t x=>simp only[c6,cq]at hv;obtain⟨r,h1,h2⟩:=bqf (P:=P) op _ _ (hρ x (by simp[cd])) hv;exact pure_ok (r:=r) (by simp[execOp,h1]) h2
 case convert s d x=>simp only[c6,cq]at hv;obtain⟨r,h1,h2⟩:=bg9 hB h s d _ _ (hρ x (by simp[cd])) hv;exact pure_ok (r:=r) (by simp[execOp,h1]) h2
 case extract x i=>simp only[c6,cq]at hv;obtain⟨r,h1,h2⟩:=bmm (P:=P) _ i _ (hρ x (by simp[cd])) hv;exact pure_ok (r:=r) (by simp[execOp,h1]) h2
 case slice t x lo hi mx=>
  cases mx with
  |some _=>simp only[c6]at hv;exact hv.1.elim
  |none=>simp only[c6]at hv⊢;exact val_ok (bnt hB h hL dst ρ x lo hi (hρ x (by simp[cd])) (fun y hy=>hρ y (by subst hy;simp[cd,cd.optL,ap])) (fun y hy=>hρ y (by subst hy;simp[cd,cd.optL,ic])) hv _ rfl)
 case alloc e=>simp only[c6]at hv⊢;exact val_ok (bqc hB h hL dst hv _ rfl)
 case box e x=>simp only[c6]at hv⊢;exact val_ok (boi h hL dst _ x (hρ x (by simp[cd])) hv _ rfl)
 case build t parts=>simp only[c6]at hv⊢;exact val_ok (bib hB h hL ρ (fun q hq=>hρ q.2 (aey hq)) hv _ rfl)
 case buildSlice t n parts=>simp only[c6]at hv⊢;exact val_ok (bni hB h hL ρ (fun q hq=>hρ q.2 (aey hq)) dst hv _ rfl)
 case makeSlice t l c=>simp only[c6]at hv⊢;exact val_ok (bj6 hB h hL _ _ (hρ l (by simp[cd])) (hρ c (by simp[cd])) dst hv _ rfl)
 case makeFunc fn fs cs=>
  simp only[c6,cq]at hv;have hlen:(cs.toList.map a.eval).length=(rz ρ cs.toList).length:=by rw[al7,a0x]
  unfold awi at hv;split at hv
  ·rename_i f c hf hc;have hfs:fs=#[]:=by apply a2c;rw[dh]at hf;simpa using hf
   subst hfs;rw[dh]at hc
   have hrc:=bfa h (rz ρ cs.toList) (cs.toList.map a.eval) c hlen (fun i v u hv hu=>by
    rw[al2]at hv;rw[a1b]at hu
    cases hx:cs.toList[i]? with
    |none=>rw[hx]at hv;cases hv
    |some x=>rw[hx]at hv hu;simp only[a00,a0d]at hv hu;subst hv;subst hu;exact hρ x (by simp only[cd,dh,ic];exact a2n _ (a3a hx))) hc
   refine pure_ok (r:=.func (.func f) #[] (cs.toList.map a.eval).toArray) (by
    have e:(cs.toList.map a.eval).toArray=cs.map a.eval:=by apply a2c;simp
    rw[e];simp[execOp,Instr.makeFunc]) ?_
   have hev:awi M (.func f) (toL #[]) (rz ρ (toL cs))=ci (.fn f c):=by unfold awi;rw[dh,dh,hc]
   rw[hev];simp only[ci,ah,aa];exact⟨_,rfl,hrc⟩
  ·exact hv.1.elim
 case store t x y=>simp only[c6,bkq]at hv;simp only[c6];obtain⟨w',hr,hd⟩:=bhr hB h hL (op:={ dst:=dst,op:=.store t x y,type:=ty',pos:=pos,after:=after,guard:=guard }) _ _ (hρ x (by simp[cd])) (hρ y (by simp[cd])) hv rfl;exact bby hr ⟨_,rfl,bk6 hd⟩
 case lookup t x i ok=>simp only[c6,cq]at hv;obtain⟨r,h1,h2⟩:=blx hB h _ _ _ _ ok (hρ x (by simp[cd])) (hρ i (by simp[cd])) hv;exact pure_ok (r:=r) (by simp[execOp,h1]) h2
 case makeMap t rs=>
  cases rs with
  |some _=>simp only[c6]at hv;exact hv.1.elim
  |none=>simp only[c6]at hv⊢;obtain⟨r,w',h1,h2⟩:=bii hB h hL dst hv (n9 { dst:=dst,op:=.makeMap t none,type:=ty',pos:=pos,after:=after,guard:=guard });exact val_ok ⟨r,w',by simp[execOp,h1],h2⟩
 case mapUpdate t m i x=>simp only[c6]at hv⊢;obtain⟨w',hr,hd⟩:=bik hB h hL _ _ _ _ _ _ (hρ m (by simp[cd])) (hρ i (by simp[cd])) (hρ x (by simp[cd])) hv;exact bby (by simp[execOp,hr]) ⟨_,rfl,hd⟩
 case makeInterface t x=>simp only[c6,cq]at hv;obtain⟨r,h1,h2⟩:=bot hB h _ _ (hρ x (by simp[cd])) hv;exact pure_ok (r:=r) (by simp[execOp,h1]) h2
 case typeAssert x xt i ok=>simp only[c6,cq]at hv;obtain⟨r,h1,h2⟩:=bo1 hB (xt:=xt) ok _ _ (hρ x (by simp[cd])) hv;exact pure_ok (r:=r) (by simp[execOp,h1]) h2
 case call c=>
  obtain⟨callee,args,argTypes⟩:=c;simp only[cd,dh]at hρ;have hρa:∀x∈args.toList,ah p.β M (Imm F p M w) w (ρ x) (a.eval x):=fun x hx=>hρ x (by rw[ic];exact a2n _ hx);simp only[c6,dh]at hv⊢;split at hv
  ·split at hv
   ·rename_i x t ha ht;have ha':args=#[x]:=by apply a2c;simpa using ha
    have ht':argTypes=#[t]:=by apply a2c;simpa using ht
    subst ha';subst ht';simp only[cq]at hv;obtain⟨r,h1,h2⟩:=bn8 hB (ty':=ty') h _ _ (hρa x (by simp)) hv;refine pure_ok (r:=r) ?_ h2;simp[execOp,resolve,invoke,builtin,h1]
   ·exact hv.1.elim
  ·split at hv
   ·rename_i x y ha;have ha':args=#[x,y]:=by apply a2c;simpa using ha
    subst ha';simp only[cq]at hv;obtain⟨r,h1,h2⟩:=bf5 (P:=P) true argTypes ty' _ _ _ _ (hρa x (by simp)) (hρa y (by simp)) hv;exact pure_ok (r:=r) (by simp only[a0c]at h1;simp[execOp,resolve,invoke,builtin,h1]) h2
   ·exact hv.1.elim
  ·split at hv
   ·rename_i x y ha;have ha':args=#[x,y]:=by apply a2c;simpa using ha
    subst ha';simp only[cq]at hv;obtain⟨r,h1,h2⟩:=bf5 (P:=P) false argTypes ty' _ _ _ _ (hρa x (by simp)) (hρa y (by simp)) hv;exact pure_ok (r:=r) (by simp only[a0g]at h1;simp[execOp,resolve,invoke,builtin,h1]) h2
   ·exact hv.1.elim
  ·split at hv
   ·rename_i x y t t' ha ht;have ha':args=#[x,y]:=by apply a2c;simpa using ha
    have ht':argTypes=#[t,t']:=by apply a2c;simpa using ht
    subst ha';subst ht';simp only[ck]at hv⊢;split at hv
    ·rename_i e;subst e;rw[d0 rfl];obtain⟨v',w',hr,hd⟩:=bn2 hB (ty':=ty') h hL dst _ _ _ _ (hρa x (by simp)) (hρa y (by simp)) hv;exact au5 (v:=v') (w':=w') (by simp[execOp,resolve,invoke,builtin,hr]) ⟨_,rfl,hd⟩
    ·exact hv.1.elim
   ·exact hv.1.elim
  ·rename_i cx;split at hv
   ·rename_i f c d hfn;split at hv
    ·rename_i ct cs hf hcs;obtain⟨us,hcx,hcr⟩:=bs6 (hρ cx (by rw[ic];exact a1t _ (by simp[cd.calO]))) hfn;obtain⟨cl,crel⟩:=bgl h c us cs hcr hcs;have hal:(args.toList.map a.eval).length=(rz ρ args.toList).length:=by rw[al7,a0x]
     refine azb hΦ h hL hf (o:={ dst:=some d,op:=.call { callee:=.value cx,args:=args,argTypes:=argTypes },type:=ty',pos:=pos,after:=after,guard:=guard }) (ap (rz ρ args.toList) cs) (args.toList.map a.eval++us) (by rw[ic,a0q,a0q,hal,cl]) (fun i v u hv hu=>?_) (fun hc=>?_) hv _ Q
     ·rw[ic]at hv;by_cases hi:i<(rz ρ args.toList).length
      ·rw[a1g hi]at hv;rw[a1g (by omega)]at hu;rw[al2]at hv;rw[a1b]at hu
       cases hx:args.toList[i]? with
       |none=>rw[hx]at hv;cases hv
       |some x=>rw[hx]at hv hu;simp only[a00,a0d]at hv hu;subst hv;subst hu;exact hρa x (a3a hx)
      ·rw[a1x (by omega)]at hv;rw[a1x (by omega)]at hu;rw[hal]at hu;exact crel _ v u hv hu
     ·have e:(args.toList.map a.eval++us).toArray=args.map a.eval++us.toArray:=by apply a2c;simp
      rw[e];have hc1:=hc (args.map a.eval++us.toArray) w;simp[execOp,resolve,hcx,Deferred.ofValue,invoke,hc1]
    ·exact hv.1.elim
   ·exact hv.1.elim
  ·rename_i rc name;split at hv
   ·rename_i t v d hin;split at hv
    ·rename_i f hfm;split at hv
     ·rename_i ct hf;obtain⟨y,hy,hyr⟩:=bkc (hρ rc (by rw[ic];exact a1t _ (by simp[cd.calO]))) hin;have hal:(args.toList.map a.eval).length=(rz ρ args.toList).length:=by rw[al7,a0x]
      refine azb hΦ h hL hf (o:={ dst:=some d,op:=.call { callee:=.invoke rc name,args:=args,argTypes:=argTypes },type:=ty',pos:=pos,after:=after,guard:=guard }) (v::rz ρ args.toList) (y::args.toList.map a.eval) (by simp[hal]) (fun i v' u hv hu=>?_) (fun hc=>?_) hv _ Q
      ·cases i with
       |zero=>simp only[a1s,a0d]at hv hu;subst hv;subst hu;exact a7 hyr
       |succ i=>
        simp only[a2h]at hv hu;rw[al2]at hv;rw[a1b]at hu
        cases hx:args.toList[i]? with
        |none=>rw[hx]at hv;cases hv
        |some x=>rw[hx]at hv hu;simp only[a00,a0d]at hv hu;subst hv;subst hu;exact hρa x (a3a hx)
      ·have e:(y::args.toList.map a.eval).toArray=#[y]++args.map a.eval:=by apply a2c;simp
       rw[e];have hc1:=hc (#[y]++args.map a.eval) w;obtain⟨k,hk⟩:∃k,P.types.size+Made.depth=k+1:=⟨P.types.size+99,rfl⟩;have hm:=bky (w:=w) hB.m hfm k y;have e0:(#[Value.iface t y]++args.map a.eval)[0]? = some (Value.iface t y):=by rw[a4a Nat.zero_lt_one];rfl
       have e2:(args.map a.eval).extract 0 args.size=args.map a.eval:=by
        have:=Array.extract_size (xs:=args.map a.eval)
        rwa [a4b]at this
       simp only[execOp,resolve,hy];simp[invoke,callMethod,e0,e2,hk,hm,hc1]
     ·exact hv.1.elim
    ·exact hv.1.elim
   ·exact hv.1.elim
  ·exact hv.1.elim
 all_goals exact hv.1.elim
end
end Go.Bm
/- The du machine:regions in the order of their text. -/
namespace Go.Bm
open Go.RowKit
section
variable {F:Fr} {p p' p'':Ow} {env:Env} {M M' M'':Mem} {a:Act} {w w' w'':World} {P:Program} {B:Tab} {Φ:FuncId->Option Ct}
section
variable (hp:Hp F p' M' w') (q:Qt p M p' M' w w') (hL:∀ b,¬ p.L b)
include hp q hL
omit hp in
theorem awa{b:Nat}(h:Imm F p' M' w' b):Imm F p M w' b:=by refine⟨h.1,h.2.1,hL b,fun j hj=>?_⟩;obtain⟨ob,ho⟩:=ahx hj;obtain⟨h1,h2,h3⟩:=q.old j ob ho;rw[←h3];exact h.2.2.2 j (bo h1)
theorem bec{k b:Nat}(hk:go M k=none)(hl:bt M' k)(h:p'.σ k b):Imm F p M w' b:=by obtain⟨h1,h2⟩:=hp.own k b hl h;refine⟨h1,h2.elim (fun h=>.inr (.inl h.2)) (fun h=>.inr (.inr h)),hL b,fun j hj=>?_⟩;obtain⟨ob,ho⟩:=ahx hj;obtain⟨e1,e2,e3⟩:=q.old j ob ho;rw[←e3];exact hp.sep k j b (fun e=>by rw[e,ho]at hk;cases hk) hl (bo e1) h
theorem bq8(k:Nat)(π:bq)(vs:List Value)(r:Ref p'.β M' w' k π vs):aa p.β M (Imm F p M w') w' (avF M M' (.ref k π)) vs:=by
 simp only[avF];split
 ·rename_i ob ho;obtain⟨e1,e2,e3⟩:=q.old k ob ho;simp only[aa];obtain⟨ob',pl,k1,k2,k3,k4⟩:=r;rw[e1]at k1;cases k1;exact⟨ob,pl,ho,k2,k3,by rw[←e2];exact k4⟩
 ·rename_i ho;split
  ·rename_i qq hq;obtain⟨ob,g1,g2⟩:=qc hq;obtain⟨ob',pl,k1,k2,k3,k4⟩:=r;rw[g1]at k1;cases k1;obtain⟨us,pl',S',e1,e2,e3,_⟩:=look hp g1 k2 g2;rw[e1]at k4;cases k4;exact fw _ _ _ (Rel.frz (fun b hb=>awa q hL hb) _ _ S' _ (fun b hb=>bec hp q hL ho (bo g1) (e2 b hb)) e3)
  ·simp only[aa];exact r.one hp
theorem brv(k:Nat)(π:bq)(v:Value)(r:Adr p'.β M' w' k π v):aa p.β M (Imm F p M w') w' (avF M M' (.ad k π)) [v]:=by
 simp only[avF];split
 ·rename_i ob ho;obtain⟨e1,e2,e3⟩:=q.old k ob ho;simp only[aa];obtain⟨ob',us,b,off,k1,k2,k3,k4,k5,k6⟩:=r;rw[e1]at k1;cases k1;exact⟨v,rfl,ob,us,b,off,ho,k2,k3,k4,by rw[←e2];exact k5,k6⟩
 ·rename_i ho;split
  ·rename_i qq hq;obtain⟨ob,g1,g2⟩:=qc hq;obtain⟨ob',us0,b0,off0,k1,k2,k3,k4,k5,rfl⟩:=r;rw[g1]at k1;cases k1;obtain⟨us,pl',S',e1,e2,e3,e4,_⟩:=look hp g1 k2 g2;rw[e1]at k5;simp only[a0d,a0j]at k5;obtain⟨rfl,rfl⟩:=k5;obtain⟨b,off,cur,ty',c1,c2,c3,c4,c5⟩:=e4 k4;simp only[a0d,a0j]at c1;obtain⟨rfl,rfl⟩:=c1;simp only[aa,ai]
   exact⟨b0,off0,us,rfl,bec hp q hL ho (bo g1) c2,fun j u hu=>by rw[a19 w' b0 _ cur ty' (0,0) c4];exact c5 j u hu,
    Rel.frz (fun b hb=>awa q hL hb) _ _ S' _ (fun b hb=>bec hp q hL ho (bo g1) (e2 b hb)) e3⟩
  ·simp only[aa];intro u hu;rw[a0u.1 hu];exact r.one
theorem v7:(v:V)->(vs:List Value)->aa p'.β M' (Imm F p' M' w') w' v vs->aa p.β M (Imm F p M w') w' (avF M M' v) vs
 |.p a b,vs,r=>by simp only[aa]at r;simp only[avF,aa];obtain⟨va,vb,h1,h2,h3⟩:=r;exact⟨va,vb,h1,v7 a va h2,v7 b vb h3⟩
 |.u,vs,r=>by simpa only [avF,aa]using r
 |.ref k π,vs,r=>by simp only[aa]at r;exact bq8 hp q hL k π vs r
 |.ad k π,vs,r=>by simp only[aa]at r;obtain⟨v,rfl,r⟩:=r;exact brv hp q hL k π v r
 |.d t x,vs,r=>by simp only[aa,avF]at r⊢;exact ai.keep (fun b hb=>⟨awa q hL hb,rfl⟩) t x vs r
 |.nl,vs,r=>by simpa only [avF,aa]using r
 |.np,vs,r=>by simpa only [avF,aa]using r
 |.any,vs,r=>by simpa only [avF,aa]using r
 |.fn f v,vs,r=>by simp only[aa]at r;simp only[avF,aa];obtain⟨us,h1,h2⟩:=r;exact⟨us,h1,v7 v us h2⟩
 |.bx v,vs,r=>by simp only[aa]at r;simp only[avF,aa];obtain⟨b,o,us,h1,h2,h3,h4⟩:=r;exact⟨b,o,us,h1,awa q hL h2,h3,v7 v us h4⟩
 |.ag _,vs,r=>by simp only[aa]at r
 |.tup _,vs,r=>by simp only[aa]at r
 |.gd _ _ _ _,vs,r=>by simp only[aa]at r
 |.ifc t v,vs,r=>by simp only[aa]at r;simp only[avF,aa];obtain⟨u,h1,h2⟩:=r;exact⟨u,h1,v7 v [u] h2⟩
mutual
theorem bo5:(v:V)->(u:Value)->ah p'.β M' (Imm F p' M' w') w' v u->ah p.β M (Imm F p M w') w' (avF M M' v) u
 |.any,u,r=>by simp only[avF,ah]
 |.ag v,u,r=>by simp only[avF,ah]at r⊢;obtain⟨vs,h1,h2⟩:=r;exact⟨vs,h1,v7 hp q hL v vs h2⟩
 |.tup v,u,r=>by simp only[avF,ah]at r⊢;obtain⟨vs,h1,h2⟩:=r;exact⟨vs,h1,bpw v vs h2⟩
 |.gd _ _ _ _,u,r=>by simp only[avF,ah]
 |.ifc t v,u,r=>by simp only[ah]at r;exact a7 (v7 hp q hL _ _ r)
 |.p a b,u,r=>by simp only[ah]at r;exact a7 (v7 hp q hL _ _ r)
 |.u,u,r=>by simp only[ah]at r;exact a7 (v7 hp q hL _ _ r)
 |.ref k π,u,r=>by simp only[ah]at r;exact a7 (v7 hp q hL _ _ r)
 |.ad k π,u,r=>by simp only[ah]at r;exact a7 (v7 hp q hL _ _ r)
 |.d t x,u,r=>by simp only[ah]at r;exact a7 (v7 hp q hL _ _ r)
 |.nl,u,r=>by simp only[ah]at r;exact a7 (v7 hp q hL _ _ r)
 |.np,u,r=>by simp only[ah]at r;exact a7 (v7 hp q hL _ _ r)
 |.fn f x,u,r=>by simp only[ah]at r;exact a7 (v7 hp q hL _ _ r)
 |.bx x,u,r=>by simp only[ah]at r;exact a7 (v7 hp q hL _ _ r)
theorem bpw:(v:V)->(us:List Value)->cf p'.β M' (Imm F p' M' w') w' v us->cf p.β M (Imm F p M w') w' (avF M M' v) us
 |.p a b,us,r=>by simp only[avF,cf]at r⊢;obtain⟨u,us',h1,h2,h3⟩:=r;exact⟨u,us',h1,bo5 a u h2,bpw b us' h3⟩
 |.u,us,r=>by simpa only [avF,cf]using r
 |.any,us,r=>by simp only[cf]at r
 |.ag x,us,r=>by simp only[cf]at r
 |.tup x,us,r=>by simp only[cf]at r
 |.gd _ _ _ x,us,r=>by simp only[cf]at r
 |.ifc t x,us,r=>by simp only[cf]at r
 |.ref k π,us,r=>by simp only[cf]at r
 |.ad k π,us,r=>by simp only[cf]at r
 |.d t x,us,r=>by simp only[cf]at r
 |.nl,us,r=>by simp only[cf]at r
 |.np,us,r=>by simp only[cf]at r
 |.fn f x,us,r=>by simp only[cf]at r
 |.bx x,us,r=>by simp only[cf]at r
end
end
theorem bai(h:St F p env M a w)(x:Operand)(hx:aao x=true):ah p.β M (Imm F p M w) w (rd env x) (a.eval x):=by
 cases x with
 |tmp t=>simp only[rd,Act.eval];exact h.slots t
 |const v=>
  simp only[rd,Act.eval];simp only[aao]at hx
  cases v with
  |int k n=>simp only[rdV,bd,c9,a0e];simp only[bi0,inKb,au,bh,a0k,a0a,a06]at hx;exact hx
  |bool b=>simp only[rdV,bd,ef]
  |string s=>simp only[rdV,bd,ae0,a0e];simp only[bi0]at hx;exact a15 hx
  |slice o n m=>
   cases o with
   |some _=>simp only[rdV,ah]
   |none=>
    simp only[rdV]
    cases hb:nob (Nat.beq n 0) (Nat.beq m 0)with
    |false=>simp only[a0g,ah]
    |true=>simp only[am,a0a]at hb;have h1:=a0v hb.1;have h2:=a0v hb.2;subst h1;subst h2;simp only[a0c,ah,aa];exact⟨none,rfl⟩
  |pointer o=>
   cases o with
   |some _=>simp only[rdV,ah]
   |none=>simp only[rdV,ah,aa]
  |nilIface=>simp only[rdV];rw[bd];simp only[ai];simp
  |_=>simp only[rdV,ah]
 |func f=>simp only[rd,Act.eval,ah,aa];exact⟨[],rfl,rfl⟩
 |global g=>simp only[rd,ah]
theorem ajp(f:Operand->V):∀(l:List Operand),ab (rh f l)->∀x∈l,∀j b Q v,f x=.gd j b Q v->Q
 |[],_,x,hx,_,_,_,_,_=>by cases hx
 |y::r,h,x,hx,j,b,Q,v,e=>by
  simp only[rh]at h;rcases a0s.1 hx with rfl|hx
  ·rw[e]at h;exact h.1
  ·split at h
   ·exact ajp f r h.2 x hx j b Q v e
   ·exact ajp f r h x hx j b Q v e
theorem amx{x:Operand}{u:Value}(h:ah p.β M (Imm F p M w) w (rd env x) u)(hn:∀j b Q v,rd env x=.gd j b Q v->Q):ah p.β M (Imm F p M w) w (rd env x).strip u:=by
 cases hx:rd env x with
 |gd j b Q v=>rw[hx]at h;simp only[ah]at h;simp only[V.strip];exact h.1 (hn j b Q v hx)
 |_=>rw[hx]at h;exact h
def yB(u:Value):Option Bool:=match u with|.bool b=>some b|_=>none
theorem bho{β:Nat->Value}{Im:Nat->Prop}:(x:V)->(u:Value)->(want:Bool)->ko x=true->ah β M Im w x u->((yB u==some want)=true<->gc x want)
 |.d .bool b,u,want,_,r=>by rw[bd,ef]at r;subst r;simp[yB,gc]
 |.gd j b Q x,u,want,h,r=>by
  simp only[ah]at r;simp only[ko]at h;simp only[gc];by_cases hp:Q
  ·rw[bho x u want h (r.1 hp)];simp[hp]
  ·rw[r.2 hp];simp[yB,undef,hp]
 |.any,_,_,h,_=>by simp[ko]at h
 |.nl,_,_,h,_=>by simp[ko]at h
 |.np,_,_,h,_=>by simp[ko]at h
 |.u,_,_,h,_=>by simp[ko]at h
 |.d (.int _) _,_,_,h,_=>by simp[ko]at h
 |.d .str _,_,_,h,_=>by simp[ko]at h
 |.d .u _,_,_,h,_=>by simp[ko]at h
 |.d (.p _ _) _,_,_,h,_=>by simp[ko]at h
 |.d (.sl _) _,_,_,h,_=>by simp[ko]at h
 |.d (.pt _) _,_,_,h,_=>by simp[ko]at h
 |.d (.fn _ _) _,_,_,h,_=>by simp[ko]at h
 |.d .any _,_,_,h,_=>by simp[ko]at h
 |.ref _ _,_,_,h,_=>by simp[ko]at h
 |.ad _ _,_,_,h,_=>by simp[ko]at h
 |.p _ _,_,_,h,_=>by simp[ko]at h
 |.ag _,_,_,h,_=>by simp[ko]at h
 |.tup _,_,_,h,_=>by simp[ko]at h
 |.fn _ _,_,_,h,_=>by simp[ko]at h
 |.ifc _ _,_,_,h,_=>by simp[ko]at h
 |.bx _,_,_,h,_=>by simp[ko]at h
theorem avj{ops:Array Oper}{tmps:Array Value}{j d:Nat}(hd:(ops[j]?).bind (·.dst)=some d):yielded ops tmps j=yB (tmps.getD d undef):=by
 unfold yielded;rw[hd];simp only[Option.bind_some];rw[a3d]
 cases tmps[d]? with
 |none=>rfl
 |some u=>cases u <;> rfl
theorem anl{v:V}(h:v.isB=true):∃b,v=.d .bool b/\v.boolV=b:=by
 cases v with
 |d t x=>cases t <;> simp[V.isB]at h;exact⟨x,rfl,rfl⟩
 |_=>simp[V.isB]at h
theorem bju(h:St F p env M a w)(c x y:Operand)(hc:aao c=true)(hx:aao x=true)(hy:aao y=true)(hv:ab (af3 env c x y).1) :
  ∃r,(do pure (if ←asBool (a.eval c)then a.eval x else a.eval y):Sem Value).run P w=.ok r w/\ah p.β M (Imm F p M w) w (af3 env c x y).2 r:=by
 unfold af3 at hv⊢;have hk:=io hv;simp only[hk,a0c]at hv⊢;simp only[au,bh,a0k,a0a]at hk;obtain⟨cb,c1,c2⟩:=anl hk.1;obtain⟨xb,x1,x2⟩:=anl hk.2.1;obtain⟨yb,y1,y2⟩:=anl hk.2.2;simp only[sf]at hv;obtain⟨v1,v2,v3⟩:=hv;have hcv:=amx (bai h c hc) (fun j b Q v e=>ajp _ _ v1 c (by simp) j b Q v e);rw[c1,bd,ef]at hcv;simp only[c1,x1,y1,V.boolV]at v2 v3⊢
 have hxv:cb=true->a.eval x=.bool xb:=fun hcb=>by
  have:=amx (bai h x hx) (fun j b Q v e=>by rw[e]at v2;simp only[afi,cr]at v2;exact v2.1 hcb)
  rwa [x1,bd,ef]at this
 have hyv:cb=false->a.eval y=.bool yb:=fun hcb=>by
  have:=amx (bai h y hy) (fun j b Q v e=>by rw[e]at v3;simp only[afi,cr]at v3;exact v3.1 hcb)
  rwa [y1,bd,ef]at this
 have hval:∀r,r=(if cb=true then a.eval x else a.eval y)->r=.bool (bif cb then xb else yb):=fun r hr=>by
  cases cb with
  |true=>rw[hr,d0 rfl,hxv rfl];rfl
  |false=>rw[hr,ds (by simp),hyv rfl];rfl
 have hpick:bak cb x y xb yb=(bif cb then xb else yb):=by
  unfold bak;split
  ·simp only[rd,rdV,V.strip,V.d.injEq,heq_eq_eq,a0e]at x1;subst x1;cases cb <;> rfl
  ·simp only[rd,rdV,V.strip,V.d.injEq,heq_eq_eq,a0e]at y1;subst y1;cases cb <;> simp
  ·rfl
 refine⟨if cb=true then a.eval x else a.eval y,?_,?_⟩
 ·simp only[a1j,a2m,hcv,asBool,a1r]
 ·rw[bd,ef,hpick];exact hval _ rfl
def me(nt:Nat):List Oper->Bool
 |[]=>true
 |o::r=>nob (match o.dst with|some k=>Nat.ble (Nat.succ k) nt|none=>true) (nob (bbu aao (cd o.op)) (nob (match o.op with|.pick c a b=>bg [aao c,aao a,aao b]|_=>true) (me nt r)))
theorem ack{nt:Nat}{o:Oper}{r:List Oper}(h:me nt (o::r)=true):(∀k,o.dst=some k->k<nt)/\(∀x∈cd o.op,aao x=true)/\(∀c a b,o.op=.pick c a b->aao c=true/\aao a=true/\aao b=true)/\me nt r=true:=by
 simp only[me,am,a0a]at h;obtain⟨h1,h2,h3,h4⟩:=h;refine⟨fun k hk=>?_,(bnx _ _).1 h2,fun c a b e=>?_,h4⟩
 ·rw[hk]at h1;exact a15 h1
 ·rw[e]at h3;simpa only [au,bh,a0k,a0a]using h3
theorem wx{nt:Nat}{o:Oper}:{l:List Oper}->me nt l=true->o∈l->me nt [o]=true
 |[],_,h=>by cases h
 |x::l,h,hm=>by
  rcases a0s.1 hm with rfl|hm
  ·simp only[me,am,a0a]at h⊢;exact⟨h.1,h.2.1,h.2.2.1,trivial⟩
  ·exact wx (ack h).2.2.2 hm
theorem auc(hΦ:si P F Φ)(hB:TabOk P B)(h:St F p env M a w){o:Oper}(hc:me F.nt [o]=true)(hv:ab (evR B Φ o env M).vc)(Q:Exit->Act->World->Prop) :
  o.wp P a w (fun a' w'=>∃v,a'=a.put o.dst v/\e9 F p M w (n9 o) (evR B Φ o env M) v w') Q:=by
 obtain⟨_,c1,c2,_⟩:=ack hc;have key:∀r:Rs,c6 B Φ o (fun x=>(rd env x).strip) M=r->ab (rh (rd env) (cd o.op))->ab r.vc->o.wp P a w (fun a' w'=>∃v,a'=a.put o.dst v/\e9 F p M w (n9 o) r v w') Q:=fun r hr h1 h2=>by subst hr;exact bp3 hΦ hB h.hp h.lz o _ (fun x hx=>amx (bai h x (c1 x hx)) (fun j b Q v e=>ajp _ _ h1 x hx j b Q v e)) h2 Q
 unfold evR at hv⊢;split at hv
 ·rename_i c x y hop;obtain⟨k1,k2,k3⟩:=c2 c x y hop;simp only[cq]at hv;obtain⟨r,h1,h2⟩:=bju (P:=P) h c x y k1 k2 k3 hv;refine au5 (v:=r) (w':=w) ?_ ⟨_,rfl,e9.pure h.hp h.lz h2 _⟩;simp only[a1j,a2m]at h1;simp only[execOp,hop,a1j,a2m]
  cases hcc:(asBool (a.eval c)).run P w with
  |ok b w1=>rw[hcc]at h1;simp only[a1r,Result.ok.injEq]at h1⊢;rw[h1.1,h1.2];exact⟨rfl,rfl⟩
  |halt hh w1=>rw[hcc]at h1;simp at h1
 ·generalize hq:c6 B Φ o (fun x=>(rd env x).strip) M=q at hv⊢;obtain⟨vc,v,e,M1⟩:=q;simp only[sf]at hv⊢;refine a3e (fun a' w' ⟨u,h1,p',h2,h3,h4,h5⟩=>⟨u,h1,p',h2,h3,h4,h5⟩) (key _ hq hv.1 hv.2)
theorem St.wrO{d:Option Nat}(h:St F p env M a w)(x:V)(v:Value)(hx:ah p.β M (Imm F p M w) w x v)(hd:∀k,d=some k->F.ok k):St F p (wr d x env) M (a.put d v) w:=by
 cases d with
 |none=>exact h
 |some k=>exact h.write k x v hx (hd k rfl)
theorem e9.frz{r:Rs}{v:Value}(h:St F p env M a w)(hd:e9 F p M w true r v w')(hf:fm M r.ev=true):St F p env M a w'/\ah p.β M (Imm F p M w') w' (avF M r.M r.av) v:=by obtain⟨p',h1,h2,h3,h4⟩:=hd;have q:=h4 hf rfl;exact⟨h.ext q.ext,bo5 h1.hp q h.lz _ _ h3⟩
theorem bdf(all:Array Oper)(j:Nat):vg (toL all) j=(all[j]?).bind (·.dst):=by unfold vg;rw[ab9,dh,a2t];cases all[j]? <;> rfl
theorem bkk{o:Oper}(hc:me F.nt [o]=true)(hfv:∀k,o.dst=some k->F.fv k=none):∀k,o.dst=some k->F.ok k:=fun k hk=>⟨(ack hc).1 k hk,hfv k hk⟩
theorem axi(hΦ:si P F Φ)(hB:TabOk P B)(all:Array Oper)(h:St F p env M a w){o:Oper}{rest:List Oper}{K:Env->Mem->Prop}(hk:tw B Φ (toL all) (o::rest) env M K)(hc:me F.nt [o]=true)(hfv:∀k,o.dst=some k->F.fv k=none)(Q:Exit->Act->World->Prop) :
  (if Region.wanted o (yielded all a.tmps)then o.wp P a w (fun a' w'=>∃p' env' M',St F p' env' M' a' w'/\tw B Φ (toL all) rest env' M' K) Q\/(o.asks P a w/\LetsOut Q)else ∃p' env' M',St F p' env' M' (a.put o.dst undef) w/\tw B Φ (toL all) rest env' M' K):=by
 simp only[tw]at hk;have hdst:=bkk hc hfv
 cases hg:o.guard with
 |none=>rw[hg]at hk;rw[d0 (by simp[Region.wanted,hg])];generalize hq:evR B Φ o env M=q at hk;obtain⟨vc,v,e,M1⟩:=q;simp only[sm]at hk;refine .inl (a3e (fun a' w' ⟨u,h1,p',h2,h3,h4,_⟩=>?_) (auc hΦ hB h hc (by rw[hq];exact hk.1) Q));rw[hq]at h2 h4;rw[h1];exact⟨p',_,_,(h.tr h2 h3).wrO _ u h4 hdst,hk.2⟩
 |some g=>
  obtain⟨j,want⟩:=g;rw[hg]at hk;simp only[bdf]at hk
  cases hdj:(all[j]?).bind (·.dst)with
  |none=>rw[hdj]at hk;exact hk.elim
  |some dj=>
   rw[hdj]at hk;generalize hq:evR B Φ o env M=q at hk;obtain⟨vc,v,e,M1⟩:=q;simp only at hk
   cases hb:bg [ko (gt env dj),n9 o,fm M e]with
   |false=>rw[hb]at hk;exact hk.elim
   |true=>
    rw[hb]at hk;simp only[a0c,ak7]at hk;simp only[au,bh,a0k,a0a]at hb;have hy:=bho _ _ want hb.1 (h.slots dj);have hw:Region.wanted o (yielded all a.tmps)=(yB (a.tmps.getD dj undef)==some want):=by simp only[Region.wanted,hg,avj hdj]
    rw[hw];by_cases hcg:gc (gt env dj) want
    ·rw[d0 (hy.2 hcg)];refine .inl (a3e (fun a' w' ⟨u,h1,hd⟩=>?_) (auc hΦ hB h hc (by rw[hq];exact hk.1 hcg) Q));rw[hq,hb.2.1]at hd;obtain⟨h2,h3⟩:=e9.frz h hd hb.2.2;rw[h1];exact⟨p,_,_,h2.wrO _ u (by simp only[ah];exact⟨fun _=>h3,fun hn=>absurd hcg hn⟩) hdst,hk.2⟩
    ·rw[ds (fun hh=>hcg (hy.1 hh))];exact⟨p,_,_,h.wrO _ undef (by simp only[ah];exact⟨fun hn=>absurd hn hcg,fun _=>trivial⟩) hdst,hk.2⟩
theorem bpf(hΦ:si P F Φ)(hB:TabOk P B)(all:Array Oper)(Q:Exit->Act->World->Prop)(K:Env->Mem->Prop)(hQ:∀p env M a w,St F p env M a w->K env M->Q .normal a w) :
  ∀(ops:List Oper) (p:Ow) (env:Env) (M:Mem) (a:Act) (w:World),me F.nt ops=true->(∀o∈ops,∀k,o.dst=some k->F.fv k=none)->St F p env M a w->tw B Φ (toL all) ops env M K->wpList P all Q ops a w
 |[],p,env,M,a,w,_,_,h,hk=>hQ p env M a w h hk
 |o::rest,p,env,M,a,w,hc,hfv,h,hk=>by
  have hc1:=wx hc (a3f);have hst:=axi hΦ hB all h hk hc1 (hfv o (by simp)) Q;have ih:∀p' env' M' a' w',St F p' env' M' a' w'->tw B Φ (toL all) rest env' M' K->wpList P all Q rest a' w':=fun p' env' M' a' w' h1 h2=>bpf hΦ hB all Q K hQ rest p' env' M' a' w' (ack hc).2.2.2 (fun o' ho'=>hfv o' (by simp[ho'])) h1 h2;unfold wpList;split at hst
  ·rename_i hw;rw[d0 hw];exact hst.imp (a3e (fun a' w' ⟨p',env',M',h1,h2⟩=>ih p' env' M' a' w' h1 h2)) id
  ·rename_i hw;rw[ds hw];obtain⟨p',env',M',h1,h2⟩:=hst;exact ih p' env' M' _ w h1 h2
end
end Go.Bm
/- The du machine:regions whose order is left open. -/
namespace Go.Bm
open Go.RowKit
def xi:Nat->List Oper->Bool
 |_,[]=>true
 |j,o::r=>(o.after.toList.all fun e=>!Region.binds .any e||Nat.blt e.on j)&&xi (j+1) r
def abs(ops:Array Oper)(o:Oper):List Nat:=o.looksAt ops
def alx(ops:Array Oper)(ms:List Nat)(i j:Nat)(x y:Oper):Bool:=
 match x.dst with
 |none=>true
 |some t=>(match y.dst with|some t'=>!(Nat.beq t t')|none=>true)&&(!((abs ops y).contains t)||(if i<j then (ms.getD j 0).testBit i else (ms.getD i 0).testBit j))
def afz(ops:Array Oper)(ms:List Nat)(m:Nat):Bool:=
 (List.range m).all fun i=>(List.range m).all fun j=>Nat.beq i j||match ops[i]?,ops[j]? with
  |some x,some y=>alx ops ms i j x y
  |_,_=>true
def aun(ops:Array Oper)(ms:List Nat)(m:Nat):Bool:=(List.range ops.size).all fun j=>Nat.blt j m||(List.range j).all fun i=>(ms.getD j 0).testBit i
def isL(listed:Array Bool)(i:Nat):Prop:=listed.getD i false=true
def unl(listed:Array Bool):Nat->Nat
 |0=>0
 |n+1=>(if listed.getD n false then 0 else 1)+unl listed n
theorem bjm(listed:Array Bool)(i:Nat):∀n,n<=i->unl (listed.setIfInBounds i true) n=unl listed n
 |0,_=>rfl
 |n+1,h=>by rw[unl,unl,bjm listed i n (by omega),a2x false (by omega)]
theorem akx{listed:Array Bool}{i:Nat}(hi:i<listed.size)(hl:¬isL listed i):∀n,i<n->unl (listed.setIfInBounds i true) n+1=unl listed n
 |0,h=>by omega
 |n+1,h=>by
  rw[unl,unl];by_cases e:i=n
  ·subst e;rw[bjm listed i i (a0f _)];have h1:(listed.setIfInBounds i true).getD i false=true:=by simp[hi]
   have h2:listed.getD i false=false:=by simpa[isL]using hl
   rw[h1,h2];simp+arith
  ·rw[a2x false e];have:=akx hi hl n (by omega);omega
theorem aic{listed:Array Bool}:∀{n},unl listed n=0->∀i,i<n->isL listed i
 |0,_,i,h=>by omega
 |n+1,h,i,hi=>by
  rw[unl]at h;by_cases e:i=n
  ·subst e;unfold isL
   cases hb:listed.getD i false with
   |true=>rfl
   |false=>rw[hb]at h;simp at h
  ·exact aic (n:=n) (by omega) i (by omega)
section
variable {ops:Array Oper} {listed:Array Bool}
def aik(ops:Array Oper)(listed:Array Bool):Prop:=∀(j:Nat) (o:Oper),ops[j]? = some o->isL listed j->∀e∈o.after,Region.binds .any e=true->isL listed e.on
theorem bit(ms:List Nat)(o:Oper)(i:Nat)(h:(alo ms o).testBit i=true):∃e∈o.after,Region.binds .any e=true/\(e.on=i\/(ms.getD e.on 0).testBit i=true):=by
 unfold alo at h
 have key:∀(l:List Edge) (m:Nat),(l.foldl (fun m e=>if Region.binds .any e then m |||(1 <<< e.on) |||(ms.getD e.on 0)else m) m).testBit i=true->m.testBit i=true\/∃e∈l,Region.binds .any e=true/\(e.on=i\/(ms.getD e.on 0).testBit i=true):=by
  intro l
  induction l with
  |nil=>intro m h;exact .inl h
  |cons e l ih=>
   intro m h;rw[a16]at h;rcases ih _ h with h1|⟨e',h1,h2⟩
   ·split at h1
    ·rename_i hb;simp only[Nat.testBit_or,a1f]at h1;rcases h1 with (h1|h1)|h1
     ·exact .inl h1
     ·refine .inr ⟨e,by simp,hb,.inl ?_⟩;rw[Nat.shiftLeft_eq,Nat.one_mul]at h1;rw[Nat.testBit_two_pow]at h1;exact a4w h1
     ·exact .inr ⟨e,by simp,hb,.inr h1⟩
    ·exact .inl h1
   ·exact .inr ⟨e',by simp[h1],h2⟩
 rcases key _ _ h with h1|⟨e,h1,h2⟩
 ·simp at h1
 ·exact⟨e,a17.1 h1,h2⟩
theorem ayu:∀(l:List Oper) (ms:List Nat) (pre:List Oper),ms.length=pre.length->(∀j o,pre[j]? = some o->∃ms',ms.getD j 0=alo ms' o/\∀k,ms'.getD k 0=ms.getD k 0\/ms'.getD k 0=0)->
  ∀j o,(pre++l)[j]? = some o->∃ms',(ew ms l).getD j 0=alo ms' o/\∀k,ms'.getD k 0=(ew ms l).getD k 0\/ms'.getD k 0=0
 |[],ms,pre,_,h,j,o,hj=>by simpa[ew]using h j o (by simpa using hj)
 |x::l,ms,pre,hlen,h,j,o,hj=>by
  rw[ew];refine ayu l (ms++[alo ms x]) (pre++[x]) (by simp[hlen]) (fun j o hj=>?_) j o (by simpa using hj);by_cases e:j<pre.length
  ·rw[a1g e]at hj;obtain⟨ms',h1,h2⟩:=h j o hj;refine⟨ms',by rw[←h1];simp[a0n,a1g (hlen▸e)],fun k=>?_⟩;rcases h2 k with h3|h3
   ·by_cases e2:k<ms.length
    ·left;rw[h3];simp[a0n,a1g e2]
    ·right;rw[h3];simp[a0n,a1p (Nat.le_of_not_lt e2)]
   ·exact .inr h3
  ·have hj':=(a1k.1 hj).1;simp at hj';have:j=pre.length:=by omega
   subst this;simp at hj;subst hj;refine⟨ms,by simp[a0n,←hlen],fun k=>?_⟩;by_cases e2:k<ms.length
   ·left;simp[a0n,a1g e2]
   ·right;simp[a0n,a1p (Nat.le_of_not_lt e2)]
theorem aho:∀(l:List Oper) (k:Nat),xi k l=true->∀j o,l[j]? = some o->∀e∈o.after,Region.binds .any e=true->e.on<k+j
 |[],_,_,j,o,h=>by simp at h
 |x::l,k,hb,j,o,h=>by
  simp only[xi,a0a]at hb;intro e he hbi
  cases j with
  |zero=>simp only[a1s,a0d]at h;subst h;have:=a1l.1 hb.1 e (a17.2 he);simpa[hbi,a2y]using this
  |succ j=>simp only[a2h]at h;have:=aho l (k+1) hb.2 j o h e he hbi;omega
theorem lh(hd:aik ops listed)(hb:xi 0 ops.toList=true):∀(j:Nat) (o:Oper),ops[j]? = some o->(∀e∈o.after,Region.binds .any e=true->isL listed e.on)->∀i,((ew [] ops.toList).getD j 0).testBit i=true->isL listed i:=by
 intro j
 induction j using Nat.strongRecOn with
 |_ j ih=>
  intro o ho hl i hi;obtain⟨ms',h1,h2⟩:=ayu ops.toList [] [] rfl (fun j o h=>by simp at h) j o (by simpa using ho);rw[h1]at hi;obtain⟨e,he,hbi,h3⟩:=bit ms' o i hi;have hle:=hl e he hbi;rcases h3 with h3|h3
  ·rw[←h3];exact hle
  ·have hlt:=aho ops.toList 0 hb j o (by simpa using ho) e he hbi;rcases h2 e.on with h4|h4
   ·rw[h4]at h3
    cases hoe:ops[e.on]? with
    |none=>
     have:ops.size<=e.on:=by
      rcases a1m e.on ops.size with h|h
      ·simp[h]at hoe
      ·exact h
     have:=(a03.1 ho).1;omega
    |some oe=>exact ih e.on (by omega) oe hoe (fun e' he' hb'=>hd e.on oe hoe hle e' he' hb') i h3
   ·rw[h4]at h3;simp at h3
theorem vw{j:Nat}(h:j∈Region.ready .any ops listed):∃o,ops[j]? = some o/\listed.getD j true=false/\∀e∈o.after,Region.binds .any e=true->isL listed e.on:=by obtain⟨h1,o,h2,h3⟩:=a3s.1 h;exact⟨o,h2,h1,h3⟩
theorem aik.set(hd:aik ops listed){j:Nat}(h:j∈Region.ready .any ops listed):aik ops (listed.setIfInBounds j true):=by
 intro k o hk hl e he hb;obtain⟨oj,h1,_,h3⟩:=vw h;refine getD_set_true ?_;by_cases hkj:k=j
 ·subst hkj;rw[h1]at hk;cases hk;exact h3 e he hb
 ·refine hd k o hk ?_ e he hb;unfold isL at hl⊢
  rwa [a2x false (a0w hkj)]at hl
theorem ahg(hs:listed.size=ops.size)(hb:xi 0 ops.toList=true)(h:Region.ready .any ops listed=[]):∀i,i<ops.size->isL listed i:=by
 intro i
 induction i using Nat.strongRecOn with
 |_ i ih=>
  intro hi
  cases hl:listed.getD i false with
  |true=>exact hl
  |false=>have:i∈Region.ready .any ops listed:=a3s.2 ⟨by simp[hs,hi]at hl⊢;exact hl,ops[i],by simp[hi],fun e he hbi=>by have:=aho ops.toList 0 hb i ops[i] (by simp[hi]) e he hbi;exact ih e.on (by omega) (by omega)⟩;rw[h]at this;cases this
end
section
variable {P:Program} {B:Tab} {Φ:FuncId->Option Ct}
theorem anq{M:Mem}{place:Nat->Option (bq×Nat×Nat)}{f g:Operand->V}:∀(l:List (Nat×Operand)) (v:V),(∀q∈l,f q.2=g q.2)->t7 M place f l v=t7 M place g l v
 |[],v,_=>rfl
 |(i,x)::r,v,h=>by simp only[t7];rw[h (i,x) (by simp)];have ih:∀v,t7 M place f r v=t7 M place g r v:=fun v=>anq r v (fun q hq=>h q (by simp[hq]));simp only[ih]
theorem anr{M:Mem}{sz:Nat}{f g:Operand->V}:∀(l:List (Nat×Operand)) (v:List V),(∀q∈l,f q.2=g q.2)->p8 M sz f l v=p8 M sz g l v
 |[],v,_=>rfl
 |(i,x)::r,v,h=>by simp only[p8];rw[h (i,x) (by simp)];have ih:∀v,p8 M sz f r v=p8 M sz g r v:=fun v=>anr r v (fun q hq=>h q (by simp[hq]));simp only[ih]
theorem amc{f g:Operand->V}:∀(l:List Operand),(∀x∈l,f x=g x)->rz f l=rz g l
 |[],_=>rfl
 |x::r,h=>by simp only[rz,h x (by simp),amc r fun y hy=>h y (by simp[hy])]
theorem adc{f g:Operand->V}(l:Option Operand)(h:∀x,l=some x->f x=g x):wm f l=wm g l:=by
 cases l with
 |none=>rfl
 |some x=>simp only[wm,h x rfl]
theorem biz{ρ ρ':Operand->V}{M:Mem}(o:Oper)(h:∀x∈cd o.op,ρ x=ρ' x):c6 B Φ o ρ M=c6 B Φ o ρ' M:=by
 obtain⟨dst,op,ty',pos,after,guard⟩:=o;cases op <;> simp only[cd]at h
 case build t ps=>simp only[c6,yf];rw[anq (toL ps) _ (fun q hq=>h q.2 (aey (by rwa [dh]at hq)))]
 case buildSlice t n ps=>
  simp only[c6,abr]
  cases dst with
  |none=>rfl
  |some k=>
   cases (B.τ t).el with
   |none=>rfl
   |some e=>simp only;rw[anr (toL ps) _ (fun q hq=>h q.2 (aey (by rwa [dh]at hq)))]
 case slice t x lo hi mx=>
  cases mx with
  |some _=>rfl
  |none=>
   have hW:ahh B (B.τ t) dst ρ x lo hi M=ahh B (B.τ t) dst ρ' x lo hi M:=by unfold ahh;rw[h x (by simp),adc lo (fun y hy=>h y (by subst hy;simp[cd.optL,ap]))]
   simp only[c6,xq,ano,hW];have h1:∀e:List Ev,wm (fun y=>(ρ y).evs e) lo=wm (fun y=>(ρ' y).evs e) lo:=fun e=>adc lo (fun y hy=>by rw[h y (by subst hy;simp[cd.optL,ap])]);have h2:∀e:List Ev,wm (fun y=>(ρ y).evs e) hi=wm (fun y=>(ρ' y).evs e) hi:=fun e=>adc hi (fun y hy=>by rw[h y (by subst hy;simp[cd.optL,ic])]);rw[h x (by simp),adc lo (fun y hy=>h y (by subst hy;simp[cd.optL,ap])),adc hi (fun y hy=>h y (by subst hy;simp[cd.optL,ic]))];simp only[h1,h2]
 case call c=>
  obtain⟨callee,args,argTypes⟩:=c;simp only[c6];simp only at h;have ha:∀x∈toL args,ρ x=ρ' x:=fun x hx=>h x (by rw[ic];exact a2n _ hx);rw[amc _ ha]
  cases callee with
  |value cx=>have hc:ρ cx=ρ' cx:=h cx (by rw[ic];exact a1t _ (by simp[cd.calO]));simp only[hc]
  |invoke cx nm=>have hc:ρ cx=ρ' cx:=h cx (by rw[ic];exact a1t _ (by simp[cd.calO]));simp only[hc]
  |builtin b=>
   cases b <;> first
    |rfl
    |(simp only;split;(rename_i x t e1 e2;first|rw[ha x (by rw[e1];simp)]|rfl);rfl)
    |(simp only;split;(rename_i x y t t' e1 e2;rw[ha x (by rw[e1];simp),ha y (by rw[e1];simp)]);rfl)
    |(simp only;split;(rename_i x y e1;rw[ha x (by rw[e1];simp),ha y (by rw[e1];simp)]);rfl)
 case makeFunc fn fs cs=>simp only[c6];rw[amc _ (fun x hx=>h x (by rw[ic];exact a2n _ hx))]
 case makeMap t rs=>cases rs <;> rfl
 all_goals (first|rfl|(simp only[c6];simp_all;done))
theorem arw{f g:Operand->V}:∀(l:List Operand),(∀x∈l,f x=g x)->rh f l=rh g l
 |[],_=>rfl
 |x::r,h=>by simp only[rh,h x (by simp),arw r fun y hy=>h y (by simp[hy])]
theorem ai4(o:Oper):(∀x∈cd o.op,x∈o.op.operands):=by
 intro x hx;obtain⟨dst,op,ty',pos,after,guard⟩:=o;cases op <;> simp only[cd,Op.operands,a4c]at hx⊢ <;> try (simpa using hx)
 case slice t y lo hi mx=>cases lo <;> cases hi <;> cases mx <;> simp_all[cd.optL,ap] <;> first|(rcases hx with hx|hx|hx <;> simp[hx];done)|(rcases hx with hx|hx <;> simp[hx];done)
 case build t ps=>
  rw[dh]at hx
  have:∀l:List (Nat×Operand),x∈cd.snds l->∃q∈l,q.2=x:=by
   intro l
   induction l with
   |nil=>intro h;cases h
   |cons q l ih=>
    intro h;obtain⟨i,y⟩:=q;simp only[cd.snds]at h;rcases a0s.1 h with rfl|h
    ·exact⟨(i,x),by simp,rfl⟩
    ·obtain⟨q,h1,h2⟩:=ih h;exact⟨q,by simp[h1],h2⟩
  obtain⟨q,h1,rfl⟩:=this _ hx;rw[List.mem_toArray];exact a2d.2 ⟨q,h1,rfl⟩
 case buildSlice t n ps=>
  rw[dh]at hx
  have:∀l:List (Nat×Operand),x∈cd.snds l->∃q∈l,q.2=x:=by
   intro l
   induction l with
   |nil=>intro h;cases h
   |cons q l ih=>
    intro h;obtain⟨i,y⟩:=q;simp only[cd.snds]at h;rcases a0s.1 h with rfl|h
    ·exact⟨(i,x),by simp,rfl⟩
    ·obtain⟨q,h1,h2⟩:=ih h;exact⟨q,by simp[h1],h2⟩
  obtain⟨q,h1,rfl⟩:=this _ hx;rw[List.mem_toArray];exact a2d.2 ⟨q,h1,rfl⟩
 case makeFunc fn fs cs=>
  rw[ic,dh,dh]at hx;rw[Array.mem_append];rcases a04.1 hx with hx|hx
  ·exact Or.inl (a17.1 hx)
  ·exact Or.inr (a17.1 hx)
 case call c=>
  rw[dh,ic]at hx;unfold Call.operands;rcases a04.1 hx with hx|hx
  ·cases hc:c.callee <;> rw[hc]at hx <;> simp_all[cd.calO]
  ·have:=a17.1 hx;simp[this]
theorem ace{env env':Env}{M:Mem}(o:Oper)(h:∀x∈o.op.operands,rd env x=rd env' x):evR B Φ o env M=evR B Φ o env' M:=by
 unfold evR;split
 ·rename_i c a b hop;have hc:=h c (by rw[hop];simp[Op.operands]);have ha:=h a (by rw[hop];simp[Op.operands]);have hb:=h b (by rw[hop];simp[Op.operands]);simp only[af3,rh,hc,ha,hb]
 ·rw[biz o (fun x hx=>by rw[h x (ai4 o x hx)]),arw _ (fun x hx=>h x (ai4 o x hx))]
def aqg(B:Tab)(Φ:FuncId->Option Ct)(all:List Oper)(o:Oper)(env:Env)(M:Mem)(v:V):Prop:=
 match o.guard with
  |none=>n9 o=true/\fm M (evR B Φ o env M).ev=true/\ab (evR B Φ o env M).vc/\v=avF M (evR B Φ o env M).M (evR B Φ o env M).av
  |some (j,want)=>(match vg all j with
   |some dj=>ko (gt env dj)=true/\n9 o=true/\fm M (evR B Φ o env M).ev=true/\(gc (gt env dj) want->ab (evR B Φ o env M).vc)/\v=.gd j want (gc (gt env dj) want) (avF M (evR B Φ o env M).M (evR B Φ o env M).av)
   |none=>False)
section
variable {F:Fr} {p:Ow} {env:Env} {M:Mem} {a:Act} {w:World} {all:Array Oper}
theorem ay6(all:List Oper):∀(l:List Oper) (env:Env) (K:Env->Prop),dw B Φ all l env M K->∃(E:Nat->Env) (V:Nat->V),E 0=env/\(∀j o,l[j]? = some o->aqg B Φ all o (E j) M (V j)/\E (j+1)=wr o.dst (V j) (E j))/\K (E l.length)
 |[],env,K,h=>⟨fun _=>env,fun _=>.any,rfl,fun j o h=>by simp at h,h⟩
 |o::rest,env,K,h=>by
  have key:∃v,aqg B Φ all o env M v/\dw B Φ all rest (wr o.dst v env) M K:=by
   simp only[dw]at h;unfold aqg;split at h
   ·rename_i hg;simp only[hg];generalize evR B Φ o env M=q at h⊢;obtain⟨vc,v,e,M1⟩:=q;simp only at h⊢
    cases hb:bg [n9 o,fm M e]with
    |false=>rw[hb]at h;exact h.elim
    |true=>rw[hb]at h;simp only[a0c,sm]at h;simp only[au,bh,a0k,a0a]at hb;exact⟨_,⟨hb.1,hb.2,h.1,rfl⟩,h.2⟩
   ·rename_i j want hg;simp only[hg];generalize evR B Φ o env M=q at h⊢;obtain⟨vc,v,e,M1⟩:=q;simp only at h⊢
    cases hdj:vg all j with
    |none=>rw[hdj]at h;exact h.elim
    |some dj=>
     rw[hdj]at h;simp only[hdj]at h⊢
     cases hb:bg [ko (gt env dj),n9 o,fm M e]with
     |false=>rw[hb]at h;exact h.elim
     |true=>rw[hb]at h;simp only[a0c,ak7]at h;simp only[au,bh,a0k,a0a]at hb;exact⟨_,⟨hb.1,hb.2.1,hb.2.2,h.1,rfl⟩,h.2⟩
  obtain⟨v,h1,h2⟩:=key;obtain⟨E,V,e1,e2,e3⟩:=ay6 all rest _ K h2;refine⟨fun j=>match j with|0=>env|j+1=>E j,fun j=>match j with|0=>v|j+1=>V j,rfl,fun j x hj=>?_,by simpa using e3⟩
  cases j with
  |zero=>simp only[a1s,a0d]at hj;subst hj;exact⟨h1,e1⟩
  |succ j=>simp only[a2h]at hj;exact e2 j x hj
theorem afb(d:Option Nat)(v:V)(env:Env)(t:Nat):gt (wr d v env) t=if d=some t then v else gt env t:=by
 cases d with
 |none=>simp[wr]
 |some k=>simp only[wr,km,a0d]
theorem att{l:List Oper}{E:Nat->Env}{V:Nat->V}(h2:∀j o,l[j]? = some o->E (j+1)=wr o.dst (V j) (E j)):∀(j t:Nat),j<=l.length->
  ((∀(i:Nat) (o:Oper),l[i]? = some o->i<j->o.dst≠some t)->gt (E j) t=gt (E 0) t)/\
  (∀(i:Nat) (o:Oper),l[i]? = some o->i<j->o.dst=some t->(∀(i':Nat) (o':Oper),l[i']? = some o'->i'<j->o'.dst=some t->i'=i)->gt (E j) t=V i)
 |0,t,_=>⟨fun _=>rfl,fun i o _ h=>by omega⟩
 |j+1,t,hj=>by
  obtain⟨a1,a2⟩:=att h2 j t (by omega);have ho:l[j]? = some l[j]:=a0o (by omega);rw[h2 j _ ho,afb];refine⟨fun h=>?_,fun i o hi hlt hd hu=>?_⟩
  ·rw[ds (h j _ ho (by omega))];exact a1 fun i o hi hlt=>h i o hi (by omega)
  ·by_cases e:i=j
   ·subst e;rw[ho]at hi;cases hi;rw[d0 hd]
   ·rw[ds (fun hh=>e (hu j _ ho (by omega) hh).symm)];exact a2 i o hi (by omega) hd fun i' o' hi' hl'=>hu i' o' hi' (by omega)
theorem bna(hΦ:si P F Φ)(hB:TabOk P B)(h:St F p env M a w){envj:Env}{o:Oper}{v:V}(hd:aqg B Φ (toL all) o envj M v)(hl:∀t∈o.looksAt all,gt env t=gt envj t)
  (hc:me F.nt [o]=true) (hfv:∀k,o.dst=some k->F.fv k=none) {j:Nat} (hj:all[j]? = some o) (K:Act->World->Prop) (QQ:Exit->Act->World->Prop)
  (hK:∀a' w',St F p (wr o.dst v env) M a' w'->K a' w'):wpOp P all QQ j K a w:=by
 have hdst:=bkk hc hfv
 have hops:evR B Φ o env M=evR B Φ o envj M:=ace o fun x hx=>by
  cases x with
  |tmp t=>have:t∈o.looksAt all:=a1t _ (a3t.2 ⟨.tmp t,by simpa using hx,rfl⟩);simpa only [rd]using hl t this
  |const c=>rfl
  |global g=>rfl
  |func f=>rfl
 unfold wpOp;rw[hj];simp only;unfold aqg at hd;rw[←hops]at hd
 cases hg:o.guard with
 |none=>rw[hg]at hd;obtain⟨h1,h2,h3,rfl⟩:=hd;rw[d0 (by simp[Region.wanted,hg])];refine .inl (a3e (fun a' w' ⟨u,e1,hdn⟩=>?_) (auc hΦ hB h hc h3 QQ));rw[h1]at hdn;obtain⟨k1,k2⟩:=e9.frz h hdn h2;rw[e1];exact hK _ _ (k1.wrO _ u k2 hdst)
 |some g=>
  obtain⟨jg,want⟩:=g;rw[hg]at hd;simp only[bdf]at hd
  cases hdj:(all[jg]?).bind (·.dst)with
  |none=>rw[hdj]at hd;exact hd.elim
  |some dj=>
   rw[hdj]at hd;obtain⟨k0,k1,k2,k3,rfl⟩:=hd;have hgt:gt env dj=gt envj dj:=hl dj (a2n _ (by simp[hg,hdj]));rw[←hgt]at k0 k3 hK;have hy:=bho _ _ want k0 (h.slots dj);have hw:Region.wanted o (yielded all a.tmps)=(yB (a.tmps.getD dj undef)==some want):=by simp only[Region.wanted,hg,avj hdj]
   rw[hw];by_cases hcg:gc (gt env dj) want
   ·rw[d0 (hy.2 hcg)];refine .inl (a3e (fun a' w' ⟨u,e1,hdn⟩=>?_) (auc hΦ hB h hc (k3 hcg) QQ));rw[k1]at hdn;obtain⟨g1,g2⟩:=e9.frz h hdn k2;rw[e1];exact hK _ _ (g1.wrO _ u (by simp only[ah];exact⟨fun _=>g2,fun hn=>absurd hcg hn⟩) hdst)
   ·rw[ds (fun hh=>hcg (hy.1 hh))];exact hK _ _ (h.wrO _ undef (by simp only[ah];exact⟨fun hn=>absurd hn hcg,fun _=>trivial⟩) hdst)
theorem aq8(hΦ:si P F Φ)(hB:TabOk P B)(h:St F p env M a w){o:Oper}{rest:List Oper}{K:Env->Mem->Prop}(hk:tw B Φ (toL all) (o::rest) env M K)
  (hc:me F.nt [o]=true) (hfv:∀k,o.dst=some k->F.fv k=none) {j:Nat} (hj:all[j]? = some o) (Q:Exit->Act->World->Prop) :
  wpOp P all Q j (fun a' w'=>∃p' env' M',St F p' env' M' a' w'/\tw B Φ (toL all) rest env' M' K) a w:=by
 unfold wpOp;rw[hj];exact axi hΦ hB all h hk hc hfv Q
theorem arx{ms:List Nat}{m:Nat}(h:aun all ms m=true){j:Nat}(hj:j<all.size)(hm:m<=j){i:Nat}(hi:i<j):(ms.getD j 0).testBit i=true:=by
 have:=a1l.1 h j (by simpa using hj);simp only[a1f]at this;rcases this with h1|h1
 ·rw[a2y]at h1;omega
 ·exact a1l.1 h1 i (by simpa using hi)
theorem ayt(hΦ:si P F Φ)(hB:TabOk P B)(Q:Exit->Act->World->Prop)(K:Env->Mem->Prop)(hQ:∀p env M a w,St F p env M a w->K env M->Q .normal a w)(hb:xi 0 all.toList=true)(m:Nat)(ht:aun all (ew [] all.toList) m=true)
  (hco:me F.nt all.toList=true) (hfv:∀o∈all.toList,∀k,o.dst=some k->F.fv k=none) :
  ∀(fuel:Nat) (listed:Array Bool) (c:Nat) (p:Ow) (env:Env) (M:Mem) (a:Act) (w:World),listed.size=all.size->(∀i,i<all.size->(isL listed i<->i<c))->m<=c->unl listed all.size<=fuel->aik all listed->
   St F p env M a w->tw B Φ (toL all) (all.toList.drop c) env M K->wpAny P .any all Q fuel listed a w:=by
 intro fuel
 have done:∀(listed:Array Bool) (c:Nat) (p:Ow) (env:Env) (M:Mem) (a:Act) (w:World),listed.size=all.size->(∀i,i<all.size->(isL listed i<->i<c))->Region.ready .any all listed=[]->St F p env M a w->tw B Φ (toL all) (all.toList.drop c) env M K->Q .normal a w:=by
  intro listed c p env M a w hs hl hr hst hk
  have hc:all.toList.length<=c:=by
   rcases a1m c all.size with h|h
   ·have:=(hl c h).1 (ahg hs hb hr c h);omega
   ·simpa using h
  rw[a4x hc]at hk;simp only[tw]at hk;exact hQ p env M a w hst hk
 have noready:∀(listed:Array Bool),listed.size=all.size->unl listed all.size=0->Region.ready .any all listed=[]:=by
  intro listed hs hu
  cases hr:Region.ready .any all listed with
  |nil=>rfl
  |cons i r=>obtain⟨o,h1,h2,_⟩:=vw (j:=i) (by rw[hr];simp);have hi:=(a03.1 h1).1;have:=aic hu i hi;unfold isL at this;simp[hs,hi]at this h2;rw[this]at h2;cases h2
 induction fuel with
 |zero=>intro listed c p env M a w hs hl hm hu _ hst hk;have hr:=noready listed hs (by omega);exact⟨hr,done listed c p env M a w hs hl hr hst hk⟩
 |succ fuel ih=>
  intro listed c p env M a w hs hl hm hu hdn hst hk;refine⟨fun hr=>done listed c p env M a w hs hl hr hst hk,fun j hj=>?_⟩;obtain⟨o,h1,h2,h3⟩:=vw hj;have hjs:=(a03.1 h1).1;have hnl:¬isL listed j:=by unfold isL;simp[hs,hjs]at h2⊢;exact h2
  have hcj:c<=j:=by
   rcases a1m j c with h|h
   ·exact absurd ((hl j hjs).2 h) hnl
   ·exact h
  have hjc:j=c:=by
   rcases a1m c j with h|h
   ·have:=lh hdn hb j o h1 h3 c (arx ht hjs (by omega) h);have:=(hl c (by omega)).1 this;omega
   ·omega
  subst hjc;have hdrop:all.toList.drop j=o::all.toList.drop (j+1):=by rw[a4d (by simpa using hjs)];congr 1;have:=(a03.1 h1).2;simpa using this
  rw[hdrop]at hk;refine wpOp_mono (fun a' w' ⟨p',env',M',e1,e2⟩=>ih _ (j+1) p' env' M' a' w' (by simpa using hs) (fun i hi=>?_) (by omega) ?_ (hdn.set hj) e1 e2) (aq8 hΦ hB hst hk (wx hco (by rw[a17];exact a3g h1)) (hfv o (by rw[a17];exact a3g h1)) h1 Q)
  ·by_cases e:i=j
   ·subst e;simp[isL,hs,hi]
   ·unfold isL at hl⊢;rw[a2x false (a0w e),hl i hi];omega
  ·have:=akx (by rw[hs];exact hjs) hnl all.size hjs;omega
theorem tm{ms:List Nat}{m:Nat}(h:afz all ms m=true){i j:Nat}(hi:i<m)(hj:j<m)(hne:i≠j){x y:Oper}(hx:all[i]? = some x)(hy:all[j]? = some y):alx all ms i j x y=true:=by
 have:=a1l.1 (a1l.1 h i (by simpa using hi)) j (by simpa using hj);rw[hx,hy]at this;simp only[a1f]at this;rcases this with h1|h1
 ·exact absurd (a0v h1) hne
 ·exact h1
theorem awf{ms:List Nat}{i j:Nat}{x y:Oper}(h:alx all ms i j x y=true){t:Nat}(hx:x.dst=some t):y.dst≠some t:=by unfold alx at h;rw[hx]at h;simp only[a0a]at h;intro hy;rw[hy]at h;simp at h
theorem yd{ms:List Nat}{i j:Nat}{x y:Oper}(h:alx all ms i j x y=true){t:Nat}(hx:x.dst=some t)(ht:t∈y.looksAt all):if i<j then (ms.getD j 0).testBit i=true else (ms.getD i 0).testBit j=true:=by
 unfold alx at h;rw[hx]at h;simp only[a0a,a1f,a1i]at h;have h2:=h.2;have hc:(abs all y).contains t=true:=by simpa[abs]using ht
 rcases h2 with h2|h2
 ·rw[hc]at h2;cases h2
 ·split
  ·rename_i hlt;rw[d0 hlt]at h2;exact h2
  ·rename_i hlt;rw[ds hlt]at h2;exact h2
theorem ac6{j:Nat}:all.toList[j]? = all[j]?:=by simp
theorem bl9(hΦ:si P F Φ)(hB:TabOk P B)(Q:Exit->Act->World->Prop)(K:Env->Mem->Prop)(hQ:∀p env M a w,St F p env M a w->K env M->Q .normal a w)(hb:xi 0 all.toList=true)(m:Nat)(hmn:m<=all.size)
  (ht:aun all (ew [] all.toList) m=true) (hdr:afz all (ew [] all.toList) m=true)
  (hco:me F.nt all.toList=true) (hfv:∀o∈all.toList,∀k,o.dst=some k->F.fv k=none) (E:Nat->Env) (V:Nat->V) (hE:∀j o,(all.toList.take m)[j]? = some o->aqg B Φ (toL all) o (E j) M (V j)/\E (j+1)=wr o.dst (V j) (E j))
  (hlast:tw B Φ (toL all) (all.toList.drop m) (E m) M K) :
  ∀(fuel:Nat) (listed:Array Bool) (env:Env) (a:Act) (w:World),listed.size=all.size->(∀i,i<all.size->isL listed i->i<m)->unl listed all.size<=fuel->aik all listed->
   (∀t,((∀i o,all[i]? = some o->isL listed i->o.dst≠some t)->gt env t=gt (E 0) t)/\∀i o,all[i]? = some o->isL listed i->o.dst=some t->gt env t=V i)->
   St F p env M a w->wpAny P .any all Q fuel listed a w:=by
 have htake:∀j o,j<m->all[j]? = some o->(all.toList.take m)[j]? = some o:=fun j o hj ho=>by rw[a27 hj,ac6];exact ho
 have hlen:(all.toList.take m).length=m:=by simp[hmn]
 have uniq:∀i j x y t,i<m->j<m->all[i]? = some x->all[j]? = some y->x.dst=some t->y.dst=some t->i=j:=fun i j x y t hi hj hx hy h1 h2=>by
  rcases Nat.decEq i j with h|h
  ·exact absurd h2 (awf (tm hdr hi hj h hx hy) h1)
  ·exact h
 have take_lt:∀i o,(all.toList.take m)[i]? = some o->i<m/\all[i]? = some o:=fun i o h=>by have h1:=(a1k.1 h).1;rw[hlen]at h1;rw[a27 h1,ac6]at h;exact⟨h1,h⟩
 have hgt:=att (fun j o h=>(hE j o h).2);intro fuel
 induction fuel with
 |zero=>
  intro listed env a w hs hl hu hdn hg hst;by_cases hall:∀i,i<m->isL listed i
  ·refine ayt hΦ hB Q K hQ hb m ht hco hfv 0 listed m p (E m) M a w hs (fun i hi=>⟨hl i hi,hall i⟩) (a0f _) hu hdn (hst.weak fun t=>.inr ?_) hlast;by_cases ht:∃i o,all[i]? = some o/\i<m/\o.dst=some t
   ·obtain⟨i,o,h1,h2,h3⟩:=ht;rw[(hg t).2 i o h1 (hall i h2) h3];exact (hgt m t (by omega)).2 i o (htake i o h2 h1) h2 h3 fun i' o' h1' h2' h3'=>uniq i' i o' o t h2' h2 (take_lt i' o' h1').2 h1 h3' h3
   ·rw[(hg t).1 fun i o h1 h2 h3=>ht ⟨i,o,h1,hl i (a03.1 h1).1 h2,h3⟩];exact (hgt m t (by omega)).1 fun i o h1 h2 h3=>ht ⟨i,o,(take_lt i o h1).2,h2,h3⟩
  ·exact absurd (fun i hi=>aic (Nat.le_zero.1 hu) i (by omega)) hall
 |succ fuel ih=>
  intro listed env a w hs hl hu hdn hg hst;by_cases hall:∀i,i<m->isL listed i
  ·refine ayt hΦ hB Q K hQ hb m ht hco hfv (fuel+1) listed m p (E m) M a w hs (fun i hi=>⟨hl i hi,hall i⟩) (a0f _) hu hdn (hst.weak fun t=>.inr ?_) hlast;by_cases ht:∃i o,all[i]? = some o/\i<m/\o.dst=some t
   ·obtain⟨i,o,h1,h2,h3⟩:=ht;rw[(hg t).2 i o h1 (hall i h2) h3];exact (hgt m t (by omega)).2 i o (htake i o h2 h1) h2 h3 fun i' o' h1' h2' h3'=>uniq i' i o' o t h2' h2 (take_lt i' o' h1').2 h1 h3' h3
   ·rw[(hg t).1 fun i o h1 h2 h3=>ht ⟨i,o,h1,hl i (a03.1 h1).1 h2,h3⟩];exact (hgt m t (by omega)).1 fun i o h1 h2 h3=>ht ⟨i,o,(take_lt i o h1).2,h2,h3⟩
  ·refine⟨fun hr=>absurd (fun i hi=>ahg hs hb hr i (by omega)) hall,fun j hj=>?_⟩;obtain⟨o,h1,h2,h3⟩:=vw hj;have hjs:=(a03.1 h1).1;have hnl:¬isL listed j:=by unfold isL;simp[hs,hjs]at h2⊢;exact h2
   have hjm:j<m:=by
    rcases a1m j m with h|h
    ·exact h
    ·exact absurd (fun i hi=>lh hdn hb j o h1 h3 i (arx ht hjs h (by omega))) hall
   obtain⟨d1,d2⟩:=hE j o (htake j o hjm h1)
   have hlook:∀t∈o.looksAt all,gt env t=gt (E j) t:=fun t htl=>by
    by_cases hw:∃i x,all[i]? = some x/\i<m/\x.dst=some t
    ·obtain⟨i,x,e1,e2,e3⟩:=hw;by_cases hij:i<j
     ·have hpair:=yd (tm hdr e2 hjm (by omega) e1 h1) e3 htl;rw[d0 hij]at hpair;have hli:=lh hdn hb j o h1 h3 i hpair;rw[(hg t).2 i x e1 hli e3];exact ((hgt j t (by omega)).2 i x (htake i x e2 e1) hij e3 fun i' o' h1' h2' h3'=>uniq i' i o' x t (by omega) e2 (take_lt i' o' h1').2 e1 h3' e3).symm
     ·have hnli:¬isL listed i:=fun hli=>by
       by_cases e:i=j
       ·subst e;exact hnl hli
       ·have hpair:=yd (tm hdr e2 hjm e e1 h1) e3 htl;rw[ds hij]at hpair;exact hnl (lh hdn hb i x e1 (fun e' he' hb'=>hdn i x e1 hli e' he' hb') j hpair)
      rw[(hg t).1 fun i' o' h1' h2' h3'=>hnli (uniq i' i o' x t (hl i' (a03.1 h1').1 h2') e2 h1' e1 h3' e3▸h2')];exact ((hgt j t (by omega)).1 fun i' o' h1' h2' h3'=>hij (uniq i' i o' x t (by omega) e2 (take_lt i' o' h1').2 e1 h3' e3▸h2')).symm
    ·rw[(hg t).1 fun i x h1 h2 h3=>hw ⟨i,x,h1,hl i (a03.1 h1).1 h2,h3⟩];exact ((hgt j t (by omega)).1 fun i x h1 h2 h3=>hw ⟨i,x,(take_lt i x h1).2,by omega,h3⟩).symm
   refine bna hΦ hB hst d1 hlook (wx hco (by rw[a17];exact a3g h1)) (hfv o (by rw[a17];exact a3g h1)) h1 _ Q fun a' w' hst'=>ih _ _ a' w' (by simpa using hs) (fun i hi hli=>?_) ?_ (hdn.set hj) (fun t=>⟨fun hno=>?_,fun i x hx hli hxd=>?_⟩) hst'
   ·by_cases e:i=j
    ·omega
    ·refine hl i hi ?_;unfold isL at hli⊢
     rwa [a2x false (a0w e)]at hli
   ·have:=akx (by rw[hs];exact hjs) hnl all.size hjs;omega
   ·rw[afb,ds (hno j o h1 (by simp[isL,hs,hjs]))];refine (hg t).1 fun i x hx hli=>hno i x hx (getD_set_true hli)
   ·rw[afb];by_cases e:i=j
    ·subst e;rw[h1]at hx;cases hx;rw[d0 hxd]
    ·have hli':isL listed i:=by
      unfold isL at hli⊢
      rwa [a2x false (a0w e)]at hli
     have him:=hl i (a03.1 hx).1 hli';rw[ds (fun hod=>e (uniq i j x o t him hjm hx h1 hxd hod))];exact (hg t).2 i x hx hli' hxd
theorem aet{n i:Nat}:¬isL (Array.replicate n false) i:=by unfold isL;simp[Array.getElem?_replicate];split <;> simp
theorem bcp(listed:Array Bool):∀n,unl listed n<=n
 |0=>a0f _
 |n+1=>by rw[unl];have:=bcp listed n;split <;> omega
theorem St.drew(h:St F p env M a w):St F p env M a { w with drawn:=w.drawn+1 }:=h.ext ⟨rfl,⟨rfl,a2v _⟩,rfl,a0f _,fun _ _=>rfl⟩
def awv:Op->Bool
 |.move (.tmp _)=>true
 |.assign (.tmp _)=>true
 |.extract (.tmp _) _=>true
 |_=>false
def bjf(D:Bool)(o:Op):Bool:=orb (awv o) (nob D (uy o))
def flt(D R:Bool)(ops:Array Oper)(x y:Oper):Bool:=
 nob (isN x.guard) (nob (nob (bjf D x.op) (orb (neg R) (orb (awv x.op) (orb (au3 y) (bcy y))))) (match x.dst with
  |some t=>nob (neg ((abs ops y).contains t)) (match y.dst with
   |some u=>nob (neg (Nat.beq u t)) (neg ((abs ops x).contains u))
   |none=>true)
  |none=>false))
def bi5(D R:Bool)(ops:Array Oper)(ms:List Nat)(m:Nat):Bool:=
 (List.range ops.size).all fun j=>Nat.blt j m||(match ops[j]? with
  |some y=>isN y.guard&&(List.range j).all fun i=>(ms.getD j 0).testBit i||(Nat.blt i m&&(match ops[i]? with|some x=>flt D R ops x y|none=>false))
  |none=>true)
def bi1(ops:Array Oper)(ms:List Nat)(m:Nat):Bool:=
 (List.range m).all fun i=>!(tc ops.size ms m i)||(List.range m).all fun j=>Nat.blt j i||!(tc ops.size ms m j)||(match ops[i]?,ops[j]? with
  |some x,some y=>(match y.dst with|some u=>!((abs ops x).contains u)|none=>true)
  |_,_=>true)
def apo(D R:Bool)(l:List Oper)(m:Nat):Bool:=xi 0 l&&(Nat.ble m l.length&&(bi5 D R l.toArray (ew [] l) m&&(bi1 l.toArray (ew [] l) m&&afz l.toArray (ew [] l) m)))
def bcw(σ:List Nat)(n:Nat):Bool:=Nat.beq (len σ) n&&((List.range n).all fun i=>Nat.blt (plc σ i) n&&(match m5 σ (plc σ i)with|some k=>Nat.beq k i|none=>false))&&(List.range n).all fun k=>(match m5 σ k with|some i=>Nat.blt i n&&Nat.beq (plc σ i) k|none=>false)
def awb:List Oper->Bool
 |[]=>true
 |o::r=>nob (isN o.guard) (awb r)
def bi3(R R2:Bool)(l:List Oper)(m:Nat):Bool:=xi 0 l&&(bcw (aui R l) l.length&&(awb l&&apo true R2 (im R l) m))
def bo4(l:List Oper):Bool:=xi 0 l&&(afz l.toArray (ew [] l) l.length&&ya (bix l))
def bh2(l:List Oper)(m:Nat):Bool:=xi 0 l&&(Nat.ble m l.length&&(aun l.toArray (ew [] l) m&&afz l.toArray (ew [] l) m))
end
end
end Go.Bm
/- The du machine:where ways meet. -/
namespace Go.Bm
open Go.RowKit
theorem be7{a b a' b':T}{x:(T.p a b).den}{x':(T.p a' b').den}(h:od (.p a' b') (a:=.p a b) x=some x'):od a' x.1=some x'.1/\od b' x.2=some x'.2:=by obtain⟨e,h1⟩:=adf h;cases e;simp only at h1;subst h1;exact⟨xg _,xg _⟩
theorem bm4{a a':T}{x:List a.den}{x':List a'.den}(h:od (.sl a') (a:=.sl a) x=some x'):x'.length=x.length/\∀(i:Nat) y',x'[i]? = some y'->∃y,x[i]? = some y/\od a' y=some y':=by obtain⟨e,h1⟩:=adf h;cases e;simp only at h1;subst h1;exact⟨rfl,fun i y' hy=>⟨y',hy,xg _⟩⟩
theorem bnh{a a':T}{x:a.den}{x':a'.den}(h:od (.pt a') (a:=.pt a) x=some x'):od a' x=some x':=by obtain⟨e,h1⟩:=adf h;cases e;simp only at h1;subst h1;exact xg _
theorem ae3:(o o':O)->o.wk o'=true->o.strip=o'.strip
 |.p a b,.p a' b',h=>by simp only[O.wk,am,a0a]at h;simp only[O.strip,ae3 a a' h.1,ae3 b b' h.2]
 |.sl e,.sl e',h=>by simp only[O.wk]at h;simp only[O.strip,ae3 e e' h]
 |.pt e,.pt e',h=>by simp only[O.wk]at h;simp only[O.strip,ae3 e e' h]
 |.op e,.op e',h=>by simp only[O.wk]at h;simp only[O.strip,O.beq_eq h]
 |.mp k v,.mp k' v',h=>by simp only[O.wk,am,a0a]at h;simp only[O.strip,T.beq_eq h.1,T.beq_eq h.2]
 |.fz (.p a b),.p a' b',h=>by simp only[O.wk,am,a0a]at h;have h1:=ae3 (.fz a) a' h.1;have h2:=ae3 (.fz b) b' h.2;simp only[O.strip]at h1 h2⊢;rw[h1,h2]
 |.p a b,.fz t,h=>by simp only[O.wk]at h;exact T.beq_eq h
 |.sl e,.fz t,h=>by simp only[O.wk]at h;exact T.beq_eq h
 |.pt e,.fz t,h=>by simp only[O.wk]at h;exact T.beq_eq h
 |.mp _ _,.fz t,h=>by simp only[O.wk]at h;exact T.beq_eq h
 |.op _,.fz t,h=>by simp only[O.wk]at h;exact T.beq_eq h
 |.fz s,.fz t,h=>by
  have:O.wk (.fz s) (.fz t)=s.beq t:=by cases s <;> simp only[O.wk,O.strip]
  rw[this]at h;exact T.beq_eq h
 |.p _ _,.mp _ _,h=>by simp[O.wk]at h
 |.p _ _,.op _,h=>by simp[O.wk]at h
 |.sl _,.mp _ _,h=>by simp[O.wk]at h
 |.sl _,.op _,h=>by simp[O.wk]at h
 |.pt _,.mp _ _,h=>by simp[O.wk]at h
 |.pt _,.op _,h=>by simp[O.wk]at h
 |.mp _ _,.p _ _,h=>by simp[O.wk]at h
 |.op _,.p _ _,h=>by simp[O.wk]at h
 |.mp _ _,.sl _,h=>by simp[O.wk]at h
 |.op _,.sl _,h=>by simp[O.wk]at h
 |.mp _ _,.pt _,h=>by simp[O.wk]at h
 |.op _,.pt _,h=>by simp[O.wk]at h
 |.fz s,.mp _ _,h=>by cases s <;> simp[O.wk]at h
 |.fz s,.op _,h=>by cases s <;> simp[O.wk]at h
 |.fz (.ifc _ _),.p _ _,h=>by simp[O.wk]at h
 |.fz (.mp _ _),.p _ _,h=>by simp[O.wk]at h
 |.fz (.op _),.p _ _,h=>by simp[O.wk]at h
 |.fz (.ns _),.p _ _,h=>by simp[O.wk]at h
 |.fz (.er _),.p _ _,h=>by simp[O.wk]at h
 |.p _ _,.sl _,h=>by simp[O.wk]at h
 |.p _ _,.pt _,h=>by simp[O.wk]at h
 |.sl _,.p _ _,h=>by simp[O.wk]at h
 |.sl _,.pt _,h=>by simp[O.wk]at h
 |.pt _,.p _ _,h=>by simp[O.wk]at h
 |.pt _,.sl _,h=>by simp[O.wk]at h
 |.fz s,.sl _,h=>by cases s <;> simp[O.wk]at h
 |.fz s,.pt _,h=>by cases s <;> simp[O.wk]at h
 |.fz (.int _),.p _ _,h=>by simp[O.wk]at h
 |.fz .bool,.p _ _,h=>by simp[O.wk]at h
 |.fz .str,.p _ _,h=>by simp[O.wk]at h
 |.fz .u,.p _ _,h=>by simp[O.wk]at h
 |.fz (.sl _),.p _ _,h=>by simp[O.wk]at h
 |.fz (.pt _),.p _ _,h=>by simp[O.wk]at h
 |.fz (.fn _ _),.p _ _,h=>by simp[O.wk]at h
 |.fz .any,.p _ _,h=>by simp[O.wk]at h
def Wk(Im:Nat->Prop)(w:World)(o':O)(x':o'.strip.den)(S:Nat->Prop)(vs:List Value):Prop:=∃S':Nat->Prop,(∀b,S' b->S b)/\∀Im':Nat->Prop,(∀b,Im b->Im' b)->(∀b,S b->¬S' b->Im' b)->Rel Im' w o' x' S' vs
theorem bue{Im:Nat->Prop}{w:World}{o:O}{t:T}{x:o.strip.den}{x':t.den}{S:Nat->Prop}{vs:List Value}(hx:od t x=some x')(r:Rel Im w o x S vs):Wk Im w (.fz t) x' S vs:=⟨fun _=>False,fun b hb=>hb.elim,fun Im' h1 h2=>by simp only[Rel];exact tv hx (Rel.frz h1 o x S vs (fun b hb=>h2 b hb (fun h=>h)) r)⟩
theorem bf9{Im:Nat->Prop}{w:World}{a' b':O}{x':a'.strip.den}{y':b'.strip.den}{S S1 S2:Nat->Prop}{va vb:List Value}(h1:∀c,S1 c->S c)(h2:∀c,S2 c->S c)(h3:∀c,S1 c->¬S2 c)(ha:Wk Im w a' x' S1 va)(hb:Wk Im w b' y' S2 vb):Wk Im w (.p a' b') (x',y') S (va++vb):=by
 obtain⟨T1,a1,a2⟩:=ha;obtain⟨T2,b1,b2⟩:=hb;refine⟨fun c=>T1 c\/T2 c,fun c hc=>hc.elim (fun h=>h1 c (a1 c h)) (fun h=>h2 c (b1 c h)),fun Im' k1 k2=>?_⟩;simp only[Rel];refine⟨va,vb,T1,T2,rfl,fun c hc=>.inl hc,fun c hc=>.inr hc,fun c hc hc'=>h3 c (a1 c hc) (b1 c hc'),a2 Im' k1 (fun c hc hn=>k2 c (h1 c hc) ?_),b2 Im' k1 (fun c hc hn=>k2 c (h2 c hc) ?_)⟩
 ·rintro (h|h)
  ·exact hn h
  ·exact h3 c hc (b1 c h)
 ·rintro (h|h)
  ·exact h3 c (a1 c h) hc
  ·exact hn h
theorem zp{Im:Nat->Prop}{w:World}:(o o':O)->o.wk o'=true->(x:o.strip.den)->(x':o'.strip.den)->(S:Nat->Prop)->(vs:List Value)->od o'.strip x=some x'->Rel Im w o x S vs->Wk Im w o' x' S vs
 |.p a b,.p a' b',h,x,x',S,vs,hx,r=>by simp only[O.wk,am,a0a]at h;simp only[Rel]at r;obtain⟨va,vb,S1,S2,rfl,h1,h2,h3,ha,hb⟩:=r;obtain⟨c1,c2⟩:=be7 hx;exact bf9 h1 h2 h3 (zp a a' h.1 _ _ _ _ c1 ha) (zp b b' h.2 _ _ _ _ c2 hb)
 |.fz (.p a b),.p a' b',h,x,x',S,vs,hx,r=>by simp only[O.wk,am,a0a]at h;simp only[Rel,ai]at r;obtain⟨va,vb,rfl,ha,hb⟩:=r;obtain⟨c1,c2⟩:=be7 hx;exact bf9 (S1:=fun _=>False) (S2:=fun _=>False) (fun c hc=>hc.elim) (fun c hc=>hc.elim) (fun c hc=>hc.elim) (zp (.fz a) a' h.1 _ _ _ _ c1 (by simpa only [Rel]using ha)) (zp (.fz b) b' h.2 _ _ _ _ c2 (by simpa only [Rel]using hb))
 |.sl e,.sl e',h,x,x',S,vs,hx,r=>by
  have hs:=ae3 (.sl e) (.sl e') h;simp only[O.wk]at h;simp only[O.strip,T.sl.injEq]at hs;have hsz:e'.size=e.size:=by unfold O.size;rw[hs]
  simp only[Rel]at r;obtain⟨v,ety,xs,T,rfl,h2,h3,h4,h5,h6,h7⟩:=r;obtain⟨c1,c2⟩:=bm4 hx;have hall:∀i,i<x'.length->∃y',x'[i]? = some y'/\Wk Im w e' y' (T i) ((xs.drop (i*e.size)).take e.size):=fun i hi=>by have hy:=a0o hi;obtain⟨y,k1,k2⟩:=c2 i _ hy;exact⟨_,hy,zp e e' h y _ _ _ k2 (h7 i y k1)⟩
  let T':Nat->Nat->Prop:=fun i=>if hi:i<x'.length then (hall i hi).choose_spec.2.choose else fun _=>False
  have hT:∀i y',x'[i]? = some y'->(∀b,T' i b->T i b)/\∀Im':Nat->Prop,(∀b,Im b->Im' b)->(∀b,T i b->¬T' i b->Im' b)->Rel Im' w e' y' (T' i) ((xs.drop (i*e.size)).take e.size):=fun i y' hy=>by
   have hi:=(a1k.1 hy).1;have h1:=(hall i hi).choose_spec.1;have h2:=(hall i hi).choose_spec.2.choose_spec;have e1:T' i=(hall i hi).choose_spec.2.choose:=by simp only[T',dif_pos hi]
   rw[e1];have:y'=(hall i hi).choose:=a28 (hy.symm.trans h1);rw[this];exact h2
  have hT0:∀i b,T' i b->T i b:=fun i b hb=>by
   by_cases hi:i<x'.length
   ·exact (hT i _ (a0o hi)).1 b hb
   ·have:T' i=fun _=>False:=by simp only[T',dif_neg hi]
    rw[this]at hb;exact hb.elim
  refine⟨fun b=>jz v=some b\/∃i,T' i b,fun b hb=>?_,fun Im' k1 k2=>?_⟩
  ·rcases hb with hb|⟨i,hb⟩
   ·exact h4 b hb
   ·exact (h5 i b (hT0 i b hb)).1
  ·simp only[Rel];refine⟨v,ety,xs,T',rfl,by rw[hsz,c1];exact h2,by rw[c1];exact h3,fun c hc=>.inl hc,fun i c hc=>⟨.inr ⟨i,hc⟩,(h5 i c (hT0 i c hc)).2⟩,fun i j c hij hc hc'=>h6 i j c hij (hT0 i c hc) (hT0 j c hc'),fun i y' hy=>?_⟩;rw[hsz];refine (hT i y' hy).2 Im' k1 (fun b hb hn=>k2 b (h5 i b hb).1 ?_);rintro (hr|⟨j,hj⟩)
   ·exact (h5 i b hb).2 hr
   ·by_cases e:j=i
    ·subst e;exact hn hj
    ·exact h6 j i b e (hT0 j b hj) hb
 |.pt e,.pt e',h,x,x',S,vs,hx,r=>by
  simp only[O.wk]at h;simp only[Rel]at r;obtain⟨b,us,ty',S0,rfl,h2,h3,h4,h5⟩:=r;obtain⟨T1,a1,a2⟩:=zp e e' h x x' S0 us (bnh hx) h5;refine⟨fun c=>c=b\/T1 c,fun c hc=>?_,fun Im' k1 k2=>?_⟩
  ·rcases hc with rfl|hc
   ·exact h2
   ·exact (h4 c (a1 c hc)).1
  ·simp only[Rel];refine⟨b,us,ty',T1,rfl,.inl rfl,h3,fun c hc=>⟨.inr hc,(h4 c (a1 c hc)).2⟩,a2 Im' k1 (fun c hc hn=>k2 c (h4 c hc).1 ?_)⟩;rintro (rfl|h)
   ·exact (h4 c hc).2 rfl
   ·exact hn h
 |.op e,.op e',h,x,x',S,vs,hx,r=>by simp only[O.wk]at h;have e1:=O.beq_eq h;subst e1;have:x=x':=a28 ((xg (a:=.op e.strip) x).symm.trans hx);subst this;refine⟨S,fun c hc=>hc,fun Im' k1 _=>?_⟩;exact Rel.keep (fun b hb=>⟨k1 b hb,rfl⟩) (.op e) x S vs (fun _ _=>rfl) r
 |.mp k v,.mp k' v',h,x,x',S,vs,hx,r=>by simp only[O.wk,am,a0a]at h;have e1:=T.beq_eq h.1;have e2:=T.beq_eq h.2;subst e1;subst e2;have:x=x':=a28 ((xg (a:=.mp k v) x).symm.trans hx);subst this;simp only[Rel]at r;obtain⟨b,es,n,rfl,h2,h3,h4⟩:=r;refine⟨fun c=>c=b,fun c hc=>by rw[hc];exact h2,fun Im' k1 _=>?_⟩;simp only[Rel];exact⟨b,es,n,rfl,rfl,h3,h4⟩
 |o,.fz t,h,x,x',S,vs,hx,r=>bue hx r
 |.p _ _,.mp _ _,h,_,_,_,_,_,_=>by simp[O.wk]at h
 |.p _ _,.op _,h,_,_,_,_,_,_=>by simp[O.wk]at h
 |.sl _,.mp _ _,h,_,_,_,_,_,_=>by simp[O.wk]at h
 |.sl _,.op _,h,_,_,_,_,_,_=>by simp[O.wk]at h
 |.pt _,.mp _ _,h,_,_,_,_,_,_=>by simp[O.wk]at h
 |.pt _,.op _,h,_,_,_,_,_,_=>by simp[O.wk]at h
 |.mp _ _,.p _ _,h,_,_,_,_,_,_=>by simp[O.wk]at h
 |.op _,.p _ _,h,_,_,_,_,_,_=>by simp[O.wk]at h
 |.mp _ _,.sl _,h,_,_,_,_,_,_=>by simp[O.wk]at h
 |.op _,.sl _,h,_,_,_,_,_,_=>by simp[O.wk]at h
 |.mp _ _,.pt _,h,_,_,_,_,_,_=>by simp[O.wk]at h
 |.op _,.pt _,h,_,_,_,_,_,_=>by simp[O.wk]at h
 |.fz s,.mp _ _,h,_,_,_,_,_,_=>by cases s <;> simp[O.wk]at h
 |.fz s,.op _,h,_,_,_,_,_,_=>by cases s <;> simp[O.wk]at h
 |.fz (.ifc _ _),.p _ _,h,_,_,_,_,_,_=>by simp[O.wk]at h
 |.fz (.mp _ _),.p _ _,h,_,_,_,_,_,_=>by simp[O.wk]at h
 |.fz (.op _),.p _ _,h,_,_,_,_,_,_=>by simp[O.wk]at h
 |.fz (.ns _),.p _ _,h,_,_,_,_,_,_=>by simp[O.wk]at h
 |.fz (.er _),.p _ _,h,_,_,_,_,_,_=>by simp[O.wk]at h
 |.p _ _,.sl _,h,_,_,_,_,_,_=>by simp[O.wk]at h
 |.p _ _,.pt _,h,_,_,_,_,_,_=>by simp[O.wk]at h
 |.sl _,.p _ _,h,_,_,_,_,_,_=>by simp[O.wk]at h
 |.sl _,.pt _,h,_,_,_,_,_,_=>by simp[O.wk]at h
 |.pt _,.p _ _,h,_,_,_,_,_,_=>by simp[O.wk]at h
 |.pt _,.sl _,h,_,_,_,_,_,_=>by simp[O.wk]at h
 |.fz s,.sl _,h,_,_,_,_,_,_=>by cases s <;> simp[O.wk]at h
 |.fz s,.pt _,h,_,_,_,_,_,_=>by cases s <;> simp[O.wk]at h
 |.fz (.int _),.p _ _,h,_,_,_,_,_,_=>by simp[O.wk]at h
 |.fz .bool,.p _ _,h,_,_,_,_,_,_=>by simp[O.wk]at h
 |.fz .str,.p _ _,h,_,_,_,_,_,_=>by simp[O.wk]at h
 |.fz .u,.p _ _,h,_,_,_,_,_,_=>by simp[O.wk]at h
 |.fz (.sl _),.p _ _,h,_,_,_,_,_,_=>by simp[O.wk]at h
 |.fz (.pt _),.p _ _,h,_,_,_,_,_,_=>by simp[O.wk]at h
 |.fz (.fn _ _),.p _ _,h,_,_,_,_,_,_=>by simp[O.wk]at h
 |.fz .any,.p _ _,h,_,_,_,_,_,_=>by simp[O.wk]at h
end Go.Bm
