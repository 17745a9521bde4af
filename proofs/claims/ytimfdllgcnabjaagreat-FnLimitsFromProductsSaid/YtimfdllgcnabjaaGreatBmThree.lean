/- The typed machine that the walks of this claim go by: its data, its operations and the proof that each is sound. No condition. -/
import Derived.Test.YtimfdllgcnabjaaGreatBmTwo
import GoSem.ClaimJoined
import Derived.MapKept
import Derived.ChangeKeysEq
import Derived.Orders
set_option linter.unusedVariables false
set_option linter.unusedSimpArgs false
set_option linter.unusedSectionVars false
namespace Go.Bm
open Go.RowKit
abbrev jx:=@Nat.lt_or_ge
abbrev ww:=@Nat.lt_succ_self
abbrev uq:=@List.cons_append
abbrev rZ:=@List.mem_append_right
abbrev jU:=@List.mem_append_left
abbrev gB:=@Bool.true_and
abbrev pN:=@Prod.ext
abbrev C3:=@Bool.false_and
abbrev ur:=@List.set_cons_zero
abbrev pO:=@if_false
abbrev C4:=@List.set_cons_succ
abbrev zd:=@List.getElem_mem
abbrev mr:=@List.map_append
abbrev vX:=@List.map_nil
abbrev sb:=@Array.getElem?_eq_getElem
abbrev G6:=@Value.pointer.injEq
abbrev vY:=@Oper.upon_enter
abbrev vZ:=@Nat.sub_zero
abbrev wd:=@Array.getElem?_append_left
abbrev we:=@Array.getD_eq_getD_getElem?
abbrev sc:=@Oper.wp_mono
abbrev pP:=@getD_set_ne
abbrev ze:=@of_decide_eq_true
abbrev pQ:=@Nat.blt_eq
abbrev wg:=@mem_ready
abbrev wh:=@List.not_mem_nil
abbrev fX:=@List.mem_map
abbrev pR:=@List.mem_filterMap
abbrev C5:=@List.drop_eq_nil_of_le
abbrev zf:=@List.drop_eq_getElem_cons
abbrev wi:=@wpOp_mono
abbrev sd:=@Array.mem_of_getElem?
abbrev wj:=@List.getElem?_take_of_lt
abbrev se:=@Option.some.inj
abbrev gi:Type:=Exit->Act->World->Prop
abbrev eQ:Type:=Array Bool
abbrev fK:Type:=Array Oper
variable {A Im Im' S S1 S2:aT}{B:Tab}{F:Fr}{K:Act->World->Prop}{Lk:World->Value->Value->Prop}{M M' M'' M1 N:Mem}{P:cX}{Q:gi}{W:Wt}{X v v0:V}{a:Act}{all ops:fK}{b d i j j' k m n nt:Nat}{c ct:Ct}{e e1:bM}{env envj:Env}{es:Array MapEntry}{ety kty t:bF}{f:fL}{fn:Func}{g:bo}{gs:gj}{iu u:bw}{kd:TypeDesc}{l:List Mth}{listed:eQ}{ms:aZ}{o op x y:bj}{oa:yT}{ob:Ob}{p p' p'' p1:Ow}{ps:Array (Nat×Operand)}{r rest:bL}{rs vs:aM}{tmps:nz}{w w' w'':aQ}{x0:dJ}{Φ:du}{α:Type}{β β':fD}{π:bz}
def T.flat:T->Bool
 |.int _|.bool|.str|.u|.any=>true
 |.p a b=>nob a.flat b.flat
 |.fn _ t|.ifc _ t|.ib _ t=>t.flat
 |.mp _ _|.op _|.ns _=>false
 |.er _=>true
 |.sl _|.pt _=>false
def O.flat:O->Bool
 |.fz t=>t.flat
 |.p a b=>nob a.flat b.flat
 |.sl e=>e.flat
 |.pt o=>o.flat
 |.mp _ _=>true
 |.op e=>e.flat
def nU:List (Bool×O)->Bool
 |[]=>true
 |q::r=>nob q.2.flat (nU r)
theorem As{Im Im':aT}{w:aQ}:(t:T)->t.flat=true->(x:t.den)->(vs:aM)->ai Im w t x vs->ai Im' w t x vs
 |.int _,_,_,_,r|.bool,_,_,_,r|.str,_,_,_,r|.u,_,_,_,r|.any,_,_,_,r=>by simpa only [ai]using r
 |.p a b,h,x,vs,r=>by simp only[T.flat,aP,ao]at h;simp only[ai]at r⊢;obtain⟨va,vb,h1,h2,h3⟩:=r;exact⟨va,vb,h1,As a h.1 _ _ h2,As b h.2 _ _ h3⟩
 |.fn f t,h,x,vs,r=>by simp only[T.flat]at h;simp only[ai]at r⊢;obtain⟨us,h1,h2⟩:=r;exact⟨us,h1,As t h _ _ h2⟩
 |.ifc f t,h,x,vs,r|.ib f t,h,x,vs,r=>by simp only[T.flat]at h;simp only[ai]at r⊢;obtain⟨u,h1,h2⟩:=r;exact⟨u,h1,As t h _ _ h2⟩
 |.mp _ _,h,_,_,_|.op _,h,_,_,_|.ns _,h,_,_,_=>by simp[T.flat]at h
 |.er _,_,_,_,r=>by simpa only [ai]using r
 |.sl _,h,_,_,_|.pt _,h,_,_,_=>by simp[T.flat]at h
theorem uP{Im Im':aT}{w:aQ}:(o:O)->o.flat=true->(x:o.strip.den)->(S:aT)->(vs:aM)->Rel Im w o x S vs->Rel Im' w o x S vs
 |.fz t,h,x,S,vs,r=>by simp only[O.flat]at h;simp only[Rel]at r⊢;exact As t h x vs r
 |.p a b,h,x,S,vs,r=>by simp only[O.flat,aP,ao]at h;simp only[Rel]at r⊢;obtain⟨va,vb,S1,S2,h1,h2,h3,h4,h5,h6⟩:=r;exact⟨va,vb,S1,S2,h1,h2,h3,h4,uP a h.1 _ _ _ h5,uP b h.2 _ _ _ h6⟩
 |.sl e,h,x,S,vs,r=>by simp only[O.flat]at h;simp only[Rel]at r⊢;obtain⟨v,ety,xs,T,h1,h2,h3,h4,h5,h6,h7⟩:=r;exact⟨v,ety,xs,T,h1,h2,h3,h4,h5,h6,λi x hx=>uP e h _ _ _ (h7 i x hx)⟩
 |.pt o,h,x,S,vs,r=>by simp only[O.flat]at h;simp only[Rel]at r⊢;obtain⟨b,us,ty',S',h1,h2,h3,h4,h5⟩:=r;exact⟨b,us,ty',S',h1,h2,h3,h4,uP o h _ _ _ h5⟩
 |.op e,h,x,S,vs,r=>by simp only[O.flat]at h;simp only[Rel]at r⊢;exact⟨r.1,r.2.1,λy hy=>uP e h _ _ _ (r.2.2 y hy)⟩
 |.mp k v,h,x,S,vs,r=>by simp only[Rel]at r⊢;exact r
def d5(A:aT)(w:aQ):List Bool->(ts:ii)->bq ts->List Value->Prop
 |[],[],_,us=>us=[]
 |g::gs,t::ts,x,us=>∃u us' vs,us=u::us'/\(g=true->u=.agg (vs:aM).toArray)/\(g=false->vs=[u])/\ai A w t x.1 vs/\d5 A w gs ts x.2 us'
 |_,_,_,_=>False
def cp(Im:aT)(w:aQ):(rs:gH)->bY rs->(Nat->Prop)->List Value->Prop
 |[],_,_,us=>us=[]
 |q::rs,x,S,us=>∃u us' vs,∃S1 S2:Nat->Prop,us=u::us'/\(q.1=true->u=.agg (vs:aM).toArray)/\(q.1=false->vs=[u])/\(∀b,S1 b->S b)/\(∀b,S2 b->S b)/\(∀b,S1 b->¬S2 b)/\Rel Im w q.2 x.1 S1 vs/\cp Im w rs x.2 S2 us'
def dG:List Value->Value
 |[u]=>u
 |l=>.tuple l.toArray
def xk(P:cX)(f:fL):Prop:=∀args w,(callFunc f args).run P w=.ok (.enter f args) w
theorem qA    {c : Code} (hf : P.funcs[f]? = some fn) (hb : fn.body = some c) (hn : (fn.name == "runtime.NumGoroutine") = false) : xk P f := by
 intro args w;have h : ¬ fn.name = "runtime.NumGoroutine" := by simpa using hn
 simp[callFunc,hf,hb,h]
structure ExtS (w w':aQ) (T:aT):Prop where
 os:w'.os=w.os
 tape:TD w' w
 output:w'.output=w.output
 size:w.heap.size<=w'.heap.size
 old:∀b,b<w.heap.size->¬T b->w'.heap[b]? = w.heap[b]?
def fS(P:cX)(A:aT)(w:aQ):Prop:=
 ∀ g, P.globalNamed "errors.errorType" = some g -> A g /\ ∃ rt et, (P.cutTypes.find? (·.1 == "internal/reflectlite.rtype")).map (·.2) = some rt /\ et < P.types.size /\
  P.rowNamed et [101,114,114,111,114]=true/\w.cell? ⟨g,0,none⟩=some (.iface rt (.agg #[typeHandle P et]))
theorem d_(h:w'.heap[b]? = w.heap[b]?):w'.cell? ⟨b,0,none⟩=w.cell? ⟨b,0,none⟩:=by simp only[World.cell?,h]
theorem ac8{v:bw}(h:w.cell? ⟨b,0,none⟩=some v):b<w.heap.size:=by
 rcases jx b w.heap.size with h'|h'
 ·exact h'
 ·simp[World.cell?,Array.getElem?_eq_none h']at h
theorem fS.of{A':aT}(h:fS P A w)(hA:∀b,A b->b<w.heap.size->A' b/\w'.heap[b]? = w.heap[b]?):fS P A' w':=λg hg=>by obtain⟨h1,rt,et,h2,h3,h4,h5⟩:=h g hg;obtain⟨k1,k2⟩:=hA g h1 (ac8 h5);exact⟨k1,rt,et,h2,h3,h4,by rw[d_ k2];exact h5⟩
def MtOk(P:cX)(f:fL)(m:Mt):Prop:=
 m.o.flat=true/\∀(A:aT)(w:aQ)(u:bw)(vs:aM)(x:m.o.strip.den)(k:Int)(S:aT),fS P A w->(∀b,S b->¬A b)->(m.g=true->u=.agg vs.toArray)->(m.g=false->vs=[u])->Rel (λ_=>False) w m.o x S vs->
  (∀b,S b->b<w.heap.size)->inK .i64 k->ab (m.pre x k)->
  Calls P f #[u,.int .i64 k] w λe w'=>e=.returned (.int .i64 (m.res x k).2)/\ExtS w w' S/\inK .i64 (m.res x k).2/\
   ∃S':Nat->Prop,Rel (λ_=>False) w' m.o (m.res x k).1 S' vs/\∀b,S' b->S b\/w.heap.size<=b/\b<w'.heap.size
def FQ(P:cX)(f:fL)(W:Wt):Prop:=
 ∀(A:aT)(w:aQ)(u:bw)(x:W.o.strip.den)(us:aM)(y:bq W.as)(S:aT),fS P A w->(∀b,A b->b<w.heap.size)->(∀b,S b->b<w.heap.size/\¬A b)->
  Rel (λb=>A b) w W.o x S [u]->d5 A w W.ag W.as y us->ab (W.pre x y)->
  Calls P f (cn W.i u us).toArray w λe w'=>∃rs R S',e=.returned (dG rs)/\ExtS w w' S/\(∀b,R b->w.heap.size<=b/\b<w'.heap.size)/\(∀b,S' b->(S b\/w.heap.size<=b/\b<w'.heap.size)/\¬R b)/\
   Rel (λb=>b<w'.heap.size/\(A b\/S b\/w.heap.size<=b)/\¬S' b/\¬R b) w' W.o (W.new x y) S' [u]/\
   cp (λb=>b<w'.heap.size/\(A b\/S b\/w.heap.size<=b)/\¬S' b/\¬R b) w' W.rt (W.res x y) R rs
def AlR(w:aQ)(u:bw):T->List Value->Prop
 |.pt t,vs=>afk t=true->∃b o,vs=[.pointer (some ⟨b,o,none⟩)]/\iC w b o [u]
 |.p a b,vs=>∃va vb,vs=va++vb/\va.length=a.size/\AlR w u a va/\AlR w u b vb
 |.fn f t,vs=>∃us:List Value,vs=[.func (.func f) #[] us.toArray]/\AlR w u t us
 |_,_=>True
def AlL(w:aQ)(u:bw):List T->List Value->Prop
 |t::ts,v::vs=>AlR w u t [v]/\AlL w u ts vs
 |_,_=>True
def WaOk(P:cX)(f:fL)(W:Wa):Prop:=
 ∀(A:aT)(w:aQ)(u v:bw)(x:W.o.strip.den)(us:aM)(y:bq W.as)(S:aT),fS P A w->(∀b,A b->b<w.heap.size)->(∀b,S b->b<w.heap.size/\¬A b)->
  Rel (λb=>A b) w W.o x S [u]->Adr (λ_=>u) [(0,⟨W.o,x⟩)] w 0 W.way v->d5 A w (kY W.as) W.as y us->AlL w u W.as us->ab (W.pre x y)->
  Calls P f (v::us).toArray w λe w'=>∃S',e=.returned (dG [])/\ExtS w w' S/\(∀b,S' b->S b\/w.heap.size<=b/\b<w'.heap.size)/\
   Rel (λb=>b<w'.heap.size/\(A b\/S b\/w.heap.size<=b)/\¬S' b) w' W.o (W.new x y) S' [u]
def AnF(A:aT)(w:aQ)(u:bw):(t:T)->t.den->List Value->Prop
 |.any,_,vs=>vs=[u]
 |.p a b,x,vs=>∃va vb,vs=va++vb/\AnF A w u a x.1 va/\AnF A w u b x.2 vb
 |.fn f t,x,vs=>∃us:List Value,vs=[.func (.func f) #[] us.toArray]/\AnF A w u t x us
 |t,x,vs=>ai A w t x vs
def LI(A:aT)(w:aQ)(u:bw):List Bool->(ts:ii)->bq ts->List Value->Prop
 |[],[],_,us=>us=[]
 |true::gs,t::ts,x,us=>∃us' vs,us=.agg (vs:aM).toArray::us'/\ai A w t x.1 vs/\LI A w u gs ts x.2 us'
 |false::gs,t::ts,x,us=>∃v us',us=v::us'/\AnF A w u t x.1 [v]/\LI A w u gs ts x.2 us'
 |_,_,_,_=>False
def WcOk(P:cX)(f:fL)(W:Wc):Prop:=
 W.o.flat=true/\∀(A:aT)(w:aQ)(u:bw)(x:W.o.strip.den)(us:aM)(y:bq W.as)(S:aT),fS P A w->(∀b,A b->b<w.heap.size)->(∀b,S b->b<w.heap.size/\¬A b)->
  Rel (λb=>A b) w W.o x S [u]->LI A w u W.ag W.as y us->ab (W.pre x y)->
  Calls P f us.toArray w λe w'=>∃S',e=.returned (dG [])/\ExtS w w' S/\(∀b,S' b->S b\/w.heap.size<=b/\b<w'.heap.size)/\
   Rel (λb=>b<w'.heap.size/\(A b\/S b\/w.heap.size<=b)/\¬S' b) w' W.o (W.new x y) S' [u]
def LN(P:cX)(f:fL)(W:Wu):Prop:=
 ∀(A:aT)(w:aQ)(u:bw)(x:W.o.strip.den)(us:aM)(y:bq W.as)(S:aT),fS P A w->(∀b,A b->b<w.heap.size)->(∀b,S b->b<w.heap.size/\¬A b)->
  Rel (λb=>A b) w W.o x S [u]->d5 A w W.ag W.as y us->ab (W.pre x y)->
  Calls P f (cn W.i u us).toArray w λe w'=>∃rs R,e=.returned (dG rs)/\ExtS w w' S/\(∀b,R b->b<w'.heap.size/\(S b\/w.heap.size<=b))/\
   cp (λb=>b<w'.heap.size/\(A b\/S b\/w.heap.size<=b)/\¬R b) w' W.rt (W.res x y) R rs
def tZ(P:cX)(f:fL)(ct:Ct):Prop:=∀(A:aT)(w:aQ)(us:aM)(x:bq ct.args),fS P A w->(∀b,A b->b<w.heap.size)->d5 A w ct.ga ct.args x us->ab (ct.pre x)->
  Calls P f us.toArray w λe w'=>∃rs S,e=.returned (dG rs)/\Ext w w'/\(∀b,S b->w.heap.size<=b/\b<w'.heap.size)/\
   cp (λb=>b<w'.heap.size/\(ct.sh=true/\A b\/w.heap.size<=b)/\¬S b) w' ct.rt (ct.res x) S rs
def afo(P:cX)(f:fL)(O:Orc):Prop:=∀(F:Fr)(p:Ow)(M:Mem)(w:aQ)(vs:cf)(us:aM),fS P (λb=>F.A b/\¬F.RR b) F.w0->Hp F p M w->(∀b,¬p.L b)->us.length=vs.length->
  (∀(i:Nat) v u,vs[i]? = some v->us[i]? = some u->ae p.β M (Imm F p M w) w v u)->ab (tI O vs M).vc->
  Calls P f us.toArray w λe w'=>∃r,e=.returned r/\cd F p M w true (tI O vs M) r w'
def aN(P:cX)(f:fL)(ct:Ct):Prop:=
 xk P f/\match ct.mu with
 |some (.o O)=>afo P f O
 |some (.m m)=>MtOk P f m
 |some (.w W)=>FQ P f W
 |some (.a W)=>WaOk P f W
 |some (.k W)=>LN P f W
 |some (.c W)=>WcOk P f W
 |some (.s s)=>tZ P f (spCt s true)/\tZ P f (spCt s false)
 |some (.v l)=>∀q∈l,tZ P f (LM q)
 |none=>tZ P f ct
def yC(c:Ct):Pv:=⟨c.args,c.ga,c.pre,c.rt,c.res,c.sh⟩
def vCt(l:List Pv):Ct:=⟨[],[],λ_=>[],[],λ_=>(),true,some (.v l)⟩
theorem SW(h:aN P f c)(hm:c.mu=none):tZ P f (LM (yC c)):=by obtain⟨_,h⟩:=h;obtain⟨a,b,d,e,g,s,m⟩:=c;simp only at hm;subst hm;exact h
theorem aa8(h:aN P f c)(hm:c.mu=none):aN P f (vCt [yC c]):=⟨h.1,λq hq=>by rw[cA.1 hq];exact SW h hm⟩
theorem PX{l:List Pv}(h:aN P f c)(hm:c.mu=none)(h2:aN P f (vCt l)):aN P f (vCt (yC c::l)):=⟨h.1,λq hq=>by
 rcases cz.1 hq with rfl|hq
 ·exact SW h hm
 ·exact h2.2 q hq⟩
def fR(P:cX)(Φ:du):Prop:=∀f ct,Φ f=some ct->aN P f ct
def ln(P:cX)(F:Fr):Prop:=fS P (λb=>F.A b/\¬F.RR b) F.w0
def iv(P:cX)(F:Fr)(Φ:du):Prop:=fR P Φ/\ln P F
def All(F:Fr)(w:aQ):Nat->Prop:=λb=>b<w.heap.size/\(F.A b\/F.RR b\/F.w0.heap.size<=b)
theorem aaz(h:Imm F p M w b):All F w b:=⟨h.1,h.2.1⟩
theorem acr(hp:Hp F p M w)(hl:bm M k)(h:p.σ k b):All F w b:=by obtain⟨h1,h2⟩:=hp.own k b hl h;exact⟨h1,h2.elim (λh=>.inr (.inl h.2)) (λh=>.inr h.r)⟩
theorem uS(hp:Hp F p M w){A:aT}{N:Mem}(hN:∀j ob,go N j=some ob->go M j=some ob)(hI:∀b,Imm F p M w b->A b)(hW:∀j b,bm N j->p.σ j b->A b):(v:V)->(t:T)->(vs:aM)->(x:t.den)->ac p.β M (Imm F p M w) w v vs->v.view N t=some x->ai A w t x vs
 |.d s y,t,vs,x,r,h=>by simp only[ac]at r;simp only[V.view]at h;exact ai.keep (λb hb=>⟨hI b hb,rfl⟩) _ _ _ (x8 h r)
 |.p a b,.p t s,vs,x,r,h=>by
  simp only[ac]at r;simp only[V.view]at h;split at h
  ·rename_i y z hy hz;cases h;obtain⟨va,vb,h1,h2,h3⟩:=r;simp only[ai];exact⟨va,vb,h1,uS hp hN hI hW a t va y h2 hy,uS hp hN hI hW b s vb z h3 hz⟩
  ·cases h
 |.nl,.sl _,vs,x,r,h=>by simp only[ac]at r;simp only[V.view,aI]at h;subst h;simp only[ai];obtain⟨oa,r⟩:=r;exact⟨oa,0,r,⟨fV _,bd _⟩,λ_=>⟨rfl,rfl⟩,λa ha hpos=>absurd hpos (oA 0)⟩
 |.u,.u,vs,x,r,h=>by simp only[ac]at r;simp only[ai];exact r
 |.np,.any,vs,x,r,h=>by simp only[ac]at r;simp only[ai];exact⟨_,r,rfl⟩
 |.bx v,.pt t,vs,x,r,h=>by simp only[V.view]at h;simp only[ac]at r;obtain⟨b,o,us,h1,h2,h3,h4⟩:=r;simp only[ai];exact⟨b,o,us,h1,hI _ h2,h3,uS hp hN hI hW v t us x h4 h⟩
 |.fn f v,.fn f' t,vs,x,r,h=>by
  simp only[ac]at r;simp only[V.view,cS]at h;split at h
  ·rename_i e;subst e;obtain⟨us,h1,h2⟩:=r;simp only[ai];exact⟨us,h1,uS hp hN hI hW v t us x h2 h⟩
  ·cases h
 |.ref k π,t,vs,x,r,h=>by
  simp only[ac]at r;have h':v6 N k π t=some x:=by cases t<;>simpa only [V.view]using h
  unfold v6 at h';split at h'
  ·rename_i q hq;obtain⟨ob,h0,h2⟩:=nG hq;have h1:=hN _ _ h0;obtain⟨ob',pl,k1,k2,k3,k4⟩:=r;rw[h1]at k1;cases k1;obtain⟨us,pl',S',e1,e2,e3,_⟩:=look hp h1 k2 h2;rw[e1]at k4;cases k4;exact x8 h' (Rel.frz hI _ _ S' _ (λb hb=>hW _ b (bP h0) (e2 b hb)) e3)
  ·cases h'
 |.ad k π,.pt t,vs,x,r,h=>by
  simp only[ac]at r;obtain⟨v,rfl,r⟩:=r;simp only[V.view,v6]at h;split at h
  ·rename_i q hq;obtain⟨ob,h0,h2⟩:=nG hq;have h1:=hN _ _ h0;obtain⟨ob',us0,b0,off0,k1,k2,k3,k4,k5,rfl⟩:=r;rw[h1]at k1;cases k1;obtain⟨us,pl',S',e1,e2,e3,e4,_⟩:=look hp h1 k2 h2;rw[e1]at k5;simp only[aI,bE]at k5;obtain⟨rfl,rfl⟩:=k5;obtain⟨b,off,cur,ty',c1,c2,c3,c4,c5⟩:=e4 k4;simp only[aI,bE]at c1;obtain⟨rfl,rfl⟩:=c1;have:=x8 h (Rel.frz hI _ _ S' _ (λb hb=>hW _ b (bP h0) (e2 b hb)) e3);simp only[ai];exact⟨b0,off0,us,rfl,hW _ b0 (bP h0) c2,λj u hu=>by rw[lA w b0 _ cur ty' (0,0) c4];exact c5 j u hu,this⟩
  ·cases h
 |.p _ _,.int _,_,_,_,h|.p _ _,.bool,_,_,_,h|.p _ _,.str,_,_,_,h|.p _ _,.u,_,_,_,h|.p _ _,.sl _,_,_,_,h|.p _ _,.pt _,_,_,_,h|.p _ _,.fn _ _,_,_,_,h|.p _ _,.any,_,_,_,h|.nl,.int _,_,_,_,h|.nl,.bool,_,_,_,h|.nl,.str,_,_,_,h|.nl,.u,_,_,_,h|.nl,.p _ _,_,_,_,h|.nl,.pt _,_,_,_,h|.nl,.fn _ _,_,_,_,h|.nl,.any,_,_,_,h|.u,.int _,_,_,_,h|.u,.bool,_,_,_,h|.u,.str,_,_,_,h|.u,.sl _,_,_,_,h|.u,.p _ _,_,_,_,h|.u,.pt _,_,_,_,h|.u,.fn _ _,_,_,_,h|.u,.any,_,_,_,h|.np,.int _,_,_,_,h|.np,.bool,_,_,_,h|.np,.str,_,_,_,h|.np,.sl _,_,_,_,h|.np,.p _ _,_,_,_,h|.np,.pt _,_,_,_,h|.np,.fn _ _,_,_,_,h|.np,.u,_,_,_,h|.fn _ _,.int _,_,_,_,h|.fn _ _,.bool,_,_,_,h|.fn _ _,.str,_,_,_,h|.fn _ _,.sl _,_,_,_,h|.fn _ _,.p _ _,_,_,_,h|.fn _ _,.pt _,_,_,_,h|.fn _ _,.u,_,_,_,h|.fn _ _,.any,_,_,_,h|.bx _,.int _,_,_,_,h|.bx _,.bool,_,_,_,h|.bx _,.str,_,_,_,h|.bx _,.sl _,_,_,_,h|.bx _,.p _ _,_,_,_,h|.bx _,.fn _ _,_,_,_,h|.bx _,.u,_,_,_,h|.bx _,.any,_,_,_,h|.ad _ _,.int _,_,_,_,h|.ad _ _,.bool,_,_,_,h|.ad _ _,.str,_,_,_,h|.ad _ _,.u,_,_,_,h|.ad _ _,.p _ _,_,_,_,h|.ad _ _,.sl _,_,_,_,h|.ad _ _,.fn _ _,_,_,_,h|.ad _ _,.any,_,_,_,h|.any,_,_,_,_,h|.ag _,_,_,_,r,h|.tup _,_,_,_,r,h|.gd _ _ _ _,_,_,_,r,h=>by simp[V.view]at h
 |.ifc f v,.ifc f' t,vs,x,r,h=>by
  simp only[ac]at r;simp only[V.view,cS]at h;split at h
  ·rename_i e;subst e;obtain⟨u,h1,h2⟩:=r;simp only[ai];exact⟨u,h1,uS hp hN hI hW v t [u] x h2 h⟩
  ·cases h
 |.ifc _ _,.int _,_,_,_,h|.ifc _ _,.bool,_,_,_,h|.ifc _ _,.str,_,_,_,h|.ifc _ _,.sl _,_,_,_,h|.ifc _ _,.p _ _,_,_,_,h|.ifc _ _,.pt _,_,_,_,h|.ifc _ _,.u,_,_,_,h|.ifc _ _,.any,_,_,_,h|.ifc _ _,.fn _ _,_,_,_,h=>by simp[V.view]at h
theorem acj(hp:Hp F p M w)(v:V)(t:T)(vs:aM)(x:t.den)(r:ac p.β M (Imm F p M w) w v vs)(h:v.view M t=some x):ai (All F w) w t x vs:=uS hp (λ_ _ h=>h) (λ_ h=>aaz h) (λ_ _ hl h=>acr hp hl h) v t vs x r h
theorem AV(hG:ln P F)(hp:Hp F p M w)(hL:∀b,¬p.L b):fS P (Imm F p M w) w:=hG.of λb hb hl=>⟨⟨fF hl hp.size,.inl hb.1,hL b,λk hk hs=>by
  rcases (hp.own k b hk hs).2 with h|h
  ·exact hb.2 h.2
  ·exact h.r.elim hb.2 λh=>aa⟩,hp.old b hl hb.2⟩
theorem acp(hG:ln P F)(hp:Hp F p M w):fS P (All F w) w:=hG.of λb hb hl=>⟨⟨fF hl hp.size,.inl hb.1⟩,hp.old b hl hb.2⟩
theorem AB(hp:Hp F p M w)(h:ae p.β M (Imm F p M w) w v u)(hc:fP v=true):∃vs:List Value,(gG v=true->u=.agg vs.toArray)/\(gG v=false->vs=[u])/\ac p.β M (Imm F p M w) w v.cells vs:=by
 have hcc:=xm hp h hc;refine⟨u.cells.toList,λha=>?_,λha=>?_,hcc⟩
 ·cases v<;>simp[gG]at ha;simp only[ae]at h;obtain⟨vs,rfl,_⟩:=h;simp[Value.cells]
 ·have key:ac p.β M (Imm F p M w) w v [u]->u.cells.toList=[u]:=λr=>by rw[OR (ac.one hp v _ r u ak)]
  cases v with
  |any|tup _|gd _ _ _ _=>cases hc
  |ifc _ _=>exact key (by simpa only [ae]using h)
  |ag y=>cases ha
  |p a b|u|ref k π|ad k π|d t y|nl|np|fn f y|bx y=>exact key (by simpa only [ae]using h)
theorem Og{t:T}{x:t.den}(h:v.cells.view M t=some x):fP v=true:=by cases v<;>first|rfl|(exfalso;revert h;cases t<;>simp[V.cells,V.view])
theorem aan{t:T}{x:t.den}(h:v.cells.as t=some x):fP v=true:=by cases v<;>first|rfl|(exfalso;revert h;cases t<;>simp[V.cells,V.as])
theorem Jp{r:cf}(h:shp (v::r) (g::gs)=true):gG v=g/\shp r gs=true:=by simp only[shp]at h;cases ha:gG v<;>cases g<;>simp[ha]at h⊢<;>exact h
theorem Q7(hp:Hp F p M w):(vs:cf)->(gs:gj)->(ts:ii)->(x:bq ts)->(us:aM)->us.length=vs.length->(∀(i:Nat) v u,vs[i]? = some v->us[i]? = some u->ae p.β M (Imm F p M w) w v u)->shp vs gs=true->kA M vs ts=some x->d5 (All F w) w gs ts x us
 |[],[],[],x,us,hl,_,_,h=>by simp only[d5];exact jR (by simpa using hl)
 |[],_::_,_,x,us,hl,_,hs,h=>by simp[shp]at hs
 |[],[],_::_,x,us,hl,_,hs,h=>by simp[kA]at h
 |_::_,[],_,x,us,hl,_,hs,h=>by simp[shp]at hs
 |_::_,_::_,[],x,us,hl,_,hs,h=>by simp[kA]at h
 |v::r,g::gs,t::ts,x,us,hl,hr,hs,h=>by
  simp only[kA]at h;split at h
  ·rename_i y z hy hz;cases h
   cases us with
   |nil=>simp at hl
   |cons u us=>obtain⟨s1,s2⟩:=Jp hs;obtain⟨cs,c1,c2,c3⟩:=AB hp (hr 0 v u rfl rfl) (Og hy);simp only[d5];exact⟨u,us,cs,rfl,λhg=>c1 (s1.trans hg),λhg=>c2 (s1.trans hg),acj hp _ _ _ _ c3 hy,Q7 hp r gs ts z us (by simpa using hl) (λi v' u' hv' hu'=>hr (i+1) v' u' (by simpa using hv') (by simpa using hu')) s2 hz⟩
  ·cases h
theorem Bu(hp:Hp F p M w):(vs:cf)->(gs:gj)->(ts:ii)->(x:bq ts)->(us:aM)->us.length=vs.length->(∀(i:Nat) v u,vs[i]? = some v->us[i]? = some u->ae p.β M (Imm F p M w) w v u)->shp vs gs=true->asL vs ts=some x->d5 (Imm F p M w) w gs ts x us
 |[],[],[],x,us,hl,_,_,h=>by simp only[d5];exact jR (by simpa using hl)
 |[],_::_,_,x,us,hl,_,hs,h=>by simp[shp]at hs
 |[],[],_::_,x,us,hl,_,hs,h=>by simp[asL]at h
 |_::_,[],_,x,us,hl,_,hs,h=>by simp[shp]at hs
 |_::_,_::_,[],x,us,hl,_,hs,h=>by simp[asL]at h
 |v::r,g::gs,t::ts,x,us,hl,hr,hs,h=>by
  simp only[asL]at h;split at h
  ·rename_i y z hy hz;cases h
   cases us with
   |nil=>simp at hl
   |cons u us=>obtain⟨s1,s2⟩:=Jp hs;obtain⟨cs,c1,c2,c3⟩:=AB hp (hr 0 v u rfl rfl) (aan hy);simp only[d5];exact⟨u,us,cs,rfl,λhg=>c1 (s1.trans hg),λhg=>c2 (s1.trans hg),mW _ _ _ _ c3 hy,Bu hp r gs ts z us (by simpa using hl) (λi v' u' hv' hu'=>hr (i+1) v' u' (by simpa using hv') (by simpa using hu')) s2 hz⟩
  ·cases h
theorem ach(e:Ev)(v:V):gG (v.ev e)=gG v:=by
 cases v with
 |ref k π=>
  have hx:∀t x,gG (fy t x)=false:=λt x=>by cases t<;>rfl
  cases e<;>simp only[V.ev,Ev.ref,cS]<;>split<;>first|rfl|(split<;>first|rfl|exact hx _ _)|(cases iI π<;>rfl)|(rename_i o o' _;cases orb (iI π) (Fy (trk π o) (trk π o'))<;>rfl)
 |ad k π=>cases e<;>simp only[V.ev,Ev.ad,cS]<;>split<;>first|rfl|(split<;>rfl)|(rename_i o o' _;cases kZ (eN π o) (eN π o')<;>rfl)
 |_=>rfl
theorem Qw(v:V):∀e:List Ev,gG (v.evs e)=gG v
 |[]=>rfl
 |x::e=>by simp only[V.evs];rw[Qw _ e,ach]
theorem EB(e:bM):∀(vs:cf)(gs:gj),shp (gy e vs) gs=shp vs gs
 |[],[]|[],_::_|_::_,[]=>rfl
 |v::r,g::gs=>by simp only[gy,shp,Qw];rw[EB e r gs]
theorem abi(h:cid d i=cid d j):i=j:=by unfold cid at h;exact Nat.add_left_cancel h
structure Ad (F:Fr) (p:Ow) (M:Mem) (w:aQ) (d n j j':Nat) (S:aT) (N:Mem) (p':Ow):Prop where
 le:j<=j'
 fr:∀i,j'<=i->i<n->go (ap N M) (cid d i)=none
 keys:∀k∈ba N,∃i,j<=i/\i<j'/\k=cid d i
 tr:Tr F p M w [] p' (ap N M) w
 L:∀b,p'.L b<->p.L b/\¬S b
 old:∀i ob,go M i=some ob->go (ap N M) i=some ob/\p'.β i=p.β i/\p'.σ i=p.σ i
theorem Ad.one(h:Hp F p M w)(d n j:Nat)(hjn:j<n)(hfr:∀i,j<=i->i<n->go M (cid d i)=none)(hr:Rel (Imm F p M w) w ob.o ob.x S [u])(hS:∀b,S b->p.L b):
  Ad F p M w d n j (Nat.succ j) S [(cid d j,ob)] (p.updL (cid d j) u S λb=>p.L b/\¬S b):=by
 refine⟨jT j,λi hi hin=>?_,λk hk=>⟨j,bd _,ww _,by simpa[ba]using hk⟩,?_,λb=>jQ,λi o hi=>?_⟩
 ·have hne:cid d j≠cid d i:=λe=>by have:=abi e;subst this;exact oA _ hi
  simp only[ap];rw[cJ,aj hne];exact hfr i (by exact Nat.le_of_succ_le hi) hin
 ·simp only[ap];exact Tr.newL h _ (hfr j (bd _) hjn) u S _ ob ⟨rfl,⟨rfl,bd _⟩,rfl,bd _,λ_ _ _=>rfl⟩ (λb hb=>hb) (λb hb=>.inr (hS b hb)) (λhkp=>Rel.keep hkp _ _ _ _ (λ_ _=>rfl) hr)
 ·have hne:i≠cid d j:=by rintro rfl;rw[hfr j (bd _) hjn]at hi;cases hi
  refine⟨by simp only[ap];rw[cJ,aj (cM hne)];exact hi,by simp[Ow.updL,hne],by simp[Ow.updL,hne]⟩
theorem Ad.none(h:Hp F p M w)(d n j:Nat)(S:aT)(hfr:∀i,j<=i->i<n->go M (cid d i)=none):Ad F p M w d n j j S [] ⟨p.β,p.σ,λb=>p.L b/\¬S b⟩:=⟨bd _,hfr,λk hk=>by simp[ba]at hk,Tr.drop h _ (λb hb=>hb.1),λb=>jQ,λi ob hi=>⟨hi,rfl,rfl⟩⟩
theorem Ed:∀(N N':Mem),ba (ap N N')=ba N++ba N'
 |[],N'=>rfl
 |(k,_)::N,N'=>by simp only[ap,ba,Ed N N',uq]
theorem AJ(a b c:List α):ap (ap a b) c=ap a (ap b c):=by simp only[eL,dk]
theorem Ad.two{j'':Nat}{N':Mem}(h1:Ad F p M w d n j j' S1 N p')(h2:Ad F p' (ap N M) w d n j' j'' S2 N' p'')(hS1:∀b,S1 b->S b)(hS2:∀b,S2 b->S b):
  Ad F p M w d n j j'' S (ap N' N) ⟨p''.β,p''.σ,λb=>p''.L b/\¬S b⟩:=by
 have hap:ap (ap N' N) M=ap N' (ap N M):=AJ _ _ _;refine⟨c8 h1.le h2.le,λi hi hin=>by rw[hap];exact h2.fr i hi hin,λk hk=>?_,?_,λb=>?_,λi ob hi=>?_⟩
 ·rw[Ed]at hk;rcases eS.1 hk with hk|hk
  ·obtain⟨i,a1,a2,a3⟩:=h2.keys k hk;exact⟨i,c8 h1.le a1,a2,a3⟩
  ·obtain⟨i,a1,a2,a3⟩:=h1.keys k hk;exact⟨i,a1,fF a2 h2.le,a3⟩
 ·rw[hap];exact h1.tr.trans (h2.tr.trans (Tr.drop h2.tr.hp _ (λb hb=>hb.1)))
 ·show p''.L b/\¬S b<->_;rw[h2.L,h1.L];constructor
  ·rintro⟨⟨⟨a1,_⟩,_⟩,a2⟩;exact⟨a1,a2⟩
  ·rintro⟨a1,a2⟩;exact⟨⟨⟨a1,λh=>a2 (hS1 b h)⟩,λh=>a2 (hS2 b h)⟩,a2⟩
 ·obtain⟨a1,a2,a3⟩:=h1.old i ob hi;obtain⟨b1,b2,b3⟩:=h2.old i ob a1;exact⟨by rw[hap];exact b1,b2.trans a2,b3.trans a3⟩
theorem Ey(d:Nat):(o:O)->(j:Nat)->(x:o.strip.den)->j<=(dQ d j o x).2.2/\∀i,j<=i->i<(dQ d j o x).2.2->cid d i∈ba (dQ d j o x).2.1
 |.fz t,j,x=>by simp only[dQ];exact⟨bd _,λi h1 h2=>aa⟩
 |.sl e,j,x|.pt e,j,x|.mp k v,j,x=>by simp only[dQ];exact⟨jT _,λi h1 h2=>by (have:i=j:=aa);subst this;simp[ba]⟩
 |.op e,j,x=>by simp only[dQ];exact⟨bd _,λi h1 h2=>aa⟩
 |.p a b,j,x=>by
  obtain⟨a1,a2⟩:=Ey d a j x.1;simp only[dQ];generalize dQ d j a x.1=q1 at a1 a2⊢;obtain⟨v1,N1,j1⟩:=q1;simp only at a1 a2⊢;obtain⟨b1,b2⟩:=Ey d b j1 x.2;generalize dQ d j1 b x.2=q2 at b1 b2⊢;obtain⟨v2,N2,j2⟩:=q2;simp only at b1 b2⊢;refine⟨c8 a1 b1,λi h1 h2=>?_⟩;rw[Ed];by_cases h:i<j1
  ·exact rZ _ (a2 i h1 h)
  ·exact jU _ (b2 i aa h2)
theorem AP(d:Nat):(rs:gH)->(j:Nat)->(x:bY rs)->j<=(newL d j rs x).2.2/\∀i,j<=i->i<(newL d j rs x).2.2->cid d i∈ba (newL d j rs x).2.1
 |[],j,x=>by simp only[newL];exact⟨bd _,λi h1 h2=>aa⟩
 |q::rs,j,x=>by
  obtain⟨a1,a2⟩:=Ey d q.2 j x.1;simp only[newL];generalize dQ d j q.2 x.1=q1 at a1 a2⊢;obtain⟨v1,N1,j1⟩:=q1;simp only at a1 a2⊢;obtain⟨b1,b2⟩:=AP d rs j1 x.2;generalize newL d j1 rs x.2=q2 at b1 b2⊢;obtain⟨v2,N2,j2⟩:=q2;simp only at b1 b2⊢;refine⟨c8 a1 b1,λi h1 h2=>?_⟩;rw[Ed];by_cases h:i<j1
  ·exact rZ _ (a2 i h1 h)
  ·exact jU _ (b2 i aa h2)
theorem JT(d n:Nat):(o:O)->(M:Mem)->(p:Ow)->(j:Nat)->(x:o.strip.den)->(S:aT)->(vs:aM)->Hp F p M w->Rel (Imm F p M w) w o x S vs->(∀b,S b->p.L b)->(dQ d j o x).2.2<=n->(∀i,j<=i->i<n->go M (cid d i)=none)->
  ∃p',Ad F p M w d n j (dQ d j o x).2.2 S (dQ d j o x).2.1 p'/\ac p'.β (ap (dQ d j o x).2.1 M) (Imm F p' (ap (dQ d j o x).2.1 M) w) w (dQ d j o x).1 vs
 |.fz t,M,p,j,x,S,vs,h,r,hS,hn,hfr=>by simp only[dQ,ap];have ha:=Ad.none h d n j S hfr;refine⟨_,ha,ko t x vs ?_⟩;simp only[Rel]at r;exact ai.keep ha.tr.keep _ _ _ r
 |.op e,M,p,j,x,S,vs,h,r,hS,hn,hfr=>by simp only[dQ,ap];have ha:=Ad.none h d n j S hfr;refine⟨_,ha,?_⟩;simp only[Rel]at r;simp only[ac];exact r.2.1
 |.sl e,M,p,j,x,S,vs,h,r,hS,hn,hfr=>by
  simp only[dQ];obtain⟨u,rfl⟩:∃u,vs=[u]:=by simp only[Rel]at r;obtain⟨v,_,_,_,rfl,_⟩:=r;exact⟨v,rfl⟩
  have ha:=Ad.one (ob:=⟨.sl e,x⟩) h d n j (by simp only[dQ]at hn;exact hn) hfr r hS;refine⟨_,ha,?_⟩;simp only[ac,ap];refine⟨⟨.sl e,x⟩,Option.none,mG _ _ _,by simp only[gok],⟨⟨.sl e,x⟩,by simp only[get]⟩,?_⟩;simp only[res,Ow.updL,dA]
 |.mp e e',M,p,j,x,S,vs,h,r,hS,hn,hfr=>by
  simp only[dQ];obtain⟨u,rfl⟩:∃u,vs=[u]:=by simp only[Rel]at r;obtain⟨b,_,_,rfl,_⟩:=r;exact⟨_,rfl⟩
  have ha:=Ad.one (ob:=⟨.mp e e',x⟩) h d n j (by simp only[dQ]at hn;exact hn) hfr r hS;refine⟨_,ha,?_⟩;simp only[ac,ap];refine⟨⟨.mp e e',x⟩,Option.none,mG _ _ _,by simp only[gok],⟨⟨.mp e e',x⟩,by simp only[get]⟩,?_⟩;simp only[res,Ow.updL,dA]
 |.pt o,M,p,j,x,S,vs,h,r,hS,hn,hfr=>by
  simp only[dQ];obtain⟨b,us,ty',S',rfl,_⟩:∃b us ty' S',vs=[.pointer (some ⟨b,0,Option.none⟩)]/\S b/\w.heap[b]? = some (.cells (us:aM).toArray ty' (0,0))/\(∀c,S' c->S c/\c≠b)/\Rel (Imm F p M w) w o x S' us:=by simp only[Rel]at r;exact r
  have ha:=Ad.one (ob:=⟨.pt o,x⟩) h d n j (by simp only[dQ]at hn;exact hn) hfr r hS;refine⟨_,ha,?_⟩;simp only[ac,ap];refine⟨_,rfl,⟨.pt o,x⟩,cellsOf w b 0 o.size,b,0,mG _ _ _,by simp only[gok],⟨⟨o,x⟩,by simp only[get]⟩,rfl,?_,rfl⟩;simp only[res,Ow.updL,dA]
 |.p a b,M,p,j,x,S,vs,h,r,hS,hn,hfr=>by
  simp only[Rel]at r;obtain⟨va,vb,S1,S2,rfl,h1,h2,h3,ha,hb⟩:=r;have hle:=Ey d b (dQ d j a x.1).2.2 x.2;simp only[dQ]at hn;obtain⟨p1,a1,a2⟩:=JT d n a M p j x.1 S1 va h ha (λc hc=>hS c (h1 c hc)) (c8 hle.1 hn) hfr;simp only[dQ];generalize dQ d j a x.1=q1 at a1 a2 hn hle⊢;obtain⟨v1,N1,j1⟩:=q1;simp only at a1 a2 hn hle⊢;obtain⟨p2,b1,b2⟩:=JT d n b (ap N1 M) p1 j1 x.2 S2 vb a1.tr.hp (Rel.keep a1.tr.keep _ _ _ _ (λ_ _=>rfl) hb) (λc hc=>(a1.L c).2 ⟨hS c (h2 c hc),λhc1=>h3 c hc1 hc⟩) hn a1.fr;generalize dQ d j1 b x.2=q2 at b1 b2⊢;obtain⟨v2,N2,j2⟩:=q2;simp only at b1 b2⊢;have hc:=a1.two b1 h1 h2;refine⟨_,hc,?_⟩;have hd:=Tr.drop b1.tr.hp (λb=>p2.L b/\¬S b) (λb hb=>hb.1);rw[AJ];simp only[ac];refine⟨va,vb,rfl,?_,?_⟩
  ·have:=(b1.tr.trans hd).c _ _ a2;simpa only [ap,V.evs]using this
  ·have:=hd.c _ _ b2;simpa only [V.evs]using this
theorem EN(d n:Nat):(rs:gH)->(M:Mem)->(p:Ow)->(j:Nat)->(x:bY rs)->(S:aT)->(us:aM)->Hp F p M w->cp (Imm F p M w) w rs x S us->(∀b,S b->p.L b)->(newL d j rs x).2.2<=n->(∀i,j<=i->i<n->go M (cid d i)=none)->
  ∃p',Ad F p M w d n j (newL d j rs x).2.2 S (newL d j rs x).2.1 p'/\cD p'.β (ap (newL d j rs x).2.1 M) (Imm F p' (ap (newL d j rs x).2.1 M) w) w (newL d j rs x).1 us
 |[],M,p,j,x,S,us,h,r,hS,hn,hfr=>by simp only[cp]at r;simp only[newL,ap,cD];exact⟨_,Ad.none h d n j S hfr,r⟩
 |q::rs,M,p,j,x,S,us,h,r,hS,hn,hfr=>by
  simp only[cp]at r;obtain⟨u,us',vs,S1,S2,rfl,g1,g2,h1,h2,h3,ha,hb⟩:=r;have hle:=AP d rs (dQ d j q.2 x.1).2.2 x.2;simp only[newL]at hn;obtain⟨p1,a1,a2⟩:=JT d n q.2 M p j x.1 S1 vs h ha (λc hc=>hS c (h1 c hc)) (c8 hle.1 hn) hfr;simp only[newL];generalize dQ d j q.2 x.1=q1 at a1 a2 hn hle⊢;obtain⟨v1,N1,j1⟩:=q1;simp only at a1 a2 hn hle⊢
  have hbk:∀(rs:gH) (x:bY rs) (S:aT) (us:aM),cp (Imm F p M w) w rs x S us->cp (Imm F p1 (ap N1 M) w) w rs x S us:=by
   intro rs
   induction rs with
   |nil=>intro x S us r;simpa only [cp]using r
   |cons q rs ih=>intro x S us r;simp only[cp]at r⊢;obtain⟨u,us',vs,S1,S2,e1,e2,e3,e4,e5,e6,e7,e8⟩:=r;exact⟨u,us',vs,S1,S2,e1,e2,e3,e4,e5,e6,Rel.keep a1.tr.keep _ _ _ _ (λ_ _=>rfl) e7,ih _ _ _ e8⟩
  obtain⟨p2,b1,b2⟩:=EN d n rs (ap N1 M) p1 j1 x.2 S2 us' a1.tr.hp (hbk _ _ _ _ hb) (λc hc=>(a1.L c).2 ⟨hS c (h2 c hc),λhc1=>h3 c hc1 hc⟩) hn a1.fr;generalize newL d j1 rs x.2=q2 at b1 b2⊢;obtain⟨v2,N2,j2⟩:=q2;simp only at b1 b2⊢;have hc:=a1.two b1 h1 h2;refine⟨_,hc,?_⟩;have hd:=Tr.drop b1.tr.hp (λb=>p2.L b/\¬S b) (λb hb=>hb.1);rw[AJ];simp only[cD];refine⟨u,us',rfl,?_,?_⟩
  ·have h4:=(b1.tr.trans hd).c _ _ a2;simp only[ap,V.evs]at h4
   cases hq:q.1 with
   |true=>simp only[kI,aD,ae];exact⟨vs,g1 hq,h4⟩
   |false=>have:=g2 hq;subst this;simp only[kI,bc];exact my h4
  ·have hT:∀(v:V)(us:aM),cD p2.β (ap N2 (ap N1 M)) (Imm F p2 (ap N2 (ap N1 M)) w) w v us->cD p2.β (ap N2 (ap N1 M)) (Imm F ⟨p2.β,p2.σ,λb=>p2.L b/\¬S b⟩ (ap N2 (ap N1 M)) w) w v us:=λv us r=>by
    have h5:ae p2.β (ap N2 (ap N1 M)) (Imm F p2 (ap N2 (ap N1 M)) w) w (.tup v) (.tuple us.toArray):=by simp only[ae];exact⟨us,rfl,r⟩
    have h6:=hd.s _ _ h5;simp only[V.evs,ae,Value.tuple.injEq]at h6;obtain⟨us',e1,e2⟩:=h6;have:us=us':=by simpa using congrArg Array.toList e1
    rw[this];exact e2
   exact hT _ _ b2
theorem L3(a b:V):∀e:List Ev,(V.p a b).evs e=.p (a.evs e) (b.evs e)
 |[]=>rfl
 |x::e=>by simp only[V.evs,V.ev];exact L3 _ _ e
theorem Tp(a:V):∀e:List Ev,(V.ag a).evs e=.ag (a.evs e)
 |[]=>rfl
 |x::e=>by simp only[V.evs,V.ev];exact Tp _ e
theorem QZ(a:V):∀e:List Ev,(V.tup a).evs e=.tup (a.evs e)
 |[]=>rfl
 |x::e=>by simp only[V.evs,V.ev];exact QZ _ e
theorem Th(j:Nat)(b:bo)(P:Prop)(a:V):∀e:List Ev,(V.gd j b P a).evs e=.gd j b P (a.evs e)
 |[]=>rfl
 |x::e=>by simp only[V.evs,V.ev];exact Th j b P _ e
theorem Tj(f:fL)(a:V):∀e:List Ev,(V.fn f a).evs e=.fn f (a.evs e)
 |[]=>rfl
 |x::e=>by simp only[V.evs,V.ev];exact Tj f _ e
theorem Ri(t:bF)(a:V):∀e:List Ev,(V.ifc t a).evs e=.ifc t (a.evs e)
 |[]=>rfl
 |x::e=>by simp only[V.evs,V.ev];exact Ri t _ e
theorem Te(a:V):∀e:List Ev,(V.bx a).evs e=.bx (a.evs e)
 |[]=>rfl
 |x::e=>by simp only[V.evs,V.ev];exact Te _ e
theorem Lj:∀e:List Ev,V.u.evs e=.u
 |[]=>rfl
 |x::e=>by simp only[V.evs,V.ev];exact Lj e
theorem AY:∀e:List Ev,V.any.evs e=.any
 |[]=>rfl
 |x::e=>by simp only[V.evs,V.ev];exact AY e
theorem SC:∀e:List Ev,V.nl.evs e=.nl
 |[]=>rfl
 |x::e=>by simp only[V.evs,V.ev];exact SC e
theorem SF:∀e:List Ev,V.np.evs e=.np
 |[]=>rfl
 |x::e=>by simp only[V.evs,V.ev];exact SF e
theorem TI(t:T)(y:t.den):∀e:List Ev,(V.d t y).evs e=.d t y
 |[]=>rfl
 |x::e=>by simp only[V.evs,V.ev];exact TI t y e
theorem ac.evs{e:bM}(hk:cE Im Im' w w')(href:∀k π vs,Ref β M w k π vs->ac β' M' Im' w' ((V.ref k π).evs e) vs)(had:∀k π v,Adr β M w k π v->ac β' M' Im' w' ((V.ad k π).evs e) [v]) :
  (x:V)->(vs:aM)->ac β M Im w x vs->ac β' M' Im' w' (x.evs e) vs
 |.p a b,vs,r=>by rw[L3];simp only[ac]at r⊢;obtain⟨va,vb,h1,h2,h3⟩:=r;exact⟨va,vb,h1,ac.evs hk href had a va h2,ac.evs hk href had b vb h3⟩
 |.u,vs,r=>by rw[Lj];simpa only [ac]using r
 |.ref k π,vs,r=>by simp only[ac]at r;exact href k π vs r
 |.ad k π,vs,r=>by simp only[ac]at r;obtain⟨v,rfl,h⟩:=r;exact had k π v h
 |.d t x,vs,r=>by rw[TI];simp only[ac]at r⊢;exact ai.keep hk t x vs r
 |.nl,vs,r=>by rw[SC];simpa only [ac]using r
 |.np,vs,r=>by rw[SF];simpa only [ac]using r
 |.any,vs,r=>by rw[AY];simpa only [ac]using r
 |.fn f v,vs,r=>by rw[Tj];simp only[ac]at r⊢;obtain⟨us,h1,h2⟩:=r;exact⟨us,h1,ac.evs hk href had v us h2⟩
 |.bx v,vs,r=>by rw[Te];simp only[ac]at r⊢;obtain⟨b,o,us,h1,h2,h3,h4⟩:=r;exact⟨b,o,us,h1,(hk b h2).1,h3.keep (hk b h2).2,ac.evs hk href had v us h4⟩
 |.ag _,vs,r|.tup _,vs,r|.gd _ _ _ _,vs,r=>by simp only[ac]at r
 |.ifc t v,vs,r=>by rw[Ri];simp only[ac]at r⊢;obtain⟨u,h1,h2⟩:=r;exact⟨u,h1,ac.evs hk href had v [u] h2⟩
mutual
theorem ae.evs{e:bM}(hk:cE Im Im' w w')(href:∀k π vs,Ref β M w k π vs->ac β' M' Im' w' ((V.ref k π).evs e) vs)(had:∀k π v,Adr β M w k π v->ac β' M' Im' w' ((V.ad k π).evs e) [v]) :
  (x:V)->(v:bw)->ae β M Im w x v->ae β' M' Im' w' (x.evs e) v
 |.any,v,r=>by rw[AY];simp only[ae]
 |.ag x,v,r=>by rw[Tp];simp only[ae]at r⊢;obtain⟨vs,h1,h2⟩:=r;exact⟨vs,h1,ac.evs hk href had x vs h2⟩
 |.tup x,v,r=>by rw[QZ];simp only[ae]at r⊢;obtain⟨vs,h1,h2⟩:=r;exact⟨vs,h1,cD.evs hk href had x vs h2⟩
 |.gd j b P x,v,r=>by rw[Th];simp only[ae]at r⊢;exact⟨λhp=>ae.evs hk href had x v (r.1 hp),r.2⟩
 |.ifc t x,v,r|.p a b,v,r|.u,v,r|.ref k π,v,r|.ad k π,v,r|.d t x,v,r|.nl,v,r|.np,v,r|.fn f x,v,r|.bx x,v,r=>by simp only[ae]at r;exact my (ac.evs hk href had _ _ r)
theorem cD.evs{e:bM}(hk:cE Im Im' w w')(href:∀k π vs,Ref β M w k π vs->ac β' M' Im' w' ((V.ref k π).evs e) vs)(had:∀k π v,Adr β M w k π v->ac β' M' Im' w' ((V.ad k π).evs e) [v]) :
  (x:V)->(vs:aM)->cD β M Im w x vs->cD β' M' Im' w' (x.evs e) vs
 |.p a b,vs,r=>by rw[L3];simp only[cD]at r⊢;obtain⟨u,us,h1,h2,h3⟩:=r;exact⟨u,us,h1,ae.evs hk href had a u h2,cD.evs hk href had b us h3⟩
 |.u,vs,r=>by rw[Lj];simpa only [cD]using r
 |.any,vs,r|.ag x,vs,r|.tup x,vs,r|.gd j b P x,vs,r|.ifc t x,vs,r|.ref k π,vs,r|.ad k π,vs,r|.d t x,vs,r|.nl,vs,r|.np,vs,r|.fn f x,vs,r|.bx x,vs,r=>by simp only[cD]at r
end
theorem Jb:∀{l:aZ},vp l=true->∀k∈l,∀j∈l,gid<=k->gid<=j
 |[],_,k,hk,_,_,_=>by cases hk
 |[a],_,k,hk,j,hj,hg=>by simp only[cA]at hk hj;subst hk;subst hj;exact hg
 |a::b::r,h,k,hk,j,hj,hg=>by
  simp only[vp]at h;have hb:∀n,Nat.ble gid n=true<->gid<=n:=λn=>by rw[Nat.ble_eq]
  cases ha:Nat.ble gid a with
  |true=>
   rw[ha]at h;simp only[aD]at h
   cases hb':Nat.ble gid b with
   |false=>rw[hb']at h;cases h
   |true=>
    rw[hb']at h;have ih:=Jb h b ak;rcases cz.1 hj with rfl|hj
    ·exact (hb _).1 ha
    ·exact ih j hj ((hb _).1 hb')
  |false=>
   rw[ha]at h;simp only[bc]at h
   cases hb':Nat.ble gid b with
   |true=>rw[hb']at h;cases h
   |false=>
    rw[hb']at h;have na:¬gid<=a:=λh'=>by rw[(hb _).2 h']at ha;cases ha
    have nb':¬gid<=b:=λh'=>by rw[(hb _).2 h']at hb';cases hb'
    exfalso;rcases cz.1 hk with rfl|hk
    ·exact na hg
    ·exact nb' (Jb h k hk b ak hg)
structure Upd (F:Fr) (p:Ow) (M:Mem) (w w':aQ) (T S':aT) (L:aZ) (σ':jN) (M0 M1:Mem) (e:bM):Prop where
 keys:∀k,k∈L->∃ob ob',go M k=some ob/\go M1 k=some ob'/\∀Im':Nat->Prop,cE (Imm F p M w) Im' w w'->Rel Im' w' ob'.o ob'.x (σ' k) [p.β k]
 sub:∀k,k∈L->∀c,σ' k c->(p.σ k c/\¬T c)\/S' c
 dis:∀k k',k∈L->k'∈L->k≠k'->∀c,σ' k c->¬σ' k' c
 rest:∀k,k∉L->go M1 k=go M0 k
 ref:∀k π,(V.ref k π).evs e=if k∈L then (if iI π=true then .ref k π else .any)else .ref k π
 ad:∀k,k∉L->∀π,(V.ad k π).evs e=.ad k π
 adk:∀k,k∈L->∀π,(V.ad k π).evs e=.any\/((V.ad k π).evs e=.ad k π/\∃ob ob' n,go M k=some ob/\go M1 k=some ob'/\eN π ob.o=some n/\eN π ob'.o=some n)
theorem P3(hp:Hp F p M w)(hL:∀b,¬p.L b){o:O}{x x':o.strip.den}(hk:go M k=some ⟨o,x⟩){S' R:aT}(hA:∀b,A b->Imm F p M w b)(hX:ExtS w w' (p.σ k))(hR:∀b,R b->w.heap.size<=b/\b<w'.heap.size)(hS:∀b,S' b->(p.σ k b\/w.heap.size<=b/\b<w'.heap.size)/\¬R b)(hrel:Rel (λb=>b<w'.heap.size/\(A b\/p.σ k b\/w.heap.size<=b)/\¬S' b/\¬R b) w' o x' S' [p.β k]):
  ∃p',Tr F p M w [.cut k o o] p' (put k ⟨o,x'⟩ M) w'/\(∀b,p'.L b<->R b)/\(∀b,(b<w'.heap.size/\(A b\/p.σ k b\/w.heap.size<=b)/\¬S' b/\¬R b)->Imm F p' (put k ⟨o,x'⟩ M) w' b):=by
 generalize hp':(⟨p.β,λj=>if j=k then S' else p.σ j,R⟩:Ow)=p';have hβ:p'.β=p.β:=by rw[←hp']
 have hσ1:p'.σ k=S':=by rw[←hp'];simp
 have hσ2:∀j,j≠k->p'.σ j=p.σ j:=λj hj=>by rw[←hp'];simp[hj]
 have hL':∀b,p'.L b<->R b:=by rw[←hp'];exactλb=>jQ
 have hlk:=bP hk;have hg1:go (put k ⟨o,x'⟩ M) k=some ⟨o,x'⟩:=lJ _ _ hlk;have hg2:∀j,j≠k->go (put k ⟨o,x'⟩ M) j=go M j:=λj hj=>iR _ hj _
 have hlv:∀j,bm (put k ⟨o,x'⟩ M) j<->bm M j:=λj=>by
  by_cases hj:j=k
  ·subst hj;exact⟨λ_=>hlk,λ_=>bP hg1⟩
  ·unfold bm;rw[hg2 j hj]
 have hR0:∀b,R b->∀j,bm M j->¬p.σ j b:=λb hb j hj hs=>by have:=(hp.own j b hj hs).1;have:=(hR b hb).1;omega
 have hS0:∀b,S' b->∀j,j≠k->bm M j->¬p.σ j b:=λb hb j hj hl hs=>by
  rcases (hS b hb).1 with h|h
  ·exact hp.sep k j b (cM hj) hlk hl h hs
  ·have:=(hp.own j b hl hs).1;omega
 have hkeep:cE (Imm F p M w) (Imm F p' (put k ⟨o,x'⟩ M) w') w w':=λb hb=>by
  have hnT:¬p.σ k b:=hb.2.2.2 k hlk;refine⟨⟨fF hb.1 hX.size,hb.2.1,λh=>?_,λj hj=>?_⟩,hX.old b hb.1 hnT⟩
  ·have:=(hR b ((hL' b).1 h)).1;have:=hb.1;omega
  ·by_cases h:j=k
   ·subst h;rw[hσ1];intro hc;rcases (hS b hc).1 with q|q
    ·exact hnT q
    ·have:=hb.1;omega
   ·rw[hσ2 j h];exact hb.2.2.2 j ((hlv j).1 hj)
 have hoth:∀j,j≠k->bm M j->∀b,p.σ j b->w'.heap[b]? = w.heap[b]?:=λj hj hl b hb=>hX.old b (hp.own j b hl hb).1 (λh=>hp.sep k j b (cM hj) hlk hl h hb)
 have himm:∀b,(b<w'.heap.size/\(A b\/p.σ k b\/w.heap.size<=b)/\¬S' b/\¬R b)->Imm F p' (put k ⟨o,x'⟩ M) w' b:=λb ⟨b1,b2,b3,b4⟩=>by
  rcases b2 with h|h|h
  ·exact (hkeep b (hA b h)).1
  ·have hown:=hp.own k b hlk h;refine⟨b1,?_,λh=>b4 ((hL' b).1 h),λj hj=>?_⟩
   ·rcases hown.2 with⟨_,h2⟩|h2
    ·exact .inr (.inl h2)
    ·exact .inr h2.r
   ·by_cases hjk:j=k
    ·subst hjk;rw[hσ1];exact b3
    ·rw[hσ2 j hjk];exact hp.sep k j b (cM hjk) hlk ((hlv j).1 hj) h
  ·refine⟨b1,.inr (.inr (c8 hp.size h)),λh=>b4 ((hL' b).1 h),λj hj=>?_⟩;by_cases hjk:j=k
   ·subst hjk;rw[hσ1];exact b3
   ·rw[hσ2 j hjk];exactλhs=>by have:=(hp.own j b ((hlv j).1 hj) hs).1;omega
 have href:∀j π vs,Ref p.β M w j π vs->ac p'.β (put k ⟨o,x'⟩ M) (Imm F p' (put k ⟨o,x'⟩ M) w') w' (Ev.ref j π (.cut k o o)) vs:=λj π vs r=>by
  simp only[Ev.ref,cS];by_cases h:j=k
  ·subst h;rw[am rfl]
   cases π with
   |nil=>simp only[iI,aD,ac];obtain⟨ob,pl0,k1,k2,k3,k4⟩:=r;simp only[res,aI,bE]at k4;obtain⟨rfl,rfl⟩:=k4;exact⟨_,none,hg1,by simp only[gok],⟨_,by simp only[get];rfl⟩,by simp only[res,hβ]⟩
   |cons s ρ=>simp only[iI,bc,ac];exact r.one hp
  ·rw[aj h];simp only[ac];exact r.same hp (hg2 j h) (by rw[hβ]) (hoth j h)
 have had:∀j π v,Adr p.β M w j π v->ac p'.β (put k ⟨o,x'⟩ M) (Imm F p' (put k ⟨o,x'⟩ M) w') w' (Ev.ad j π (.cut k o o)) [v]:=λj π v r=>by
  simp only[Ev.ad,cS];by_cases h:j=k
  ·subst h;rw[am rfl]
   cases hs:kZ (eN π o) (eN π o)with
   |false=>simp only[bc,ac];intro u hu;rw[cA.1 hu];exact r.one
   |true=>obtain⟨n,s1,_⟩:=Ef hs;simp only[aD,ac];refine⟨v,rfl,?_⟩;obtain⟨o0,us0,b0,off0,k1,k2,k3,k4,k5,rfl⟩:=r;rw[hk]at k1;cases k1;obtain⟨ρ1,o1,rfl,e1,f1⟩:=uN s1;subst e1;have hr:=hp.objs j _ hk;simp only[Rel]at hr;obtain⟨bb,us1,ty',S1,r1,r2,r3,r4,r5⟩:=hr;simp only[bG,az]at r1;rw[r1]at k5;simp only[res]at k5;obtain⟨_,_,us2,q3⟩:=kr w ρ1 o1 n f1 x (cellsOf w bb 0 o1.size) (some (bb,0));rw[q3]at k5;simp only[aI,bE]at k5;obtain⟨q1,q2,us3,q3'⟩:=kr w' ρ1 o1 n f1 x' (cellsOf w' bb 0 o1.size) (some (bb,0));refine⟨_,us3,b0,off0,hg1,by simpa only [gok]using q2,by simpa only [get]using q1,by simp only[bV],?_,rfl⟩;rw[hβ,r1];simp only[res];rw[q3',k5.2]
  ·rw[aj h];simp only[ac];exact⟨v,rfl,r.same hp (hg2 j h) (by rw[hβ]) (hoth j h)⟩
 refine⟨p',Tr.one _ hkeep href had ⟨λj ob hj=>?_,λj j' b hne hj hj' hb=>?_,λj b hj hb=>?_,λb hb=>?_,hX.os.trans hp.os,hX.tape.trans hp.tape,hX.output.trans hp.output,c8 hp.size hX.size,λb hb hRR=>?_⟩,hL',himm⟩
 ·by_cases h:j=k
  ·subst h;rw[hg1]at hj;cases hj;rw[hβ,hσ1];exact Rel.keep (λb hb=>⟨himm b hb,rfl⟩) _ _ _ _ (λ_ _=>rfl) hrel
  ·rw[hg2 j h]at hj;rw[hβ,hσ2 j h];exact Rel.keep hkeep _ _ _ _ (hoth j h (bP hj)) (hp.objs j ob hj)
 ·have hj1:=(hlv j).1 hj;have hj2:=(hlv j').1 hj';by_cases h:j=k
  ·subst h;rw[hσ1]at hb;rw[hσ2 j' (cM hne)];exact hS0 b hb j' (cM hne) hj2
  ·rw[hσ2 j h]at hb;by_cases h':j'=k
   ·subst h';rw[hσ1];exactλhc=>hS0 b hc j h hj1 hb
   ·rw[hσ2 j' h'];exact hp.sep j j' b hne hj1 hj2 hb
 ·have hj1:=(hlv j).1 hj;by_cases h:j=k
  ·subst h;rw[hσ1]at hb;rcases (hS b hb).1 with q|q
   ·have:=hp.own j b hj1 q;exact⟨fF this.1 hX.size,this.2⟩
   ·exact⟨q.2,.inr (.inl (c8 hp.size q.1))⟩
  ·rw[hσ2 j h]at hb;have:=hp.own j b hj1 hb;exact⟨fF this.1 hX.size,this.2⟩
 ·have hb:=(hL' b).1 hb;refine⟨(hR b hb).2,.inl (c8 hp.size (hR b hb).1),λj hj=>?_⟩;by_cases h:j=k
  ·subst h;rw[hσ1];exactλhs=>(hS b hs).2 hb
  ·rw[hσ2 j h];exact hR0 b hb j ((hlv j).1 hj)
 ·rw[hX.old b (fF hb hp.size) (λht=>?_)]
  ·exact hp.old b hb hRR
  ·rcases (hp.own k b hlk ht).2 with⟨_,a2⟩|a1
   ·exact hRR a2
   ·exact a1.r.elim hRR λh=>aa
theorem QR{Im:aT}{w:aQ}:(k:T)->0<k.intsN->(x:k.den)->(vs:aM)->ai Im w k x vs->vs=gg k x
 |.int k,_,x,vs,r=>by simp only[ai]at r;simp only[gg];exact r.1
 |.p a b,h,x,vs,r=>by
  cases a<;>simp only[T.intsN]at h<;>try omega
  simp only[ai]at r;obtain⟨va,vb,rfl,⟨rfl,_⟩,hb⟩:=r;have hb':0<b.intsN:=by cases hn:b.intsN with|zero=>simp[hn]at h|succ n=>omega
  simp only[gg];rw[QR b hb' x.2 vb hb]
 |.bool,h,_,_,_|.str,h,_,_,_|.u,h,_,_,_|.sl _,h,_,_,_|.pt _,h,_,_,_|.fn _ _,h,_,_,_|.ifc _ _,h,_,_,_|.ib _ _,h,_,_,_|.mp _ _,h,_,_,_|.op _,h,_,_,_|.ns _,h,_,_,_|.er _,h,_,_,_|.any,h,_,_,_=>by simp[T.intsN]at h
theorem Kn{Im:aT}{w:aQ}:(k:T)->0<k.intsN->(x:k.den)->k.ok x->ai Im w k x (gg k x)
 |.int k,_,x,h=>by simp only[ai,gg];exact⟨trivial,h⟩
 |.p a b,h,x,hk=>by
  cases a<;>simp only[T.intsN]at h<;>try omega
  have hb':0<b.intsN:=by cases hn:b.intsN with|zero=>simp[hn]at h|succ n=>omega
  simp only[T.ok]at hk;simp only[ai,gg];exact⟨_,_,rfl,⟨rfl,hk.1⟩,Kn b hb' x.2 hk.2⟩
 |.bool,h,_,_|.str,h,_,_|.u,h,_,_|.sl _,h,_,_|.pt _,h,_,_|.fn _ _,h,_,_|.ifc _ _,h,_,_|.ib _ _,h,_,_|.mp _ _,h,_,_|.op _,h,_,_|.ns _,h,_,_|.er _,h,_,_|.any,h,_,_=>by simp[T.intsN]at h
theorem Tu{k:ij}(x y:Int):eqR (.int k) x y=(x==y):=by
 cases h:(x==y)with
 |true=>exact nL.2 (by simpa using h)
 |false=>exact ye (by simpa using h)
theorem afj(x y:ByteArray):eqR .str x y=(x==y):=by
 cases h:(x==y)with
 |true=>exact nL.2 ((MapKept.bytes_beq x y).1 h)
 |false=>exact ye (λe=>by rw[(MapKept.bytes_beq x y).2 e]at h;cases h)
theorem Ph:(k:T)->(n:Nat)->k.intsN=n+1->(x y:k.den)->mK (n+1) (fy k x) (fy k y)=some (eqR k x y)
 |.int k,n,h,x,y=>by
  simp only[T.intsN]at h;have:n=0:=aa
  subst this;simp only[fy,mK,Jg,aD,Tu]
 |.p a b,n,h,x,y=>by
  cases a<;>simp only[T.intsN]at h<;>try omega
  rename_i k
  cases hn:b.intsN with
  |zero=>simp[hn]at h
  |succ m=>
   simp only[hn]at h;have:n=m+1:=aa
   subst this;have ih:=Ph b m hn x.2 y.2;simp only[fy,mK,Nat.succ_eq_add_one,ih,Jg,aD];congr 1
   cases hx:(x.1==y.1)with
   |true=>
    simp only[gB];have e:x.1=y.1:=by simpa using hx
    cases hb:eqR b x.2 y.2 with
    |true=>exact (nL.2 (pN e (nL.1 hb))).symm
    |false=>refine (ye λh=>?_).symm;rw[h,PV]at hb;cases hb
   |false=>simp only[C3];refine (ye λh=>?_).symm;rw[h]at hx;simp at hx
 |.bool,_,h,_,_|.str,_,h,_,_|.u,_,h,_,_|.sl _,_,h,_,_|.pt _,_,h,_,_|.fn _ _,_,h,_,_|.ifc _ _,_,h,_,_|.ib _ _,_,h,_,_|.mp _ _,_,h,_,_|.op _,_,h,_,_|.ns _,_,h,_,_|.er _,_,h,_,_|.any,_,h,_,_=>by simp[T.intsN]at h
structure KeyR (P:cX) (kty:bF) (k:T):Prop where
 check:∀(w:aQ)(e:bo)(x:k.den),k.ok x->(Instr.checkKey e 10000 kty (ca k x)).run P w=.ok () w
 find:∀(w:aQ)(v:T)(x:k.den),k.ok x->∀(es:List MapEntry)(l:List (k.den×v.den)),(∀y∈l,k.ok y.1)->es.map (λe=>(e.key,e.val))=l.map (λy=>(ca k y.1,ca v y.2))->
  ((Instr.findKey kty (ca k x) es).run P w=.ok none w/\mL k v l x=none/\∀z,dq k v l x z=l++[(x,z)])\/
  ∃j y,(Instr.findKey kty (ca k x) es).run P w=.ok (some (j,ca v y)) w/\l[j]? = some (x,y)/\mL k v l x=some y/\∀z,dq k v l x z=l.set j (x,z)
 same:∀(x:k.den),Instr.sameBits 10000 (ca k x) (ca k x)=true
theorem xc{k v:T}{e:k.den×v.den}{r:List (k.den×v.den)}{x:k.den}:mL k v (e::r) x=if eqR k x e.1=true then some e.2 else mL k v r x:=by unfold mL;rw[List.find?_cons];cases h:eqR k x e.1<;>simp
theorem IH{kty:bF}{k:T}(heq:∀(w:aQ)(x y:k.den),k.ok x->k.ok y->(Op.equal kty (ca k x) (ca k y)).run P w=.ok (eqR k x y) w)(w:aQ)(v:T)(x:k.den)(hx:k.ok x):∀(es:List MapEntry)(l:List (k.den×v.den)) (i:Nat),(∀y∈l,k.ok y.1)->es.map (λe=>(e.key,e.val))=l.map (λy=>(ca k y.1,ca v y.2))->
  ((Instr.findAsking kty (ca k x) es i).run P w=.ok none w/\mL k v l x=none/\∀z,dq k v l x z=l++[(x,z)])\/
  ∃j y,(Instr.findAsking kty (ca k x) es i).run P w=.ok (some (i+j,ca v y)) w/\l[j]? = some (x,y)/\mL k v l x=some y/\∀z,dq k v l x z=l.set j (x,z)
 |[],l,i,hl,h=>by
  cases l with
  |cons _ _=>simp at h
  |nil=>exact .inl ⟨by simp[Instr.findAsking],rfl,λz=>rfl⟩
 |e::es,l,i,hl,h=>by
  cases l with
  |nil=>simp at h
  |cons y r=>
   simp only[iN,bG,bE]at h;obtain⟨⟨h1,h2⟩,h3⟩:=h;have he:=heq w x y.1 hx (hl y ak);rw[←h1]at he
   cases hq:eqR k x y.1 with
   |true=>
    have e1:=nL.1 hq;refine .inr ⟨0,y.2,?_,?_,?_,λz=>?_⟩
    ·simp[Instr.findAsking,he,hq,h2]
    ·rw[e1];rfl
    ·rw[xc,am hq]
    ·simp only[dq,hq,dA,ur]
   |false=>
    rcases IH heq w v x hx es r (i+1) (λz hz=>hl z (by simp[hz])) h3 with⟨a1,a2,a3⟩|⟨j,z,a1,a2,a3,a4⟩
    ·refine .inl ⟨?_,?_,λz=>?_⟩
     ·simp[Instr.findAsking,he,hq,a1]
     ·rw[xc,aj (by rw[hq];simp)];exact a2
     ·simp only[dq,hq,d4,pO,a3,uq]
    ·refine .inr ⟨j+1,z,?_,?_,?_,λu=>?_⟩
     ·simp[Instr.findAsking,he,hq,a1];omega
     ·simpa using a2
     ·rw[xc,aj (by rw[hq];simp)];exact a3
     ·simp only[dq,hq,d4,pO,a4,C4]
theorem Qz{kd:TypeDesc}{k:T}(heq:∀(x y:k.den),Instr.sameNow kd (ca k x) (ca k y)=some (eqR k x y))(v:T)(x:k.den):∀(es:List MapEntry)(l:List (k.den×v.den)) (i:Nat),es.map (λe=>(e.key,e.val))=l.map (λy=>(ca k y.1,ca v y.2))->
  (Instr.findNow kd (ca k x) es i=some none/\mL k v l x=none/\∀z,dq k v l x z=l++[(x,z)])\/
  ∃j y,Instr.findNow kd (ca k x) es i=some (some (i+j,ca v y))/\l[j]? = some (x,y)/\mL k v l x=some y/\∀z,dq k v l x z=l.set j (x,z)
 |[],l,i,h=>by
  cases l with
  |cons _ _=>simp at h
  |nil=>exact .inl ⟨by simp[Instr.findNow],rfl,λz=>rfl⟩
 |e::es,l,i,h=>by
  cases l with
  |nil=>simp at h
  |cons y r=>
   simp only[iN,bG,bE]at h;obtain⟨⟨h1,h2⟩,h3⟩:=h;have he:=heq x y.1;rw[←h1]at he
   cases hq:eqR k x y.1 with
   |true=>
    have e1:=nL.1 hq;refine .inr ⟨0,y.2,?_,?_,?_,λz=>?_⟩
    ·simp[Instr.findNow,he,hq,h2]
    ·rw[e1];rfl
    ·rw[xc,am hq]
    ·simp only[dq,hq,dA,ur]
   |false=>
    rcases Qz heq v x es r (i+1) h3 with⟨a1,a2,a3⟩|⟨j,z,a1,a2,a3,a4⟩
    ·refine .inl ⟨?_,?_,λz=>?_⟩
     ·simp[Instr.findNow,he,hq,a1]
     ·rw[xc,aj (by rw[hq];simp)];exact a2
     ·simp only[dq,hq,d4,pO,a3,uq]
    ·refine .inr ⟨j+1,z,?_,?_,?_,λu=>?_⟩
     ·simp[Instr.findNow,he,hq,a1];omega
     ·simpa using a2
     ·rw[xc,aj (by rw[hq];simp)];exact a3
     ·simp only[dq,hq,d4,pO,a4,C4]
theorem QM{k:T}(hu:P.underlying kty=some kd)(heq:∀(x y:k.den),Instr.sameNow kd (ca k x) (ca k y)=some (eqR k x y))(hc:∀(w:aQ)(e:bo)(x:k.den),(Instr.checkKey e 10000 kty (ca k x)).run P w=.ok () w)(hs:∀(x:k.den),Instr.sameBits 10000 (ca k x) (ca k x)=true):KeyR P kty k:=by
 refine⟨λw e x _=>hc w e x,λw v x _ es l _ h=>?_,hs⟩;rcases Qz heq v x es l 0 h with⟨a1,a2,a3⟩|⟨j,y,a1,a2,a3,a4⟩
 ·exact .inl ⟨by simp[Instr.findKey,cP hu,a1],a2,a3⟩
 ·exact .inr ⟨j,y,by simp[Instr.findKey,cP hu,a1],a2,a3,a4⟩
theorem ZV(n:Nat):∀vs:List Value,(∀v∈vs,∃q m,v=.int q m)->Instr.sameBits (n+2) (.agg vs.toArray) (.agg vs.toArray)=true:=by intro vs h;simp only[Instr.sameBits,ws,gB,gL];intro x hx;obtain⟨i,hi,rfl⟩:=jP hx;simp only[List.getElem_zip];obtain⟨q,m,hm⟩:=h (vs[i]'(by simp at hi;omega)) (zd _);simp[hm,Instr.sameBits]
theorem Jk:(k:T)->0<k.intsN->(x:k.den)->(gg k x).length=k.intsN/\∀v∈gg k x,∃q m,v=Value.int q m
 |.int k,_,x=>⟨rfl,λv hv=>⟨k,x,by simpa[gg]using hv⟩⟩
 |.p a b,h,x=>by
  cases a<;>simp only[T.intsN]at h<;>try omega
  rename_i k
  cases hn:b.intsN with
  |zero=>simp[hn]at h
  |succ m=>
   obtain⟨h1,h2⟩:=Jk b aa x.2;simp only[gg,T.intsN,hn,uq,o7,aX,h1];refine⟨trivial,λv hv=>?_⟩;rcases cz.1 hv with rfl|hv
   ·exact⟨_,_,rfl⟩
   ·exact h2 v hv
 |.bool,h,_|.str,h,_|.u,h,_|.sl _,h,_|.pt _,h,_|.fn _ _,h,_|.ifc _ _,h,_|.ib _ _,h,_|.mp _ _,h,_|.op _,h,_|.ns _,h,_|.er _,h,_|.any,h,_=>by simp[T.intsN]at h
theorem NO(w:aQ)(e:bo)(n:Nat):∀(fs:List Field)(pre vs:aM),nS P fs pre.length=true->fs.length=vs.length->(∀v∈vs,∃q m,v=Value.int q m)->
  (forIn fs () (λf (_:Unit)=>(do
   if f.name ≠ "_" then Instr.checkKey e (n + 1) f.type (← part f.type (pre ++ vs).toArray f.offset)
   pure (ForInStep.yield ()):Sem (ForInStep Unit)))).run P w=.ok () w
 |[],_,_,_,_,_=>ak
 |f::fs,pre,[],_,h,_=>by simp at h
 |f::fs,pre,v::vs,hf,hl,hi=>by
  obtain⟨q,m,rfl⟩:=hi v ak;simp only[nS]at hf
  cases hb : aO [neg (f.name == "_"), Nat.beq f.offset pre.length, pk (P.underlying f.type)] with
  |false=>rw[hb]at hf;cases hf
  |true=>
   rw[hb]at hf;simp only[cond_true]at hf;simp only[bH,bJ,Bool.and_true,Bool.and_eq_true,gu,Bool.not_eq_true']at hb;obtain⟨h1,h2,h3⟩:=hb;have h2:=Nat.eq_of_beq_eq_true h2;have h1 : f.name ≠ "_" := by simpa using h1
   cases hu:P.underlying f.type with
   |none=>rw[hu]at h3;cases h3
   |some u=>
    rw[hu]at h3;cases u<;>simp only[pk,d4]at h3;have hp:P.plainKey f.type=true:=by simp[Program.plainKey,hu]
    have p1:(part f.type (pre++.int q m::vs).toArray f.offset).run P w=.ok (.int q m) w:=run_part_plain w hp (by rw[h2];simp);have p2:(Instr.checkKey e (n+1) f.type (.int q m)).run P w=.ok () w:=by unfold Instr.checkKey;simp[cP hu]
    have ih:=NO w e n fs (pre++[.int q m]) vs (by simpa using hf) (by simpa using hl) (λv hv=>hi v (by simp[hv]));simp only[dk,List.singleton_append]at ih;simp only[List.forIn_cons,fW,h1,ne_eq,not_false_eq_true,dA,il,p1,p2,lD];exact ih
theorem Ra(hB:TabOk P B){k:T}(h:pc B kty k=true):KeyR P kty k:=by
 cases k with
 |int q=>
  simp only[pc]at h;split at h
  ·rename_i q' hq;simp only[bH,bJ,bC,ao]at h;obtain⟨h1,h2⟩:=h;have:=nI h2;subst this;have e:=hB.τ kty h1;rw[←e]at h1 hq;obtain⟨i,c,hi,hc⟩:=dn h1;rw[cV hi hc]at hq;simp only[d7]at hq;cases c<;>simp at hq;subst hq;refine QM hc (λx y=>?_) (λw e x=>?_) (λx=>?_)
   ·simp only[ca,isP,bc,gg,yZ,Instr.sameNow,dA,Tu]
   ·exact MapKept.run_checkKey hc (by simp[ca,isP,gg,MapKept.IsKey]) e 9999
   ·simp[ca,isP,gg,Instr.sameBits]
  ·cases h
 |str=>
  simp only[pc,bH,bJ,bC,ao]at h;obtain⟨h1,h2⟩:=h;have e:=hB.τ kty h1;rw[←e]at h1 h2;obtain⟨i,c,hi,hc⟩:=dn h1;rw[cV hi hc]at h2;simp only[d7]at h2;cases c<;>simp at h2;refine QM hc (λx y=>?_) (λw e x=>?_) (λx=>?_)
  ·simp only[ca,isP,bc,gg,yZ,Instr.sameNow,afj]
  ·exact MapKept.run_checkKey hc (by simp[ca,isP,gg,MapKept.IsKey]) e 9999
  ·simp[ca,isP,gg,Instr.sameBits,(MapKept.bytes_beq _ _).2]
 |p a b=>
  simp only[pc,aP,ao,dL,bN,gu,gU]at h;obtain⟨⟨hko,hka⟩,h1,h2⟩:=h;have hpos:0<(T.p a b).intsN:=by cases hn:(T.p a b).intsN with|zero=>rw[hn]at h1;simp[isZ]at h1|succ n=>omega
  have hz:isZ (B.q kty)=false:=by rw[←h2];exact h1
  have hq:=hB.q kty hz;unfold yD at hq;split at hq
  ·rename_i fs hu
   cases hall:aO [neg (P.stoodInHeld kty),neg (P.eqGuardType P.depth kty),nS P (toL fs) 0]with
   |false=>rw[hall]at hq;simp only[bc]at hq;rw[←hq]at hz;cases hz
   |true=>
    rw[hall]at hq;simp only[aD]at hq;simp only[bH,bJ,bC,ao,gu,gU]at hall;obtain⟨g1,g2,g3⟩:=hall;have hfs:P.fieldsOf kty=fs:=by simp[Program.fieldsOf,hu]
    have htl:toL fs=fs.toList:=by cases fs;rfl
    rw[htl]at g3 hq;rw[oX]at hq;have hfl:fs.toList.length=(T.p a b).intsN:=by rw[h2,←hq]
    have heq:∀(w:aQ)(x y:(T.p a b).den),(T.p a b).ok x->(T.p a b).ok y->(Op.equal kty (ca (.p a b) x) (ca (.p a b) y)).run P w=.ok (eqR (.p a b) x y) w:=λw x y hx hy=>by have hev:∀z:(T.p a b).den,ca (.p a b) z=.agg (gg (.p a b) z).toArray:=λz=>rfl;rw[hev,hev];obtain⟨n,hn⟩:∃n,(T.p a b).intsN=n+1:=⟨(T.p a b).intsN-1,aa⟩;have he:=Ph (.p a b) n hn x y;have r1:=ko (β:=λ_=>undef) (M:=[]) (Im:=λ_=>False) (w:=w) _ _ _ (Kn (.p a b) hpos x hx);have r2:=ko (β:=λ_=>undef) (M:=[]) (Im:=λ_=>False) (w:=w) _ _ _ (Kn (.p a b) hpos y hy);show (Op.equalIn (9999+1) kty _ _).run P w=_;rw[run_equalIn_struct w 9999 kty _ _ (by rw[hfs];exact hu) g1,hfs];have:=eqF w P (w0:=w) 9998 (n+1) _ _ _ _ _ [] [] fs.toList he r1 r2 g3 (by rw[hfl,hn]) rfl;simpa using this
    refine⟨λw e x hx=>?_,λw v x hx es l hl h=>?_,λx=>?_⟩
    ·obtain⟨c1,c2⟩:=Jk (.p a b) hpos x;show (Instr.checkKey e (9999+1) kty (.agg (gg (.p a b) x).toArray)).run P w=_;unfold Instr.checkKey;simp only[fW,cP hu,il];rw[←Array.forIn_toList];have:=NO (P:=P) w e 9998 fs.toList [] (gg (.p a b) x) g3 (by rw[hfl,c1]) c2;simp at this⊢;rw[this];rfl
    ·cases es with
     |nil=>
      rcases IH heq w v x hx [] l 0 hl h with⟨a1,a2,a3⟩|⟨j,y,a1,_⟩
      ·exact .inl ⟨by simp[Instr.findKey,cP hu,Instr.findNow],a2,a3⟩
      ·simp[Instr.findAsking]at a1
     |cons e0 es0=>
      have hs:Instr.findNow (.struct fs) (ca (.p a b) x) (e0::es0) 0=none:=by simp[Instr.findNow,Instr.sameNow]
      rcases IH heq w v x hx (e0::es0) l 0 hl h with⟨a1,a2,a3⟩|⟨j,y,a1,a2,a3,a4⟩
      ·exact .inl ⟨by simp[Instr.findKey,cP hu,hs,a1],a2,a3⟩
      ·exact .inr ⟨j,y,by simp[Instr.findKey,cP hu,hs,a1],a2,a3,a4⟩
    ·exact ZV 9998 _ (Jk (.p a b) hpos x).2
  ·rename_i n e hu;exfalso;have e1:=hB.τ kty hko;obtain⟨inf,u,hi,hu'⟩:=dn (P:=P) (t:=kty) (by rw[e1];exact hko);rw[hu]at hu';cases hu';rw[←e1,cV hi hu]at hka;simp[d7,isN]at hka
  ·rw[←hq]at hz;cases hz
 |bool|u|sl _|pt _|fn _ _|ifc _ _|ib _ _|mp _ _|op _|ns _|er _|any=>cases h
theorem Su(hB:TabOk P B)(hk:(B.τ t).ok=true)(h:(B.τ t).mp=some (kty,ety)):P.underlying t=some (.map kty ety)/\∀i cs,P.info? ety=some i->i.zero≠some (.agg cs):=by
 have e:=hB.τ t hk;rw[←e]at hk h;obtain⟨inf,c,hi,hc⟩:=dn hk;rw[cV hi hc]at h;simp only[d7]at h;cases c<;>simp only[reduceCtorEq]at h;rename_i k0 e0
 cases hie:P.info? e0 with
 |none=>simp[hie]at h
 |some ie=>
  simp only[hie]at h;split at h
  ·cases h
  ·rename_i z hz hna;cases h;refine⟨hc,λi cs hi2 hh=>?_⟩;rw[hie]at hi2;cases hi2;rw[hh]at hna;cases hna;exact hz cs rfl
  ·cases h
theorem ab6(hB:TabOk P B){v:T}(h:ku B ety v=true)(hz:∀i cs,P.info? ety=some i->i.zero≠some (.agg cs))(w:aQ):(zeroValue ety).run P w=.ok (ca v v.dflt) w:=by
 have key:B.z ety=true->(B.σ ety).beq v=true->(v=.bool\/∃q,v=.int q)->(zeroValue ety).run P w=.ok (ca v v.dflt) w:=by
  intro h1 h2 h3;obtain⟨i,z,e1,e2,e3⟩:=uY hB h1;have e4:=T.beq_eq h2;rw[e4]at e3;have hr:(zeroValue ety).run P w=.ok z w:=by simp[zeroValue,typeInfo,e1,e2]
  have hc:z.cells=#[z]:=by cases z<;>first|rfl|exact absurd e2 (hz i _ e1)
  rw[hc]at e3;rw[hr];rcases h3 with rfl|⟨q,rfl⟩
  ·cases z<;>simp[dO]at e3;subst e3;rfl
  ·cases z<;>try (simp[dO]at e3;done)
   rename_i k' n
   cases n with
   |negSucc n=>cases e3
   |ofNat n=>
    cases n with
    |zero=>have:=nI (show jp q k'=true from e3);subst this;rfl
    |succ n=>cases e3
 cases v<;>simp only[ku,d4]at h
 ·simp only[bH,bJ,bC,ao]at h;exact key h.2.1 h.2.2 (.inr ⟨_,rfl⟩)
 ·simp only[bH,bJ,bC,ao]at h;exact key h.2.1 h.2.2 (.inl rfl)
theorem Sv{v:T}(h:ku B ety v=true){x:v.den}(hx:v.ok x):ai Im w v x [ca v x]:=by
 cases v<;>simp only[ku,d4]at h
 ·simp only[ca,isP,bc,gg,yZ,ai];exact⟨trivial,hx⟩
 ·simp only[ca,isP,bc,gg,yZ,ai]
theorem aeq{v:T}(h:ku B ety v=true){x:v.den}(r:ai Im w v x vs):vs=[ca v x]:=by
 cases v<;>simp only[ku,d4]at h
 ·simp only[ai]at r;rw[r.1];rfl
 ·simp only[ai]at r;rw[r];rfl
theorem O8{k:T}(h:pc B kty k=true):0<k.intsN\/k=.str:=by
 cases k<;>simp only[pc,d4]at h
 ·exact .inl (by simp[T.intsN])
 ·exact .inr rfl
 ·rename_i a b;simp only[aP,ao,gu,gU]at h;refine .inl ?_
  cases hn:(T.p a b).intsN with
  |zero=>rw[hn]at h;simp[isZ]at h
  |succ n=>omega
theorem Ro{i:V}{k:T}{y:k.den}(hi:ae β M Im w i iu)(hg:pp i k=true)(hk:0<k.intsN\/k=.str)(ha:i.cells.as k=some y):iu=ca k y/\k.ok y:=by
 cases i with
 |ag v=>
  simp only[ae]at hi;obtain⟨vs,rfl,hc⟩:=hi;have r:=mW v k vs y hc ha;cases k<;>simp only[pp,d4]at hg;rename_i a b;rcases hk with hk|hk
  ·exact⟨by rw[QR _ hk y vs r];rfl,ai.ok _ _ _ r⟩
  ·cases hk
 |d t0 x0=>
  rw[bp]at hi;simp only[V.cells,V.as]at ha;have r:=x8 ha hi;refine⟨?_,ai.ok _ _ _ r⟩;cases k<;>simp only[T.intsN,oA,reduceCtorEq,or_self]at hk
  ·simp only[ai,bG,az]at r;exact r.1
  ·simp only[ai,bG,az]at r;exact r.1
  ·simp[pp]at hg
 |nl|np|u=>cases k<;>simp[V.cells,V.as,T.intsN]at ha hk
 |any|ref _ _|ad _ _|tup _|gd _ _ _ _=>simp[V.cells,V.as]at ha
 |ifc _ _=>cases k<;>first|(simp[pp]at hg;done)|(simp[V.cells,V.as,T.intsN]at ha hk)
 |p a b=>cases k<;>first|(simp[pp]at hg;done)|(simp[V.cells,V.as]at ha)
 |fn _ _|bx _=>cases k<;>first|(simp[pp]at hg;done)|(simp[V.cells,V.as,T.intsN]at ha hk)
theorem aen{i:V}{v:T}{y:v.den}(hi:ae β M Im w i iu)(hg:neg (gG i)=true)(hk:ku B ety v=true)(ha:i.cells.as v=some y):iu=ca v y/\v.ok y:=by
 cases i with
 |d t0 x0=>rw[bp]at hi;simp only[V.cells,V.as]at ha;have r:=x8 ha hi;refine⟨?_,ai.ok _ _ _ r⟩;have:=aeq hk r;simpa using this
 |ag v=>simp[gG]at hg
 |nl|np|u=>cases v<;>simp[V.cells,V.as,ku]at ha hk
 |any|ref _ _|ad _ _|tup _|gd _ _ _ _=>simp[V.cells,V.as]at ha
 |ifc _ _|p a b|fn _ _|bx _=>cases v<;>simp[V.cells,V.as,ku]at ha hk
theorem ad7(hp:Hp F p M w){x:V}(hx:ae p.β M (Imm F p M w) w x u){q:Mp}(h:LH M x=some q):∃r es n,u=.map (some r)/\w.heap[r]? = some (.map es n)/\(T.mp q.k q.v).ok q.l/\ni q.k q.v es q.l:=by
 unfold LH at h;split at h
 ·cases h;simp only[bp,ai,bG,az]at hx;obtain⟨r,es,n,h1,_,h3,h4⟩:=hx;exact⟨r,es,n,h1,h3,h4⟩
 ·rename_i r π;simp only[ae,ac]at hx;split at h
  ·rename_i k v l hg;cases h;obtain⟨S,hr⟩:=hx.look hp hg;simp only[Rel,bG,az]at hr;obtain⟨r,es,n,h1,_,h3,h4⟩:=hr;exact⟨r,es,n,h1,h3,h4⟩
  ·rename_i k v l hg;cases h;obtain⟨S,hr⟩:=hx.look hp hg;simp only[Rel,ai,bG,az]at hr;obtain⟨r,es,n,h1,_,h3,h4⟩:=hr;exact⟨r,es,n,h1,h3,h4⟩
  ·cases h
 ·cases h
theorem ac6{v:T}(hk:ku B ety v=true):v.ok v.dflt:=by
 cases v<;>simp only[ku,d4]at hk
 ·rename_i q;simp only[T.ok,T.dflt];cases q<;>exact⟨aH,aH⟩
 ·trivial
theorem v_(hB:TabOk P B)(hp:Hp F p M w)(x i:V)(u iu:bw)(ok:bo)(hx:ae p.β M (Imm F p M w) w x u)(hi:ae p.β M (Imm F p M w) w i iu)(hv:ab (EW B t M x i ok).1):
  ∃r,(Instr.lookup t u iu ok).run P w=.ok r w/\ae p.β M (Imm F p M w) w (EW B t M x i ok).2 r:=by
 unfold EW at hv⊢;split at hv
 ·rename_i kty ety k v l hmp hmo
  cases hk:aO [(B.τ t).ok,pc B kty k,ku B ety v,pp i k]with
  |false=>rw[hk]at hv;exact hv.1.elim
  |true=>
   simp only[hk,aD]at hv⊢;simp only[bH,bJ,bC,ao]at hk;obtain⟨k1,k2,k3,k4⟩:=hk;split at hv
   ·rename_i y hy;obtain⟨hu,hz⟩:=Su hB k1 hmp;have K:=Ra hB k2;obtain⟨r,es,n,rfl,hb,hl,he⟩:=ad7 hp hx hmo;simp only at hl he;obtain⟨rfl,hky⟩:=Ro hi k4 (O8 k2) hy;simp only[T.ok]at hl;have hc:=K.check w es.isEmpty y hky
    have fin:∀(z:v.den)(b:bo),v.ok z->(Instr.lookup t (.map (some r)) (ca k y) ok).run P w=.ok (if ok then .tuple #[ca v z,.bool b]else ca v z) w->vw k v l y=z->BE k v l y=b->
      ∃r',(Instr.lookup t (.map (some r)) (ca k y) ok).run P w=.ok r' w/\ae p.β M (Imm F p M w) w (bB (bif ok then .tup (.p (.d v (vw k v l y)) (.p (.d .bool (BE k v l y)) .u))else .d v (vw k v l y))).2 r':=by
     intro z b hz' hr h1 h2;refine⟨_,hr,?_⟩;rw[h1,h2]
     cases ok with
     |true=>
      simp only[bB,aD,dA,ae,cD];refine⟨[ca v z,.bool b],rfl,_,_,rfl,?_,_,_,rfl,?_,rfl⟩
      ·exact bp.2 (Sv k3 hz')
      ·exact bp.2 (by simp only[ai])
     |false=>simp only[bB,bc,d4,pO];rw[bp];exact Sv k3 hz'
    rcases K.find w v y hky es.toList l (λz hz=>(hl.2 z hz).1) he with⟨a1,a2,_⟩|⟨j,z,a1,a2,a3,_⟩
    ·refine fin v.dflt false (ac6 k3) ?_ (by simp[vw,a2]) (by simp[BE,a2]);have h0:=ab6 hB k3 hz w;cases ok<;>simp[Instr.lookup,cP hu,za hb,hc,a1,h0]
    ·refine fin z true (hl.2 _ (ul a2)).2 ?_ (by simp[vw,a3]) (by simp[BE,a3]);cases ok<;>simp[Instr.lookup,cP hu,za hb,hc,a1]
   ·exact hv.1.elim
 ·exact hv.1.elim
theorem Zo(hB:TabOk P B)(h:Hp F p M w)(hL:∀b,¬p.L b)(dst:eP)(hv:ab (Et B t dst M).vc)(qt:bo):
  ∃v w',(Instr.makeMap t none).run P w=.ok v w'/\cd F p M w qt (Et B t dst M) v w':=by
 unfold Et at hv⊢;split at hv
 ·rename_i kty ety d hmp
  cases hk:aO [(B.τ t).ok]with
  |false=>rw[hk]at hv;exact hv.1.elim
  |true=>
   simp only[hk,aD]at hv⊢;have hg:=Ext.of_grown (zc w (.map #[] 0) none) (bd _);have hnew:(w.alloc (.map #[] 0)).heap[w.heap.size]? = some (.map #[] 0):=rY w _;have hsz:w.heap.size<(w.alloc (.map #[] 0)).heap.size:=(cN.1 hnew).1;obtain⟨d1,d2⟩:=Hp.del h d;have tn:=Tr.new d1 d (eJ d _) (.map (some w.heap.size)) (λb=>b=w.heap.size) ⟨.mp (B.σ kty) (B.σ ety),[]⟩ (hg.toL p.L) (λb hb=>.inl (by rw[hb];exact⟨bd _,hsz⟩)) (λ_=>by simp only[Rel];exact⟨_,_,_,rfl,rfl,hnew,⟨fV _,λy hy=>by cases hy⟩,rfl⟩);refine⟨.map (some w.heap.size),w.alloc (.map #[] 0),by simp[Instr.makeMap],_,(Tr.kl h d).trans tn,λb hb=>hb,?_,?_⟩
   ·simp only[ae,ac];exact⟨_,none,mG _ _ _,by simp only[gok],⟨_,by simp only[get];rfl⟩,by rw[uT];simp only[res]⟩
   ·exactλhf _=>KA (Ee hf).1 hg
 ·exact hv.1.elim
theorem D'{k v:T}{l:List (k.den×v.den)}(he:ni k v es l)(x:k.den)(z:v.den)(n:Nat):ni k v (es.push ⟨ca k x,ca v z,n⟩) (l++[(x,z)]):=by unfold ni at he⊢;simp only[Array.toList_push,mr,he,iN,vX]
theorem Zf{k v:T}{l:List (k.den×v.den)}(he:ni k v es l)(j:Nat)(x:k.den)(z:v.den):ni k v (es.modify j λe=>{ e with key:=ca k x,val:=ca v z }) (l.set j (x,z)):=by
 unfold ni at he⊢;apply mo;intro i;have hi:=congrArg (λL=>L[i]?) he;simp only[gJ,zb]at hi⊢;rw[Array.getElem?_modify,o9];have hlen:es.size=l.length:=by have:=congrArg List.length he;simpa using this
 by_cases e:j=i
 ·subst e;simp only[dA];by_cases hj:j<l.length
  ·rw[am hj,sb aa];simp
  ·rw[aj hj,Array.getElem?_eq_none aa];rfl
 ·rw[aj e,aj e];exact hi
theorem YE{k v:T}{r:Nat}{l:List (k.den×v.den)}(hu:P.underlying t=some (.map kty ety))(K:KeyR P kty k)(hb:w.heap[r]? = some (.map es n))(hl:∀y∈l,k.ok y.1)(he:ni k v es l){y:k.den}(hy:k.ok y)(z:v.den):
  ∃es' n',(Instr.mapUpdate t (.map (some r)) (ca k y) (ca v z)).run P w=.ok () { w with heap:=w.heap.setIfInBounds r (.map es' n') }/\ni k v es' (dq k v l y z):=by
 have hc:=K.check w false y hy;rcases K.find w v y hy es.toList l hl he with⟨a1,a2,a3⟩|⟨j,u,a1,a2,a3,a4⟩
 ·refine⟨_,n+1,?_,by rw[a3];exact D' he y z n⟩;simp only[Instr.mapUpdate,fW,cP hu,il,za hb,hc,a1];rw[MapKept.run_setObj_map _ hb]
 ·refine⟨_,n,?_,by rw[a4];exact Zf he j y z⟩
  have hkey:∃e,es[j]? = some e/\e.key=ca k y:=by
   have hi:=congrArg (λL=>L[j]?) he;simp only[gJ,zb,a2,fq]at hi
   cases hj:es[j]? with
   |none=>rw[hj]at hi;cases hi
   |some e=>rw[hj]at hi;simp only[fq,aI,bE]at hi;exact⟨e,rfl,hi.1⟩
  obtain⟨e,e1,e2⟩:=hkey;have hst:(Instr.keyThatStays (ca k y) (ca k y)).run P w=.ok (ca k y) w:=by simp[Instr.keyThatStays,K.same]
  simp only[Instr.mapUpdate,fW,cP hu,il,za hb,hc,a1,e1,fq,gA,e2,hst];rw[MapKept.run_setObj_map _ hb]
theorem EL{k v:T}{l:List (k.den×v.den)}{x:k.den}{z:v.den}:∀{l:List (k.den×v.den)},(dq k v l x z).length<=l.length+1/\∀y∈dq k v l x z,y∈l\/y=(x,z)
 |[]=>by simp[dq]
 |e::r=>by
  have ih:=@EL k v l x z r;simp only[dq];split
  ·simp only[aX];refine⟨aa,λy hy=>?_⟩;rcases cz.1 hy with h|h
   ·exact .inr h
   ·exact .inl (by simp[h])
  ·simp only[aX];refine⟨aa,λy hy=>?_⟩;rcases cz.1 hy with h|h
   ·exact .inl (by simp[h])
   ·rcases ih.2 y h with h|h
    ·exact .inl (by simp[h])
    ·exact .inr h
theorem Zp(hB:TabOk P B)(h:Hp F p M w)(hL:∀b,¬p.L b)(m i x:V)(u iu xu:bw)(hm:ae p.β M (Imm F p M w) w m u)(hi:ae p.β M (Imm F p M w) w i iu)(hx:ae p.β M (Imm F p M w) w x xu)(hv:ab (E7 B t m i x M).vc):
  ∃w',(Instr.mapUpdate t u iu xu).run P w=.ok () w'/\cd F p M w false (E7 B t m i x M) undef w':=by
 unfold E7 at hv⊢;split at hv
 ·rename_i kty ety r π hmp;split at hv
  ·rename_i ob hob;split at hv
   ·rename_i k v l hq
    cases hk:aO [(B.τ t).ok,pc B kty k,ku B ety v,pp i k,neg (gG x)]with
    |false=>rw[hk]at hv;exact hv.1.elim
    |true=>
     simp only[hk,aD]at hv⊢;simp only[bH,bJ,bC,ao]at hk;obtain⟨k1,k2,k3,k4,k5⟩:=hk;split at hv
     ·rename_i y z hy hz;split at hv
      ·rename_i ob' hset;split at hv
       ·rename_i x' hcast;simp only[dX,fx,az]at hv;have hob':=qD hcast;obtain⟨hu,_⟩:=Su hB k1 hmp;have K:=Ra hB k2;simp only[ae,ac]at hm;obtain⟨ob1,pl,q1,q2,q3,q4⟩:=hm;rw[hob]at q1;cases q1;obtain⟨us,pl',S',e1,e2,e3,e4,e5,e6⟩:=look h hob q2 hq;rw[e1]at q4;simp only[aI,bE]at q4;obtain⟨rfl,rfl⟩:=q4;simp only[Rel,bG,az]at e3;obtain⟨rr,es,n,rfl,hSr,hb,hl,he⟩:=e3;obtain⟨rfl,hky⟩:=Ro hi k4 (O8 k2) hy;obtain⟨rfl,hzv⟩:=aen hx k5 k3 hz;simp only[T.ok]at hl;obtain⟨es',n',hrun,he'⟩:=YE hu K hb (λa ha=>(hl.2 a ha).1) he hky z;refine⟨_,hrun,?_⟩;generalize hw':({ w with heap:=w.heap.setIfInBounds rr (.map es' n') }:World)=w';have hsz:w'.heap.size=w.heap.size:=by subst hw';simp
        have hold:∀c,c≠rr->w'.heap[c]? = w.heap[c]?:=λc hc=>by subst hw';simp[Array.getElem?_setIfInBounds,cM hc]
        have hnew:w'.heap[rr]? = some (.map es' n'):=by have:=(cN.1 hb).1;subst hw';simp[Array.getElem?_setIfInBounds,this]
        have hlen:=(@EL k v l y z l).1;have hroom:l.length+1<=nb:=by simpa[bg]using hv
        have hok:(T.mp k v).ok (dq k v l y z):=by
         simp only[T.ok];refine⟨aa,λa ha=>?_⟩;rcases (@EL k v l y z l).2 a ha with h1|h1
         ·exact hl.2 a h1
         ·subst h1;exact⟨hky,hzv⟩
        have hlr:=bP hob;have hrrσ:p.σ r rr:=e2 rr hSr
        have hout:dY π ob.o [p.β r] [.map (some rr)]=[p.β r]:=by
         cases hh:bV π with
         |true=>exact mH π _ _ _ hh
         |false=>
          obtain⟨m,g1,g2,g3,g4,g5⟩:=e5 hh;rw[g5 _ rfl];refine qB (λj u hu=>?_);rw[g3,fE]at hu;split at hu
          ·rw[gn]at hu;exact hu
          ·cases hu
        let S2:Nat->Prop:=λc=>(p.σ r c/\¬S' c)\/S' c
        have hS2:∀c,S2 c->p.σ r c:=λc hc=>hc.elim (λh=>h.1) (e2 c);let Im':Nat->Prop:=λb=>b<w'.heap.size/\(Imm F p M w b\/p.σ r b\/w.heap.size<=b)/\¬S2 b/\¬False
        have hkeep:cE (Imm F p M w) Im' w w':=λb hb'=>by have hns:¬p.σ r b:=hb'.2.2.2 r hlr;exact⟨⟨by rw[hsz];exact hb'.1,.inl hb',λhc=>hns (hS2 b hc),λh=>h⟩,hold b (λe=>hns (e▸hrrσ))⟩
        have hwd:=e6 Im' w' ⟨.mp k v,dq k v l y z⟩ S' [.map (some rr)] ob' hset rfl (by
         simp only[Rel];exact⟨rr,es',n',rfl,hSr,hnew,hok,he'⟩) hkeep (λc hc _=>hc)
         (λhh b off hp cur ty' hbb=>by obtain⟨b0,off0,cur0,ty0,g1,g2,g3,g4,g5⟩:=e4 hh;rw[g1]at hp;cases hp;rw[g4]at hbb;cases hbb;rw[hold b (λe=>g3 (e▸hSr)),g4,qB (by simpa using g5)])
         (λc hc hn _=>hold c (λe=>hn (e▸hSr)))
        rw[hout,hob']at hwd;obtain⟨p',t1,t2,_⟩:=P3 (w':=w') (A:=Imm F p M w) (S':=S2) (R:=λ_=>False) h hL (k:=r) (o:=ob.o) (x:=ob.x) (x':=x') hob (λb hb=>hb) ⟨by subst hw';rfl,by subst hw';exact⟨rfl,bd _⟩,by subst hw';rfl,by rw[hsz];exact bd _,λb _ hns=>hold b (λe=>hns (e▸hrrσ))⟩ (λb hb=>hb.elim) (λb hb=>⟨.inl (hS2 b hb),λh=>h⟩) hwd.2;exact⟨p',t1,λb hb=>(t2 b).1 hb,by simp only[ae],λ_ hq=>by cases hq⟩
       ·exact hv.1.elim
      ·exact hv.1.elim
     ·exact hv.1.elim
   ·exact hv.1.elim
  ·exact hv.1.elim
 ·exact hv.1.elim
theorem Rr:∀{l:List Mth} {t i:bF},ua P l=true->BY l t i=true->∃inf,P.info? t=some inf/\LA P inf.methods (P.underlying i)=true
 |[],_,_,_,h=>by cases h
 |e::r,t,i,ha,h=>by
  simp only[ua,aP,ao]at ha;simp only[BY,eX,aP,e9,ao]at h;rcases h with⟨h1,h2⟩|h
  ·have e1:e.t=t:=cR h1;have e2:e.i=i:=cR h2;subst e1;subst e2;have hm:=ha.1;unfold Lm at hm;split at hm
   ·rename_i inf hi;simp only[bH,bJ,bC,ao]at hm;exact⟨inf,hi,hm.2.1⟩
   ·cases hm
  ·exact Rr ha.2 h
theorem PC:∀{l:List Mth} {t:bF} {n:String} {f:fL},ua P l=true->BC l t n=some f->∃inf,P.info? t=some inf/\Kd (P.underlying t)=true/\isM f (inf.methods.find? (·.name==n))=true
 |[],_,_,_,_,h=>by cases h
 |e::r,t,n,f,ha,h=>by
  simp only[ua,aP,ao]at ha;unfold BC at h
  cases hc:nob (Nat.beq e.t t) (e.name==n)with
  |true=>
   rw[hc]at h;cases h;simp only[aP,ao]at hc;have e1:e.t=t:=cR hc.1;have e2:e.name=n:=by simpa using hc.2
   subst e1;subst e2;have hm:=ha.1;unfold Lm at hm;split at hm
   ·rename_i inf hi;simp only[bH,bJ,bC,ao]at hm;exact⟨inf,hi,hm.1,hm.2.2⟩
   ·cases hm
  |false=>rw[hc]at h;exact PC ha.2 h
theorem ZM{n:String}(ha:ua P l=true)(h:BC l t n=some f)(k:Nat)(v:bw):(method (k+1) t v n).run P w=.ok (f,v) w:=by
 obtain⟨inf,h1,h2,h3⟩:=PC ha h;unfold isM at h3;split at h3
 ·rename_i m hm;split at h3
  ·rename_i g b hp hf;simp only[aP,ao,gu,gU]at h3;have e:f=g:=cR h3.1;subst e
   cases hu:P.underlying t with
   |none=>rw[hu]at h2;cases h2
   |some d=>
    rw[hu]at h2;have hpe:m.path.toList=[]:=by rw[←cK];exact hp
    cases d<;>simp only[Kd,d4]at h2
    all_goals simp[method,run_typeInfo w h1,hm,hpe,follow,hf,h3.2,receiverAt,cP hu,Place.get]
  ·cases h3
 ·cases h3
theorem Sq{x:V}(hx:ae β M Im w x u)(h:inI x=some (t,v)):∃y,u=.iface t y/\ae β M Im w v y:=by
 unfold inI at h;split at h
 ·cases h;simp only[ae,ac]at hx;obtain⟨y,h1,h2⟩:=hx;exact⟨y,by simpa using h1,my h2⟩
 ·cases h;rw[bp]at hx;simp only[ai]at hx;obtain⟨y,h1,h2⟩:=hx;exact⟨y,by simpa using h1,my (ko _ _ _ h2)⟩
 ·cases h;rw[bp]at hx;simp only[ai]at hx;obtain⟨us,h1,h2⟩:=hx;exact⟨.agg us.toArray,by simpa using h1,by simp only[ae];exact⟨us,rfl,ko _ _ _ h2⟩⟩
 ·cases h
theorem Z'(hB:TabOk P B)(hp:Hp F p M w)(x:V)(u:bw)(hx:ae p.β M (Imm F p M w) w x u)(hv:ab (FH B t M x).1):
  ∃r,(Instr.makeInterface t u).run P w=.ok r w/\ae p.β M (Imm F p M w) w (FH B t M x).2 r:=by
 unfold FH at hv⊢;split at hv
 ·rename_i s
  cases hk:aO [(B.τ t).ok,(B.τ t).agg]with
  |false=>rw[hk]at hv;exact hv.1.elim
  |true=>
  simp only[aD];simp only[bH,bJ,bC,ao]at hk;obtain⟨k1,k2⟩:=hk;have hty:=hB.τ t k1
  have hc:P.concrete t=true:=by
   unfold ty at hty;split at hty
   ·rename_i i d h1 h2;unfold Program.concrete;rw[h2];cases d<;>first|rfl|(rw[←hty]at k2;simp[d7]at k2)
   ·rw[←hty]at k1;cases k1
  simp only[ae]at hx;obtain⟨vs,rfl,r⟩:=hx;simp only[ac,ai]at r;obtain⟨rfl,_⟩:=r;exact⟨_,run_makeInterface w t _ hc,by simp only[bB];rw[bp];simp only[ai];exact .inr ⟨s,trivial,rfl⟩⟩
 ·rename_i T y hne
  cases hk:aO [(B.τ t).ok,(B.τ t).agg]with
  |false=>rw[hk]at hv;exact hv.1.elim
  |true=>
  simp only[aD];simp only[bH,bJ,bC,ao]at hk;obtain⟨k1,k2⟩:=hk;have hty:=hB.τ t k1
  have hc:P.concrete t=true:=by
   unfold ty at hty;split at hty
   ·rename_i i d h1 h2;unfold Program.concrete;rw[h2];cases d<;>first|rfl|(rw[←hty]at k2;simp[d7]at k2)
   ·rw[←hty]at k1;cases k1
  simp only[ae]at hx;obtain⟨vs,rfl,r⟩:=hx;simp only[ac]at r;exact⟨_,run_makeInterface w t _ hc,by simp only[bB];rw[bp];simp only[ai];exact⟨vs,rfl,r⟩⟩
 ·rename_i hne hne2
  cases hk:aO [(B.τ t).ok,neg (isN (B.τ t).el),neg (gG x),eK M x 1]with
  |false=>rw[hk]at hv;exact hv.1.elim
  |true=>
   simp only[aD];simp only[bH,bJ,bC,ao]at hk;obtain⟨k1,k2,k3,k4⟩:=hk;have hty:=hB.τ t k1
   have hc:P.concrete t=true:=by
    unfold ty at hty;split at hty
    ·rename_i i d h1 h2;unfold Program.concrete;rw[h2];cases d<;>first|rfl|(rw[←hty]at k2;simp[d7,isN]at k2)
    ·rw[←hty]at k1;cases k1
   refine⟨.iface t u,run_makeInterface w t u hc,?_⟩;have k3':gG x=false:=by simpa using k3
   have hcx:x.cells=x:=by cases x<;>first|rfl|(simp[gG]at k3')
   have hcc:fP x=true:=Ax (M:=M) (n:=1) (by rw[hcx];exact mF k4);obtain⟨vs,_,a2,a3⟩:=AB hp hx hcc;rw[a2 k3',hcx]at a3;simp only[bB,ae,ac];exact⟨u,rfl,a3⟩
theorem aav(hB:TabOk P B){i xt:bF}(ok:bo)(x:V)(u:bw)(hx:ae β M Im w x u)(hv:ab (FN B i ok x).1):
  ∃r,(Instr.typeAssert u xt i ok).run P w=.ok r w/\ae β M Im w (FN B i ok x).2 r:=by
 unfold FN at hv⊢;split at hv
 ·rename_i t v hin;obtain⟨y,rfl,hy⟩:=Sq hx hin
  cases hm:BY B.m t i with
  |false=>rw[hm]at hv;exact hv.1.elim
  |true=>
   simp only[aD];obtain⟨inf,h1,h2⟩:=Rr hB.m hm
   cases hu:P.underlying i with
   |none=>rw[hu]at h2;cases h2
   |some d=>
    rw[hu]at h2;cases d<;>simp only[LA,d4]at h2;rename_i want
    have hn:Instr.missingMethod want inf.methods=none:=by
     cases hq:Instr.missingMethod want inf.methods with
     |none=>rfl
     |some _=>rw[hq]at h2;cases h2
    cases ok with
    |true=>refine⟨.tuple #[.iface t y,.bool true],by simp[Instr.typeAssert,cP hu,run_typeInfo w h1,hn],?_⟩;simp only[bB,aD,ae,cD];exact⟨_,rfl,_,_,rfl,hx,_,_,rfl,bp.2 (by simp only[ai]),rfl⟩
    |false=>exact⟨.iface t y,by simp[Instr.typeAssert,cP hu,run_typeInfo w h1,hn],by simpa only [bB,bc]using hx⟩
 ·exact hv.1.elim
theorem ES{v:bw}(h:(execOp a.eval o).run P w=.ok (.value v) w')(hk:K (a.put o.dst v) w'):o.wp P a w K Q:=by unfold Oper.wp;rw[h];exact hk
theorem PI(h:(execOp a.eval o).run P w=.ok .skip w')(hk:K (a.put o.dst undef) w'):o.wp P a w K Q:=by unfold Oper.wp;rw[h];exact hk
theorem h_{t:T}{l:List t.den}{cap lo hi:Nat}(h:ai Im w (.sl t) l [.slice oa l.length cap])(h1:lo<=hi)(h2:hi<=l.length):
  ai Im w (.sl t) ((l.take hi).drop lo) [sliced oa lo hi cap t.size]:=by
 have hlen:((l.take hi).drop lo).length=hi-lo:=by rw[jw,dW];omega
 simp only[ai,bG,az,Value.slice.injEq]at h⊢;obtain⟨oa',cap',⟨rfl,_,rfl⟩,⟨g1,g2⟩,g3,g4⟩:=h;refine⟨if cap=lo then oa else oa.map (·.add (lo*t.size)),cap-lo,by simp only[sliced,hlen],⟨aa,aa⟩,λhn=>?_,λad had hpos=>?_⟩
 ·have:oa=none:=by
   split at hn
   ·exact hn
   ·cases oa with
    |none=>rfl
    |some _=>cases hn
  obtain⟨e1,e2⟩:=g3 this;omega
 ·have hne:cap≠lo:=aa
  rw[aj hne]at had
  cases oa with
  |none=>cases had
  |some ad0=>
   simp only[fq,aI]at had;obtain⟨k1,k2,k3⟩:=g4 ad0 rfl aa;obtain⟨b,o,s⟩:=ad0;simp only at k1 k2 k3;subst k1;rw[rX]at had;subst had;refine⟨rfl,k2,λi x hx=>?_⟩;rw[gn,fE]at hx;split at hx
   ·obtain⟨us,u1,u2⟩:=k3 (lo+i) x hx;refine⟨us,?_,u2⟩;rw[lB,←rV]at u1;exact u1
   ·cases hx
theorem tn1{n:Int}(h:n<=m):n.toNat<=m:=aa
theorem tn2{a b:Int}(h:a<=b):a.toNat<=b.toNat:=aa
theorem RS(hB:TabOk P B){lo0 hi0:pK}(x:V)(f:dI)(hx:ae p.β M (Imm F p M w) w x (a.eval x0))(hlo:∀y,lo0=some y->ae p.β M (Imm F p M w) w (f y) (a.eval y))(hhi:∀y,hi0=some y->ae p.β M (Imm F p M w) w (f y) (a.eval y))(hv:ab (BU B (B.τ t) x (iy f lo0) (iy f hi0)).1):∃r,(Instr.sliceAt t (a.eval x0) (lo0.map a.eval) (hi0.map a.eval) none).run P w=.ok r w/\ae p.β M (Imm F p M w) w (BU B (B.τ t) x (iy f lo0) (iy f hi0)).2 r:=by
 unfold BU at hv⊢;split at hv
 ·rename_i te l e he;have hk:=ed hv;simp only[hk,aD]at hv⊢;simp only[bH,bJ,bC,ao,dL,bN]at hk;obtain⟨k1,k2,k3⟩:=hk;have eτ:=hB.τ t k1;have eτ':=hB.τ e k2;rw[←eτ]at k1 he;rw[←eτ']at k2 k3;obtain⟨inf,u,hi,hu⟩:=dn k1;obtain⟨infe,ue,hie,hue⟩:=dn k2;rw[cV hi hu]at he;rw[cV hie hue]at k3;simp only[d7]at he k3;cases u<;>simp at he;obtain rfl:=he.symm;rw[bp]at hx;have hx0:=hx;simp only[ai,bG,az]at hx;obtain⟨oa,cap,hsl,⟨hn,hcap⟩,_⟩:=hx;rw[hsl]at hx0;have hel:P.elem t=e:=by simp[Program.elem,hu]
  have hu':P.underlying t=some (.slice (P.elem t)):=by rw[hel];exact hu
  have hsz:(sizeOf (P.elem t)).run P w=.ok infe.size w:=by rw[hel];simp[sizeOf,typeInfo,hie]
  have fin:∀(lo hi:Nat)(lv hv:Option Value),lo<=hi->hi<=l.length->(Instr.slice t (.slice oa l.length cap) lv hv none).run P w=((sizeOf (P.elem t)).run P w).andThen (λs w=>.ok (sliced oa lo hi cap s) w)->∀z,z=(l.take hi).drop lo->
    ∃r,(Instr.sliceAt t (a.eval x0) lv hv none).run P w=.ok r w/\ae p.β M (Imm F p M w) w (.d (.sl te) z) r:=λlo hi lv hv h1 h2 hrun z hz=>by
   refine⟨sliced oa lo hi cap infe.size,?_,?_⟩
   ·rw[run_sliceAt_slice w t _ _ _ _ hu',hsl,hrun,hsz];rfl
   ·rw[bp,hz,←k3];exact h_ hx0 h1 h2
  cases lo0 with
  |none=>
   cases hi0 with
   |none=>exact fin 0 l.length none none (fV _) (bd _) (run_slice_all w t oa l.length cap hu') l ak
   |some yh=>
    have h2:=hhi yh rfl;simp only[iy]at hv⊢;split at hv
    ·rename_i heq;cases heq
    ·rename_i heq;cases heq
    ·rename_i kb b e1 e2;simp only[aI]at e2;rw[e2,bp,dR]at h2;simp only[dX,fx,az]at hv;simp only[e2];have hb2:(b:Int)<=(l.length:Int):=hv.2;refine fin 0 b.toNat none (some (a.eval yh)) (fV _) ?_ (by rw[h2.1];exact run_slice_h w t oa l.length cap hu' kb b hv.1 (wv hb2 (Int.ofNat_le.2 hcap))) _ ak;exact tn1 hb2
    ·rename_i heq _;cases heq
    ·exact hv.1.elim
  |some yl=>
   have h1:=hlo yl rfl
   cases hi0 with
   |none=>
    simp only[iy]at hv⊢;split at hv
    ·rename_i heq _;cases heq
    ·rename_i ka b e1 e2;simp only[aI]at e1;rw[e1,bp,dR]at h1;simp only[dX,fx,az]at hv;simp only[e1];have hb2:(b:Int)<=(l.length:Int):=hv.2;refine fin b.toNat l.length (some (a.eval yl)) none ?_ (bd _) (by rw[h1.1];exact run_slice_l w t oa l.length cap hu' ka b hv.1 hb2) _ ak;exact tn1 hb2
    ·rename_i heq _;cases heq
    ·rename_i heq;cases heq
    ·exact hv.1.elim
   |some yh=>
    have h2:=hhi yh rfl;simp only[iy]at hv⊢;split at hv
    ·rename_i heq _;cases heq
    ·rename_i heq;cases heq
    ·rename_i heq _;cases heq
    ·rename_i ka b kb c e1 e2;simp only[aI]at e1 e2;rw[e1,bp,dR]at h1;rw[e2,bp,dR]at h2;simp only[dX,fx,az]at hv;simp only[e1,e2];obtain⟨v1,v2,v3⟩:=hv;have hb2:(b:Int)<=c:=v2;have hb3:(c:Int)<=(l.length:Int):=v3;refine fin b.toNat c.toNat (some (a.eval yl)) (some (a.eval yh)) ?_ ?_ (by rw[h1.1,h2.1];exact run_slice_lh w t oa l.length cap hu' ka kb b c v1 v2 (wv hb3 (Int.ofNat_le.2 hcap))) _ rfl
     ·exact tn2 hb2
     ·exact tn1 hb3
    ·exact hv.1.elim
 ·exact hv.1.elim
theorem AU:(vs:cf)->(M:Mem)->Hp F p M w->Tr F p M w (ew M vs).1 p (ew M vs).2 w
 |[],M,h=>by simp only[ew];exact Tr.refl h
 |v::r,M,h=>by simp only[ew];have h1:=wY v M h;exact h1.trans (AU r _ h1.hp)
theorem Ky:(vs:cf)->(M:Mem)->((ew M vs).1=[]/\(ew M vs).2=M)\/∃x r,(ew M vs).1=x::r/\fresh M [x]=false
 |[],M=>.inl ⟨rfl,rfl⟩
 |v::r,M=>by
  simp only[ew];rcases Ar v M with⟨h1,h2⟩|⟨x,e,h1,h2⟩
  ·rw[h1,h2];simp only[ap];exact Ky r M
  ·exact .inr ⟨x,_,by rw[h1];rfl,h2⟩
theorem Fb:(ks:aZ)->(M:Mem)->Hp F p M w->Tr F p M w (klL ks) p (dx ks M) w
 |[],M,h=>by simp only[klL,dx];exact Tr.refl h
 |k::r,M,h=>by simp only[klL,dx];have h1:=Tr.kl h k;exact h1.trans (Fb r _ h1.hp)
theorem sZ:(ks:aZ)->(M:Mem)->(k:Nat)->(k∈ks\/go M k=none->go (dx ks M) k=none)/\(k∉ks->go (dx ks M) k=go M k)
 |[],M,k=>⟨λh=>Or.elim h (λh=>by cases h) (λh=>h),λ_=>rfl⟩
 |i::r,M,k=>by
  simp only[dx];obtain⟨h1,h2⟩:=sZ r (del i M) k;refine⟨λh=>h1 ?_,λh=>?_⟩
  ·rcases h with h|h
   ·rcases cz.1 h with rfl|h
    ·exact .inr (eJ k M)
    ·exact .inl h
   ·by_cases e:k=i
    ·subst e;exact .inr (eJ k M)
    ·exact .inr (by rw[dC e];exact h)
  ·simp only[cz,not_or]at h;rw[h2 h.2,dC h.1]
theorem IU:(ks:aZ)->fresh M (klL ks)=true->∀k∈ks,go M k=none
 |[],_,k,hk=>by cases hk
 |i::r,h,k,hk=>by
  obtain⟨h1,h2⟩:=Ee h;rcases cz.1 hk with rfl|hk
  ·exact h1
  ·exact IU r h2 k hk
theorem cp.keep{Im Im':aT}(hk:∀b,Im b->Im' b):(rs:gH)->(x:bY rs)->(S:aT)->(us:aM)->cp Im w rs x S us->cp Im' w rs x S us
 |[],x,S,us,r=>by simpa only [cp]using r
 |q::rs,x,S,us,r=>by simp only[cp]at r⊢;obtain⟨u,us',vs,S1,S2,e1,e2,e3,e4,e5,e6,e7,e8⟩:=r;exact⟨u,us',vs,S1,S2,e1,e2,e3,e4,e5,e6,Rel.keep (λb hb=>⟨hk b hb,rfl⟩) _ _ _ _ (λ_ _=>rfl) e7,cp.keep hk rs _ _ _ e8⟩
theorem JL(rs:gH)(v:V)(us:aM)(hl:us.length=rs.length)(r:cD β M Im w v us):ae β M Im w (pE rs v) (dG us):=by
 match rs,us,hl with
 |[],[],_=>simp only[pE,dG,ae];exact⟨[],rfl,r⟩
 |[q],[u],_=>
  cases v with
  |p a b=>simp only[cD]at r;obtain⟨u',us',e,h1,h2⟩:=r;simp only[bG]at e;obtain⟨rfl,_⟩:=e;simp only[pE,dG];exact h1
  |u=>simp only[cD]at r;cases r
  |_=>simp only[cD]at r
 |q::q'::rs,u::u'::us,_=>simp only[pE,dG,ae];exact⟨_,rfl,r⟩
theorem Ep{Im:aT}:(rs:gH)->(x:bY rs)->(S:aT)->(us:aM)->cp Im w rs x S us->us.length=rs.length
 |[],x,S,us,r=>by simp only[cp]at r;rw[r];rfl
 |q::rs,x,S,us,r=>by simp only[cp]at r;obtain⟨u,us',vs,S1,S2,rfl,_,_,_,_,_,_,e8⟩:=r;simp[Ep rs _ _ _ e8]
theorem R9(h:Hp F p M w)(hL:∀b,¬p.L b)(ct:Ct)(d:Nat)(x:bq ct.args)(hA:ct.sh=true->∀b,A b->Imm F p M w b)(he:Ext w w')(hS:∀b,S b->w.heap.size<=b/\b<w'.heap.size)(hr:cp (λb=>b<w'.heap.size/\(ct.sh=true/\A b\/w.heap.size<=b)/\¬S b) w' ct.rt (ct.res x) S rs)(hN:newL d 0 ct.rt (ct.res x)=(v,N,j')):
  ∃p',Tr F p M w (klL (ba N)) p' (ap N (dx (ba N) M)) w'/\(∀b,¬p'.L b)/\ae p'.β (ap N (dx (ba N) M)) (Imm F p' (ap N (dx (ba N) M)) w') w' (pE ct.rt v) (dG rs)/\
   (fresh M (klL (ba N))=true->Qt p M p' (ap N (dx (ba N) M)) w w'):=by
 have h1:=Fb (ba N) M h;have h2:=Tr.grow h1.hp hL he S hS
 have hkeep:∀b,(λb=>b<w'.heap.size/\(ct.sh=true/\A b\/w.heap.size<=b)/\¬S b) b->Imm F ⟨p.β,p.σ,S⟩ (dx (ba N) M) w' b:=λb ⟨b1,b2,b3⟩=>by
  rcases b2 with⟨b2,b4⟩|b2
  ·have:=hA b2 b b4;exact⟨b1,this.2.1,b3,(h1.keep b this).1.2.2.2⟩
  ·refine⟨b1,.inr (.inr (c8 h.size b2)),b3,λk hk hs=>?_⟩;have:=(h1.hp.own k b hk hs).1;omega
 obtain⟨hle,hkeys⟩:=AP d ct.rt 0 (ct.res x);have hnew:=EN (F:=F) (w:=w') d j' ct.rt (dx (ba N) M) ⟨p.β,p.σ,S⟩ 0 (ct.res x) S rs h2.hp (cp.keep hkeep _ _ _ _ hr) (λb hb=>hb);rw[hN]at hnew hle hkeys;simp only at hnew hle hkeys;obtain⟨p2,a1,a2⟩:=hnew (bd _) (λi hi hij=>(sZ (ba N) M _).1 (.inl (hkeys i hi hij)));have h3:=Tr.drop a1.tr.hp (λ_=>False) (λb hb=>hb.elim);refine⟨⟨p2.β,p2.σ,λ_=>False⟩,?_,λb hb=>hb,?_,λhf=>⟨he,λj ob hj=>?_⟩⟩
 ·have h4:=h1.trans (h2.trans (a1.tr.trans h3));simpa only [ap,qS]using h4
 ·have h5:=h3.s _ _ (JL ct.rt v rs (Ep _ _ _ _ hr) a2);simpa only [V.evs]using h5
 ·have hn:j∉ba N:=λhk=>by have:=IU _ hf j hk;rw[this]at hj;cases hj
  have:=a1.old j ob (by rw[(sZ (ba N) M j).2 hn];exact hj);exact this
theorem DT(f:dI):∀(l:l7)(i:Nat),(gz f l)[i]? = (l[i]?).map f
 |[],i|x::l,0=>by simp[gz]
 |x::l,i+1=>by simp only[gz,lC];exact DT f l i
theorem Ea(f:dI):∀l:List Operand,(gz f l).length=l.length
 |[]=>rfl
 |x::l=>by simp[gz,Ea f l]
theorem aer{c:V}(h:ae p.β M (Imm F p M w) w v u)(hf:rN v=some (f,c)):∃us:List Value,u=.func (.func f) #[] us.toArray/\ac p.β M (Imm F p M w) w c us:=by
 unfold rN at hf;split at hf
 ·cases hf;simp only[ae,ac]at h;obtain⟨us,e,h1⟩:=h;exact⟨us,by simpa using e,h1⟩
 ·cases hf;simp only[ae,ac,ai]at h;obtain⟨us,e,h2⟩:=h;exact⟨us,by simpa using e,ko _ _ _ h2⟩
 ·cases hf
theorem Ru(hp:Hp F p M w):(c:V)->(us:aM)->(cs:cf)->ac p.β M (Imm F p M w) w c us->kp M c=some cs->us.length=cs.length/\∀(i:Nat) v u,cs[i]? = some v->us[i]? = some u->ae p.β M (Imm F p M w) w v u
 |.u,us,cs,r,h=>by simp only[kp,aI]at h;simp only[ac]at r;subst h;subst r;exact⟨rfl,λi v u hv=>by simp at hv⟩
 |.p a b,us,cs,r,h=>by
  simp only[kp]at h;simp only[ac]at r;obtain⟨va,vb,rfl,r1,r2⟩:=r
  cases hb:kp M b with
  |none=>rw[hb]at h;cases h
  |some rs=>
   rw[hb]at h
   cases hs:eK M a 1 with
   |false=>simp only[hs]at h;cases h
   |true=>
    simp only[hs,aD,aI]at h;subst h;have hl:=nK hp a va 1 r1 (mF hs);obtain⟨k1,k2⟩:=Ru hp b vb rs r2 hb
    match va,hl with
    |[u0],_=>
     refine⟨by simp[k1],λi v u hv hu=>?_⟩
     cases i with
     |zero=>simp only[iz,uq,aI]at hv hu;subst hv;subst hu;exact my r1
     |succ i=>exact k2 i v u (by simpa using hv) (by simpa using hu)
 |.any,_,_,_,h|.nl,_,_,_,h|.np,_,_,_,h|.d _ _,_,_,_,h|.ref _ _,_,_,_,h|.ad _ _,_,_,_,h|.ag _,_,_,_,h|.tup _,_,_,_,h|.gd _ _ _ _,_,_,_,h|.fn _ _,_,_,_,h|.ifc _ _,_,_,_,h|.bx _,_,_,_,h=>by simp[kp]at h
theorem Rl(hp:Hp F p M w):(vs:cf)->(us:aM)->(c:V)->us.length=vs.length->(∀(i:Nat) v u,vs[i]? = some v->us[i]? = some u->ae p.β M (Imm F p M w) w v u)->yG M vs=some c->ac p.β M (Imm F p M w) w c us
 |[],us,c,hl,_,h=>by simp only[yG,aI]at h;subst h;simp only[ac];exact jR hl
 |v::vs,us,c,hl,hr,h=>by
  simp only[yG]at h
  cases hc:yG M vs with
  |none=>rw[hc]at h;cases h
  |some c'=>
   rw[hc]at h
   cases hk:nob (neg (gG v)) (eK M v 1)with
   |false=>simp only[hk]at h;cases h
   |true=>
    simp only[hk,aD,aI]at h;subst h;simp only[aP,ao,gu,gU]at hk
    match us,hl with
    |u::us,hl=>
     have h0:=hr 0 v u rfl rfl;have ih:=Rl hp vs us c' (by simpa using hl) (λi v u hv hu=>hr (i+1) v u (by simpa using hv) (by simpa using hu)) hc;have hcv:fP v=true:=by have hs:=mF hk.2;cases v<;>first|rfl|(simp[V.size]at hs;done)|(simp[gG]at hk;done)
     obtain⟨vs1,_,a2,a3⟩:=AB hp h0 hcv;have e:=a2 hk.1;subst e;have hcells:v.cells=v:=by cases v<;>first|rfl|(simp[gG]at hk;done)
     rw[hcells]at a3;simp only[ac];exact⟨[u],us,rfl,a3,ih⟩
theorem F_(hG:ln P F)(h:Hp F p M w)(hL:∀b,¬p.L b){m:Mt}(hm:MtOk P f m)(vs:cf)(us:aM)(hlen:us.length=vs.length)(hrel:∀(i:Nat) v u,vs[i]? = some v->us[i]? = some u->ae p.β M (Imm F p M w) w v u)(hr:(execOp a.eval o).run P w=.ok (.enter f us.toArray) w)(hv:ab (KB m vs M).vc)(qt:bo)(Q:gi):o.wp P a w (λa' w'=>∃v,a'=a.put o.dst v/\cd F p M w qt (KB m vs M) v w') Q:=by
 have h:False/\True:=hv;exact h.1.elim
theorem xw(h:rL π=true):π=[.de]:=by
 unfold rL at h;split at h
 ·rfl
 ·cases h
theorem Ot(h:pn v=some k):v=.ad k [.de]\/v=.ref k []:=by
 unfold pn at h;split at h
 ·rename_i j π
  cases hd:rL π with
  |false=>rw[hd]at h;cases h
  |true=>rw[hd]at h;simp only[aD,aI]at h;rw[h,xw hd];exact .inl rfl
 ·rename_i j π
  cases π with
  |nil=>simp only[Lb,aD,aI]at h;rw[h];exact .inr rfl
  |cons _ _=>simp[Lb]at h
 ·cases h
theorem On(h:pn v=some k):∃π,v=.ad k π\/v=.ref k π:=by
 rcases Ot h with h|h
 ·exact⟨_,.inl h⟩
 ·exact⟨_,.inr h⟩
theorem SQ(k:Nat)(v0:V)(h0:∃π,v0=.ad k π\/v0=.ref k π):∀(v:V)(M:Mem),bm (cr M v).2 k->v0.evs (cr M v).1=v0/\bm M k:=by
 have one:∀(j:Nat)(M:Mem)(ob:Ob),bm (del j M) k->v0.evs [.fz j ob]=v0/\bm M k:=λj M ob hl=>by
  have hne:k≠j:=λe=>by subst e;unfold bm at hl;rw[eJ]at hl;cases hl
  refine⟨by obtain⟨π,h|h⟩:=h0<;>simp only[h,V.evs,V.ev,Ev.ad,Ev.ref,cS,aj hne],?_⟩;unfold bm at hl⊢;rwa [dC hne]at hl
 intro v
 induction v with
 |p a b iha ihb=>intro M hl;simp only[cr]at hl⊢;obtain⟨h1,h2⟩:=ihb _ hl;obtain⟨h3,h4⟩:=iha _ h2;rw[xG,h3];exact⟨h1,h4⟩
 |ref j ρ=>
  intro M hl;simp only[cr]at hl⊢
  cases hg:go M j with
  |none=>rw[hg]at hl;exact⟨rfl,hl⟩
  |some ob=>rw[hg]at hl;exact one j M ob hl
 |ad j ρ=>
  intro M hl;simp only[cr]at hl⊢
  cases hg:go M j with
  |none=>rw[hg]at hl;exact⟨rfl,hl⟩
  |some ob=>rw[hg]at hl;exact one j M ob hl
 |ag v ih|fn f v ih|ifc f v ih|bx v ih|tup v ih|gd _ _ _ v ih=>intro M hl;simp only[cr]at hl⊢;exact ih M hl
 |_=>intro M hl;exact⟨rfl,hl⟩
theorem EF(k:Nat)(v0:V)(h0:∃π,v0=.ad k π\/v0=.ref k π):∀(vs:cf)(M:Mem),bm (ew M vs).2 k->v0.evs (ew M vs).1=v0
 |[],_,_=>rfl
 |v::r,M,hl=>by
  simp only[ew]at hl⊢;have h1:=EF k v0 h0 r _ hl
  have lv:∀(vs:cf)(M:Mem),bm (ew M vs).2 k->bm M k:=λvs=>by
   induction vs with
   |nil=>intro M h;exact h
   |cons v vs ih=>intro M h;simp only[ew]at h;exact (SQ k v0 h0 v M (ih _ h)).2
  rw[xG,(SQ k v0 h0 v M (lv _ _ hl)).1];exact h1
theorem AL(hp:Hp F p M w)(hg:go M k=some ob)(h0:pn v0=some k)(hs:v0.evs e=v0)(hu:ae p.β M (Imm F p M w) w (v0.evs e) u):u=p.β k:=by
 rw[hs]at hu;rcases Ot h0 with rfl|rfl
 ·simp only[ae,ac]at hu;obtain⟨_,e1,hadr⟩:=hu;simp only[bG,az]at e1;subst e1;obtain⟨o0,us0,b0,off0,k1,k2,k3,k4,k5,k6⟩:=hadr;rw[hg]at k1;cases k1;have hrk:=hp.objs k _ hg;obtain⟨oo,xx⟩:=ob
  cases oo with
  |pt o1=>simp only[Rel]at hrk;obtain⟨bb,us1,ty',S1,r1,_⟩:=hrk;simp only[bG,az]at r1;rw[r1]at k5;simp only[res,aI,bE]at k5;rw[k6,r1,k5.2.1,k5.2.2]
  |fz t=>obtain⟨q,hq⟩:=k3;cases t<;>simp[get]at hq<;>simp[res]at k5
  |p a b|sl e|mp e e'|op e=>obtain⟨q,hq⟩:=k3;simp[get]at hq
 ·simp only[ae,ac]at hu;obtain⟨o0,pl0,k1,k2,k3,k4⟩:=hu;simp only[res,aI,bE,bG,az]at k4;exact k4.1.symm
def LP(P:cX)(f:fL)(W:Wt)(Lk:World->Value->Value->Prop):Prop:=
 ∀(A:aT)(w:aQ)(r u:bw)(x:W.o.strip.den)(us:aM)(y:bq W.as)(S:aT),fS P A w->(∀b,A b->b<w.heap.size)->(∀b,S b->b<w.heap.size/\¬A b)->
  Rel (λb=>A b) w W.o x S [r]->Lk w r u->d5 A w W.ag W.as y us->ab (W.pre x y)->
  Calls P f (cn W.i u us).toArray w λe w'=>∃rs R S',e=.returned (dG rs)/\ExtS w w' S/\(∀b,R b->w.heap.size<=b/\b<w'.heap.size)/\(∀b,S' b->(S b\/w.heap.size<=b/\b<w'.heap.size)/\¬R b)/\
   Rel (λb=>b<w'.heap.size/\(A b\/S b\/w.heap.size<=b)/\¬S' b/\¬R b) w' W.o (W.new x y) S' [r]/\
   cp (λb=>b<w'.heap.size/\(A b\/S b\/w.heap.size<=b)/\¬S' b/\¬R b) w' W.rt (W.res x y) R rs
theorem ae9(h:FQ P f W):LP P f W (λ_ r u=>u=r):=λA w r u x us y S h0 h1 h2 h3 h4 h5 h6=>by subst h4;exact h A w u x us y S h0 h1 h2 h3 h5 h6
def aee(w:aQ)(r u:bw):Prop:=∃b ty,r=.pointer (some ⟨b,0,none⟩)/\w.heap[b]? = some (.cells #[u] ty)
theorem aez(hs:slO W.o=true)(h:FQ P f W):LP P f (pbW W) aee:=λA w r u x us y S h0 h1 h2 h3 h4 h5 h6=>by
 obtain⟨b,ty,rfl,hb⟩:=h4;simp only[pbW,Rel]at h3;obtain⟨b',us1,ty',S1,r1,r2,r3,r4,r5⟩:=h3;simp only[bG,G6,aI,Addr.mk.injEq,az,aL]at r1;subst r1;rw[hb]at r3;have e1:us1=[u]:=by simp only[aI,Obj.cells.injEq]at r3;have:=congrArg Array.toList r3.1;simpa using this.symm
 subst e1;refine (h A w u x us y S1 h0 h1 (λc hc=>h2 c (r4 c hc).1) r5 h5 h6).mono λe w' ⟨rs,R,S2,e1,e2,e3,e4,e5,e6⟩=>?_;have hR:¬R b:=λhr=>by have:=(e3 b hr).1;have:=(h2 b r2).1;omega
 have hS2:∀c,(c<w'.heap.size/\(A c\/S1 c\/w.heap.size<=c)/\¬S2 c/\¬R c)->(c<w'.heap.size/\(A c\/S c\/w.heap.size<=c)/\¬(S2 c\/c=b)/\¬R c):=λc ⟨k1,k2,k3,k4⟩=>by
  refine⟨k1,k2.elim .inl λk=>k.elim (λk=>.inr (.inl (r4 c k).1)) λk=>.inr (.inr k),λhc=>hc.elim k3 λhc=>?_,k4⟩;subst hc;rcases k2 with k|k|k
  ·exact (h2 c r2).2 k
  ·exact (r4 c k).2 rfl
  ·have:=(h2 c r2).1;omega
 have hold:w'.heap[b]? = w.heap[b]?:=e2.old b (h2 b r2).1 (λhc=>(r4 b hc).2 rfl)
 have hb2:¬S2 b:=λhc=>by
  rcases (e4 b hc).1 with k|k
  ·exact (r4 b k).2 rfl
  ·have:=(h2 b r2).1;omega
 refine⟨rs,R,λc=>S2 c\/c=b,e1,⟨e2.os,e2.tape,e2.output,e2.size,λc hc hn=>e2.old c hc λk=>hn (r4 c k).1⟩,e3,λc hc=>?_,?_,?_⟩
 ·rcases hc with hc|hc
  ·obtain⟨k1,k2⟩:=e4 c hc;exact⟨k1.elim (λk=>.inl (r4 c k).1) .inr,k2⟩
  ·subst hc;exact⟨.inl r2,hR⟩
 ·simp only[pbW,Rel];refine⟨b,[u],ty,S2,rfl,.inr rfl,by rw[hold,hb],λc hc=>⟨.inl hc,λk=>by subst k;exact hb2 hc⟩,?_⟩;exact Rel.keep (λc hc=>⟨hS2 c hc,rfl⟩) _ _ _ _ (λ_ _=>rfl) e5
 ·exact cp.keep hS2 _ _ _ _ e6
theorem NZ(hG:ln P F)(h:Hp F p M w)(hL:∀b,¬p.L b)(hw:LP P f W Lk)(k:Nat)(u:bw)(r:cf)(us:aM)(hlnk:∀x,go (ew M r).2 k=some ⟨W.o,x⟩->Lk w (p.β k) u)(hlen:us.length=r.length)(hrel:∀(i:Nat) v u,r[i]? = some v->us[i]? = some u->ae p.β M (Imm F p M w) w v u)(hr:(execOp a.eval o).run P w=.ok (.enter f (cn W.i u us).toArray) w)(hv:ab (qH k W d r M).vc)(qt:bo)(Q:gi):o.wp P a w (λa' w'=>∃v,a'=a.put o.dst v/\cd F p M w qt (qH k W d r M) v w') Q:=by
 unfold qH at hv⊢
 cases b2:shp r W.ag with
 |false=>rw[b2]at hv;exact hv.1.elim
 |true=>
 simp only[b2,aD]at hv⊢;have hfz:=AU r M h;generalize hz:ew M r=z at hv hfz hlnk⊢;obtain⟨e0,M1⟩:=z;simp only at hv hfz hlnk⊢
 cases hg:go M1 k with
 |none=>simp only[hg]at hv;exact hv.1.elim
 |some ob=>
 cases hy:asL (gy e0 r) W.as with
 |none=>simp only[hg,hy]at hv;exact hv.1.elim
 |some y=>
 simp only[hg,hy]at hv⊢
 cases hc:jn ob W.o with
 |none=>simp only[hc]at hv;exact hv.1.elim
 |some x=>
 simp only[hc]at hv⊢;have:=qD hc;subst this;generalize hN:newL d 0 W.rt (W.res x y)=q at hv⊢;obtain⟨v,N,j'⟩:=q;simp only at hv⊢
 cases hin:inN k (ba N)with
 |true=>rw[hin]at hv;exact hv.1.elim
 |false=>
 simp only[hin,bc]at hv⊢;have hl:=hlen
 have hrel1:∀(i:Nat) v u',(gy e0 r)[i]? = some v->us[i]? = some u'->ae p.β M1 (Imm F p M1 w) w v u':=λi v u' hv hu'=>by
  rw[AG]at hv
  cases hx:r[i]? with
  |none=>rw[hx]at hv;cases hv
  |some v0=>rw[hx]at hv;simp only[fq,aI]at hv;subst hv;exact hfz.s _ _ (hrel i v0 u' hx hu')
 have hbox:Lk w (p.β k) u:=hlnk x hg;have hlk:=bP hg;unfold Oper.wp;rw[hr,vY];refine (hw (Imm F p M1 w) w (p.β k) u x us y (p.σ k) (AV hG hfz.hp hL) (λb hb=>hb.1) (λb hb=>⟨(hfz.hp.own k b hlk hb).1,λhi=>hi.2.2.2 k hlk hb⟩) (hfz.hp.objs k _ hg) hbox (Bu hfz.hp _ _ _ _ _ (by rw[qG];simpa using hl) hrel1 (by rw[EB];exact b2) hy) hv).mono λe w' ⟨rs,R,S',e1,e2,e3,e4,e5,e6⟩=>?_;subst e1;obtain⟨p1,t1,t2,t3⟩:=P3 hfz.hp hL hg (λb hb=>hb) e2 e3 e4 e5;generalize hM2:put k (⟨W.o,W.new x y⟩:Ob) M1=M2 at t1 t3⊢;have h1:=Fb (ba N) M2 t1.hp;obtain⟨hle,hkeys⟩:=AP d W.rt 0 (W.res x y);have hnew:=EN (F:=F) (w:=w') d j' W.rt (dx (ba N) M2) p1 0 (W.res x y) R rs h1.hp (cp.keep (λb hb=>(h1.keep b (t3 b hb)).1) _ _ _ _ e6) (λb hb=>(t2 b).2 hb);rw[hN]at hnew hle hkeys;simp only at hnew hle hkeys;obtain⟨p2,a1,a2⟩:=hnew (bd _) (λi hi hij=>(sZ (ba N) M2 _).1 (.inl (hkeys i hi hij)));have h3:=Tr.drop a1.tr.hp (λ_=>False) (λb hb=>hb.elim);refine⟨_,rfl,⟨p2.β,p2.σ,λ_=>False⟩,?_,λb hb=>hb,?_,λhfr _=>?_⟩
 ·have h4:=hfz.trans (t1.trans (h1.trans (a1.tr.trans h3)));simpa only [ap,qS]using h4
 ·have h5:=h3.s _ _ (JL W.rt v rs (Ep _ _ _ _ e6) a2);simpa only [V.evs]using h5
 ·exfalso
  have:∀e:List Ev,fresh M (ap e (.cut k W.o W.o::klL (ba N)))=false:=λe=>by
   induction e with
   |nil=>rfl
   |cons x e ih=>cases x<;>simp[ap,fresh,ih]
  rw[this]at hfr;cases hfr
theorem abs:(o:O)->(x:o.strip.den)->(S:aT)->(vs:aM)->slO o=true->Rel Im w o x S vs->vs.length=1
 |.sl e,x,S,vs,_,r=>by simp only[Rel]at r;obtain⟨v',_,_,_,rfl,_⟩:=r;rfl
 |.fz _,_,_,_,h,_|.p _ _,_,_,_,h,_|.pt _,_,_,_,h,_|.mp _ _,_,_,_,h,_|.op _,_,_,_,h,_=>by cases h
theorem I_:(o:O)->slO o=true->o.size=1
 |.sl e,_=>rfl
 |.fz _,h|.p _ _,h|.pt _,h|.mp _ _,h|.op _,h=>by cases h
theorem adv(h:deK v=some k):v=.ref k [.de]:=by
 unfold deK at h;split at h
 ·rename_i j π
  cases hd:rL π with
  |false=>rw[hd]at h;cases h
  |true=>rw[hd]at h;simp only[aD,aI]at h;rw[h,xw hd]
 ·cases h
theorem JE{R:V->Value->Prop}:∀(i:Nat)(vs:cf)(us:aM)(v0:V)(r:cf),pkN i vs=some (v0,r)->us.length=vs.length->(∀(j:Nat) v u,vs[j]? = some v->us[j]? = some u->R v u)->
  ∃u us',us=cn i u us'/\us'.length=r.length/\R v0 u/\∀(j:Nat) v u,r[j]? = some v->us'[j]? = some u->R v u
 |_,[],_,_,_,h,_,_=>by cases ‹Nat›<;>simp[pkN]at h
 |0,v::vs,us,v0,r,h,hl,hr=>by
  simp only[pkN,aI,bE]at h;obtain⟨rfl,rfl⟩:=h
  match us,hl with
  |u::us,hl=>exact⟨u,us,rfl,by simpa using hl,hr 0 _ _ rfl rfl,λj v u h1 h2=>hr (j+1) v u (by simpa using h1) (by simpa using h2)⟩
 |i+1,v::vs,us,v0,r,h,hl,hr=>by
  simp only[pkN]at h;split at h
  ·rename_i y s hs;simp only[aI,bE]at h;obtain⟨rfl,rfl⟩:=h
   match us,hl with
   |u::us,hl=>
    obtain⟨u',us',rfl,k1,k2,k3⟩:=JE i vs us y s hs (by simpa using hl) (λj v u h1 h2=>hr (j+1) v u (by simpa using h1) (by simpa using h2));refine⟨u',u::us',rfl,by simp[k1],k2,λj w z h1 h2=>?_⟩
    cases j with
    |zero=>simp at h1 h2;subst h1;subst h2;exact hr 0 _ _ rfl rfl
    |succ j=>exact k3 j w z (by simpa using h1) (by simpa using h2)
  ·cases h
theorem Zi(hG:ln P F)(h:Hp F p M w)(hL:∀b,¬p.L b)(hw:FQ P f W)(vs:cf)(us0:aM)(hlen:us0.length=vs.length)(hrel:∀(i:Nat) v u,vs[i]? = some v->us0[i]? = some u->ae p.β M (Imm F p M w) w v u)(hr:(execOp a.eval o).run P w=.ok (.enter f us0.toArray) w)(hv:ab (th W d vs M).vc)(qt:bo)(Q:gi):o.wp P a w (λa' w'=>∃v,a'=a.put o.dst v/\cd F p M w qt (th W d vs M) v w') Q:=by
 unfold th at hv⊢;split at hv
 ·rename_i v0 r hpk;obtain⟨u,us,rfl,hl',h0,hrel'⟩:=JE (R:=ae p.β M (Imm F p M w) w) W.i vs us0 v0 r hpk hlen hrel;have hfz:=AU r M h;have hu:=hfz.s _ _ h0
  cases hroot:pn v0 with
  |some k=>
   simp only[hroot]at hv⊢
   cases hb:lf W.o with
   |false=>rw[hb]at hv;exact hv.1.elim
   |true=>
   simp only[hb,aD]at hv⊢;exact NZ hG h hL (ae9 hw) k u r us (λx hg=>AL hfz.hp hg hroot (EF k v0 (On hroot) r M (bP hg)) hu) hl' hrel' hr hv qt Q
  |none=>
   simp only[hroot]at hv⊢
   cases hde:deK v0 with
   |none=>simp only[hde]at hv;exact hv.1.elim
   |some k=>
   simp only[hde]at hv⊢
   cases hb:slO W.o with
   |false=>rw[hb]at hv;exact hv.1.elim
   |true=>
   simp only[hb,aD]at hv⊢;have hv0:=adv hde;subst hv0;refine NZ hG h hL (aez hb hw) k u r us (λx hg=>?_) hl' hrel' hr hv qt Q;rw[EF k _ ⟨[.de],.inr rfl⟩ r M (bP hg)]at hu;simp only[ae,ac]at hu;obtain⟨o0,pl0,k1,k2,k3,k4⟩:=hu;rw[hg]at k1;cases k1;have hrk:=hfz.hp.objs k _ hg;simp only[pbW,Rel]at hrk;obtain⟨bb,us1,ty',S1,r1,r2,r3,r4,r5⟩:=hrk;simp only[bG,az]at r1;have hsz:us1.length=1:=abs _ _ _ _ hb r5;have hs1:W.o.size=1:=I_ _ hb;refine⟨bb,ty',r1,?_⟩
   obtain⟨z,rfl⟩:∃z,us1=[z]:=by
    match us1,hsz with
    |[z],_=>exact⟨z,rfl⟩
   rw[r1]at k4;simp only[pbW,res,hs1,aI,bE]at k4;rw[r3];have k5:cellsOf w bb 0 1=[z]:=by simp[cellsOf,World.cell?,r3]
   rw[k5]at k4;simp only[bG,az]at k4;rw[k4.1]
 ·exact hv.1.elim
theorem Tr.un(h:Hp F p M w)(hL:∀b,¬p.L b){o:O}{x:o.strip.den}(hk:go M k=some ⟨.pt (.pt o),x⟩)(hj:go M j=none)(hg:k<gid):
  ∃p',Tr F p M w [.un k j] p' ((j,⟨.pt o,x⟩)::Bm.del k M) w/\∀b,¬p'.L b:=by
 have hro:=h.objs k _ hk;simp only[Rel]at hro;obtain⟨b0,us0,ty0,S0,r1,r2,r3,r4,r5⟩:=hro;have r5':=r5;obtain⟨b1,us1,ty1,S1,q1,q2,q3,q4,q5⟩:=r5;subst q1;simp only[bG,az]at r1;generalize hp':(⟨λi=>if i=j then .pointer (some ⟨b1,0,none⟩)else p.β i,λi=>if i=j then S0 else p.σ i,λ_=>False⟩:Ow)=p';have hjk:j≠k:=by rintro rfl;rw[hk]at hj;cases hj
 have hβj:p'.β j=.pointer (some ⟨b1,0,none⟩):=by rw[←hp'];simp
 have hσj:p'.σ j=S0:=by rw[←hp'];simp
 have hβ:∀i,i≠j->p'.β i=p.β i:=λi hi=>by rw[←hp'];simp[hi]
 have hσ:∀i,i≠j->p'.σ i=p.σ i:=λi hi=>by rw[←hp'];simp[hi]
 have hL':∀b,¬p'.L b:=λb hb=>by rw[←hp']at hb;exact hb
 generalize hM1:(((j,⟨.pt o,x⟩)::Bm.del k M):Mem)=M1;have hgj:go M1 j=some ⟨.pt o,x⟩:=by rw[←hM1];exact mG _ _ _
 have hgi:∀i,i≠j->i≠k->go M1 i=go M i:=λi h1 h2=>by rw[←hM1,cJ,aj (cM h1),dC h2]
 have hgk:go M1 k=none:=by rw[←hM1,cJ,aj hjk,eJ]
 have hlive:∀i,bm M1 i->i=j\/(i≠j/\i≠k/\bm M i):=λi hi=>by
  by_cases e:i=j
  ·exact .inl e
  ·by_cases e':i=k
   ·subst e';unfold bm at hi;rw[hgk]at hi;cases hi
   ·refine .inr ⟨e,e',?_⟩;unfold bm at hi⊢;rwa [hgi i e e']at hi
 have hlk:=bP hk
 have hkeep:cE (Imm F p M w) (Imm F p' M1 w) w w:=λb hb=>by
  refine⟨⟨hb.1,hb.2.1,hL' b,λi hi=>?_⟩,rfl⟩;rcases hlive i hi with rfl|⟨h1,h2,h3⟩
  ·rw[hσj];exactλhs=>hb.2.2.2 k hlk (r4 b hs).1
  ·rw[hσ i h1];exact hb.2.2.2 i h3
 have hb0:Imm F p' M1 w b0:=by
  obtain⟨o1,o2⟩:=h.own k b0 hlk r2;refine⟨o1,.inr (o2.elim (λh=>.inl h.2) (λh=>h.r)),hL' b0,λi hi=>?_⟩;rcases hlive i hi with rfl|⟨h1,h2,h3⟩
  ·rw[hσj];exactλhs=>(r4 b0 hs).2 rfl
  ·rw[hσ i h1];exactλhs=>h.sep k i b0 (cM h2) hlk h3 r2 hs
 have hne:∀i,bm M i->i≠j:=λi hi e=>by subst e;unfold bm at hi;rw[hj]at hi;cases hi
 have hinner:Rel (Imm F p' M1 w) w (.pt o) x S0 [.pointer (some ⟨b1,0,none⟩)]:=Rel.keep hkeep _ _ _ _ (λ_ _=>rfl) r5';refine⟨p',Tr.one _ hkeep (λi π vs r=>?_) (λi π v r=>?_) ⟨λi ob hi=>?_,λi i' b hne' hi hi' hb=>?_,λi b hi hb=>?_,λb hb=>absurd hb (hL' b),h.os,h.tape,h.output,h.size,h.old⟩,hL'⟩
 ·simp only[Ev.ref,cS];have hij:i≠j:=by obtain⟨o,_,h1,_⟩:=r;exact hne i (bP h1)
  split
  ·rename_i e;subst e;simp only[ac];obtain⟨ob,pl,h1,h2,⟨q,h3⟩,h4⟩:=r;obtain⟨us,pl',S',e1,e2,e3,_⟩:=look h h1 h2 h3;rw[e1]at h4;cases h4;exact Rel.one _ _ _ _ e3
  ·rename_i e;simp only[ac];exact r.same h (hgi i hij e) (hβ i hij) (λ_ _ _=>rfl)
 ·simp only[Ev.ad,cS];have hij:i≠j:=by obtain⟨o,_,_,_,h1,_⟩:=r;exact hne i (bP h1)
  split
  ·rename_i e;subst e;split
   ·obtain⟨o',us,b,off,h1,h2,h3,h4,h5,h6⟩:=r;rw[hk]at h1;cases h1;rw[r1]at h5;simp only[res,aI,bE]at h5;rw[ac];refine⟨b0,0,[.pointer (some ⟨b1,0,none⟩)],by rw[h6,←h5.2.1,←h5.2.2],hb0,λi' u hu=>?_,?_⟩
    ·cases i' with
     |zero=>simp only[iz,aI]at hu;subst hu;simp[World.cell?,r3]
     |succ i'=>simp at hu
    ·simp only[ac];refine⟨_,rfl,_,cellsOf w b1 0 o.size,b1,0,hgj,by simp only[gok],by simp only[get];exact⟨_,rfl⟩,by simp only[bV],by rw[hβj];simp only[res],rfl⟩
   ·simp only[ac];obtain⟨_,_,_,_,_,_,_,_,_,rfl⟩:=r;intro u hu;simp only[cA]at hu;subst hu;rfl
  ·rename_i e;simp only[ac];exact⟨v,rfl,r.same h (hgi i hij e) (hβ i hij) (λ_ _ _=>rfl)⟩
 ·rcases hlive i (bP hi)with rfl|⟨h1,h2,h3⟩
  ·rw[hgj]at hi;cases hi;rw[hβj,hσj];exact hinner
  ·rw[hgi i h1 h2]at hi;rw[hβ i h1,hσ i h1];exact Rel.keep hkeep _ _ _ _ (λ_ _=>rfl) (h.objs i ob hi)
 ·rcases hlive i hi with e|⟨h1,h2,h3⟩
  ·rcases hlive i' hi' with e'|⟨h1',h2',h3'⟩
   ·exact absurd (e.trans e'.symm) hne'
   ·rw[e,hσj]at hb;rw[hσ i' h1'];exact h.sep k i' b (cM h2') hlk h3' (r4 b hb).1
  ·rw[hσ i h1]at hb;rcases hlive i' hi' with e'|⟨h1',h2',h3'⟩
   ·rw[e',hσj];exactλhs=>h.sep i k b h2 h3 hlk hb (r4 b hs).1
   ·rw[hσ i' h1'];exact h.sep i i' b hne' h3 h3' hb
 ·rcases hlive i hi with e|⟨h1,h2,h3⟩
  ·rw[e,hσj]at hb;obtain⟨o1,o2⟩:=h.own k b hlk (r4 b hb).1;exact⟨o1,o2.elim (λh=>by have:=h.1;omega) .inr⟩
  ·rw[hσ i h1]at hb;exact h.own i b h3 hb
theorem ZZ(x y:V)(M:Mem)(r:Rs):(mJ x y M r).vc=r.vc:=by
 unfold mJ;split
 ·split
  ·rename_i k j _ _ _ o z _ _;cases nob (Nat.blt k gid) (isN (go r.M j))<;>rfl
  ·rfl
 ·rfl
theorem j_{x y:V}{r:Rs}{v:bw}(h:cd F p M w false r v w'):cd F p M w false (mJ x y M r) v w':=by
 unfold mJ;split
 ·rename_i k j;split
  ·rename_i q1 q2 o z h1 h2
   cases hb:nob (Nat.blt k gid) (isN (go r.M j))with
   |false=>simpa only [bc]using h
   |true=>
    simp only[aD];simp only[aP,ao]at hb;obtain⟨p1,t1,l1,v1,_⟩:=h
    have hj:go r.M j=none:=by
     cases hg:go r.M j with
     |none=>rfl
     |some _=>rw[hg]at hb;simp[isN]at hb
    obtain⟨p2,t2,l2⟩:=Tr.un t1.hp l1 h2 hj (by simpa using hb.1);exact⟨p2,t1.trans t2,l2,by simp only[ae],λ_ hq=>by cases hq⟩
  ·exact h
 ·exact h
theorem Tr.kn(h:Hp F p M w)(hX:∀u,Adr p.β M w k [.de] u->ac p.β (Bm.del k M) (Imm F p (Bm.del k M) w) w (.bx X) [u]):Tr F p M w [.kn k X] p (Bm.del k M) w:=by
 refine Tr.one (.kn k X) (h.del k).2 (λj π vs r=>?_) (λj π v r=>?_) (h.del k).1
 ·simp only[Ev.ref,cS];split
  ·simp only[ac];exact r.one h
  ·rename_i hne;simp only[ac];exact r.same h (dC hne M) rfl (λ_ _ _=>rfl)
 ·simp only[Ev.ad,cS];split
  ·rename_i e;subst e;split
   ·exact hX v r
   ·simp only[ac];intro u hu;rw[cA.1 hu];exact r.one
  ·rename_i hne;simp only[ac];exact⟨v,rfl,r.same h (dC hne M) rfl (λ_ _ _=>rfl)⟩
theorem QF(h:Hp F p M w){k:Nat}{f:fL}{v:V}{us:aM}(hc:∀u,Adr p.β M w k [.de] u->∃b,u=.pointer (some ⟨b,0,none⟩)/\Imm F p (Bm.del k M) w b/\iC w b 0 [.func (.func f) #[] us.toArray])(hv:ac p.β M (Imm F p M w) w v us) :
  ∀(n:Nat) u,Adr p.β M w k [.de] u->ac p.β (Bm.del k M) (Imm F p (Bm.del k M) w) w (.bx (vx f v k n)) [u]
 |0,u,hu=>by obtain⟨b,rfl,h2,h3⟩:=hc u hu;rw[ac];exact⟨b,0,_,rfl,h2,h3,by simp only[vx,ac,ai];exact⟨_,rfl,rfl⟩⟩
 |n+1,u,hu=>by obtain⟨b,rfl,h2,h3⟩:=hc u hu;rw[ac];refine⟨b,0,_,rfl,h2,h3,?_⟩;simp only[vx,ac];exact⟨us,rfl,(Tr.kn h (QF h hc hv n)).c v us hv⟩
theorem X_(hB:TabOk P B)(h:Hp F p M w)(hL:∀b,¬p.L b){y0:dJ}(x y:V)(hx:ae p.β M (Imm F p M w) w x (a.eval x0))(hy:ae p.β M (Imm F p M w) w y (a.eval y0))(hv:ab (pe B t x y M).vc)(hop:op.op=.store t x0 y0):
  ∃w',(execOp a.eval op).run P w=.ok .skip w'/\cd F p M w false (pe B t x y M) undef w':=by
 unfold pe at hv⊢
 cases hkn:v9 (B.τ t) x y M with
 |none=>simp only[hkn,ZZ]at hv⊢;obtain⟨w',hr,hd⟩:=Ov hB h hL (op:=op) _ _ hx hy hv hop;exact⟨w',hr,j_ hd⟩
 |some r=>
  simp only[hkn]at hv⊢;unfold v9 at hkn;split at hkn
  ·rename_i k f v1 v2
   cases hha:qR (.p v1 v2)with
   |false=>rw[hha]at hkn;cases hkn
   |true=>
   rw[hha]at hkn;simp only[aD]at hkn;unfold Lt at hkn;split at hkn
   ·rename_i z hgo
    cases hb:aO [(B.τ t).ok,bT (B.τ t).size 1,Nat.ble (Nat.succ k) gid]with
    |false=>rw[hb]at hkn;cases hkn
    |true=>
     rw[hb]at hkn;simp only[aD,aI]at hkn;subst hkn;simp only[bH,bJ,bC,ao,dL,bN]at hb;obtain⟨k1,k2,k3⟩:=hb;have hy:ac p.β M (Imm F p M w) w (.fn f (.p v1 v2)) [a.eval y0]:=by simpa only [ae]using hy
     rw[ac]at hy;obtain⟨us,hyu,hyc⟩:=hy;simp only[bG,az]at hyu;have hya:ae p.β M (Imm F p M w) w (.d .any ()) (a.eval y0):=by simp only[ae,ac,ai];exact⟨_,rfl,by rw[hyu];rfl⟩
     have hst:kT B t (.ad k [.de]) (.d .any ()) M=⟨[],.any,[.cut k (.pt (.fz .any)) (.pt (.fz .any))],put k ⟨.pt (.fz .any),()⟩ M⟩:=by
      have hs:isZ (B.τ t).size=false:=by rw[k2];rfl
      have hc:rx B.tk k (B.σ t) (.d .any ()) M=some (⟨.fz .any,()⟩,[],M):=by unfold rx;cases B.tk<;>simp[vO,conv]
      simp only[kT,hgo,ez,get,V.cells,eK,V.size,k1,k2,T.size,O.strip,dL,ws,isZ,gu,Bool.not_false,bH,bJ,bC,n5,aD,nZ,bc,hc,set,yA,jB,ap]
     obtain⟨w',hr,hd⟩:=Ov hB h hL (op:=op) (.ad k [.de]) (.d .any ()) hx hya (by rw[hst];trivial) hop;rw[hst]at hd;obtain⟨p1,t1,l1,_,_⟩:=hd;simp only at t1;refine⟨w',hr,?_⟩
     -- where the variable lies
     simp only[ae,ac,bG,az,exists_eq_left']at hx;have hx1:=hx;obtain⟨ob,us0,b,off,j1,j2,j3,j4,j5,j6⟩:=hx;rw[hgo]at j1;cases j1;have hro:=h.objs k _ hgo;simp only[Rel]at hro;obtain⟨b0,us1,ty0,S0,r1,r2,r3,r4,r5⟩:=hro;simp only[bG,az]at r1;rw[r1]at j5;simp only[res,aI,bE]at j5;obtain⟨j5a,j5b,j5c⟩:=j5;subst j5b;subst j5c;simp only[ai]at r5;obtain⟨c0,rfl,hc0⟩:=r5;have hone:∀u∈[Value.func (.func f) #[] us.toArray],u.oneCell'=true:=λu hu=>by rw[cA.1 hu];rfl
     have hrun:=run_storeCells_at P b0 0 ty0 [Value.func (.func f) #[] us.toArray] 0 _ w r3 ak hone;simp only[Nat.add_zero]at hrun
     have hgoal:(execOp a.eval op).run P w=.ok .skip (w.setRow b0 ((([c0]:List Value).take 0++[Value.func (.func f) #[] us.toArray]++([c0]:List Value).drop (0+1)).toArray)):=by
      have eτ:=hB.τ t k1;rw[←eτ]at k1 k2;obtain⟨inf,ud,hi,hu⟩:=dn k1;rw[cV hi hu]at k2;simp only[d7]at k2;have hcells:(Value.func (.func f) #[] us.toArray).cells=#[Value.func (.func f) #[] us.toArray]:=rfl;have hrun':(storeCells { block:=b0,off:=0 } [Value.func (Fn.func f) #[] us.toArray]).run P w=Result.ok () (w.setRow b0 #[Value.func (Fn.func f) #[] us.toArray]):=by simpa using hrun
      simp[execOp,hop,Instr.storeAt,Instr.sureAddr,j6,hyu,storeVar,sizeOf,typeInfo,hi,hcells,hrun',k2]
     rw[hr]at hgoal;simp only[Result.ok.injEq,aL]at hgoal;have hblk:w'.heap[b0]? = some (.cells #[Value.func (.func f) #[] us.toArray] ty0 (0,0)):=by rw[hgoal,setRow_heap w b0 _ _ ty0 _ r3];simp
     have hgk:go (put k ⟨.pt (.fz .any),()⟩ M) k=some ⟨.pt (.fz .any),()⟩:=lJ _ M (bP hgo);have hp1:=t1.hp;have hobj:=hp1.objs k _ hgk;simp only[Rel]at hobj;obtain⟨b1,us2,ty2,S2,s1,s2,s3,s4,s5⟩:=hobj;simp only[bG,az]at s1
     have hself:=QF hp1 (k:=k) (f:=f) (v:=(V.p v1 v2).ev (.cut k (.pt (.fz .any)) (.pt (.fz .any)))) (us:=us) (λu hu=>by
      obtain⟨ob',us',b',off',i1,i2,i3,i4,i5,i6⟩:=hu;rw[hgk]at i1;cases i1;rw[s1]at i5;simp only[res,aI,bE]at i5;obtain⟨_,rfl,rfl⟩:=i5
      have hb1:b1=b0:=by
       have hu1:=t1.c (.ad k [.de]) [a.eval x0] (by simp only[ac];exact⟨_,rfl,hx1⟩);have hev:(V.ad k [.de]).evs [.cut k (.pt (.fz .any)) (.pt (.fz .any))]=.ad k [.de]:=by simp[V.evs,V.ev,Ev.ad,eN,eB,kZ]
       rw[hev]at hu1;simp only[ac,bG,az,exists_eq_left']at hu1;obtain⟨ob3,us3,b3,off3,m1,m2,m3,m4,m5,m6⟩:=hu1;rw[hgk]at m1;cases m1;rw[s1]at m5;simp only[res,aI,bE]at m5;obtain⟨_,rfl,rfl⟩:=m5;rw[j6]at m6;simp only[G6,aI,Addr.mk.injEq]at m6;exact m6.1.symm
      subst hb1;refine⟨b1,i6,tf hp1 (bP hgk) s2,λi u hu=>?_⟩
      cases i with
      |zero=>simp only[iz,aI]at hu;subst hu;simp[World.cell?,hblk]
      |succ i=>simp at hu) (t1.c (.p v1 v2) us hyc)
     have t2:=Tr.kn hp1 (hself 10);refine⟨p1,?_,l1,by simp only[ae],λ_ hq=>by cases hq⟩;have t3:=t1.trans t2;have hsv:∀n,vx f ((V.p v1 v2).ev (.cut k (.pt (.fz .any)) (.pt (.fz .any)))) k n=vx f ((V.p v1 v2).ev (.cut k (.pt (.fz .any)) (.pt (.fz .any)))) k n:=λ_=>rfl;exact t3
   ·cases hkn
  ·cases hkn
theorem Zs(hG:ln P F)(h:Hp F p M w)(hL:∀b,¬p.L b){W:Wa}(hw:WaOk P f W)(vs:cf)(us:aM)(hlen:us.length=vs.length)(hrel:∀(i:Nat) v u,vs[i]? = some v->us[i]? = some u->ae p.β M (Imm F p M w) w v u)(hr:(execOp a.eval o).run P w=.ok (.enter f us.toArray) w)(hv:ab (Ka W vs M).vc)(qt:bo)(Q:gi):o.wp P a w (λa' w'=>∃v,a'=a.put o.dst v/\cd F p M w qt (Ka W vs M) v w') Q:=by
 have h:False/\True:=hv;exact h.1.elim
theorem w_(hG:ln P F)(h:Hp F p M w)(hL:∀b,¬p.L b){W:Wc}(hw:WcOk P f W)(vs:cf)(us:aM)(hlen:us.length=vs.length)(hrel:∀(i:Nat) v u,vs[i]? = some v->us[i]? = some u->ae p.β M (Imm F p M w) w v u)(hr:(execOp a.eval o).run P w=.ok (.enter f us.toArray) w)(hv:ab (B6 W vs M).vc)(qt:bo)(Q:gi):o.wp P a w (λa' w'=>∃v,a'=a.put o.dst v/\cd F p M w qt (B6 W vs M) v w') Q:=by
 have h:False/\True:=hv;exact h.1.elim
theorem ZA:{o:O}->{x:o.strip.den}->EY o=some x->Rel Im w o x (λ_=>False) [.slice oa 0 0]
 |.sl e,x,h=>by
  simp only[EY,aI]at h;subst h;simp only[Rel];refine⟨_,0,[],λ_ _=>False,rfl,⟨ak,.inl ⟨rfl,oa,rfl⟩⟩,fV _,?_,?_,?_,?_⟩
  ·intro c hc;cases oa<;>cases hc
  ·intro i c h;exact h.elim
  ·intro i j c _ h;exact h.elim
  ·intro i y hi;simp at hi
 |.fz _,_,h|.p _ _,_,h|.pt _,_,h|.mp _ _,_,h|.op _,_,h=>by cases h
theorem O1{W:Wu}(hw:LN P f W)(hp:Hp F p M w)(hE:fS P (Imm F p M w) w)(t1:Tr F p M w e1 p1 M1 w)(hS:∀b,p1.L b<->S b)(hSn:∀b,S b->b<w.heap.size/\¬Imm F p M w b)(u:bw)(x:W.o.strip.den)(us:aM)(y:bq W.as)(hx:Rel (Imm F p M w) w W.o x S [u])(hargs:d5 (Imm F p M w) w W.ag W.as y us)(hpre:ab (W.pre x y))(d:Nat)(hN:newL d 0 W.rt (W.res x y)=(v,N,j')):
  Calls P f (cn W.i u us).toArray w λe w'=>∃v' p',e=.returned v'/\Tr F p M w (ap e1 (klL (ba N))) p' (ap N (dx (ba N) M1)) w'/\(∀b,¬p'.L b)/\ae p'.β (ap N (dx (ba N) M1)) (Imm F p' (ap N (dx (ba N) M1)) w') w' (pE W.rt v) v'/\
   ((∀b,¬S b)->fresh M1 (klL (ba N))=true->Qt p1 M1 p' (ap N (dx (ba N) M1)) w w'):=by
 refine (hw (Imm F p M w) w u x us y S hE (λb hb=>hb.1) hSn hx hargs hpre).mono λe w' ⟨rs,R,q1,q2,q3,q4⟩=>?_;have h1:=Fb (ba N) M1 t1.hp;have h2:=Tr.growL h1.hp (w':=w') ⟨q2.os,q2.tape,q2.output,q2.size,λb hb hL=>q2.old b hb (λh=>hL ((hS b).2 h))⟩ R (λb hb=>(q3 b hb).2.elim (λh=>.inl ((hS b).2 h)) λh=>.inr ⟨h,(q3 b hb).1⟩)
 have hkeep:∀b,(λb=>b<w'.heap.size/\(Imm F p M w b\/S b\/w.heap.size<=b)/\¬R b) b->Imm F ⟨p1.β,p1.σ,R⟩ (dx (ba N) M1) w' b:=λb ⟨b1,b2,b3⟩=>by
  rcases b2 with b2|b2|b2
  ·have:=(h1.keep b (t1.keep b b2).1).1;exact⟨b1,this.2.1,b3,this.2.2.2⟩
  ·have:=h1.hp.lim b ((hS b).2 b2);exact⟨b1,.inr this.2.1.r,b3,this.2.2⟩
  ·refine⟨b1,.inr (.inr (c8 hp.size b2)),b3,λk hk hs=>?_⟩;have:=(h1.hp.own k b hk hs).1;omega
 obtain⟨hle,hkeys⟩:=AP d W.rt 0 (W.res x y);have hnew:=EN (F:=F) (w:=w') d j' W.rt (dx (ba N) M1) ⟨p1.β,p1.σ,R⟩ 0 (W.res x y) R rs h2.hp (cp.keep hkeep _ _ _ _ q4) (λb hb=>hb);rw[hN]at hnew hle hkeys;simp only at hnew hle hkeys;obtain⟨p2,a1,a2⟩:=hnew (bd _) (λi hi hij=>(sZ (ba N) M1 _).1 (.inl (hkeys i hi hij)));have h3:=Tr.drop a1.tr.hp (λ_=>False) (λb hb=>hb.elim);refine⟨_,⟨p2.β,p2.σ,λ_=>False⟩,q1,?_,λb hb=>hb,?_,λhs hf=>⟨⟨q2.os,q2.tape,q2.output,q2.size,λb hb=>q2.old b hb (hs b)⟩,λj ob hj=>?_⟩⟩
 ·have h4:=t1.trans (h1.trans (h2.trans (a1.tr.trans h3)));simpa only [ap,qS]using h4
 ·have h5:=h3.s _ _ (JL W.rt v rs (Ep _ _ _ _ q4) a2);simpa only [V.evs]using h5
 ·have hn:j∉ba N:=λhk=>by have:=IU _ hf j hk;rw[this]at hj;cases hj
  exact a1.old j ob (by rw[(sZ (ba N) M1 j).2 hn];exact hj)
theorem g_(hG:ln P F)(h:Hp F p M w)(hL:∀b,¬p.L b){W:Wu}(hw:LN P f W)(vs:cf)(us0:aM)(hlen:us0.length=vs.length)(hrel:∀(i:Nat) v u,vs[i]? = some v->us0[i]? = some u->ae p.β M (Imm F p M w) w v u)(hr:(execOp a.eval o).run P w=.ok (.enter f us0.toArray) w)(hv:ab (vi W d vs M).vc)(qt:bo)(Q:gi):o.wp P a w (λa' w'=>∃v,a'=a.put o.dst v/\cd F p M w qt (vi W d vs M) v w') Q:=by
 unfold vi at hv⊢;split at hv
 ·rename_i v0 r hpk;obtain⟨u,us,rfl,hl',h0,hrel'⟩:=JE (R:=ae p.β M (Imm F p M w) w) W.i vs us0 v0 r hpk hlen hrel
  cases b2:nob (slO W.o) (shp r W.ag)with
  |false=>rw[b2]at hv;exact hv.1.elim
  |true=>
  simp only[b2,aD]at hv⊢;rw[aP,ao]at b2;have hfz:=AU r M h;have hff:=Ky r M;have hrt:=EF (M:=M) (vs:=r);have hu:=hfz.s _ _ h0;generalize hz:ew M r=z at hv hfz hu hff hrt⊢;obtain⟨e0,M1⟩:=z;simp only at hv hfz hu hff hrt⊢
  cases hy:asL (gy e0 r) W.as with
  |none=>simp only[hy]at hv;exact hv.1.elim
  |some y=>
  simp only[hy]at hv⊢
  have hrel1:∀(i:Nat) v u',(gy e0 r)[i]? = some v->us[i]? = some u'->ae p.β M1 (Imm F p M1 w) w v u':=λi v u' hv hu'=>by
   rw[AG]at hv
   cases hx:r[i]? with
   |none=>rw[hx]at hv;cases hv
   |some v0=>rw[hx]at hv;simp only[fq,aI]at hv;subst hv;exact hfz.s _ _ (hrel' i v0 u' hx hu')
  have hargs:=Bu hfz.hp _ _ _ _ _ (by rw[qG];simpa using hl') hrel1 (by rw[EB];exact b2.2) hy
  cases hroot:pn v0 with
  |some k=>
   simp only[hroot]at hv⊢
   cases hkg:Nat.ble (Nat.succ k) gid with
   |false=>rw[hkg]at hv;exact hv.1.elim
   |true=>
   simp only[hkg,aD]at hv⊢
   cases hg:go M1 k with
   |none=>simp only[hg]at hv;exact hv.1.elim
   |some ob=>
   simp only[hg]at hv⊢
   cases hc:jn ob W.o with
   |none=>simp only[hc]at hv;exact hv.1.elim
   |some x=>
   simp only[hc]at hv⊢;have:=qD hc;subst this;have hlk:=bP hg;have hbox:u=p.β k:=AL hfz.hp hg hroot (e:=e0) (hrt k v0 (On hroot) hlk) hu;have t1:=Tr.lim hfz.hp k hlk (eU hkg);unfold oS at hv⊢;generalize hN:newL d 0 W.rt (W.res x y)=q at hv⊢;obtain⟨v,N,j'⟩:=q;simp only at hv⊢;unfold Oper.wp;rw[hr,vY];refine (O1 (S:=p.σ k) hw hfz.hp (AV hG hfz.hp hL) t1 (λb=>⟨λh=>h.elim (λh=>(hL b h).elim) id,.inr⟩) (λb hb=>⟨(hfz.hp.own k b hlk hb).1,λhi=>hi.2.2.2 k hlk hb⟩) u x us y (hbox▸hfz.hp.objs k _ hg) hargs hv d hN).mono λe w' ⟨v',p',q1,q2,q3,q4,_⟩=>?_;subst q1;refine⟨_,rfl,p',?_,q3,q4,λhfr _=>?_⟩
   ·have h4:=hfz.trans q2;rw[AJ];exact h4
   ·exfalso;rcases hff with⟨rfl,rfl⟩|⟨z,r',rfl,hz2⟩
    ·simp[ap,fresh,hg,isN]at hfr
    ·rw[show ap (ap (z::r') [Ev.kl k]) (klL (ba N))=z::ap (ap r' [Ev.kl k]) (klL (ba N))from rfl,xh hz2]at hfr;cases hfr
  |none=>
   simp only[hroot]at hv⊢;split at hv
   ·rename_i x hx;unfold oS at hv⊢;generalize hN:newL d 0 W.rt (W.res x y)=q at hv⊢;obtain⟨v,N,j'⟩:=q;simp only at hv⊢;have hu':∃oa,u=.slice oa 0 0:=by have:ae p.β M (Imm F p M w) w .nl u:=h0;simp only[ae,ac,bG,az]at this;exact this
    obtain⟨oa,rfl⟩:=hu';have hxx:Rel (Imm F p M1 w) w W.o x (λ_=>False) [.slice oa 0 0]:=ZA hx;unfold Oper.wp;rw[hr,vY];refine (O1 (S:=λ_=>False) hw hfz.hp (AV hG hfz.hp hL) (Tr.refl hfz.hp) (λb=>⟨λh=>hL b h,λh=>h.elim⟩) (λb hb=>hb.elim) _ x us y hxx hargs hv d hN).mono λe w' ⟨v',p',q1,q2,q3,q4,q5⟩=>?_;subst q1;refine⟨_,rfl,p',?_,q3,q4,λhfr _=>?_⟩
    ·exact hfz.trans q2
    ·rcases hff with⟨rfl,rfl⟩|⟨z,r',rfl,hz2⟩
     ·exact q5 (λ_ h=>h) hfr
     ·exfalso;rw[show ap (z::r') (klL (ba N))=z::ap r' (klL (ba N))from rfl,xh hz2]at hfr;cases hfr
   ·exact hv.1.elim
 ·exact hv.1.elim
theorem RB(hG:ln P F)(h:Hp F p M w)(hL:∀b,¬p.L b)(hspec:tZ P f ct)(vs:cf)(us:aM)(hlen:us.length=vs.length)(hrel:∀(i:Nat) v u,vs[i]? = some v->us[i]? = some u->ae p.β M (Imm F p M w) w v u)(hr:(execOp a.eval o).run P w=.ok (.enter f us.toArray) w)(hv:ab (pC ct d vs M).vc)(qt:bo)(Q:gi):o.wp P a w (λa' w'=>∃v,a'=a.put o.dst v/\cd F p M w qt (pC ct d vs M) v w') Q:=by
 unfold pC at hv⊢;unfold tZ at hspec
 cases hs:shp vs ct.ga with
 |false=>rw[hs]at hv;exact hv.1.elim
 |true=>
  simp only[hs,aD]at hv⊢
  cases hsh:ct.sh with
  |false=>
   simp only[hsh]at hv⊢;split at hv
   ·rename_i x hx;generalize hN:newL d 0 ct.rt (ct.res x)=q at hv⊢;obtain⟨v,N,j'⟩:=q;simp only at hv⊢;unfold Oper.wp;rw[hr,vY];refine (hspec (All F w) w _ x (acp hG h) (λb hb=>hb.1) (Q7 h _ _ _ _ _ hlen hrel hs hx) hv).mono λe w' ⟨rs,S,he1,he2,he3,he4⟩=>?_;subst he1;obtain⟨p',t1,t2,t3,t4⟩:=R9 h hL ct d x (A:=All F w) (λh=>by rw[hsh]at h;cases h) he2 he3 he4 hN;exact⟨_,rfl,p',t1,t2,t3,λhfr _=>t4 hfr⟩
   ·exact hv.1.elim
  |true=>
   simp only[hsh]at hv⊢;have hfz:=AU vs M h;have hff:=Ky vs M;generalize ew M vs=z at hv hfz hff⊢;obtain⟨e0,M1⟩:=z;simp only at hv hfz hff⊢;split at hv
   ·rename_i x hx;generalize hN:newL d 0 ct.rt (ct.res x)=q at hv⊢;obtain⟨v,N,j'⟩:=q;simp only at hv⊢;unfold Oper.wp;rw[hr,vY]
    have hrel1:∀(i:Nat) v u,(gy e0 vs)[i]? = some v->us[i]? = some u->ae p.β M1 (Imm F p M1 w) w v u:=λi v u hv hu=>by
     rw[AG]at hv
     cases hx:vs[i]? with
     |none=>rw[hx]at hv;cases hv
     |some v0=>rw[hx]at hv;simp only[fq,aI]at hv;subst hv;exact hfz.s _ _ (hrel i v0 u hx hu)
    refine (hspec (Imm F p M1 w) w _ x (AV hG hfz.hp hL) (λb hb=>hb.1) (Bu hfz.hp _ _ _ _ _ (by rw[qG];exact hlen) hrel1 (by rw[EB];exact hs) hx) hv).mono λe w' ⟨rs,S,he1,he2,he3,he4⟩=>?_;subst he1;obtain⟨p',t1,t2,t3,t4⟩:=R9 hfz.hp hL ct d x (A:=Imm F p M1 w) (λ_ b hb=>hb) he2 he3 he4 hN;refine⟨_,rfl,p',hfz.trans t1,t2,t3,λhfr _=>?_⟩;rcases hff with⟨rfl,rfl⟩|⟨y,r,rfl,hy⟩
    ·exact t4 hfr
    ·exfalso;rw[show ap (y::r) (klL (ba N))=y::ap r (klL (ba N))from rfl]at hfr;rw[xh hy]at hfr;cases hfr
   ·exact hv.1.elim
theorem OW(hΦ:iv P F Φ)(h:Hp F p M w)(hL:∀b,¬p.L b)(hf:Φ f=some ct)(vs:cf)(us:aM)(hlen:us.length=vs.length)(hrel:∀(i:Nat) v u,vs[i]? = some v->us[i]? = some u->ae p.β M (Imm F p M w) w v u)(hr0:(∀args w,(callFunc f args).run P w=.ok (.enter f args) w)->(execOp a.eval o).run P w=.ok (.enter f us.toArray) w)(hv:ab (nP ct d vs M).vc)(qt:bo)(Q:gi):o.wp P a w (λa' w'=>∃v,a'=a.put o.dst v/\cd F p M w qt (nP ct d vs M) v w') Q:=by
 obtain⟨hΦ,hG⟩:=hΦ;obtain⟨hcall,hspec⟩:=hΦ f ct hf;have hr:=hr0 hcall;unfold nP at hv⊢
 cases hmu:ct.mu with
 |some mu=>
  cases mu with
  |o O=>simp only[hmu]at hv hspec⊢;unfold Oper.wp;rw[hr,vY];refine (hspec F p M w vs us hG h hL hlen hrel hv).mono λe w' ⟨r,h1,p',h2,h3,h4,h5⟩=>?_;subst h1;exact⟨_,rfl,p',h2,h3,h4,λhfr _=>h5 hfr rfl⟩
  |m m=>simp only[hmu]at hv hspec⊢;exact F_ hG h hL hspec _ _ hlen hrel hr hv qt Q
  |w W=>simp only[hmu]at hv hspec⊢;exact Zi hG h hL hspec _ _ hlen hrel hr hv qt Q
  |s s=>simp only[hmu]at hv;exact hv.1.elim
  |a W=>simp only[hmu]at hv hspec⊢;exact Zs hG h hL hspec _ _ hlen hrel hr hv qt Q
  |k W=>simp only[hmu]at hv hspec⊢;exact g_ hG h hL hspec _ _ hlen hrel hr hv qt Q
  |c W=>simp only[hmu]at hv hspec⊢;exact w_ hG h hL hspec _ _ hlen hrel hr hv qt Q
  |v l=>
   simp only[hmu]at hv hspec⊢
   cases hp:qY M vs l with
   |none=>rw[hp]at hv;exact hv.1.elim
   |some q=>simp only[hp]at hv⊢;exact RB hG h hL (hspec q (Pg hp)) _ _ hlen hrel hr hv qt Q
 |none=>simp only[hmu]at hv hspec⊢;exact RB hG h hL hspec _ _ hlen hrel hr hv qt Q
theorem xp{q:Nat×Operand}(h:q∈ps.toList):q.2∈bf.snds (toL ps):=by
 rw[cK];generalize ps.toList=l at h
 induction l with
 |nil=>cases h
 |cons x l ih=>
  obtain⟨i,y⟩:=x;simp only[bf.snds];rcases cz.1 h with rfl|h
  ·simp
  ·exact fp _ (ih h)
theorem Z0(hB:TabOk P B)(h:Hp F p M w)(hL:∀b,¬p.L b)(dst:eP)(x:V)(u:bw)(hx:ae p.β M (Imm F p M w) w x u)(hv:ab (kR (B.τ t) M dst x).vc)(qt:bo):
  ∃r,(Instr.loadAt t u).run P w=.ok r w/\cd F p M w qt (kR (B.τ t) M dst x) r w:=by
 unfold kR at hv⊢;obtain⟨r,h1,h2⟩:=OL hB h _ _ hx hv;exact⟨r,h1,cd.pure h hL h2 _⟩
theorem ab0{r:Nat}(q:Ob)(M':Mem)(hc:qO gid r π M=some (q,[],M')):False:=by
 unfold qO at hc
 cases hok:neg (d6 r gid)with
 |true=>rw[hok]at hc;cases hc
 |false=>
  rw[hok]at hc;simp only[bc]at hc
  cases hg:go M r with
  |none=>rw[hg]at hc;cases hc
  |some ob=>
   rw[hg]at hc;simp only at hc
   cases hq:get π ob.o ob.x with
   |none=>rw[hq]at hc;cases hc
   |some q0=>
    rw[hq]at hc
    cases π with
    |nil=>cases hc
    |cons s π=>
     simp only at hc
     cases hh:nZ (s::π)with
     |true=>rw[hh]at hc;cases hc
     |false=>rw[hh]at hc;simp only[bc]at hc;split at hc<;>cases hc
theorem V'(hB:TabOk P B)(h:Hp F p M w)(hL:∀b,¬p.L b)(ρ:dI)(x:dJ)(lo hi:pK)(hx:ae p.β M (Imm F p M w) w (ρ x) (a.eval x))(hlo:∀y,lo=some y->ae p.β M (Imm F p M w) w (ρ y) (a.eval y))(hhi:∀y,hi=some y->ae p.β M (Imm F p M w) w (ρ y) (a.eval y))(hv:ab (vv B (B.τ t) ρ x lo hi M).vc)(qt:bo)(ho:o.op=.slice t x lo hi none):∃v w',(execOp a.eval o).run P w=.ok (.value v) w'/\cd F p M w qt (vv B (B.τ t) ρ x lo hi M) v w':=by
 unfold vv at hv⊢;split at hv
 ·rename_i r π hr;split at hv
  ·rename_i q e M' hc;rw[hr]at hx;have hx1:Ref p.β M w r π [a.eval x]:=by have:=hx;simp only[ae,ac]at this;exact this
   obtain⟨_,p1,S,cv⟩:=Q6 h gid r π [a.eval x] q e M' hx1 hc;have td:=Tr.drop cv.tr.hp (λb=>p.L b) (λb hb=>(cv.L b).2 (.inl hb));have tt:Tr F p M w e ⟨p1.β,p1.σ,λb=>p.L b⟩ M' w:=by have:=cv.tr.trans td;rwa [qS]at this
   have hrel:ae p1.β M' (Imm F ⟨p1.β,p1.σ,λb=>p.L b⟩ M' w) w (.d q.o.strip q.x) (a.eval x):=by rw[bp];refine Rel.frz (λb hb=>(td.keep b hb).1) q.o q.x S [a.eval x] (λb hb=>?_) cv.rel;have hl:=cv.tr.hp.lim b ((cv.L b).2 (.inr hb));exact⟨hl.1,.inr hl.2.1.r,λh=>cv.sp b hb h,hl.2.2⟩
   obtain⟨u,h1,h2⟩:=RS (p:=⟨p1.β,p1.σ,λb=>p.L b⟩) (M:=M') hB (x0:=x) (lo0:=lo) (hi0:=hi) _ (λy=>(ρ y).evs e) hrel (λy hy=>tt.s _ _ (hlo y hy)) (λy hy=>tt.s _ _ (hhi y hy)) hv;refine⟨u,w,by simp[execOp,ho,h1],_,tt,hL,h2,λhf _=>?_⟩;exfalso;rcases cv.fr with⟨e1,_,_⟩|⟨y,r',e1,e2⟩
   ·subst e1;exact ab0 q M' hc
   ·subst e1;have:=xh (M:=M) (r:=r') e2;rw[this]at hf;cases hf
  ·exact hv.1.elim
 ·obtain⟨u,h1,h2⟩:=RS hB (x0:=x) (lo0:=lo) (hi0:=hi) _ ρ hx hlo hhi hv;exact⟨u,w,by simp[execOp,ho,h1],cd.pure h hL h2 _⟩
theorem ad8(hB:TabOk P B)(h:Hp F p M w)(hL:∀b,¬p.L b)(d:eP)(ρ:dI)(x:dJ)(lo hi:pK)(hx:ae p.β M (Imm F p M w) w (ρ x) (a.eval x))(hlo:∀y,lo=some y->ae p.β M (Imm F p M w) w (ρ y) (a.eval y))(hv:ab (ru B (B.τ t) d ρ x lo hi M).vc)(qt:bo)(ho:o.op=.slice t x lo hi none):∃v w',(execOp a.eval o).run P w=.ok (.value v) w'/\cd F p M w qt (ru B (B.τ t) d ρ x lo hi M) v w':=by
 unfold ru at hv⊢;split at hv
 ·rename_i r d ki n e hr hlo0 he
  obtain⟨y,rfl,hy⟩:∃y,lo=some y/\ρ y=.d (.int ki) n:=by
   cases lo with
   |none=>cases hlo0
   |some y=>simp only[iy,aI]at hlo0;exact⟨y,rfl,hlo0⟩
  split at hv
  ·rename_i oo l hg
   cases hk:aO [d6 r d,(B.τ t).ok,(B.τ e).ok,bT oo.strip.size (B.τ e).size]with
   |false=>rw[hk]at hv;exact hv.1.elim
   |true=>
    simp only[hk,aD,dX,fx,az]at hv⊢;simp only[bH,bJ,bC,ao,dL,bN]at hk;obtain⟨k0,k1,k2,k3⟩:=hk;obtain⟨hne,hgid⟩:=sV (r:=r) (k:=d) (by rw[k0];rfl);have eτ:=hB.τ t k1;have eτ':=hB.τ e k2;rw[←eτ]at k1 he;rw[←eτ']at k2 k3;obtain⟨inf,u,hi',hu⟩:=dn k1;obtain⟨infe,ue,hie,hue⟩:=dn k2;rw[cV hi' hu]at he;rw[cV hie hue]at k3;simp only[d7]at he k3;cases u<;>simp at he;obtain rfl:=he.symm;have h1:=hlo y rfl;rw[hy,bp,dR]at h1;rw[hr]at hx;simp only[ae,ac]at hx;obtain⟨ob,pl,q1,q2,q3,q4⟩:=hx;rw[hg]at q1;cases q1;simp only[res,aI,bE,bG,az]at q4;have hvβ:=q4.1;have hrel:=h.objs r _ hg;rw[hvβ]at hrel;have hrel0:=hrel;simp only[Rel,bG,az]at hrel;obtain⟨v',ety,xs,T,rfl,r2,r3,r4,r5,r6,r7⟩:=hrel;have hel:P.elem t=e:=by simp[Program.elem,hu]
    have hu':P.underlying t=some (.slice (P.elem t)):=by rw[hel];exact hu
    have hsz:(sizeOf (P.elem t)).run P w=.ok infe.size w:=by rw[hel];simp[sizeOf,typeInfo,hie]
    have hn0:(0:Int)<=n:=hv.1;have hnl:n<=(l.length:Int):=hv.2;have hnn:n.toNat<=l.length:=tn1 hnl
    obtain⟨oa,cap,hsl,hcap⟩:∃oa cap,a.eval x=.slice oa l.length cap/\l.length<=cap:=by
     rcases uL r2 with⟨hn,oa,hs⟩|⟨g,off,c,cur,hs,_,hc,_⟩
     ·exact⟨oa,0,by rw[hs,hn],aa⟩
     ·exact⟨_,_,hs,hc⟩
    have hrun:(execOp a.eval o).run P w=.ok (.value (sliced oa n.toNat l.length cap infe.size)) w:=by
     have:(Instr.sliceAt t (a.eval x) (some (a.eval y)) none none).run P w=.ok (sliced oa n.toNat l.length cap infe.size) w:=by rw[run_sliceAt_slice w t _ _ _ _ hu',hsl,h1.1,run_slice_l w t oa l.length cap hu' ki n hn0 hnl,hsz];rfl
     simp[execOp,ho,this]
    have c2:=Cv.whole h d hg hgid;obtain⟨hk1,hk2⟩:=Hp.del c2.tr.hp d;have hxl:xs.length=l.length*oo.size:=r2.1;have hos:oo.size=infe.size:=k3
    -- the row that begins later
    have hnew:kX w ety oo.size (sliced oa n.toNat l.length cap infe.size) (l.drop n.toNat).length (xs.drop (n.toNat*oo.size))/\∀b,dv (sliced oa n.toNat l.length cap infe.size)=some b->dv (a.eval x)=some b:=by
     rcases uL r2 with⟨hn,oa',hs⟩|⟨g,off,c,cur,hs,hg1,hc1,hc2,hc3,hc4⟩
     ·rw[hs]at hsl;simp only[Value.slice.injEq]at hsl;obtain⟨rfl,_,rfl⟩:=hsl;have hz:n.toNat=0:=aa
      have hl0:l=[]:=jR hn;subst hl0;rw[hz];simp only[sliced,dA,List.drop_nil,bh,vZ,Nat.zero_mul,List.drop_zero];have hxs:xs=[]:=jR (by simpa using hxl);rw[hxs];exact⟨Rg w ety _ _,λb hb=>by cases oa'<;>cases hb⟩
     ·rw[hs]at hsl;simp only[Value.slice.injEq]at hsl;obtain⟨rfl,_,rfl⟩:=hsl;have hdl:(xs.drop (n.toNat*oo.size)).length=(l.drop n.toNat).length*oo.size:=by rw[jw,jw,hxl,Nat.sub_mul]
      by_cases hce:c+1=n.toNat
      ·have hll:l.length=n.toNat:=aa
       have e0:(l.drop n.toNat).length=0:=by rw[jw];omega
       simp only[sliced,am hce];rw[show l.length-n.toNat=0 by omega,show c+1-n.toNat=0 by omega];refine⟨⟨hdl,.inl ⟨e0,_,rfl⟩⟩,λb hb=>by cases hb⟩
      ·simp only[sliced,aj hce,fq];rw[rX];obtain⟨m,hm⟩:∃m,c+1-n.toNat=m+1:=⟨c-n.toNat,aa⟩;rw[hm];refine⟨⟨hdl,.inr ⟨g,off+n.toNat*infe.size,m,cur,by rw[jw],hg1,by rw[jw];omega,aa,?_,?_⟩⟩,λb hb=>by rw[hs];exact hb⟩
       ·rw[hc3,←hm,hos,Nat.sub_mul];have:n.toNat*infe.size<=(c+1)*infe.size:=n7 _ aa;omega
       ·rw[←hc4,Cy,wn,hos,jw,Nat.sub_mul]
    obtain⟨o1,o2⟩:=hnew;have hσ:∀b,p.σ r b->p.L b\/p.σ r b:=λb hb=>.inr hb;have hld:∀i,(l.drop n.toNat)[i]? = l[n.toNat+i]?:=λi=>gn;refine⟨_,w,hrun,cd.appQ (r:=⟨_,.ref d [],[.kl r,.kl d],_⟩) (p':=_) (c2.tr.trans ((Tr.kl c2.tr.hp d).trans (Tr.new (w':=w) hk1 d (eJ d _) (sliced oa n.toNat l.length cap infe.size) (p.σ r) ⟨.sl oo,l.drop n.toNat⟩ ⟨rfl,⟨rfl,bd _⟩,rfl,bd _,λ_ _ _=>rfl⟩ (λb hb=>.inr (.inr hb)) (λhkp=>?_)))) (λb hb=>hb) ?_ ?_⟩
    ·simp only[Rel];refine⟨_,ety,_,λi=>T (n.toNat+i),rfl,o1,by rw[jw];omega,λb hb=>r4 b (o2 b hb),λi c hc=>⟨(r5 _ c hc).1,λe=>(r5 _ c hc).2 (o2 c e)⟩,λi j c hij=>r6 _ _ c aa,λi z hz=>?_⟩;rw[hld]at hz;have:=r7 _ z hz;rw[wn,←lB];exact Rel.keep ((c2.tr.keep.trans (Tr.kl c2.tr.hp d).keep).trans hkp) _ _ _ _ (λ_ _=>rfl) this
    ·simp only[ae,ac];refine⟨⟨.sl oo,l.drop n.toNat⟩,none,mG _ _ _,by simp only[gok],⟨⟨.sl oo,l.drop n.toNat⟩,by simp only[get]⟩,?_⟩;rw[uT];simp only[res]
    ·show fresh M [.kl r,.kl d]=false;simp[fresh,hg,isN]
  ·exact hv.1.elim
 ·exact hv.1.elim
theorem W_(hB:TabOk P B)(h:Hp F p M w)(hL:∀b,¬p.L b)(d:eP)(ρ:dI)(x:dJ)(lo hi:pK)(hx:ae p.β M (Imm F p M w) w (ρ x) (a.eval x))(hlo:∀y,lo=some y->ae p.β M (Imm F p M w) w (ρ y) (a.eval y))(hhi:∀y,hi=some y->ae p.β M (Imm F p M w) w (ρ y) (a.eval y))(hv:ab (kx B t d ρ x lo hi M).vc)(qt:bo)(ho:o.op=.slice t x lo hi none):∃v w',(execOp a.eval o).run P w=.ok (.value v) w'/\cd F p M w qt (kx B t d ρ x lo hi M) v w':=by
 unfold kx at hv⊢
 cases hn:nsT (B.σ t)with
 |true=>simp only[hn,aD]at hv⊢;exact ad8 hB h hL d ρ x lo hi hx hlo hv qt ho
 |false=>simp only[hn,bc]at hv⊢;exact V' hB h hL ρ x lo hi hx hlo hhi hv qt ho
theorem aa7(hΦ:iv P F Φ)(hB:TabOk P B)(h:Hp F p M w)(hL:∀b,¬p.L b)(o:bj)(ρ:dI)(hρ:∀x∈bf o.op,ae p.β M (Imm F p M w) w (ρ x) (a.eval x))(hv:ab (bI B Φ o ρ M).vc)(Q:gi):
  o.wp P a w (λa' w'=>∃v,a'=a.put o.dst v/\cd F p M w (fG o) (bI B Φ o ρ M) v w') Q:=by
 have pure_ok:∀{q:Cr} {r:bw},(execOp a.eval o).run P w=.ok (.value r) w->ae p.β M (Imm F p M w) w q.2 r->o.wp P a w (λa' w'=>∃v,a'=a.put o.dst v/\cd F p M w (fG o) (bR q M) v w') Q:=λhr hx=>ES hr ⟨_,rfl,cd.pure h hL hx _⟩;have val_ok:∀{r:Rs},(∃v w',(execOp a.eval o).run P w=.ok (.value v) w'/\cd F p M w (fG o) r v w')->o.wp P a w (λa' w'=>∃v,a'=a.put o.dst v/\cd F p M w (fG o) r v w') Q:=λ⟨v,w',hr,hd⟩=>ES hr ⟨_,rfl,hd⟩;obtain⟨dst,op,ty',pos,after,guard⟩:=o;cases op
 case move x=>exact pure_ok (r:=a.eval x) (by simp[execOp]) (hρ x (by simp[bf]))
 case assign x=>exact pure_ok (r:=a.eval x) (by simp[execOp]) (hρ x (by simp[bf]))
 case nilCheck x=>simp only[bI,bR]at hv;obtain⟨⟨ad,h1⟩,h2⟩:=Y_ _ _ (hρ x (by simp[bf])) hv;exact pure_ok (r:=a.eval x) (by simp[execOp,h1]) h2
 case load t x=>simp only[bI]at hv⊢;obtain⟨r,h1,h2⟩:=Z0 hB h hL dst _ _ (hρ x (by simp[bf])) hv (fG { dst:=dst,op:=.load t x,type:=ty',pos:=pos,after:=after,guard:=guard });exact val_ok ⟨r,w,by simp[execOp,h1],h2⟩
 case fieldAddr t x i=>simp only[bI,bR]at hv;obtain⟨r,h1,h2⟩:=ZL hB h _ _ (hρ x (by simp[bf])) hv;exact pure_ok (r:=r) (by simp[execOp,h1]) h2
 case field t x i=>simp only[bI,bR]at hv;obtain⟨r,h1,h2⟩:=V_ hB h _ _ (hρ x (by simp[bf])) hv;exact pure_ok (r:=r) (by simp[execOp,h1]) h2
 case indexAddr t x i=>simp only[bI,bR]at hv;obtain⟨r,h1,h2⟩:=R_ hB h _ _ _ _ (hρ x (by simp[bf])) (hρ i (by simp[bf])) hv;exact pure_ok (r:=r) (by simp[execOp,h1]) h2
 case index t x i=>simp only[bI,bR]at hv;obtain⟨r,h1,h2⟩:=abo hB t _ _ _ _ (hρ x (by simp[bf])) (hρ i (by simp[bf])) hv;exact pure_ok (r:=r) (by simp[execOp,h1]) h2
 case binOp op t x y yt=>simp only[bI,bR]at hv;obtain⟨r,h1,h2⟩:=Z8 hB op t x y _ _ _ _ _ _ (ZU a y) (ZR a y) (hρ x (by simp[bf])) (hρ y (by simp[bf])) hv;refine pure_ok (r:=r) ?_ h2;simp only[execOp,fW,lD]at h1⊢;rw[h1];rfl
 case unOp op t x=>simp only[bI,bR]at hv;obtain⟨r,h1,h2⟩:=abq (P:=P) op _ _ (hρ x (by simp[bf])) hv;exact pure_ok (r:=r) (by simp[execOp,h1]) h2
 case convert s d x=>simp only[bI,bR]at hv;obtain⟨r,h1,h2⟩:=Zk hB h s d _ _ (hρ x (by simp[bf])) hv;exact pure_ok (r:=r) (by simp[execOp,h1]) h2
 case extract x i=>simp only[bI,bR]at hv;obtain⟨r,h1,h2⟩:=G' (P:=P) _ i _ (hρ x (by simp[bf])) hv;exact pure_ok (r:=r) (by simp[execOp,h1]) h2
 case slice t x lo hi mx=>
  cases mx with
  |some _=>simp only[bI]at hv;exact hv.1.elim
  |none=>simp only[bI]at hv⊢;exact val_ok (W_ hB h hL dst ρ x lo hi (hρ x (by simp[bf])) (λy hy=>hρ y (by subst hy;simp[bf,bf.optL,ap])) (λy hy=>hρ y (by subst hy;simp[bf,bf.optL,eL])) hv _ rfl)
 case alloc e=>simp only[bI]at hv⊢;exact val_ok (abj hB h hL dst hv _ rfl)
 case box e x=>simp only[bI]at hv⊢;exact val_ok (aaq h hL dst _ x (hρ x (by simp[bf])) hv _ rfl)
 case build t parts=>simp only[bI]at hv⊢;exact val_ok (Zv hB h hL ρ (λq hq=>hρ q.2 (xp hq)) hv _ rfl)
 case buildSlice t n parts=>simp only[bI]at hv⊢;exact val_ok (U' hB h hL ρ (λq hq=>hρ q.2 (xp hq)) dst hv _ rfl)
 case makeSlice t l c=>simp only[bI]at hv⊢;exact val_ok (Z6 hB h hL _ _ (hρ l (by simp[bf])) (hρ c (by simp[bf])) dst hv _ rfl)
 case makeFunc fn fs cs=>
  simp only[bI,bR]at hv;have hlen:(cs.toList.map a.eval).length=(gz ρ cs.toList).length:=by rw[Ea,cC]
  unfold Fm at hv;split at hv
  ·rename_i f c hf hc;have hfs:fs=#[]:=by apply mq;rw[cK]at hf;simpa using hf
   subst hfs;rw[cK]at hc
   have hrc:=Rl h (gz ρ cs.toList) (cs.toList.map a.eval) c hlen (λi v u hv hu=>by
    rw[DT]at hv;rw[gJ]at hu
    cases hx:cs.toList[i]? with
    |none=>rw[hx]at hv;cases hv
    |some x=>rw[hx]at hv hu;simp only[fq,aI]at hv hu;subst hv;subst hu;exact hρ x (by simp only[bf,cK,eL];exact rZ _ (ul hx))) hc
   refine pure_ok (r:=.func (.func f) #[] (cs.toList.map a.eval).toArray) (by
    have e:(cs.toList.map a.eval).toArray=cs.map a.eval:=by apply mq;simp
    rw[e];simp[execOp,Instr.makeFunc]) ?_
   have hev:Fm M (.func f) (toL #[]) (gz ρ (toL cs))=bB (.fn f c):=by unfold Fm;rw[cK,cK,hc]
   rw[hev];simp only[bB,ae,ac];exact⟨_,rfl,hrc⟩
  ·exact hv.1.elim
 case store t x y=>simp only[bI]at hv;simp only[bI];obtain⟨w',hr,hd⟩:=X_ hB h hL (op:={ dst:=dst,op:=.store t x y,type:=ty',pos:=pos,after:=after,guard:=guard }) _ _ (hρ x (by simp[bf])) (hρ y (by simp[bf])) hv rfl;exact PI hr ⟨_,rfl,hd⟩
 case lookup t x i ok=>simp only[bI,bR]at hv;obtain⟨r,h1,h2⟩:=v_ hB h _ _ _ _ ok (hρ x (by simp[bf])) (hρ i (by simp[bf])) hv;exact pure_ok (r:=r) (by simp[execOp,h1]) h2
 case makeMap t rs=>
  cases rs with
  |some _=>simp only[bI]at hv;exact hv.1.elim
  |none=>simp only[bI]at hv⊢;obtain⟨r,w',h1,h2⟩:=Zo hB h hL dst hv (fG { dst:=dst,op:=.makeMap t none,type:=ty',pos:=pos,after:=after,guard:=guard });exact val_ok ⟨r,w',by simp[execOp,h1],h2⟩
 case mapUpdate t m i x=>simp only[bI]at hv⊢;obtain⟨w',hr,hd⟩:=Zp hB h hL _ _ _ _ _ _ (hρ m (by simp[bf])) (hρ i (by simp[bf])) (hρ x (by simp[bf])) hv;exact PI (by simp[execOp,hr]) ⟨_,rfl,hd⟩
 case makeInterface t x=>simp only[bI,bR]at hv;obtain⟨r,h1,h2⟩:=Z' hB h _ _ (hρ x (by simp[bf])) hv;exact pure_ok (r:=r) (by simp[execOp,h1]) h2
 case typeAssert x xt i ok=>simp only[bI,bR]at hv;obtain⟨r,h1,h2⟩:=aav hB (xt:=xt) ok _ _ (hρ x (by simp[bf])) hv;exact pure_ok (r:=r) (by simp[execOp,h1]) h2
 case call c=>
  obtain⟨callee,args,argTypes⟩:=c;simp only[bf,cK]at hρ;have hρa:∀x∈args.toList,ae p.β M (Imm F p M w) w (ρ x) (a.eval x):=λx hx=>hρ x (by rw[eL];exact rZ _ hx);simp only[bI,cK]at hv⊢;split at hv
  ·split at hv
   ·rename_i x t ha ht;have ha':args=#[x]:=by apply mq;simpa using ha
    have ht':argTypes=#[t]:=by apply mq;simpa using ht
    subst ha';subst ht';simp only[bR]at hv;obtain⟨r,h1,h2⟩:=aae hB (ty':=ty') h _ _ (hρa x ak) hv;refine pure_ok (r:=r) ?_ h2;simp[execOp,resolve,invoke,builtin,h1]
   ·exact hv.1.elim
  ·split at hv
   ·rename_i x y ha;have ha':args=#[x,y]:=by apply mq;simpa using ha
    subst ha';simp only[bR]at hv;obtain⟨r,h1,h2⟩:=RD (P:=P) true argTypes ty' _ _ _ _ (hρa x ak) (hρa y ak) hv;exact pure_ok (r:=r) (by simp only[aD]at h1;simp[execOp,resolve,invoke,builtin,h1]) h2
   ·exact hv.1.elim
  ·split at hv
   ·rename_i x y ha;have ha':args=#[x,y]:=by apply mq;simpa using ha
    subst ha';simp only[bR]at hv;obtain⟨r,h1,h2⟩:=RD (P:=P) false argTypes ty' _ _ _ _ (hρa x ak) (hρa y ak) hv;exact pure_ok (r:=r) (by simp only[bc]at h1;simp[execOp,resolve,invoke,builtin,h1]) h2
   ·exact hv.1.elim
  ·split at hv
   ·rename_i x y t t' ha ht;have ha':args=#[x,y]:=by apply mq;simpa using ha
    have ht':argTypes=#[t,t']:=by apply mq;simpa using ht
    subst ha';subst ht';simp only[cS]at hv⊢;split at hv
    ·rename_i e;subst e;rw[am rfl];obtain⟨v',w',hr,hd⟩:=K_ hB (ty':=ty') h hL dst _ _ _ _ (hρa x ak) (hρa y ak) hv;exact ES (v:=v') (w':=w') (by simp[execOp,resolve,invoke,builtin,hr]) ⟨_,rfl,hd⟩
    ·exact hv.1.elim
   ·exact hv.1.elim
  ·rename_i cx;split at hv
   ·rename_i f c d hfn;split at hv
    ·rename_i ct cs hf hcs;obtain⟨us,hcx,hcr⟩:=aer (hρ cx (by rw[eL];exact jU _ (by simp[bf.calO]))) hfn;obtain⟨cl,crel⟩:=Ru h c us cs hcr hcs;have hal:(args.toList.map a.eval).length=(gz ρ args.toList).length:=by rw[Ea,cC]
     refine OW hΦ h hL hf (o:={ dst:=some d,op:=.call { callee:=.value cx,args:=args,argTypes:=argTypes },type:=ty',pos:=pos,after:=after,guard:=guard }) (ap (gz ρ args.toList) cs) (args.toList.map a.eval++us) (by rw[eL,bn,bn,hal,cl]) (λi v u hv hu=>?_) (λhc=>?_) hv _ Q
     ·rw[eL]at hv;by_cases hi:i<(gz ρ args.toList).length
      ·rw[fT hi]at hv;rw[fT aa]at hu;rw[DT]at hv;rw[gJ]at hu
       cases hx:args.toList[i]? with
       |none=>rw[hx]at hv;cases hv
       |some x=>rw[hx]at hv hu;simp only[fq,aI]at hv hu;subst hv;subst hu;exact hρa x (ul hx)
      ·rw[g9 aa]at hv;rw[g9 aa]at hu;rw[hal]at hu;exact crel _ v u hv hu
     ·have e:(args.toList.map a.eval++us).toArray=args.map a.eval++us.toArray:=by apply mq;simp
      rw[e];have hc1:=hc (args.map a.eval++us.toArray) w;simp[execOp,resolve,hcx,Deferred.ofValue,invoke,hc1]
    ·exact hv.1.elim
   ·exact hv.1.elim
  ·rename_i rc name;split at hv
   ·rename_i t v d hin;split at hv
    ·rename_i f hfm;split at hv
     ·rename_i ct hf;obtain⟨y,hy,hyr⟩:=Sq (hρ rc (by rw[eL];exact jU _ (by simp[bf.calO]))) hin;have hal:(args.toList.map a.eval).length=(gz ρ args.toList).length:=by rw[Ea,cC]
      refine OW hΦ h hL hf (o:={ dst:=some d,op:=.call { callee:=.invoke rc name,args:=args,argTypes:=argTypes },type:=ty',pos:=pos,after:=after,guard:=guard }) (v::gz ρ args.toList) (y::args.toList.map a.eval) (by simp[hal]) (λi v' u hv hu=>?_) (λhc=>?_) hv _ Q
      ·cases i with
       |zero=>simp only[iz,aI]at hv hu;subst hv;subst hu;exact hyr
       |succ i=>
        simp only[lC]at hv hu;rw[DT]at hv;rw[gJ]at hu
        cases hx:args.toList[i]? with
        |none=>rw[hx]at hv;cases hv
        |some x=>rw[hx]at hv hu;simp only[fq,aI]at hv hu;subst hv;subst hu;exact hρa x (ul hx)
      ·have e:(y::args.toList.map a.eval).toArray=#[y]++args.map a.eval:=by apply mq;simp
       rw[e];have hc1:=hc (#[y]++args.map a.eval) w;obtain⟨k,hk⟩:∃k,P.types.size+Made.depth=k+1:=⟨P.types.size+99,rfl⟩;have hm:=ZM (w:=w) hB.m hfm k y;have e0:(#[Value.iface t y]++args.map a.eval)[0]? = some (Value.iface t y):=by rw[wd Nat.zero_lt_one];rfl
       have e2:(args.map a.eval).extract 0 args.size=args.map a.eval:=by
        have:=Array.extract_size (xs:=args.map a.eval)
        rwa [Array.size_map]at this
       simp only[execOp,resolve,hy];simp[invoke,callMethod,e0,e2,hk,hm,hc1]
     ·exact hv.1.elim
    ·exact hv.1.elim
   ·exact hv.1.elim
  ·exact hv.1.elim
 all_goals exact hv.1.elim
section
variable (hp:Hp F p' M' w')(q:Qt p M p' M' w w')(hL:∀ b,¬ p.L b)
include hp q hL
omit hp in
theorem Fh(h:Imm F p' M' w' b):Imm F p M w' b:=by refine⟨h.1,h.2.1,hL b,λj hj=>?_⟩;obtain⟨ob,ho⟩:=JY hj;obtain⟨h1,h2,h3⟩:=q.old j ob ho;rw[←h3];exact h.2.2.2 j (bP h1)
theorem KV(hk:go M k=none)(hl:bm M' k)(h:p'.σ k b):Imm F p M w' b:=by obtain⟨h1,h2⟩:=hp.own k b hl h;refine⟨h1,h2.elim (λh=>.inr (.inl h.2)) (λh=>.inr h.r),hL b,λj hj=>?_⟩;obtain⟨ob,ho⟩:=JY hj;obtain⟨e1,e2,e3⟩:=q.old j ob ho;rw[←e3];exact hp.sep k j b (λe=>by rw[e,ho]at hk;cases hk) hl (bP e1) h
theorem abv(k:Nat)(π:bz)(vs:aM)(r:Ref p'.β M' w' k π vs):ac p.β M (Imm F p M w') w' (avF M M' (.ref k π)) vs:=by
 simp only[avF];split
 ·rename_i ob ho;obtain⟨e1,e2,e3⟩:=q.old k ob ho;simp only[ac];obtain⟨ob',pl,k1,k2,k3,k4⟩:=r;rw[e1]at k1;cases k1;exact⟨ob,pl,ho,k2,k3,by rw[←e2];exact k4⟩
 ·rename_i ho;split
  ·rename_i qq hq;obtain⟨ob,g1,g2⟩:=nG hq;obtain⟨ob',pl,k1,k2,k3,k4⟩:=r;rw[g1]at k1;cases k1;obtain⟨us,pl',S',e1,e2,e3,_⟩:=look hp g1 k2 g2;rw[e1]at k4;cases k4;exact ko _ _ _ (Rel.frz (λb hb=>Fh q hL hb) _ _ S' _ (λb hb=>KV hp q hL ho (bP g1) (e2 b hb)) e3)
  ·simp only[ac];exact r.one hp
theorem act(k:Nat)(π:bz)(v:bw)(r:Adr p'.β M' w' k π v):ac p.β M (Imm F p M w') w' (avF M M' (.ad k π)) [v]:=by
 simp only[avF];split
 ·rename_i ob ho;obtain⟨e1,e2,e3⟩:=q.old k ob ho;simp only[ac];obtain⟨ob',us,b,off,k1,k2,k3,k4,k5,k6⟩:=r;rw[e1]at k1;cases k1;exact⟨v,rfl,ob,us,b,off,ho,k2,k3,k4,by rw[←e2];exact k5,k6⟩
 ·rename_i ho;split
  ·rename_i qq hq;obtain⟨ob,g1,g2⟩:=nG hq;obtain⟨ob',us0,b0,off0,k1,k2,k3,k4,k5,rfl⟩:=r;rw[g1]at k1;cases k1;obtain⟨us,pl',S',e1,e2,e3,e4,_⟩:=look hp g1 k2 g2;rw[e1]at k5;simp only[aI,bE]at k5;obtain⟨rfl,rfl⟩:=k5;obtain⟨b,off,cur,ty',c1,c2,c3,c4,c5⟩:=e4 k4;simp only[aI,bE]at c1;obtain⟨rfl,rfl⟩:=c1;simp only[ac,ai]
   exact⟨b0,off0,us,rfl,KV hp q hL ho (bP g1) c2,λj u hu=>by rw[lA w' b0 _ cur ty' (0,0) c4];exact c5 j u hu,
    Rel.frz (λb hb=>Fh q hL hb) _ _ S' _ (λb hb=>KV hp q hL ho (bP g1) (e2 b hb)) e3⟩
  ·simp only[ac];intro u hu;rw[cA.1 hu];exact r.one
theorem uF:(v:V)->(vs:aM)->ac p'.β M' (Imm F p' M' w') w' v vs->ac p.β M (Imm F p M w') w' (avF M M' v) vs
 |.p a b,vs,r=>by simp only[ac]at r;simp only[avF,ac];obtain⟨va,vb,h1,h2,h3⟩:=r;exact⟨va,vb,h1,uF a va h2,uF b vb h3⟩
 |.u,vs,r=>by simpa only [avF,ac]using r
 |.ref k π,vs,r=>by simp only[ac]at r;exact abv hp q hL k π vs r
 |.ad k π,vs,r=>by simp only[ac]at r;obtain⟨v,rfl,r⟩:=r;exact act hp q hL k π v r
 |.d t x,vs,r=>by simp only[ac,avF]at r⊢;exact ai.keep (λb hb=>⟨Fh q hL hb,rfl⟩) t x vs r
 |.nl,vs,r|.np,vs,r|.any,vs,r=>by simpa only [avF,ac]using r
 |.fn f v,vs,r=>by simp only[ac]at r;simp only[avF,ac];obtain⟨us,h1,h2⟩:=r;exact⟨us,h1,uF v us h2⟩
 |.bx v,vs,r=>by simp only[ac]at r;simp only[avF,ac];obtain⟨b,o,us,h1,h2,h3,h4⟩:=r;exact⟨b,o,us,h1,Fh q hL h2,h3,uF v us h4⟩
 |.ag _,vs,r|.tup _,vs,r|.gd _ _ _ _,vs,r=>by simp only[ac]at r
 |.ifc t v,vs,r=>by simp only[ac]at r;simp only[avF,ac];obtain⟨u,h1,h2⟩:=r;exact⟨u,h1,uF v [u] h2⟩
mutual
theorem TG:(v:V)->(u:bw)->ae p'.β M' (Imm F p' M' w') w' v u->ae p.β M (Imm F p M w') w' (avF M M' v) u
 |.any,u,r=>by simp only[avF,ae]
 |.ag v,u,r=>by simp only[avF,ae]at r⊢;obtain⟨vs,h1,h2⟩:=r;exact⟨vs,h1,uF hp q hL v vs h2⟩
 |.tup v,u,r=>by simp only[avF,ae]at r⊢;obtain⟨vs,h1,h2⟩:=r;exact⟨vs,h1,TW v vs h2⟩
 |.gd _ _ _ _,u,r=>by simp only[avF,ae]
 |.ifc t v,u,r|.p a b,u,r|.u,u,r|.ref k π,u,r|.ad k π,u,r|.d t x,u,r|.nl,u,r|.np,u,r|.fn f x,u,r|.bx x,u,r=>by simp only[ae]at r;exact my (uF hp q hL _ _ r)
theorem TW:(v:V)->(us:aM)->cD p'.β M' (Imm F p' M' w') w' v us->cD p.β M (Imm F p M w') w' (avF M M' v) us
 |.p a b,us,r=>by simp only[avF,cD]at r⊢;obtain⟨u,us',h1,h2,h3⟩:=r;exact⟨u,us',h1,TG a u h2,TW b us' h3⟩
 |.u,us,r=>by simpa only [avF,cD]using r
 |.any,us,r|.ag x,us,r|.tup x,us,r|.gd _ _ _ x,us,r|.ifc t x,us,r|.ref k π,us,r|.ad k π,us,r|.d t x,us,r|.nl,us,r|.np,us,r|.fn f x,us,r|.bx x,us,r=>by simp only[cD]at r
end
end
theorem F4(h:St F p env M a w)(x:dJ)(hx:lX x=true):ae p.β M (Imm F p M w) w (rd env x) (a.eval x):=by
 cases x with
 |tmp t=>simp only[rd,Act.eval];exact h.slots t
 |const v=>
  simp only[rd,Act.eval];simp only[lX]at hx
  cases v with
  |int k n=>simp only[rdV,bp,dR,aL];simp only[L0,inKb,bH,bJ,bC,ao,db]at hx;exact hx
  |bool b=>simp only[rdV,bp,gY]
  |string s=>simp only[rdV,bp,AC,aL];simp only[L0]at hx;exact eU hx
  |slice o n m=>
   cases o with
   |some _=>simp only[rdV,ae]
   |none=>
    simp only[rdV]
    cases hb:nob (Nat.beq n 0) (Nat.beq m 0)with
    |false=>simp only[bc,ae]
    |true=>simp only[aP,ao]at hb;have h1:=cR hb.1;have h2:=cR hb.2;subst h1;subst h2;simp only[aD,ae,ac];exact⟨none,rfl⟩
  |pointer o=>
   cases o with
   |some _=>simp only[rdV,ae]
   |none=>simp only[rdV,ae,ac]
  |nilIface=>simp only[rdV];rw[bp];simp only[ai];simp
  |_=>simp only[rdV,ae]
 |func f=>simp only[rd,Act.eval,ae,ac];exact⟨[],rfl,rfl⟩
 |global g=>simp only[rd,ae]
theorem DL(f:dI):∀(l:l7),ab (fH f l)->∀x∈l,∀j b Q v,f x=.gd j b Q v->Q
 |[],_,x,hx,_,_,_,_,_=>by cases hx
 |y::r,h,x,hx,j,b,Q,v,e=>by
  simp only[fH]at h;rcases cz.1 hx with rfl|hx
  ·rw[e]at h;exact h.1
  ·split at h
   ·exact DL f r h.2 x hx j b Q v e
   ·exact DL f r h x hx j b Q v e
theorem Eh{x:dJ}(h:ae p.β M (Imm F p M w) w (rd env x) u)(hn:∀j b Q v,rd env x=.gd j b Q v->Q):ae p.β M (Imm F p M w) w (rd env x).strip u:=by
 cases hx:rd env x with
 |gd j b Q v=>rw[hx]at h;simp only[ae]at h;simp only[V.strip];exact h.1 (hn j b Q v hx)
 |_=>rw[hx]at h;exact h
def yB(u:bw):Option Bool:=match u with|.bool b=>some b|_=>none
theorem Fu{β:fD}{Im:aT}:(x:V)->(u:bw)->(want:bo)->gN x=true->ae β M Im w x u->((yB u==some want)=true<->gc x want)
 |.d .bool b,u,want,_,r=>by rw[bp,gY]at r;subst r;simp[yB,gc]
 |.gd j b Q x,u,want,h,r=>by
  simp only[ae]at r;simp only[gN]at h;simp only[gc];by_cases hp:Q
  ·rw[Fu x u want h (r.1 hp)];simp[hp]
  ·rw[r.2 hp];simp[yB,undef,hp]
 |.any,_,_,h,_|.nl,_,_,h,_|.np,_,_,h,_|.u,_,_,h,_|.d (.int _) _,_,_,h,_|.d .str _,_,_,h,_|.d .u _,_,_,h,_|.d (.p _ _) _,_,_,h,_|.d (.sl _) _,_,_,h,_|.d (.pt _) _,_,_,h,_|.d (.fn _ _) _,_,_,h,_|.d .any _,_,_,h,_|.ref _ _,_,_,h,_|.ad _ _,_,_,h,_|.p _ _,_,_,h,_|.ag _,_,_,h,_|.tup _,_,_,h,_|.fn _ _,_,_,h,_|.ifc _ _,_,_,h,_|.bx _,_,_,h,_=>by simp[gN]at h
theorem IK(hd:(ops[j]?).bind (·.dst)=some d):yielded ops tmps j=yB (tmps.getD d undef):=by
 unfold yielded;rw[hd];simp only[Option.bind_some];rw[we]
 cases tmps[d]? with
 |none=>rfl
 |some u=>cases u<;>rfl
theorem Er(h:v.isB=true):∃b,v=.d .bool b/\v.boolV=b:=by
 cases v with
 |d t x=>cases t<;>simp[V.isB]at h;exact⟨x,rfl,rfl⟩
 |_=>simp[V.isB]at h
theorem ZF(h:St F p env M a w)(c x y:dJ)(hc:lX c=true)(hx:lX x=true)(hy:lX y=true)(hv:ab (qU env c x y).1):
  ∃r,(do pure (if ←asBool (a.eval c)then a.eval x else a.eval y):Sem Value).run P w=.ok r w/\ae p.β M (Imm F p M w) w (qU env c x y).2 r:=by
 unfold qU at hv⊢;have hk:=ed hv;simp only[hk,aD]at hv⊢;simp only[bH,bJ,bC,ao]at hk;obtain⟨cb,c1,c2⟩:=Er hk.1;obtain⟨xb,x1,x2⟩:=Er hk.2.1;obtain⟨yb,y1,y2⟩:=Er hk.2.2;simp only[fO]at hv;obtain⟨v1,v2,v3⟩:=hv;have hcv:=Eh (F4 h c hc) (λj b Q v e=>DL _ _ v1 c ak j b Q v e);rw[c1,bp,gY]at hcv;simp only[c1,x1,y1,V.boolV]at v2 v3⊢
 have hxv:cb=true->a.eval x=.bool xb:=λhcb=>by
  have:=Eh (F4 h x hx) (λj b Q v e=>by rw[e]at v2;simp only[po,dX]at v2;exact v2.1 hcb)
  rwa [x1,bp,gY]at this
 have hyv:cb=false->a.eval y=.bool yb:=λhcb=>by
  have:=Eh (F4 h y hy) (λj b Q v e=>by rw[e]at v3;simp only[po,dX]at v3;exact v3.1 hcb)
  rwa [y1,bp,gY]at this
 have hval:∀r,r=(if cb=true then a.eval x else a.eval y)->r=.bool (bif cb then xb else yb):=λr hr=>by
  cases cb with
  |true=>rw[hr,am rfl,hxv rfl];rfl
  |false=>rw[hr,aj ak,hyv rfl];rfl
 have hpick:Ft cb x y xb yb=(bif cb then xb else yb):=by
  unfold Ft;split
  ·simp only[rd,rdV,V.strip,V.d.injEq,heq_eq_eq,aL]at x1;subst x1;cases cb<;>rfl
  ·simp only[rd,rdV,V.strip,V.d.injEq,heq_eq_eq,aL]at y1;subst y1;cases cb<;>simp
  ·rfl
 refine⟨if cb=true then a.eval x else a.eval y,?_,?_⟩
 ·simp only[fW,lD,hcv,asBool,il]
 ·rw[bp,gY,hpick];exact hval _ rfl
def eM(nt:Nat):List Oper->Bool
 |[]=>true
 |o::r=>nob (match o.dst with|some k=>Nat.ble (Nat.succ k) nt|none=>true) (nob (BV lX (bf o.op)) (nob (match o.op with|.pick c a b=>aO [lX c,lX a,lX b]|_=>true) (eM nt r)))
theorem Aw(h:eM nt (o::r)=true):(∀k,o.dst=some k->k<nt)/\(∀x∈bf o.op,lX x=true)/\(∀c a b,o.op=.pick c a b->lX c=true/\lX a=true/\lX b=true)/\eM nt r=true:=by
 simp only[eM,aP,ao]at h;obtain⟨h1,h2,h3,h4⟩:=h;refine⟨λk hk=>?_,(I' _ _).1 h2,λc a b e=>?_,h4⟩
 ·rw[hk]at h1;exact eU h1
 ·rw[e]at h3;simpa only [bH,bJ,bC,ao]using h3
theorem qE{nt:Nat}{o:bj}:{l:bL}->eM nt l=true->o∈l->eM nt [o]=true
 |[],_,h=>by cases h
 |x::l,h,hm=>by
  rcases cz.1 hm with rfl|hm
  ·simp only[eM,aP,ao]at h⊢;exact⟨h.1,h.2.1,h.2.2.1,trivial⟩
  ·exact qE (Aw h).2.2.2 hm
theorem Bk(hΦ:iv P F Φ)(hB:TabOk P B)(h:St F p env M a w)(hc:eM F.nt [o]=true)(hv:ab (evR B Φ o env M).vc)(Q:gi):
  o.wp P a w (λa' w'=>∃v,a'=a.put o.dst v/\cd F p M w (fG o) (evR B Φ o env M) v w') Q:=by
 obtain⟨_,c1,c2,_⟩:=Aw hc;have key:∀r:Rs,bI B Φ o (λx=>(rd env x).strip) M=r->ab (fH (rd env) (bf o.op))->ab r.vc->o.wp P a w (λa' w'=>∃v,a'=a.put o.dst v/\cd F p M w (fG o) r v w') Q:=λr hr h1 h2=>by subst hr;exact aa7 hΦ hB h.hp h.lz o _ (λx hx=>Eh (F4 h x (c1 x hx)) (λj b Q v e=>DL _ _ h1 x hx j b Q v e)) h2 Q
 unfold evR at hv⊢;split at hv
 ·rename_i c x y hop;obtain⟨k1,k2,k3⟩:=c2 c x y hop;simp only[bR]at hv;obtain⟨r,h1,h2⟩:=ZF (P:=P) h c x y k1 k2 k3 hv;refine ES (v:=r) (w':=w) ?_ ⟨_,rfl,cd.pure h.hp h.lz h2 _⟩;simp only[fW,lD]at h1;simp only[execOp,hop,fW,lD]
  cases hcc:(asBool (a.eval c)).run P w with
  |ok b w1=>rw[hcc]at h1;simp only[il,Result.ok.injEq]at h1⊢;rw[h1.1,h1.2];exact⟨rfl,rfl⟩
  |halt hh w1=>rw[hcc]at h1;simp at h1
 ·generalize hq:bI B Φ o (λx=>(rd env x).strip) M=q at hv⊢;obtain⟨vc,v,e,M1⟩:=q;simp only[fO]at hv⊢;refine sc (λa' w' ⟨u,h1,p',h2,h3,h4,h5⟩=>⟨u,h1,p',h2,h3,h4,h5⟩) (key _ hq hv.1 hv.2)
theorem St.wrO{d:eP}(h:St F p env M a w)(x:V)(v:bw)(hx:ae p.β M (Imm F p M w) w x v)(hd:∀k,d=some k->F.ok k):St F p (wr d x env) M (a.put d v) w:=by
 cases d with
 |none=>exact h
 |some k=>exact h.write k x v hx (hd k rfl)
theorem cd.frz{r:Rs}{v:bw}(h:St F p env M a w)(hd:cd F p M w true r v w')(hf:fresh M r.ev=true):St F p env M a w'/\ae p.β M (Imm F p M w') w' (avF M r.M r.av) v:=by obtain⟨p',h1,h2,h3,h4⟩:=hd;have q:=h4 hf rfl;exact⟨h.ext q.ext,TG h1.hp q h.lz _ _ h3⟩
theorem J4(all:fK)(j:Nat):iG (toL all) j=(all[j]?).bind (·.dst):=by unfold iG;rw[ti,cK,zb];cases all[j]?<;>rfl
theorem KC(hc:eM F.nt [o]=true)(hfv:∀k,o.dst=some k->F.fv k=none):∀k,o.dst=some k->F.ok k:=λk hk=>⟨(Aw hc).1 k hk,hfv k hk⟩
theorem Kg(hΦ:iv P F Φ)(hB:TabOk P B)(all:fK)(h:St F p env M a w){K:Env->Mem->Prop}(hk:tw B Φ (toL all) (o::rest) env M K)(hc:eM F.nt [o]=true)(hfv:∀k,o.dst=some k->F.fv k=none)(Q:gi):
  (if Region.wanted o (yielded all a.tmps)then o.wp P a w (λa' w'=>∃p' env' M',St F p' env' M' a' w'/\tw B Φ (toL all) rest env' M' K) Q\/(o.asks P a w/\LetsOut Q)else ∃p' env' M',St F p' env' M' (a.put o.dst undef) w/\tw B Φ (toL all) rest env' M' K):=by
 simp only[tw]at hk;have hdst:=KC hc hfv
 cases hg:o.guard with
 |none=>rw[hg]at hk;rw[am (by simp[Region.wanted,hg])];generalize hq:evR B Φ o env M=q at hk;obtain⟨vc,v,e,M1⟩:=q;simp only[je]at hk;refine .inl (sc (λa' w' ⟨u,h1,p',h2,h3,h4,_⟩=>?_) (Bk hΦ hB h hc (by rw[hq];exact hk.1) Q));rw[hq]at h2 h4;rw[h1];exact⟨p',_,_,(h.tr h2 h3).wrO _ u h4 hdst,hk.2⟩
 |some g=>
  obtain⟨j,want⟩:=g;rw[hg]at hk;simp only[J4]at hk
  cases hdj:(all[j]?).bind (·.dst)with
  |none=>rw[hdj]at hk;exact hk.elim
  |some dj=>
   rw[hdj]at hk;generalize hq:evR B Φ o env M=q at hk;obtain⟨vc,v,e,M1⟩:=q;simp only at hk
   cases hb:aO [gN (gt env dj),fG o,fresh M e]with
   |false=>rw[hb]at hk;exact hk.elim
   |true=>
    rw[hb]at hk;simp only[aD,x6]at hk;simp only[bH,bJ,bC,ao]at hb;have hy:=Fu _ _ want hb.1 (h.slots dj);have hw:Region.wanted o (yielded all a.tmps)=(yB (a.tmps.getD dj undef)==some want):=by simp only[Region.wanted,hg,IK hdj]
    rw[hw];by_cases hcg:gc (gt env dj) want
    ·rw[am (hy.2 hcg)];refine .inl (sc (λa' w' ⟨u,h1,hd⟩=>?_) (Bk hΦ hB h hc (by rw[hq];exact hk.1 hcg) Q));rw[hq,hb.2.1]at hd;obtain⟨h2,h3⟩:=cd.frz h hd hb.2.2;rw[h1];exact⟨p,_,_,h2.wrO _ u (by simp only[ae];exact⟨λ_=>h3,λhn=>absurd hcg hn⟩) hdst,hk.2⟩
    ·rw[aj (λhh=>hcg (hy.1 hh))];exact⟨p,_,_,h.wrO _ undef (by simp only[ae];exact⟨λhn=>absurd hn hcg,λ_=>trivial⟩) hdst,hk.2⟩
theorem Tw(hΦ:iv P F Φ)(hB:TabOk P B)(all:fK)(Q:gi)(K:Env->Mem->Prop)(hQ:∀p env M a w,St F p env M a w->K env M->Q .normal a w) :
  ∀(ops:bL)(p:Ow)(env:Env)(M:Mem)(a:Act)(w:aQ),eM F.nt ops=true->(∀o∈ops,∀k,o.dst=some k->F.fv k=none)->St F p env M a w->tw B Φ (toL all) ops env M K->wpList P all Q ops a w
 |[],p,env,M,a,w,_,_,h,hk=>hQ p env M a w h hk
 |o::rest,p,env,M,a,w,hc,hfv,h,hk=>by
  have hc1:=qE hc (gk);have hst:=Kg hΦ hB all h hk hc1 (hfv o ak) Q;have ih:∀p' env' M' a' w',St F p' env' M' a' w'->tw B Φ (toL all) rest env' M' K->wpList P all Q rest a' w':=λp' env' M' a' w' h1 h2=>Tw hΦ hB all Q K hQ rest p' env' M' a' w' (Aw hc).2.2.2 (λo' ho'=>hfv o' (by simp[ho'])) h1 h2;unfold wpList;split at hst
  ·rename_i hw;rw[am hw];exact hst.imp (sc (λa' w' ⟨p',env',M',h1,h2⟩=>ih p' env' M' a' w' h1 h2)) id
  ·rename_i hw;rw[aj hw];obtain⟨p',env',M',h1,h2⟩:=hst;exact ih p' env' M' _ w h1 h2
def kv:Nat->List Oper->Bool
 |_,[]=>true
 |j,o::r=>(o.after.toList.all λe=>!Region.binds .any e||Nat.blt e.on j)&&kv (j+1) r
def mT(ops:fK)(o:bj):List Nat:=o.looksAt ops
def xF(ops:fK)(ms:aZ)(i j:Nat)(x y:bj):Bool:=
 match x.dst with
 |none=>true
 |some t=>(match y.dst with|some t'=>!(Nat.beq t t')|none=>true)&&(!((mT ops y).contains t)||(if i<j then (ms.getD j 0).testBit i else (ms.getD i 0).testBit j))
def tA(ops:fK)(ms:aZ)(m:Nat):Bool:=
 (List.range m).all λi=>(List.range m).all λj=>Nat.beq i j||match ops[i]?,ops[j]? with
  |some x,some y=>xF ops ms i j x y
  |_,_=>true
def EU(ops:fK)(ms:aZ)(m:Nat):Bool:=(List.range ops.size).all λj=>Nat.blt j m||(List.range j).all λi=>(ms.getD j 0).testBit i
def isL(listed:eQ)(i:Nat):Prop:=listed.getD i false=true
def unl(listed:eQ):Nat->Nat
 |0=>0
 |n+1=>(if listed.getD n false then 0 else 1)+unl listed n
theorem Sw(listed:eQ)(i:Nat):∀n,n<=i->unl (listed.setIfInBounds i true) n=unl listed n
 |0,_=>rfl
 |n+1,h=>by rw[unl,unl,Sw listed i n aa,pP false aa]
theorem xz{listed:eQ}{i:Nat}(hi:i<listed.size)(hl:¬isL listed i):∀n,i<n->unl (listed.setIfInBounds i true) n+1=unl listed n
 |0,h=>aa
 |n+1,h=>by
  rw[unl,unl];by_cases e:i=n
  ·subst e;rw[Sw listed i i (bd _)];have h1:(listed.setIfInBounds i true).getD i false=true:=by simp[hi]
   have h2:listed.getD i false=false:=by simpa[isL]using hl
   rw[h1,h2];simp+arith
  ·rw[pP false e];have:=xz hi hl n aa;omega
theorem xj{listed:eQ}:∀{n},unl listed n=0->∀i,i<n->isL listed i
 |0,_,i,h=>aa
 |n+1,h,i,hi=>by
  rw[unl]at h;by_cases e:i=n
  ·subst e;unfold isL
   cases hb:listed.getD i false with
   |true=>rfl
   |false=>rw[hb]at h;simp at h
  ·exact xj (n:=n) aa i aa
def mc(ops:fK)(listed:eQ):Prop:=∀(j:Nat)(o:bj),ops[j]? = some o->isL listed j->∀e∈o.after,Region.binds .any e=true->isL listed e.on
theorem Z1(ms:aZ)(o:bj)(i:Nat)(h:(xJ ms o).testBit i=true):∃e∈o.after,Region.binds .any e=true/\(e.on=i\/(ms.getD e.on 0).testBit i=true):=by
 unfold xJ at h
 have key:∀(l:List Edge)(m:Nat),(l.foldl (λm e=>if Region.binds .any e then m |||(1 <<< e.on) |||(ms.getD e.on 0)else m) m).testBit i=true->m.testBit i=true\/∃e∈l,Region.binds .any e=true/\(e.on=i\/(ms.getD e.on 0).testBit i=true):=by
  intro l
  induction l with
  |nil=>intro m h;exact .inl h
  |cons e l ih=>
   intro m h;rw[iA]at h;rcases ih _ h with h1|⟨e',h1,h2⟩
   ·split at h1
    ·rename_i hb;simp only[Nat.testBit_or,e9]at h1;rcases h1 with (h1|h1)|h1
     ·exact .inl h1
     ·refine .inr ⟨e,ak,hb,.inl ?_⟩;rw[Nat.shiftLeft_eq,Nat.one_mul]at h1;rw[Nat.testBit_two_pow]at h1;exact ze h1
     ·exact .inr ⟨e,ak,hb,.inr h1⟩
    ·exact .inl h1
   ·exact .inr ⟨e',by simp[h1],h2⟩
 rcases key _ _ h with h1|⟨e,h1,h2⟩
 ·simp at h1
 ·exact⟨e,jS.1 h1,h2⟩
theorem OG:∀(l:bL)(ms:aZ)(pre:bL),ms.length=pre.length->(∀j o,pre[j]? = some o->∃ms',ms.getD j 0=xJ ms' o/\∀k,ms'.getD k 0=ms.getD k 0\/ms'.getD k 0=0)->
  ∀j o,(pre++l)[j]? = some o->∃ms',(cL ms l).getD j 0=xJ ms' o/\∀k,ms'.getD k 0=(cL ms l).getD k 0\/ms'.getD k 0=0
 |[],ms,pre,_,h,j,o,hj=>by simpa[cL]using h j o (by simpa using hj)
 |x::l,ms,pre,hlen,h,j,o,hj=>by
  rw[cL];refine OG l (ms++[xJ ms x]) (pre++[x]) (by simp[hlen]) (λj o hj=>?_) j o (by simpa using hj);by_cases e:j<pre.length
  ·rw[fT e]at hj;obtain⟨ms',h1,h2⟩:=h j o hj;refine⟨ms',by rw[←h1];simp[br,fT (hlen▸e)],λk=>?_⟩;rcases h2 k with h3|h3
   ·by_cases e2:k<ms.length
    ·left;rw[h3];simp[br,fT e2]
    ·right;rw[h3];simp[br,ja (Nat.le_of_not_lt e2)]
   ·exact .inr h3
  ·have hj':=(gp.1 hj).1;simp at hj';have:j=pre.length:=aa
   subst this;simp at hj;subst hj;refine⟨ms,by simp[br,←hlen],λk=>?_⟩;by_cases e2:k<ms.length
   ·left;simp[br,fT e2]
   ·right;simp[br,ja (Nat.le_of_not_lt e2)]
theorem DF:∀(l:bL)(k:Nat),kv k l=true->∀j o,l[j]? = some o->∀e∈o.after,Region.binds .any e=true->e.on<k+j
 |[],_,_,j,o,h=>by simp at h
 |x::l,k,hb,j,o,h=>by
  simp only[kv,ao]at hb;intro e he hbi
  cases j with
  |zero=>simp only[iz,aI]at h;subst h;have:=gL.1 hb.1 e (jS.2 he);simpa[hbi,pQ]using this
  |succ j=>simp only[lC]at h;have:=DF l (k+1) hb.2 j o h e he hbi;omega
theorem jd(hd:mc ops listed)(hb:kv 0 ops.toList=true):∀(j:Nat)(o:bj),ops[j]? = some o->(∀e∈o.after,Region.binds .any e=true->isL listed e.on)->∀i,((cL [] ops.toList).getD j 0).testBit i=true->isL listed i:=by
 intro j
 induction j using Nat.strongRecOn with
 |_ j ih=>
  intro o ho hl i hi;obtain⟨ms',h1,h2⟩:=OG ops.toList [] [] rfl (λj o h=>by simp at h) j o (by simpa using ho);rw[h1]at hi;obtain⟨e,he,hbi,h3⟩:=Z1 ms' o i hi;have hle:=hl e he hbi;rcases h3 with h3|h3
  ·rw[←h3];exact hle
  ·have hlt:=DF ops.toList 0 hb j o (by simpa using ho) e he hbi;rcases h2 e.on with h4|h4
   ·rw[h4]at h3
    cases hoe:ops[e.on]? with
    |none=>
     have:ops.size<=e.on:=by
      rcases jx e.on ops.size with h|h
      ·simp[h]at hoe
      ·exact h
     have:=(cN.1 ho).1;omega
    |some oe=>exact ih e.on aa oe hoe (λe' he' hb'=>hd e.on oe hoe hle e' he' hb') i h3
   ·rw[h4]at h3;simp at h3
theorem qC(h:j∈Region.ready .any ops listed):∃o,ops[j]? = some o/\listed.getD j true=false/\∀e∈o.after,Region.binds .any e=true->isL listed e.on:=by obtain⟨h1,o,h2,h3⟩:=wg.1 h;exact⟨o,h2,h1,h3⟩
theorem mc.set(hd:mc ops listed)(h:j∈Region.ready .any ops listed):mc ops (listed.setIfInBounds j true):=by
 intro k o hk hl e he hb;obtain⟨oj,h1,_,h3⟩:=qC h;refine getD_set_true ?_;by_cases hkj:k=j
 ·subst hkj;rw[h1]at hk;cases hk;exact h3 e he hb
 ·refine hd k o hk ?_ e he hb;unfold isL at hl⊢
  rwa [pP false (cM hkj)]at hl
theorem Az(hs:listed.size=ops.size)(hb:kv 0 ops.toList=true)(h:Region.ready .any ops listed=[]):∀i,i<ops.size->isL listed i:=by
 intro i
 induction i using Nat.strongRecOn with
 |_ i ih=>
  intro hi
  cases hl:listed.getD i false with
  |true=>exact hl
  |false=>have:i∈Region.ready .any ops listed:=wg.2 ⟨by simp[hs,hi]at hl⊢;exact hl,ops[i],by simp[hi],λe he hbi=>by have:=DF ops.toList 0 hb i ops[i] (by simp[hi]) e he hbi;exact ih e.on aa aa⟩;rw[h]at this;cases this
theorem NF{M:Mem}{place:Nat->Option (bz×Nat×Nat)}{f g:dI}:∀(l:ou) (v:V),(∀q∈l,f q.2=g q.2)->lN M place f l v=lN M place g l v
 |[],v,_=>rfl
 |(i,x)::r,v,h=>by simp only[lN];rw[h (i,x) ak];have ih:∀v,lN M place f r v=lN M place g r v:=λv=>NF r v (λq hq=>h q (by simp[hq]));simp only[ih]
theorem NG{M:Mem}{sz:Nat}{f g:dI}:∀(l:ou) (v:cf),(∀q∈l,f q.2=g q.2)->jA M sz f l v=jA M sz g l v
 |[],v,_=>rfl
 |(i,x)::r,v,h=>by simp only[jA];rw[h (i,x) ak];have ih:∀v,jA M sz f r v=jA M sz g r v:=λv=>NG r v (λq hq=>h q (by simp[hq]));simp only[ih]
theorem IL{f g:dI}:∀(l:l7),(∀x∈l,f x=g x)->gz f l=gz g l
 |[],_=>rfl
 |x::r,h=>by simp only[gz,h x ak,IL r λy hy=>h y (by simp[hy])]
theorem Au{f g:dI}(l:pK)(h:∀x,l=some x->f x=g x):iy f l=iy g l:=by
 cases l with
 |none=>rfl
 |some x=>simp only[iy,h x rfl]
theorem Z3{ρ ρ':dI}(o:bj)(h:∀x∈bf o.op,ρ x=ρ' x):bI B Φ o ρ M=bI B Φ o ρ' M:=by
 obtain⟨dst,op,ty',pos,after,guard⟩:=o;cases op<;>simp only[bf]at h
 case build t ps=>simp only[bI,oR];rw[NF (toL ps) _ (λq hq=>h q.2 (xp (by rwa [cK]at hq)))]
 case buildSlice t n ps=>
  simp only[bI,mS]
  cases dst with
  |none=>rfl
  |some k=>
   cases (B.τ t).el with
   |none=>rfl
   |some e=>simp only;rw[NG (toL ps) _ (λq hq=>h q.2 (xp (by rwa [cK]at hq)))]
 case slice t x lo hi mx=>
  cases mx with
  |some _=>rfl
  |none=>
   have hW:ru B (B.τ t) dst ρ x lo hi M=ru B (B.τ t) dst ρ' x lo hi M:=by unfold ru;rw[h x ak,Au lo (λy hy=>h y (by subst hy;simp[bf.optL,ap]))]
   simp only[bI,kx,vv,hW];have h1:∀e:List Ev,iy (λy=>(ρ y).evs e) lo=iy (λy=>(ρ' y).evs e) lo:=λe=>Au lo (λy hy=>by rw[h y (by subst hy;simp[bf.optL,ap])]);have h2:∀e:List Ev,iy (λy=>(ρ y).evs e) hi=iy (λy=>(ρ' y).evs e) hi:=λe=>Au hi (λy hy=>by rw[h y (by subst hy;simp[bf.optL,eL])]);rw[h x ak,Au lo (λy hy=>h y (by subst hy;simp[bf.optL,ap])),Au hi (λy hy=>h y (by subst hy;simp[bf.optL,eL]))];simp only[h1,h2]
 case call c=>
  obtain⟨callee,args,argTypes⟩:=c;simp only[bI];simp only at h;have ha:∀x∈toL args,ρ x=ρ' x:=λx hx=>h x (by rw[eL];exact rZ _ hx);rw[IL _ ha]
  cases callee with
  |value cx|invoke cx nm=>have hc:ρ cx=ρ' cx:=h cx (by rw[eL];exact jU _ (by simp[bf.calO]));simp only[hc]
  |builtin b=>
   cases b<;>first
    |rfl
    |(simp only;split;(rename_i x t e1 e2;first|rw[ha x (by rw[e1];simp)]|rfl);rfl)
    |(simp only;split;(rename_i x y t t' e1 e2;rw[ha x (by rw[e1];simp),ha y (by rw[e1];simp)]);rfl)
    |(simp only;split;(rename_i x y e1;rw[ha x (by rw[e1];simp),ha y (by rw[e1];simp)]);rfl)
 case makeFunc fn fs cs=>simp only[bI];rw[IL _ (λx hx=>h x (by rw[eL];exact rZ _ hx))]
 case makeMap t rs=>cases rs<;>rfl
 all_goals (first|rfl|(simp only[bI];simp_all;done))
theorem NS{f g:dI}:∀(l:l7),(∀x∈l,f x=g x)->fH f l=fH g l
 |[],_=>rfl
 |x::r,h=>by simp only[fH,h x ak,NS r λy hy=>h y (by simp[hy])]
theorem AK(o:bj):(∀x∈bf o.op,x∈o.op.operands):=by
 intro x hx;obtain⟨dst,op,ty',pos,after,guard⟩:=o;cases op<;>simp only[bf,Op.operands,wh]at hx⊢<;>try (simpa using hx)
 case slice t y lo hi mx=>cases lo<;>cases hi<;>cases mx<;>simp_all[bf.optL,ap]<;>first|(rcases hx with hx|hx|hx<;>simp[hx];done)|(rcases hx with hx|hx<;>simp[hx];done)
 case build t ps=>
  rw[cK]at hx
  have:∀l:List (Nat×Operand),x∈bf.snds l->∃q∈l,q.2=x:=by
   intro l
   induction l with
   |nil=>intro h;cases h
   |cons q l ih=>
    intro h;obtain⟨i,y⟩:=q;simp only[bf.snds]at h;rcases cz.1 h with rfl|h
    ·exact⟨(i,x),ak,rfl⟩
    ·obtain⟨q,h1,h2⟩:=ih h;exact⟨q,by simp[h1],h2⟩
  obtain⟨q,h1,rfl⟩:=this _ hx;rw[List.mem_toArray];exact fX.2 ⟨q,h1,rfl⟩
 case buildSlice t n ps=>
  rw[cK]at hx
  have:∀l:List (Nat×Operand),x∈bf.snds l->∃q∈l,q.2=x:=by
   intro l
   induction l with
   |nil=>intro h;cases h
   |cons q l ih=>
    intro h;obtain⟨i,y⟩:=q;simp only[bf.snds]at h;rcases cz.1 h with rfl|h
    ·exact⟨(i,x),ak,rfl⟩
    ·obtain⟨q,h1,h2⟩:=ih h;exact⟨q,by simp[h1],h2⟩
  obtain⟨q,h1,rfl⟩:=this _ hx;rw[List.mem_toArray];exact fX.2 ⟨q,h1,rfl⟩
 case makeFunc fn fs cs=>
  rw[eL,cK,cK]at hx;rw[Array.mem_append];rcases eS.1 hx with hx|hx
  ·exact Or.inl (jS.1 hx)
  ·exact Or.inr (jS.1 hx)
 case call c=>
  rw[cK,eL]at hx;unfold Call.operands;rcases eS.1 hx with hx|hx
  ·cases hc:c.callee<;>rw[hc]at hx<;>simp_all[bf.calO]
  ·have:=jS.1 hx;simp[this]
theorem uM{env':Env}(o:bj)(h:∀x∈o.op.operands,rd env x=rd env' x):evR B Φ o env M=evR B Φ o env' M:=by
 unfold evR;split
 ·rename_i c a b hop;have hc:=h c (by rw[hop];simp[Op.operands]);have ha:=h a (by rw[hop];simp[Op.operands]);have hb:=h b (by rw[hop];simp[Op.operands]);simp only[qU,fH,hc,ha,hb]
 ·rw[Z3 o (λx hx=>by rw[h x (AK o x hx)]),NS _ (λx hx=>h x (AK o x hx))]
def yc(B:Tab)(Φ:du)(all:bL)(o:bj)(env:Env)(M:Mem)(v:V):Prop:=
 match o.guard with
  |none=>fG o=true/\fresh M (evR B Φ o env M).ev=true/\ab (evR B Φ o env M).vc/\v=avF M (evR B Φ o env M).M (evR B Φ o env M).av
  |some (j,want)=>(match iG all j with
   |some dj=>gN (gt env dj)=true/\fG o=true/\fresh M (evR B Φ o env M).ev=true/\(gc (gt env dj) want->ab (evR B Φ o env M).vc)/\v=.gd j want (gc (gt env dj) want) (avF M (evR B Φ o env M).M (evR B Φ o env M).av)
   |none=>False)
theorem OA(all:bL):∀(l:bL)(env:Env)(K:Env->Prop),dw B Φ all l env M K->∃(E:Nat->Env)(V:Nat->V),E 0=env/\(∀j o,l[j]? = some o->yc B Φ all o (E j) M (V j)/\E (j+1)=wr o.dst (V j) (E j))/\K (E l.length)
 |[],env,K,h=>⟨λ_=>env,λ_=>.any,rfl,λj o h=>by simp at h,h⟩
 |o::rest,env,K,h=>by
  have key:∃v,yc B Φ all o env M v/\dw B Φ all rest (wr o.dst v env) M K:=by
   simp only[dw]at h;unfold yc;split at h
   ·rename_i hg;simp only[hg];generalize evR B Φ o env M=q at h⊢;obtain⟨vc,v,e,M1⟩:=q;simp only at h⊢
    cases hb:aO [fG o,fresh M e]with
    |false=>rw[hb]at h;exact h.elim
    |true=>rw[hb]at h;simp only[aD,je]at h;simp only[bH,bJ,bC,ao]at hb;exact⟨_,⟨hb.1,hb.2,h.1,rfl⟩,h.2⟩
   ·rename_i j want hg;simp only[hg];generalize evR B Φ o env M=q at h⊢;obtain⟨vc,v,e,M1⟩:=q;simp only at h⊢
    cases hdj:iG all j with
    |none=>rw[hdj]at h;exact h.elim
    |some dj=>
     rw[hdj]at h;simp only[hdj]at h⊢
     cases hb:aO [gN (gt env dj),fG o,fresh M e]with
     |false=>rw[hb]at h;exact h.elim
     |true=>rw[hb]at h;simp only[aD,x6]at h;simp only[bH,bJ,bC,ao]at hb;exact⟨_,⟨hb.1,hb.2.1,hb.2.2,h.1,rfl⟩,h.2⟩
  obtain⟨v,h1,h2⟩:=key;obtain⟨E,V,e1,e2,e3⟩:=OA all rest _ K h2;refine⟨λj=>match j with|0=>env|j+1=>E j,λj=>match j with|0=>v|j+1=>V j,rfl,λj x hj=>?_,by simpa using e3⟩
  cases j with
  |zero=>simp only[iz,aI]at hj;subst hj;exact⟨h1,e1⟩
  |succ j=>simp only[lC]at hj;exact e2 j x hj
theorem pj(d:eP)(v:V)(env:Env)(t:Nat):gt (wr d v env) t=if d=some t then v else gt env t:=by
 cases d with
 |none=>simp[wr]
 |some k=>simp only[wr,dZ,aI]
theorem En{l:bL}{E:Nat->Env}{V:Nat->V}(h2:∀j o,l[j]? = some o->E (j+1)=wr o.dst (V j) (E j)):∀(j t:Nat),j<=l.length->
  ((∀(i:Nat)(o:bj),l[i]? = some o->i<j->o.dst≠some t)->gt (E j) t=gt (E 0) t)/\
  (∀(i:Nat)(o:bj),l[i]? = some o->i<j->o.dst=some t->(∀(i':Nat)(o':bj),l[i']? = some o'->i'<j->o'.dst=some t->i'=i)->gt (E j) t=V i)
 |0,t,_=>⟨λ_=>rfl,λi o _ h=>aa⟩
 |j+1,t,hj=>by
  obtain⟨a1,a2⟩:=En h2 j t aa;have ho:l[j]? = some l[j]:=bU aa;rw[h2 j _ ho,pj];refine⟨λh=>?_,λi o hi hlt hd hu=>?_⟩
  ·rw[aj (h j _ ho aa)];exact a1 λi o hi hlt=>h i o hi aa
  ·by_cases e:i=j
   ·subst e;rw[ho]at hi;cases hi;rw[am hd]
   ·rw[aj (λhh=>e (hu j _ ho aa hh).symm)];exact a2 i o hi aa hd λi' o' hi' hl'=>hu i' o' hi' aa
theorem T_(hΦ:iv P F Φ)(hB:TabOk P B)(h:St F p env M a w)(hd:yc B Φ (toL all) o envj M v)(hl:∀t∈o.looksAt all,gt env t=gt envj t)(hc:eM F.nt [o]=true)(hfv:∀k,o.dst=some k->F.fv k=none)(hj:all[j]? = some o)(K:Act->World->Prop)(QQ:gi)(hK:∀a' w',St F p (wr o.dst v env) M a' w'->K a' w'):wpOp P all QQ j K a w:=by
 have hdst:=KC hc hfv
 have hops:evR B Φ o env M=evR B Φ o envj M:=uM o λx hx=>by
  cases x with
  |tmp t=>have:t∈o.looksAt all:=jU _ (pR.2 ⟨.tmp t,by simpa using hx,rfl⟩);simpa only [rd]using hl t this
  |const c|global g|func f=>rfl
 unfold wpOp;rw[hj];simp only;unfold yc at hd;rw[←hops]at hd
 cases hg:o.guard with
 |none=>rw[hg]at hd;obtain⟨h1,h2,h3,rfl⟩:=hd;rw[am (by simp[Region.wanted,hg])];refine .inl (sc (λa' w' ⟨u,e1,hdn⟩=>?_) (Bk hΦ hB h hc h3 QQ));rw[h1]at hdn;obtain⟨k1,k2⟩:=cd.frz h hdn h2;rw[e1];exact hK _ _ (k1.wrO _ u k2 hdst)
 |some g=>
  obtain⟨jg,want⟩:=g;rw[hg]at hd;simp only[J4]at hd
  cases hdj:(all[jg]?).bind (·.dst)with
  |none=>rw[hdj]at hd;exact hd.elim
  |some dj=>
   rw[hdj]at hd;obtain⟨k0,k1,k2,k3,rfl⟩:=hd;have hgt:gt env dj=gt envj dj:=hl dj (rZ _ (by simp[hg,hdj]));rw[←hgt]at k0 k3 hK;have hy:=Fu _ _ want k0 (h.slots dj);have hw:Region.wanted o (yielded all a.tmps)=(yB (a.tmps.getD dj undef)==some want):=by simp only[Region.wanted,hg,IK hdj]
   rw[hw];by_cases hcg:gc (gt env dj) want
   ·rw[am (hy.2 hcg)];refine .inl (sc (λa' w' ⟨u,e1,hdn⟩=>?_) (Bk hΦ hB h hc (k3 hcg) QQ));rw[k1]at hdn;obtain⟨g1,g2⟩:=cd.frz h hdn k2;rw[e1];exact hK _ _ (g1.wrO _ u (by simp only[ae];exact⟨λ_=>g2,λhn=>absurd hcg hn⟩) hdst)
   ·rw[aj (λhh=>hcg (hy.1 hh))];exact hK _ _ (h.wrO _ undef (by simp only[ae];exact⟨λhn=>absurd hn hcg,λ_=>trivial⟩) hdst)
theorem Bc(hΦ:iv P F Φ)(hB:TabOk P B)(h:St F p env M a w){K:Env->Mem->Prop}(hk:tw B Φ (toL all) (o::rest) env M K)(hc:eM F.nt [o]=true)(hfv:∀k,o.dst=some k->F.fv k=none)(hj:all[j]? = some o)(Q:gi):
  wpOp P all Q j (λa' w'=>∃p' env' M',St F p' env' M' a' w'/\tw B Φ (toL all) rest env' M' K) a w:=by
 unfold wpOp;rw[hj];exact Kg hΦ hB all h hk hc hfv Q
theorem NT(h:EU all ms m=true)(hj:j<all.size)(hm:m<=j)(hi:i<j):(ms.getD j 0).testBit i=true:=by
 have:=gL.1 h j (by simpa using hj);simp only[e9]at this;rcases this with h1|h1
 ·rw[pQ]at h1;omega
 ·exact gL.1 h1 i (by simpa using hi)
theorem OE(hΦ:iv P F Φ)(hB:TabOk P B)(Q:gi)(K:Env->Mem->Prop)(hQ:∀p env M a w,St F p env M a w->K env M->Q .normal a w)(hb:kv 0 all.toList=true)(m:Nat)(ht:EU all (cL [] all.toList) m=true)(hco:eM F.nt all.toList=true)(hfv:∀o∈all.toList,∀k,o.dst=some k->F.fv k=none):
  ∀(fuel:Nat)(listed:eQ)(c:Nat)(p:Ow)(env:Env)(M:Mem)(a:Act)(w:aQ),listed.size=all.size->(∀i,i<all.size->(isL listed i<->i<c))->m<=c->unl listed all.size<=fuel->mc all listed->
   St F p env M a w->tw B Φ (toL all) (all.toList.drop c) env M K->wpAny P .any all Q fuel listed a w:=by
 intro fuel
 have done:∀(listed:eQ)(c:Nat)(p:Ow)(env:Env)(M:Mem)(a:Act)(w:aQ),listed.size=all.size->(∀i,i<all.size->(isL listed i<->i<c))->Region.ready .any all listed=[]->St F p env M a w->tw B Φ (toL all) (all.toList.drop c) env M K->Q .normal a w:=by
  intro listed c p env M a w hs hl hr hst hk
  have hc:all.toList.length<=c:=by
   rcases jx c all.size with h|h
   ·have:=(hl c h).1 (Az hs hb hr c h);omega
   ·simpa using h
  rw[C5 hc]at hk;simp only[tw]at hk;exact hQ p env M a w hst hk
 have noready:∀(listed:eQ),listed.size=all.size->unl listed all.size=0->Region.ready .any all listed=[]:=by
  intro listed hs hu
  cases hr:Region.ready .any all listed with
  |nil=>rfl
  |cons i r=>obtain⟨o,h1,h2,_⟩:=qC (j:=i) (by rw[hr];simp);have hi:=(cN.1 h1).1;have:=xj hu i hi;unfold isL at this;simp[hs,hi]at this h2;rw[this]at h2;cases h2
 induction fuel with
 |zero=>intro listed c p env M a w hs hl hm hu _ hst hk;have hr:=noready listed hs aa;exact⟨hr,done listed c p env M a w hs hl hr hst hk⟩
 |succ fuel ih=>
  intro listed c p env M a w hs hl hm hu hdn hst hk;refine⟨λhr=>done listed c p env M a w hs hl hr hst hk,λj hj=>?_⟩;obtain⟨o,h1,h2,h3⟩:=qC hj;have hjs:=(cN.1 h1).1;have hnl:¬isL listed j:=by unfold isL;simp[hs,hjs]at h2⊢;exact h2
  have hcj:c<=j:=by
   rcases jx j c with h|h
   ·exact absurd ((hl j hjs).2 h) hnl
   ·exact h
  have hjc:j=c:=by
   rcases jx c j with h|h
   ·have:=jd hdn hb j o h1 h3 c (NT ht hjs aa h);have:=(hl c aa).1 this;omega
   ·omega
  subst hjc;have hdrop:all.toList.drop j=o::all.toList.drop (j+1):=by rw[zf (by simpa using hjs)];congr 1;have:=(cN.1 h1).2;simpa using this
  rw[hdrop]at hk;refine wi (λa' w' ⟨p',env',M',e1,e2⟩=>ih _ (j+1) p' env' M' a' w' (by simpa using hs) (λi hi=>?_) aa ?_ (hdn.set hj) e1 e2) (Bc hΦ hB hst hk (qE hco (by rw[jS];exact sd h1)) (hfv o (by rw[jS];exact sd h1)) h1 Q)
  ·by_cases e:i=j
   ·subst e;simp[isL,hs,hi]
   ·unfold isL at hl⊢;rw[pP false (cM e),hl i hi];omega
  ·have:=xz (by rw[hs];exact hjs) hnl all.size hjs;omega
theorem lI(h:tA all ms m=true)(hi:i<m)(hj:j<m)(hne:i≠j)(hx:all[i]? = some x)(hy:all[j]? = some y):xF all ms i j x y=true:=by
 have:=gL.1 (gL.1 h i (by simpa using hi)) j (by simpa using hj);rw[hx,hy]at this;simp only[e9]at this;rcases this with h1|h1
 ·exact absurd (cR h1) hne
 ·exact h1
theorem IP(h:xF all ms i j x y=true){t:Nat}(hx:x.dst=some t):y.dst≠some t:=by unfold xF at h;rw[hx]at h;simp only[ao]at h;intro hy;rw[hy]at h;simp at h
theorem oP(h:xF all ms i j x y=true){t:Nat}(hx:x.dst=some t)(ht:t∈y.looksAt all):if i<j then (ms.getD j 0).testBit i=true else (ms.getD i 0).testBit j=true:=by
 unfold xF at h;rw[hx]at h;simp only[ao,e9,gU]at h;have h2:=h.2;have hc:(mT all y).contains t=true:=by simpa[mT]using ht
 rcases h2 with h2|h2
 ·rw[hc]at h2;cases h2
 ·split
  ·rename_i hlt;rw[am hlt]at h2;exact h2
  ·rename_i hlt;rw[aj hlt]at h2;exact h2
theorem kO:all.toList[j]? = all[j]?:=ak
theorem D_(hΦ:iv P F Φ)(hB:TabOk P B)(Q:gi)(K:Env->Mem->Prop)(hQ:∀p env M a w,St F p env M a w->K env M->Q .normal a w)(hb:kv 0 all.toList=true)(m:Nat)(hmn:m<=all.size)(ht:EU all (cL [] all.toList) m=true)(hdr:tA all (cL [] all.toList) m=true)(hco:eM F.nt all.toList=true)(hfv:∀o∈all.toList,∀k,o.dst=some k->F.fv k=none)(E:Nat->Env)(V:Nat->V)(hE:∀j o,(all.toList.take m)[j]? = some o->yc B Φ (toL all) o (E j) M (V j)/\E (j+1)=wr o.dst (V j) (E j))(hlast:tw B Φ (toL all) (all.toList.drop m) (E m) M K):
  ∀(fuel:Nat)(listed:eQ)(env:Env)(a:Act)(w:aQ),listed.size=all.size->(∀i,i<all.size->isL listed i->i<m)->unl listed all.size<=fuel->mc all listed->
   (∀t,((∀i o,all[i]? = some o->isL listed i->o.dst≠some t)->gt env t=gt (E 0) t)/\∀i o,all[i]? = some o->isL listed i->o.dst=some t->gt env t=V i)->
   St F p env M a w->wpAny P .any all Q fuel listed a w:=by
 have htake:∀j o,j<m->all[j]? = some o->(all.toList.take m)[j]? = some o:=λj o hj ho=>by rw[wj hj,kO];exact ho
 have hlen:(all.toList.take m).length=m:=by simp[hmn]
 have uniq:∀i j x y t,i<m->j<m->all[i]? = some x->all[j]? = some y->x.dst=some t->y.dst=some t->i=j:=λi j x y t hi hj hx hy h1 h2=>by
  rcases Nat.decEq i j with h|h
  ·exact absurd h2 (IP (lI hdr hi hj h hx hy) h1)
  ·exact h
 have take_lt:∀i o,(all.toList.take m)[i]? = some o->i<m/\all[i]? = some o:=λi o h=>by have h1:=(gp.1 h).1;rw[hlen]at h1;rw[wj h1,kO]at h;exact⟨h1,h⟩
 have hgt:=En (λj o h=>(hE j o h).2);intro fuel
 induction fuel with
 |zero=>
  intro listed env a w hs hl hu hdn hg hst;by_cases hall:∀i,i<m->isL listed i
  ·refine OE hΦ hB Q K hQ hb m ht hco hfv 0 listed m p (E m) M a w hs (λi hi=>⟨hl i hi,hall i⟩) (bd _) hu hdn (hst.weak λt=>.inr ?_) hlast;by_cases ht:∃i o,all[i]? = some o/\i<m/\o.dst=some t
   ·obtain⟨i,o,h1,h2,h3⟩:=ht;rw[(hg t).2 i o h1 (hall i h2) h3];exact (hgt m t aa).2 i o (htake i o h2 h1) h2 h3 λi' o' h1' h2' h3'=>uniq i' i o' o t h2' h2 (take_lt i' o' h1').2 h1 h3' h3
   ·rw[(hg t).1 λi o h1 h2 h3=>ht ⟨i,o,h1,hl i (cN.1 h1).1 h2,h3⟩];exact (hgt m t aa).1 λi o h1 h2 h3=>ht ⟨i,o,(take_lt i o h1).2,h2,h3⟩
  ·exact absurd (λi hi=>xj (Nat.le_zero.1 hu) i aa) hall
 |succ fuel ih=>
  intro listed env a w hs hl hu hdn hg hst;by_cases hall:∀i,i<m->isL listed i
  ·refine OE hΦ hB Q K hQ hb m ht hco hfv (fuel+1) listed m p (E m) M a w hs (λi hi=>⟨hl i hi,hall i⟩) (bd _) hu hdn (hst.weak λt=>.inr ?_) hlast;by_cases ht:∃i o,all[i]? = some o/\i<m/\o.dst=some t
   ·obtain⟨i,o,h1,h2,h3⟩:=ht;rw[(hg t).2 i o h1 (hall i h2) h3];exact (hgt m t aa).2 i o (htake i o h2 h1) h2 h3 λi' o' h1' h2' h3'=>uniq i' i o' o t h2' h2 (take_lt i' o' h1').2 h1 h3' h3
   ·rw[(hg t).1 λi o h1 h2 h3=>ht ⟨i,o,h1,hl i (cN.1 h1).1 h2,h3⟩];exact (hgt m t aa).1 λi o h1 h2 h3=>ht ⟨i,o,(take_lt i o h1).2,h2,h3⟩
  ·refine⟨λhr=>absurd (λi hi=>Az hs hb hr i aa) hall,λj hj=>?_⟩;obtain⟨o,h1,h2,h3⟩:=qC hj;have hjs:=(cN.1 h1).1;have hnl:¬isL listed j:=by unfold isL;simp[hs,hjs]at h2⊢;exact h2
   have hjm:j<m:=by
    rcases jx j m with h|h
    ·exact h
    ·exact absurd (λi hi=>jd hdn hb j o h1 h3 i (NT ht hjs h aa)) hall
   obtain⟨d1,d2⟩:=hE j o (htake j o hjm h1)
   have hlook:∀t∈o.looksAt all,gt env t=gt (E j) t:=λt htl=>by
    by_cases hw:∃i x,all[i]? = some x/\i<m/\x.dst=some t
    ·obtain⟨i,x,e1,e2,e3⟩:=hw;by_cases hij:i<j
     ·have hpair:=oP (lI hdr e2 hjm aa e1 h1) e3 htl;rw[am hij]at hpair;have hli:=jd hdn hb j o h1 h3 i hpair;rw[(hg t).2 i x e1 hli e3];exact ((hgt j t aa).2 i x (htake i x e2 e1) hij e3 λi' o' h1' h2' h3'=>uniq i' i o' x t aa e2 (take_lt i' o' h1').2 e1 h3' e3).symm
     ·have hnli:¬isL listed i:=λhli=>by
       by_cases e:i=j
       ·subst e;exact hnl hli
       ·have hpair:=oP (lI hdr e2 hjm e e1 h1) e3 htl;rw[aj hij]at hpair;exact hnl (jd hdn hb i x e1 (λe' he' hb'=>hdn i x e1 hli e' he' hb') j hpair)
      rw[(hg t).1 λi' o' h1' h2' h3'=>hnli (uniq i' i o' x t (hl i' (cN.1 h1').1 h2') e2 h1' e1 h3' e3▸h2')];exact ((hgt j t aa).1 λi' o' h1' h2' h3'=>hij (uniq i' i o' x t aa e2 (take_lt i' o' h1').2 e1 h3' e3▸h2')).symm
    ·rw[(hg t).1 λi x h1 h2 h3=>hw ⟨i,x,h1,hl i (cN.1 h1).1 h2,h3⟩];exact ((hgt j t aa).1 λi x h1 h2 h3=>hw ⟨i,x,(take_lt i x h1).2,aa,h3⟩).symm
   refine T_ hΦ hB hst d1 hlook (qE hco (by rw[jS];exact sd h1)) (hfv o (by rw[jS];exact sd h1)) h1 _ Q λa' w' hst'=>ih _ _ a' w' (by simpa using hs) (λi hi hli=>?_) ?_ (hdn.set hj) (λt=>⟨λhno=>?_,λi x hx hli hxd=>?_⟩) hst'
   ·by_cases e:i=j
    ·omega
    ·refine hl i hi ?_;unfold isL at hli⊢
     rwa [pP false (cM e)]at hli
   ·have:=xz (by rw[hs];exact hjs) hnl all.size hjs;omega
   ·rw[pj,aj (hno j o h1 (by simp[isL,hs,hjs]))];refine (hg t).1 λi x hx hli=>hno i x hx (getD_set_true hli)
   ·rw[pj];by_cases e:i=j
    ·subst e;rw[h1]at hx;cases hx;rw[am hxd]
    ·have hli':isL listed i:=by
      unfold isL at hli⊢
      rwa [pP false (cM e)]at hli
     have him:=hl i (cN.1 hx).1 hli';rw[aj (λhod=>e (uniq i j x o t him hjm hx h1 hxd hod))];exact (hg t).2 i x hx hli' hxd
theorem nM:¬isL (Array.replicate n false) i:=by unfold isL;simp[Array.getElem?_replicate];split<;>simp
theorem Ff(listed:eQ):∀n,unl listed n<=n
 |0=>bd _
 |n+1=>by rw[unl];have:=Ff listed n;split<;>omega
theorem St.drew(h:St F p env M a w):St F p env M a { w with drawn:=w.drawn+1 }:=h.ext ⟨rfl,⟨rfl,jT _⟩,rfl,bd _,λ_ _=>rfl⟩
def yy:Op->Bool
 |.move (.tmp _)|.assign (.tmp _)|.extract (.tmp _) _=>true
 |_=>false
def Ge(D:bo)(o:Op):Bool:=orb (yy o) (nob D (gQ o))
def flt(D R:bo)(ops:fK)(x y:bj):Bool:=
 nob (isN x.guard) (nob (nob (Ge D x.op) (orb (neg R) (orb (yy x.op) (orb (B7 y) (Ca y))))) (match x.dst with
  |some t=>nob (neg ((mT ops y).contains t)) (match y.dst with
   |some u=>nob (neg (Nat.beq u t)) (neg ((mT ops x).contains u))
   |none=>true)
  |none=>false))
def Gr(D R:bo)(ops:fK)(ms:aZ)(m:Nat):Bool:=
 (List.range ops.size).all λj=>Nat.blt j m||(match ops[j]? with
  |some y=>isN y.guard&&(List.range j).all λi=>(ms.getD j 0).testBit i||(Nat.blt i m&&(match ops[i]? with|some x=>flt D R ops x y|none=>false))
  |none=>true)
def Gn(ops:fK)(ms:aZ)(m:Nat):Bool:=
 (List.range m).all λi=>!(gx ops.size ms m i)||(List.range m).all λj=>Nat.blt j i||!(gx ops.size ms m j)||(match ops[i]?,ops[j]? with
  |some x,some y=>(match y.dst with|some u=>!((mT ops x).contains u)|none=>true)
  |_,_=>true)
def tY(D R:bo)(l:bL)(m:Nat):Bool:=kv 0 l&&(Nat.ble m l.length&&(Gr D R l.toArray (cL [] l) m&&(Gn l.toArray (cL [] l) m&&tA l.toArray (cL [] l) m)))
def KH(σ:aZ)(n:Nat):Bool:=Nat.beq (len σ) n&&((List.range n).all λi=>Nat.blt (plc σ i) n&&(match dT σ (plc σ i)with|some k=>Nat.beq k i|none=>false))&&(List.range n).all λk=>(match dT σ k with|some i=>Nat.blt i n&&Nat.beq (plc σ i) k|none=>false)
def BL:List Oper->Bool
 |[]=>true
 |o::r=>nob (isN o.guard) (BL r)
def Gp(R R2:bo)(l:bL)(m:Nat):Bool:=kv 0 l&&(KH (B9 R l) l.length&&(BL l&&tY true R2 (dp R l) m))
def KX(l:bL):Bool:=kv 0 l&&(tA l.toArray (cL [] l) l.length&&nR (nk l))
def Ll(l:bL)(m:Nat):Bool:=kv 0 l&&(Nat.ble m l.length&&(EU l.toArray (cL [] l) m&&tA l.toArray (cL [] l) m))
theorem Rk{a b a' b':T}{x:(T.p a b).den}{x':(T.p a' b').den}(h:fQ (.p a' b') (a:=.p a b) x=some x'):fQ a' x.1=some x'.1/\fQ b' x.2=some x'.2:=by obtain⟨e,h1⟩:=A3 h;cases e;simp only at h1;subst h1;exact⟨uI _,uI _⟩
theorem Q_{a a':T}{x:List a.den}{x':List a'.den}(h:fQ (.sl a') (a:=.sl a) x=some x'):x'.length=x.length/\∀(i:Nat) y',x'[i]? = some y'->∃y,x[i]? = some y/\fQ a' y=some y':=by obtain⟨e,h1⟩:=A3 h;cases e;simp only at h1;subst h1;exact⟨rfl,λi y' hy=>⟨y',hy,uI _⟩⟩
theorem U_{a a':T}{x:a.den}{x':a'.den}(h:fQ (.pt a') (a:=.pt a) x=some x'):fQ a' x=some x':=by obtain⟨e,h1⟩:=A3 h;cases e;simp only at h1;subst h1;exact uI _
theorem xq:(o o':O)->o.wk o'=true->o.strip=o'.strip
 |.p a b,.p a' b',h=>by simp only[O.wk,aP,ao]at h;simp only[O.strip,xq a a' h.1,xq b b' h.2]
 |.sl e,.sl e',h|.pt e,.pt e',h=>by simp only[O.wk]at h;simp only[O.strip,xq e e' h]
 |.op e,.op e',h=>by simp only[O.wk]at h;simp only[O.strip,O.beq_eq h]
 |.mp k v,.mp k' v',h=>by simp only[O.wk,aP,ao]at h;simp only[O.strip,T.beq_eq h.1,T.beq_eq h.2]
 |.fz (.p a b),.p a' b',h=>by simp only[O.wk,aP,ao]at h;have h1:=xq (.fz a) a' h.1;have h2:=xq (.fz b) b' h.2;simp only[O.strip]at h1 h2⊢;rw[h1,h2]
 |.p a b,.fz t,h|.sl e,.fz t,h|.pt e,.fz t,h|.mp _ _,.fz t,h|.op _,.fz t,h=>by simp only[O.wk]at h;exact T.beq_eq h
 |.fz s,.fz t,h=>by
  have:O.wk (.fz s) (.fz t)=s.beq t:=by cases s<;>simp only[O.wk,O.strip]
  rw[this]at h;exact T.beq_eq h
 |.p _ _,.mp _ _,h|.p _ _,.op _,h|.sl _,.mp _ _,h|.sl _,.op _,h|.pt _,.mp _ _,h|.pt _,.op _,h|.mp _ _,.p _ _,h|.op _,.p _ _,h|.mp _ _,.sl _,h|.op _,.sl _,h|.mp _ _,.pt _,h|.op _,.pt _,h=>by simp[O.wk]at h
 |.fz s,.mp _ _,h|.fz s,.op _,h=>by cases s<;>simp[O.wk]at h
 |.fz (.ifc _ _),.p _ _,h|.fz (.ib _ _),.p _ _,h|.fz (.mp _ _),.p _ _,h|.fz (.op _),.p _ _,h|.fz (.ns _),.p _ _,h|.fz (.er _),.p _ _,h|.p _ _,.sl _,h|.p _ _,.pt _,h|.sl _,.p _ _,h|.sl _,.pt _,h|.pt _,.p _ _,h|.pt _,.sl _,h=>by simp[O.wk]at h
 |.fz s,.sl _,h|.fz s,.pt _,h=>by cases s<;>simp[O.wk]at h
 |.fz (.int _),.p _ _,h|.fz .bool,.p _ _,h|.fz .str,.p _ _,h|.fz .u,.p _ _,h|.fz (.sl _),.p _ _,h|.fz (.pt _),.p _ _,h|.fz (.fn _ _),.p _ _,h|.fz .any,.p _ _,h=>by simp[O.wk]at h
def Wk(Im:aT)(w:aQ)(o':O)(x':o'.strip.den)(S:aT)(vs:aM):Prop:=∃S':Nat->Prop,(∀b,S' b->S b)/\∀Im':Nat->Prop,(∀b,Im b->Im' b)->(∀b,S b->¬S' b->Im' b)->Rel Im' w o' x' S' vs
theorem afq{o:O}{t:T}{x:o.strip.den}{x':t.den}(hx:fQ t x=some x')(r:Rel Im w o x S vs):Wk Im w (.fz t) x' S vs:=⟨λ_=>False,λb hb=>hb.elim,λIm' h1 h2=>by simp only[Rel];exact nE hx (Rel.frz h1 o x S vs (λb hb=>h2 b hb (λh=>h)) r)⟩
theorem RH{a' b':O}{x':a'.strip.den}{y':b'.strip.den}{va vb:aM}(h1:∀c,S1 c->S c)(h2:∀c,S2 c->S c)(h3:∀c,S1 c->¬S2 c)(ha:Wk Im w a' x' S1 va)(hb:Wk Im w b' y' S2 vb):Wk Im w (.p a' b') (x',y') S (va++vb):=by
 obtain⟨T1,a1,a2⟩:=ha;obtain⟨T2,b1,b2⟩:=hb;refine⟨λc=>T1 c\/T2 c,λc hc=>hc.elim (λh=>h1 c (a1 c h)) (λh=>h2 c (b1 c h)),λIm' k1 k2=>?_⟩;simp only[Rel];refine⟨va,vb,T1,T2,rfl,λc hc=>.inl hc,λc hc=>.inr hc,λc hc hc'=>h3 c (a1 c hc) (b1 c hc'),a2 Im' k1 (λc hc hn=>k2 c (h1 c hc) ?_),b2 Im' k1 (λc hc hn=>k2 c (h2 c hc) ?_)⟩
 ·rintro (h|h)
  ·exact hn h
  ·exact h3 c hc (b1 c h)
 ·rintro (h|h)
  ·exact h3 c (a1 c h) hc
  ·exact hn h
theorem nQ{Im:aT}{w:aQ}:(o o':O)->o.wk o'=true->(x:o.strip.den)->(x':o'.strip.den)->(S:aT)->(vs:aM)->fQ o'.strip x=some x'->Rel Im w o x S vs->Wk Im w o' x' S vs
 |.p a b,.p a' b',h,x,x',S,vs,hx,r=>by simp only[O.wk,aP,ao]at h;simp only[Rel]at r;obtain⟨va,vb,S1,S2,rfl,h1,h2,h3,ha,hb⟩:=r;obtain⟨c1,c2⟩:=Rk hx;exact RH h1 h2 h3 (nQ a a' h.1 _ _ _ _ c1 ha) (nQ b b' h.2 _ _ _ _ c2 hb)
 |.fz (.p a b),.p a' b',h,x,x',S,vs,hx,r=>by simp only[O.wk,aP,ao]at h;simp only[Rel,ai]at r;obtain⟨va,vb,rfl,ha,hb⟩:=r;obtain⟨c1,c2⟩:=Rk hx;exact RH (S1:=λ_=>False) (S2:=λ_=>False) (λc hc=>hc.elim) (λc hc=>hc.elim) (λc hc=>hc.elim) (nQ (.fz a) a' h.1 _ _ _ _ c1 (by simpa only [Rel]using ha)) (nQ (.fz b) b' h.2 _ _ _ _ c2 (by simpa only [Rel]using hb))
 |.sl e,.sl e',h,x,x',S,vs,hx,r=>by
  have hs:=xq (.sl e) (.sl e') h;simp only[O.wk]at h;simp only[O.strip,T.sl.injEq]at hs;have hsz:e'.size=e.size:=by unfold O.size;rw[hs]
  simp only[Rel]at r;obtain⟨v,ety,xs,T,rfl,h2,h3,h4,h5,h6,h7⟩:=r;obtain⟨c1,c2⟩:=Q_ hx;have hall:∀i,i<x'.length->∃y',x'[i]? = some y'/\Wk Im w e' y' (T i) ((xs.drop (i*e.size)).take e.size):=λi hi=>by have hy:=bU hi;obtain⟨y,k1,k2⟩:=c2 i _ hy;exact⟨_,hy,nQ e e' h y _ _ _ k2 (h7 i y k1)⟩
  let T':Nat->Nat->Prop:=λi=>if hi:i<x'.length then (hall i hi).choose_spec.2.choose elseλ_=>False
  have hT:∀i y',x'[i]? = some y'->(∀b,T' i b->T i b)/\∀Im':Nat->Prop,(∀b,Im b->Im' b)->(∀b,T i b->¬T' i b->Im' b)->Rel Im' w e' y' (T' i) ((xs.drop (i*e.size)).take e.size):=λi y' hy=>by
   have hi:=(gp.1 hy).1;have h1:=(hall i hi).choose_spec.1;have h2:=(hall i hi).choose_spec.2.choose_spec;have e1:T' i=(hall i hi).choose_spec.2.choose:=by simp only[T',dif_pos hi]
   rw[e1];have:y'=(hall i hi).choose:=se (hy.symm.trans h1);rw[this];exact h2
  have hT0:∀i b,T' i b->T i b:=λi b hb=>by
   by_cases hi:i<x'.length
   ·exact (hT i _ (bU hi)).1 b hb
   ·have:T' i=λ_=>False:=by simp only[T',dif_neg hi]
    rw[this]at hb;exact hb.elim
  refine⟨λb=>dv v=some b\/∃i,T' i b,λb hb=>?_,λIm' k1 k2=>?_⟩
  ·rcases hb with hb|⟨i,hb⟩
   ·exact h4 b hb
   ·exact (h5 i b (hT0 i b hb)).1
  ·simp only[Rel];refine⟨v,ety,xs,T',rfl,by rw[hsz,c1];exact h2,by rw[c1];exact h3,λc hc=>.inl hc,λi c hc=>⟨.inr ⟨i,hc⟩,(h5 i c (hT0 i c hc)).2⟩,λi j c hij hc hc'=>h6 i j c hij (hT0 i c hc) (hT0 j c hc'),λi y' hy=>?_⟩;rw[hsz];refine (hT i y' hy).2 Im' k1 (λb hb hn=>k2 b (h5 i b hb).1 ?_);rintro (hr|⟨j,hj⟩)
   ·exact (h5 i b hb).2 hr
   ·by_cases e:j=i
    ·subst e;exact hn hj
    ·exact h6 j i b e (hT0 j b hj) hb
 |.pt e,.pt e',h,x,x',S,vs,hx,r=>by
  simp only[O.wk]at h;simp only[Rel]at r;obtain⟨b,us,ty',S0,rfl,h2,h3,h4,h5⟩:=r;obtain⟨T1,a1,a2⟩:=nQ e e' h x x' S0 us (U_ hx) h5;refine⟨λc=>c=b\/T1 c,λc hc=>?_,λIm' k1 k2=>?_⟩
  ·rcases hc with rfl|hc
   ·exact h2
   ·exact (h4 c (a1 c hc)).1
  ·simp only[Rel];refine⟨b,us,ty',T1,rfl,.inl rfl,h3,λc hc=>⟨.inr hc,(h4 c (a1 c hc)).2⟩,a2 Im' k1 (λc hc hn=>k2 c (h4 c hc).1 ?_)⟩;rintro (rfl|h)
   ·exact (h4 c hc).2 rfl
   ·exact hn h
 |.op e,.op e',h,x,x',S,vs,hx,r=>by simp only[O.wk]at h;have e1:=O.beq_eq h;subst e1;have:x=x':=se ((uI (a:=.op e.strip) x).symm.trans hx);subst this;refine⟨S,λc hc=>hc,λIm' k1 _=>?_⟩;exact Rel.keep (λb hb=>⟨k1 b hb,rfl⟩) (.op e) x S vs (λ_ _=>rfl) r
 |.mp k v,.mp k' v',h,x,x',S,vs,hx,r=>by simp only[O.wk,aP,ao]at h;have e1:=T.beq_eq h.1;have e2:=T.beq_eq h.2;subst e1;subst e2;have:x=x':=se ((uI (a:=.mp k v) x).symm.trans hx);subst this;simp only[Rel]at r;obtain⟨b,es,n,rfl,h2,h3,h4⟩:=r;refine⟨λc=>c=b,λc hc=>by rw[hc];exact h2,λIm' k1 _=>?_⟩;simp only[Rel];exact⟨b,es,n,rfl,rfl,h3,h4⟩
 |o,.fz t,h,x,x',S,vs,hx,r=>afq hx r
 |.p _ _,.mp _ _,h,_,_,_,_,_,_|.p _ _,.op _,h,_,_,_,_,_,_|.sl _,.mp _ _,h,_,_,_,_,_,_|.sl _,.op _,h,_,_,_,_,_,_|.pt _,.mp _ _,h,_,_,_,_,_,_|.pt _,.op _,h,_,_,_,_,_,_|.mp _ _,.p _ _,h,_,_,_,_,_,_|.op _,.p _ _,h,_,_,_,_,_,_|.mp _ _,.sl _,h,_,_,_,_,_,_|.op _,.sl _,h,_,_,_,_,_,_|.mp _ _,.pt _,h,_,_,_,_,_,_|.op _,.pt _,h,_,_,_,_,_,_=>by simp[O.wk]at h
 |.fz s,.mp _ _,h,_,_,_,_,_,_|.fz s,.op _,h,_,_,_,_,_,_=>by cases s<;>simp[O.wk]at h
 |.fz (.ifc _ _),.p _ _,h,_,_,_,_,_,_|.fz (.ib _ _),.p _ _,h,_,_,_,_,_,_|.fz (.mp _ _),.p _ _,h,_,_,_,_,_,_|.fz (.op _),.p _ _,h,_,_,_,_,_,_|.fz (.ns _),.p _ _,h,_,_,_,_,_,_|.fz (.er _),.p _ _,h,_,_,_,_,_,_|.p _ _,.sl _,h,_,_,_,_,_,_|.p _ _,.pt _,h,_,_,_,_,_,_|.sl _,.p _ _,h,_,_,_,_,_,_|.sl _,.pt _,h,_,_,_,_,_,_|.pt _,.p _ _,h,_,_,_,_,_,_|.pt _,.sl _,h,_,_,_,_,_,_=>by simp[O.wk]at h
 |.fz s,.sl _,h,_,_,_,_,_,_|.fz s,.pt _,h,_,_,_,_,_,_=>by cases s<;>simp[O.wk]at h
 |.fz (.int _),.p _ _,h,_,_,_,_,_,_|.fz .bool,.p _ _,h,_,_,_,_,_,_|.fz .str,.p _ _,h,_,_,_,_,_,_|.fz .u,.p _ _,h,_,_,_,_,_,_|.fz (.sl _),.p _ _,h,_,_,_,_,_,_|.fz (.pt _),.p _ _,h,_,_,_,_,_,_|.fz (.fn _ _),.p _ _,h,_,_,_,_,_,_|.fz .any,.p _ _,h,_,_,_,_,_,_=>by simp[O.wk]at h
end Go.Bm
