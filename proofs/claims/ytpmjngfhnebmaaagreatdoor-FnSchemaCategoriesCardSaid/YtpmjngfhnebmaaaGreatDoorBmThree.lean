/- The typed machine that the walks of this claim go by: its data, its operations and the proof that each is sound. No condition. -/
import Derived.Test.YtpmjngfhnebmaaaGreatDoorBmTwo
import GoSem.ClaimJoined
import Derived.MapKept
import Derived.ChangeKeysEq
import Derived.Orders
set_option linter.unusedVariables false
set_option linter.unusedSimpArgs false
set_option linter.unusedSectionVars false
namespace Go.Bm
open Go.RowKit
abbrev ig:=@Nat.lt_or_ge
abbrev Co:=@Array.getElem?_eq_none
abbrev iA:=@Nat.lt_of_lt_of_le
abbrev Cp:=@Nat.lt_succ_self
abbrev oT:=@List.cons_append
abbrev oU:=@List.mem_append_right
abbrev jH:=@List.mem_append_left
abbrev ji:=@Bool.true_and
abbrev Gg:=@List.set_cons_zero
abbrev ul:=@if_false
abbrev Gh:=@List.set_cons_succ
abbrev rS:=@List.getElem_mem
abbrev mN:=@List.map_append
abbrev nP:=@List.map_nil
abbrev rT:=@Array.getElem?_eq_getElem
abbrev jI:=@Int.toNat_of_nonneg
abbrev Gi:=@ByteArray.size_extract
abbrev Gj:=@Value.pointer.injEq
abbrev wz:=@Oper.upon_enter
abbrev oV:=@List.mem_cons_of_mem
abbrev yO:=@Nat.sub_zero
abbrev yP:=@Array.getElem?_append_left
abbrev yQ:=@Array.size_map
abbrev yR:=@Array.getD_eq_getD_getElem?
abbrev qj:=@Oper.wp_mono
abbrev oW:=@List.mem_cons_self
abbrev qk:=@getD_set_ne
abbrev w6:=@of_decide_eq_true
abbrev ql:=@Nat.blt_eq
abbrev w7:=@mem_ready
abbrev w8:=@List.not_mem_nil
abbrev jJ:=@List.mem_map
abbrev w9:=@List.mem_filterMap
abbrev yS:=@List.drop_eq_nil_of_le
abbrev yT:=@List.drop_eq_getElem_cons
abbrev um:=@Array.mem_of_getElem?
abbrev rU:=@List.getElem?_take_of_lt
abbrev rV:=@Option.some.inj
abbrev gL:Type:=Exit->Act->World->Prop
abbrev gf:Type:=Array Oper
abbrev gg:Type:=Array Bool
variable {A Im Im' S S1 S2:aT}{B:Tab}{F:Fr}{K:Act->World->Prop}{Lk:World->Value->Value->Prop}{M M' M'' N:Mem}{P:d4}{Q:gL}{W:Wt}{a:Act}{all ops:gf}{b d i j j' k m n nt:Nat}{c:Code}{ct:Ct}{e:cg}{env envj:Env}{es:Array MapEntry}{ety kty t:bW}{f:gp}{fn:Func}{g:bC}{gs:fw}{hi0 lo0:qi}{iu u:bm}{kd:TypeDesc}{l:List Mth}{listed:gg}{ms:bK}{o op x y:bR}{oa:yD}{ob:Ob}{p p' p'':Ow}{ps:Array (Nat×Operand)}{r rest:bY}{rs vs:aJ}{tmps:lP}{v v0:V}{w w' w'':aK}{x0:eO}{Φ:dM}{α:Type}{β β':gM}{π:bA}
def T.flat:T->Bool
 |.int _|.bool|.str|.u|.any=>true
 |.p a b=>nob a.flat b.flat
 |.fn _ t|.ifc _ t|.ib _ t=>t.flat
 |.mp _ _|.op _|.ns _=>false
 |.er _=>true
 |.sl _|.pt _=>false
def O.flat:O->Bool
 |.fz t=>t.flat
 |.p a b=>nob a.flat b.flat
 |.sl e=>e.flat
 |.pt o=>o.flat
 |.mp _ _=>true
 |.op e=>e.flat
def oz:List (Bool×O)->Bool
 |[]=>true
 |q::r=>nob q.2.flat (oz r)
theorem Am{Im Im':aT}{w:aK}:(t:T)->t.flat=true->(x:t.den)->(vs:aJ)->ah Im w t x vs->ah Im' w t x vs
 |.int _,_,_,_,r|.bool,_,_,_,r|.str,_,_,_,r|.u,_,_,_,r|.any,_,_,_,r=>by simpa only [ah]using r
 |.p a b,h,x,vs,r=>by simp only[T.flat,aU,ao]at h;simp only[ah]at r⊢;obtain⟨va,vb,h1,h2,h3⟩:=r;exact⟨va,vb,h1,Am a h.1 _ _ h2,Am b h.2 _ _ h3⟩
 |.fn f t,h,x,vs,r=>by simp only[T.flat]at h;simp only[ah]at r⊢;obtain⟨us,h1,h2⟩:=r;exact⟨us,h1,Am t h _ _ h2⟩
 |.ifc f t,h,x,vs,r|.ib f t,h,x,vs,r=>by simp only[T.flat]at h;simp only[ah]at r⊢;obtain⟨u,h1,h2⟩:=r;exact⟨u,h1,Am t h _ _ h2⟩
 |.mp _ _,h,_,_,_|.op _,h,_,_,_|.ns _,h,_,_,_=>by simp[T.flat]at h
 |.er _,_,_,_,r=>by simpa only [ah]using r
 |.sl _,h,_,_,_|.pt _,h,_,_,_=>by simp[T.flat]at h
theorem sY{Im Im':aT}{w:aK}:(o:O)->o.flat=true->(x:o.strip.den)->(S:aT)->(vs:aJ)->Rel Im w o x S vs->Rel Im' w o x S vs
 |.fz t,h,x,S,vs,r=>by simp only[O.flat]at h;simp only[Rel]at r⊢;exact Am t h x vs r
 |.p a b,h,x,S,vs,r=>by simp only[O.flat,aU,ao]at h;simp only[Rel]at r⊢;obtain⟨va,vb,S1,S2,h1,h2,h3,h4,h5,h6⟩:=r;exact⟨va,vb,S1,S2,h1,h2,h3,h4,sY a h.1 _ _ _ h5,sY b h.2 _ _ _ h6⟩
 |.sl e,h,x,S,vs,r=>by simp only[O.flat]at h;simp only[Rel]at r⊢;obtain⟨v,ety,xs,T,h1,h2,h3,h4,h5,h6,h7⟩:=r;exact⟨v,ety,xs,T,h1,h2,h3,h4,h5,h6,λi x hx=>sY e h _ _ _ (h7 i x hx)⟩
 |.pt o,h,x,S,vs,r=>by simp only[O.flat]at h;simp only[Rel]at r⊢;obtain⟨b,us,ty',S',h1,h2,h3,h4,h5⟩:=r;exact⟨b,us,ty',S',h1,h2,h3,h4,sY o h _ _ _ h5⟩
 |.op e,h,x,S,vs,r=>by simp only[O.flat]at h;simp only[Rel]at r⊢;exact⟨r.1,r.2.1,λy hy=>sY e h _ _ _ (r.2.2 y hy)⟩
 |.mp k v,h,x,S,vs,r=>by simp only[Rel]at r⊢;exact r
def dL(A:aT)(w:aK):List Bool->(ts:eT)->bo ts->List Value->Prop
 |[],[],_,us=>us=[]
 |g::gs,t::ts,x,us=>∃u us' vs,us=u::us'/\(g=true->u=.agg (vs:aJ).toArray)/\(g=false->vs=[u])/\ah A w t x.1 vs/\dL A w gs ts x.2 us'
 |_,_,_,_=>False
def cW(Im:aT)(w:aK):(rs:gS)->bV rs->(Nat->Prop)->List Value->Prop
 |[],_,_,us=>us=[]
 |q::rs,x,S,us=>∃u us' vs,∃S1 S2:Nat->Prop,us=u::us'/\(q.1=true->u=.agg (vs:aJ).toArray)/\(q.1=false->vs=[u])/\(∀b,S1 b->S b)/\(∀b,S2 b->S b)/\(∀b,S1 b->¬S2 b)/\Rel Im w q.2 x.1 S1 vs/\cW Im w rs x.2 S2 us'
def eR:List Value->Value
 |[u]=>u
 |l=>.tuple l.toArray
def D2(P:d4)(f:gp):Prop:=∀args w,(callFunc f args).run P w=.ok (.enter f args) w
theorem sS     (hf : P.funcs[f]? = some fn) (hb : fn.body = some c) (hn : (fn.name == "runtime.NumGoroutine") = false) : D2 P f := by
 intro args w;have h : ¬ fn.name = "runtime.NumGoroutine" := by simpa using hn
 simp[callFunc,hf,hb,h]
structure ExtS (w w':aK) (T:aT):Prop where
 os:w'.os=w.os
 tape:TD w' w
 output:w'.output=w.output
 size:w.heap.size<=w'.heap.size
 old:∀b,b<w.heap.size->¬T b->w'.heap[b]? = w.heap[b]?
def ErrG(P:d4)(A:aT)(w:aK):Prop:=
 ∀ g, P.globalNamed "errors.errorType" = some g -> A g /\ ∃ rt et, (P.cutTypes.find? (·.1 == "internal/reflectlite.rtype")).map (·.2) = some rt /\ et < P.types.size /\
  P.rowNamed et [101,114,114,111,114]=true/\w.cell? ⟨g,0,none⟩=some (.iface rt (.agg #[typeHandle P et]))
theorem Pk(h:w'.heap[b]? = w.heap[b]?):w'.cell? ⟨b,0,none⟩=w.cell? ⟨b,0,none⟩:=by simp only[World.cell?,h]
theorem cell_lt{v:bm}(h:w.cell? ⟨b,0,none⟩=some v):b<w.heap.size:=by
 rcases ig b w.heap.size with h'|h'
 ·exact h'
 ·simp[World.cell?,Co h']at h
theorem ErrG.of{A':aT}(h:ErrG P A w)(hA:∀b,A b->b<w.heap.size->A' b/\w'.heap[b]? = w.heap[b]?):ErrG P A' w':=λg hg=>by obtain⟨h1,rt,et,h2,h3,h4,h5⟩:=h g hg;obtain⟨k1,k2⟩:=hA g h1 (cell_lt h5);exact⟨k1,rt,et,h2,h3,h4,by rw[Pk k2];exact h5⟩
def MtOk(P:d4)(f:gp)(m:Mt):Prop:=
 m.o.flat=true/\∀(A:aT)(w:aK)(u:bm)(vs:aJ)(x:m.o.strip.den)(k:Int)(S:aT),ErrG P A w->(∀b,S b->¬A b)->(m.g=true->u=.agg vs.toArray)->(m.g=false->vs=[u])->Rel (λ_=>False) w m.o x S vs->
  (∀b,S b->b<w.heap.size)->inK .i64 k->ab (m.pre x k)->
  Calls P f #[u,.int .i64 k] w λe w'=>e=.returned (.int .i64 (m.res x k).2)/\ExtS w w' S/\inK .i64 (m.res x k).2/\
   ∃S':Nat->Prop,Rel (λ_=>False) w' m.o (m.res x k).1 S' vs/\∀b,S' b->S b\/w.heap.size<=b/\b<w'.heap.size
def F2(P:d4)(f:gp)(W:Wt):Prop:=
 ∀(A:aT)(w:aK)(u:bm)(x:W.o.strip.den)(us:aJ)(y:bo W.as)(S:aT),ErrG P A w->(∀b,A b->b<w.heap.size)->(∀b,S b->b<w.heap.size/\¬A b)->
  Rel (λb=>A b) w W.o x S [u]->dL A w W.ag W.as y us->ab (W.pre x y)->
  Calls P f (ew W.i u us).toArray w λe w'=>∃rs R S',e=.returned (eR rs)/\ExtS w w' S/\(∀b,R b->w.heap.size<=b/\b<w'.heap.size)/\(∀b,S' b->(S b\/w.heap.size<=b/\b<w'.heap.size)/\¬R b)/\
   Rel (λb=>b<w'.heap.size/\(A b\/S b\/w.heap.size<=b)/\¬S' b/\¬R b) w' W.o (W.new x y) S' [u]/\
   cW (λb=>b<w'.heap.size/\(A b\/S b\/w.heap.size<=b)/\¬S' b/\¬R b) w' W.rt (W.res x y) R rs
def AlR(w:aK)(u:bm):T->List Value->Prop
 |.pt t,vs=>tI t=true->∃b o,vs=[.pointer (some ⟨b,o,none⟩)]/\iW w b o [u]
 |.p a b,vs=>∃va vb,vs=va++vb/\va.length=a.size/\AlR w u a va/\AlR w u b vb
 |.fn f t,vs=>∃us:List Value,vs=[.func (.func f) #[] us.toArray]/\AlR w u t us
 |_,_=>True
def AlL(w:aK)(u:bm):List T->List Value->Prop
 |t::ts,v::vs=>AlR w u t [v]/\AlL w u ts vs
 |_,_=>True
def L5(P:d4)(f:gp)(W:Wa):Prop:=
 ∀(A:aT)(w:aK)(u v:bm)(x:W.o.strip.den)(us:aJ)(y:bo W.as)(S:aT),ErrG P A w->(∀b,A b->b<w.heap.size)->(∀b,S b->b<w.heap.size/\¬A b)->
  Rel (λb=>A b) w W.o x S [u]->Adr (λ_=>u) [(0,⟨W.o,x⟩)] w 0 W.way v->dL A w (ou W.as) W.as y us->AlL w u W.as us->ab (W.pre x y)->
  Calls P f (v::us).toArray w λe w'=>∃S',e=.returned (eR [])/\ExtS w w' S/\(∀b,S' b->S b\/w.heap.size<=b/\b<w'.heap.size)/\
   Rel (λb=>b<w'.heap.size/\(A b\/S b\/w.heap.size<=b)/\¬S' b) w' W.o (W.new x y) S' [u]
def AnF(A:aT)(w:aK)(u:bm):(t:T)->t.den->List Value->Prop
 |.any,_,vs=>vs=[u]
 |.p a b,x,vs=>∃va vb,vs=va++vb/\AnF A w u a x.1 va/\AnF A w u b x.2 vb
 |.fn f t,x,vs=>∃us:List Value,vs=[.func (.func f) #[] us.toArray]/\AnF A w u t x us
 |t,x,vs=>ah A w t x vs
def jd(A:aT)(w:aK)(u:bm):List Bool->(ts:eT)->bo ts->List Value->Prop
 |[],[],_,us=>us=[]
 |true::gs,t::ts,x,us=>∃us' vs,us=.agg (vs:aJ).toArray::us'/\ah A w t x.1 vs/\jd A w u gs ts x.2 us'
 |false::gs,t::ts,x,us=>∃v us',us=v::us'/\AnF A w u t x.1 [v]/\jd A w u gs ts x.2 us'
 |_,_,_,_=>False
def L2(P:d4)(f:gp)(W:Wc):Prop:=
 W.o.flat=true/\∀(A:aT)(w:aK)(u:bm)(x:W.o.strip.den)(us:aJ)(y:bo W.as)(S:aT),ErrG P A w->(∀b,A b->b<w.heap.size)->(∀b,S b->b<w.heap.size/\¬A b)->
  Rel (λb=>A b) w W.o x S [u]->jd A w u W.ag W.as y us->ab (W.pre x y)->
  Calls P f us.toArray w λe w'=>∃S',e=.returned (eR [])/\ExtS w w' S/\(∀b,S' b->S b\/w.heap.size<=b/\b<w'.heap.size)/\
   Rel (λb=>b<w'.heap.size/\(A b\/S b\/w.heap.size<=b)/\¬S' b) w' W.o (W.new x y) S' [u]
def WuOk(P:d4)(f:gp)(W:Wu):Prop:=
 ∀(A:aT)(w:aK)(u:bm)(x:W.o.strip.den)(us:aJ)(y:bo W.as)(S:aT),ErrG P A w->(∀b,A b->b<w.heap.size)->(∀b,S b->b<w.heap.size/\¬A b)->
  Rel (λb=>A b) w W.o x S [u]->dL A w W.ag W.as y us->ab (W.pre x y)->
  Calls P f (ew W.i u us).toArray w λe w'=>∃rs R,e=.returned (eR rs)/\ExtS w w' S/\(∀b,R b->b<w'.heap.size/\(S b\/w.heap.size<=b))/\
   cW (λb=>b<w'.heap.size/\(A b\/S b\/w.heap.size<=b)/\¬R b) w' W.rt (W.res x y) R rs
def vT(P:d4)(f:gp)(ct:Ct):Prop:=∀(A:aT)(w:aK)(us:aJ)(x:bo ct.args),ErrG P A w->(∀b,A b->b<w.heap.size)->dL A w ct.ga ct.args x us->ab (ct.pre x)->
  Calls P f us.toArray w λe w'=>∃rs S,e=.returned (eR rs)/\Ext w w'/\(∀b,S b->w.heap.size<=b/\b<w'.heap.size)/\
   cW (λb=>b<w'.heap.size/\(ct.sh=true/\A b\/w.heap.size<=b)/\¬S b) w' ct.rt (ct.res x) S rs
def agy(P:d4)(f:gp)(O:Orc):Prop:=∀(F:Fr)(p:Ow)(M:Mem)(w:aK)(vs:cK)(us:aJ),ErrG P (λb=>F.A b/\¬F.RR b) F.w0->Hp F p M w->(∀b,¬p.L b)->us.length=vs.length->
  (∀(i:Nat) v u,vs[i]? = some v->us[i]? = some u->aj p.β M (Imm F p M w) w v u)->ab (Bw O vs M).vc->
  Calls P f us.toArray w λe w'=>∃r,e=.returned r/\cu F p M w true (Bw O vs M) r w'
def aN(P:d4)(f:gp)(ct:Ct):Prop:=
 D2 P f/\match ct.mu with
 |some (.o O)=>agy P f O
 |some (.m m)=>MtOk P f m
 |some (.w W)=>F2 P f W
 |some (.a W)=>L5 P f W
 |some (.k W)=>WuOk P f W
 |some (.c W)=>L2 P f W
 |some (.s s)=>vT P f (fO s true)/\vT P f (fO s false)
 |some (.v l)=>∀q∈l,vT P f (pvCt q)
 |none=>vT P f ct
def gK(P:d4)(Φ:dM):Prop:=∀f ct,Φ f=some ct->aN P f ct
def lI(P:d4)(F:Fr):Prop:=ErrG P (λb=>F.A b/\¬F.RR b) F.w0
def iF(P:d4)(F:Fr)(Φ:dM):Prop:=gK P Φ/\lI P F
def All(F:Fr)(w:aK):Nat->Prop:=λb=>b<w.heap.size/\(F.A b\/F.RR b\/F.w0.heap.size<=b)
theorem Kb(h:Imm F p M w b):All F w b:=⟨h.1,h.2.1⟩
theorem Sm(hp:Hp F p M w)(hl:bF M k)(h:p.σ k b):All F w b:=by obtain⟨h1,h2⟩:=hp.own k b hl h;exact⟨h1,h2.elim (λh=>.inr (.inl h.2)) (λh=>.inr h.r)⟩
theorem so(hp:Hp F p M w){A:aT}{N:Mem}(hN:∀j ob,go N j=some ob->go M j=some ob)(hI:∀b,Imm F p M w b->A b)(hW:∀j b,bF N j->p.σ j b->A b):(v:V)->(t:T)->(vs:aJ)->(x:t.den)->ac p.β M (Imm F p M w) w v vs->v.view N t=some x->ah A w t x vs
 |.d s y,t,vs,x,r,h=>by simp only[ac]at r;simp only[V.view]at h;exact ah.keep (λb hb=>⟨hI b hb,rfl⟩) _ _ _ (x8 h r)
 |.p a b,.p t s,vs,x,r,h=>by
  simp only[ac]at r;simp only[V.view]at h;split at h
  ·rename_i y z hy hz;cases h;obtain⟨va,vb,h1,h2,h3⟩:=r;simp only[ah];exact⟨va,vb,h1,so hp hN hI hW a t va y h2 hy,so hp hN hI hW b s vb z h3 hz⟩
  ·cases h
 |.nl,.sl _,vs,x,r,h=>by simp only[ac]at r;simp only[V.view,aG]at h;subst h;simp only[ah];obtain⟨oa,r⟩:=r;exact⟨oa,0,r,⟨dO _,aZ _⟩,λ_=>⟨rfl,rfl⟩,λa ha hpos=>absurd hpos (uj 0)⟩
 |.u,.u,vs,x,r,h=>by simp only[ac]at r;simp only[ah];exact r
 |.np,.any,vs,x,r,h=>by simp only[ac]at r;simp only[ah];exact⟨_,r,rfl⟩
 |.bx v,.pt t,vs,x,r,h=>by simp only[V.view]at h;simp only[ac]at r;obtain⟨b,o,us,h1,h2,h3,h4⟩:=r;simp only[ah];exact⟨b,o,us,h1,hI _ h2,h3,so hp hN hI hW v t us x h4 h⟩
 |.fn f v,.fn f' t,vs,x,r,h=>by
  simp only[ac]at r;simp only[V.view,dP]at h;split at h
  ·rename_i e;subst e;obtain⟨us,h1,h2⟩:=r;simp only[ah];exact⟨us,h1,so hp hN hI hW v t us x h2 h⟩
  ·cases h
 |.ref k π,t,vs,x,r,h=>by
  simp only[ac]at r;have h':vH N k π t=some x:=by cases t<;>simpa only [V.view]using h
  unfold vH at h';split at h'
  ·rename_i q hq;obtain⟨ob,h0,h2⟩:=od hq;have h1:=hN _ _ h0;obtain⟨ob',pl,k1,k2,k3,k4⟩:=r;rw[h1]at k1;cases k1;obtain⟨us,pl',S',e1,e2,e3,_⟩:=look hp h1 k2 h2;rw[e1]at k4;cases k4;exact x8 h' (Rel.frz hI _ _ S' _ (λb hb=>hW _ b (cz h0) (e2 b hb)) e3)
  ·cases h'
 |.ad k π,.pt t,vs,x,r,h=>by
  simp only[ac]at r;obtain⟨v,rfl,r⟩:=r;simp only[V.view,vH]at h;split at h
  ·rename_i q hq;obtain⟨ob,h0,h2⟩:=od hq;have h1:=hN _ _ h0;obtain⟨ob',us0,b0,off0,k1,k2,k3,k4,k5,rfl⟩:=r;rw[h1]at k1;cases k1;obtain⟨us,pl',S',e1,e2,e3,e4,_⟩:=look hp h1 k2 h2;rw[e1]at k5;simp only[aG,bS]at k5;obtain⟨rfl,rfl⟩:=k5;obtain⟨b,off,cur,ty',c1,c2,c3,c4,c5⟩:=e4 k4;simp only[aG,bS]at c1;obtain⟨rfl,rfl⟩:=c1;have:=x8 h (Rel.frz hI _ _ S' _ (λb hb=>hW _ b (cz h0) (e2 b hb)) e3);simp only[ah];exact⟨b0,off0,us,rfl,hW _ b0 (cz h0) c2,λj u hu=>by rw[lQ w b0 _ cur ty' (0,0) c4];exact c5 j u hu,this⟩
  ·cases h
 |.p _ _,.int _,_,_,_,h|.p _ _,.bool,_,_,_,h|.p _ _,.str,_,_,_,h|.p _ _,.u,_,_,_,h|.p _ _,.sl _,_,_,_,h|.p _ _,.pt _,_,_,_,h|.p _ _,.fn _ _,_,_,_,h|.p _ _,.any,_,_,_,h|.nl,.int _,_,_,_,h|.nl,.bool,_,_,_,h|.nl,.str,_,_,_,h|.nl,.u,_,_,_,h|.nl,.p _ _,_,_,_,h|.nl,.pt _,_,_,_,h|.nl,.fn _ _,_,_,_,h|.nl,.any,_,_,_,h|.u,.int _,_,_,_,h|.u,.bool,_,_,_,h|.u,.str,_,_,_,h|.u,.sl _,_,_,_,h|.u,.p _ _,_,_,_,h|.u,.pt _,_,_,_,h|.u,.fn _ _,_,_,_,h|.u,.any,_,_,_,h|.np,.int _,_,_,_,h|.np,.bool,_,_,_,h|.np,.str,_,_,_,h|.np,.sl _,_,_,_,h|.np,.p _ _,_,_,_,h|.np,.pt _,_,_,_,h|.np,.fn _ _,_,_,_,h|.np,.u,_,_,_,h|.fn _ _,.int _,_,_,_,h|.fn _ _,.bool,_,_,_,h|.fn _ _,.str,_,_,_,h|.fn _ _,.sl _,_,_,_,h|.fn _ _,.p _ _,_,_,_,h|.fn _ _,.pt _,_,_,_,h|.fn _ _,.u,_,_,_,h|.fn _ _,.any,_,_,_,h|.bx _,.int _,_,_,_,h|.bx _,.bool,_,_,_,h|.bx _,.str,_,_,_,h|.bx _,.sl _,_,_,_,h|.bx _,.p _ _,_,_,_,h|.bx _,.fn _ _,_,_,_,h|.bx _,.u,_,_,_,h|.bx _,.any,_,_,_,h|.ad _ _,.int _,_,_,_,h|.ad _ _,.bool,_,_,_,h|.ad _ _,.str,_,_,_,h|.ad _ _,.u,_,_,_,h|.ad _ _,.p _ _,_,_,_,h|.ad _ _,.sl _,_,_,_,h|.ad _ _,.fn _ _,_,_,_,h|.ad _ _,.any,_,_,_,h|.any,_,_,_,_,h|.ag _,_,_,_,r,h|.tup _,_,_,_,r,h|.gd _ _ _ _,_,_,_,r,h=>by simp[V.view]at h
 |.ifc f v,.ifc f' t,vs,x,r,h=>by
  simp only[ac]at r;simp only[V.view,dP]at h;split at h
  ·rename_i e;subst e;obtain⟨u,h1,h2⟩:=r;simp only[ah];exact⟨u,h1,so hp hN hI hW v t [u] x h2 h⟩
  ·cases h
 |.ifc _ _,.int _,_,_,_,h|.ifc _ _,.bool,_,_,_,h|.ifc _ _,.str,_,_,_,h|.ifc _ _,.sl _,_,_,_,h|.ifc _ _,.p _ _,_,_,_,h|.ifc _ _,.pt _,_,_,_,h|.ifc _ _,.u,_,_,_,h|.ifc _ _,.any,_,_,_,h|.ifc _ _,.fn _ _,_,_,_,h=>by simp[V.view]at h
theorem ac8(hp:Hp F p M w)(v:V)(t:T)(vs:aJ)(x:t.den)(r:ac p.β M (Imm F p M w) w v vs)(h:v.view M t=some x):ah (All F w) w t x vs:=so hp (λ_ _ h=>h) (λ_ h=>Kb h) (λ_ _ hl h=>Sm hp hl h) v t vs x r h
theorem Eg(hG:lI P F)(hp:Hp F p M w)(hL:∀b,¬p.L b):ErrG P (Imm F p M w) w:=hG.of λb hb hl=>⟨⟨iA hl hp.size,.inl hb.1,hL b,λk hk hs=>by
  rcases (hp.own k b hk hs).2 with h|h
  ·exact hb.2 h.2
  ·exact h.r.elim hb.2 λh=>aa⟩,hp.old b hl hb.2⟩
theorem adg(hG:lI P F)(hp:Hp F p M w):ErrG P (All F w) w:=hG.of λb hb hl=>⟨⟨iA hl hp.size,.inl hb.1⟩,hp.old b hl hb.2⟩
theorem xy(hp:Hp F p M w)(h:aj p.β M (Imm F p M w) w v u)(hc:fZ v=true):∃vs:List Value,(ge v=true->u=.agg vs.toArray)/\(ge v=false->vs=[u])/\ac p.β M (Imm F p M w) w v.cells vs:=by
 have hcc:=xr hp h hc;refine⟨u.cells.toList,λha=>?_,λha=>?_,hcc⟩
 ·cases v<;>simp[ge]at ha;simp only[aj]at h;obtain⟨vs,rfl,_⟩:=h;simp[Value.cells]
 ·have key:ac p.β M (Imm F p M w) w v [u]->u.cells.toList=[u]:=λr=>by rw[Pc (ac.one hp v _ r u ak)]
  cases v with
  |any|tup _|gd _ _ _ _=>cases hc
  |ifc _ _=>exact key (by simpa only [aj]using h)
  |ag y=>cases ha
  |p a b|u|ref k π|ad k π|d t y|nl|np|fn f y|bx y=>exact key (by simpa only [aj]using h)
theorem H2{t:T}{x:t.den}(h:v.cells.view M t=some x):fZ v=true:=by cases v<;>first|rfl|(exfalso;revert h;cases t<;>simp[V.cells,V.view])
theorem abf{t:T}{x:t.den}(h:v.cells.as t=some x):fZ v=true:=by cases v<;>first|rfl|(exfalso;revert h;cases t<;>simp[V.cells,V.as])
theorem DB{r:cK}(h:shp (v::r) (g::gs)=true):ge v=g/\shp r gs=true:=by simp only[shp]at h;cases ha:ge v<;>cases g<;>simp[ha]at h⊢<;>exact h
theorem QL(hp:Hp F p M w):(vs:cK)->(gs:fw)->(ts:eT)->(x:bo ts)->(us:aJ)->us.length=vs.length->(∀(i:Nat) v u,vs[i]? = some v->us[i]? = some u->aj p.β M (Imm F p M w) w v u)->shp vs gs=true->jY M vs ts=some x->dL (All F w) w gs ts x us
 |[],[],[],x,us,hl,_,_,h=>by simp only[dL];exact iS (by simpa using hl)
 |[],_::_,_,x,us,hl,_,hs,h=>by simp[shp]at hs
 |[],[],_::_,x,us,hl,_,hs,h=>by simp[jY]at h
 |_::_,[],_,x,us,hl,_,hs,h=>by simp[shp]at hs
 |_::_,_::_,[],x,us,hl,_,hs,h=>by simp[jY]at h
 |v::r,g::gs,t::ts,x,us,hl,hr,hs,h=>by
  simp only[jY]at h;split at h
  ·rename_i y z hy hz;cases h
   cases us with
   |nil=>simp at hl
   |cons u us=>obtain⟨s1,s2⟩:=DB hs;obtain⟨cs,c1,c2,c3⟩:=xy hp (hr 0 v u rfl rfl) (H2 hy);simp only[dL];exact⟨u,us,cs,rfl,λhg=>c1 (s1.trans hg),λhg=>c2 (s1.trans hg),ac8 hp _ _ _ _ c3 hy,QL hp r gs ts z us (by simpa using hl) (λi v' u' hv' hu'=>hr (i+1) v' u' (by simpa using hv') (by simpa using hu')) s2 hz⟩
  ·cases h
theorem ED(hp:Hp F p M w):(vs:cK)->(gs:fw)->(ts:eT)->(x:bo ts)->(us:aJ)->us.length=vs.length->(∀(i:Nat) v u,vs[i]? = some v->us[i]? = some u->aj p.β M (Imm F p M w) w v u)->shp vs gs=true->asL vs ts=some x->dL (Imm F p M w) w gs ts x us
 |[],[],[],x,us,hl,_,_,h=>by simp only[dL];exact iS (by simpa using hl)
 |[],_::_,_,x,us,hl,_,hs,h=>by simp[shp]at hs
 |[],[],_::_,x,us,hl,_,hs,h=>by simp[asL]at h
 |_::_,[],_,x,us,hl,_,hs,h=>by simp[shp]at hs
 |_::_,_::_,[],x,us,hl,_,hs,h=>by simp[asL]at h
 |v::r,g::gs,t::ts,x,us,hl,hr,hs,h=>by
  simp only[asL]at h;split at h
  ·rename_i y z hy hz;cases h
   cases us with
   |nil=>simp at hl
   |cons u us=>obtain⟨s1,s2⟩:=DB hs;obtain⟨cs,c1,c2,c3⟩:=xy hp (hr 0 v u rfl rfl) (abf hy);simp only[dL];exact⟨u,us,cs,rfl,λhg=>c1 (s1.trans hg),λhg=>c2 (s1.trans hg),o7 _ _ _ _ c3 hy,ED hp r gs ts z us (by simpa using hl) (λi v' u' hv' hu'=>hr (i+1) v' u' (by simpa using hv') (by simpa using hu')) s2 hz⟩
  ·cases h
theorem ab7(e:Ev)(v:V):ge (v.ev e)=ge v:=by
 cases v with
 |ref k π=>
  have hx:∀t x,ge (fm t x)=false:=λt x=>by cases t<;>rfl
  cases e<;>simp only[V.ev,Ev.ref,dP]<;>split<;>first|rfl|(split<;>first|rfl|exact hx _ _)|(cases kT π<;>rfl)|(rename_i o o' _;cases orb (kT π) (ET (trk π o) (trk π o'))<;>rfl)
 |ad k π=>cases e<;>simp only[V.ev,Ev.ad,dP]<;>split<;>first|rfl|(split<;>rfl)|(rename_i o o' _;cases oy (gH π o) (gH π o')<;>rfl)
 |_=>rfl
theorem QC(v:V):∀e:List Ev,ge (v.evs e)=ge v
 |[]=>rfl
 |x::e=>by simp only[V.evs];rw[QC _ e,ab7]
theorem DR(e:cg):∀(vs:cK)(gs:fw),shp (gv e vs) gs=shp vs gs
 |[],[]|[],_::_|_::_,[]=>rfl
 |v::r,g::gs=>by simp only[gv,shp,QC];rw[DR e r gs]
theorem acf(h:cid d i=cid d j):i=j:=by unfold cid at h;exact Nat.add_left_cancel h
structure Ad (F:Fr) (p:Ow) (M:Mem) (w:aK) (d n j j':Nat) (S:aT) (N:Mem) (p':Ow):Prop where
 le:j<=j'
 fr:∀i,j'<=i->i<n->go (ap N M) (cid d i)=none
 keys:∀k∈bJ N,∃i,j<=i/\i<j'/\k=cid d i
 tr:Tr F p M w [] p' (ap N M) w
 L:∀b,p'.L b<->p.L b/\¬S b
 old:∀i ob,go M i=some ob->go (ap N M) i=some ob/\p'.β i=p.β i/\p'.σ i=p.σ i
theorem Ad.one(h:Hp F p M w)(d n j:Nat)(hjn:j<n)(hfr:∀i,j<=i->i<n->go M (cid d i)=none)(hr:Rel (Imm F p M w) w ob.o ob.x S [u])(hS:∀b,S b->p.L b):
  Ad F p M w d n j (Nat.succ j) S [(cid d j,ob)] (p.updL (cid d j) u S λb=>p.L b/\¬S b):=by
 refine⟨wy j,λi hi hin=>?_,λk hk=>⟨j,aZ _,Cp _,by simpa[bJ]using hk⟩,?_,λb=>lh,λi o hi=>?_⟩
 ·have hne:cid d j≠cid d i:=λe=>by have:=acf e;subst this;exact uj _ hi
  simp only[ap];rw[dR,ai hne];exact hfr i (by exact Nat.le_of_succ_le hi) hin
 ·simp only[ap];exact Tr.newL h _ (hfr j (aZ _) hjn) u S _ ob ⟨rfl,⟨rfl,aZ _⟩,rfl,aZ _,λ_ _ _=>rfl⟩ (λb hb=>hb) (λb hb=>.inr (hS b hb)) (λhkp=>Rel.keep hkp _ _ _ _ (λ_ _=>rfl) hr)
 ·have hne:i≠cid d j:=by rintro rfl;rw[hfr j (aZ _) hjn]at hi;cases hi
  refine⟨by simp only[ap];rw[dR,ai (dg hne)];exact hi,by simp[Ow.updL,hne],by simp[Ow.updL,hne]⟩
theorem Ad.none(h:Hp F p M w)(d n j:Nat)(S:aT)(hfr:∀i,j<=i->i<n->go M (cid d i)=none):Ad F p M w d n j j S [] ⟨p.β,p.σ,λb=>p.L b/\¬S b⟩:=⟨aZ _,hfr,λk hk=>by simp[bJ]at hk,Tr.drop h _ (λb hb=>hb.1),λb=>lh,λi ob hi=>⟨hi,rfl,rfl⟩⟩
theorem D9:∀(N N':Mem),bJ (ap N N')=bJ N++bJ N'
 |[],N'=>rfl
 |(k,_)::N,N'=>by simp only[ap,bJ,D9 N N',oT]
theorem J3(a b c:List α):ap (ap a b) c=ap a (ap b c):=by simp only[fB,eP]
theorem Ad.two{j'':Nat}{N':Mem}(h1:Ad F p M w d n j j' S1 N p')(h2:Ad F p' (ap N M) w d n j' j'' S2 N' p'')(hS1:∀b,S1 b->S b)(hS2:∀b,S2 b->S b):
  Ad F p M w d n j j'' S (ap N' N) ⟨p''.β,p''.σ,λb=>p''.L b/\¬S b⟩:=by
 have hap:ap (ap N' N) M=ap N' (ap N M):=J3 _ _ _;refine⟨eu h1.le h2.le,λi hi hin=>by rw[hap];exact h2.fr i hi hin,λk hk=>?_,?_,λb=>?_,λi ob hi=>?_⟩
 ·rw[D9]at hk;rcases dN.1 hk with hk|hk
  ·obtain⟨i,a1,a2,a3⟩:=h2.keys k hk;exact⟨i,eu h1.le a1,a2,a3⟩
  ·obtain⟨i,a1,a2,a3⟩:=h1.keys k hk;exact⟨i,a1,iA a2 h2.le,a3⟩
 ·rw[hap];exact h1.tr.trans (h2.tr.trans (Tr.drop h2.tr.hp _ (λb hb=>hb.1)))
 ·show p''.L b/\¬S b<->_;rw[h2.L,h1.L];constructor
  ·rintro⟨⟨⟨a1,_⟩,_⟩,a2⟩;exact⟨a1,a2⟩
  ·rintro⟨a1,a2⟩;exact⟨⟨⟨a1,λh=>a2 (hS1 b h)⟩,λh=>a2 (hS2 b h)⟩,a2⟩
 ·obtain⟨a1,a2,a3⟩:=h1.old i ob hi;obtain⟨b1,b2,b3⟩:=h2.old i ob a1;exact⟨by rw[hap];exact b1,b2.trans a2,b3.trans a3⟩
theorem Eo(d:Nat):(o:O)->(j:Nat)->(x:o.strip.den)->j<=(eK d j o x).2.2/\∀i,j<=i->i<(eK d j o x).2.2->cid d i∈bJ (eK d j o x).2.1
 |.fz t,j,x=>by simp only[eK];exact⟨aZ _,λi h1 h2=>aa⟩
 |.sl e,j,x|.pt e,j,x|.mp k v,j,x=>by simp only[eK];exact⟨wy _,λi h1 h2=>by (have:i=j:=aa);subst this;simp[bJ]⟩
 |.op e,j,x=>by simp only[eK];exact⟨aZ _,λi h1 h2=>aa⟩
 |.p a b,j,x=>by
  obtain⟨a1,a2⟩:=Eo d a j x.1;simp only[eK];generalize eK d j a x.1=q1 at a1 a2⊢;obtain⟨v1,N1,j1⟩:=q1;simp only at a1 a2⊢;obtain⟨b1,b2⟩:=Eo d b j1 x.2;generalize eK d j1 b x.2=q2 at b1 b2⊢;obtain⟨v2,N2,j2⟩:=q2;simp only at b1 b2⊢;refine⟨eu a1 b1,λi h1 h2=>?_⟩;rw[D9];by_cases h:i<j1
  ·exact oU _ (a2 i h1 h)
  ·exact jH _ (b2 i aa h2)
theorem DZ(d:Nat):(rs:gS)->(j:Nat)->(x:bV rs)->j<=(newL d j rs x).2.2/\∀i,j<=i->i<(newL d j rs x).2.2->cid d i∈bJ (newL d j rs x).2.1
 |[],j,x=>by simp only[newL];exact⟨aZ _,λi h1 h2=>aa⟩
 |q::rs,j,x=>by
  obtain⟨a1,a2⟩:=Eo d q.2 j x.1;simp only[newL];generalize eK d j q.2 x.1=q1 at a1 a2⊢;obtain⟨v1,N1,j1⟩:=q1;simp only at a1 a2⊢;obtain⟨b1,b2⟩:=DZ d rs j1 x.2;generalize newL d j1 rs x.2=q2 at b1 b2⊢;obtain⟨v2,N2,j2⟩:=q2;simp only at b1 b2⊢;refine⟨eu a1 b1,λi h1 h2=>?_⟩;rw[D9];by_cases h:i<j1
  ·exact oU _ (a2 i h1 h)
  ·exact jH _ (b2 i aa h2)
theorem Kh(d n:Nat):(o:O)->(M:Mem)->(p:Ow)->(j:Nat)->(x:o.strip.den)->(S:aT)->(vs:aJ)->Hp F p M w->Rel (Imm F p M w) w o x S vs->(∀b,S b->p.L b)->(eK d j o x).2.2<=n->(∀i,j<=i->i<n->go M (cid d i)=none)->
  ∃p',Ad F p M w d n j (eK d j o x).2.2 S (eK d j o x).2.1 p'/\ac p'.β (ap (eK d j o x).2.1 M) (Imm F p' (ap (eK d j o x).2.1 M) w) w (eK d j o x).1 vs
 |.fz t,M,p,j,x,S,vs,h,r,hS,hn,hfr=>by simp only[eK,ap];have ha:=Ad.none h d n j S hfr;refine⟨_,ha,fG t x vs ?_⟩;simp only[Rel]at r;exact ah.keep ha.tr.keep _ _ _ r
 |.op e,M,p,j,x,S,vs,h,r,hS,hn,hfr=>by simp only[eK,ap];have ha:=Ad.none h d n j S hfr;refine⟨_,ha,?_⟩;simp only[Rel]at r;simp only[ac];exact r.2.1
 |.sl e,M,p,j,x,S,vs,h,r,hS,hn,hfr=>by
  simp only[eK];obtain⟨u,rfl⟩:∃u,vs=[u]:=by simp only[Rel]at r;obtain⟨v,_,_,_,rfl,_⟩:=r;exact⟨v,rfl⟩
  have ha:=Ad.one (ob:=⟨.sl e,x⟩) h d n j (by simp only[eK]at hn;exact hn) hfr r hS;refine⟨_,ha,?_⟩;simp only[ac,ap];refine⟨⟨.sl e,x⟩,Option.none,mY _ _ _,by simp only[gok],⟨⟨.sl e,x⟩,by simp only[get]⟩,?_⟩;simp only[res,Ow.updL,eX]
 |.mp e e',M,p,j,x,S,vs,h,r,hS,hn,hfr=>by
  simp only[eK];obtain⟨u,rfl⟩:∃u,vs=[u]:=by simp only[Rel]at r;obtain⟨b,_,_,rfl,_⟩:=r;exact⟨_,rfl⟩
  have ha:=Ad.one (ob:=⟨.mp e e',x⟩) h d n j (by simp only[eK]at hn;exact hn) hfr r hS;refine⟨_,ha,?_⟩;simp only[ac,ap];refine⟨⟨.mp e e',x⟩,Option.none,mY _ _ _,by simp only[gok],⟨⟨.mp e e',x⟩,by simp only[get]⟩,?_⟩;simp only[res,Ow.updL,eX]
 |.pt o,M,p,j,x,S,vs,h,r,hS,hn,hfr=>by
  simp only[eK];obtain⟨b,us,ty',S',rfl,_⟩:∃b us ty' S',vs=[.pointer (some ⟨b,0,Option.none⟩)]/\S b/\w.heap[b]? = some (.cells (us:aJ).toArray ty' (0,0))/\(∀c,S' c->S c/\c≠b)/\Rel (Imm F p M w) w o x S' us:=by simp only[Rel]at r;exact r
  have ha:=Ad.one (ob:=⟨.pt o,x⟩) h d n j (by simp only[eK]at hn;exact hn) hfr r hS;refine⟨_,ha,?_⟩;simp only[ac,ap];refine⟨_,rfl,⟨.pt o,x⟩,cellsOf w b 0 o.size,b,0,mY _ _ _,by simp only[gok],⟨⟨o,x⟩,by simp only[get]⟩,rfl,?_,rfl⟩;simp only[res,Ow.updL,eX]
 |.p a b,M,p,j,x,S,vs,h,r,hS,hn,hfr=>by
  simp only[Rel]at r;obtain⟨va,vb,S1,S2,rfl,h1,h2,h3,ha,hb⟩:=r;have hle:=Eo d b (eK d j a x.1).2.2 x.2;simp only[eK]at hn;obtain⟨p1,a1,a2⟩:=Kh d n a M p j x.1 S1 va h ha (λc hc=>hS c (h1 c hc)) (eu hle.1 hn) hfr;simp only[eK];generalize eK d j a x.1=q1 at a1 a2 hn hle⊢;obtain⟨v1,N1,j1⟩:=q1;simp only at a1 a2 hn hle⊢;obtain⟨p2,b1,b2⟩:=Kh d n b (ap N1 M) p1 j1 x.2 S2 vb a1.tr.hp (Rel.keep a1.tr.keep _ _ _ _ (λ_ _=>rfl) hb) (λc hc=>(a1.L c).2 ⟨hS c (h2 c hc),λhc1=>h3 c hc1 hc⟩) hn a1.fr;generalize eK d j1 b x.2=q2 at b1 b2⊢;obtain⟨v2,N2,j2⟩:=q2;simp only at b1 b2⊢;have hc:=a1.two b1 h1 h2;refine⟨_,hc,?_⟩;have hd:=Tr.drop b1.tr.hp (λb=>p2.L b/\¬S b) (λb hb=>hb.1);rw[J3];simp only[ac];refine⟨va,vb,rfl,?_,?_⟩
  ·have:=(b1.tr.trans hd).c _ _ a2;simpa only [ap,V.evs]using this
  ·have:=hd.c _ _ b2;simpa only [V.evs]using this
theorem Kz(d n:Nat):(rs:gS)->(M:Mem)->(p:Ow)->(j:Nat)->(x:bV rs)->(S:aT)->(us:aJ)->Hp F p M w->cW (Imm F p M w) w rs x S us->(∀b,S b->p.L b)->(newL d j rs x).2.2<=n->(∀i,j<=i->i<n->go M (cid d i)=none)->
  ∃p',Ad F p M w d n j (newL d j rs x).2.2 S (newL d j rs x).2.1 p'/\cH p'.β (ap (newL d j rs x).2.1 M) (Imm F p' (ap (newL d j rs x).2.1 M) w) w (newL d j rs x).1 us
 |[],M,p,j,x,S,us,h,r,hS,hn,hfr=>by simp only[cW]at r;simp only[newL,ap,cH];exact⟨_,Ad.none h d n j S hfr,r⟩
 |q::rs,M,p,j,x,S,us,h,r,hS,hn,hfr=>by
  simp only[cW]at r;obtain⟨u,us',vs,S1,S2,rfl,g1,g2,h1,h2,h3,ha,hb⟩:=r;have hle:=DZ d rs (eK d j q.2 x.1).2.2 x.2;simp only[newL]at hn;obtain⟨p1,a1,a2⟩:=Kh d n q.2 M p j x.1 S1 vs h ha (λc hc=>hS c (h1 c hc)) (eu hle.1 hn) hfr;simp only[newL];generalize eK d j q.2 x.1=q1 at a1 a2 hn hle⊢;obtain⟨v1,N1,j1⟩:=q1;simp only at a1 a2 hn hle⊢
  have hbk:∀(rs:gS) (x:bV rs) (S:aT) (us:aJ),cW (Imm F p M w) w rs x S us->cW (Imm F p1 (ap N1 M) w) w rs x S us:=by
   intro rs
   induction rs with
   |nil=>intro x S us r;simpa only [cW]using r
   |cons q rs ih=>intro x S us r;simp only[cW]at r⊢;obtain⟨u,us',vs,S1,S2,e1,e2,e3,e4,e5,e6,e7,e8⟩:=r;exact⟨u,us',vs,S1,S2,e1,e2,e3,e4,e5,e6,Rel.keep a1.tr.keep _ _ _ _ (λ_ _=>rfl) e7,ih _ _ _ e8⟩
  obtain⟨p2,b1,b2⟩:=Kz d n rs (ap N1 M) p1 j1 x.2 S2 us' a1.tr.hp (hbk _ _ _ _ hb) (λc hc=>(a1.L c).2 ⟨hS c (h2 c hc),λhc1=>h3 c hc1 hc⟩) hn a1.fr;generalize newL d j1 rs x.2=q2 at b1 b2⊢;obtain⟨v2,N2,j2⟩:=q2;simp only at b1 b2⊢;have hc:=a1.two b1 h1 h2;refine⟨_,hc,?_⟩;have hd:=Tr.drop b1.tr.hp (λb=>p2.L b/\¬S b) (λb hb=>hb.1);rw[J3];simp only[cH];refine⟨u,us',rfl,?_,?_⟩
  ·have h4:=(b1.tr.trans hd).c _ _ a2;simp only[ap,V.evs]at h4
   cases hq:q.1 with
   |true=>simp only[lF,aD,aj];exact⟨vs,g1 hq,h4⟩
   |false=>have:=g2 hq;subst this;simp only[lF,bp];exact ky h4
  ·have hT:∀(v:V)(us:aJ),cH p2.β (ap N2 (ap N1 M)) (Imm F p2 (ap N2 (ap N1 M)) w) w v us->cH p2.β (ap N2 (ap N1 M)) (Imm F ⟨p2.β,p2.σ,λb=>p2.L b/\¬S b⟩ (ap N2 (ap N1 M)) w) w v us:=λv us r=>by
    have h5:aj p2.β (ap N2 (ap N1 M)) (Imm F p2 (ap N2 (ap N1 M)) w) w (.tup v) (.tuple us.toArray):=by simp only[aj];exact⟨us,rfl,r⟩
    have h6:=hd.s _ _ h5;simp only[V.evs,aj,Value.tuple.injEq]at h6;obtain⟨us',e1,e2⟩:=h6;have:us=us':=by simpa using congrArg Array.toList e1
    rw[this];exact e2
   exact hT _ _ b2
theorem Lt(a b:V):∀e:List Ev,(V.p a b).evs e=.p (a.evs e) (b.evs e)
 |[]=>rfl
 |x::e=>by simp only[V.evs,V.ev];exact Lt _ _ e
theorem TM(a:V):∀e:List Ev,(V.ag a).evs e=.ag (a.evs e)
 |[]=>rfl
 |x::e=>by simp only[V.evs,V.ev];exact TM _ e
theorem Rn(a:V):∀e:List Ev,(V.tup a).evs e=.tup (a.evs e)
 |[]=>rfl
 |x::e=>by simp only[V.evs,V.ev];exact Rn _ e
theorem TC(j:Nat)(b:bC)(P:Prop)(a:V):∀e:List Ev,(V.gd j b P a).evs e=.gd j b P (a.evs e)
 |[]=>rfl
 |x::e=>by simp only[V.evs,V.ev];exact TC j b P _ e
theorem TI(f:gp)(a:V):∀e:List Ev,(V.fn f a).evs e=.fn f (a.evs e)
 |[]=>rfl
 |x::e=>by simp only[V.evs,V.ev];exact TI f _ e
theorem Rx(t:bW)(a:V):∀e:List Ev,(V.ifc t a).evs e=.ifc t (a.evs e)
 |[]=>rfl
 |x::e=>by simp only[V.evs,V.ev];exact Rx t _ e
theorem Tp(a:V):∀e:List Ev,(V.bx a).evs e=.bx (a.evs e)
 |[]=>rfl
 |x::e=>by simp only[V.evs,V.ev];exact Tp _ e
theorem Le:∀e:List Ev,V.u.evs e=.u
 |[]=>rfl
 |x::e=>by simp only[V.evs,V.ev];exact Le e
theorem Km:∀e:List Ev,V.any.evs e=.any
 |[]=>rfl
 |x::e=>by simp only[V.evs,V.ev];exact Km e
theorem Tu:∀e:List Ev,V.nl.evs e=.nl
 |[]=>rfl
 |x::e=>by simp only[V.evs,V.ev];exact Tu e
theorem Tj:∀e:List Ev,V.np.evs e=.np
 |[]=>rfl
 |x::e=>by simp only[V.evs,V.ev];exact Tj e
theorem Uj(t:T)(y:t.den):∀e:List Ev,(V.d t y).evs e=.d t y
 |[]=>rfl
 |x::e=>by simp only[V.evs,V.ev];exact Uj t y e
theorem ac.evs{e:cg}(hk:cN Im Im' w w')(href:∀k π vs,Ref β M w k π vs->ac β' M' Im' w' ((V.ref k π).evs e) vs)(had:∀k π v,Adr β M w k π v->ac β' M' Im' w' ((V.ad k π).evs e) [v]) :
  (x:V)->(vs:aJ)->ac β M Im w x vs->ac β' M' Im' w' (x.evs e) vs
 |.p a b,vs,r=>by rw[Lt];simp only[ac]at r⊢;obtain⟨va,vb,h1,h2,h3⟩:=r;exact⟨va,vb,h1,ac.evs hk href had a va h2,ac.evs hk href had b vb h3⟩
 |.u,vs,r=>by rw[Le];simpa only [ac]using r
 |.ref k π,vs,r=>by simp only[ac]at r;exact href k π vs r
 |.ad k π,vs,r=>by simp only[ac]at r;obtain⟨v,rfl,h⟩:=r;exact had k π v h
 |.d t x,vs,r=>by rw[Uj];simp only[ac]at r⊢;exact ah.keep hk t x vs r
 |.nl,vs,r=>by rw[Tu];simpa only [ac]using r
 |.np,vs,r=>by rw[Tj];simpa only [ac]using r
 |.any,vs,r=>by rw[Km];simpa only [ac]using r
 |.fn f v,vs,r=>by rw[TI];simp only[ac]at r⊢;obtain⟨us,h1,h2⟩:=r;exact⟨us,h1,ac.evs hk href had v us h2⟩
 |.bx v,vs,r=>by rw[Tp];simp only[ac]at r⊢;obtain⟨b,o,us,h1,h2,h3,h4⟩:=r;exact⟨b,o,us,h1,(hk b h2).1,h3.keep (hk b h2).2,ac.evs hk href had v us h4⟩
 |.ag _,vs,r|.tup _,vs,r|.gd _ _ _ _,vs,r=>by simp only[ac]at r
 |.ifc t v,vs,r=>by rw[Rx];simp only[ac]at r⊢;obtain⟨u,h1,h2⟩:=r;exact⟨u,h1,ac.evs hk href had v [u] h2⟩
mutual
theorem aj.evs{e:cg}(hk:cN Im Im' w w')(href:∀k π vs,Ref β M w k π vs->ac β' M' Im' w' ((V.ref k π).evs e) vs)(had:∀k π v,Adr β M w k π v->ac β' M' Im' w' ((V.ad k π).evs e) [v]) :
  (x:V)->(v:bm)->aj β M Im w x v->aj β' M' Im' w' (x.evs e) v
 |.any,v,r=>by rw[Km];simp only[aj]
 |.ag x,v,r=>by rw[TM];simp only[aj]at r⊢;obtain⟨vs,h1,h2⟩:=r;exact⟨vs,h1,ac.evs hk href had x vs h2⟩
 |.tup x,v,r=>by rw[Rn];simp only[aj]at r⊢;obtain⟨vs,h1,h2⟩:=r;exact⟨vs,h1,cH.evs hk href had x vs h2⟩
 |.gd j b P x,v,r=>by rw[TC];simp only[aj]at r⊢;exact⟨λhp=>aj.evs hk href had x v (r.1 hp),r.2⟩
 |.ifc t x,v,r|.p a b,v,r|.u,v,r|.ref k π,v,r|.ad k π,v,r|.d t x,v,r|.nl,v,r|.np,v,r|.fn f x,v,r|.bx x,v,r=>by simp only[aj]at r;exact ky (ac.evs hk href had _ _ r)
theorem cH.evs{e:cg}(hk:cN Im Im' w w')(href:∀k π vs,Ref β M w k π vs->ac β' M' Im' w' ((V.ref k π).evs e) vs)(had:∀k π v,Adr β M w k π v->ac β' M' Im' w' ((V.ad k π).evs e) [v]) :
  (x:V)->(vs:aJ)->cH β M Im w x vs->cH β' M' Im' w' (x.evs e) vs
 |.p a b,vs,r=>by rw[Lt];simp only[cH]at r⊢;obtain⟨u,us,h1,h2,h3⟩:=r;exact⟨u,us,h1,aj.evs hk href had a u h2,cH.evs hk href had b us h3⟩
 |.u,vs,r=>by rw[Le];simpa only [cH]using r
 |.any,vs,r|.ag x,vs,r|.tup x,vs,r|.gd j b P x,vs,r|.ifc t x,vs,r|.ref k π,vs,r|.ad k π,vs,r|.d t x,vs,r|.nl,vs,r|.np,vs,r|.fn f x,vs,r|.bx x,vs,r=>by simp only[cH]at r
end
structure Upd (F:Fr) (p:Ow) (M:Mem) (w w':aK) (T S':aT) (L:bK) (σ':y9) (M0 M1:Mem) (e:cg):Prop where
 keys:∀k,k∈L->∃ob ob',go M k=some ob/\go M1 k=some ob'/\∀Im':Nat->Prop,cN (Imm F p M w) Im' w w'->Rel Im' w' ob'.o ob'.x (σ' k) [p.β k]
 sub:∀k,k∈L->∀c,σ' k c->(p.σ k c/\¬T c)\/S' c
 dis:∀k k',k∈L->k'∈L->k≠k'->∀c,σ' k c->¬σ' k' c
 rest:∀k,k∉L->go M1 k=go M0 k
 ref:∀k π,(V.ref k π).evs e=if k∈L then (if kT π=true then .ref k π else .any)else .ref k π
 ad:∀k,k∉L->∀π,(V.ad k π).evs e=.ad k π
 adk:∀k,k∈L->∀π,(V.ad k π).evs e=.any\/((V.ad k π).evs e=.ad k π/\∃ob ob' n,go M k=some ob/\go M1 k=some ob'/\gH π ob.o=some n/\gH π ob'.o=some n)
theorem D5(hp:Hp F p M w)(hL:∀b,¬p.L b){o:O}{x x':o.strip.den}(hk:go M k=some ⟨o,x⟩){S' R:aT}(hA:∀b,A b->Imm F p M w b)(hX:ExtS w w' (p.σ k))(hR:∀b,R b->w.heap.size<=b/\b<w'.heap.size)(hS:∀b,S' b->(p.σ k b\/w.heap.size<=b/\b<w'.heap.size)/\¬R b)(hrel:Rel (λb=>b<w'.heap.size/\(A b\/p.σ k b\/w.heap.size<=b)/\¬S' b/\¬R b) w' o x' S' [p.β k]):
  ∃p',Tr F p M w [.cut k o o] p' (put k ⟨o,x'⟩ M) w'/\(∀b,p'.L b<->R b)/\(∀b,(b<w'.heap.size/\(A b\/p.σ k b\/w.heap.size<=b)/\¬S' b/\¬R b)->Imm F p' (put k ⟨o,x'⟩ M) w' b):=by
 generalize hp':(⟨p.β,λj=>if j=k then S' else p.σ j,R⟩:Ow)=p';have hβ:p'.β=p.β:=by rw[←hp']
 have hσ1:p'.σ k=S':=by rw[←hp'];simp
 have hσ2:∀j,j≠k->p'.σ j=p.σ j:=λj hj=>by rw[←hp'];simp[hj]
 have hL':∀b,p'.L b<->R b:=by rw[←hp'];exactλb=>lh
 have hlk:=cz hk;have hg1:go (put k ⟨o,x'⟩ M) k=some ⟨o,x'⟩:=sR _ _ hlk;have hg2:∀j,j≠k->go (put k ⟨o,x'⟩ M) j=go M j:=λj hj=>pn _ hj _
 have hlv:∀j,bF (put k ⟨o,x'⟩ M) j<->bF M j:=λj=>by
  by_cases hj:j=k
  ·subst hj;exact⟨λ_=>hlk,λ_=>cz hg1⟩
  ·unfold bF;rw[hg2 j hj]
 have hR0:∀b,R b->∀j,bF M j->¬p.σ j b:=λb hb j hj hs=>by have:=(hp.own j b hj hs).1;have:=(hR b hb).1;omega
 have hS0:∀b,S' b->∀j,j≠k->bF M j->¬p.σ j b:=λb hb j hj hl hs=>by
  rcases (hS b hb).1 with h|h
  ·exact hp.sep k j b (dg hj) hlk hl h hs
  ·have:=(hp.own j b hl hs).1;omega
 have hkeep:cN (Imm F p M w) (Imm F p' (put k ⟨o,x'⟩ M) w') w w':=λb hb=>by
  have hnT:¬p.σ k b:=hb.2.2.2 k hlk;refine⟨⟨iA hb.1 hX.size,hb.2.1,λh=>?_,λj hj=>?_⟩,hX.old b hb.1 hnT⟩
  ·have:=(hR b ((hL' b).1 h)).1;have:=hb.1;omega
  ·by_cases h:j=k
   ·subst h;rw[hσ1];intro hc;rcases (hS b hc).1 with q|q
    ·exact hnT q
    ·have:=hb.1;omega
   ·rw[hσ2 j h];exact hb.2.2.2 j ((hlv j).1 hj)
 have hoth:∀j,j≠k->bF M j->∀b,p.σ j b->w'.heap[b]? = w.heap[b]?:=λj hj hl b hb=>hX.old b (hp.own j b hl hb).1 (λh=>hp.sep k j b (dg hj) hlk hl h hb)
 have himm:∀b,(b<w'.heap.size/\(A b\/p.σ k b\/w.heap.size<=b)/\¬S' b/\¬R b)->Imm F p' (put k ⟨o,x'⟩ M) w' b:=λb ⟨b1,b2,b3,b4⟩=>by
  rcases b2 with h|h|h
  ·exact (hkeep b (hA b h)).1
  ·have hown:=hp.own k b hlk h;refine⟨b1,?_,λh=>b4 ((hL' b).1 h),λj hj=>?_⟩
   ·rcases hown.2 with⟨_,h2⟩|h2
    ·exact .inr (.inl h2)
    ·exact .inr h2.r
   ·by_cases hjk:j=k
    ·subst hjk;rw[hσ1];exact b3
    ·rw[hσ2 j hjk];exact hp.sep k j b (dg hjk) hlk ((hlv j).1 hj) h
  ·refine⟨b1,.inr (.inr (eu hp.size h)),λh=>b4 ((hL' b).1 h),λj hj=>?_⟩;by_cases hjk:j=k
   ·subst hjk;rw[hσ1];exact b3
   ·rw[hσ2 j hjk];exactλhs=>by have:=(hp.own j b ((hlv j).1 hj) hs).1;omega
 have href:∀j π vs,Ref p.β M w j π vs->ac p'.β (put k ⟨o,x'⟩ M) (Imm F p' (put k ⟨o,x'⟩ M) w') w' (Ev.ref j π (.cut k o o)) vs:=λj π vs r=>by
  simp only[Ev.ref,dP];by_cases h:j=k
  ·subst h;rw[am rfl]
   cases π with
   |nil=>simp only[kT,aD,ac];obtain⟨ob,pl0,k1,k2,k3,k4⟩:=r;simp only[res,aG,bS]at k4;obtain⟨rfl,rfl⟩:=k4;exact⟨_,none,hg1,by simp only[gok],⟨_,by simp only[get];rfl⟩,by simp only[res,hβ]⟩
   |cons s ρ=>simp only[kT,bp,ac];exact r.one hp
  ·rw[ai h];simp only[ac];exact r.same hp (hg2 j h) (by rw[hβ]) (hoth j h)
 have had:∀j π v,Adr p.β M w j π v->ac p'.β (put k ⟨o,x'⟩ M) (Imm F p' (put k ⟨o,x'⟩ M) w') w' (Ev.ad j π (.cut k o o)) [v]:=λj π v r=>by
  simp only[Ev.ad,dP];by_cases h:j=k
  ·subst h;rw[am rfl]
   cases hs:oy (gH π o) (gH π o)with
   |false=>simp only[bp,ac];intro u hu;rw[cP.1 hu];exact r.one
   |true=>obtain⟨n,s1,_⟩:=Jx hs;simp only[aD,ac];refine⟨v,rfl,?_⟩;obtain⟨o0,us0,b0,off0,k1,k2,k3,k4,k5,rfl⟩:=r;rw[hk]at k1;cases k1;obtain⟨ρ1,o1,rfl,e1,f1⟩:=Ay s1;subst e1;have hr:=hp.objs j _ hk;simp only[Rel]at hr;obtain⟨bb,us1,ty',S1,r1,r2,r3,r4,r5⟩:=hr;simp only[bH,aA]at r1;rw[r1]at k5;simp only[res]at k5;obtain⟨_,_,us2,q3⟩:=mf w ρ1 o1 n f1 x (cellsOf w bb 0 o1.size) (some (bb,0));rw[q3]at k5;simp only[aG,bS]at k5;obtain⟨q1,q2,us3,q3'⟩:=mf w' ρ1 o1 n f1 x' (cellsOf w' bb 0 o1.size) (some (bb,0));refine⟨_,us3,b0,off0,hg1,by simpa only [gok]using q2,by simpa only [get]using q1,by simp only[cn],?_,rfl⟩;rw[hβ,r1];simp only[res];rw[q3',k5.2]
  ·rw[ai h];simp only[ac];exact⟨v,rfl,r.same hp (hg2 j h) (by rw[hβ]) (hoth j h)⟩
 refine⟨p',Tr.one _ hkeep href had ⟨λj ob hj=>?_,λj j' b hne hj hj' hb=>?_,λj b hj hb=>?_,λb hb=>?_,hX.os.trans hp.os,hX.tape.trans hp.tape,hX.output.trans hp.output,eu hp.size hX.size,λb hb hRR=>?_⟩,hL',himm⟩
 ·by_cases h:j=k
  ·subst h;rw[hg1]at hj;cases hj;rw[hβ,hσ1];exact Rel.keep (λb hb=>⟨himm b hb,rfl⟩) _ _ _ _ (λ_ _=>rfl) hrel
  ·rw[hg2 j h]at hj;rw[hβ,hσ2 j h];exact Rel.keep hkeep _ _ _ _ (hoth j h (cz hj)) (hp.objs j ob hj)
 ·have hj1:=(hlv j).1 hj;have hj2:=(hlv j').1 hj';by_cases h:j=k
  ·subst h;rw[hσ1]at hb;rw[hσ2 j' (dg hne)];exact hS0 b hb j' (dg hne) hj2
  ·rw[hσ2 j h]at hb;by_cases h':j'=k
   ·subst h';rw[hσ1];exactλhc=>hS0 b hc j h hj1 hb
   ·rw[hσ2 j' h'];exact hp.sep j j' b hne hj1 hj2 hb
 ·have hj1:=(hlv j).1 hj;by_cases h:j=k
  ·subst h;rw[hσ1]at hb;rcases (hS b hb).1 with q|q
   ·have:=hp.own j b hj1 q;exact⟨iA this.1 hX.size,this.2⟩
   ·exact⟨q.2,.inr (.inl (eu hp.size q.1))⟩
  ·rw[hσ2 j h]at hb;have:=hp.own j b hj1 hb;exact⟨iA this.1 hX.size,this.2⟩
 ·have hb:=(hL' b).1 hb;refine⟨(hR b hb).2,.inl (eu hp.size (hR b hb).1),λj hj=>?_⟩;by_cases h:j=k
  ·subst h;rw[hσ1];exactλhs=>(hS b hs).2 hb
  ·rw[hσ2 j h];exact hR0 b hb j ((hlv j).1 hj)
 ·rw[hX.old b (iA hb hp.size) (λht=>?_)]
  ·exact hp.old b hb hRR
  ·rcases (hp.own k b hlk ht).2 with⟨_,a2⟩|a1
   ·exact hRR a2
   ·exact a1.r.elim hRR λh=>aa
theorem RQ{Im:aT}{w:aK}:(k:T)->0<k.intsN->(x:k.den)->(vs:aJ)->ah Im w k x vs->vs=gz k x
 |.int k,_,x,vs,r=>by simp only[ah]at r;simp only[gz];exact r.1
 |.p a b,h,x,vs,r=>by
  cases a<;>simp only[T.intsN]at h<;>try omega
  simp only[ah]at r;obtain⟨va,vb,rfl,⟨rfl,_⟩,hb⟩:=r;have hb':0<b.intsN:=by cases hn:b.intsN with|zero=>simp[hn]at h|succ n=>omega
  simp only[gz];rw[RQ b hb' x.2 vb hb]
 |.bool,h,_,_,_|.str,h,_,_,_|.u,h,_,_,_|.sl _,h,_,_,_|.pt _,h,_,_,_|.fn _ _,h,_,_,_|.ifc _ _,h,_,_,_|.ib _ _,h,_,_,_|.mp _ _,h,_,_,_|.op _,h,_,_,_|.ns _,h,_,_,_|.er _,h,_,_,_|.any,h,_,_,_=>by simp[T.intsN]at h
theorem Kp{Im:aT}{w:aK}:(k:T)->0<k.intsN->(x:k.den)->k.ok x->ah Im w k x (gz k x)
 |.int k,_,x,h=>by simp only[ah,gz];exact⟨trivial,h⟩
 |.p a b,h,x,hk=>by
  cases a<;>simp only[T.intsN]at h<;>try omega
  have hb':0<b.intsN:=by cases hn:b.intsN with|zero=>simp[hn]at h|succ n=>omega
  simp only[T.ok]at hk;simp only[ah,gz];exact⟨_,_,rfl,⟨rfl,hk.1⟩,Kp b hb' x.2 hk.2⟩
 |.bool,h,_,_|.str,h,_,_|.u,h,_,_|.sl _,h,_,_|.pt _,h,_,_|.fn _ _,h,_,_|.ifc _ _,h,_,_|.ib _ _,h,_,_|.mp _ _,h,_,_|.op _,h,_,_|.ns _,h,_,_|.er _,h,_,_|.any,h,_,_=>by simp[T.intsN]at h
theorem Ut{k:gT}(x y:Int):eqR (.int k) x y=(x==y):=by
 cases h:(x==y)with
 |true=>exact gi.2 (by simpa using h)
 |false=>exact xW (by simpa using h)
theorem ago(x y:ByteArray):eqR .str x y=(x==y):=by
 cases h:(x==y)with
 |true=>exact gi.2 ((MapKept.bytes_beq x y).1 h)
 |false=>exact xW (λe=>by rw[(MapKept.bytes_beq x y).2 e]at h;cases h)
theorem Py:(k:T)->(n:Nat)->k.intsN=n+1->(x y:k.den)->nk (n+1) (fm k x) (fm k y)=some (eqR k x y)
 |.int k,n,h,x,y=>by
  simp only[T.intsN]at h;have:n=0:=aa
  subst this;simp only[fm,nk,IY,aD,Ut]
 |.p a b,n,h,x,y=>by
  cases a<;>simp only[T.intsN]at h<;>try omega
  rename_i k
  cases hn:b.intsN with
  |zero=>simp[hn]at h
  |succ m=>
   simp only[hn]at h;have:n=m+1:=aa
   subst this;have ih:=Py b m hn x.2 y.2;simp only[fm,nk,Nat.succ_eq_add_one,ih,IY,aD];congr 1
   cases hx:(x.1==y.1)with
   |true=>
    simp only[ji];have e:x.1=y.1:=by simpa using hx
    cases hb:eqR b x.2 y.2 with
    |true=>exact (gi.2 (Prod.ext e (gi.1 hb))).symm
    |false=>refine (xW λh=>?_).symm;rw[h,Qm]at hb;cases hb
   |false=>simp only[Bool.false_and];refine (xW λh=>?_).symm;rw[h]at hx;simp at hx
 |.bool,_,h,_,_|.str,_,h,_,_|.u,_,h,_,_|.sl _,_,h,_,_|.pt _,_,h,_,_|.fn _ _,_,h,_,_|.ifc _ _,_,h,_,_|.ib _ _,_,h,_,_|.mp _ _,_,h,_,_|.op _,_,h,_,_|.ns _,_,h,_,_|.er _,_,h,_,_|.any,_,h,_,_=>by simp[T.intsN]at h
structure KeyR (P:d4) (kty:bW) (k:T):Prop where
 check:∀(w:aK)(e:bC)(x:k.den),k.ok x->(Instr.checkKey e 10000 kty (cw k x)).run P w=.ok () w
 find:∀(w:aK)(v:T)(x:k.den),k.ok x->∀(es:List MapEntry)(l:List (k.den×v.den)),(∀y∈l,k.ok y.1)->es.map (λe=>(e.key,e.val))=l.map (λy=>(cw k y.1,cw v y.2))->
  ((Instr.findKey kty (cw k x) es).run P w=.ok none w/\jV k v l x=none/\∀z,eI k v l x z=l++[(x,z)])\/
  ∃j y,(Instr.findKey kty (cw k x) es).run P w=.ok (some (j,cw v y)) w/\l[j]? = some (x,y)/\jV k v l x=some y/\∀z,eI k v l x z=l.set j (x,z)
 same:∀(x:k.den),Instr.sameBits 10000 (cw k x) (cw k x)=true
theorem jq{k v:T}{e:k.den×v.den}{r:List (k.den×v.den)}{x:k.den}:jV k v (e::r) x=if eqR k x e.1=true then some e.2 else jV k v r x:=by unfold jV;rw[List.find?_cons];cases h:eqR k x e.1<;>simp
theorem IE{kty:bW}{k:T}(heq:∀(w:aK)(x y:k.den),k.ok x->k.ok y->(Op.equal kty (cw k x) (cw k y)).run P w=.ok (eqR k x y) w)(w:aK)(v:T)(x:k.den)(hx:k.ok x):∀(es:List MapEntry)(l:List (k.den×v.den)) (i:Nat),(∀y∈l,k.ok y.1)->es.map (λe=>(e.key,e.val))=l.map (λy=>(cw k y.1,cw v y.2))->
  ((Instr.findAsking kty (cw k x) es i).run P w=.ok none w/\jV k v l x=none/\∀z,eI k v l x z=l++[(x,z)])\/
  ∃j y,(Instr.findAsking kty (cw k x) es i).run P w=.ok (some (i+j,cw v y)) w/\l[j]? = some (x,y)/\jV k v l x=some y/\∀z,eI k v l x z=l.set j (x,z)
 |[],l,i,hl,h=>by
  cases l with
  |cons _ _=>simp at h
  |nil=>exact .inl ⟨by simp[Instr.findAsking],rfl,λz=>rfl⟩
 |e::es,l,i,hl,h=>by
  cases l with
  |nil=>simp at h
  |cons y r=>
   simp only[gO,bH,bS]at h;obtain⟨⟨h1,h2⟩,h3⟩:=h;have he:=heq w x y.1 hx (hl y ak);rw[←h1]at he
   cases hq:eqR k x y.1 with
   |true=>
    have e1:=gi.1 hq;refine .inr ⟨0,y.2,?_,?_,?_,λz=>?_⟩
    ·simp[Instr.findAsking,he,hq,h2]
    ·rw[e1];rfl
    ·rw[jq,am hq]
    ·simp only[eI,hq,eX,Gg]
   |false=>
    rcases IE heq w v x hx es r (i+1) (λz hz=>hl z (by simp[hz])) h3 with⟨a1,a2,a3⟩|⟨j,z,a1,a2,a3,a4⟩
    ·refine .inl ⟨?_,?_,λz=>?_⟩
     ·simp[Instr.findAsking,he,hq,a1]
     ·rw[jq,ai (by rw[hq];simp)];exact a2
     ·simp only[eI,hq,eE,ul,a3,oT]
    ·refine .inr ⟨j+1,z,?_,?_,?_,λu=>?_⟩
     ·simp[Instr.findAsking,he,hq,a1];omega
     ·simpa using a2
     ·rw[jq,ai (by rw[hq];simp)];exact a3
     ·simp only[eI,hq,eE,ul,a4,Gh]
theorem QF{kd:TypeDesc}{k:T}(heq:∀(x y:k.den),Instr.sameNow kd (cw k x) (cw k y)=some (eqR k x y))(v:T)(x:k.den):∀(es:List MapEntry)(l:List (k.den×v.den)) (i:Nat),es.map (λe=>(e.key,e.val))=l.map (λy=>(cw k y.1,cw v y.2))->
  (Instr.findNow kd (cw k x) es i=some none/\jV k v l x=none/\∀z,eI k v l x z=l++[(x,z)])\/
  ∃j y,Instr.findNow kd (cw k x) es i=some (some (i+j,cw v y))/\l[j]? = some (x,y)/\jV k v l x=some y/\∀z,eI k v l x z=l.set j (x,z)
 |[],l,i,h=>by
  cases l with
  |cons _ _=>simp at h
  |nil=>exact .inl ⟨by simp[Instr.findNow],rfl,λz=>rfl⟩
 |e::es,l,i,h=>by
  cases l with
  |nil=>simp at h
  |cons y r=>
   simp only[gO,bH,bS]at h;obtain⟨⟨h1,h2⟩,h3⟩:=h;have he:=heq x y.1;rw[←h1]at he
   cases hq:eqR k x y.1 with
   |true=>
    have e1:=gi.1 hq;refine .inr ⟨0,y.2,?_,?_,?_,λz=>?_⟩
    ·simp[Instr.findNow,he,hq,h2]
    ·rw[e1];rfl
    ·rw[jq,am hq]
    ·simp only[eI,hq,eX,Gg]
   |false=>
    rcases QF heq v x es r (i+1) h3 with⟨a1,a2,a3⟩|⟨j,z,a1,a2,a3,a4⟩
    ·refine .inl ⟨?_,?_,λz=>?_⟩
     ·simp[Instr.findNow,he,hq,a1]
     ·rw[jq,ai (by rw[hq];simp)];exact a2
     ·simp only[eI,hq,eE,ul,a3,oT]
    ·refine .inr ⟨j+1,z,?_,?_,?_,λu=>?_⟩
     ·simp[Instr.findNow,he,hq,a1];omega
     ·simpa using a2
     ·rw[jq,ai (by rw[hq];simp)];exact a3
     ·simp only[eI,hq,eE,ul,a4,Gh]
theorem RM{k:T}(hu:P.underlying kty=some kd)(heq:∀(x y:k.den),Instr.sameNow kd (cw k x) (cw k y)=some (eqR k x y))(hc:∀(w:aK)(e:bC)(x:k.den),(Instr.checkKey e 10000 kty (cw k x)).run P w=.ok () w)(hs:∀(x:k.den),Instr.sameBits 10000 (cw k x) (cw k x)=true):KeyR P kty k:=by
 refine⟨λw e x _=>hc w e x,λw v x _ es l _ h=>?_,hs⟩;rcases QF heq v x es l 0 h with⟨a1,a2,a3⟩|⟨j,y,a1,a2,a3,a4⟩
 ·exact .inl ⟨by simp[Instr.findKey,d8 hu,a1],a2,a3⟩
 ·exact .inr ⟨j,y,by simp[Instr.findKey,d8 hu,a1],a2,a3,a4⟩
theorem l_(n:Nat):∀vs:List Value,(∀v∈vs,∃q m,v=.int q m)->Instr.sameBits (n+2) (.agg vs.toArray) (.agg vs.toArray)=true:=by intro vs h;simp only[Instr.sameBits,wq,ji,eU];intro x hx;obtain⟨i,hi,rfl⟩:=mL hx;simp only[List.getElem_zip];obtain⟨q,m,hm⟩:=h (vs[i]'(by simp at hi;omega)) (rS _);simp[hm,Instr.sameBits]
theorem Jb:(k:T)->0<k.intsN->(x:k.den)->(gz k x).length=k.intsN/\∀v∈gz k x,∃q m,v=Value.int q m
 |.int k,_,x=>⟨rfl,λv hv=>⟨k,x,by simpa[gz]using hv⟩⟩
 |.p a b,h,x=>by
  cases a<;>simp only[T.intsN]at h<;>try omega
  rename_i k
  cases hn:b.intsN with
  |zero=>simp[hn]at h
  |succ m=>
   obtain⟨h1,h2⟩:=Jb b aa x.2;simp only[gz,T.intsN,hn,oT,rQ,aH,h1];refine⟨trivial,λv hv=>?_⟩;rcases cQ.1 hv with rfl|hv
   ·exact⟨_,_,rfl⟩
   ·exact h2 v hv
 |.bool,h,_|.str,h,_|.u,h,_|.sl _,h,_|.pt _,h,_|.fn _ _,h,_|.ifc _ _,h,_|.ib _ _,h,_|.mp _ _,h,_|.op _,h,_|.ns _,h,_|.er _,h,_|.any,h,_=>by simp[T.intsN]at h
theorem Oh(w:aK)(e:bC)(n:Nat):∀(fs:List Field)(pre vs:aJ),oA P fs pre.length=true->fs.length=vs.length->(∀v∈vs,∃q m,v=Value.int q m)->
  (forIn fs () (λf (_:Unit)=>(do
   if f.name ≠ "_" then Instr.checkKey e (n + 1) f.type (← part f.type (pre ++ vs).toArray f.offset)
   pure (ForInStep.yield ()):Sem (ForInStep Unit)))).run P w=.ok () w
 |[],_,_,_,_,_=>ak
 |f::fs,pre,[],_,h,_=>by simp at h
 |f::fs,pre,v::vs,hf,hl,hi=>by
  obtain⟨q,m,rfl⟩:=hi v ak;simp only[oA]at hf
  cases hb : aP [neg (f.name == "_"), Nat.beq f.offset pre.length, pG (P.underlying f.type)] with
  |false=>rw[hb]at hf;cases hf
  |true=>
   rw[hb]at hf;simp only[cond_true]at hf;simp only[bQ,bT,Bool.and_true,Bool.and_eq_true,gr,Bool.not_eq_true']at hb;obtain⟨h1,h2,h3⟩:=hb;have h2:=Nat.eq_of_beq_eq_true h2;have h1 : f.name ≠ "_" := by simpa using h1
   cases hu:P.underlying f.type with
   |none=>rw[hu]at h3;cases h3
   |some u=>
    rw[hu]at h3;cases u<;>simp only[pG,eE]at h3;have hp:P.plainKey f.type=true:=by simp[Program.plainKey,hu]
    have p1:(part f.type (pre++.int q m::vs).toArray f.offset).run P w=.ok (.int q m) w:=run_part_plain w hp (by rw[h2];simp);have p2:(Instr.checkKey e (n+1) f.type (.int q m)).run P w=.ok () w:=by unfold Instr.checkKey;simp[d8 hu]
    have ih:=Oh w e n fs (pre++[.int q m]) vs (by simpa using hf) (by simpa using hl) (λv hv=>hi v (by simp[hv]));simp only[eP,List.singleton_append]at ih;simp only[List.forIn_cons,gU,h1,ne_eq,not_false_eq_true,eX,jn,p1,p2,oS];exact ih
theorem Ro(hB:TabOk P B){k:T}(h:pP B kty k=true):KeyR P kty k:=by
 cases k with
 |int q=>
  simp only[pP]at h;split at h
  ·rename_i q' hq;simp only[bQ,bT,bM,ao]at h;obtain⟨h1,h2⟩:=h;have:=oi h2;subst this;have e:=hB.τ kty h1;rw[←e]at h1 hq;obtain⟨i,c,hi,hc⟩:=dQ h1;rw[dB hi hc]at hq;simp only[eL]at hq;cases c<;>simp at hq;subst hq;refine RM hc (λx y=>?_) (λw e x=>?_) (λx=>?_)
   ·simp only[cw,isP,bp,gz,yI,Instr.sameNow,eX,Ut]
   ·exact MapKept.run_checkKey hc (by simp[cw,isP,gz,MapKept.IsKey]) e 9999
   ·simp[cw,isP,gz,Instr.sameBits]
  ·cases h
 |str=>
  simp only[pP,bQ,bT,bM,ao]at h;obtain⟨h1,h2⟩:=h;have e:=hB.τ kty h1;rw[←e]at h1 h2;obtain⟨i,c,hi,hc⟩:=dQ h1;rw[dB hi hc]at h2;simp only[eL]at h2;cases c<;>simp at h2;refine RM hc (λx y=>?_) (λw e x=>?_) (λx=>?_)
  ·simp only[cw,isP,bp,gz,yI,Instr.sameNow,ago]
  ·exact MapKept.run_checkKey hc (by simp[cw,isP,gz,MapKept.IsKey]) e 9999
  ·simp[cw,isP,gz,Instr.sameBits,(MapKept.bytes_beq _ _).2]
 |p a b=>
  simp only[pP,aU,ao,eZ,cR,gr,fy]at h;obtain⟨⟨hko,hka⟩,h1,h2⟩:=h;have hpos:0<(T.p a b).intsN:=by cases hn:(T.p a b).intsN with|zero=>rw[hn]at h1;simp[isZ]at h1|succ n=>omega
  have hz:isZ (B.q kty)=false:=by rw[←h2];exact h1
  have hq:=hB.q kty hz;unfold yx at hq;split at hq
  ·rename_i fs hu
   cases hall:aP [neg (P.stoodInHeld kty),neg (P.eqGuardType P.depth kty),oA P (toL fs) 0]with
   |false=>rw[hall]at hq;simp only[bp]at hq;rw[←hq]at hz;cases hz
   |true=>
    rw[hall]at hq;simp only[aD]at hq;simp only[bQ,bT,bM,ao,gr,fy]at hall;obtain⟨g1,g2,g3⟩:=hall;have hfs:P.fieldsOf kty=fs:=by simp[Program.fieldsOf,hu]
    have htl:toL fs=fs.toList:=by cases fs;rfl
    rw[htl]at g3 hq;rw[AO]at hq;have hfl:fs.toList.length=(T.p a b).intsN:=by rw[h2,←hq]
    have heq:∀(w:aK)(x y:(T.p a b).den),(T.p a b).ok x->(T.p a b).ok y->(Op.equal kty (cw (.p a b) x) (cw (.p a b) y)).run P w=.ok (eqR (.p a b) x y) w:=λw x y hx hy=>by have hev:∀z:(T.p a b).den,cw (.p a b) z=.agg (gz (.p a b) z).toArray:=λz=>rfl;rw[hev,hev];obtain⟨n,hn⟩:∃n,(T.p a b).intsN=n+1:=⟨(T.p a b).intsN-1,aa⟩;have he:=Py (.p a b) n hn x y;have r1:=fG (β:=λ_=>undef) (M:=[]) (Im:=λ_=>False) (w:=w) _ _ _ (Kp (.p a b) hpos x hx);have r2:=fG (β:=λ_=>undef) (M:=[]) (Im:=λ_=>False) (w:=w) _ _ _ (Kp (.p a b) hpos y hy);show (Op.equalIn (9999+1) kty _ _).run P w=_;rw[run_equalIn_struct w 9999 kty _ _ (by rw[hfs];exact hu) g1,hfs];have:=eqF w P (w0:=w) 9998 (n+1) _ _ _ _ _ [] [] fs.toList he r1 r2 g3 (by rw[hfl,hn]) rfl;simpa using this
    refine⟨λw e x hx=>?_,λw v x hx es l hl h=>?_,λx=>?_⟩
    ·obtain⟨c1,c2⟩:=Jb (.p a b) hpos x;show (Instr.checkKey e (9999+1) kty (.agg (gz (.p a b) x).toArray)).run P w=_;unfold Instr.checkKey;simp only[gU,d8 hu,jn];rw[←Array.forIn_toList];have:=Oh (P:=P) w e 9998 fs.toList [] (gz (.p a b) x) g3 (by rw[hfl,c1]) c2;simp at this⊢;rw[this];rfl
    ·cases es with
     |nil=>
      rcases IE heq w v x hx [] l 0 hl h with⟨a1,a2,a3⟩|⟨j,y,a1,_⟩
      ·exact .inl ⟨by simp[Instr.findKey,d8 hu,Instr.findNow],a2,a3⟩
      ·simp[Instr.findAsking]at a1
     |cons e0 es0=>
      have hs:Instr.findNow (.struct fs) (cw (.p a b) x) (e0::es0) 0=none:=by simp[Instr.findNow,Instr.sameNow]
      rcases IE heq w v x hx (e0::es0) l 0 hl h with⟨a1,a2,a3⟩|⟨j,y,a1,a2,a3,a4⟩
      ·exact .inl ⟨by simp[Instr.findKey,d8 hu,hs,a1],a2,a3⟩
      ·exact .inr ⟨j,y,by simp[Instr.findKey,d8 hu,hs,a1],a2,a3,a4⟩
    ·exact l_ 9998 _ (Jb (.p a b) hpos x).2
  ·rename_i n e hu;exfalso;have e1:=hB.τ kty hko;obtain⟨inf,u,hi,hu'⟩:=dQ (P:=P) (t:=kty) (by rw[e1];exact hko);rw[hu]at hu';cases hu';rw[←e1,dB hi hu]at hka;simp[eL,isN]at hka
  ·rw[←hq]at hz;cases hz
 |bool|u|sl _|pt _|fn _ _|ifc _ _|ib _ _|mp _ _|op _|ns _|er _|any=>cases h
theorem Tf(hB:TabOk P B)(hk:(B.τ t).ok=true)(h:(B.τ t).mp=some (kty,ety)):P.underlying t=some (.map kty ety)/\∀i cs,P.info? ety=some i->i.zero≠some (.agg cs):=by
 have e:=hB.τ t hk;rw[←e]at hk h;obtain⟨inf,c,hi,hc⟩:=dQ hk;rw[dB hi hc]at h;simp only[eL]at h;cases c<;>simp only[reduceCtorEq]at h;rename_i k0 e0
 cases hie:P.info? e0 with
 |none=>simp[hie]at h
 |some ie=>
  simp only[hie]at h;split at h
  ·cases h
  ·rename_i z hz hna;cases h;refine⟨hc,λi cs hi2 hh=>?_⟩;rw[hie]at hi2;cases hi2;rw[hh]at hna;cases hna;exact hz cs rfl
  ·cases h
theorem acw(hB:TabOk P B){v:T}(h:kE B ety v=true)(hz:∀i cs,P.info? ety=some i->i.zero≠some (.agg cs))(w:aK):(zeroValue ety).run P w=.ok (cw v v.dflt) w:=by
 have key:B.z ety=true->(B.σ ety).beq v=true->(v=.bool\/∃q,v=.int q)->(zeroValue ety).run P w=.ok (cw v v.dflt) w:=by
  intro h1 h2 h3;obtain⟨i,z,e1,e2,e3⟩:=vj hB h1;have e4:=T.beq_eq h2;rw[e4]at e3;have hr:(zeroValue ety).run P w=.ok z w:=by simp[zeroValue,typeInfo,e1,e2]
  have hc:z.cells=#[z]:=by cases z<;>first|rfl|exact absurd e2 (hz i _ e1)
  rw[hc]at e3;rw[hr];rcases h3 with rfl|⟨q,rfl⟩
  ·cases z<;>simp[eG]at e3;subst e3;rfl
  ·cases z<;>try (simp[eG]at e3;done)
   rename_i k' n
   cases n with
   |negSucc n=>cases e3
   |ofNat n=>
    cases n with
    |zero=>have:=oi (show j9 q k'=true from e3);subst this;rfl
    |succ n=>cases e3
 cases v<;>simp only[kE,eE]at h
 ·simp only[bQ,bT,bM,ao]at h;exact key h.2.1 h.2.2 (.inr ⟨_,rfl⟩)
 ·simp only[bQ,bT,bM,ao]at h;exact key h.2.1 h.2.2 (.inl rfl)
theorem SN{v:T}(h:kE B ety v=true){x:v.den}(hx:v.ok x):ah Im w v x [cw v x]:=by
 cases v<;>simp only[kE,eE]at h
 ·simp only[cw,isP,bp,gz,yI,ah];exact⟨trivial,hx⟩
 ·simp only[cw,isP,bp,gz,yI,ah]
theorem afs{v:T}(h:kE B ety v=true){x:v.den}(r:ah Im w v x vs):vs=[cw v x]:=by
 cases v<;>simp only[kE,eE]at h
 ·simp only[ah]at r;rw[r.1];rfl
 ·simp only[ah]at r;rw[r];rfl
theorem OP{k:T}(h:pP B kty k=true):0<k.intsN\/k=.str:=by
 cases k<;>simp only[pP,eE]at h
 ·exact .inl (by simp[T.intsN])
 ·exact .inr rfl
 ·rename_i a b;simp only[aU,ao,gr,fy]at h;refine .inl ?_
  cases hn:(T.p a b).intsN with
  |zero=>rw[hn]at h;simp[isZ]at h
  |succ n=>omega
theorem Re{i:V}{k:T}{y:k.den}(hi:aj β M Im w i iu)(hg:pT i k=true)(hk:0<k.intsN\/k=.str)(ha:i.cells.as k=some y):iu=cw k y/\k.ok y:=by
 cases i with
 |ag v=>
  simp only[aj]at hi;obtain⟨vs,rfl,hc⟩:=hi;have r:=o7 v k vs y hc ha;cases k<;>simp only[pT,eE]at hg;rename_i a b;rcases hk with hk|hk
  ·exact⟨by rw[RQ _ hk y vs r];rfl,ah.ok _ _ _ r⟩
  ·cases hk
 |d t0 x0=>
  rw[bn]at hi;simp only[V.cells,V.as]at ha;have r:=x8 ha hi;refine⟨?_,ah.ok _ _ _ r⟩;cases k<;>simp only[T.intsN,uj,reduceCtorEq,or_self]at hk
  ·simp only[ah,bH,aA]at r;exact r.1
  ·simp only[ah,bH,aA]at r;exact r.1
  ·simp[pT]at hg
 |nl|np|u=>cases k<;>simp[V.cells,V.as,T.intsN]at ha hk
 |any|ref _ _|ad _ _|tup _|gd _ _ _ _=>simp[V.cells,V.as]at ha
 |ifc _ _=>cases k<;>first|(simp[pT]at hg;done)|(simp[V.cells,V.as,T.intsN]at ha hk)
 |p a b=>cases k<;>first|(simp[pT]at hg;done)|(simp[V.cells,V.as]at ha)
 |fn _ _|bx _=>cases k<;>first|(simp[pT]at hg;done)|(simp[V.cells,V.as,T.intsN]at ha hk)
theorem aev{i:V}{v:T}{y:v.den}(hi:aj β M Im w i iu)(hg:neg (ge i)=true)(hk:kE B ety v=true)(ha:i.cells.as v=some y):iu=cw v y/\v.ok y:=by
 cases i with
 |d t0 x0=>rw[bn]at hi;simp only[V.cells,V.as]at ha;have r:=x8 ha hi;refine⟨?_,ah.ok _ _ _ r⟩;have:=afs hk r;simpa using this
 |ag v=>simp[ge]at hg
 |nl|np|u=>cases v<;>simp[V.cells,V.as,kE]at ha hk
 |any|ref _ _|ad _ _|tup _|gd _ _ _ _=>simp[V.cells,V.as]at ha
 |ifc _ _|p a b|fn _ _|bx _=>cases v<;>simp[V.cells,V.as,kE]at ha hk
theorem ae3(hp:Hp F p M w){x:V}(hx:aj p.β M (Imm F p M w) w x u){q:Mp}(h:LD M x=some q):∃r es n,u=.map (some r)/\w.heap[r]? = some (.map es n)/\(T.mp q.k q.v).ok q.l/\nC q.k q.v es q.l:=by
 unfold LD at h;split at h
 ·cases h;simp only[bn,ah,bH,aA]at hx;obtain⟨r,es,n,h1,_,h3,h4⟩:=hx;exact⟨r,es,n,h1,h3,h4⟩
 ·rename_i r π;simp only[aj,ac]at hx;split at h
  ·rename_i k v l hg;cases h;obtain⟨S,hr⟩:=hx.look hp hg;simp only[Rel,bH,aA]at hr;obtain⟨r,es,n,h1,_,h3,h4⟩:=hr;exact⟨r,es,n,h1,h3,h4⟩
  ·rename_i k v l hg;cases h;obtain⟨S,hr⟩:=hx.look hp hg;simp only[Rel,ah,bH,aA]at hr;obtain⟨r,es,n,h1,_,h3,h4⟩:=hr;exact⟨r,es,n,h1,h3,h4⟩
  ·cases h
 ·cases h
theorem ac7{v:T}(hk:kE B ety v=true):v.ok v.dflt:=by
 cases v<;>simp only[kE,eE]at hk
 ·rename_i q;simp only[T.ok,T.dflt];cases q<;>exact⟨bz,bz⟩
 ·trivial
theorem G'(hB:TabOk P B)(hp:Hp F p M w)(x i:V)(u iu:bm)(ok:bC)(hx:aj p.β M (Imm F p M w) w x u)(hi:aj p.β M (Imm F p M w) w i iu)(hv:ab (E9 B t M x i ok).1):
  ∃r,(Instr.lookup t u iu ok).run P w=.ok r w/\aj p.β M (Imm F p M w) w (E9 B t M x i ok).2 r:=by
 unfold E9 at hv⊢;split at hv
 ·rename_i kty ety k v l hmp hmo
  cases hk:aP [(B.τ t).ok,pP B kty k,kE B ety v,pT i k]with
  |false=>rw[hk]at hv;exact hv.1.elim
  |true=>
   simp only[hk,aD]at hv⊢;simp only[bQ,bT,bM,ao]at hk;obtain⟨k1,k2,k3,k4⟩:=hk;split at hv
   ·rename_i y hy;obtain⟨hu,hz⟩:=Tf hB k1 hmp;have K:=Ro hB k2;obtain⟨r,es,n,rfl,hb,hl,he⟩:=ae3 hp hx hmo;simp only at hl he;obtain⟨rfl,hky⟩:=Re hi k4 (OP k2) hy;simp only[T.ok]at hl;have hc:=K.check w es.isEmpty y hky
    have fin:∀(z:v.den)(b:bC),v.ok z->(Instr.lookup t (.map (some r)) (cw k y) ok).run P w=.ok (if ok then .tuple #[cw v z,.bool b]else cw v z) w->jw k v l y=z->tL k v l y=b->
      ∃r',(Instr.lookup t (.map (some r)) (cw k y) ok).run P w=.ok r' w/\aj p.β M (Imm F p M w) w (bw (bif ok then .tup (.p (.d v (jw k v l y)) (.p (.d .bool (tL k v l y)) .u))else .d v (jw k v l y))).2 r':=by
     intro z b hz' hr h1 h2;refine⟨_,hr,?_⟩;rw[h1,h2]
     cases ok with
     |true=>
      simp only[bw,aD,eX,aj,cH];refine⟨[cw v z,.bool b],rfl,_,_,rfl,?_,_,_,rfl,?_,rfl⟩
      ·exact bn.2 (SN k3 hz')
      ·exact bn.2 (by simp only[ah])
     |false=>simp only[bw,bp,eE,ul];rw[bn];exact SN k3 hz'
    rcases K.find w v y hky es.toList l (λz hz=>(hl.2 z hz).1) he with⟨a1,a2,_⟩|⟨j,z,a1,a2,a3,_⟩
    ·refine fin v.dflt false (ac7 k3) ?_ (by simp[jw,a2]) (by simp[tL,a2]);have h0:=acw hB k3 hz w;cases ok<;>simp[Instr.lookup,d8 hu,yK hb,hc,a1,h0]
    ·refine fin z true (hl.2 _ (uk a2)).2 ?_ (by simp[jw,a3]) (by simp[tL,a3]);cases ok<;>simp[Instr.lookup,d8 hu,yK hb,hc,a1]
   ·exact hv.1.elim
 ·exact hv.1.elim
theorem ZB(hB:TabOk P B)(h:Hp F p M w)(hL:∀b,¬p.L b)(dst:fu)(hv:ab (DS B t dst M).vc)(qt:bC):
  ∃v w',(Instr.makeMap t none).run P w=.ok v w'/\cu F p M w qt (DS B t dst M) v w':=by
 unfold DS at hv⊢;split at hv
 ·rename_i kty ety d hmp
  cases hk:aP [(B.τ t).ok]with
  |false=>rw[hk]at hv;exact hv.1.elim
  |true=>
   simp only[hk,aD]at hv⊢;have hg:=Ext.of_grown (yL w (.map #[] 0) none) (aZ _);have hnew:(w.alloc (.map #[] 0)).heap[w.heap.size]? = some (.map #[] 0):=rR w _;have hsz:w.heap.size<(w.alloc (.map #[] 0)).heap.size:=(eF.1 hnew).1;obtain⟨d1,d2⟩:=Hp.del h d;have tn:=Tr.new d1 d (fU d _) (.map (some w.heap.size)) (λb=>b=w.heap.size) ⟨.mp (B.σ kty) (B.σ ety),[]⟩ (hg.toL p.L) (λb hb=>.inl (by rw[hb];exact⟨aZ _,hsz⟩)) (λ_=>by simp only[Rel];exact⟨_,_,_,rfl,rfl,hnew,⟨dO _,λy hy=>by cases hy⟩,rfl⟩);refine⟨.map (some w.heap.size),w.alloc (.map #[] 0),by simp[Instr.makeMap],_,(Tr.kl h d).trans tn,λb hb=>hb,?_,?_⟩
   ·simp only[aj,ac];exact⟨_,none,mY _ _ _,by simp only[gok],⟨_,by simp only[get];rfl⟩,by rw[uW];simp only[res]⟩
   ·exactλhf _=>KB (DA hf).1 hg
 ·exact hv.1.elim
theorem N_{k v:T}{l:List (k.den×v.den)}(he:nC k v es l)(x:k.den)(z:v.den)(n:Nat):nC k v (es.push ⟨cw k x,cw v z,n⟩) (l++[(x,z)]):=by unfold nC at he⊢;simp only[Array.toList_push,mN,he,gO,nP]
theorem Zq{k v:T}{l:List (k.den×v.den)}(he:nC k v es l)(j:Nat)(x:k.den)(z:v.den):nC k v (es.modify j λe=>{ e with key:=cw k x,val:=cw v z }) (l.set j (x,z)):=by
 unfold nC at he⊢;apply lR;intro i;have hi:=congrArg (λL=>L[i]?) he;simp only[fQ,qv]at hi⊢;rw[Array.getElem?_modify,wm];have hlen:es.size=l.length:=by have:=congrArg List.length he;simpa using this
 by_cases e:j=i
 ·subst e;simp only[eX];by_cases hj:j<l.length
  ·rw[am hj,rT aa];simp
  ·rw[ai hj,Co aa];rfl
 ·rw[ai e,ai e];exact hi
theorem YN{k v:T}{r:Nat}{l:List (k.den×v.den)}(hu:P.underlying t=some (.map kty ety))(K:KeyR P kty k)(hb:w.heap[r]? = some (.map es n))(hl:∀y∈l,k.ok y.1)(he:nC k v es l){y:k.den}(hy:k.ok y)(z:v.den):
  ∃es' n',(Instr.mapUpdate t (.map (some r)) (cw k y) (cw v z)).run P w=.ok () { w with heap:=w.heap.setIfInBounds r (.map es' n') }/\nC k v es' (eI k v l y z):=by
 have hc:=K.check w false y hy;rcases K.find w v y hy es.toList l hl he with⟨a1,a2,a3⟩|⟨j,u,a1,a2,a3,a4⟩
 ·refine⟨_,n+1,?_,by rw[a3];exact N_ he y z n⟩;simp only[Instr.mapUpdate,gU,d8 hu,jn,yK hb,hc,a1];rw[MapKept.run_setObj_map _ hb]
 ·refine⟨_,n,?_,by rw[a4];exact Zq he j y z⟩
  have hkey:∃e,es[j]? = some e/\e.key=cw k y:=by
   have hi:=congrArg (λL=>L[j]?) he;simp only[fQ,qv,a2,dX]at hi
   cases hj:es[j]? with
   |none=>rw[hj]at hi;cases hi
   |some e=>rw[hj]at hi;simp only[dX,aG,bS]at hi;exact⟨e,rfl,hi.1⟩
  obtain⟨e,e1,e2⟩:=hkey;have hst:(Instr.keyThatStays (cw k y) (cw k y)).run P w=.ok (cw k y) w:=by simp[Instr.keyThatStays,K.same]
  simp only[Instr.mapUpdate,gU,d8 hu,jn,yK hb,hc,a1,e1,dX,dY,e2,hst];rw[MapKept.run_setObj_map _ hb]
theorem E3{k v:T}{l:List (k.den×v.den)}{x:k.den}{z:v.den}:∀{l:List (k.den×v.den)},(eI k v l x z).length<=l.length+1/\∀y∈eI k v l x z,y∈l\/y=(x,z)
 |[]=>by simp[eI]
 |e::r=>by
  have ih:=@E3 k v l x z r;simp only[eI];split
  ·simp only[aH];refine⟨aa,λy hy=>?_⟩;rcases cQ.1 hy with h|h
   ·exact .inr h
   ·exact .inl (by simp[h])
  ·simp only[aH];refine⟨aa,λy hy=>?_⟩;rcases cQ.1 hy with h|h
   ·exact .inl (by simp[h])
   ·rcases ih.2 y h with h|h
    ·exact .inl (by simp[h])
    ·exact .inr h
theorem ZC(hB:TabOk P B)(h:Hp F p M w)(hL:∀b,¬p.L b)(m i x:V)(u iu xu:bm)(hm:aj p.β M (Imm F p M w) w m u)(hi:aj p.β M (Imm F p M w) w i iu)(hx:aj p.β M (Imm F p M w) w x xu)(hv:ab (Ed B t m i x M).vc):
  ∃w',(Instr.mapUpdate t u iu xu).run P w=.ok () w'/\cu F p M w false (Ed B t m i x M) undef w':=by
 unfold Ed at hv⊢;split at hv
 ·rename_i kty ety r π hmp;split at hv
  ·rename_i ob hob;split at hv
   ·rename_i k v l hq
    cases hk:aP [(B.τ t).ok,pP B kty k,kE B ety v,pT i k,neg (ge x)]with
    |false=>rw[hk]at hv;exact hv.1.elim
    |true=>
     simp only[hk,aD]at hv⊢;simp only[bQ,bT,bM,ao]at hk;obtain⟨k1,k2,k3,k4,k5⟩:=hk;split at hv
     ·rename_i y z hy hz;split at hv
      ·rename_i ob' hset;split at hv
       ·rename_i x' hcast;simp only[e9,eY,aA]at hv;have hob':=xh hcast;obtain⟨hu,_⟩:=Tf hB k1 hmp;have K:=Ro hB k2;simp only[aj,ac]at hm;obtain⟨ob1,pl,q1,q2,q3,q4⟩:=hm;rw[hob]at q1;cases q1;obtain⟨us,pl',S',e1,e2,e3,e4,e5,e6⟩:=look h hob q2 hq;rw[e1]at q4;simp only[aG,bS]at q4;obtain⟨rfl,rfl⟩:=q4;simp only[Rel,bH,aA]at e3;obtain⟨rr,es,n,rfl,hSr,hb,hl,he⟩:=e3;obtain⟨rfl,hky⟩:=Re hi k4 (OP k2) hy;obtain⟨rfl,hzv⟩:=aev hx k5 k3 hz;simp only[T.ok]at hl;obtain⟨es',n',hrun,he'⟩:=YN hu K hb (λa ha=>(hl.2 a ha).1) he hky z;refine⟨_,hrun,?_⟩;generalize hw':({ w with heap:=w.heap.setIfInBounds rr (.map es' n') }:World)=w';have hsz:w'.heap.size=w.heap.size:=by subst hw';simp
        have hold:∀c,c≠rr->w'.heap[c]? = w.heap[c]?:=λc hc=>by subst hw';simp[Array.getElem?_setIfInBounds,dg hc]
        have hnew:w'.heap[rr]? = some (.map es' n'):=by have:=(eF.1 hb).1;subst hw';simp[Array.getElem?_setIfInBounds,this]
        have hlen:=(@E3 k v l y z l).1;have hroom:l.length+1<=nb:=by simpa[aX]using hv
        have hok:(T.mp k v).ok (eI k v l y z):=by
         simp only[T.ok];refine⟨aa,λa ha=>?_⟩;rcases (@E3 k v l y z l).2 a ha with h1|h1
         ·exact hl.2 a h1
         ·subst h1;exact⟨hky,hzv⟩
        have hlr:=cz hob;have hrrσ:p.σ r rr:=e2 rr hSr
        have hout:eV π ob.o [p.β r] [.map (some rr)]=[p.β r]:=by
         cases hh:cn π with
         |true=>exact mZ π _ _ _ hh
         |false=>
          obtain⟨m,g1,g2,g3,g4,g5⟩:=e5 hh;rw[g5 _ rfl];refine qO (λj u hu=>?_);rw[g3,g7]at hu;split at hu
          ·rw[g8]at hu;exact hu
          ·cases hu
        let S2:Nat->Prop:=λc=>(p.σ r c/\¬S' c)\/S' c
        have hS2:∀c,S2 c->p.σ r c:=λc hc=>hc.elim (λh=>h.1) (e2 c);let Im':Nat->Prop:=λb=>b<w'.heap.size/\(Imm F p M w b\/p.σ r b\/w.heap.size<=b)/\¬S2 b/\¬False
        have hkeep:cN (Imm F p M w) Im' w w':=λb hb'=>by have hns:¬p.σ r b:=hb'.2.2.2 r hlr;exact⟨⟨by rw[hsz];exact hb'.1,.inl hb',λhc=>hns (hS2 b hc),λh=>h⟩,hold b (λe=>hns (e▸hrrσ))⟩
        have hwd:=e6 Im' w' ⟨.mp k v,eI k v l y z⟩ S' [.map (some rr)] ob' hset rfl (by
         simp only[Rel];exact⟨rr,es',n',rfl,hSr,hnew,hok,he'⟩) hkeep (λc hc _=>hc)
         (λhh b off hp cur ty' hbb=>by obtain⟨b0,off0,cur0,ty0,g1,g2,g3,g4,g5⟩:=e4 hh;rw[g1]at hp;cases hp;rw[g4]at hbb;cases hbb;rw[hold b (λe=>g3 (e▸hSr)),g4,qO (by simpa using g5)])
         (λc hc hn _=>hold c (λe=>hn (e▸hSr)))
        rw[hout,hob']at hwd;obtain⟨p',t1,t2,_⟩:=D5 (w':=w') (A:=Imm F p M w) (S':=S2) (R:=λ_=>False) h hL (k:=r) (o:=ob.o) (x:=ob.x) (x':=x') hob (λb hb=>hb) ⟨by subst hw';rfl,by subst hw';exact⟨rfl,aZ _⟩,by subst hw';rfl,by rw[hsz];exact aZ _,λb _ hns=>hold b (λe=>hns (e▸hrrσ))⟩ (λb hb=>hb.elim) (λb hb=>⟨.inl (hS2 b hb),λh=>h⟩) hwd.2;exact⟨p',t1,λb hb=>(t2 b).1 hb,by simp only[aj],λ_ hq=>by cases hq⟩
       ·exact hv.1.elim
      ·exact hv.1.elim
     ·exact hv.1.elim
   ·exact hv.1.elim
  ·exact hv.1.elim
 ·exact hv.1.elim
theorem Sk:∀{l:List Mth} {t i:bW},tY P l=true->BP l t i=true->∃inf,P.info? t=some inf/\LA P inf.methods (P.underlying i)=true
 |[],_,_,_,h=>by cases h
 |e::r,t,i,ha,h=>by
  simp only[tY,aU,ao]at ha;simp only[BP,gD,aU,fR,ao]at h;rcases h with⟨h1,h2⟩|h
  ·have e1:e.t=t:=dh h1;have e2:e.i=i:=dh h2;subst e1;subst e2;have hm:=ha.1;unfold Lh at hm;split at hm
   ·rename_i inf hi;simp only[bQ,bT,bM,ao]at hm;exact⟨inf,hi,hm.2.1⟩
   ·cases hm
  ·exact Sk ha.2 h
theorem PS:∀{l:List Mth} {t:bW} {n:String} {f:gp},tY P l=true->B7 l t n=some f->∃inf,P.info? t=some inf/\JZ (P.underlying t)=true/\isM f (inf.methods.find? (·.name==n))=true
 |[],_,_,_,_,h=>by cases h
 |e::r,t,n,f,ha,h=>by
  simp only[tY,aU,ao]at ha;unfold B7 at h
  cases hc:nob (Nat.beq e.t t) (e.name==n)with
  |true=>
   rw[hc]at h;cases h;simp only[aU,ao]at hc;have e1:e.t=t:=dh hc.1;have e2:e.name=n:=by simpa using hc.2
   subst e1;subst e2;have hm:=ha.1;unfold Lh at hm;split at hm
   ·rename_i inf hi;simp only[bQ,bT,bM,ao]at hm;exact⟨inf,hi,hm.1,hm.2.2⟩
   ·cases hm
  |false=>rw[hc]at h;exact PS ha.2 h
theorem t_{n:String}(ha:tY P l=true)(h:B7 l t n=some f)(k:Nat)(v:bm):(method (k+1) t v n).run P w=.ok (f,v) w:=by
 obtain⟨inf,h1,h2,h3⟩:=PS ha h;unfold isM at h3;split at h3
 ·rename_i m hm;split at h3
  ·rename_i g b hp hf;simp only[aU,ao,gr,fy]at h3;have e:f=g:=dh h3.1;subst e
   cases hu:P.underlying t with
   |none=>rw[hu]at h2;cases h2
   |some d=>
    rw[hu]at h2;have hpe:m.path.toList=[]:=by rw[←ds];exact hp
    cases d<;>simp only[JZ,eE]at h2
    all_goals simp[method,run_typeInfo w h1,hm,hpe,follow,hf,h3.2,receiverAt,d8 hu,Place.get]
  ·cases h3
 ·cases h3
theorem Tc{x:V}(hx:aj β M Im w x u)(h:inI x=some (t,v)):∃y,u=.iface t y/\aj β M Im w v y:=by
 unfold inI at h;split at h
 ·cases h;simp only[aj,ac]at hx;obtain⟨y,h1,h2⟩:=hx;exact⟨y,by simpa using h1,ky h2⟩
 ·cases h;rw[bn]at hx;simp only[ah]at hx;obtain⟨y,h1,h2⟩:=hx;exact⟨y,by simpa using h1,ky (fG _ _ _ h2)⟩
 ·cases h;rw[bn]at hx;simp only[ah]at hx;obtain⟨us,h1,h2⟩:=hx;exact⟨.agg us.toArray,by simpa using h1,by simp only[aj];exact⟨us,rfl,fG _ _ _ h2⟩⟩
 ·cases h
theorem aa5(hB:TabOk P B)(hp:Hp F p M w)(x:V)(u:bm)(hx:aj p.β M (Imm F p M w) w x u)(hv:ab (Fl B t M x).1):
  ∃r,(Instr.makeInterface t u).run P w=.ok r w/\aj p.β M (Imm F p M w) w (Fl B t M x).2 r:=by
 unfold Fl at hv⊢;split at hv
 ·rename_i s
  cases hk:aP [(B.τ t).ok,(B.τ t).agg]with
  |false=>rw[hk]at hv;exact hv.1.elim
  |true=>
  simp only[aD];simp only[bQ,bT,bM,ao]at hk;obtain⟨k1,k2⟩:=hk;have hty:=hB.τ t k1
  have hc:P.concrete t=true:=by
   unfold ty at hty;split at hty
   ·rename_i i d h1 h2;unfold Program.concrete;rw[h2];cases d<;>first|rfl|(rw[←hty]at k2;simp[eL]at k2)
   ·rw[←hty]at k1;cases k1
  simp only[aj]at hx;obtain⟨vs,rfl,r⟩:=hx;simp only[ac,ah]at r;obtain⟨rfl,_⟩:=r;exact⟨_,run_makeInterface w t _ hc,by simp only[bw];rw[bn];simp only[ah];exact .inr ⟨s,trivial,rfl⟩⟩
 ·rename_i T y hne
  cases hk:aP [(B.τ t).ok,(B.τ t).agg]with
  |false=>rw[hk]at hv;exact hv.1.elim
  |true=>
  simp only[aD];simp only[bQ,bT,bM,ao]at hk;obtain⟨k1,k2⟩:=hk;have hty:=hB.τ t k1
  have hc:P.concrete t=true:=by
   unfold ty at hty;split at hty
   ·rename_i i d h1 h2;unfold Program.concrete;rw[h2];cases d<;>first|rfl|(rw[←hty]at k2;simp[eL]at k2)
   ·rw[←hty]at k1;cases k1
  simp only[aj]at hx;obtain⟨vs,rfl,r⟩:=hx;simp only[ac]at r;exact⟨_,run_makeInterface w t _ hc,by simp only[bw];rw[bn];simp only[ah];exact⟨vs,rfl,r⟩⟩
 ·rename_i hne hne2
  cases hk:aP [(B.τ t).ok,neg (isN (B.τ t).el),neg (ge x),fX M x 1]with
  |false=>rw[hk]at hv;exact hv.1.elim
  |true=>
   simp only[aD];simp only[bQ,bT,bM,ao]at hk;obtain⟨k1,k2,k3,k4⟩:=hk;have hty:=hB.τ t k1
   have hc:P.concrete t=true:=by
    unfold ty at hty;split at hty
    ·rename_i i d h1 h2;unfold Program.concrete;rw[h2];cases d<;>first|rfl|(rw[←hty]at k2;simp[eL,isN]at k2)
    ·rw[←hty]at k1;cases k1
   refine⟨.iface t u,run_makeInterface w t u hc,?_⟩;have k3':ge x=false:=by simpa using k3
   have hcx:x.cells=x:=by cases x<;>first|rfl|(simp[ge]at k3')
   have hcc:fZ x=true:=Ao (M:=M) (n:=1) (by rw[hcx];exact lW k4);obtain⟨vs,_,a2,a3⟩:=xy hp hx hcc;rw[a2 k3',hcx]at a3;simp only[bw,aj,ac];exact⟨u,rfl,a3⟩
theorem aa8(hB:TabOk P B){i xt:bW}(ok:bC)(x:V)(u:bm)(hx:aj β M Im w x u)(hv:ab (Fq B i ok x).1):
  ∃r,(Instr.typeAssert u xt i ok).run P w=.ok r w/\aj β M Im w (Fq B i ok x).2 r:=by
 unfold Fq at hv⊢;split at hv
 ·rename_i t v hin;obtain⟨y,rfl,hy⟩:=Tc hx hin
  cases hm:BP B.m t i with
  |false=>rw[hm]at hv;exact hv.1.elim
  |true=>
   simp only[aD];obtain⟨inf,h1,h2⟩:=Sk hB.m hm
   cases hu:P.underlying i with
   |none=>rw[hu]at h2;cases h2
   |some d=>
    rw[hu]at h2;cases d<;>simp only[LA,eE]at h2;rename_i want
    have hn:Instr.missingMethod want inf.methods=none:=by
     cases hq:Instr.missingMethod want inf.methods with
     |none=>rfl
     |some _=>rw[hq]at h2;cases h2
    cases ok with
    |true=>refine⟨.tuple #[.iface t y,.bool true],by simp[Instr.typeAssert,d8 hu,run_typeInfo w h1,hn],?_⟩;simp only[bw,aD,aj,cH];exact⟨_,rfl,_,_,rfl,hx,_,_,rfl,bn.2 (by simp only[ah]),rfl⟩
    |false=>exact⟨.iface t y,by simp[Instr.typeAssert,d8 hu,run_typeInfo w h1,hn],by simpa only [bw,bp]using hx⟩
 ·exact hv.1.elim
theorem E6{v:bm}(h:(execOp a.eval o).run P w=.ok (.value v) w')(hk:K (a.put o.dst v) w'):o.wp P a w K Q:=by unfold Oper.wp;rw[h];exact hk
theorem PY(h:(execOp a.eval o).run P w=.ok .skip w')(hk:K (a.put o.dst undef) w'):o.wp P a w K Q:=by unfold Oper.wp;rw[h];exact hk
theorem I'{t:T}{l:List t.den}{cap lo hi:Nat}(h:ah Im w (.sl t) l [.slice oa l.length cap])(h1:lo<=hi)(h2:hi<=l.length):
  ah Im w (.sl t) ((l.take hi).drop lo) [sliced oa lo hi cap t.size]:=by
 have hlen:((l.take hi).drop lo).length=hi-lo:=by rw[iz,ez];omega
 simp only[ah,bH,aA,Value.slice.injEq]at h⊢;obtain⟨oa',cap',⟨rfl,_,rfl⟩,⟨g1,g2⟩,g3,g4⟩:=h;refine⟨if cap=lo then oa else oa.map (·.add (lo*t.size)),cap-lo,by simp only[sliced,hlen],⟨aa,aa⟩,λhn=>?_,λad had hpos=>?_⟩
 ·have:oa=none:=by
   split at hn
   ·exact hn
   ·cases oa with
    |none=>rfl
    |some _=>cases hn
  obtain⟨e1,e2⟩:=g3 this;omega
 ·have hne:cap≠lo:=aa
  rw[ai hne]at had
  cases oa with
  |none=>cases had
  |some ad0=>
   simp only[dX,aG]at had;obtain⟨k1,k2,k3⟩:=g4 ad0 rfl aa;obtain⟨b,o,s⟩:=ad0;simp only at k1 k2 k3;subst k1;rw[qw]at had;subst had;refine⟨rfl,k2,λi x hx=>?_⟩;rw[g8,g7]at hx;split at hx
   ·obtain⟨us,u1,u2⟩:=k3 (lo+i) x hx;refine⟨us,?_,u2⟩;rw[jk,←wi]at u1;exact u1
   ·cases hx
theorem tn1{n:Int}(h:n<=m):n.toNat<=m:=aa
theorem tn2{a b:Int}(h:a<=b):a.toNat<=b.toNat:=aa
theorem Zb(w:aK)(t:bW)(s:ByteArray)(hu:P.underlying t=some .string)(ka:gT)(a:Int)(h0:0<=a)(h1:a<=s.size):
  (Instr.sliceAt t (.string s) (some (.int ka a)) none none).run P w=.ok (.string (s.extract a.toNat s.size)) w:=by
 simp[Instr.sliceAt,Instr.slice,d8 hu,Instr.sliceBounds,run_sliceBound,h0,h1]
theorem YS(w:aK)(t:bW)(s:ByteArray)(hu:P.underlying t=some .string)(ka kb:gT)(a b:Int)(h0:0<=a)(h1:a<=b)(h2:b<=s.size):
  (Instr.sliceAt t (.string s) (some (.int ka a)) (some (.int kb b)) none).run P w=.ok (.string (s.extract a.toNat b.toNat)) w:=by
 have h3:0<=b:=wx h0 h1;have eh:(b.toNat:Int)=b:=jI h3;simp[Instr.sliceAt,Instr.slice,d8 hu,Instr.sliceBounds,run_sliceBound,eh,h0,h1,h2,h3]
theorem aac(hB:TabOk P B)(s:ByteArray)(f:eD)(hx:aj p.β M (Imm F p M w) w (.d .str s) (a.eval x0))(hlo:∀y,lo0=some y->aj p.β M (Imm F p M w) w (f y) (a.eval y))(hhi:∀y,hi0=some y->aj p.β M (Imm F p M w) w (f y) (a.eval y))(hv:ab (Fu (B.τ t) s (gm f lo0) (gm f hi0)).1):∃r,(Instr.sliceAt t (a.eval x0) (lo0.map a.eval) (hi0.map a.eval) none).run P w=.ok r w/\aj p.β M (Imm F p M w) w (Fu (B.τ t) s (gm f lo0) (gm f hi0)).2 r:=by
 unfold Fu at hv⊢;have hk:=eW hv;simp only[hk,aD]at hv⊢;simp only[bQ,bT,bM,ao]at hk;obtain⟨k1,k2⟩:=hk;have eτ:=hB.τ t k1;rw[←eτ]at k1 k2;obtain⟨inf,u,hi,hu⟩:=dQ k1;rw[dB hi hu]at k2;simp only[eL]at k2;cases u<;>simp at k2;rw[bn,qW]at hx;obtain⟨hx1,hx2⟩:=hx
 have hsz:∀i j:Nat,(s.extract i j).size<=nb:=λi j=>by
  have:(s.extract i j).size<=s.size:=by rw[Gi];omega
  exact eu this hx2
 cases lo0 with
 |none=>cases hi0<;>exact hv.1.elim
 |some yl=>
  have h1:=hlo yl rfl
  cases hi0 with
  |none=>
   simp only[gm]at hv⊢;split at hv
   ·rename_i ka b e1 e2;simp only[aG]at e1;rw[e1,bn,dZ]at h1;simp only[e9,eY,aA]at hv;simp only[e1];refine⟨_,by rw[hx1,dX,h1.1];exact Zb w t s hu ka b hv.1 hv.2,?_⟩;rw[bn,qW];exact⟨rfl,hsz _ _⟩
   ·rename_i heq;cases heq
   ·exact hv.1.elim
  |some yh=>
   have h2:=hhi yh rfl;simp only[gm]at hv⊢;split at hv
   ·rename_i heq;cases heq
   ·rename_i ka b kb c e1 e2;simp only[aG]at e1 e2;rw[e1,bn,dZ]at h1;rw[e2,bn,dZ]at h2;simp only[e9,eY,aA]at hv;simp only[e1,e2];refine⟨_,by rw[hx1,dX,dX,h1.1,h2.1];exact YS w t s hu ka kb b c hv.1 hv.2.1 hv.2.2,?_⟩;rw[bn,qW];exact⟨rfl,hsz _ _⟩
   ·exact hv.1.elim
theorem Sg(hB:TabOk P B)(x:V)(f:eD)(hx:aj p.β M (Imm F p M w) w x (a.eval x0))(hlo:∀y,lo0=some y->aj p.β M (Imm F p M w) w (f y) (a.eval y))(hhi:∀y,hi0=some y->aj p.β M (Imm F p M w) w (f y) (a.eval y))(hv:ab (BK B (B.τ t) x (gm f lo0) (gm f hi0)).1):∃r,(Instr.sliceAt t (a.eval x0) (lo0.map a.eval) (hi0.map a.eval) none).run P w=.ok r w/\aj p.β M (Imm F p M w) w (BK B (B.τ t) x (gm f lo0) (gm f hi0)).2 r:=by
 unfold BK at hv⊢;split at hv
 ·rename_i te l e he;have hk:=eW hv;simp only[hk,aD]at hv⊢;simp only[bQ,bT,bM,ao,eZ,cR]at hk;obtain⟨k1,k2,k3⟩:=hk;have eτ:=hB.τ t k1;have eτ':=hB.τ e k2;rw[←eτ]at k1 he;rw[←eτ']at k2 k3;obtain⟨inf,u,hi,hu⟩:=dQ k1;obtain⟨infe,ue,hie,hue⟩:=dQ k2;rw[dB hi hu]at he;rw[dB hie hue]at k3;simp only[eL]at he k3;cases u<;>simp at he;obtain rfl:=he.symm;rw[bn]at hx;have hx0:=hx;simp only[ah,bH,aA]at hx;obtain⟨oa,cap,hsl,⟨hn,hcap⟩,_⟩:=hx;rw[hsl]at hx0;have hel:P.elem t=e:=by simp[Program.elem,hu]
  have hu':P.underlying t=some (.slice (P.elem t)):=by rw[hel];exact hu
  have hsz:(sizeOf (P.elem t)).run P w=.ok infe.size w:=by rw[hel];simp[sizeOf,typeInfo,hie]
  have fin:∀(lo hi:Nat)(lv hv:Option Value),lo<=hi->hi<=l.length->(Instr.slice t (.slice oa l.length cap) lv hv none).run P w=((sizeOf (P.elem t)).run P w).andThen (λs w=>.ok (sliced oa lo hi cap s) w)->∀z,z=(l.take hi).drop lo->
    ∃r,(Instr.sliceAt t (a.eval x0) lv hv none).run P w=.ok r w/\aj p.β M (Imm F p M w) w (.d (.sl te) z) r:=λlo hi lv hv h1 h2 hrun z hz=>by
   refine⟨sliced oa lo hi cap infe.size,?_,?_⟩
   ·rw[run_sliceAt_slice w t _ _ _ _ hu',hsl,hrun,hsz];rfl
   ·rw[bn,hz,←k3];exact I' hx0 h1 h2
  cases lo0 with
  |none=>
   cases hi0 with
   |none=>exact fin 0 l.length none none (dO _) (aZ _) (run_slice_all w t oa l.length cap hu') l ak
   |some yh=>
    have h2:=hhi yh rfl;simp only[gm]at hv⊢;split at hv
    ·rename_i heq;cases heq
    ·rename_i heq;cases heq
    ·rename_i kb b e1 e2;simp only[aG]at e2;rw[e2,bn,dZ]at h2;simp only[e9,eY,aA]at hv;simp only[e2];have hb2:(b:Int)<=(l.length:Int):=hv.2;refine fin 0 b.toNat none (some (a.eval yh)) (dO _) ?_ (by rw[h2.1];exact run_slice_h w t oa l.length cap hu' kb b hv.1 (wx hb2 (Int.ofNat_le.2 hcap))) _ ak;exact tn1 hb2
    ·rename_i heq _;cases heq
    ·exact hv.1.elim
  |some yl=>
   have h1:=hlo yl rfl
   cases hi0 with
   |none=>
    simp only[gm]at hv⊢;split at hv
    ·rename_i heq _;cases heq
    ·rename_i ka b e1 e2;simp only[aG]at e1;rw[e1,bn,dZ]at h1;simp only[e9,eY,aA]at hv;simp only[e1];have hb2:(b:Int)<=(l.length:Int):=hv.2;refine fin b.toNat l.length (some (a.eval yl)) none ?_ (aZ _) (by rw[h1.1];exact run_slice_l w t oa l.length cap hu' ka b hv.1 hb2) _ ak;exact tn1 hb2
    ·rename_i heq _;cases heq
    ·rename_i heq;cases heq
    ·exact hv.1.elim
   |some yh=>
    have h2:=hhi yh rfl;simp only[gm]at hv⊢;split at hv
    ·rename_i heq _;cases heq
    ·rename_i heq;cases heq
    ·rename_i heq _;cases heq
    ·rename_i ka b kb c e1 e2;simp only[aG]at e1 e2;rw[e1,bn,dZ]at h1;rw[e2,bn,dZ]at h2;simp only[e9,eY,aA]at hv;simp only[e1,e2];obtain⟨v1,v2,v3⟩:=hv;have hb2:(b:Int)<=c:=v2;have hb3:(c:Int)<=(l.length:Int):=v3;refine fin b.toNat c.toNat (some (a.eval yl)) (some (a.eval yh)) ?_ ?_ (by rw[h1.1,h2.1];exact run_slice_lh w t oa l.length cap hu' ka kb b c v1 v2 (wx hb3 (Int.ofNat_le.2 hcap))) _ rfl
     ·exact tn2 hb2
     ·exact tn1 hb3
    ·exact hv.1.elim
 ·exact aac hB _ f hx hlo hhi hv
 ·exact hv.1.elim
theorem AL:(vs:cK)->(M:Mem)->Hp F p M w->Tr F p M w (eN M vs).1 p (eN M vs).2 w
 |[],M,h=>by simp only[eN];exact Tr.refl h
 |v::r,M,h=>by simp only[eN];have h1:=xd v M h;exact h1.trans (AL r _ h1.hp)
theorem SF:(vs:cK)->(M:Mem)->((eN M vs).1=[]/\(eN M vs).2=M)\/∃x r,(eN M vs).1=x::r/\dv M [x]=false
 |[],M=>.inl ⟨rfl,rfl⟩
 |v::r,M=>by
  simp only[eN];rcases Aj v M with⟨h1,h2⟩|⟨x,e,h1,h2⟩
  ·rw[h1,h2];simp only[ap];exact SF r M
  ·exact .inr ⟨x,_,by rw[h1];rfl,h2⟩
theorem KT:(ks:bK)->(M:Mem)->Hp F p M w->Tr F p M w (klL ks) p (fM ks M) w
 |[],M,h=>by simp only[klL,fM];exact Tr.refl h
 |k::r,M,h=>by simp only[klL,fM];have h1:=Tr.kl h k;exact h1.trans (KT r _ h1.hp)
theorem Ej:(ks:bK)->(M:Mem)->(k:Nat)->(k∈ks\/go M k=none->go (fM ks M) k=none)/\(k∉ks->go (fM ks M) k=go M k)
 |[],M,k=>⟨λh=>Or.elim h (λh=>by cases h) (λh=>h),λ_=>rfl⟩
 |i::r,M,k=>by
  simp only[fM];obtain⟨h1,h2⟩:=Ej r (del i M) k;refine⟨λh=>h1 ?_,λh=>?_⟩
  ·rcases h with h|h
   ·rcases cQ.1 h with rfl|h
    ·exact .inr (fU k M)
    ·exact .inl h
   ·by_cases e:k=i
    ·subst e;exact .inr (fU k M)
    ·exact .inr (by rw[fg e];exact h)
  ·simp only[cQ,not_or]at h;rw[h2 h.2,fg h.1]
theorem OR:(ks:bK)->dv M (klL ks)=true->∀k∈ks,go M k=none
 |[],_,k,hk=>by cases hk
 |i::r,h,k,hk=>by
  obtain⟨h1,h2⟩:=DA h;rcases cQ.1 hk with rfl|hk
  ·exact h1
  ·exact OR r h2 k hk
theorem cW.keep{Im Im':aT}(hk:∀b,Im b->Im' b):(rs:gS)->(x:bV rs)->(S:aT)->(us:aJ)->cW Im w rs x S us->cW Im' w rs x S us
 |[],x,S,us,r=>by simpa only [cW]using r
 |q::rs,x,S,us,r=>by simp only[cW]at r⊢;obtain⟨u,us',vs,S1,S2,e1,e2,e3,e4,e5,e6,e7,e8⟩:=r;exact⟨u,us',vs,S1,S2,e1,e2,e3,e4,e5,e6,Rel.keep (λb hb=>⟨hk b hb,rfl⟩) _ _ _ _ (λ_ _=>rfl) e7,cW.keep hk rs _ _ _ e8⟩
theorem Rp(rs:gS)(v:V)(us:aJ)(hl:us.length=rs.length)(r:cH β M Im w v us):aj β M Im w (uc rs v) (eR us):=by
 match rs,us,hl with
 |[],[],_=>simp only[uc,eR,aj];exact⟨[],rfl,r⟩
 |[q],[u],_=>
  cases v with
  |p a b=>simp only[cH]at r;obtain⟨u',us',e,h1,h2⟩:=r;simp only[bH]at e;obtain⟨rfl,_⟩:=e;simp only[uc,eR];exact h1
  |u=>simp only[cH]at r;cases r
  |_=>simp only[cH]at r
 |q::q'::rs,u::u'::us,_=>simp only[uc,eR,aj];exact⟨_,rfl,r⟩
theorem JC{Im:aT}:(rs:gS)->(x:bV rs)->(S:aT)->(us:aJ)->cW Im w rs x S us->us.length=rs.length
 |[],x,S,us,r=>by simp only[cW]at r;rw[r];rfl
 |q::rs,x,S,us,r=>by simp only[cW]at r;obtain⟨u,us',vs,S1,S2,rfl,_,_,_,_,_,_,e8⟩:=r;simp[JC rs _ _ _ e8]
theorem RX(h:Hp F p M w)(hL:∀b,¬p.L b)(ct:Ct)(d:Nat)(x:bo ct.args)(hA:ct.sh=true->∀b,A b->Imm F p M w b)(he:Ext w w')(hS:∀b,S b->w.heap.size<=b/\b<w'.heap.size)(hr:cW (λb=>b<w'.heap.size/\(ct.sh=true/\A b\/w.heap.size<=b)/\¬S b) w' ct.rt (ct.res x) S rs)(hN:newL d 0 ct.rt (ct.res x)=(v,N,j')):
  ∃p',Tr F p M w (klL (bJ N)) p' (ap N (fM (bJ N) M)) w'/\(∀b,¬p'.L b)/\aj p'.β (ap N (fM (bJ N) M)) (Imm F p' (ap N (fM (bJ N) M)) w') w' (uc ct.rt v) (eR rs)/\
   (dv M (klL (bJ N))=true->Qt p M p' (ap N (fM (bJ N) M)) w w'):=by
 have h1:=KT (bJ N) M h;have h2:=Tr.grow h1.hp hL he S hS
 have hkeep:∀b,(λb=>b<w'.heap.size/\(ct.sh=true/\A b\/w.heap.size<=b)/\¬S b) b->Imm F ⟨p.β,p.σ,S⟩ (fM (bJ N) M) w' b:=λb ⟨b1,b2,b3⟩=>by
  rcases b2 with⟨b2,b4⟩|b2
  ·have:=hA b2 b b4;exact⟨b1,this.2.1,b3,(h1.keep b this).1.2.2.2⟩
  ·refine⟨b1,.inr (.inr (eu h.size b2)),b3,λk hk hs=>?_⟩;have:=(h1.hp.own k b hk hs).1;omega
 obtain⟨hle,hkeys⟩:=DZ d ct.rt 0 (ct.res x);have hnew:=Kz (F:=F) (w:=w') d j' ct.rt (fM (bJ N) M) ⟨p.β,p.σ,S⟩ 0 (ct.res x) S rs h2.hp (cW.keep hkeep _ _ _ _ hr) (λb hb=>hb);rw[hN]at hnew hle hkeys;simp only at hnew hle hkeys;obtain⟨p2,a1,a2⟩:=hnew (aZ _) (λi hi hij=>(Ej (bJ N) M _).1 (.inl (hkeys i hi hij)));have h3:=Tr.drop a1.tr.hp (λ_=>False) (λb hb=>hb.elim);refine⟨⟨p2.β,p2.σ,λ_=>False⟩,?_,λb hb=>hb,?_,λhf=>⟨he,λj ob hj=>?_⟩⟩
 ·have h4:=h1.trans (h2.trans (a1.tr.trans h3));simpa only [ap,tA]using h4
 ·have h5:=h3.s _ _ (Rp ct.rt v rs (JC _ _ _ _ hr) a2);simpa only [V.evs]using h5
 ·have hn:j∉bJ N:=λhk=>by have:=OR _ hf j hk;rw[this]at hj;cases hj
  have:=a1.old j ob (by rw[(Ej (bJ N) M j).2 hn];exact hj);exact this
theorem D6(f:eD):∀(l:mJ)(i:Nat),(gw f l)[i]? = (l[i]?).map f
 |[],i|x::l,0=>by simp[gw]
 |x::l,i+1=>by simp only[gw,oR];exact D6 f l i
theorem D8(f:eD):∀l:List Operand,(gw f l).length=l.length
 |[]=>rfl
 |x::l=>by simp[gw,D8 f l]
theorem aft{c:V}(h:aj p.β M (Imm F p M w) w v u)(hf:qe v=some (f,c)):∃us:List Value,u=.func (.func f) #[] us.toArray/\ac p.β M (Imm F p M w) w c us:=by
 unfold qe at hf;split at hf
 ·cases hf;simp only[aj,ac]at h;obtain⟨us,e,h1⟩:=h;exact⟨us,by simpa using e,h1⟩
 ·cases hf;simp only[aj,ac,ah]at h;obtain⟨us,e,h2⟩:=h;exact⟨us,by simpa using e,fG _ _ _ h2⟩
 ·cases hf
theorem So(hp:Hp F p M w):(c:V)->(us:aJ)->(cs:cK)->ac p.β M (Imm F p M w) w c us->jT M c=some cs->us.length=cs.length/\∀(i:Nat) v u,cs[i]? = some v->us[i]? = some u->aj p.β M (Imm F p M w) w v u
 |.u,us,cs,r,h=>by simp only[jT,aG]at h;simp only[ac]at r;subst h;subst r;exact⟨rfl,λi v u hv=>by simp at hv⟩
 |.p a b,us,cs,r,h=>by
  simp only[jT]at h;simp only[ac]at r;obtain⟨va,vb,rfl,r1,r2⟩:=r
  cases hb:jT M b with
  |none=>rw[hb]at h;cases h
  |some rs=>
   rw[hb]at h
   cases hs:fX M a 1 with
   |false=>simp only[hs]at h;cases h
   |true=>
    simp only[hs,aD,aG]at h;subst h;have hl:=ng hp a va 1 r1 (lW hs);obtain⟨k1,k2⟩:=So hp b vb rs r2 hb
    match va,hl with
    |[u0],_=>
     refine⟨by simp[k1],λi v u hv hu=>?_⟩
     cases i with
     |zero=>simp only[jG,oT,aG]at hv hu;subst hv;subst hu;exact ky r1
     |succ i=>exact k2 i v u (by simpa using hv) (by simpa using hu)
 |.any,_,_,_,h|.nl,_,_,_,h|.np,_,_,_,h|.d _ _,_,_,_,h|.ref _ _,_,_,_,h|.ad _ _,_,_,_,h|.ag _,_,_,_,h|.tup _,_,_,_,h|.gd _ _ _ _,_,_,_,h|.fn _ _,_,_,_,h|.ifc _ _,_,_,_,h|.bx _,_,_,_,h=>by simp[jT]at h
theorem QZ(hp:Hp F p M w):(vs:cK)->(us:aJ)->(c:V)->us.length=vs.length->(∀(i:Nat) v u,vs[i]? = some v->us[i]? = some u->aj p.β M (Imm F p M w) w v u)->y5 M vs=some c->ac p.β M (Imm F p M w) w c us
 |[],us,c,hl,_,h=>by simp only[y5,aG]at h;subst h;simp only[ac];exact iS hl
 |v::vs,us,c,hl,hr,h=>by
  simp only[y5]at h
  cases hc:y5 M vs with
  |none=>rw[hc]at h;cases h
  |some c'=>
   rw[hc]at h
   cases hk:nob (neg (ge v)) (fX M v 1)with
   |false=>simp only[hk]at h;cases h
   |true=>
    simp only[hk,aD,aG]at h;subst h;simp only[aU,ao,gr,fy]at hk
    match us,hl with
    |u::us,hl=>
     have h0:=hr 0 v u rfl rfl;have ih:=QZ hp vs us c' (by simpa using hl) (λi v u hv hu=>hr (i+1) v u (by simpa using hv) (by simpa using hu)) hc;have hcv:fZ v=true:=by have hs:=lW hk.2;cases v<;>first|rfl|(simp[V.size]at hs;done)|(simp[ge]at hk;done)
     obtain⟨vs1,_,a2,a3⟩:=xy hp h0 hcv;have e:=a2 hk.1;subst e;have hcells:v.cells=v:=by cases v<;>first|rfl|(simp[ge]at hk;done)
     rw[hcells]at a3;simp only[ac];exact⟨[u],us,rfl,a3,ih⟩
theorem E'(hG:lI P F)(h:Hp F p M w)(hL:∀b,¬p.L b){m:Mt}(hm:MtOk P f m)(vs:cK)(us:aJ)(hlen:us.length=vs.length)(hrel:∀(i:Nat) v u,vs[i]? = some v->us[i]? = some u->aj p.β M (Imm F p M w) w v u)(hr:(execOp a.eval o).run P w=.ok (.enter f us.toArray) w)(hv:ab (KD m vs M).vc)(qt:bC)(Q:gL):o.wp P a w (λa' w'=>∃v,a'=a.put o.dst v/\cu F p M w qt (KD m vs M) v w') Q:=by
 have h:False/\True:=hv;exact h.1.elim
theorem x9(h:kM π=true):π=[.de]:=by
 unfold kM at h;split at h
 ·rfl
 ·cases h
theorem O8(h:pK v=some k):v=.ad k [.de]\/v=.ref k []:=by
 unfold pK at h;split at h
 ·rename_i j π
  cases hd:kM π with
  |false=>rw[hd]at h;cases h
  |true=>rw[hd]at h;simp only[aD,aG]at h;rw[h,x9 hd];exact .inl rfl
 ·rename_i j π
  cases π with
  |nil=>simp only[Lu,aD,aG]at h;rw[h];exact .inr rfl
  |cons _ _=>simp[Lu]at h
 ·cases h
theorem Z7(h:pK v=some k):∃π,v=.ad k π\/v=.ref k π:=by
 rcases O8 h with h|h
 ·exact⟨_,.inl h⟩
 ·exact⟨_,.inr h⟩
theorem KW(k:Nat)(v0:V)(h0:∃π,v0=.ad k π\/v0=.ref k π):∀(v:V)(M:Mem),bF (cD M v).2 k->v0.evs (cD M v).1=v0/\bF M k:=by
 have one:∀(j:Nat)(M:Mem)(ob:Ob),bF (del j M) k->v0.evs [.fz j ob]=v0/\bF M k:=λj M ob hl=>by
  have hne:k≠j:=λe=>by subst e;unfold bF at hl;rw[fU]at hl;cases hl
  refine⟨by obtain⟨π,h|h⟩:=h0<;>simp only[h,V.evs,V.ev,Ev.ad,Ev.ref,dP,ai hne],?_⟩;unfold bF at hl⊢;rwa [fg hne]at hl
 intro v
 induction v with
 |p a b iha ihb=>intro M hl;simp only[cD]at hl⊢;obtain⟨h1,h2⟩:=ihb _ hl;obtain⟨h3,h4⟩:=iha _ h2;rw[xO,h3];exact⟨h1,h4⟩
 |ref j ρ=>
  intro M hl;simp only[cD]at hl⊢
  cases hg:go M j with
  |none=>rw[hg]at hl;exact⟨rfl,hl⟩
  |some ob=>rw[hg]at hl;exact one j M ob hl
 |ad j ρ=>
  intro M hl;simp only[cD]at hl⊢
  cases hg:go M j with
  |none=>rw[hg]at hl;exact⟨rfl,hl⟩
  |some ob=>rw[hg]at hl;exact one j M ob hl
 |ag v ih|fn f v ih|ifc f v ih|bx v ih|tup v ih|gd _ _ _ v ih=>intro M hl;simp only[cD]at hl⊢;exact ih M hl
 |_=>intro M hl;exact⟨rfl,hl⟩
theorem Et(k:Nat)(v0:V)(h0:∃π,v0=.ad k π\/v0=.ref k π):∀(vs:cK)(M:Mem),bF (eN M vs).2 k->v0.evs (eN M vs).1=v0
 |[],_,_=>rfl
 |v::r,M,hl=>by
  simp only[eN]at hl⊢;have h1:=Et k v0 h0 r _ hl
  have lv:∀(vs:cK)(M:Mem),bF (eN M vs).2 k->bF M k:=λvs=>by
   induction vs with
   |nil=>intro M h;exact h
   |cons v vs ih=>intro M h;simp only[eN]at h;exact (KW k v0 h0 v M (ih _ h)).2
  rw[xO,(KW k v0 h0 v M (lv _ _ hl)).1];exact h1
theorem A9(hp:Hp F p M w)(hg:go M k=some ob)(h0:pK v0=some k)(hs:v0.evs e=v0)(hu:aj p.β M (Imm F p M w) w (v0.evs e) u):u=p.β k:=by
 rw[hs]at hu;rcases O8 h0 with rfl|rfl
 ·simp only[aj,ac]at hu;obtain⟨_,e1,hadr⟩:=hu;simp only[bH,aA]at e1;subst e1;obtain⟨o0,us0,b0,off0,k1,k2,k3,k4,k5,k6⟩:=hadr;rw[hg]at k1;cases k1;have hrk:=hp.objs k _ hg;obtain⟨oo,xx⟩:=ob
  cases oo with
  |pt o1=>simp only[Rel]at hrk;obtain⟨bb,us1,ty',S1,r1,_⟩:=hrk;simp only[bH,aA]at r1;rw[r1]at k5;simp only[res,aG,bS]at k5;rw[k6,r1,k5.2.1,k5.2.2]
  |fz t=>obtain⟨q,hq⟩:=k3;cases t<;>simp[get]at hq<;>simp[res]at k5
  |p a b|sl e|mp e e'|op e=>obtain⟨q,hq⟩:=k3;simp[get]at hq
 ·simp only[aj,ac]at hu;obtain⟨o0,pl0,k1,k2,k3,k4⟩:=hu;simp only[res,aG,bS,bH,aA]at k4;exact k4.1.symm
def LK(P:d4)(f:gp)(W:Wt)(Lk:World->Value->Value->Prop):Prop:=
 ∀(A:aT)(w:aK)(r u:bm)(x:W.o.strip.den)(us:aJ)(y:bo W.as)(S:aT),ErrG P A w->(∀b,A b->b<w.heap.size)->(∀b,S b->b<w.heap.size/\¬A b)->
  Rel (λb=>A b) w W.o x S [r]->Lk w r u->dL A w W.ag W.as y us->ab (W.pre x y)->
  Calls P f (ew W.i u us).toArray w λe w'=>∃rs R S',e=.returned (eR rs)/\ExtS w w' S/\(∀b,R b->w.heap.size<=b/\b<w'.heap.size)/\(∀b,S' b->(S b\/w.heap.size<=b/\b<w'.heap.size)/\¬R b)/\
   Rel (λb=>b<w'.heap.size/\(A b\/S b\/w.heap.size<=b)/\¬S' b/\¬R b) w' W.o (W.new x y) S' [r]/\
   cW (λb=>b<w'.heap.size/\(A b\/S b\/w.heap.size<=b)/\¬S' b/\¬R b) w' W.rt (W.res x y) R rs
theorem agh(h:F2 P f W):LK P f W (λ_ r u=>u=r):=λA w r u x us y S h0 h1 h2 h3 h4 h5 h6=>by subst h4;exact h A w u x us y S h0 h1 h2 h3 h5 h6
def Holds(w:aK)(r u:bm):Prop:=∃b ty,r=.pointer (some ⟨b,0,none⟩)/\w.heap[b]? = some (.cells #[u] ty)
theorem af3(hs:slO W.o=true)(h:F2 P f W):LK P f (pbW W) Holds:=λA w r u x us y S h0 h1 h2 h3 h4 h5 h6=>by
 obtain⟨b,ty,rfl,hb⟩:=h4;simp only[pbW,Rel]at h3;obtain⟨b',us1,ty',S1,r1,r2,r3,r4,r5⟩:=h3;simp only[bH,Gj,aG,Addr.mk.injEq,aA,aL]at r1;subst r1;rw[hb]at r3;have e1:us1=[u]:=by simp only[aG,Obj.cells.injEq]at r3;have:=congrArg Array.toList r3.1;simpa using this.symm
 subst e1;refine (h A w u x us y S1 h0 h1 (λc hc=>h2 c (r4 c hc).1) r5 h5 h6).mono λe w' ⟨rs,R,S2,e1,e2,e3,e4,e5,e6⟩=>?_;have hR:¬R b:=λhr=>by have:=(e3 b hr).1;have:=(h2 b r2).1;omega
 have hS2:∀c,(c<w'.heap.size/\(A c\/S1 c\/w.heap.size<=c)/\¬S2 c/\¬R c)->(c<w'.heap.size/\(A c\/S c\/w.heap.size<=c)/\¬(S2 c\/c=b)/\¬R c):=λc ⟨k1,k2,k3,k4⟩=>by
  refine⟨k1,k2.elim .inl λk=>k.elim (λk=>.inr (.inl (r4 c k).1)) λk=>.inr (.inr k),λhc=>hc.elim k3 λhc=>?_,k4⟩;subst hc;rcases k2 with k|k|k
  ·exact (h2 c r2).2 k
  ·exact (r4 c k).2 rfl
  ·have:=(h2 c r2).1;omega
 have hold:w'.heap[b]? = w.heap[b]?:=e2.old b (h2 b r2).1 (λhc=>(r4 b hc).2 rfl)
 have hb2:¬S2 b:=λhc=>by
  rcases (e4 b hc).1 with k|k
  ·exact (r4 b k).2 rfl
  ·have:=(h2 b r2).1;omega
 refine⟨rs,R,λc=>S2 c\/c=b,e1,⟨e2.os,e2.tape,e2.output,e2.size,λc hc hn=>e2.old c hc λk=>hn (r4 c k).1⟩,e3,λc hc=>?_,?_,?_⟩
 ·rcases hc with hc|hc
  ·obtain⟨k1,k2⟩:=e4 c hc;exact⟨k1.elim (λk=>.inl (r4 c k).1) .inr,k2⟩
  ·subst hc;exact⟨.inl r2,hR⟩
 ·simp only[pbW,Rel];refine⟨b,[u],ty,S2,rfl,.inr rfl,by rw[hold,hb],λc hc=>⟨.inl hc,λk=>by subst k;exact hb2 hc⟩,?_⟩;exact Rel.keep (λc hc=>⟨hS2 c hc,rfl⟩) _ _ _ _ (λ_ _=>rfl) e5
 ·exact cW.keep hS2 _ _ _ _ e6
theorem Oz(hG:lI P F)(h:Hp F p M w)(hL:∀b,¬p.L b)(hw:LK P f W Lk)(k:Nat)(u:bm)(r:cK)(us:aJ)(hlnk:∀x,go (eN M r).2 k=some ⟨W.o,x⟩->Lk w (p.β k) u)(hlen:us.length=r.length)(hrel:∀(i:Nat) v u,r[i]? = some v->us[i]? = some u->aj p.β M (Imm F p M w) w v u)(hr:(execOp a.eval o).run P w=.ok (.enter f (ew W.i u us).toArray) w)(hv:ab (qT k W d r M).vc)(qt:bC)(Q:gL):o.wp P a w (λa' w'=>∃v,a'=a.put o.dst v/\cu F p M w qt (qT k W d r M) v w') Q:=by
 unfold qT at hv⊢
 cases b2:shp r W.ag with
 |false=>rw[b2]at hv;exact hv.1.elim
 |true=>
 simp only[b2,aD]at hv⊢;have hfz:=AL r M h;generalize hz:eN M r=z at hv hfz hlnk⊢;obtain⟨e0,M1⟩:=z;simp only at hv hfz hlnk⊢
 cases hg:go M1 k with
 |none=>simp only[hg]at hv;exact hv.1.elim
 |some ob=>
 cases hy:asL (gv e0 r) W.as with
 |none=>simp only[hg,hy]at hv;exact hv.1.elim
 |some y=>
 simp only[hg,hy]at hv⊢
 cases hc:ja ob W.o with
 |none=>simp only[hc]at hv;exact hv.1.elim
 |some x=>
 simp only[hc]at hv⊢;have:=xh hc;subst this;generalize hN:newL d 0 W.rt (W.res x y)=q at hv⊢;obtain⟨v,N,j'⟩:=q;simp only at hv⊢
 cases hin:inN k (bJ N)with
 |true=>rw[hin]at hv;exact hv.1.elim
 |false=>
 simp only[hin,bp]at hv⊢;have hl:=hlen
 have hrel1:∀(i:Nat) v u',(gv e0 r)[i]? = some v->us[i]? = some u'->aj p.β M1 (Imm F p M1 w) w v u':=λi v u' hv hu'=>by
  rw[A4]at hv
  cases hx:r[i]? with
  |none=>rw[hx]at hv;cases hv
  |some v0=>rw[hx]at hv;simp only[dX,aG]at hv;subst hv;exact hfz.s _ _ (hrel i v0 u' hx hu')
 have hbox:Lk w (p.β k) u:=hlnk x hg;have hlk:=cz hg;unfold Oper.wp;rw[hr,wz];refine (hw (Imm F p M1 w) w (p.β k) u x us y (p.σ k) (Eg hG hfz.hp hL) (λb hb=>hb.1) (λb hb=>⟨(hfz.hp.own k b hlk hb).1,λhi=>hi.2.2.2 k hlk hb⟩) (hfz.hp.objs k _ hg) hbox (ED hfz.hp _ _ _ _ _ (by rw[qV];simpa using hl) hrel1 (by rw[DR];exact b2) hy) hv).mono λe w' ⟨rs,R,S',e1,e2,e3,e4,e5,e6⟩=>?_;subst e1;obtain⟨p1,t1,t2,t3⟩:=D5 hfz.hp hL hg (λb hb=>hb) e2 e3 e4 e5;generalize hM2:put k (⟨W.o,W.new x y⟩:Ob) M1=M2 at t1 t3⊢;have h1:=KT (bJ N) M2 t1.hp;obtain⟨hle,hkeys⟩:=DZ d W.rt 0 (W.res x y);have hnew:=Kz (F:=F) (w:=w') d j' W.rt (fM (bJ N) M2) p1 0 (W.res x y) R rs h1.hp (cW.keep (λb hb=>(h1.keep b (t3 b hb)).1) _ _ _ _ e6) (λb hb=>(t2 b).2 hb);rw[hN]at hnew hle hkeys;simp only at hnew hle hkeys;obtain⟨p2,a1,a2⟩:=hnew (aZ _) (λi hi hij=>(Ej (bJ N) M2 _).1 (.inl (hkeys i hi hij)));have h3:=Tr.drop a1.tr.hp (λ_=>False) (λb hb=>hb.elim);refine⟨_,rfl,⟨p2.β,p2.σ,λ_=>False⟩,?_,λb hb=>hb,?_,λhfr _=>?_⟩
 ·have h4:=hfz.trans (t1.trans (h1.trans (a1.tr.trans h3)));simpa only [ap,tA]using h4
 ·have h5:=h3.s _ _ (Rp W.rt v rs (JC _ _ _ _ e6) a2);simpa only [V.evs]using h5
 ·exfalso
  have:∀e:List Ev,dv M (ap e (.cut k W.o W.o::klL (bJ N)))=false:=λe=>by
   induction e with
   |nil=>rfl
   |cons x e ih=>cases x<;>simp[ap,dv,ih]
  rw[this]at hfr;cases hfr
theorem acp:(o:O)->(x:o.strip.den)->(S:aT)->(vs:aJ)->slO o=true->Rel Im w o x S vs->vs.length=1
 |.sl e,x,S,vs,_,r=>by simp only[Rel]at r;obtain⟨v',_,_,_,rfl,_⟩:=r;rfl
 |.fz _,_,_,_,h,_|.p _ _,_,_,_,h,_|.pt _,_,_,_,h,_|.mp _ _,_,_,_,h,_|.op _,_,_,_,h,_=>by cases h
theorem aaf:(o:O)->slO o=true->o.size=1
 |.sl e,_=>rfl
 |.fz _,h|.p _ _,h|.pt _,h|.mp _ _,h|.op _,h=>by cases h
theorem adz(h:deK v=some k):v=.ref k [.de]:=by
 unfold deK at h;split at h
 ·rename_i j π
  cases hd:kM π with
  |false=>rw[hd]at h;cases h
  |true=>rw[hd]at h;simp only[aD,aG]at h;rw[h,x9 hd]
 ·cases h
theorem Qf{R:V->Value->Prop}:∀(i:Nat)(vs:cK)(us:aJ)(v0:V)(r:cK),pkN i vs=some (v0,r)->us.length=vs.length->(∀(j:Nat) v u,vs[j]? = some v->us[j]? = some u->R v u)->
  ∃u us',us=ew i u us'/\us'.length=r.length/\R v0 u/\∀(j:Nat) v u,r[j]? = some v->us'[j]? = some u->R v u
 |_,[],_,_,_,h,_,_=>by cases ‹Nat›<;>simp[pkN]at h
 |0,v::vs,us,v0,r,h,hl,hr=>by
  simp only[pkN,aG,bS]at h;obtain⟨rfl,rfl⟩:=h
  match us,hl with
  |u::us,hl=>exact⟨u,us,rfl,by simpa using hl,hr 0 _ _ rfl rfl,λj v u h1 h2=>hr (j+1) v u (by simpa using h1) (by simpa using h2)⟩
 |i+1,v::vs,us,v0,r,h,hl,hr=>by
  simp only[pkN]at h;split at h
  ·rename_i y s hs;simp only[aG,bS]at h;obtain⟨rfl,rfl⟩:=h
   match us,hl with
   |u::us,hl=>
    obtain⟨u',us',rfl,k1,k2,k3⟩:=Qf i vs us y s hs (by simpa using hl) (λj v u h1 h2=>hr (j+1) v u (by simpa using h1) (by simpa using h2));refine⟨u',u::us',rfl,by simp[k1],k2,λj w z h1 h2=>?_⟩
    cases j with
    |zero=>simp at h1 h2;subst h1;subst h2;exact hr 0 _ _ rfl rfl
    |succ j=>exact k3 j w z (by simpa using h1) (by simpa using h2)
  ·cases h
theorem Z0(hG:lI P F)(h:Hp F p M w)(hL:∀b,¬p.L b)(hw:F2 P f W)(vs:cK)(us0:aJ)(hlen:us0.length=vs.length)(hrel:∀(i:Nat) v u,vs[i]? = some v->us0[i]? = some u->aj p.β M (Imm F p M w) w v u)(hr:(execOp a.eval o).run P w=.ok (.enter f us0.toArray) w)(hv:ab (tv W d vs M).vc)(qt:bC)(Q:gL):o.wp P a w (λa' w'=>∃v,a'=a.put o.dst v/\cu F p M w qt (tv W d vs M) v w') Q:=by
 unfold tv at hv⊢;split at hv
 ·rename_i v0 r hpk;obtain⟨u,us,rfl,hl',h0,hrel'⟩:=Qf (R:=aj p.β M (Imm F p M w) w) W.i vs us0 v0 r hpk hlen hrel;have hfz:=AL r M h;have hu:=hfz.s _ _ h0
  cases hroot:pK v0 with
  |some k=>
   simp only[hroot]at hv⊢
   cases hb:nr W.o with
   |false=>rw[hb]at hv;exact hv.1.elim
   |true=>
   simp only[hb,aD]at hv⊢;exact Oz hG h hL (agh hw) k u r us (λx hg=>A9 hfz.hp hg hroot (Et k v0 (Z7 hroot) r M (cz hg)) hu) hl' hrel' hr hv qt Q
  |none=>
   simp only[hroot]at hv⊢
   cases hde:deK v0 with
   |none=>simp only[hde]at hv;exact hv.1.elim
   |some k=>
   simp only[hde]at hv⊢
   cases hb:slO W.o with
   |false=>rw[hb]at hv;exact hv.1.elim
   |true=>
   simp only[hb,aD]at hv⊢;have hv0:=adz hde;subst hv0;refine Oz hG h hL (af3 hb hw) k u r us (λx hg=>?_) hl' hrel' hr hv qt Q;rw[Et k _ ⟨[.de],.inr rfl⟩ r M (cz hg)]at hu;simp only[aj,ac]at hu;obtain⟨o0,pl0,k1,k2,k3,k4⟩:=hu;rw[hg]at k1;cases k1;have hrk:=hfz.hp.objs k _ hg;simp only[pbW,Rel]at hrk;obtain⟨bb,us1,ty',S1,r1,r2,r3,r4,r5⟩:=hrk;simp only[bH,aA]at r1;have hsz:us1.length=1:=acp _ _ _ _ hb r5;have hs1:W.o.size=1:=aaf _ hb;refine⟨bb,ty',r1,?_⟩
   obtain⟨z,rfl⟩:∃z,us1=[z]:=by
    match us1,hsz with
    |[z],_=>exact⟨z,rfl⟩
   rw[r1]at k4;simp only[pbW,res,hs1,aG,bS]at k4;rw[r3];have k5:cellsOf w bb 0 1=[z]:=by simp[cellsOf,World.cell?,r3]
   rw[k5]at k4;simp only[bH,aA]at k4;rw[k4.1]
 ·exact hv.1.elim
theorem Oq:(a b:bA)->peq a b=true->a=b
 |[],[],_=>rfl
 |.l::a,.l::b,h|.r::a,.r::b,h|.de::a,.de::b,h=>by rw[Oq a b (by simpa only [peq]using h)]
 |[],_::_,h=>by simp[peq]at h
 |s::a,[],h=>by cases s<;>simp[peq]at h
 |.l::a,.r::b,h|.l::a,.de::b,h|.l::a,.ix _::b,h|.r::a,.l::b,h|.r::a,.de::b,h|.r::a,.ix _::b,h|.de::a,.l::b,h|.de::a,.r::b,h|.de::a,.ix _::b,h=>by simp[peq]at h
 |.ix _::a,s::b,h=>by cases s<;>simp[peq]at h
theorem SB(h:Bv π v=some k):v=.ad k π:=by
 unfold Bv at h;split at h
 ·rename_i j ρ
  cases hp:peq π ρ with
  |false=>rw[hp]at h;cases h
  |true=>rw[hp]at h;simp only[aD,aG]at h;rw[←Oq _ _ hp,h]
 ·cases h
theorem RV(h:yq k v=true):v=.ad k [.de]:=by
 unfold yq at h;split at h
 ·rename_i j π;simp only[aU,ao]at h;rw[x9 h.2,dh h.1]
 ·cases h
theorem Dj{β:gM}{Im:aT}{k:Nat}:(v:V)->(vs:aJ)->ac β M Im w v vs->ac β M Im w (pN k v) vs
 |.bx v,vs,r=>by
  simp only[pN]
  cases hi:yq k v with
  |false=>simpa only [bp]using r
  |true=>have hv:=RV hi;subst hv;simp only[aD];simp only[ac]at r⊢;obtain⟨b,o,us,h1,h2,h3,z,h4,h5⟩:=r;refine⟨b,o,us,h1,h2,h3,?_⟩;simp only[ah];obtain⟨_,_,_,_,_,_,_,_,_,rfl⟩:=h5;exact⟨_,h4,rfl⟩
 |.p a b,vs,r=>by simp only[pN,ac]at r⊢;obtain⟨va,vb,h1,h2,h3⟩:=r;exact⟨va,vb,h1,Dj a _ h2,Dj b _ h3⟩
 |.fn f v,vs,r=>by simp only[pN,ac]at r⊢;obtain⟨us,h1,h2⟩:=r;exact⟨us,h1,Dj v _ h2⟩
 |.any,_,r|.nl,_,r|.np,_,r|.u,_,r|.d _ _,_,r|.ref _ _,_,r|.ad _ _,_,r|.ag _,_,r|.tup _,_,r|.gd _ _ _ _,_,r|.ifc _ _,_,r=>r
theorem aap(r:aj β M Im w v u):aj β M Im w (pN k v) u:=by
 cases v with
 |bx v|p a b|fn f v=>exact ky (Dj (k:=k) _ _ (by simpa only [aj]using r))
 |_=>exact r
theorem Pz(k:Nat):∀(vs:cK)(i:Nat),(nq k vs)[i]? = vs[i]?.map (pN k)
 |[],i|v::r,0=>by simp[nq]
 |v::r,i+1=>by simp only[nq,oR];exact Pz k r i
theorem Pq(k:Nat):∀(vs:cK),(nq k vs).length=vs.length
 |[]=>rfl
 |v::r=>by simp only[nq,aH,Pq k r]
theorem Ba{Im:aT}{u:bm}:(t:T)->(x:t.den)->(vs:aJ)->ah Im w t x vs->pY t=true->AlR w u t vs
 |.p a b,x,vs,r,h=>by simp only[ah]at r;obtain⟨va,vb,h1,h2,h3⟩:=r;simp only[pY,aU,ao]at h;simp only[AlR];exact⟨va,vb,h1,ah.len _ _ _ h2,Ba a _ _ h2 h.1,Ba b _ _ h3 h.2⟩
 |.fn f t,x,vs,r,h=>by simp only[ah]at r;obtain⟨us,h1,h2⟩:=r;simp only[AlR];exact⟨us,h1,Ba t _ _ h2 h⟩
 |.pt t,x,vs,r,h=>by simp only[pY,gr,fy]at h;simp only[AlR,h];intro h;cases h
 |.int _,_,_,_,_|.bool,_,_,_,_|.str,_,_,_,_|.u,_,_,_,_|.any,_,_,_,_|.sl _,_,_,_,_|.ifc _ _,_,_,_,_|.ib _ _,_,_,_,_|.mp _ _,_,_,_,_|.op _,_,_,_,_|.ns _,_,_,_,_|.er _,_,_,_,_=>by simp only[AlR]
theorem abh:∀(v:V)(t:T)(vs:aJ),gk k v t=true->ac β M Im w v vs->vs.length=t.size:=by
 intro v
 induction v with
 |bx v _=>
  intro t vs h r
  cases t with
  |pt t=>simp only[ac]at r;obtain⟨_,_,_,rfl,_⟩:=r;rfl
  |_=>simp[gk]at h
 |ad j π=>
  intro t vs h r;simp only[ac]at r;obtain⟨_,rfl,_⟩:=r;have h2:Nat.beq t.size 1=true:=by cases t<;>(simp only[gk,aU,ao]at h;exact h.2)
  exact (dh h2).symm
 |p a b iha ihb=>
  intro t vs h r
  cases t with
  |p t s=>simp only[gk,aU,ao]at h;simp only[ac]at r;obtain⟨va,vb,rfl,h1,h2⟩:=r;rw[bj,iha _ _ h.1 h1,ihb _ _ h.2 h2];simp[T.size]
  |_=>simp[gk]at h
 |fn f v _=>
  intro t vs h r
  cases t with
  |fn f' t=>simp only[ac]at r;obtain⟨_,rfl,_⟩:=r;rfl
  |_=>simp[gk]at h
 |d s y=>
  intro t vs h r;have h2:Nat.beq s.size t.size=true:=by cases t<;>(simp only[gk,aU,ao]at h;exact h.2)
  simp only[ac]at r;rw[ah.len _ _ _ r];exact dh h2
 |u=>
  intro t vs h r
  cases t with
  |u=>simp only[ac]at r;subst r;rfl
  |_=>simp[gk]at h
 |_=>intro t vs h r;cases t<;>simp[gk]at h
theorem ad1(hp:Hp F p M w)(hg:go M k=some ob):∀(v:V)(t:T)(x:t.den)(vs:aJ),ac p.β M (Imm F p M w) w v vs->ah Im w t x vs->gk k v t=true->AlR w (p.β k) t vs:=by
 intro v
 induction v with
 |bx v _=>
  intro t x vs r rf h
  cases t with
  |pt t=>
   simp only[gk]at h;simp only[AlR];intro ha
   cases hi:yq k v with
   |false=>rw[hi]at h;simp only[bp,gr,ha]at h;cases h
   |true=>have hv:=RV hi;subst hv;simp only[ac]at r;obtain⟨b,o,us,h1,h2,h3,z,h4,h5⟩:=r;subst h4;have:=A9 hp hg (v0:=.ad k [.de]) (by simp[pK,kM]) (e:=[]) rfl (u:=z) (by simp only[V.evs,aj,ac];exact⟨z,rfl,h5⟩);subst this;exact⟨b,o,h1,h3⟩
  |_=>simp[gk]at h
 |p a b iha ihb=>
  intro t x vs r rf h
  cases t with
  |p t s=>simp only[gk,aU,ao]at h;simp only[ac]at r;simp only[ah]at rf;obtain⟨va,vb,rfl,h1,h2⟩:=r;obtain⟨va',vb',e,g1,g2⟩:=rf;have hl:=abh _ _ _ h.1 h1;have hl':=ah.len _ _ _ g1;obtain⟨rfl,rfl⟩:=List.append_inj e (by rw[hl,hl']);simp only[AlR];exact⟨_,_,rfl,hl,iha _ _ _ h1 g1 h.1,ihb _ _ _ h2 g2 h.2⟩
  |_=>simp[gk]at h
 |fn f v ih=>
  intro t x vs r rf h
  cases t with
  |fn f' t=>
   simp only[gk]at h;simp only[ac]at r;simp only[ah]at rf;obtain⟨us,rfl,h1⟩:=r;obtain⟨us',e,g1⟩:=rf;simp only[bH,Value.func.injEq,Fn.func.injEq,aA,aL]at e;obtain⟨rfl,e⟩:=e;have e:us=us':=by simpa using e
   subst e;simp only[AlR];exact⟨us,rfl,ih _ _ _ h1 g1 h⟩
  |_=>simp[gk]at h
 |ad j π=>
  intro t x vs r rf h;have h2:pY t=true:=by cases t<;>(simp only[gk,aU,ao]at h;exact h.1)
  exact Ba _ _ _ rf h2
 |d s y=>
  intro t x vs r rf h;have h2:pY t=true:=by cases t<;>(simp only[gk,aU,ao]at h;exact h.1)
  exact Ba _ _ _ rf h2
 |u=>
  intro t x vs r rf h
  cases t with
  |u=>simp only[AlR]
  |_=>simp[gk]at h
 |_=>intro t x vs r rf h;cases t<;>simp[gk]at h
theorem ZL{t:T}(h:gk k v t=true)(r:aj β M Im w v u):ac β M Im w v [u]:=by
 cases v with
 |any|ag _|tup _|gd _ _ _ _=>cases t<;>simp[gk]at h
 |_=>simpa only [aj]using r
theorem UC(hp:Hp F p M w){k:Nat}{ob:Ob}(hg:go M k=some ob){Im:aT}:(vs:cK)->(ts:eT)->(y:bo ts)->(us:aJ)->(∀(i:Nat) v u,vs[i]? = some v->us[i]? = some u->aj p.β M (Imm F p M w) w v u)->dL Im w (ou ts) ts y us->xX k vs ts=true->AlL w (p.β k) ts us
 |_,[],_,us,_,_,_=>by cases us<;>simp only[AlL]
 |[],_::_,_,_,_,_,h=>by simp[xX]at h
 |v::r,t::ts,y,us,hr,ha,h=>by simp only[ou,dL]at ha;obtain⟨u,us',vs,rfl,_,h2,h3,h4⟩:=ha;have:=h2 trivial;subst this;simp only[xX,aU,ao]at h;simp only[AlL];exact⟨ad1 hp hg _ _ _ _ (ZL h.1 (hr 0 _ _ rfl rfl)) h3 h.1,UC hp hg r ts y.2 us' (λi v u hv hu=>hr (i+1) v u (by simpa using hv) (by simpa using hu)) h4 h.2⟩
theorem Tr.un(h:Hp F p M w)(hL:∀b,¬p.L b){o:O}{x:o.strip.den}(hk:go M k=some ⟨.pt (.pt o),x⟩)(hj:go M j=none)(hg:k<gid):
  ∃p',Tr F p M w [.un k j] p' ((j,⟨.pt o,x⟩)::Bm.del k M) w/\∀b,¬p'.L b:=by
 have hro:=h.objs k _ hk;simp only[Rel]at hro;obtain⟨b0,us0,ty0,S0,r1,r2,r3,r4,r5⟩:=hro;have r5':=r5;obtain⟨b1,us1,ty1,S1,q1,q2,q3,q4,q5⟩:=r5;subst q1;simp only[bH,aA]at r1;generalize hp':(⟨λi=>if i=j then .pointer (some ⟨b1,0,none⟩)else p.β i,λi=>if i=j then S0 else p.σ i,λ_=>False⟩:Ow)=p';have hjk:j≠k:=by rintro rfl;rw[hk]at hj;cases hj
 have hβj:p'.β j=.pointer (some ⟨b1,0,none⟩):=by rw[←hp'];simp
 have hσj:p'.σ j=S0:=by rw[←hp'];simp
 have hβ:∀i,i≠j->p'.β i=p.β i:=λi hi=>by rw[←hp'];simp[hi]
 have hσ:∀i,i≠j->p'.σ i=p.σ i:=λi hi=>by rw[←hp'];simp[hi]
 have hL':∀b,¬p'.L b:=λb hb=>by rw[←hp']at hb;exact hb
 generalize hM1:(((j,⟨.pt o,x⟩)::Bm.del k M):Mem)=M1;have hgj:go M1 j=some ⟨.pt o,x⟩:=by rw[←hM1];exact mY _ _ _
 have hgi:∀i,i≠j->i≠k->go M1 i=go M i:=λi h1 h2=>by rw[←hM1,dR,ai (dg h1),fg h2]
 have hgk:go M1 k=none:=by rw[←hM1,dR,ai hjk,fU]
 have hlive:∀i,bF M1 i->i=j\/(i≠j/\i≠k/\bF M i):=λi hi=>by
  by_cases e:i=j
  ·exact .inl e
  ·by_cases e':i=k
   ·subst e';unfold bF at hi;rw[hgk]at hi;cases hi
   ·refine .inr ⟨e,e',?_⟩;unfold bF at hi⊢;rwa [hgi i e e']at hi
 have hlk:=cz hk
 have hkeep:cN (Imm F p M w) (Imm F p' M1 w) w w:=λb hb=>by
  refine⟨⟨hb.1,hb.2.1,hL' b,λi hi=>?_⟩,rfl⟩;rcases hlive i hi with rfl|⟨h1,h2,h3⟩
  ·rw[hσj];exactλhs=>hb.2.2.2 k hlk (r4 b hs).1
  ·rw[hσ i h1];exact hb.2.2.2 i h3
 have hb0:Imm F p' M1 w b0:=by
  obtain⟨o1,o2⟩:=h.own k b0 hlk r2;refine⟨o1,.inr (o2.elim (λh=>.inl h.2) (λh=>h.r)),hL' b0,λi hi=>?_⟩;rcases hlive i hi with rfl|⟨h1,h2,h3⟩
  ·rw[hσj];exactλhs=>(r4 b0 hs).2 rfl
  ·rw[hσ i h1];exactλhs=>h.sep k i b0 (dg h2) hlk h3 r2 hs
 have hne:∀i,bF M i->i≠j:=λi hi e=>by subst e;unfold bF at hi;rw[hj]at hi;cases hi
 have hinner:Rel (Imm F p' M1 w) w (.pt o) x S0 [.pointer (some ⟨b1,0,none⟩)]:=Rel.keep hkeep _ _ _ _ (λ_ _=>rfl) r5';refine⟨p',Tr.one _ hkeep (λi π vs r=>?_) (λi π v r=>?_) ⟨λi ob hi=>?_,λi i' b hne' hi hi' hb=>?_,λi b hi hb=>?_,λb hb=>absurd hb (hL' b),h.os,h.tape,h.output,h.size,h.old⟩,hL'⟩
 ·simp only[Ev.ref,dP];have hij:i≠j:=by obtain⟨o,_,h1,_⟩:=r;exact hne i (cz h1)
  split
  ·rename_i e;subst e;simp only[ac];obtain⟨ob,pl,h1,h2,⟨q,h3⟩,h4⟩:=r;obtain⟨us,pl',S',e1,e2,e3,_⟩:=look h h1 h2 h3;rw[e1]at h4;cases h4;exact Rel.one _ _ _ _ e3
  ·rename_i e;simp only[ac];exact r.same h (hgi i hij e) (hβ i hij) (λ_ _ _=>rfl)
 ·simp only[Ev.ad,dP];have hij:i≠j:=by obtain⟨o,_,_,_,h1,_⟩:=r;exact hne i (cz h1)
  split
  ·rename_i e;subst e;split
   ·obtain⟨o',us,b,off,h1,h2,h3,h4,h5,h6⟩:=r;rw[hk]at h1;cases h1;rw[r1]at h5;simp only[res,aG,bS]at h5;rw[ac];refine⟨b0,0,[.pointer (some ⟨b1,0,none⟩)],by rw[h6,←h5.2.1,←h5.2.2],hb0,λi' u hu=>?_,?_⟩
    ·cases i' with
     |zero=>simp only[jG,aG]at hu;subst hu;simp[World.cell?,r3]
     |succ i'=>simp at hu
    ·simp only[ac];refine⟨_,rfl,_,cellsOf w b1 0 o.size,b1,0,hgj,by simp only[gok],by simp only[get];exact⟨_,rfl⟩,by simp only[cn],by rw[hβj];simp only[res],rfl⟩
   ·simp only[ac];obtain⟨_,_,_,_,_,_,_,_,_,rfl⟩:=r;intro u hu;simp only[cP]at hu;subst hu;rfl
  ·rename_i e;simp only[ac];exact⟨v,rfl,r.same h (hgi i hij e) (hβ i hij) (λ_ _ _=>rfl)⟩
 ·rcases hlive i (cz hi)with rfl|⟨h1,h2,h3⟩
  ·rw[hgj]at hi;cases hi;rw[hβj,hσj];exact hinner
  ·rw[hgi i h1 h2]at hi;rw[hβ i h1,hσ i h1];exact Rel.keep hkeep _ _ _ _ (λ_ _=>rfl) (h.objs i ob hi)
 ·rcases hlive i hi with e|⟨h1,h2,h3⟩
  ·rcases hlive i' hi' with e'|⟨h1',h2',h3'⟩
   ·exact absurd (e.trans e'.symm) hne'
   ·rw[e,hσj]at hb;rw[hσ i' h1'];exact h.sep k i' b (dg h2') hlk h3' (r4 b hb).1
  ·rw[hσ i h1]at hb;rcases hlive i' hi' with e'|⟨h1',h2',h3'⟩
   ·rw[e',hσj];exactλhs=>h.sep i k b h2 h3 hlk hb (r4 b hs).1
   ·rw[hσ i' h1'];exact h.sep i i' b hne' h3 h3' hb
 ·rcases hlive i hi with e|⟨h1,h2,h3⟩
  ·rw[e,hσj]at hb;obtain⟨o1,o2⟩:=h.own k b hlk (r4 b hb).1;exact⟨o1,o2.elim (λh=>by have:=h.1;omega) .inr⟩
  ·rw[hσ i h1]at hb;exact h.own i b h3 hb
theorem ZX(x y:V)(M:Mem)(r:Rs):(pD x y M r).vc=r.vc:=by
 unfold pD;split
 ·split
  ·rename_i k j _ _ _ o z _ _;cases nob (Nat.blt k gid) (isN (go r.M j))<;>rfl
  ·rfl
 ·rfl
theorem y_{x y:V}{r:Rs}{v:bm}(h:cu F p M w false r v w'):cu F p M w false (pD x y M r) v w':=by
 unfold pD;split
 ·rename_i k j;split
  ·rename_i q1 q2 o z h1 h2
   cases hb:nob (Nat.blt k gid) (isN (go r.M j))with
   |false=>simpa only [bp]using h
   |true=>
    simp only[aD];simp only[aU,ao]at hb;obtain⟨p1,t1,l1,v1,_⟩:=h
    have hj:go r.M j=none:=by
     cases hg:go r.M j with
     |none=>rfl
     |some _=>rw[hg]at hb;simp[isN]at hb
    obtain⟨p2,t2,l2⟩:=Tr.un t1.hp l1 h2 hj (by simpa using hb.1);exact⟨p2,t1.trans t2,l2,by simp only[aj],λ_ hq=>by cases hq⟩
  ·exact h
 ·exact h
theorem aa3(hB:TabOk P B)(h:Hp F p M w)(hL:∀b,¬p.L b){y0:eO}(x y:V)(hx:aj p.β M (Imm F p M w) w x (a.eval x0))(hy:aj p.β M (Imm F p M w) w y (a.eval y0))(hv:ab (tP B t x y M).vc)(hop:op.op=.store t x0 y0):
  ∃w',(execOp a.eval op).run P w=.ok .skip w'/\cu F p M w false (tP B t x y M) undef w':=by
 unfold tP at hv⊢
 cases hkn:L9 (B.τ t) x y M with
 |none=>simp only[hkn,ZX]at hv⊢;obtain⟨w',hr,hd⟩:=Z3 hB h hL (op:=op) _ _ hx hy hv hop;exact⟨w',hr,y_ hd⟩
 |some r=>simp only[hkn]at hv⊢;cases hkn
theorem Zv(hG:lI P F)(h:Hp F p M w)(hL:∀b,¬p.L b){W:Wa}(hw:L5 P f W)(vs:cK)(us:aJ)(hlen:us.length=vs.length)(hrel:∀(i:Nat) v u,vs[i]? = some v->us[i]? = some u->aj p.β M (Imm F p M w) w v u)(hr:(execOp a.eval o).run P w=.ok (.enter f us.toArray) w)(hv:ab (xA W vs M).vc)(qt:bC)(Q:gL):o.wp P a w (λa' w'=>∃v,a'=a.put o.dst v/\cu F p M w qt (xA W vs M) v w') Q:=by
 unfold xA at hv⊢;split at hv
 ·rename_i v0 r
  cases hroot:Bv W.way v0 with
  |none=>simp only[hroot]at hv;exact hv.1.elim
  |some k=>
  simp only[hroot]at hv⊢;have hv0:=SB hroot
  cases hb:aP [ro W.o W.way,xX k r W.as,shp (nq k r) (ou W.as)]with
  |false=>rw[hb]at hv;exact hv.1.elim
  |true=>
  simp only[hb,aD]at hv⊢;simp only[bQ,bT,bM,ao]at hb;obtain⟨b1,b2,b3⟩:=hb
  have hrel':∀(i:Nat) v u,(nq k r)[i]? = some v->us[i+1]? = some u->aj p.β M (Imm F p M w) w v u:=λi v u hv hu=>by
   rw[Pz]at hv
   cases hx:r[i]? with
   |none=>rw[hx]at hv;cases hv
   |some v1=>rw[hx]at hv;simp only[dX,aG]at hv;subst hv;exact aap (hrel (i+1) v1 u (by simpa using hx) hu)
  have hll:=Pq k r;generalize hr':nq k r=r' at hv b3 hrel' hll⊢;have hfz:=AL r' M h;generalize hz:eN M r'=z at hv hfz⊢;obtain⟨e0,M1⟩:=z;simp only at hv hfz⊢
  cases hg:go M1 k with
  |none=>simp only[hg]at hv;exact hv.1.elim
  |some ob=>
  cases hy:asL (gv e0 r') W.as with
  |none=>simp only[hg,hy]at hv;exact hv.1.elim
  |some y=>
  simp only[hg,hy]at hv⊢
  cases hc:ja ob W.o with
  |none=>simp only[hc]at hv;exact hv.1.elim
  |some x=>
  simp only[hc]at hv⊢;have:=xh hc;subst this
  match us,hlen with
  |[],hl=>simp at hl
  |u::us,hl=>
  have hu:aj p.β M1 (Imm F p M1 w) w (v0.evs e0) u:=hfz.s _ _ (hrel 0 _ u rfl rfl)
  have hrel1:∀(i:Nat) v u',(gv e0 r')[i]? = some v->us[i]? = some u'->aj p.β M1 (Imm F p M1 w) w v u':=λi v u' hv hu'=>by
   rw[A4]at hv
   cases hx:r'[i]? with
   |none=>rw[hx]at hv;cases hv
   |some v0=>rw[hx]at hv;simp only[dX,aG]at hv;subst hv;exact hfz.s _ _ (hrel' i v0 u' hx (by simpa using hu'))
  have hst:v0.evs e0=v0:=by have h0:=Et k v0 ⟨_,.inl hv0⟩ r' M (by rw[hz];exact cz hg);rw[hz]at h0;exact h0
  have hlM:bF M k:=by
   have lv:∀(vs:cK)(M:Mem),bF (eN M vs).2 k->bF M k:=λvs=>by
    induction vs with
    |nil=>intro M h;exact h
    |cons v vs ih=>intro M h;simp only[eN]at h;exact (KW k v0 ⟨_,.inl hv0⟩ v M (ih _ h)).2
   exact lv r' M (by rw[hz];exact cz hg)
  obtain⟨ob0,hg0⟩:=AH hlM;have hadr:Adr (λ_=>p.β k) [(0,⟨W.o,x⟩)] w 0 W.way u:=by rw[hst,hv0]at hu;simp only[aj,ac]at hu;obtain⟨_,e1,hadr⟩:=hu;simp only[bH,aA]at e1;subst e1;obtain⟨o0,us0,b0,off0,k1,k2,k3,k4,k5,k6⟩:=hadr;rw[hg]at k1;cases k1;exact⟨_,us0,b0,off0,by rw[dR,am rfl],k2,k3,k4,k5,k6⟩
  have harg:=ED hfz.hp _ _ _ _ _ (by rw[qV,hll];simpa using hl) hrel1 (by rw[DR];exact b3) hy;have hal:AlL w (p.β k) W.as us:=UC h hg0 r W.as y us (λi v u hv hu=>hrel (i+1) v u (by simpa using hv) (by simpa using hu)) harg b2;have hlk:=cz hg;unfold Oper.wp;rw[hr,wz];refine (hw (Imm F p M1 w) w (p.β k) u x us y (p.σ k) (Eg hG hfz.hp hL) (λb hb=>hb.1) (λb hb=>⟨(hfz.hp.own k b hlk hb).1,λhi=>hi.2.2.2 k hlk hb⟩) (hfz.hp.objs k _ hg) hadr harg hal hv).mono λe w' ⟨S',e1,e2,e4,e5⟩=>?_;subst e1;obtain⟨p1,t1,t2,t3⟩:=D5 hfz.hp hL hg (S':=S') (R:=λ_=>False) (λb hb=>hb) e2 (λb hb=>hb.elim) (λb hb=>⟨e4 b hb,λh=>h⟩) (Rel.keep (λb hb=>⟨⟨hb.1,hb.2.1,hb.2.2,λh=>h⟩,rfl⟩) _ _ _ _ (λ_ _=>rfl) e5);have h3:=Tr.drop t1.hp (λ_=>False) (λb hb=>hb.elim);refine⟨_,rfl,⟨p1.β,p1.σ,λ_=>False⟩,?_,λb hb=>hb,?_,λhfr _=>?_⟩
  ·have h4:=hfz.trans (t1.trans h3);simpa only [ap,tA]using h4
  ·simp only[aj,cH];exact⟨[],rfl,rfl⟩
  ·exfalso
   have:∀e:List Ev,dv M (ap e [.cut k W.o W.o])=false:=λe=>by
    induction e with
    |nil=>rfl
    |cons x e ih=>cases x<;>simp[ap,dv,ih]
   rw[this]at hfr;cases hfr
 ·exact hv.1.elim
theorem D3(hp:Hp F p M w){A:aT}{N:Mem}(hN:∀j ob,go N j=some ob->go M j=some ob)(hI:∀b,Imm F p M w b->A b)(hW:∀j b,bF N j->p.σ j b->A b){k:Nat}{ob:Ob}(hg:go M k=some ob):(v:V)->(t:T)->(vs:aJ)->(x:t.den)->ac p.β M (Imm F p M w) w v vs->tQ k t v=true->(oD t v).view N t=some x->AnF A w (p.β k) t x vs
 |.ad j π,.any,vs,x,r,h,hx=>by simp only[tQ,aU,ao]at h;obtain⟨h1,h2⟩:=h;have h1:=dh h1;subst h1;have h2:=x9 h2;subst h2;have r':=r;simp only[ac]at r;obtain⟨z,rfl,_⟩:=r;simp only[AnF];rw[A9 hp hg (v0:=.ad j [.de]) (by simp[pK,kM]) (e:=[]) rfl (u:=z) (by simp only[V.evs,aj];exact r')]
 |.p v v',.p t t',vs,x,r,h,hx=>by
  simp only[tQ,aU,ao]at h;simp only[oD,V.view]at hx;split at hx
  ·rename_i y z hy hz;cases hx;simp only[ac]at r;obtain⟨va,vb,h1,h2,h3⟩:=r;simp only[AnF];exact⟨va,vb,h1,D3 hp hN hI hW hg v t va y h2 h.1 hy,D3 hp hN hI hW hg v' t' vb z h3 h.2 hz⟩
  ·cases hx
 |.fn f v,.fn f' t,vs,x,r,h,hx=>by simp only[tQ,aU,ao]at h;have h1:=dh h.1;subst h1;simp only[oD,V.view,dP,eX]at hx;simp only[ac]at r;obtain⟨us,h1,h2⟩:=r;simp only[AnF];exact⟨us,h1,D3 hp hN hI hW hg v t us x h2 h.2 hx⟩
 |v,.int _,vs,x,r,h,hx|v,.bool,vs,x,r,h,hx|v,.str,vs,x,r,h,hx|v,.u,vs,x,r,h,hx|v,.sl _,vs,x,r,h,hx|v,.pt _,vs,x,r,h,hx|v,.ifc _ _,vs,x,r,h,hx|v,.ib _ _,vs,x,r,h,hx|v,.mp _ _,vs,x,r,h,hx|v,.op _,vs,x,r,h,hx|v,.ns _,vs,x,r,h,hx|v,.er _,vs,x,r,h,hx=>by simp only[AnF];exact so hp hN hI hW v _ vs x r (by cases v<;>exact hx)
theorem Jf(hp:Hp F p M w){A:aT}{N:Mem}(hN:∀j ob,go N j=some ob->go M j=some ob)(hI:∀b,Imm F p M w b->A b)(hW:∀j b,bF N j->p.σ j b->A b){k:Nat}{ob:Ob}(hg:go M k=some ob):(vs:cK)->(gs:fw)->(ts:eT)->(x:bo ts)->(us:aJ)->us.length=vs.length->(∀(i:Nat) v u,vs[i]? = some v->us[i]? = some u->aj p.β M (Imm F p M w) w v u)->shp (qg gs ts vs) gs=true->om k gs ts vs=true->jY N (qg gs ts vs) ts=some x->jd A w (p.β k) gs ts x us
 |[],[],[],x,us,hl,_,_,_,h=>by simp only[jd];exact iS (by simpa using hl)
 |[],[],_::_,x,us,hl,_,hs,ho,h=>by simp[om]at ho
 |[],g::_,ts,x,us,hl,_,hs,ho,h=>by cases g<;>cases ts<;>simp[om]at ho
 |_::_,[],ts,x,us,hl,_,hs,ho,h=>by cases ts<;>simp[om]at ho
 |_::_,g::_,[],x,us,hl,_,hs,ho,h=>by cases g<;>simp[om]at ho
 |v::r,true::gs,t::ts,x,us,hl,hr,hs,ho,h=>by
  simp only[om]at ho;simp only[qg]at hs h;simp only[jY]at h;split at h
  ·rename_i y z hy hz;cases h
   cases us with
   |nil=>simp at hl
   |cons u us=>obtain⟨s1,s2⟩:=DB hs;obtain⟨cs,c1,c2,c3⟩:=xy hp (hr 0 v u rfl rfl) (H2 hy);simp only[jd];have c1:=c1 s1;subst c1;exact⟨us,cs,rfl,so hp hN hI hW _ _ _ _ c3 hy,Jf hp hN hI hW hg r gs ts z us (by simpa using hl) (λi v' u' hv' hu'=>hr (i+1) v' u' (by simpa using hv') (by simpa using hu')) s2 ho hz⟩
  ·cases h
 |v::r,false::gs,t::ts,x,us,hl,hr,hs,ho,h=>by
  simp only[om,aU,ao]at ho;simp only[qg]at hs h;simp only[jY]at h;split at h
  ·rename_i y z hy hz;cases h
   cases us with
   |nil=>simp at hl
   |cons u us=>
    obtain⟨s1,s2⟩:=DB hs
    have hav:ge v=false:=by
     cases v with
     |ag z=>cases t<;>exact s1
     |_=>rfl
    have hcv:fZ v=true:=by
     cases v with
     |any|tup _|gd _ _ _ _=>have:=H2 hy;cases t<;>exact this
     |_=>rfl
    obtain⟨cs,c1,c2,c3⟩:=xy hp (hr 0 v u rfl rfl) hcv;have c2:=c2 hav;subst c2;have hcc:v.cells=v:=by cases v<;>first|rfl|(simp[ge]at hav)
    rw[hcc]at c3;have hhc:(oD t v).cells=oD t v:=by have:ge (oD t v)=false:=s1;cases hh:oD t v<;>first|rfl|(rw[hh]at this;simp[ge]at this)
    rw[hhc]at hy;simp only[jd];exact⟨u,us,rfl,D3 hp hN hI hW hg v t [u] y c3 ho.1 hy,Jf hp hN hI hW hg r gs ts z us (by simpa using hl) (λi v' u' hv' hu'=>hr (i+1) v' u' (by simpa using hv') (by simpa using hu')) s2 ho.2 hz⟩
  ·cases h
theorem W'(hG:lI P F)(h:Hp F p M w)(hL:∀b,¬p.L b){W:Wc}(hw:L2 P f W)(vs:cK)(us:aJ)(hlen:us.length=vs.length)(hrel:∀(i:Nat) v u,vs[i]? = some v->us[i]? = some u->aj p.β M (Imm F p M w) w v u)(hr:(execOp a.eval o).run P w=.ok (.enter f us.toArray) w)(hv:ab (tG W vs M).vc)(qt:bC)(Q:gL):o.wp P a w (λa' w'=>∃v,a'=a.put o.dst v/\cu F p M w qt (tG W vs M) v w') Q:=by
 unfold tG at hv⊢
 cases hk:boxI W vs with
 |none=>simp only[hk]at hv;exact hv.1.elim
 |some k=>
 simp only[hk]at hv⊢
 cases hb:nob (om k W.ag W.as vs) (shp (qg W.ag W.as vs) W.ag)with
 |false=>rw[hb]at hv;exact hv.1.elim
 |true=>
 simp only[hb,aD]at hv⊢;simp only[aU,ao]at hb;obtain⟨b1,b2⟩:=hb
 cases hg:go M k with
 |none=>simp only[hg]at hv;exact hv.1.elim
 |some ob=>
 cases hy:jY (del k M) (qg W.ag W.as vs) W.as with
 |none=>simp only[hg,hy]at hv;exact hv.1.elim
 |some y=>
 simp only[hg,hy]at hv⊢
 cases hc:ja ob W.o with
 |none=>simp only[hc]at hv;exact hv.1.elim
 |some x=>
 simp only[hc]at hv⊢;have:=xh hc;subst this;have hlk:=cz hg
 have hdel:∀j ob,go (del k M) j=some ob->j≠k/\go M j=some ob:=λj ob hj=>by
  have hne:j≠k:=λe=>by subst e;rw[fU]at hj;cases hj
  exact⟨hne,by rwa [fg hne]at hj⟩
 have hargs:=Jf h (A:=λb=>All F w b/\¬p.σ k b) (N:=del k M) (λj ob hj=>(hdel j ob hj).2) (λb hb=>⟨Kb hb,hb.2.2.2 k hlk⟩) (λj b hj hb=>by obtain⟨ob,ho⟩:=AH hj;obtain⟨k1,k2⟩:=hdel j ob ho;exact⟨Sm h (cz k2) hb,h.sep j k b k1 (cz k2) hlk hb⟩) hg vs W.ag W.as y us hlen hrel b2 b1 hy;have hE:ErrG P (λb=>All F w b/\¬p.σ k b) w:=(Eg hG h hL).of λb hb _=>⟨⟨Kb hb,hb.2.2.2 k hlk⟩,rfl⟩;unfold Oper.wp;rw[hr,wz];refine (hw.2 (λb=>All F w b/\¬p.σ k b) w (p.β k) x us y (p.σ k) hE (λb hb=>hb.1.1) (λb hb=>⟨(h.own k b hlk hb).1,λhi=>hi.2 hb⟩) (sY _ hw.1 _ _ _ (h.objs k _ hg)) hargs hv).mono λe w' ⟨S',e1,e2,e4,e5⟩=>?_;subst e1;obtain⟨p1,t1,t2,t3⟩:=D5 h hL hg (S':=S') (R:=λ_=>False) (A:=Imm F p M w) (λb hb=>hb) e2 (λb hb=>hb.elim) (λb hb=>⟨e4 b hb,λh=>h⟩) (sY _ hw.1 _ _ _ e5);have h3:=Tr.drop t1.hp (λ_=>False) (λb hb=>hb.elim);refine⟨_,rfl,⟨p1.β,p1.σ,λ_=>False⟩,?_,λb hb=>hb,?_,λhfr _=>?_⟩
 ·have h4:=t1.trans h3;simpa only [ap,tA]using h4
 ·simp only[aj,cH];exact⟨[],rfl,rfl⟩
 ·simp[dv]at hfr
theorem H_(hG:lI P F)(h:Hp F p M w)(hL:∀b,¬p.L b){W:Wu}(hw:WuOk P f W)(vs:cK)(us0:aJ)(hlen:us0.length=vs.length)(hrel:∀(i:Nat) v u,vs[i]? = some v->us0[i]? = some u->aj p.β M (Imm F p M w) w v u)(hr:(execOp a.eval o).run P w=.ok (.enter f us0.toArray) w)(hv:ab (EE W d vs M).vc)(qt:bC)(Q:gL):o.wp P a w (λa' w'=>∃v,a'=a.put o.dst v/\cu F p M w qt (EE W d vs M) v w') Q:=by
 have h:False/\True:=hv;exact h.1.elim
theorem RY(hG:lI P F)(h:Hp F p M w)(hL:∀b,¬p.L b)(hspec:vT P f ct)(vs:cK)(us:aJ)(hlen:us.length=vs.length)(hrel:∀(i:Nat) v u,vs[i]? = some v->us[i]? = some u->aj p.β M (Imm F p M w) w v u)(hr:(execOp a.eval o).run P w=.ok (.enter f us.toArray) w)(hv:ab (qc ct d vs M).vc)(qt:bC)(Q:gL):o.wp P a w (λa' w'=>∃v,a'=a.put o.dst v/\cu F p M w qt (qc ct d vs M) v w') Q:=by
 unfold qc at hv⊢;unfold vT at hspec
 cases hs:shp vs ct.ga with
 |false=>rw[hs]at hv;exact hv.1.elim
 |true=>
  simp only[hs,aD]at hv⊢
  cases hsh:ct.sh with
  |false=>
   simp only[hsh]at hv⊢;split at hv
   ·rename_i x hx;generalize hN:newL d 0 ct.rt (ct.res x)=q at hv⊢;obtain⟨v,N,j'⟩:=q;simp only at hv⊢;unfold Oper.wp;rw[hr,wz];refine (hspec (All F w) w _ x (adg hG h) (λb hb=>hb.1) (QL h _ _ _ _ _ hlen hrel hs hx) hv).mono λe w' ⟨rs,S,he1,he2,he3,he4⟩=>?_;subst he1;obtain⟨p',t1,t2,t3,t4⟩:=RX h hL ct d x (A:=All F w) (λh=>by rw[hsh]at h;cases h) he2 he3 he4 hN;exact⟨_,rfl,p',t1,t2,t3,λhfr _=>t4 hfr⟩
   ·exact hv.1.elim
  |true=>
   simp only[hsh]at hv⊢;have hfz:=AL vs M h;have hff:=SF vs M;generalize eN M vs=z at hv hfz hff⊢;obtain⟨e0,M1⟩:=z;simp only at hv hfz hff⊢;split at hv
   ·rename_i x hx;generalize hN:newL d 0 ct.rt (ct.res x)=q at hv⊢;obtain⟨v,N,j'⟩:=q;simp only at hv⊢;unfold Oper.wp;rw[hr,wz]
    have hrel1:∀(i:Nat) v u,(gv e0 vs)[i]? = some v->us[i]? = some u->aj p.β M1 (Imm F p M1 w) w v u:=λi v u hv hu=>by
     rw[A4]at hv
     cases hx:vs[i]? with
     |none=>rw[hx]at hv;cases hv
     |some v0=>rw[hx]at hv;simp only[dX,aG]at hv;subst hv;exact hfz.s _ _ (hrel i v0 u hx hu)
    refine (hspec (Imm F p M1 w) w _ x (Eg hG hfz.hp hL) (λb hb=>hb.1) (ED hfz.hp _ _ _ _ _ (by rw[qV];exact hlen) hrel1 (by rw[DR];exact hs) hx) hv).mono λe w' ⟨rs,S,he1,he2,he3,he4⟩=>?_;subst he1;obtain⟨p',t1,t2,t3,t4⟩:=RX hfz.hp hL ct d x (A:=Imm F p M1 w) (λ_ b hb=>hb) he2 he3 he4 hN;refine⟨_,rfl,p',hfz.trans t1,t2,t3,λhfr _=>?_⟩;rcases hff with⟨rfl,rfl⟩|⟨y,r,rfl,hy⟩
    ·exact t4 hfr
    ·exfalso;rw[show ap (y::r) (klL (bJ N))=y::ap r (klL (bJ N))from rfl]at hfr;rw[Dx hy]at hfr;cases hfr
   ·exact hv.1.elim
theorem Pi(hΦ:iF P F Φ)(h:Hp F p M w)(hL:∀b,¬p.L b)(hf:Φ f=some ct)(vs:cK)(us:aJ)(hlen:us.length=vs.length)(hrel:∀(i:Nat) v u,vs[i]? = some v->us[i]? = some u->aj p.β M (Imm F p M w) w v u)(hr0:(∀args w,(callFunc f args).run P w=.ok (.enter f args) w)->(execOp a.eval o).run P w=.ok (.enter f us.toArray) w)(hv:ab (oq ct d vs M).vc)(qt:bC)(Q:gL):o.wp P a w (λa' w'=>∃v,a'=a.put o.dst v/\cu F p M w qt (oq ct d vs M) v w') Q:=by
 obtain⟨hΦ,hG⟩:=hΦ;obtain⟨hcall,hspec⟩:=hΦ f ct hf;have hr:=hr0 hcall;unfold oq at hv⊢
 cases hmu:ct.mu with
 |some mu=>
  cases mu with
  |o O=>simp only[hmu]at hv hspec⊢;unfold Oper.wp;rw[hr,wz];refine (hspec F p M w vs us hG h hL hlen hrel hv).mono λe w' ⟨r,h1,p',h2,h3,h4,h5⟩=>?_;subst h1;exact⟨_,rfl,p',h2,h3,h4,λhfr _=>h5 hfr rfl⟩
  |m m=>simp only[hmu]at hv hspec⊢;exact E' hG h hL hspec _ _ hlen hrel hr hv qt Q
  |w W=>simp only[hmu]at hv hspec⊢;exact Z0 hG h hL hspec _ _ hlen hrel hr hv qt Q
  |s s=>simp only[hmu]at hv;exact hv.1.elim
  |a W=>simp only[hmu]at hv hspec⊢;exact Zv hG h hL hspec _ _ hlen hrel hr hv qt Q
  |k W=>simp only[hmu]at hv hspec⊢;exact H_ hG h hL hspec _ _ hlen hrel hr hv qt Q
  |c W=>simp only[hmu]at hv hspec⊢;exact W' hG h hL hspec _ _ hlen hrel hr hv qt Q
  |v l=>
   simp only[hmu]at hv hspec⊢
   cases hp:xY M vs l with
   |none=>rw[hp]at hv;exact hv.1.elim
   |some q=>simp only[hp]at hv⊢;exact RY hG h hL (hspec q (A_ hp)) _ _ hlen hrel hr hv qt Q
 |none=>simp only[hmu]at hv hspec⊢;exact RY hG h hL hspec _ _ hlen hrel hr hv qt Q
theorem xw{q:Nat×Operand}(h:q∈ps.toList):q.2∈bq.snds (toL ps):=by
 rw[ds];generalize ps.toList=l at h
 induction l with
 |nil=>cases h
 |cons x l ih=>
  obtain⟨i,y⟩:=x;simp only[bq.snds];rcases cQ.1 h with rfl|h
  ·simp
  ·exact oV _ (ih h)
theorem ZF(hB:TabOk P B)(h:Hp F p M w)(hL:∀b,¬p.L b)(dst:fu)(x:V)(u:bm)(hx:aj p.β M (Imm F p M w) w x u)(hv:ab (mc (B.τ t) M dst x).vc)(qt:bC):
  ∃r,(Instr.loadAt t u).run P w=.ok r w/\cu F p M w qt (mc (B.τ t) M dst x) r w:=by
 unfold mc at hv⊢;obtain⟨r,h1,h2⟩:=OW hB h _ _ hx hv;exact⟨r,h1,cu.pure h hL h2 _⟩
theorem adp{r:Nat}(q:Ob)(M':Mem)(hc:qZ gid r π M=some (q,[],M')):False:=by
 unfold qZ at hc
 cases hok:neg (eo r gid)with
 |true=>rw[hok]at hc;cases hc
 |false=>
  rw[hok]at hc;simp only[bp]at hc
  cases hg:go M r with
  |none=>rw[hg]at hc;cases hc
  |some ob=>
   rw[hg]at hc;simp only at hc
   cases hq:get π ob.o ob.x with
   |none=>rw[hq]at hc;cases hc
   |some q0=>
    rw[hq]at hc
    cases π with
    |nil=>cases hc
    |cons s π=>
     simp only at hc
     cases hh:r9 (s::π)with
     |true=>rw[hh]at hc;cases hc
     |false=>rw[hh]at hc;simp only[bp]at hc;split at hc<;>cases hc
theorem aaz(hB:TabOk P B)(h:Hp F p M w)(hL:∀b,¬p.L b)(ρ:eD)(x:eO)(lo hi:qi)(hx:aj p.β M (Imm F p M w) w (ρ x) (a.eval x))(hlo:∀y,lo=some y->aj p.β M (Imm F p M w) w (ρ y) (a.eval y))(hhi:∀y,hi=some y->aj p.β M (Imm F p M w) w (ρ y) (a.eval y))(hv:ab (vC B (B.τ t) ρ x lo hi M).vc)(qt:bC)(ho:o.op=.slice t x lo hi none):∃v w',(execOp a.eval o).run P w=.ok (.value v) w'/\cu F p M w qt (vC B (B.τ t) ρ x lo hi M) v w':=by
 unfold vC at hv⊢;split at hv
 ·rename_i r π hr;split at hv
  ·rename_i q e M' hc;rw[hr]at hx;have hx1:Ref p.β M w r π [a.eval x]:=by have:=hx;simp only[aj,ac]at this;exact this
   obtain⟨_,p1,S,cv⟩:=QK h gid r π [a.eval x] q e M' hx1 hc;have td:=Tr.drop cv.tr.hp (λb=>p.L b) (λb hb=>(cv.L b).2 (.inl hb));have tt:Tr F p M w e ⟨p1.β,p1.σ,λb=>p.L b⟩ M' w:=by have:=cv.tr.trans td;rwa [tA]at this
   have hrel:aj p1.β M' (Imm F ⟨p1.β,p1.σ,λb=>p.L b⟩ M' w) w (.d q.o.strip q.x) (a.eval x):=by rw[bn];refine Rel.frz (λb hb=>(td.keep b hb).1) q.o q.x S [a.eval x] (λb hb=>?_) cv.rel;have hl:=cv.tr.hp.lim b ((cv.L b).2 (.inr hb));exact⟨hl.1,.inr hl.2.1.r,λh=>cv.sp b hb h,hl.2.2⟩
   obtain⟨u,h1,h2⟩:=Sg (p:=⟨p1.β,p1.σ,λb=>p.L b⟩) (M:=M') hB (x0:=x) (lo0:=lo) (hi0:=hi) _ (λy=>(ρ y).evs e) hrel (λy hy=>tt.s _ _ (hlo y hy)) (λy hy=>tt.s _ _ (hhi y hy)) hv;refine⟨u,w,by simp[execOp,ho,h1],_,tt,hL,h2,λhf _=>?_⟩;exfalso;rcases cv.fr with⟨e1,_,_⟩|⟨y,r',e1,e2⟩
   ·subst e1;exact adp q M' hc
   ·subst e1;have:=Dx (M:=M) (r:=r') e2;rw[this]at hf;cases hf
  ·exact hv.1.elim
 ·obtain⟨u,h1,h2⟩:=Sg hB (x0:=x) (lo0:=lo) (hi0:=hi) _ ρ hx hlo hhi hv;exact⟨u,w,by simp[execOp,ho,h1],cu.pure h hL h2 _⟩
theorem ae4(hB:TabOk P B)(h:Hp F p M w)(hL:∀b,¬p.L b)(d:fu)(ρ:eD)(x:eO)(lo hi:qi)(hx:aj p.β M (Imm F p M w) w (ρ x) (a.eval x))(hlo:∀y,lo=some y->aj p.β M (Imm F p M w) w (ρ y) (a.eval y))(hv:ab (rB B (B.τ t) d ρ x lo hi M).vc)(qt:bC)(ho:o.op=.slice t x lo hi none):∃v w',(execOp a.eval o).run P w=.ok (.value v) w'/\cu F p M w qt (rB B (B.τ t) d ρ x lo hi M) v w':=by
 unfold rB at hv⊢;split at hv
 ·rename_i r d ki n e hr hlo0 he
  obtain⟨y,rfl,hy⟩:∃y,lo=some y/\ρ y=.d (.int ki) n:=by
   cases lo with
   |none=>cases hlo0
   |some y=>simp only[gm,aG]at hlo0;exact⟨y,rfl,hlo0⟩
  split at hv
  ·rename_i oo l hg
   cases hk:aP [eo r d,(B.τ t).ok,(B.τ e).ok,cy oo.strip.size (B.τ e).size]with
   |false=>rw[hk]at hv;exact hv.1.elim
   |true=>
    simp only[hk,aD,e9,eY,aA]at hv⊢;simp only[bQ,bT,bM,ao,eZ,cR]at hk;obtain⟨k0,k1,k2,k3⟩:=hk;obtain⟨hne,hgid⟩:=sW (r:=r) (k:=d) (by rw[k0];rfl);have eτ:=hB.τ t k1;have eτ':=hB.τ e k2;rw[←eτ]at k1 he;rw[←eτ']at k2 k3;obtain⟨inf,u,hi',hu⟩:=dQ k1;obtain⟨infe,ue,hie,hue⟩:=dQ k2;rw[dB hi' hu]at he;rw[dB hie hue]at k3;simp only[eL]at he k3;cases u<;>simp at he;obtain rfl:=he.symm;have h1:=hlo y rfl;rw[hy,bn,dZ]at h1;rw[hr]at hx;simp only[aj,ac]at hx;obtain⟨ob,pl,q1,q2,q3,q4⟩:=hx;rw[hg]at q1;cases q1;simp only[res,aG,bS,bH,aA]at q4;have hvβ:=q4.1;have hrel:=h.objs r _ hg;rw[hvβ]at hrel;have hrel0:=hrel;simp only[Rel,bH,aA]at hrel;obtain⟨v',ety,xs,T,rfl,r2,r3,r4,r5,r6,r7⟩:=hrel;have hel:P.elem t=e:=by simp[Program.elem,hu]
    have hu':P.underlying t=some (.slice (P.elem t)):=by rw[hel];exact hu
    have hsz:(sizeOf (P.elem t)).run P w=.ok infe.size w:=by rw[hel];simp[sizeOf,typeInfo,hie]
    have hn0:(0:Int)<=n:=hv.1;have hnl:n<=(l.length:Int):=hv.2;have hnn:n.toNat<=l.length:=tn1 hnl
    obtain⟨oa,cap,hsl,hcap⟩:∃oa cap,a.eval x=.slice oa l.length cap/\l.length<=cap:=by
     rcases uU r2 with⟨hn,oa,hs⟩|⟨g,off,c,cur,hs,_,hc,_⟩
     ·exact⟨oa,0,by rw[hs,hn],aa⟩
     ·exact⟨_,_,hs,hc⟩
    have hrun:(execOp a.eval o).run P w=.ok (.value (sliced oa n.toNat l.length cap infe.size)) w:=by
     have:(Instr.sliceAt t (a.eval x) (some (a.eval y)) none none).run P w=.ok (sliced oa n.toNat l.length cap infe.size) w:=by rw[run_sliceAt_slice w t _ _ _ _ hu',hsl,h1.1,run_slice_l w t oa l.length cap hu' ki n hn0 hnl,hsz];rfl
     simp[execOp,ho,this]
    have c2:=Cv.whole h d hg hgid;obtain⟨hk1,hk2⟩:=Hp.del c2.tr.hp d;have hxl:xs.length=l.length*oo.size:=r2.1;have hos:oo.size=infe.size:=k3
    -- the row that begins later
    have hnew:l7 w ety oo.size (sliced oa n.toNat l.length cap infe.size) (l.drop n.toNat).length (xs.drop (n.toNat*oo.size))/\∀b,dI (sliced oa n.toNat l.length cap infe.size)=some b->dI (a.eval x)=some b:=by
     rcases uU r2 with⟨hn,oa',hs⟩|⟨g,off,c,cur,hs,hg1,hc1,hc2,hc3,hc4⟩
     ·rw[hs]at hsl;simp only[Value.slice.injEq]at hsl;obtain⟨rfl,_,rfl⟩:=hsl;have hz:n.toNat=0:=aa
      have hl0:l=[]:=iS hn;subst hl0;rw[hz];simp only[sliced,eX,List.drop_nil,aM,yO,Nat.zero_mul,List.drop_zero];have hxs:xs=[]:=iS (by simpa using hxl);rw[hxs];exact⟨Rv w ety _ _,λb hb=>by cases oa'<;>cases hb⟩
     ·rw[hs]at hsl;simp only[Value.slice.injEq]at hsl;obtain⟨rfl,_,rfl⟩:=hsl;have hdl:(xs.drop (n.toNat*oo.size)).length=(l.drop n.toNat).length*oo.size:=by rw[iz,iz,hxl,Nat.sub_mul]
      by_cases hce:c+1=n.toNat
      ·have hll:l.length=n.toNat:=aa
       have e0:(l.drop n.toNat).length=0:=by rw[iz];omega
       simp only[sliced,am hce];rw[show l.length-n.toNat=0 by omega,show c+1-n.toNat=0 by omega];refine⟨⟨hdl,.inl ⟨e0,_,rfl⟩⟩,λb hb=>by cases hb⟩
      ·simp only[sliced,ai hce,dX];rw[qw];obtain⟨m,hm⟩:∃m,c+1-n.toNat=m+1:=⟨c-n.toNat,aa⟩;rw[hm];refine⟨⟨hdl,.inr ⟨g,off+n.toNat*infe.size,m,cur,by rw[iz],hg1,by rw[iz];omega,aa,?_,?_⟩⟩,λb hb=>by rw[hs];exact hb⟩
       ·rw[hc3,←hm,hos,Nat.sub_mul];have:n.toNat*infe.size<=(c+1)*infe.size:=kw _ aa;omega
       ·rw[←hc4,Cl,wj,hos,iz,Nat.sub_mul]
    obtain⟨o1,o2⟩:=hnew;have hσ:∀b,p.σ r b->p.L b\/p.σ r b:=λb hb=>.inr hb;have hld:∀i,(l.drop n.toNat)[i]? = l[n.toNat+i]?:=λi=>g8;refine⟨_,w,hrun,cu.appQ (r:=⟨_,.ref d [],[.kl r,.kl d],_⟩) (p':=_) (c2.tr.trans ((Tr.kl c2.tr.hp d).trans (Tr.new (w':=w) hk1 d (fU d _) (sliced oa n.toNat l.length cap infe.size) (p.σ r) ⟨.sl oo,l.drop n.toNat⟩ ⟨rfl,⟨rfl,aZ _⟩,rfl,aZ _,λ_ _ _=>rfl⟩ (λb hb=>.inr (.inr hb)) (λhkp=>?_)))) (λb hb=>hb) ?_ ?_⟩
    ·simp only[Rel];refine⟨_,ety,_,λi=>T (n.toNat+i),rfl,o1,by rw[iz];omega,λb hb=>r4 b (o2 b hb),λi c hc=>⟨(r5 _ c hc).1,λe=>(r5 _ c hc).2 (o2 c e)⟩,λi j c hij=>r6 _ _ c aa,λi z hz=>?_⟩;rw[hld]at hz;have:=r7 _ z hz;rw[wj,←jk];exact Rel.keep ((c2.tr.keep.trans (Tr.kl c2.tr.hp d).keep).trans hkp) _ _ _ _ (λ_ _=>rfl) this
    ·simp only[aj,ac];refine⟨⟨.sl oo,l.drop n.toNat⟩,none,mY _ _ _,by simp only[gok],⟨⟨.sl oo,l.drop n.toNat⟩,by simp only[get]⟩,?_⟩;rw[uW];simp only[res]
    ·show dv M [.kl r,.kl d]=false;simp[dv,hg,isN]
  ·exact hv.1.elim
 ·exact hv.1.elim
theorem aa1(hB:TabOk P B)(h:Hp F p M w)(hL:∀b,¬p.L b)(d:fu)(ρ:eD)(x:eO)(lo hi:qi)(hx:aj p.β M (Imm F p M w) w (ρ x) (a.eval x))(hlo:∀y,lo=some y->aj p.β M (Imm F p M w) w (ρ y) (a.eval y))(hhi:∀y,hi=some y->aj p.β M (Imm F p M w) w (ρ y) (a.eval y))(hv:ab (kK B t d ρ x lo hi M).vc)(qt:bC)(ho:o.op=.slice t x lo hi none):∃v w',(execOp a.eval o).run P w=.ok (.value v) w'/\cu F p M w qt (kK B t d ρ x lo hi M) v w':=by
 unfold kK at hv⊢
 cases hn:nsT (B.σ t)with
 |true=>simp only[hn,aD]at hv⊢;exact ae4 hB h hL d ρ x lo hi hx hlo hv qt ho
 |false=>simp only[hn,bp]at hv⊢;exact aaz hB h hL ρ x lo hi hx hlo hhi hv qt ho
theorem abt(hΦ:iF P F Φ)(hB:TabOk P B)(h:Hp F p M w)(hL:∀b,¬p.L b)(o:bR)(ρ:eD)(hρ:∀x∈bq o.op,aj p.β M (Imm F p M w) w (ρ x) (a.eval x))(hv:ab (bP B Φ o ρ M).vc)(Q:gL):
  o.wp P a w (λa' w'=>∃v,a'=a.put o.dst v/\cu F p M w (gb o) (bP B Φ o ρ M) v w') Q:=by
 have pure_ok:∀{q:Cb} {r:bm},(execOp a.eval o).run P w=.ok (.value r) w->aj p.β M (Imm F p M w) w q.2 r->o.wp P a w (λa' w'=>∃v,a'=a.put o.dst v/\cu F p M w (gb o) (ck q M) v w') Q:=λhr hx=>E6 hr ⟨_,rfl,cu.pure h hL hx _⟩;have val_ok:∀{r:Rs},(∃v w',(execOp a.eval o).run P w=.ok (.value v) w'/\cu F p M w (gb o) r v w')->o.wp P a w (λa' w'=>∃v,a'=a.put o.dst v/\cu F p M w (gb o) r v w') Q:=λ⟨v,w',hr,hd⟩=>E6 hr ⟨_,rfl,hd⟩;obtain⟨dst,op,ty',pos,after,guard⟩:=o;cases op
 case move x=>exact pure_ok (r:=a.eval x) (by simp[execOp]) (hρ x (by simp[bq]))
 case assign x=>exact pure_ok (r:=a.eval x) (by simp[execOp]) (hρ x (by simp[bq]))
 case nilCheck x=>simp only[bP,ck]at hv;obtain⟨⟨ad,h1⟩,h2⟩:=abq _ _ (hρ x (by simp[bq])) hv;exact pure_ok (r:=a.eval x) (by simp[execOp,h1]) h2
 case load t x=>simp only[bP]at hv⊢;obtain⟨r,h1,h2⟩:=ZF hB h hL dst _ _ (hρ x (by simp[bq])) hv (gb { dst:=dst,op:=.load t x,type:=ty',pos:=pos,after:=after,guard:=guard });exact val_ok ⟨r,w,by simp[execOp,h1],h2⟩
 case fieldAddr t x i=>simp only[bP,ck]at hv;obtain⟨r,h1,h2⟩:=a_ hB h _ _ (hρ x (by simp[bq])) hv;exact pure_ok (r:=r) (by simp[execOp,h1]) h2
 case field t x i=>simp only[bP,ck]at hv;obtain⟨r,h1,h2⟩:=aay hB h _ _ (hρ x (by simp[bq])) hv;exact pure_ok (r:=r) (by simp[execOp,h1]) h2
 case indexAddr t x i=>simp only[bP,ck]at hv;obtain⟨r,h1,h2⟩:=R_ hB h _ _ _ _ (hρ x (by simp[bq])) (hρ i (by simp[bq])) hv;exact pure_ok (r:=r) (by simp[execOp,h1]) h2
 case index t x i=>simp only[bP,ck]at hv;obtain⟨r,h1,h2⟩:=ack hB t _ _ _ _ (hρ x (by simp[bq])) (hρ i (by simp[bq])) hv;exact pure_ok (r:=r) (by simp[execOp,h1]) h2
 case binOp op t x y yt=>simp only[bP,ck]at hv;obtain⟨r,h1,h2⟩:=f_ hB op t x y _ _ _ _ _ _ (k_ a y) (h_ a y) (hρ x (by simp[bq])) (hρ y (by simp[bq])) hv;refine pure_ok (r:=r) ?_ h2;simp only[execOp,gU,oS]at h1⊢;rw[h1];rfl
 case unOp op t x=>simp only[bP,ck]at hv;obtain⟨r,h1,h2⟩:=acl (P:=P) op _ _ (hρ x (by simp[bq])) hv;exact pure_ok (r:=r) (by simp[execOp,h1]) h2
 case convert s d x=>simp only[bP,ck]at hv;obtain⟨r,h1,h2⟩:=Zs hB h s d _ _ (hρ x (by simp[bq])) hv;exact pure_ok (r:=r) (by simp[execOp,h1]) h2
 case extract x i=>simp only[bP,ck]at hv;obtain⟨r,h1,h2⟩:=U_ (P:=P) _ i _ (hρ x (by simp[bq])) hv;exact pure_ok (r:=r) (by simp[execOp,h1]) h2
 case slice t x lo hi mx=>
  cases mx with
  |some _=>simp only[bP]at hv;exact hv.1.elim
  |none=>simp only[bP]at hv⊢;exact val_ok (aa1 hB h hL dst ρ x lo hi (hρ x (by simp[bq])) (λy hy=>hρ y (by subst hy;simp[bq,bq.optL,ap])) (λy hy=>hρ y (by subst hy;simp[bq,bq.optL,fB])) hv _ rfl)
 case alloc e=>simp only[bP]at hv⊢;exact val_ok (acg hB h hL dst hv _ rfl)
 case box e x=>simp only[bP]at hv⊢;exact val_ok (abj h hL dst _ x (hρ x (by simp[bq])) hv _ rfl)
 case build t parts=>simp only[bP]at hv⊢;exact val_ok (Z9 hB h hL ρ (λq hq=>hρ q.2 (xw hq)) hv _ rfl)
 case buildSlice t n parts=>simp only[bP]at hv⊢;exact val_ok (aat hB h hL ρ (λq hq=>hρ q.2 (xw hq)) dst hv _ rfl)
 case makeSlice t l c=>simp only[bP]at hv⊢;exact val_ok (c_ hB h hL _ _ (hρ l (by simp[bq])) (hρ c (by simp[bq])) dst hv _ rfl)
 case makeFunc fn fs cs=>
  simp only[bP,ck]at hv;have hlen:(cs.toList.map a.eval).length=(gw ρ cs.toList).length:=by rw[D8,d5]
  unfold EP at hv;split at hv
  ·rename_i f c hf hc;have hfs:fs=#[]:=by apply mM;rw[ds]at hf;simpa using hf
   subst hfs;rw[ds]at hc
   have hrc:=QZ h (gw ρ cs.toList) (cs.toList.map a.eval) c hlen (λi v u hv hu=>by
    rw[D6]at hv;rw[fQ]at hu
    cases hx:cs.toList[i]? with
    |none=>rw[hx]at hv;cases hv
    |some x=>rw[hx]at hv hu;simp only[dX,aG]at hv hu;subst hv;subst hu;exact hρ x (by simp only[bq,ds,fB];exact oU _ (uk hx))) hc
   refine pure_ok (r:=.func (.func f) #[] (cs.toList.map a.eval).toArray) (by
    have e:(cs.toList.map a.eval).toArray=cs.map a.eval:=by apply mM;simp
    rw[e];simp[execOp,Instr.makeFunc]) ?_
   have hev:EP M (.func f) (toL #[]) (gw ρ (toL cs))=bw (.fn f c):=by unfold EP;rw[ds,ds,hc]
   rw[hev];simp only[bw,aj,ac];exact⟨_,rfl,hrc⟩
  ·exact hv.1.elim
 case store t x y=>simp only[bP]at hv;simp only[bP];obtain⟨w',hr,hd⟩:=aa3 hB h hL (op:={ dst:=dst,op:=.store t x y,type:=ty',pos:=pos,after:=after,guard:=guard }) _ _ (hρ x (by simp[bq])) (hρ y (by simp[bq])) hv rfl;exact PY hr ⟨_,rfl,hd⟩
 case lookup t x i ok=>simp only[bP,ck]at hv;obtain⟨r,h1,h2⟩:=G' hB h _ _ _ _ ok (hρ x (by simp[bq])) (hρ i (by simp[bq])) hv;exact pure_ok (r:=r) (by simp[execOp,h1]) h2
 case makeMap t rs=>
  cases rs with
  |some _=>simp only[bP]at hv;exact hv.1.elim
  |none=>simp only[bP]at hv⊢;obtain⟨r,w',h1,h2⟩:=ZB hB h hL dst hv (gb { dst:=dst,op:=.makeMap t none,type:=ty',pos:=pos,after:=after,guard:=guard });exact val_ok ⟨r,w',by simp[execOp,h1],h2⟩
 case mapUpdate t m i x=>simp only[bP]at hv⊢;obtain⟨w',hr,hd⟩:=ZC hB h hL _ _ _ _ _ _ (hρ m (by simp[bq])) (hρ i (by simp[bq])) (hρ x (by simp[bq])) hv;exact PY (by simp[execOp,hr]) ⟨_,rfl,hd⟩
 case makeInterface t x=>simp only[bP,ck]at hv;obtain⟨r,h1,h2⟩:=aa5 hB h _ _ (hρ x (by simp[bq])) hv;exact pure_ok (r:=r) (by simp[execOp,h1]) h2
 case typeAssert x xt i ok=>simp only[bP,ck]at hv;obtain⟨r,h1,h2⟩:=aa8 hB (xt:=xt) ok _ _ (hρ x (by simp[bq])) hv;exact pure_ok (r:=r) (by simp[execOp,h1]) h2
 case call c=>
  obtain⟨callee,args,argTypes⟩:=c;simp only[bq,ds]at hρ;have hρa:∀x∈args.toList,aj p.β M (Imm F p M w) w (ρ x) (a.eval x):=λx hx=>hρ x (by rw[fB];exact oU _ hx);simp only[bP,ds]at hv⊢;split at hv
  ·split at hv
   ·rename_i x t ha ht;have ha':args=#[x]:=by apply mM;simpa using ha
    have ht':argTypes=#[t]:=by apply mM;simpa using ht
    subst ha';subst ht';simp only[ck]at hv;obtain⟨r,h1,h2⟩:=aba hB (ty':=ty') h _ _ (hρa x ak) hv;refine pure_ok (r:=r) ?_ h2;simp[execOp,resolve,invoke,builtin,h1]
   ·exact hv.1.elim
  ·split at hv
   ·rename_i x y ha;have ha':args=#[x,y]:=by apply mM;simpa using ha
    subst ha';simp only[ck]at hv;obtain⟨r,h1,h2⟩:=Rz (P:=P) true argTypes ty' _ _ _ _ (hρa x ak) (hρa y ak) hv;exact pure_ok (r:=r) (by simp only[aD]at h1;simp[execOp,resolve,invoke,builtin,h1]) h2
   ·exact hv.1.elim
  ·split at hv
   ·rename_i x y ha;have ha':args=#[x,y]:=by apply mM;simpa using ha
    subst ha';simp only[ck]at hv;obtain⟨r,h1,h2⟩:=Rz (P:=P) false argTypes ty' _ _ _ _ (hρa x ak) (hρa y ak) hv;exact pure_ok (r:=r) (by simp only[bp]at h1;simp[execOp,resolve,invoke,builtin,h1]) h2
   ·exact hv.1.elim
  ·split at hv
   ·rename_i x y t t' ha ht;have ha':args=#[x,y]:=by apply mM;simpa using ha
    have ht':argTypes=#[t,t']:=by apply mM;simpa using ht
    subst ha';subst ht';simp only[dP]at hv⊢;split at hv
    ·rename_i e;subst e;rw[am rfl];obtain⟨v',w',hr,hd⟩:=aak hB (ty':=ty') h hL dst _ _ _ _ (hρa x ak) (hρa y ak) hv;exact E6 (v:=v') (w':=w') (by simp[execOp,resolve,invoke,builtin,hr]) ⟨_,rfl,hd⟩
    ·exact hv.1.elim
   ·exact hv.1.elim
  ·rename_i cx;split at hv
   ·rename_i f c d hfn;split at hv
    ·rename_i ct cs hf hcs;obtain⟨us,hcx,hcr⟩:=aft (hρ cx (by rw[fB];exact jH _ (by simp[bq.calO]))) hfn;obtain⟨cl,crel⟩:=So h c us cs hcr hcs;have hal:(args.toList.map a.eval).length=(gw ρ args.toList).length:=by rw[D8,d5]
     refine Pi hΦ h hL hf (o:={ dst:=some d,op:=.call { callee:=.value cx,args:=args,argTypes:=argTypes },type:=ty',pos:=pos,after:=after,guard:=guard }) (ap (gw ρ args.toList) cs) (args.toList.map a.eval++us) (by rw[fB,bj,bj,hal,cl]) (λi v u hv hu=>?_) (λhc=>?_) hv _ Q
     ·rw[fB]at hv;by_cases hi:i<(gw ρ args.toList).length
      ·rw[g9 hi]at hv;rw[g9 aa]at hu;rw[D6]at hv;rw[fQ]at hu
       cases hx:args.toList[i]? with
       |none=>rw[hx]at hv;cases hv
       |some x=>rw[hx]at hv hu;simp only[dX,aG]at hv hu;subst hv;subst hu;exact hρa x (uk hx)
      ·rw[jD aa]at hv;rw[jD aa]at hu;rw[hal]at hu;exact crel _ v u hv hu
     ·have e:(args.toList.map a.eval++us).toArray=args.map a.eval++us.toArray:=by apply mM;simp
      rw[e];have hc1:=hc (args.map a.eval++us.toArray) w;simp[execOp,resolve,hcx,Deferred.ofValue,invoke,hc1]
    ·exact hv.1.elim
   ·exact hv.1.elim
  ·rename_i rc name;split at hv
   ·rename_i t v d hin;split at hv
    ·rename_i f hfm;split at hv
     ·rename_i ct hf;obtain⟨y,hy,hyr⟩:=Tc (hρ rc (by rw[fB];exact jH _ (by simp[bq.calO]))) hin;have hal:(args.toList.map a.eval).length=(gw ρ args.toList).length:=by rw[D8,d5]
      refine Pi hΦ h hL hf (o:={ dst:=some d,op:=.call { callee:=.invoke rc name,args:=args,argTypes:=argTypes },type:=ty',pos:=pos,after:=after,guard:=guard }) (v::gw ρ args.toList) (y::args.toList.map a.eval) (by simp[hal]) (λi v' u hv hu=>?_) (λhc=>?_) hv _ Q
      ·cases i with
       |zero=>simp only[jG,aG]at hv hu;subst hv;subst hu;exact hyr
       |succ i=>
        simp only[oR]at hv hu;rw[D6]at hv;rw[fQ]at hu
        cases hx:args.toList[i]? with
        |none=>rw[hx]at hv;cases hv
        |some x=>rw[hx]at hv hu;simp only[dX,aG]at hv hu;subst hv;subst hu;exact hρa x (uk hx)
      ·have e:(y::args.toList.map a.eval).toArray=#[y]++args.map a.eval:=by apply mM;simp
       rw[e];have hc1:=hc (#[y]++args.map a.eval) w;obtain⟨k,hk⟩:∃k,P.types.size+Made.depth=k+1:=⟨P.types.size+99,rfl⟩;have hm:=t_ (w:=w) hB.m hfm k y;have e0:(#[Value.iface t y]++args.map a.eval)[0]? = some (Value.iface t y):=by rw[yP Nat.zero_lt_one];rfl
       have e2:(args.map a.eval).extract 0 args.size=args.map a.eval:=by
        have:=Array.extract_size (xs:=args.map a.eval)
        rwa [yQ]at this
       simp only[execOp,resolve,hy];simp[invoke,callMethod,e0,e2,hk,hm,hc1]
     ·exact hv.1.elim
    ·exact hv.1.elim
   ·exact hv.1.elim
  ·exact hv.1.elim
 all_goals exact hv.1.elim
section
variable (hp:Hp F p' M' w')(q:Qt p M p' M' w w')(hL:∀ b,¬ p.L b)
include hp q hL
omit hp in
theorem EL(h:Imm F p' M' w' b):Imm F p M w' b:=by refine⟨h.1,h.2.1,hL b,λj hj=>?_⟩;obtain⟨ob,ho⟩:=AH hj;obtain⟨h1,h2,h3⟩:=q.old j ob ho;rw[←h3];exact h.2.2.2 j (cz h1)
theorem Lb(hk:go M k=none)(hl:bF M' k)(h:p'.σ k b):Imm F p M w' b:=by obtain⟨h1,h2⟩:=hp.own k b hl h;refine⟨h1,h2.elim (λh=>.inr (.inl h.2)) (λh=>.inr h.r),hL b,λj hj=>?_⟩;obtain⟨ob,ho⟩:=AH hj;obtain⟨e1,e2,e3⟩:=q.old j ob ho;rw[←e3];exact hp.sep k j b (λe=>by rw[e,ho]at hk;cases hk) hl (cz e1) h
theorem adl(k:Nat)(π:bA)(vs:aJ)(r:Ref p'.β M' w' k π vs):ac p.β M (Imm F p M w') w' (avF M M' (.ref k π)) vs:=by
 simp only[avF];split
 ·rename_i ob ho;obtain⟨e1,e2,e3⟩:=q.old k ob ho;simp only[ac];obtain⟨ob',pl,k1,k2,k3,k4⟩:=r;rw[e1]at k1;cases k1;exact⟨ob,pl,ho,k2,k3,by rw[←e2];exact k4⟩
 ·rename_i ho;split
  ·rename_i qq hq;obtain⟨ob,g1,g2⟩:=od hq;obtain⟨ob',pl,k1,k2,k3,k4⟩:=r;rw[g1]at k1;cases k1;obtain⟨us,pl',S',e1,e2,e3,_⟩:=look hp g1 k2 g2;rw[e1]at k4;cases k4;exact fG _ _ _ (Rel.frz (λb hb=>EL q hL hb) _ _ S' _ (λb hb=>Lb hp q hL ho (cz g1) (e2 b hb)) e3)
  ·simp only[ac];exact r.one hp
theorem aee(k:Nat)(π:bA)(v:bm)(r:Adr p'.β M' w' k π v):ac p.β M (Imm F p M w') w' (avF M M' (.ad k π)) [v]:=by
 simp only[avF];split
 ·rename_i ob ho;obtain⟨e1,e2,e3⟩:=q.old k ob ho;simp only[ac];obtain⟨ob',us,b,off,k1,k2,k3,k4,k5,k6⟩:=r;rw[e1]at k1;cases k1;exact⟨v,rfl,ob,us,b,off,ho,k2,k3,k4,by rw[←e2];exact k5,k6⟩
 ·rename_i ho;split
  ·rename_i qq hq;obtain⟨ob,g1,g2⟩:=od hq;obtain⟨ob',us0,b0,off0,k1,k2,k3,k4,k5,rfl⟩:=r;rw[g1]at k1;cases k1;obtain⟨us,pl',S',e1,e2,e3,e4,_⟩:=look hp g1 k2 g2;rw[e1]at k5;simp only[aG,bS]at k5;obtain⟨rfl,rfl⟩:=k5;obtain⟨b,off,cur,ty',c1,c2,c3,c4,c5⟩:=e4 k4;simp only[aG,bS]at c1;obtain⟨rfl,rfl⟩:=c1;simp only[ac,ah]
   exact⟨b0,off0,us,rfl,Lb hp q hL ho (cz g1) c2,λj u hu=>by rw[lQ w' b0 _ cur ty' (0,0) c4];exact c5 j u hu,
    Rel.frz (λb hb=>EL q hL hb) _ _ S' _ (λb hb=>Lb hp q hL ho (cz g1) (e2 b hb)) e3⟩
  ·simp only[ac];intro u hu;rw[cP.1 hu];exact r.one
theorem uQ:(v:V)->(vs:aJ)->ac p'.β M' (Imm F p' M' w') w' v vs->ac p.β M (Imm F p M w') w' (avF M M' v) vs
 |.p a b,vs,r=>by simp only[ac]at r;simp only[avF,ac];obtain⟨va,vb,h1,h2,h3⟩:=r;exact⟨va,vb,h1,uQ a va h2,uQ b vb h3⟩
 |.u,vs,r=>by simpa only [avF,ac]using r
 |.ref k π,vs,r=>by simp only[ac]at r;exact adl hp q hL k π vs r
 |.ad k π,vs,r=>by simp only[ac]at r;obtain⟨v,rfl,r⟩:=r;exact aee hp q hL k π v r
 |.d t x,vs,r=>by simp only[ac,avF]at r⊢;exact ah.keep (λb hb=>⟨EL q hL hb,rfl⟩) t x vs r
 |.nl,vs,r|.np,vs,r|.any,vs,r=>by simpa only [avF,ac]using r
 |.fn f v,vs,r=>by simp only[ac]at r;simp only[avF,ac];obtain⟨us,h1,h2⟩:=r;exact⟨us,h1,uQ v us h2⟩
 |.bx v,vs,r=>by simp only[ac]at r;simp only[avF,ac];obtain⟨b,o,us,h1,h2,h3,h4⟩:=r;exact⟨b,o,us,h1,EL q hL h2,h3,uQ v us h4⟩
 |.ag _,vs,r|.tup _,vs,r|.gd _ _ _ _,vs,r=>by simp only[ac]at r
 |.ifc t v,vs,r=>by simp only[ac]at r;simp only[avF,ac];obtain⟨u,h1,h2⟩:=r;exact⟨u,h1,uQ v [u] h2⟩
mutual
theorem Uh:(v:V)->(u:bm)->aj p'.β M' (Imm F p' M' w') w' v u->aj p.β M (Imm F p M w') w' (avF M M' v) u
 |.any,u,r=>by simp only[avF,aj]
 |.ag v,u,r=>by simp only[avF,aj]at r⊢;obtain⟨vs,h1,h2⟩:=r;exact⟨vs,h1,uQ hp q hL v vs h2⟩
 |.tup v,u,r=>by simp only[avF,aj]at r⊢;obtain⟨vs,h1,h2⟩:=r;exact⟨vs,h1,UL v vs h2⟩
 |.gd _ _ _ _,u,r=>by simp only[avF,aj]
 |.ifc t v,u,r|.p a b,u,r|.u,u,r|.ref k π,u,r|.ad k π,u,r|.d t x,u,r|.nl,u,r|.np,u,r|.fn f x,u,r|.bx x,u,r=>by simp only[aj]at r;exact ky (uQ hp q hL _ _ r)
theorem UL:(v:V)->(us:aJ)->cH p'.β M' (Imm F p' M' w') w' v us->cH p.β M (Imm F p M w') w' (avF M M' v) us
 |.p a b,us,r=>by simp only[avF,cH]at r⊢;obtain⟨u,us',h1,h2,h3⟩:=r;exact⟨u,us',h1,Uh a u h2,UL b us' h3⟩
 |.u,us,r=>by simpa only [avF,cH]using r
 |.any,us,r|.ag x,us,r|.tup x,us,r|.gd _ _ _ x,us,r|.ifc t x,us,r|.ref k π,us,r|.ad k π,us,r|.d t x,us,r|.nl,us,r|.np,us,r|.fn f x,us,r|.bx x,us,r=>by simp only[cH]at r
end
end
theorem Fb(h:St F p env M a w)(x:eO)(hx:mw x=true):aj p.β M (Imm F p M w) w (rd env x) (a.eval x):=by
 cases x with
 |tmp t=>simp only[rd,Act.eval];exact h.slots t
 |const v=>
  simp only[rd,Act.eval];simp only[mw]at hx
  cases v with
  |int k n=>simp only[rdV,bn,dZ,aL];simp only[Lr,inKb,bQ,bT,bM,ao,cj]at hx;exact hx
  |bool b=>simp only[rdV,bn,gh]
  |string s=>simp only[rdV,bn,qW,aL];simp only[Lr]at hx;exact ia hx
  |slice o n m=>
   cases o with
   |some _=>simp only[rdV,aj]
   |none=>
    simp only[rdV]
    cases hb:nob (Nat.beq n 0) (Nat.beq m 0)with
    |false=>simp only[bp,aj]
    |true=>simp only[aU,ao]at hb;have h1:=dh hb.1;have h2:=dh hb.2;subst h1;subst h2;simp only[aD,aj,ac];exact⟨none,rfl⟩
  |pointer o=>
   cases o with
   |some _=>simp only[rdV,aj]
   |none=>simp only[rdV,aj,ac]
  |nilIface=>simp only[rdV];rw[bn];simp only[ah];simp
  |_=>simp only[rdV,aj]
 |func f=>simp only[rd,Act.eval,aj,ac];exact⟨[],rfl,rfl⟩
 |global g=>simp only[rd,aj]
theorem Dr(f:eD):∀(l:mJ),ab (ip f l)->∀x∈l,∀j b Q v,f x=.gd j b Q v->Q
 |[],_,x,hx,_,_,_,_,_=>by cases hx
 |y::r,h,x,hx,j,b,Q,v,e=>by
  simp only[ip]at h;rcases cQ.1 hx with rfl|hx
  ·rw[e]at h;exact h.1
  ·split at h
   ·exact Dr f r h.2 x hx j b Q v e
   ·exact Dr f r h x hx j b Q v e
theorem DG{x:eO}(h:aj p.β M (Imm F p M w) w (rd env x) u)(hn:∀j b Q v,rd env x=.gd j b Q v->Q):aj p.β M (Imm F p M w) w (rd env x).strip u:=by
 cases hx:rd env x with
 |gd j b Q v=>rw[hx]at h;simp only[aj]at h;simp only[V.strip];exact h.1 (hn j b Q v hx)
 |_=>rw[hx]at h;exact h
def yB(u:bm):Option Bool:=match u with|.bool b=>some b|_=>none
theorem Fe{β:gM}{Im:aT}:(x:V)->(u:bm)->(want:bC)->gW x=true->aj β M Im w x u->((yB u==some want)=true<->gc x want)
 |.d .bool b,u,want,_,r=>by rw[bn,gh]at r;subst r;simp[yB,gc]
 |.gd j b Q x,u,want,h,r=>by
  simp only[aj]at r;simp only[gW]at h;simp only[gc];by_cases hp:Q
  ·rw[Fe x u want h (r.1 hp)];simp[hp]
  ·rw[r.2 hp];simp[yB,undef,hp]
 |.any,_,_,h,_|.nl,_,_,h,_|.np,_,_,h,_|.u,_,_,h,_|.d (.int _) _,_,_,h,_|.d .str _,_,_,h,_|.d .u _,_,_,h,_|.d (.p _ _) _,_,_,h,_|.d (.sl _) _,_,_,h,_|.d (.pt _) _,_,_,h,_|.d (.fn _ _) _,_,_,h,_|.d .any _,_,_,h,_|.ref _ _,_,_,h,_|.ad _ _,_,_,h,_|.p _ _,_,_,h,_|.ag _,_,_,h,_|.tup _,_,_,h,_|.fn _ _,_,_,h,_|.ifc _ _,_,_,h,_|.bx _,_,_,h,_=>by simp[gW]at h
theorem IM(hd:(ops[j]?).bind (·.dst)=some d):yielded ops tmps j=yB (tmps.getD d undef):=by
 unfold yielded;rw[hd];simp only[Option.bind_some];rw[yR]
 cases tmps[d]? with
 |none=>rfl
 |some u=>cases u<;>rfl
theorem DE(h:v.isB=true):∃b,v=.d .bool b/\v.boolV=b:=by
 cases v with
 |d t x=>cases t<;>simp[V.isB]at h;exact⟨x,rfl,rfl⟩
 |_=>simp[V.isB]at h
theorem ZJ(h:St F p env M a w)(c x y:eO)(hc:mw c=true)(hx:mw x=true)(hy:mw y=true)(hv:ab (rj env c x y).1):
  ∃r,(do pure (if ←asBool (a.eval c)then a.eval x else a.eval y):Sem Value).run P w=.ok r w/\aj p.β M (Imm F p M w) w (rj env c x y).2 r:=by
 unfold rj at hv⊢;have hk:=eW hv;simp only[hk,aD]at hv⊢;simp only[bQ,bT,bM,ao]at hk;obtain⟨cb,c1,c2⟩:=DE hk.1;obtain⟨xb,x1,x2⟩:=DE hk.2.1;obtain⟨yb,y1,y2⟩:=DE hk.2.2;simp only[fW]at hv;obtain⟨v1,v2,v3⟩:=hv;have hcv:=DG (Fb h c hc) (λj b Q v e=>Dr _ _ v1 c ak j b Q v e);rw[c1,bn,gh]at hcv;simp only[c1,x1,y1,V.boolV]at v2 v3⊢
 have hxv:cb=true->a.eval x=.bool xb:=λhcb=>by
  have:=DG (Fb h x hx) (λj b Q v e=>by rw[e]at v2;simp only[pM,e9]at v2;exact v2.1 hcb)
  rwa [x1,bn,gh]at this
 have hyv:cb=false->a.eval y=.bool yb:=λhcb=>by
  have:=DG (Fb h y hy) (λj b Q v e=>by rw[e]at v3;simp only[pM,e9]at v3;exact v3.1 hcb)
  rwa [y1,bn,gh]at this
 have hval:∀r,r=(if cb=true then a.eval x else a.eval y)->r=.bool (bif cb then xb else yb):=λr hr=>by
  cases cb with
  |true=>rw[hr,am rfl,hxv rfl];rfl
  |false=>rw[hr,ai ak,hyv rfl];rfl
 have hpick:Fd cb x y xb yb=(bif cb then xb else yb):=by
  unfold Fd;split
  ·simp only[rd,rdV,V.strip,V.d.injEq,heq_eq_eq,aL]at x1;subst x1;cases cb<;>rfl
  ·simp only[rd,rdV,V.strip,V.d.injEq,heq_eq_eq,aL]at y1;subst y1;cases cb<;>simp
  ·rfl
 refine⟨if cb=true then a.eval x else a.eval y,?_,?_⟩
 ·simp only[gU,oS,hcv,asBool,jn]
 ·rw[bn,gh,hpick];exact hval _ rfl
def fA(nt:Nat):List Oper->Bool
 |[]=>true
 |o::r=>nob (match o.dst with|some k=>Nat.ble (Nat.succ k) nt|none=>true) (nob (BL mw (bq o.op)) (nob (match o.op with|.pick c a b=>aP [mw c,mw a,mw b]|_=>true) (fA nt r)))
theorem xi(h:fA nt (o::r)=true):(∀k,o.dst=some k->k<nt)/\(∀x∈bq o.op,mw x=true)/\(∀c a b,o.op=.pick c a b->mw c=true/\mw a=true/\mw b=true)/\fA nt r=true:=by
 simp only[fA,aU,ao]at h;obtain⟨h1,h2,h3,h4⟩:=h;refine⟨λk hk=>?_,(aag _ _).1 h2,λc a b e=>?_,h4⟩
 ·rw[hk]at h1;exact ia h1
 ·rw[e]at h3;simpa only [bQ,bT,bM,ao]using h3
theorem qP{nt:Nat}{o:bR}:{l:bY}->fA nt l=true->o∈l->fA nt [o]=true
 |[],_,h=>by cases h
 |x::l,h,hm=>by
  rcases cQ.1 hm with rfl|hm
  ·simp only[fA,aU,ao]at h⊢;exact⟨h.1,h.2.1,h.2.2.1,trivial⟩
  ·exact qP (xi h).2.2.2 hm
theorem AT(hΦ:iF P F Φ)(hB:TabOk P B)(h:St F p env M a w)(hc:fA F.nt [o]=true)(hv:ab (evR B Φ o env M).vc)(Q:gL):
  o.wp P a w (λa' w'=>∃v,a'=a.put o.dst v/\cu F p M w (gb o) (evR B Φ o env M) v w') Q:=by
 obtain⟨_,c1,c2,_⟩:=xi hc;have key:∀r:Rs,bP B Φ o (λx=>(rd env x).strip) M=r->ab (ip (rd env) (bq o.op))->ab r.vc->o.wp P a w (λa' w'=>∃v,a'=a.put o.dst v/\cu F p M w (gb o) r v w') Q:=λr hr h1 h2=>by subst hr;exact abt hΦ hB h.hp h.lz o _ (λx hx=>DG (Fb h x (c1 x hx)) (λj b Q v e=>Dr _ _ h1 x hx j b Q v e)) h2 Q
 unfold evR at hv⊢;split at hv
 ·rename_i c x y hop;obtain⟨k1,k2,k3⟩:=c2 c x y hop;simp only[ck]at hv;obtain⟨r,h1,h2⟩:=ZJ (P:=P) h c x y k1 k2 k3 hv;refine E6 (v:=r) (w':=w) ?_ ⟨_,rfl,cu.pure h.hp h.lz h2 _⟩;simp only[gU,oS]at h1;simp only[execOp,hop,gU,oS]
  cases hcc:(asBool (a.eval c)).run P w with
  |ok b w1=>rw[hcc]at h1;simp only[jn,Result.ok.injEq]at h1⊢;rw[h1.1,h1.2];exact⟨rfl,rfl⟩
  |halt hh w1=>rw[hcc]at h1;simp at h1
 ·generalize hq:bP B Φ o (λx=>(rd env x).strip) M=q at hv⊢;obtain⟨vc,v,e,M1⟩:=q;simp only[fW]at hv⊢;refine qj (λa' w' ⟨u,h1,p',h2,h3,h4,h5⟩=>⟨u,h1,p',h2,h3,h4,h5⟩) (key _ hq hv.1 hv.2)
theorem St.wrO{d:fu}(h:St F p env M a w)(x:V)(v:bm)(hx:aj p.β M (Imm F p M w) w x v)(hd:∀k,d=some k->F.ok k):St F p (wr d x env) M (a.put d v) w:=by
 cases d with
 |none=>exact h
 |some k=>exact h.write k x v hx (hd k rfl)
theorem cu.frz{r:Rs}{v:bm}(h:St F p env M a w)(hd:cu F p M w true r v w')(hf:dv M r.ev=true):St F p env M a w'/\aj p.β M (Imm F p M w') w' (avF M r.M r.av) v:=by obtain⟨p',h1,h2,h3,h4⟩:=hd;have q:=h4 hf rfl;exact⟨h.ext q.ext,Uh h1.hp q h.lz _ _ h3⟩
theorem J6(all:gf)(j:Nat):iN (toL all) j=(all[j]?).bind (·.dst):=by unfold iN;rw[ti,ds,qv];cases all[j]?<;>rfl
theorem KF(hc:fA F.nt [o]=true)(hfv:∀k,o.dst=some k->F.fv k=none):∀k,o.dst=some k->F.ok k:=λk hk=>⟨(xi hc).1 k hk,hfv k hk⟩
theorem Eh(hΦ:iF P F Φ)(hB:TabOk P B)(all:gf)(h:St F p env M a w){K:Env->Mem->Prop}(hk:tw B Φ (toL all) (o::rest) env M K)(hc:fA F.nt [o]=true)(hfv:∀k,o.dst=some k->F.fv k=none)(Q:gL):
  (if Region.wanted o (yielded all a.tmps)then o.wp P a w (λa' w'=>∃p' env' M',St F p' env' M' a' w'/\tw B Φ (toL all) rest env' M' K) Q\/(o.asks P a w/\LetsOut Q)else ∃p' env' M',St F p' env' M' (a.put o.dst undef) w/\tw B Φ (toL all) rest env' M' K):=by
 simp only[tw]at hk;have hdst:=KF hc hfv
 cases hg:o.guard with
 |none=>rw[hg]at hk;rw[am (by simp[Region.wanted,hg])];generalize hq:evR B Φ o env M=q at hk;obtain⟨vc,v,e,M1⟩:=q;simp only[kB]at hk;refine .inl (qj (λa' w' ⟨u,h1,p',h2,h3,h4,_⟩=>?_) (AT hΦ hB h hc (by rw[hq];exact hk.1) Q));rw[hq]at h2 h4;rw[h1];exact⟨p',_,_,(h.tr h2 h3).wrO _ u h4 hdst,hk.2⟩
 |some g=>
  obtain⟨j,want⟩:=g;rw[hg]at hk;simp only[J6]at hk
  cases hdj:(all[j]?).bind (·.dst)with
  |none=>rw[hdj]at hk;exact hk.elim
  |some dj=>
   rw[hdj]at hk;generalize hq:evR B Φ o env M=q at hk;obtain⟨vc,v,e,M1⟩:=q;simp only at hk
   cases hb:aP [gW (gt env dj),gb o,dv M e]with
   |false=>rw[hb]at hk;exact hk.elim
   |true=>
    rw[hb]at hk;simp only[aD,xB]at hk;simp only[bQ,bT,bM,ao]at hb;have hy:=Fe _ _ want hb.1 (h.slots dj);have hw:Region.wanted o (yielded all a.tmps)=(yB (a.tmps.getD dj undef)==some want):=by simp only[Region.wanted,hg,IM hdj]
    rw[hw];by_cases hcg:gc (gt env dj) want
    ·rw[am (hy.2 hcg)];refine .inl (qj (λa' w' ⟨u,h1,hd⟩=>?_) (AT hΦ hB h hc (by rw[hq];exact hk.1 hcg) Q));rw[hq,hb.2.1]at hd;obtain⟨h2,h3⟩:=cu.frz h hd hb.2.2;rw[h1];exact⟨p,_,_,h2.wrO _ u (by simp only[aj];exact⟨λ_=>h3,λhn=>absurd hcg hn⟩) hdst,hk.2⟩
    ·rw[ai (λhh=>hcg (hy.1 hh))];exact⟨p,_,_,h.wrO _ undef (by simp only[aj];exact⟨λhn=>absurd hn hcg,λ_=>trivial⟩) hdst,hk.2⟩
theorem Uv(hΦ:iF P F Φ)(hB:TabOk P B)(all:gf)(Q:gL)(K:Env->Mem->Prop)(hQ:∀p env M a w,St F p env M a w->K env M->Q .normal a w) :
  ∀(ops:bY)(p:Ow)(env:Env)(M:Mem)(a:Act)(w:aK),fA F.nt ops=true->(∀o∈ops,∀k,o.dst=some k->F.fv k=none)->St F p env M a w->tw B Φ (toL all) ops env M K->wpList P all Q ops a w
 |[],p,env,M,a,w,_,_,h,hk=>hQ p env M a w h hk
 |o::rest,p,env,M,a,w,hc,hfv,h,hk=>by
  have hc1:=qP hc (oW);have hst:=Eh hΦ hB all h hk hc1 (hfv o ak) Q;have ih:∀p' env' M' a' w',St F p' env' M' a' w'->tw B Φ (toL all) rest env' M' K->wpList P all Q rest a' w':=λp' env' M' a' w' h1 h2=>Uv hΦ hB all Q K hQ rest p' env' M' a' w' (xi hc).2.2.2 (λo' ho'=>hfv o' (by simp[ho'])) h1 h2;unfold wpList;split at hst
  ·rename_i hw;rw[am hw];exact hst.imp (qj (λa' w' ⟨p',env',M',h1,h2⟩=>ih p' env' M' a' w' h1 h2)) id
  ·rename_i hw;rw[ai hw];obtain⟨p',env',M',h1,h2⟩:=hst;exact ih p' env' M' _ w h1 h2
def kG:Nat->List Oper->Bool
 |_,[]=>true
 |j,o::r=>(o.after.toList.all λe=>!Region.binds .any e||Nat.blt e.on j)&&kG (j+1) r
def n7(ops:gf)(o:bR):List Nat:=o.looksAt ops
def xQ(ops:gf)(ms:bK)(i j:Nat)(x y:bR):Bool:=
 match x.dst with
 |none=>true
 |some t=>(match y.dst with|some t'=>!(Nat.beq t t')|none=>true)&&(!((n7 ops y).contains t)||(if i<j then (ms.getD j 0).testBit i else (ms.getD i 0).testBit j))
def tD(ops:gf)(ms:bK)(m:Nat):Bool:=
 (List.range m).all λi=>(List.range m).all λj=>Nat.beq i j||match ops[i]?,ops[j]? with
  |some x,some y=>xQ ops ms i j x y
  |_,_=>true
def E8(ops:gf)(ms:bK)(m:Nat):Bool:=(List.range ops.size).all λj=>Nat.blt j m||(List.range j).all λi=>(ms.getD j 0).testBit i
def isL(listed:gg)(i:Nat):Prop:=listed.getD i false=true
def unl(listed:gg):Nat->Nat
 |0=>0
 |n+1=>(if listed.getD n false then 0 else 1)+unl listed n
theorem SO(listed:gg)(i:Nat):∀n,n<=i->unl (listed.setIfInBounds i true) n=unl listed n
 |0,_=>rfl
 |n+1,h=>by rw[unl,unl,SO listed i n aa,qk false aa]
theorem AA{listed:gg}{i:Nat}(hi:i<listed.size)(hl:¬isL listed i):∀n,i<n->unl (listed.setIfInBounds i true) n+1=unl listed n
 |0,h=>aa
 |n+1,h=>by
  rw[unl,unl];by_cases e:i=n
  ·subst e;rw[SO listed i i (aZ _)];have h1:(listed.setIfInBounds i true).getD i false=true:=by simp[hi]
   have h2:listed.getD i false=false:=by simpa[isL]using hl
   rw[h1,h2];simp+arith
  ·rw[qk false e];have:=AA hi hl n aa;omega
theorem A3{listed:gg}:∀{n},unl listed n=0->∀i,i<n->isL listed i
 |0,_,i,h=>aa
 |n+1,h,i,hi=>by
  rw[unl]at h;by_cases e:i=n
  ·subst e;unfold isL
   cases hb:listed.getD i false with
   |true=>rfl
   |false=>rw[hb]at h;simp at h
  ·exact A3 (n:=n) aa i aa
def oI(ops:gf)(listed:gg):Prop:=∀(j:Nat)(o:bR),ops[j]? = some o->isL listed j->∀e∈o.after,Region.binds .any e=true->isL listed e.on
theorem ZG(ms:bK)(o:bR)(i:Nat)(h:(xH ms o).testBit i=true):∃e∈o.after,Region.binds .any e=true/\(e.on=i\/(ms.getD e.on 0).testBit i=true):=by
 unfold xH at h
 have key:∀(l:List Edge)(m:Nat),(l.foldl (λm e=>if Region.binds .any e then m |||(1 <<< e.on) |||(ms.getD e.on 0)else m) m).testBit i=true->m.testBit i=true\/∃e∈l,Region.binds .any e=true/\(e.on=i\/(ms.getD e.on 0).testBit i=true):=by
  intro l
  induction l with
  |nil=>intro m h;exact .inl h
  |cons e l ih=>
   intro m h;rw[jF]at h;rcases ih _ h with h1|⟨e',h1,h2⟩
   ·split at h1
    ·rename_i hb;simp only[Nat.testBit_or,fR]at h1;rcases h1 with (h1|h1)|h1
     ·exact .inl h1
     ·refine .inr ⟨e,ak,hb,.inl ?_⟩;rw[Nat.shiftLeft_eq,Nat.one_mul]at h1;rw[Nat.testBit_two_pow]at h1;exact w6 h1
     ·exact .inr ⟨e,ak,hb,.inr h1⟩
    ·exact .inl h1
   ·exact .inr ⟨e',by simp[h1],h2⟩
 rcases key _ _ h with h1|⟨e,h1,h2⟩
 ·simp at h1
 ·exact⟨e,lj.1 h1,h2⟩
theorem OT:∀(l:bY)(ms:bK)(pre:bY),ms.length=pre.length->(∀j o,pre[j]? = some o->∃ms',ms.getD j 0=xH ms' o/\∀k,ms'.getD k 0=ms.getD k 0\/ms'.getD k 0=0)->
  ∀j o,(pre++l)[j]? = some o->∃ms',(db ms l).getD j 0=xH ms' o/\∀k,ms'.getD k 0=(db ms l).getD k 0\/ms'.getD k 0=0
 |[],ms,pre,_,h,j,o,hj=>by simpa[db]using h j o (by simpa using hj)
 |x::l,ms,pre,hlen,h,j,o,hj=>by
  rw[db];refine OT l (ms++[xH ms x]) (pre++[x]) (by simp[hlen]) (λj o hj=>?_) j o (by simpa using hj);by_cases e:j<pre.length
  ·rw[g9 e]at hj;obtain⟨ms',h1,h2⟩:=h j o hj;refine⟨ms',by rw[←h1];simp[bN,g9 (hlen▸e)],λk=>?_⟩;rcases h2 k with h3|h3
   ·by_cases e2:k<ms.length
    ·left;rw[h3];simp[bN,g9 e2]
    ·right;rw[h3];simp[bN,jj (Nat.le_of_not_lt e2)]
   ·exact .inr h3
  ·have hj':=(gN.1 hj).1;simp at hj';have:j=pre.length:=aa
   subst this;simp at hj;subst hj;refine⟨ms,by simp[bN,←hlen],λk=>?_⟩;by_cases e2:k<ms.length
   ·left;simp[bN,g9 e2]
   ·right;simp[bN,jj (Nat.le_of_not_lt e2)]
theorem Dn:∀(l:bY)(k:Nat),kG k l=true->∀j o,l[j]? = some o->∀e∈o.after,Region.binds .any e=true->e.on<k+j
 |[],_,_,j,o,h=>by simp at h
 |x::l,k,hb,j,o,h=>by
  simp only[kG,ao]at hb;intro e he hbi
  cases j with
  |zero=>simp only[jG,aG]at h;subst h;have:=eU.1 hb.1 e (lj.2 he);simpa[hbi,ql]using this
  |succ j=>simp only[oR]at h;have:=Dn l (k+1) hb.2 j o h e he hbi;omega
theorem lX(hd:oI ops listed)(hb:kG 0 ops.toList=true):∀(j:Nat)(o:bR),ops[j]? = some o->(∀e∈o.after,Region.binds .any e=true->isL listed e.on)->∀i,((db [] ops.toList).getD j 0).testBit i=true->isL listed i:=by
 intro j
 induction j using Nat.strongRecOn with
 |_ j ih=>
  intro o ho hl i hi;obtain⟨ms',h1,h2⟩:=OT ops.toList [] [] rfl (λj o h=>by simp at h) j o (by simpa using ho);rw[h1]at hi;obtain⟨e,he,hbi,h3⟩:=ZG ms' o i hi;have hle:=hl e he hbi;rcases h3 with h3|h3
  ·rw[←h3];exact hle
  ·have hlt:=Dn ops.toList 0 hb j o (by simpa using ho) e he hbi;rcases h2 e.on with h4|h4
   ·rw[h4]at h3
    cases hoe:ops[e.on]? with
    |none=>
     have:ops.size<=e.on:=by
      rcases ig e.on ops.size with h|h
      ·simp[h]at hoe
      ·exact h
     have:=(eF.1 ho).1;omega
    |some oe=>exact ih e.on aa oe hoe (λe' he' hb'=>hd e.on oe hoe hle e' he' hb') i h3
   ·rw[h4]at h3;simp at h3
theorem uP(h:j∈Region.ready .any ops listed):∃o,ops[j]? = some o/\listed.getD j true=false/\∀e∈o.after,Region.binds .any e=true->isL listed e.on:=by obtain⟨h1,o,h2,h3⟩:=w7.1 h;exact⟨o,h2,h1,h3⟩
theorem oI.set(hd:oI ops listed)(h:j∈Region.ready .any ops listed):oI ops (listed.setIfInBounds j true):=by
 intro k o hk hl e he hb;obtain⟨oj,h1,_,h3⟩:=uP h;refine getD_set_true ?_;by_cases hkj:k=j
 ·subst hkj;rw[h1]at hk;cases hk;exact h3 e he hb
 ·refine hd k o hk ?_ e he hb;unfold isL at hl⊢
  rwa [qk false (dg hkj)]at hl
theorem Dl(hs:listed.size=ops.size)(hb:kG 0 ops.toList=true)(h:Region.ready .any ops listed=[]):∀i,i<ops.size->isL listed i:=by
 intro i
 induction i using Nat.strongRecOn with
 |_ i ih=>
  intro hi
  cases hl:listed.getD i false with
  |true=>exact hl
  |false=>have:i∈Region.ready .any ops listed:=w7.2 ⟨by simp[hs,hi]at hl⊢;exact hl,ops[i],by simp[hi],λe he hbi=>by have:=Dn ops.toList 0 hb i ops[i] (by simp[hi]) e he hbi;exact ih e.on aa aa⟩;rw[h]at this;cases this
theorem Od{M:Mem}{place:Nat->Option (bA×Nat×Nat)}{f g:eD}:∀(l:oP) (v:V),(∀q∈l,f q.2=g q.2)->mg M place f l v=mg M place g l v
 |[],v,_=>rfl
 |(i,x)::r,v,h=>by simp only[mg];rw[h (i,x) ak];have ih:∀v,mg M place f r v=mg M place g r v:=λv=>Od r v (λq hq=>h q (by simp[hq]));simp only[ih]
theorem Oe{M:Mem}{sz:Nat}{f g:eD}:∀(l:oP) (v:cK),(∀q∈l,f q.2=g q.2)->jU M sz f l v=jU M sz g l v
 |[],v,_=>rfl
 |(i,x)::r,v,h=>by simp only[jU];rw[h (i,x) ak];have ih:∀v,jU M sz f r v=jU M sz g r v:=λv=>Oe r v (λq hq=>h q (by simp[hq]));simp only[ih]
theorem IH{f g:eD}:∀(l:mJ),(∀x∈l,f x=g x)->gw f l=gw g l
 |[],_=>rfl
 |x::r,h=>by simp only[gw,h x ak,IH r λy hy=>h y (by simp[hy])]
theorem Ap{f g:eD}(l:qi)(h:∀x,l=some x->f x=g x):gm f l=gm g l:=by
 cases l with
 |none=>rfl
 |some x=>simp only[gm,h x rfl]
theorem Z5{ρ ρ':eD}(o:bR)(h:∀x∈bq o.op,ρ x=ρ' x):bP B Φ o ρ M=bP B Φ o ρ' M:=by
 obtain⟨dst,op,ty',pos,after,guard⟩:=o;cases op<;>simp only[bq]at h
 case build t ps=>simp only[bP,pq];rw[Od (toL ps) _ (λq hq=>h q.2 (xw (by rwa [ds]at hq)))]
 case buildSlice t n ps=>
  simp only[bP,n5]
  cases dst with
  |none=>rfl
  |some k=>
   cases (B.τ t).el with
   |none=>rfl
   |some e=>simp only;rw[Oe (toL ps) _ (λq hq=>h q.2 (xw (by rwa [ds]at hq)))]
 case slice t x lo hi mx=>
  cases mx with
  |some _=>rfl
  |none=>
   have hW:rB B (B.τ t) dst ρ x lo hi M=rB B (B.τ t) dst ρ' x lo hi M:=by unfold rB;rw[h x ak,Ap lo (λy hy=>h y (by subst hy;simp[bq.optL,ap]))]
   simp only[bP,kK,vC,hW];have h1:∀e:List Ev,gm (λy=>(ρ y).evs e) lo=gm (λy=>(ρ' y).evs e) lo:=λe=>Ap lo (λy hy=>by rw[h y (by subst hy;simp[bq.optL,ap])]);have h2:∀e:List Ev,gm (λy=>(ρ y).evs e) hi=gm (λy=>(ρ' y).evs e) hi:=λe=>Ap hi (λy hy=>by rw[h y (by subst hy;simp[bq.optL,fB])]);rw[h x ak,Ap lo (λy hy=>h y (by subst hy;simp[bq.optL,ap])),Ap hi (λy hy=>h y (by subst hy;simp[bq.optL,fB]))];simp only[h1,h2]
 case call c=>
  obtain⟨callee,args,argTypes⟩:=c;simp only[bP];simp only at h;have ha:∀x∈toL args,ρ x=ρ' x:=λx hx=>h x (by rw[fB];exact oU _ hx);rw[IH _ ha]
  cases callee with
  |value cx|invoke cx nm=>have hc:ρ cx=ρ' cx:=h cx (by rw[fB];exact jH _ (by simp[bq.calO]));simp only[hc]
  |builtin b=>
   cases b<;>first
    |rfl
    |(simp only;split;(rename_i x t e1 e2;first|rw[ha x (by rw[e1];simp)]|rfl);rfl)
    |(simp only;split;(rename_i x y t t' e1 e2;rw[ha x (by rw[e1];simp),ha y (by rw[e1];simp)]);rfl)
    |(simp only;split;(rename_i x y e1;rw[ha x (by rw[e1];simp),ha y (by rw[e1];simp)]);rfl)
 case makeFunc fn fs cs=>simp only[bP];rw[IH _ (λx hx=>h x (by rw[fB];exact oU _ hx))]
 case makeMap t rs=>cases rs<;>rfl
 all_goals (first|rfl|(simp only[bP];simp_all;done))
theorem Os{f g:eD}:∀(l:mJ),(∀x∈l,f x=g x)->ip f l=ip g l
 |[],_=>rfl
 |x::r,h=>by simp only[ip,h x ak,Os r λy hy=>h y (by simp[hy])]
theorem A8(o:bR):(∀x∈bq o.op,x∈o.op.operands):=by
 intro x hx;obtain⟨dst,op,ty',pos,after,guard⟩:=o;cases op<;>simp only[bq,Op.operands,w8]at hx⊢<;>try (simpa using hx)
 case slice t y lo hi mx=>cases lo<;>cases hi<;>cases mx<;>simp_all[bq.optL,ap]<;>first|(rcases hx with hx|hx|hx<;>simp[hx];done)|(rcases hx with hx|hx<;>simp[hx];done)
 case build t ps=>
  rw[ds]at hx
  have:∀l:List (Nat×Operand),x∈bq.snds l->∃q∈l,q.2=x:=by
   intro l
   induction l with
   |nil=>intro h;cases h
   |cons q l ih=>
    intro h;obtain⟨i,y⟩:=q;simp only[bq.snds]at h;rcases cQ.1 h with rfl|h
    ·exact⟨(i,x),ak,rfl⟩
    ·obtain⟨q,h1,h2⟩:=ih h;exact⟨q,by simp[h1],h2⟩
  obtain⟨q,h1,rfl⟩:=this _ hx;rw[List.mem_toArray];exact jJ.2 ⟨q,h1,rfl⟩
 case buildSlice t n ps=>
  rw[ds]at hx
  have:∀l:List (Nat×Operand),x∈bq.snds l->∃q∈l,q.2=x:=by
   intro l
   induction l with
   |nil=>intro h;cases h
   |cons q l ih=>
    intro h;obtain⟨i,y⟩:=q;simp only[bq.snds]at h;rcases cQ.1 h with rfl|h
    ·exact⟨(i,x),ak,rfl⟩
    ·obtain⟨q,h1,h2⟩:=ih h;exact⟨q,by simp[h1],h2⟩
  obtain⟨q,h1,rfl⟩:=this _ hx;rw[List.mem_toArray];exact jJ.2 ⟨q,h1,rfl⟩
 case makeFunc fn fs cs=>
  rw[fB,ds,ds]at hx;rw[Array.mem_append];rcases dN.1 hx with hx|hx
  ·exact Or.inl (lj.1 hx)
  ·exact Or.inr (lj.1 hx)
 case call c=>
  rw[ds,fB]at hx;unfold Call.operands;rcases dN.1 hx with hx|hx
  ·cases hc:c.callee<;>rw[hc]at hx<;>simp_all[bq.calO]
  ·have:=lj.1 hx;simp[this]
theorem xl{env':Env}(o:bR)(h:∀x∈o.op.operands,rd env x=rd env' x):evR B Φ o env M=evR B Φ o env' M:=by
 unfold evR;split
 ·rename_i c a b hop;have hc:=h c (by rw[hop];simp[Op.operands]);have ha:=h a (by rw[hop];simp[Op.operands]);have hb:=h b (by rw[hop];simp[Op.operands]);simp only[rj,ip,hc,ha,hb]
 ·rw[Z5 o (λx hx=>by rw[h x (A8 o x hx)]),Os _ (λx hx=>h x (A8 o x hx))]
def yd(B:Tab)(Φ:dM)(all:bY)(o:bR)(env:Env)(M:Mem)(v:V):Prop:=
 match o.guard with
  |none=>gb o=true/\dv M (evR B Φ o env M).ev=true/\ab (evR B Φ o env M).vc/\v=avF M (evR B Φ o env M).M (evR B Φ o env M).av
  |some (j,want)=>(match iN all j with
   |some dj=>gW (gt env dj)=true/\gb o=true/\dv M (evR B Φ o env M).ev=true/\(gc (gt env dj) want->ab (evR B Φ o env M).vc)/\v=.gd j want (gc (gt env dj) want) (avF M (evR B Φ o env M).M (evR B Φ o env M).av)
   |none=>False)
theorem Pd(all:bY):∀(l:bY)(env:Env)(K:Env->Prop),dw B Φ all l env M K->∃(E:Nat->Env)(V:Nat->V),E 0=env/\(∀j o,l[j]? = some o->yd B Φ all o (E j) M (V j)/\E (j+1)=wr o.dst (V j) (E j))/\K (E l.length)
 |[],env,K,h=>⟨λ_=>env,λ_=>.any,rfl,λj o h=>by simp at h,h⟩
 |o::rest,env,K,h=>by
  have key:∃v,yd B Φ all o env M v/\dw B Φ all rest (wr o.dst v env) M K:=by
   simp only[dw]at h;unfold yd;split at h
   ·rename_i hg;simp only[hg];generalize evR B Φ o env M=q at h⊢;obtain⟨vc,v,e,M1⟩:=q;simp only at h⊢
    cases hb:aP [gb o,dv M e]with
    |false=>rw[hb]at h;exact h.elim
    |true=>rw[hb]at h;simp only[aD,kB]at h;simp only[bQ,bT,bM,ao]at hb;exact⟨_,⟨hb.1,hb.2,h.1,rfl⟩,h.2⟩
   ·rename_i j want hg;simp only[hg];generalize evR B Φ o env M=q at h⊢;obtain⟨vc,v,e,M1⟩:=q;simp only at h⊢
    cases hdj:iN all j with
    |none=>rw[hdj]at h;exact h.elim
    |some dj=>
     rw[hdj]at h;simp only[hdj]at h⊢
     cases hb:aP [gW (gt env dj),gb o,dv M e]with
     |false=>rw[hb]at h;exact h.elim
     |true=>rw[hb]at h;simp only[aD,xB]at h;simp only[bQ,bT,bM,ao]at hb;exact⟨_,⟨hb.1,hb.2.1,hb.2.2,h.1,rfl⟩,h.2⟩
  obtain⟨v,h1,h2⟩:=key;obtain⟨E,V,e1,e2,e3⟩:=Pd all rest _ K h2;refine⟨λj=>match j with|0=>env|j+1=>E j,λj=>match j with|0=>v|j+1=>V j,rfl,λj x hj=>?_,by simpa using e3⟩
  cases j with
  |zero=>simp only[jG,aG]at hj;subst hj;exact⟨h1,e1⟩
  |succ j=>simp only[oR]at hj;exact e2 j x hj
theorem pS(d:fu)(v:V)(env:Env)(t:Nat):gt (wr d v env) t=if d=some t then v else gt env t:=by
 cases d with
 |none=>simp[wr]
 |some k=>simp only[wr,gY,aG]
theorem J9{l:bY}{E:Nat->Env}{V:Nat->V}(h2:∀j o,l[j]? = some o->E (j+1)=wr o.dst (V j) (E j)):∀(j t:Nat),j<=l.length->
  ((∀(i:Nat)(o:bR),l[i]? = some o->i<j->o.dst≠some t)->gt (E j) t=gt (E 0) t)/\
  (∀(i:Nat)(o:bR),l[i]? = some o->i<j->o.dst=some t->(∀(i':Nat)(o':bR),l[i']? = some o'->i'<j->o'.dst=some t->i'=i)->gt (E j) t=V i)
 |0,t,_=>⟨λ_=>rfl,λi o _ h=>aa⟩
 |j+1,t,hj=>by
  obtain⟨a1,a2⟩:=J9 h2 j t aa;have ho:l[j]? = some l[j]:=bX aa;rw[h2 j _ ho,pS];refine⟨λh=>?_,λi o hi hlt hd hu=>?_⟩
  ·rw[ai (h j _ ho aa)];exact a1 λi o hi hlt=>h i o hi aa
  ·by_cases e:i=j
   ·subst e;rw[ho]at hi;cases hi;rw[am hd]
   ·rw[ai (λhh=>e (hu j _ ho aa hh).symm)];exact a2 i o hi aa hd λi' o' hi' hl'=>hu i' o' hi' aa
theorem aao(hΦ:iF P F Φ)(hB:TabOk P B)(h:St F p env M a w)(hd:yd B Φ (toL all) o envj M v)(hl:∀t∈o.looksAt all,gt env t=gt envj t)(hc:fA F.nt [o]=true)(hfv:∀k,o.dst=some k->F.fv k=none)(hj:all[j]? = some o)(K:Act->World->Prop)(QQ:gL)(hK:∀a' w',St F p (wr o.dst v env) M a' w'->K a' w'):wpOp P all QQ j K a w:=by
 have hdst:=KF hc hfv
 have hops:evR B Φ o env M=evR B Φ o envj M:=xl o λx hx=>by
  cases x with
  |tmp t=>have:t∈o.looksAt all:=jH _ (w9.2 ⟨.tmp t,by simpa using hx,rfl⟩);simpa only [rd]using hl t this
  |const c|global g|func f=>rfl
 unfold wpOp;rw[hj];simp only;unfold yd at hd;rw[←hops]at hd
 cases hg:o.guard with
 |none=>rw[hg]at hd;obtain⟨h1,h2,h3,rfl⟩:=hd;rw[am (by simp[Region.wanted,hg])];refine .inl (qj (λa' w' ⟨u,e1,hdn⟩=>?_) (AT hΦ hB h hc h3 QQ));rw[h1]at hdn;obtain⟨k1,k2⟩:=cu.frz h hdn h2;rw[e1];exact hK _ _ (k1.wrO _ u k2 hdst)
 |some g=>
  obtain⟨jg,want⟩:=g;rw[hg]at hd;simp only[J6]at hd
  cases hdj:(all[jg]?).bind (·.dst)with
  |none=>rw[hdj]at hd;exact hd.elim
  |some dj=>
   rw[hdj]at hd;obtain⟨k0,k1,k2,k3,rfl⟩:=hd;have hgt:gt env dj=gt envj dj:=hl dj (oU _ (by simp[hg,hdj]));rw[←hgt]at k0 k3 hK;have hy:=Fe _ _ want k0 (h.slots dj);have hw:Region.wanted o (yielded all a.tmps)=(yB (a.tmps.getD dj undef)==some want):=by simp only[Region.wanted,hg,IM hdj]
   rw[hw];by_cases hcg:gc (gt env dj) want
   ·rw[am (hy.2 hcg)];refine .inl (qj (λa' w' ⟨u,e1,hdn⟩=>?_) (AT hΦ hB h hc (k3 hcg) QQ));rw[k1]at hdn;obtain⟨g1,g2⟩:=cu.frz h hdn k2;rw[e1];exact hK _ _ (g1.wrO _ u (by simp only[aj];exact⟨λ_=>g2,λhn=>absurd hcg hn⟩) hdst)
   ·rw[ai (λhh=>hcg (hy.1 hh))];exact hK _ _ (h.wrO _ undef (by simp only[aj];exact⟨λhn=>absurd hn hcg,λ_=>trivial⟩) hdst)
theorem Ez(hΦ:iF P F Φ)(hB:TabOk P B)(h:St F p env M a w){K:Env->Mem->Prop}(hk:tw B Φ (toL all) (o::rest) env M K)(hc:fA F.nt [o]=true)(hfv:∀k,o.dst=some k->F.fv k=none)(hj:all[j]? = some o)(Q:gL):
  wpOp P all Q j (λa' w'=>∃p' env' M',St F p' env' M' a' w'/\tw B Φ (toL all) rest env' M' K) a w:=by
 unfold wpOp;rw[hj];exact Eh hΦ hB all h hk hc hfv Q
theorem Ot(h:E8 all ms m=true)(hj:j<all.size)(hm:m<=j)(hi:i<j):(ms.getD j 0).testBit i=true:=by
 have:=eU.1 h j (by simpa using hj);simp only[fR]at this;rcases this with h1|h1
 ·rw[ql]at h1;omega
 ·exact eU.1 h1 i (by simpa using hi)
theorem OS(hΦ:iF P F Φ)(hB:TabOk P B)(Q:gL)(K:Env->Mem->Prop)(hQ:∀p env M a w,St F p env M a w->K env M->Q .normal a w)(hb:kG 0 all.toList=true)(m:Nat)(ht:E8 all (db [] all.toList) m=true)(hco:fA F.nt all.toList=true)(hfv:∀o∈all.toList,∀k,o.dst=some k->F.fv k=none):
  ∀(fuel:Nat)(listed:gg)(c:Nat)(p:Ow)(env:Env)(M:Mem)(a:Act)(w:aK),listed.size=all.size->(∀i,i<all.size->(isL listed i<->i<c))->m<=c->unl listed all.size<=fuel->oI all listed->
   St F p env M a w->tw B Φ (toL all) (all.toList.drop c) env M K->wpAny P .any all Q fuel listed a w:=by
 intro fuel
 have done:∀(listed:gg)(c:Nat)(p:Ow)(env:Env)(M:Mem)(a:Act)(w:aK),listed.size=all.size->(∀i,i<all.size->(isL listed i<->i<c))->Region.ready .any all listed=[]->St F p env M a w->tw B Φ (toL all) (all.toList.drop c) env M K->Q .normal a w:=by
  intro listed c p env M a w hs hl hr hst hk
  have hc:all.toList.length<=c:=by
   rcases ig c all.size with h|h
   ·have:=(hl c h).1 (Dl hs hb hr c h);omega
   ·simpa using h
  rw[yS hc]at hk;simp only[tw]at hk;exact hQ p env M a w hst hk
 have noready:∀(listed:gg),listed.size=all.size->unl listed all.size=0->Region.ready .any all listed=[]:=by
  intro listed hs hu
  cases hr:Region.ready .any all listed with
  |nil=>rfl
  |cons i r=>obtain⟨o,h1,h2,_⟩:=uP (j:=i) (by rw[hr];simp);have hi:=(eF.1 h1).1;have:=A3 hu i hi;unfold isL at this;simp[hs,hi]at this h2;rw[this]at h2;cases h2
 induction fuel with
 |zero=>intro listed c p env M a w hs hl hm hu _ hst hk;have hr:=noready listed hs aa;exact⟨hr,done listed c p env M a w hs hl hr hst hk⟩
 |succ fuel ih=>
  intro listed c p env M a w hs hl hm hu hdn hst hk;refine⟨λhr=>done listed c p env M a w hs hl hr hst hk,λj hj=>?_⟩;obtain⟨o,h1,h2,h3⟩:=uP hj;have hjs:=(eF.1 h1).1;have hnl:¬isL listed j:=by unfold isL;simp[hs,hjs]at h2⊢;exact h2
  have hcj:c<=j:=by
   rcases ig j c with h|h
   ·exact absurd ((hl j hjs).2 h) hnl
   ·exact h
  have hjc:j=c:=by
   rcases ig c j with h|h
   ·have:=lX hdn hb j o h1 h3 c (Ot ht hjs aa h);have:=(hl c aa).1 this;omega
   ·omega
  subst hjc;have hdrop:all.toList.drop j=o::all.toList.drop (j+1):=by rw[yT (by simpa using hjs)];congr 1;have:=(eF.1 h1).2;simpa using this
  rw[hdrop]at hk;refine wpOp_mono (λa' w' ⟨p',env',M',e1,e2⟩=>ih _ (j+1) p' env' M' a' w' (by simpa using hs) (λi hi=>?_) aa ?_ (hdn.set hj) e1 e2) (Ez hΦ hB hst hk (qP hco (by rw[lj];exact um h1)) (hfv o (by rw[lj];exact um h1)) h1 Q)
  ·by_cases e:i=j
   ·subst e;simp[isL,hs,hi]
   ·unfold isL at hl⊢;rw[qk false (dg e),hl i hi];omega
  ·have:=AA (by rw[hs];exact hjs) hnl all.size hjs;omega
theorem sQ(h:tD all ms m=true)(hi:i<m)(hj:j<m)(hne:i≠j)(hx:all[i]? = some x)(hy:all[j]? = some y):xQ all ms i j x y=true:=by
 have:=eU.1 (eU.1 h i (by simpa using hi)) j (by simpa using hj);rw[hx,hy]at this;simp only[fR]at this;rcases this with h1|h1
 ·exact absurd (dh h1) hne
 ·exact h1
theorem OG(h:xQ all ms i j x y=true){t:Nat}(hx:x.dst=some t):y.dst≠some t:=by unfold xQ at h;rw[hx]at h;simp only[ao]at h;intro hy;rw[hy]at h;simp at h
theorem xe(h:xQ all ms i j x y=true){t:Nat}(hx:x.dst=some t)(ht:t∈y.looksAt all):if i<j then (ms.getD j 0).testBit i=true else (ms.getD i 0).testBit j=true:=by
 unfold xQ at h;rw[hx]at h;simp only[ao,fR,fy]at h;have h2:=h.2;have hc:(n7 all y).contains t=true:=by simpa[n7]using ht
 rcases h2 with h2|h2
 ·rw[hc]at h2;cases h2
 ·split
  ·rename_i hlt;rw[am hlt]at h2;exact h2
  ·rename_i hlt;rw[ai hlt]at h2;exact h2
theorem Al:all.toList[j]? = all[j]?:=ak
theorem M_(hΦ:iF P F Φ)(hB:TabOk P B)(Q:gL)(K:Env->Mem->Prop)(hQ:∀p env M a w,St F p env M a w->K env M->Q .normal a w)(hb:kG 0 all.toList=true)(m:Nat)(hmn:m<=all.size)(ht:E8 all (db [] all.toList) m=true)(hdr:tD all (db [] all.toList) m=true)(hco:fA F.nt all.toList=true)(hfv:∀o∈all.toList,∀k,o.dst=some k->F.fv k=none)(E:Nat->Env)(V:Nat->V)(hE:∀j o,(all.toList.take m)[j]? = some o->yd B Φ (toL all) o (E j) M (V j)/\E (j+1)=wr o.dst (V j) (E j))(hlast:tw B Φ (toL all) (all.toList.drop m) (E m) M K):
  ∀(fuel:Nat)(listed:gg)(env:Env)(a:Act)(w:aK),listed.size=all.size->(∀i,i<all.size->isL listed i->i<m)->unl listed all.size<=fuel->oI all listed->
   (∀t,((∀i o,all[i]? = some o->isL listed i->o.dst≠some t)->gt env t=gt (E 0) t)/\∀i o,all[i]? = some o->isL listed i->o.dst=some t->gt env t=V i)->
   St F p env M a w->wpAny P .any all Q fuel listed a w:=by
 have htake:∀j o,j<m->all[j]? = some o->(all.toList.take m)[j]? = some o:=λj o hj ho=>by rw[rU hj,Al];exact ho
 have hlen:(all.toList.take m).length=m:=by simp[hmn]
 have uniq:∀i j x y t,i<m->j<m->all[i]? = some x->all[j]? = some y->x.dst=some t->y.dst=some t->i=j:=λi j x y t hi hj hx hy h1 h2=>by
  rcases Nat.decEq i j with h|h
  ·exact absurd h2 (OG (sQ hdr hi hj h hx hy) h1)
  ·exact h
 have take_lt:∀i o,(all.toList.take m)[i]? = some o->i<m/\all[i]? = some o:=λi o h=>by have h1:=(gN.1 h).1;rw[hlen]at h1;rw[rU h1,Al]at h;exact⟨h1,h⟩
 have hgt:=J9 (λj o h=>(hE j o h).2);intro fuel
 induction fuel with
 |zero=>
  intro listed env a w hs hl hu hdn hg hst;by_cases hall:∀i,i<m->isL listed i
  ·refine OS hΦ hB Q K hQ hb m ht hco hfv 0 listed m p (E m) M a w hs (λi hi=>⟨hl i hi,hall i⟩) (aZ _) hu hdn (hst.weak λt=>.inr ?_) hlast;by_cases ht:∃i o,all[i]? = some o/\i<m/\o.dst=some t
   ·obtain⟨i,o,h1,h2,h3⟩:=ht;rw[(hg t).2 i o h1 (hall i h2) h3];exact (hgt m t aa).2 i o (htake i o h2 h1) h2 h3 λi' o' h1' h2' h3'=>uniq i' i o' o t h2' h2 (take_lt i' o' h1').2 h1 h3' h3
   ·rw[(hg t).1 λi o h1 h2 h3=>ht ⟨i,o,h1,hl i (eF.1 h1).1 h2,h3⟩];exact (hgt m t aa).1 λi o h1 h2 h3=>ht ⟨i,o,(take_lt i o h1).2,h2,h3⟩
  ·exact absurd (λi hi=>A3 (Nat.le_zero.1 hu) i aa) hall
 |succ fuel ih=>
  intro listed env a w hs hl hu hdn hg hst;by_cases hall:∀i,i<m->isL listed i
  ·refine OS hΦ hB Q K hQ hb m ht hco hfv (fuel+1) listed m p (E m) M a w hs (λi hi=>⟨hl i hi,hall i⟩) (aZ _) hu hdn (hst.weak λt=>.inr ?_) hlast;by_cases ht:∃i o,all[i]? = some o/\i<m/\o.dst=some t
   ·obtain⟨i,o,h1,h2,h3⟩:=ht;rw[(hg t).2 i o h1 (hall i h2) h3];exact (hgt m t aa).2 i o (htake i o h2 h1) h2 h3 λi' o' h1' h2' h3'=>uniq i' i o' o t h2' h2 (take_lt i' o' h1').2 h1 h3' h3
   ·rw[(hg t).1 λi o h1 h2 h3=>ht ⟨i,o,h1,hl i (eF.1 h1).1 h2,h3⟩];exact (hgt m t aa).1 λi o h1 h2 h3=>ht ⟨i,o,(take_lt i o h1).2,h2,h3⟩
  ·refine⟨λhr=>absurd (λi hi=>Dl hs hb hr i aa) hall,λj hj=>?_⟩;obtain⟨o,h1,h2,h3⟩:=uP hj;have hjs:=(eF.1 h1).1;have hnl:¬isL listed j:=by unfold isL;simp[hs,hjs]at h2⊢;exact h2
   have hjm:j<m:=by
    rcases ig j m with h|h
    ·exact h
    ·exact absurd (λi hi=>lX hdn hb j o h1 h3 i (Ot ht hjs h aa)) hall
   obtain⟨d1,d2⟩:=hE j o (htake j o hjm h1)
   have hlook:∀t∈o.looksAt all,gt env t=gt (E j) t:=λt htl=>by
    by_cases hw:∃i x,all[i]? = some x/\i<m/\x.dst=some t
    ·obtain⟨i,x,e1,e2,e3⟩:=hw;by_cases hij:i<j
     ·have hpair:=xe (sQ hdr e2 hjm aa e1 h1) e3 htl;rw[am hij]at hpair;have hli:=lX hdn hb j o h1 h3 i hpair;rw[(hg t).2 i x e1 hli e3];exact ((hgt j t aa).2 i x (htake i x e2 e1) hij e3 λi' o' h1' h2' h3'=>uniq i' i o' x t aa e2 (take_lt i' o' h1').2 e1 h3' e3).symm
     ·have hnli:¬isL listed i:=λhli=>by
       by_cases e:i=j
       ·subst e;exact hnl hli
       ·have hpair:=xe (sQ hdr e2 hjm e e1 h1) e3 htl;rw[ai hij]at hpair;exact hnl (lX hdn hb i x e1 (λe' he' hb'=>hdn i x e1 hli e' he' hb') j hpair)
      rw[(hg t).1 λi' o' h1' h2' h3'=>hnli (uniq i' i o' x t (hl i' (eF.1 h1').1 h2') e2 h1' e1 h3' e3▸h2')];exact ((hgt j t aa).1 λi' o' h1' h2' h3'=>hij (uniq i' i o' x t aa e2 (take_lt i' o' h1').2 e1 h3' e3▸h2')).symm
    ·rw[(hg t).1 λi x h1 h2 h3=>hw ⟨i,x,h1,hl i (eF.1 h1).1 h2,h3⟩];exact ((hgt j t aa).1 λi x h1 h2 h3=>hw ⟨i,x,(take_lt i x h1).2,aa,h3⟩).symm
   refine aao hΦ hB hst d1 hlook (qP hco (by rw[lj];exact um h1)) (hfv o (by rw[lj];exact um h1)) h1 _ Q λa' w' hst'=>ih _ _ a' w' (by simpa using hs) (λi hi hli=>?_) ?_ (hdn.set hj) (λt=>⟨λhno=>?_,λi x hx hli hxd=>?_⟩) hst'
   ·by_cases e:i=j
    ·omega
    ·refine hl i hi ?_;unfold isL at hli⊢
     rwa [qk false (dg e)]at hli
   ·have:=AA (by rw[hs];exact hjs) hnl all.size hjs;omega
   ·rw[pS,ai (hno j o h1 (by simp[isL,hs,hjs]))];refine (hg t).1 λi x hx hli=>hno i x hx (getD_set_true hli)
   ·rw[pS];by_cases e:i=j
    ·subst e;rw[h1]at hx;cases hx;rw[am hxd]
    ·have hli':isL listed i:=by
      unfold isL at hli⊢
      rwa [qk false (dg e)]at hli
     have him:=hl i (eF.1 hx).1 hli';rw[ai (λhod=>e (uniq i j x o t him hjm hx h1 hxd hod))];exact (hg t).2 i x hx hli' hxd
theorem uZ:¬isL (Array.replicate n false) i:=by unfold isL;simp[Array.getElem?_replicate];split<;>simp
theorem KP(listed:gg):∀n,unl listed n<=n
 |0=>aZ _
 |n+1=>by rw[unl];have:=KP listed n;split<;>omega
theorem St.drew(h:St F p env M a w):St F p env M a { w with drawn:=w.drawn+1 }:=h.ext ⟨rfl,⟨rfl,wy _⟩,rfl,aZ _,λ_ _=>rfl⟩
def yw:Op->Bool
 |.move (.tmp _)|.assign (.tmp _)|.extract (.tmp _) _=>true
 |_=>false
def FQ(D:bC)(o:Op):Bool:=orb (yw o) (nob D (hU o))
def flt(D R:bC)(ops:gf)(x y:bR):Bool:=
 nob (isN x.guard) (nob (nob (FQ D x.op) (orb (neg R) (orb (yw x.op) (orb (Bj y) (BR y))))) (match x.dst with
  |some t=>nob (neg ((n7 ops y).contains t)) (match y.dst with
   |some u=>nob (neg (Nat.beq u t)) (neg ((n7 ops x).contains u))
   |none=>true)
  |none=>false))
def FD(D R:bC)(ops:gf)(ms:bK)(m:Nat):Bool:=
 (List.range ops.size).all λj=>Nat.blt j m||(match ops[j]? with
  |some y=>isN y.guard&&(List.range j).all λi=>(ms.getD j 0).testBit i||(Nat.blt i m&&(match ops[i]? with|some x=>flt D R ops x y|none=>false))
  |none=>true)
def F9(ops:gf)(ms:bK)(m:Nat):Bool:=
 (List.range m).all λi=>!(gI ops.size ms m i)||(List.range m).all λj=>Nat.blt j i||!(gI ops.size ms m j)||(match ops[i]?,ops[j]? with
  |some x,some y=>(match y.dst with|some u=>!((n7 ops x).contains u)|none=>true)
  |_,_=>true)
def tX(D R:bC)(l:bY)(m:Nat):Bool:=kG 0 l&&(Nat.ble m l.length&&(FD D R l.toArray (db [] l) m&&(F9 l.toArray (db [] l) m&&tD l.toArray (db [] l) m)))
def KK(σ:bK)(n:Nat):Bool:=Nat.beq (len σ) n&&((List.range n).all λi=>Nat.blt (plc σ i) n&&(match eQ σ (plc σ i)with|some k=>Nat.beq k i|none=>false))&&(List.range n).all λk=>(match eQ σ k with|some i=>Nat.blt i n&&Nat.beq (plc σ i) k|none=>false)
def BB:List Oper->Bool
 |[]=>true
 |o::r=>nob (isN o.guard) (BB r)
def FB(R R2:bC)(l:bY)(m:Nat):Bool:=kG 0 l&&(KK (Bp R l) l.length&&(BB l&&tX true R2 (dD R l) m))
def Ug(l:bY):Bool:=kG 0 l&&(tD l.toArray (db [] l) l.length&&KJ (FL l))
def Lg(l:bY)(m:Nat):Bool:=kG 0 l&&(Nat.ble m l.length&&(E8 l.toArray (db [] l) m&&tD l.toArray (db [] l) m))
theorem QX{a b a' b':T}{x:(T.p a b).den}{x':(T.p a' b').den}(h:gF (.p a' b') (a:=.p a b) x=some x'):gF a' x.1=some x'.1/\gF b' x.2=some x'.2:=by obtain⟨e,h1⟩:=Aq h;cases e;simp only at h1;subst h1;exact⟨uR _,uR _⟩
theorem Q_{a a':T}{x:List a.den}{x':List a'.den}(h:gF (.sl a') (a:=.sl a) x=some x'):x'.length=x.length/\∀(i:Nat) y',x'[i]? = some y'->∃y,x[i]? = some y/\gF a' y=some y':=by obtain⟨e,h1⟩:=Aq h;cases e;simp only at h1;subst h1;exact⟨rfl,λi y' hy=>⟨y',hy,uR _⟩⟩
theorem aas{a a':T}{x:a.den}{x':a'.den}(h:gF (.pt a') (a:=.pt a) x=some x'):gF a' x=some x':=by obtain⟨e,h1⟩:=Aq h;cases e;simp only at h1;subst h1;exact uR _
theorem x4:(o o':O)->o.wk o'=true->o.strip=o'.strip
 |.p a b,.p a' b',h=>by simp only[O.wk,aU,ao]at h;simp only[O.strip,x4 a a' h.1,x4 b b' h.2]
 |.sl e,.sl e',h|.pt e,.pt e',h=>by simp only[O.wk]at h;simp only[O.strip,x4 e e' h]
 |.op e,.op e',h=>by simp only[O.wk]at h;simp only[O.strip,O.beq_eq h]
 |.mp k v,.mp k' v',h=>by simp only[O.wk,aU,ao]at h;simp only[O.strip,T.beq_eq h.1,T.beq_eq h.2]
 |.fz (.p a b),.p a' b',h=>by simp only[O.wk,aU,ao]at h;have h1:=x4 (.fz a) a' h.1;have h2:=x4 (.fz b) b' h.2;simp only[O.strip]at h1 h2⊢;rw[h1,h2]
 |.p a b,.fz t,h|.sl e,.fz t,h|.pt e,.fz t,h|.mp _ _,.fz t,h|.op _,.fz t,h=>by simp only[O.wk]at h;exact T.beq_eq h
 |.fz s,.fz t,h=>by
  have:O.wk (.fz s) (.fz t)=s.beq t:=by cases s<;>simp only[O.wk,O.strip]
  rw[this]at h;exact T.beq_eq h
 |.p _ _,.mp _ _,h|.p _ _,.op _,h|.sl _,.mp _ _,h|.sl _,.op _,h|.pt _,.mp _ _,h|.pt _,.op _,h|.mp _ _,.p _ _,h|.op _,.p _ _,h|.mp _ _,.sl _,h|.op _,.sl _,h|.mp _ _,.pt _,h|.op _,.pt _,h=>by simp[O.wk]at h
 |.fz s,.mp _ _,h|.fz s,.op _,h=>by cases s<;>simp[O.wk]at h
 |.fz (.ifc _ _),.p _ _,h|.fz (.ib _ _),.p _ _,h|.fz (.mp _ _),.p _ _,h|.fz (.op _),.p _ _,h|.fz (.ns _),.p _ _,h|.fz (.er _),.p _ _,h|.p _ _,.sl _,h|.p _ _,.pt _,h|.sl _,.p _ _,h|.sl _,.pt _,h|.pt _,.p _ _,h|.pt _,.sl _,h=>by simp[O.wk]at h
 |.fz s,.sl _,h|.fz s,.pt _,h=>by cases s<;>simp[O.wk]at h
 |.fz (.int _),.p _ _,h|.fz .bool,.p _ _,h|.fz .str,.p _ _,h|.fz .u,.p _ _,h|.fz (.sl _),.p _ _,h|.fz (.pt _),.p _ _,h|.fz (.fn _ _),.p _ _,h|.fz .any,.p _ _,h=>by simp[O.wk]at h
def Wk(Im:aT)(w:aK)(o':O)(x':o'.strip.den)(S:aT)(vs:aJ):Prop:=∃S':Nat->Prop,(∀b,S' b->S b)/\∀Im':Nat->Prop,(∀b,Im b->Im' b)->(∀b,S b->¬S' b->Im' b)->Rel Im' w o' x' S' vs
theorem ag1{o:O}{t:T}{x:o.strip.den}{x':t.den}(hx:gF t x=some x')(r:Rel Im w o x S vs):Wk Im w (.fz t) x' S vs:=⟨λ_=>False,λb hb=>hb.elim,λIm' h1 h2=>by simp only[Rel];exact qQ hx (Rel.frz h1 o x S vs (λb hb=>h2 b hb (λh=>h)) r)⟩
theorem R5{a' b':O}{x':a'.strip.den}{y':b'.strip.den}{va vb:aJ}(h1:∀c,S1 c->S c)(h2:∀c,S2 c->S c)(h3:∀c,S1 c->¬S2 c)(ha:Wk Im w a' x' S1 va)(hb:Wk Im w b' y' S2 vb):Wk Im w (.p a' b') (x',y') S (va++vb):=by
 obtain⟨T1,a1,a2⟩:=ha;obtain⟨T2,b1,b2⟩:=hb;refine⟨λc=>T1 c\/T2 c,λc hc=>hc.elim (λh=>h1 c (a1 c h)) (λh=>h2 c (b1 c h)),λIm' k1 k2=>?_⟩;simp only[Rel];refine⟨va,vb,T1,T2,rfl,λc hc=>.inl hc,λc hc=>.inr hc,λc hc hc'=>h3 c (a1 c hc) (b1 c hc'),a2 Im' k1 (λc hc hn=>k2 c (h1 c hc) ?_),b2 Im' k1 (λc hc hn=>k2 c (h2 c hc) ?_)⟩
 ·rintro (h|h)
  ·exact hn h
  ·exact h3 c hc (b1 c h)
 ·rintro (h|h)
  ·exact h3 c (a1 c h) hc
  ·exact hn h
theorem ni{Im:aT}{w:aK}:(o o':O)->o.wk o'=true->(x:o.strip.den)->(x':o'.strip.den)->(S:aT)->(vs:aJ)->gF o'.strip x=some x'->Rel Im w o x S vs->Wk Im w o' x' S vs
 |.p a b,.p a' b',h,x,x',S,vs,hx,r=>by simp only[O.wk,aU,ao]at h;simp only[Rel]at r;obtain⟨va,vb,S1,S2,rfl,h1,h2,h3,ha,hb⟩:=r;obtain⟨c1,c2⟩:=QX hx;exact R5 h1 h2 h3 (ni a a' h.1 _ _ _ _ c1 ha) (ni b b' h.2 _ _ _ _ c2 hb)
 |.fz (.p a b),.p a' b',h,x,x',S,vs,hx,r=>by simp only[O.wk,aU,ao]at h;simp only[Rel,ah]at r;obtain⟨va,vb,rfl,ha,hb⟩:=r;obtain⟨c1,c2⟩:=QX hx;exact R5 (S1:=λ_=>False) (S2:=λ_=>False) (λc hc=>hc.elim) (λc hc=>hc.elim) (λc hc=>hc.elim) (ni (.fz a) a' h.1 _ _ _ _ c1 (by simpa only [Rel]using ha)) (ni (.fz b) b' h.2 _ _ _ _ c2 (by simpa only [Rel]using hb))
 |.sl e,.sl e',h,x,x',S,vs,hx,r=>by
  have hs:=x4 (.sl e) (.sl e') h;simp only[O.wk]at h;simp only[O.strip,T.sl.injEq]at hs;have hsz:e'.size=e.size:=by unfold O.size;rw[hs]
  simp only[Rel]at r;obtain⟨v,ety,xs,T,rfl,h2,h3,h4,h5,h6,h7⟩:=r;obtain⟨c1,c2⟩:=Q_ hx;have hall:∀i,i<x'.length->∃y',x'[i]? = some y'/\Wk Im w e' y' (T i) ((xs.drop (i*e.size)).take e.size):=λi hi=>by have hy:=bX hi;obtain⟨y,k1,k2⟩:=c2 i _ hy;exact⟨_,hy,ni e e' h y _ _ _ k2 (h7 i y k1)⟩
  let T':Nat->Nat->Prop:=λi=>if hi:i<x'.length then (hall i hi).choose_spec.2.choose elseλ_=>False
  have hT:∀i y',x'[i]? = some y'->(∀b,T' i b->T i b)/\∀Im':Nat->Prop,(∀b,Im b->Im' b)->(∀b,T i b->¬T' i b->Im' b)->Rel Im' w e' y' (T' i) ((xs.drop (i*e.size)).take e.size):=λi y' hy=>by
   have hi:=(gN.1 hy).1;have h1:=(hall i hi).choose_spec.1;have h2:=(hall i hi).choose_spec.2.choose_spec;have e1:T' i=(hall i hi).choose_spec.2.choose:=by simp only[T',dif_pos hi]
   rw[e1];have:y'=(hall i hi).choose:=rV (hy.symm.trans h1);rw[this];exact h2
  have hT0:∀i b,T' i b->T i b:=λi b hb=>by
   by_cases hi:i<x'.length
   ·exact (hT i _ (bX hi)).1 b hb
   ·have:T' i=λ_=>False:=by simp only[T',dif_neg hi]
    rw[this]at hb;exact hb.elim
  refine⟨λb=>dI v=some b\/∃i,T' i b,λb hb=>?_,λIm' k1 k2=>?_⟩
  ·rcases hb with hb|⟨i,hb⟩
   ·exact h4 b hb
   ·exact (h5 i b (hT0 i b hb)).1
  ·simp only[Rel];refine⟨v,ety,xs,T',rfl,by rw[hsz,c1];exact h2,by rw[c1];exact h3,λc hc=>.inl hc,λi c hc=>⟨.inr ⟨i,hc⟩,(h5 i c (hT0 i c hc)).2⟩,λi j c hij hc hc'=>h6 i j c hij (hT0 i c hc) (hT0 j c hc'),λi y' hy=>?_⟩;rw[hsz];refine (hT i y' hy).2 Im' k1 (λb hb hn=>k2 b (h5 i b hb).1 ?_);rintro (hr|⟨j,hj⟩)
   ·exact (h5 i b hb).2 hr
   ·by_cases e:j=i
    ·subst e;exact hn hj
    ·exact h6 j i b e (hT0 j b hj) hb
 |.pt e,.pt e',h,x,x',S,vs,hx,r=>by
  simp only[O.wk]at h;simp only[Rel]at r;obtain⟨b,us,ty',S0,rfl,h2,h3,h4,h5⟩:=r;obtain⟨T1,a1,a2⟩:=ni e e' h x x' S0 us (aas hx) h5;refine⟨λc=>c=b\/T1 c,λc hc=>?_,λIm' k1 k2=>?_⟩
  ·rcases hc with rfl|hc
   ·exact h2
   ·exact (h4 c (a1 c hc)).1
  ·simp only[Rel];refine⟨b,us,ty',T1,rfl,.inl rfl,h3,λc hc=>⟨.inr hc,(h4 c (a1 c hc)).2⟩,a2 Im' k1 (λc hc hn=>k2 c (h4 c hc).1 ?_)⟩;rintro (rfl|h)
   ·exact (h4 c hc).2 rfl
   ·exact hn h
 |.op e,.op e',h,x,x',S,vs,hx,r=>by simp only[O.wk]at h;have e1:=O.beq_eq h;subst e1;have:x=x':=rV ((uR (a:=.op e.strip) x).symm.trans hx);subst this;refine⟨S,λc hc=>hc,λIm' k1 _=>?_⟩;exact Rel.keep (λb hb=>⟨k1 b hb,rfl⟩) (.op e) x S vs (λ_ _=>rfl) r
 |.mp k v,.mp k' v',h,x,x',S,vs,hx,r=>by simp only[O.wk,aU,ao]at h;have e1:=T.beq_eq h.1;have e2:=T.beq_eq h.2;subst e1;subst e2;have:x=x':=rV ((uR (a:=.mp k v) x).symm.trans hx);subst this;simp only[Rel]at r;obtain⟨b,es,n,rfl,h2,h3,h4⟩:=r;refine⟨λc=>c=b,λc hc=>by rw[hc];exact h2,λIm' k1 _=>?_⟩;simp only[Rel];exact⟨b,es,n,rfl,rfl,h3,h4⟩
 |o,.fz t,h,x,x',S,vs,hx,r=>ag1 hx r
 |.p _ _,.mp _ _,h,_,_,_,_,_,_|.p _ _,.op _,h,_,_,_,_,_,_|.sl _,.mp _ _,h,_,_,_,_,_,_|.sl _,.op _,h,_,_,_,_,_,_|.pt _,.mp _ _,h,_,_,_,_,_,_|.pt _,.op _,h,_,_,_,_,_,_|.mp _ _,.p _ _,h,_,_,_,_,_,_|.op _,.p _ _,h,_,_,_,_,_,_|.mp _ _,.sl _,h,_,_,_,_,_,_|.op _,.sl _,h,_,_,_,_,_,_|.mp _ _,.pt _,h,_,_,_,_,_,_|.op _,.pt _,h,_,_,_,_,_,_=>by simp[O.wk]at h
 |.fz s,.mp _ _,h,_,_,_,_,_,_|.fz s,.op _,h,_,_,_,_,_,_=>by cases s<;>simp[O.wk]at h
 |.fz (.ifc _ _),.p _ _,h,_,_,_,_,_,_|.fz (.ib _ _),.p _ _,h,_,_,_,_,_,_|.fz (.mp _ _),.p _ _,h,_,_,_,_,_,_|.fz (.op _),.p _ _,h,_,_,_,_,_,_|.fz (.ns _),.p _ _,h,_,_,_,_,_,_|.fz (.er _),.p _ _,h,_,_,_,_,_,_|.p _ _,.sl _,h,_,_,_,_,_,_|.p _ _,.pt _,h,_,_,_,_,_,_|.sl _,.p _ _,h,_,_,_,_,_,_|.sl _,.pt _,h,_,_,_,_,_,_|.pt _,.p _ _,h,_,_,_,_,_,_|.pt _,.sl _,h,_,_,_,_,_,_=>by simp[O.wk]at h
 |.fz s,.sl _,h,_,_,_,_,_,_|.fz s,.pt _,h,_,_,_,_,_,_=>by cases s<;>simp[O.wk]at h
 |.fz (.int _),.p _ _,h,_,_,_,_,_,_|.fz .bool,.p _ _,h,_,_,_,_,_,_|.fz .str,.p _ _,h,_,_,_,_,_,_|.fz .u,.p _ _,h,_,_,_,_,_,_|.fz (.sl _),.p _ _,h,_,_,_,_,_,_|.fz (.pt _),.p _ _,h,_,_,_,_,_,_|.fz (.fn _ _),.p _ _,h,_,_,_,_,_,_|.fz .any,.p _ _,h,_,_,_,_,_,_=>by simp[O.wk]at h
end Go.Bm
