/- The typed machine that the walks of this claim go by: its data, its operations and the proof that each is sound. No condition. -/
import Derived.Test.YtimfdllgcnabjaaGreatBmTwo
import GoSem.ClaimJoined
import Derived.MapKept
import Derived.ChangeKeysEq
import Derived.Orders
set_option linter.unusedVariables false
set_option linter.unusedSimpArgs false
set_option linter.unusedSectionVars false
/- The ff machine:calls. -/
namespace Go.Bm
open Go.RowKit
abbrev a15:=@Nat.lt_or_ge
abbrev a3r:=@Nat.lt_succ_self
abbrev a4y:=@List.cons_append
abbrev a25:=@List.mem_append_right
abbrev a2b:=@List.mem_append_left
abbrev a5e:=@Value.pointer.injEq
abbrev a3s:=@Oper.upon_enter
abbrev a1k:=@List.mem_cons_of_mem
abbrev a3t:=@Nat.sub_zero
abbrev a3u:=@Array.getElem?_append_left
abbrev a3v:=@Array.getD_eq_getD_getElem?
abbrev a26:=@Oper.wp_mono
abbrev a1t:=@List.mem_cons_self
abbrev a2y:=@getD_set_ne
abbrev a4a:=@of_decide_eq_true
abbrev a2z:=@Nat.blt_eq
abbrev a3w:=@mem_ready
abbrev a3x:=@List.not_mem_nil
abbrev a2c:=@List.mem_map
abbrev a20:=@List.mem_filterMap
abbrev a4z:=@List.drop_eq_nil_of_le
abbrev a3y:=@List.drop_eq_getElem_cons
abbrev a3z:=@wpOp_mono
abbrev a27:=@Array.mem_of_getElem?
abbrev a30:=@List.getElem?_take_of_lt
abbrev a28:=@Option.some.inj
def T.flat:T->Bool
 |.int _|.bool|.str|.u|.any=>true
 |.p a b=>nob a.flat b.flat
 |.fn _ t|.ifc _ t|.ib _ t=>t.flat
 |.mp _ _|.op _|.ns _=>false
 |.er _=>true
 |.sl _|.pt _=>false
def O.flat:O->Bool
 |.fz t=>t.flat
 |.p a b=>nob a.flat b.flat
 |.sl e=>e.flat
 |.pt o=>o.flat
 |.mp _ _=>true
 |.op e=>e.flat
def af9:List (Bool×O)->Bool
 |[]=>true
 |q::r=>nob q.2.flat (af9 r)
theorem afx{Im Im':Nat->Prop}{w:World}:(t:T)->t.flat=true->(x:t.den)->(vs:List Value)->aq Im w t x vs->aq Im' w t x vs
 |.int _,_,_,_,r|.bool,_,_,_,r|.str,_,_,_,r|.u,_,_,_,r|.any,_,_,_,r=>by simpa only [aq]using r
 |.p a b,h,x,vs,r=>by simp only[T.flat,be,a0b]at h;simp only[aq]at r⊢;obtain⟨va,vb,h1,h2,h3⟩:=r;exact⟨va,vb,h1,afx a h.1 _ _ h2,afx b h.2 _ _ h3⟩
 |.fn f t,h,x,vs,r=>by simp only[T.flat]at h;simp only[aq]at r⊢;obtain⟨us,h1,h2⟩:=r;exact⟨us,h1,afx t h _ _ h2⟩
 |.ifc f t,h,x,vs,r|.ib f t,h,x,vs,r=>by simp only[T.flat]at h;simp only[aq]at r⊢;obtain⟨u,h1,h2⟩:=r;exact⟨u,h1,afx t h _ _ h2⟩
 |.mp _ _,h,_,_,_|.op _,h,_,_,_|.ns _,h,_,_,_=>by simp[T.flat]at h
 |.er _,_,_,_,r=>by simpa only [aq]using r
 |.sl _,h,_,_,_|.pt _,h,_,_,_=>by simp[T.flat]at h
theorem ae5{Im Im':Nat->Prop}{w:World}:(o:O)->o.flat=true->(x:o.strip.den)->(S:Nat->Prop)->(vs:List Value)->Rel Im w o x S vs->Rel Im' w o x S vs
 |.fz t,h,x,S,vs,r=>by simp only[O.flat]at h;simp only[Rel]at r⊢;exact afx t h x vs r
 |.p a b,h,x,S,vs,r=>by simp only[O.flat,be,a0b]at h;simp only[Rel]at r⊢;obtain⟨va,vb,S1,S2,h1,h2,h3,h4,h5,h6⟩:=r;exact⟨va,vb,S1,S2,h1,h2,h3,h4,ae5 a h.1 _ _ _ h5,ae5 b h.2 _ _ _ h6⟩
 |.sl e,h,x,S,vs,r=>by simp only[O.flat]at h;simp only[Rel]at r⊢;obtain⟨v,ety,xs,T,h1,h2,h3,h4,h5,h6,h7⟩:=r;exact⟨v,ety,xs,T,h1,h2,h3,h4,h5,h6,fun i x hx=>ae5 e h _ _ _ (h7 i x hx)⟩
 |.pt o,h,x,S,vs,r=>by simp only[O.flat]at h;simp only[Rel]at r⊢;obtain⟨b,us,ty',S',h1,h2,h3,h4,h5⟩:=r;exact⟨b,us,ty',S',h1,h2,h3,h4,ae5 o h _ _ _ h5⟩
 |.op e,h,x,S,vs,r=>by simp only[O.flat]at h;simp only[Rel]at r⊢;exact⟨r.1,r.2.1,fun y hy=>ae5 e h _ _ _ (r.2.2 y hy)⟩
 |.mp k v,h,x,S,vs,r=>by simp only[Rel]at r⊢;exact r
def mg(A:Nat->Prop)(w:World):List Bool->(ts:List T)->db ts->List Value->Prop
 |[],[],_,us=>us=[]
 |g::gs,t::ts,x,us=>∃u us' vs,us=u::us'/\(g=true->u=.agg (vs:List Value).toArray)/\(g=false->vs=[u])/\aq A w t x.1 vs/\mg A w gs ts x.2 us'
 |_,_,_,_=>False
def g9(Im:Nat->Prop)(w:World):(rs:List (Bool×O))->gq rs->(Nat->Prop)->List Value->Prop
 |[],_,_,us=>us=[]
 |q::rs,x,S,us=>∃u us' vs,∃S1 S2:Nat->Prop,us=u::us'/\(q.1=true->u=.agg (vs:List Value).toArray)/\(q.1=false->vs=[u])/\(∀b,S1 b->S b)/\(∀b,S2 b->S b)/\(∀b,S1 b->¬S2 b)/\Rel Im w q.2 x.1 S1 vs/\g9 Im w rs x.2 S2 us'
def ot:List Value->Value
 |[u]=>u
 |l=>.tuple l.toArray
def ahw(P:Program)(f:FuncId):Prop:=∀args w,(callFunc f args).run P w=.ok (.enter f args) w
theorem t6 {P : Program} {f : FuncId} {fn : Func} {c : Code} (hf : P.funcs[f]? = some fn) (hb : fn.body = some c) (hn : (fn.name == "runtime.NumGoroutine") = false) : ahw P f := by
 intro args w;have h : ¬ fn.name = "runtime.NumGoroutine" := by simpa using hn
 simp[callFunc,hf,hb,h]
structure ExtS (w w':World) (T:Nat->Prop):Prop where
 os:w'.os=w.os
 tape:TD w' w
 output:w'.output=w.output
 size:w.heap.size<=w'.heap.size
 old:∀b,b<w.heap.size->¬T b->w'.heap[b]? = w.heap[b]?
def uj(P:Program)(A:Nat->Prop)(w:World):Prop:=
 ∀ g, P.globalNamed "errors.errorType" = some g -> A g /\ ∃ rt et, (P.cutTypes.find? (·.1 == "internal/reflectlite.rtype")).map (·.2) = some rt /\ et < P.types.size /\
  P.rowNamed et [101,114,114,111,114]=true/\w.cell? ⟨g,0,none⟩=some (.iface rt (.agg #[typeHandle P et]))
theorem bsu{w w':World}{b:Nat}(h:w'.heap[b]? = w.heap[b]?):w'.cell? ⟨b,0,none⟩=w.cell? ⟨b,0,none⟩:=by simp only[World.cell?,h]
theorem cba{w:World}{b:Nat}{v:Value}(h:w.cell? ⟨b,0,none⟩=some v):b<w.heap.size:=by
 rcases a15 b w.heap.size with h'|h'
 ·exact h'
 ·simp[World.cell?,Array.getElem?_eq_none h']at h
theorem uj.of{P:Program}{A A':Nat->Prop}{w w':World}(h:uj P A w)(hA:∀b,A b->b<w.heap.size->A' b/\w'.heap[b]? = w.heap[b]?):uj P A' w':=fun g hg=>by obtain⟨h1,rt,et,h2,h3,h4,h5⟩:=h g hg;obtain⟨k1,k2⟩:=hA g h1 (cba h5);exact⟨k1,rt,et,h2,h3,h4,by rw[bsu k2];exact h5⟩
def MtOk(P:Program)(f:FuncId)(m:Mt):Prop:=
 m.o.flat=true/\∀(A:Nat->Prop)(w:World)(u:Value)(vs:List Value)(x:m.o.strip.den)(k:Int)(S:Nat->Prop),uj P A w->(∀b,S b->¬A b)->(m.g=true->u=.agg vs.toArray)->(m.g=false->vs=[u])->Rel (fun _=>False) w m.o x S vs->
  (∀b,S b->b<w.heap.size)->inK .i64 k->ab (m.pre x k)->
  Calls P f #[u,.int .i64 k] w fun e w'=>e=.returned (.int .i64 (m.res x k).2)/\ExtS w w' S/\inK .i64 (m.res x k).2/\
   ∃S':Nat->Prop,Rel (fun _=>False) w' m.o (m.res x k).1 S' vs/\∀b,S' b->S b\/w.heap.size<=b/\b<w'.heap.size
def bo6(P:Program)(f:FuncId)(W:Wt):Prop:=
 ∀(A:Nat->Prop)(w:World)(u:Value)(x:W.o.strip.den)(us:List Value)(y:db W.as)(S:Nat->Prop),uj P A w->(∀b,A b->b<w.heap.size)->(∀b,S b->b<w.heap.size/\¬A b)->
  Rel (fun b=>A b) w W.o x S [u]->mg A w W.ag W.as y us->ab (W.pre x y)->
  Calls P f (gw W.i u us).toArray w fun e w'=>∃rs R S',e=.returned (ot rs)/\ExtS w w' S/\(∀b,R b->w.heap.size<=b/\b<w'.heap.size)/\(∀b,S' b->(S b\/w.heap.size<=b/\b<w'.heap.size)/\¬R b)/\
   Rel (fun b=>b<w'.heap.size/\(A b\/S b\/w.heap.size<=b)/\¬S' b/\¬R b) w' W.o (W.new x y) S' [u]/\
   g9 (fun b=>b<w'.heap.size/\(A b\/S b\/w.heap.size<=b)/\¬S' b/\¬R b) w' W.rt (W.res x y) R rs
def AlR(w:World)(u:Value):T->List Value->Prop
 |.pt t,vs=>cd5 t=true->∃b o,vs=[.pointer (some ⟨b,o,none⟩)]/\pg w b o [u]
 |.p a b,vs=>∃va vb,vs=va++vb/\va.length=a.size/\AlR w u a va/\AlR w u b vb
 |.fn f t,vs=>∃us:List Value,vs=[.func (.func f) #[] us.toArray]/\AlR w u t us
 |_,_=>True
def AlL(w:World)(u:Value):List T->List Value->Prop
 |t::ts,v::vs=>AlR w u t [v]/\AlL w u ts vs
 |_,_=>True
def WaOk(P:Program)(f:FuncId)(W:Wa):Prop:=
 ∀(A:Nat->Prop)(w:World)(u v:Value)(x:W.o.strip.den)(us:List Value)(y:db W.as)(S:Nat->Prop),uj P A w->(∀b,A b->b<w.heap.size)->(∀b,S b->b<w.heap.size/\¬A b)->
  Rel (fun b=>A b) w W.o x S [u]->Adr (fun _=>u) [(0,⟨W.o,x⟩)] w 0 W.way v->mg A w (x4 W.as) W.as y us->AlL w u W.as us->ab (W.pre x y)->
  Calls P f (v::us).toArray w fun e w'=>∃S',e=.returned (ot [])/\ExtS w w' S/\(∀b,S' b->S b\/w.heap.size<=b/\b<w'.heap.size)/\
   Rel (fun b=>b<w'.heap.size/\(A b\/S b\/w.heap.size<=b)/\¬S' b) w' W.o (W.new x y) S' [u]
def AnF(A:Nat->Prop)(w:World)(u:Value):(t:T)->t.den->List Value->Prop
 |.any,_,vs=>vs=[u]
 |.p a b,x,vs=>∃va vb,vs=va++vb/\AnF A w u a x.1 va/\AnF A w u b x.2 vb
 |.fn f t,x,vs=>∃us:List Value,vs=[.func (.func f) #[] us.toArray]/\AnF A w u t x us
 |t,x,vs=>aq A w t x vs
def bvu(A:Nat->Prop)(w:World)(u:Value):List Bool->(ts:List T)->db ts->List Value->Prop
 |[],[],_,us=>us=[]
 |true::gs,t::ts,x,us=>∃us' vs,us=.agg (vs:List Value).toArray::us'/\aq A w t x.1 vs/\bvu A w u gs ts x.2 us'
 |false::gs,t::ts,x,us=>∃v us',us=v::us'/\AnF A w u t x.1 [v]/\bvu A w u gs ts x.2 us'
 |_,_,_,_=>False
def WcOk(P:Program)(f:FuncId)(W:Wc):Prop:=
 W.o.flat=true/\∀(A:Nat->Prop)(w:World)(u:Value)(x:W.o.strip.den)(us:List Value)(y:db W.as)(S:Nat->Prop),uj P A w->(∀b,A b->b<w.heap.size)->(∀b,S b->b<w.heap.size/\¬A b)->
  Rel (fun b=>A b) w W.o x S [u]->bvu A w u W.ag W.as y us->ab (W.pre x y)->
  Calls P f us.toArray w fun e w'=>∃S',e=.returned (ot [])/\ExtS w w' S/\(∀b,S' b->S b\/w.heap.size<=b/\b<w'.heap.size)/\
   Rel (fun b=>b<w'.heap.size/\(A b\/S b\/w.heap.size<=b)/\¬S' b) w' W.o (W.new x y) S' [u]
def bwl(P:Program)(f:FuncId)(W:Wu):Prop:=
 ∀(A:Nat->Prop)(w:World)(u:Value)(x:W.o.strip.den)(us:List Value)(y:db W.as)(S:Nat->Prop),uj P A w->(∀b,A b->b<w.heap.size)->(∀b,S b->b<w.heap.size/\¬A b)->
  Rel (fun b=>A b) w W.o x S [u]->mg A w W.ag W.as y us->ab (W.pre x y)->
  Calls P f (gw W.i u us).toArray w fun e w'=>∃rs R,e=.returned (ot rs)/\ExtS w w' S/\(∀b,R b->b<w'.heap.size/\(S b\/w.heap.size<=b))/\
   g9 (fun b=>b<w'.heap.size/\(A b\/S b\/w.heap.size<=b)/\¬R b) w' W.rt (W.res x y) R rs
def blm(P:Program)(f:FuncId)(ct:Ct):Prop:=∀(A:Nat->Prop)(w:World)(us:List Value)(x:db ct.args),uj P A w->(∀b,A b->b<w.heap.size)->mg A w ct.ga ct.args x us->ab (ct.pre x)->
  Calls P f us.toArray w fun e w'=>∃rs S,e=.returned (ot rs)/\Ext w w'/\(∀b,S b->w.heap.size<=b/\b<w'.heap.size)/\
   g9 (fun b=>b<w'.heap.size/\(ct.sh=true/\A b\/w.heap.size<=b)/\¬S b) w' ct.rt (ct.res x) S rs
def ceb(P:Program)(f:FuncId)(O:Orc):Prop:=∀(F:Fr)(p:Ow)(M:Mem)(w:World)(vs:List V)(us:List Value),uj P (fun b=>F.A b/\¬F.RR b) F.w0->Hp F p M w->(∀b,¬p.L b)->us.length=vs.length->
  (∀(i:Nat) v u,vs[i]? = some v->us[i]? = some u->ao p.β M (Imm F p M w) w v u)->ab (aor O vs M).vc->
  Calls P f us.toArray w fun e w'=>∃r,e=.returned r/\gx F p M w true (aor O vs M) r w'
def bw(P:Program)(f:FuncId)(ct:Ct):Prop:=
 ahw P f/\match ct.mu with
 |some (.o O)=>ceb P f O
 |some (.m m)=>MtOk P f m
 |some (.w W)=>bo6 P f W
 |some (.a W)=>WaOk P f W
 |some (.k W)=>bwl P f W
 |some (.c W)=>WcOk P f W
 |some (.s s)=>blm P f (spCt s true)/\blm P f (spCt s false)
 |none=>blm P f ct
def uf(P:Program)(Φ:FuncId->Option Ct):Prop:=∀f ct,Φ f=some ct->bw P f ct
def ah4(P:Program)(F:Fr):Prop:=uj P (fun b=>F.A b/\¬F.RR b) F.w0
def uw(P:Program)(F:Fr)(Φ:FuncId->Option Ct):Prop:=uf P Φ/\ah4 P F
section
variable {F:Fr} {p p' p'':Ow} {env:Env} {M M' M'':Mem} {a:Act} {w w' w'':World} {P:Program} {B:Tab}
def All(F:Fr)(w:World):Nat->Prop:=fun b=>b<w.heap.size/\(F.A b\/F.RR b\/F.w0.heap.size<=b)
theorem bzt{b:Nat}(h:Imm F p M w b):All F w b:=⟨h.1,h.2.1⟩
theorem cam(hp:Hp F p M w){k b:Nat}(hl:c6 M k)(h:p.σ k b):All F w b:=by obtain⟨h1,h2⟩:=hp.own k b hl h;exact⟨h1,h2.elim (fun h=>.inr (.inl h.2)) (fun h=>.inr h.r)⟩
theorem afk(hp:Hp F p M w){A:Nat->Prop}{N:Mem}(hN:∀j ob,go N j=some ob->go M j=some ob)(hI:∀b,Imm F p M w b->A b)(hW:∀j b,c6 N j->p.σ j b->A b):(v:V)->(t:T)->(vs:List Value)->(x:t.den)->ak p.β M (Imm F p M w) w v vs->v.view N t=some x->aq A w t x vs
 |.d s y,t,vs,x,r,h=>by simp only[ak]at r;simp only[V.view]at h;exact aq.keep (fun b hb=>⟨hI b hb,rfl⟩) _ _ _ (awr h r)
 |.p a b,.p t s,vs,x,r,h=>by
  simp only[ak]at r;simp only[V.view]at h;split at h
  ·rename_i y z hy hz;cases h;obtain⟨va,vb,h1,h2,h3⟩:=r;simp only[aq];exact⟨va,vb,h1,afk hp hN hI hW a t va y h2 hy,afk hp hN hI hW b s vb z h3 hz⟩
  ·cases h
 |.nl,.sl _,vs,x,r,h=>by simp only[ak]at r;simp only[V.view,a0e]at h;subst h;simp only[aq];obtain⟨oa,r⟩:=r;exact⟨oa,0,r,⟨a1j _,a0k _⟩,fun _=>⟨rfl,rfl⟩,fun a ha hpos=>absurd hpos (a2x 0)⟩
 |.u,.u,vs,x,r,h=>by simp only[ak]at r;simp only[aq];exact r
 |.np,.any,vs,x,r,h=>by simp only[ak]at r;simp only[aq];exact⟨_,r,rfl⟩
 |.bx v,.pt t,vs,x,r,h=>by simp only[V.view]at h;simp only[ak]at r;obtain⟨b,o,us,h1,h2,h3,h4⟩:=r;simp only[aq];exact⟨b,o,us,h1,hI _ h2,h3,afk hp hN hI hW v t us x h4 h⟩
 |.fn f v,.fn f' t,vs,x,r,h=>by
  simp only[ak]at r;simp only[V.view,dg]at h;split at h
  ·rename_i e;subst e;obtain⟨us,h1,h2⟩:=r;simp only[aq];exact⟨us,h1,afk hp hN hI hW v t us x h2 h⟩
  ·cases h
 |.ref k π,t,vs,x,r,h=>by
  simp only[ak]at r;have h':au4 N k π t=some x:=by cases t<;>simpa only [V.view]using h
  unfold au4 at h';split at h'
  ·rename_i q hq;obtain⟨ob,h0,h2⟩:=uk hq;have h1:=hN _ _ h0;obtain⟨ob',pl,k1,k2,k3,k4⟩:=r;rw[h1]at k1;cases k1;obtain⟨us,pl',S',e1,e2,e3,_⟩:=look hp h1 k2 h2;rw[e1]at k4;cases k4;exact awr h' (Rel.frz hI _ _ S' _ (fun b hb=>hW _ b (cq h0) (e2 b hb)) e3)
  ·cases h'
 |.ad k π,.pt t,vs,x,r,h=>by
  simp only[ak]at r;obtain⟨v,rfl,r⟩:=r;simp only[V.view,au4]at h;split at h
  ·rename_i q hq;obtain⟨ob,h0,h2⟩:=uk hq;have h1:=hN _ _ h0;obtain⟨ob',us0,b0,off0,k1,k2,k3,k4,k5,rfl⟩:=r;rw[h1]at k1;cases k1;obtain⟨us,pl',S',e1,e2,e3,e4,_⟩:=look hp h1 k2 h2;rw[e1]at k5;simp only[a0e,a0n]at k5;obtain⟨rfl,rfl⟩:=k5;obtain⟨b,off,cur,ty',c1,c2,c3,c4,c5⟩:=e4 k4;simp only[a0e,a0n]at c1;obtain⟨rfl,rfl⟩:=c1;have:=awr h (Rel.frz hI _ _ S' _ (fun b hb=>hW _ b (cq h0) (e2 b hb)) e3);simp only[aq];exact⟨b0,off0,us,rfl,hW _ b0 (cq h0) c2,fun j u hu=>by rw[a2f w b0 _ cur ty' (0,0) c4];exact c5 j u hu,this⟩
  ·cases h
 |.p _ _,.int _,_,_,_,h|.p _ _,.bool,_,_,_,h|.p _ _,.str,_,_,_,h|.p _ _,.u,_,_,_,h|.p _ _,.sl _,_,_,_,h|.p _ _,.pt _,_,_,_,h|.p _ _,.fn _ _,_,_,_,h|.p _ _,.any,_,_,_,h|.nl,.int _,_,_,_,h|.nl,.bool,_,_,_,h|.nl,.str,_,_,_,h|.nl,.u,_,_,_,h|.nl,.p _ _,_,_,_,h|.nl,.pt _,_,_,_,h|.nl,.fn _ _,_,_,_,h|.nl,.any,_,_,_,h|.u,.int _,_,_,_,h|.u,.bool,_,_,_,h|.u,.str,_,_,_,h|.u,.sl _,_,_,_,h|.u,.p _ _,_,_,_,h|.u,.pt _,_,_,_,h|.u,.fn _ _,_,_,_,h|.u,.any,_,_,_,h|.np,.int _,_,_,_,h|.np,.bool,_,_,_,h|.np,.str,_,_,_,h|.np,.sl _,_,_,_,h|.np,.p _ _,_,_,_,h|.np,.pt _,_,_,_,h|.np,.fn _ _,_,_,_,h|.np,.u,_,_,_,h|.fn _ _,.int _,_,_,_,h|.fn _ _,.bool,_,_,_,h|.fn _ _,.str,_,_,_,h|.fn _ _,.sl _,_,_,_,h|.fn _ _,.p _ _,_,_,_,h|.fn _ _,.pt _,_,_,_,h|.fn _ _,.u,_,_,_,h|.fn _ _,.any,_,_,_,h|.bx _,.int _,_,_,_,h|.bx _,.bool,_,_,_,h|.bx _,.str,_,_,_,h|.bx _,.sl _,_,_,_,h|.bx _,.p _ _,_,_,_,h|.bx _,.fn _ _,_,_,_,h|.bx _,.u,_,_,_,h|.bx _,.any,_,_,_,h|.ad _ _,.int _,_,_,_,h|.ad _ _,.bool,_,_,_,h|.ad _ _,.str,_,_,_,h|.ad _ _,.u,_,_,_,h|.ad _ _,.p _ _,_,_,_,h|.ad _ _,.sl _,_,_,_,h|.ad _ _,.fn _ _,_,_,_,h|.ad _ _,.any,_,_,_,h|.any,_,_,_,_,h|.ag _,_,_,_,r,h|.tup _,_,_,_,r,h|.gd _ _ _ _,_,_,_,r,h=>by simp[V.view]at h
 |.ifc f v,.ifc f' t,vs,x,r,h=>by
  simp only[ak]at r;simp only[V.view,dg]at h;split at h
  ·rename_i e;subst e;obtain⟨u,h1,h2⟩:=r;simp only[aq];exact⟨u,h1,afk hp hN hI hW v t [u] x h2 h⟩
  ·cases h
 |.ifc _ _,.int _,_,_,_,h|.ifc _ _,.bool,_,_,_,h|.ifc _ _,.str,_,_,_,h|.ifc _ _,.sl _,_,_,_,h|.ifc _ _,.p _ _,_,_,_,h|.ifc _ _,.pt _,_,_,_,h|.ifc _ _,.u,_,_,_,h|.ifc _ _,.any,_,_,_,h|.ifc _ _,.fn _ _,_,_,_,h=>by simp[V.view]at h
theorem cae(hp:Hp F p M w)(v:V)(t:T)(vs:List Value)(x:t.den)(r:ak p.β M (Imm F p M w) w v vs)(h:v.view M t=some x):aq (All F w) w t x vs:=afk hp (fun _ _ h=>h) (fun _ h=>bzt h) (fun _ _ hl h=>cam hp hl h) v t vs x r h
theorem aq1(hG:ah4 P F)(hp:Hp F p M w)(hL:∀b,¬p.L b):uj P (Imm F p M w) w:=hG.of fun b hb hl=>⟨⟨a1a hl hp.size,.inl hb.1,hL b,fun k hk hs=>by
  rcases (hp.own k b hk hs).2 with h|h
  ·exact hb.2 h.2
  ·exact h.r.elim hb.2 fun h=>by omega⟩,hp.old b hl hb.2⟩
theorem cak(hG:ah4 P F)(hp:Hp F p M w):uj P (All F w) w:=hG.of fun b hb hl=>⟨⟨a1a hl hp.size,.inl hb.1⟩,hp.old b hl hb.2⟩
theorem amz(hp:Hp F p M w){v:V}{u:Value}(h:ao p.β M (Imm F p M w) w v u)(hc:od v=true):∃vs:List Value,(aau v=true->u=.agg vs.toArray)/\(aau v=false->vs=[u])/\ak p.β M (Imm F p M w) w v.cells vs:=by
 have hcc:=ahh hp h hc;refine⟨u.cells.toList,fun ha=>?_,fun ha=>?_,hcc⟩
 ·cases v<;>simp[aau]at ha;simp only[ao]at h;obtain⟨vs,rfl,_⟩:=h;simp[Value.cells]
 ·have key:ak p.β M (Imm F p M w) w v [u]->u.cells.toList=[u]:=fun r=>by rw[bgu (ak.one hp v _ r u (by simp))]
  cases v with
  |any|tup _|gd _ _ _ _=>cases hc
  |ifc _ _=>exact key (by simpa only [ao]using h)
  |ag y=>cases ha
  |p a b|u|ref k π|ad k π|d t y|nl|np|fn f y|bx y=>exact key (by simpa only [ao]using h)
theorem az4{v:V}{t:T}{x:t.den}(h:v.cells.view M t=some x):od v=true:=by cases v<;>first|rfl|(exfalso;revert h;cases t<;>simp[V.cells,V.view])
theorem bwi{v:V}{t:T}{x:t.den}(h:v.cells.as t=some x):od v=true:=by cases v<;>first|rfl|(exfalso;revert h;cases t<;>simp[V.cells,V.as])
theorem ax8{v:V}{r:List V}{g:Bool}{gs:List Bool}(h:shp (v::r) (g::gs)=true):aau v=g/\shp r gs=true:=by simp only[shp]at h;cases ha:aau v<;>cases g<;>simp[ha]at h⊢<;>exact h
theorem blv(hp:Hp F p M w):(vs:List V)->(gs:List Bool)->(ts:List T)->(x:db ts)->(us:List Value)->us.length=vs.length->(∀(i:Nat) v u,vs[i]? = some v->us[i]? = some u->ao p.β M (Imm F p M w) w v u)->shp vs gs=true->aaj M vs ts=some x->mg (All F w) w gs ts x us
 |[],[],[],x,us,hl,_,_,h=>by simp only[mg];exact a18 (by simpa using hl)
 |[],_::_,_,x,us,hl,_,hs,h=>by simp[shp]at hs
 |[],[],_::_,x,us,hl,_,hs,h=>by simp[aaj]at h
 |_::_,[],_,x,us,hl,_,hs,h=>by simp[shp]at hs
 |_::_,_::_,[],x,us,hl,_,hs,h=>by simp[aaj]at h
 |v::r,g::gs,t::ts,x,us,hl,hr,hs,h=>by
  simp only[aaj]at h;split at h
  ·rename_i y z hy hz;cases h
   cases us with
   |nil=>simp at hl
   |cons u us=>obtain⟨s1,s2⟩:=ax8 hs;obtain⟨cs,c1,c2,c3⟩:=amz hp (hr 0 v u rfl rfl) (az4 hy);simp only[mg];exact⟨u,us,cs,rfl,fun hg=>c1 (s1.trans hg),fun hg=>c2 (s1.trans hg),cae hp _ _ _ _ c3 hy,blv hp r gs ts z us (by simpa using hl) (fun i v' u' hv' hu'=>hr (i+1) v' u' (by simpa using hv') (by simpa using hu')) s2 hz⟩
  ·cases h
theorem auo(hp:Hp F p M w):(vs:List V)->(gs:List Bool)->(ts:List T)->(x:db ts)->(us:List Value)->us.length=vs.length->(∀(i:Nat) v u,vs[i]? = some v->us[i]? = some u->ao p.β M (Imm F p M w) w v u)->shp vs gs=true->asL vs ts=some x->mg (Imm F p M w) w gs ts x us
 |[],[],[],x,us,hl,_,_,h=>by simp only[mg];exact a18 (by simpa using hl)
 |[],_::_,_,x,us,hl,_,hs,h=>by simp[shp]at hs
 |[],[],_::_,x,us,hl,_,hs,h=>by simp[asL]at h
 |_::_,[],_,x,us,hl,_,hs,h=>by simp[shp]at hs
 |_::_,_::_,[],x,us,hl,_,hs,h=>by simp[asL]at h
 |v::r,g::gs,t::ts,x,us,hl,hr,hs,h=>by
  simp only[asL]at h;split at h
  ·rename_i y z hy hz;cases h
   cases us with
   |nil=>simp at hl
   |cons u us=>obtain⟨s1,s2⟩:=ax8 hs;obtain⟨cs,c1,c2,c3⟩:=amz hp (hr 0 v u rfl rfl) (bwi hy);simp only[mg];exact⟨u,us,cs,rfl,fun hg=>c1 (s1.trans hg),fun hg=>c2 (s1.trans hg),aiu _ _ _ _ c3 hy,auo hp r gs ts z us (by simpa using hl) (fun i v' u' hv' hu'=>hr (i+1) v' u' (by simpa using hv') (by simpa using hu')) s2 hz⟩
  ·cases h
theorem cac(e:Ev)(v:V):aau (v.ev e)=aau v:=by
 cases v with
 |ref k π=>
  have hx:∀t x,aau (n9 t x)=false:=fun t x=>by cases t<;>rfl
  cases e<;>simp only[V.ev,Ev.ref,dg]<;>split<;>first|rfl|(split<;>first|rfl|exact hx _ _)|(cases z7 π<;>rfl)|(rename_i o o' _;cases orb (z7 π) (bhw (trk π o) (trk π o'))<;>rfl)
 |ad k π=>cases e<;>simp only[V.ev,Ev.ad,dg]<;>split<;>first|rfl|(split<;>rfl)|(rename_i o o' _;cases aan (qb π o) (qb π o')<;>rfl)
 |_=>rfl
theorem bk4(v:V):∀e:List Ev,aau (v.evs e)=aau v
 |[]=>rfl
 |x::e=>by simp only[V.evs];rw[bk4 _ e,cac]
theorem av0(e:List Ev):∀(vs:List V)(gs:List Bool),shp (ux e vs) gs=shp vs gs
 |[],[]|[],_::_|_::_,[]=>rfl
 |v::r,g::gs=>by simp only[ux,shp,bk4];rw[av0 e r gs]
theorem bzb{d i j:Nat}(h:cid d i=cid d j):i=j:=by unfold cid at h;exact Nat.add_left_cancel h
structure Ad (F:Fr) (p:Ow) (M:Mem) (w:World) (d n j j':Nat) (S:Nat->Prop) (N:Mem) (p':Ow):Prop where
 le:j<=j'
 fr:∀i,j'<=i->i<n->go (ap N M) (cid d i)=none
 keys:∀k∈ca N,∃i,j<=i/\i<j'/\k=cid d i
 tr:Tr F p M w [] p' (ap N M) w
 L:∀b,p'.L b<->p.L b/\¬S b
 old:∀i ob,go M i=some ob->go (ap N M) i=some ob/\p'.β i=p.β i/\p'.σ i=p.σ i
theorem Ad.one(h:Hp F p M w)(d n j:Nat)(hjn:j<n){S:Nat->Prop}{ob:Ob}{u:Value}(hfr:∀i,j<=i->i<n->go M (cid d i)=none)(hr:Rel (Imm F p M w) w ob.o ob.x S [u])(hS:∀b,S b->p.L b) :
  Ad F p M w d n j (Nat.succ j) S [(cid d j,ob)] (p.updL (cid d j) u S fun b=>p.L b/\¬S b):=by
 refine⟨a2a j,fun i hi hin=>?_,fun k hk=>⟨j,a0k _,a3r _,by simpa[ca]using hk⟩,?_,fun b=>a17,fun i o hi=>?_⟩
 ·have hne:cid d j≠cid d i:=fun e=>by have:=bzb e;subst this;exact a2x _ hi
  simp only[ap];rw[dn,ds hne];exact hfr i (by exact Nat.le_of_succ_le hi) hin
 ·simp only[ap];exact Tr.newL h _ (hfr j (a0k _) hjn) u S _ ob ⟨rfl,⟨rfl,a0k _⟩,rfl,a0k _,fun _ _ _=>rfl⟩ (fun b hb=>hb) (fun b hb=>.inr (hS b hb)) (fun hkp=>Rel.keep hkp _ _ _ _ (fun _ _=>rfl) hr)
 ·have hne:i≠cid d j:=by rintro rfl;rw[hfr j (a0k _) hjn]at hi;cases hi
  refine⟨by simp only[ap];rw[dn,ds (a0u hne)];exact hi,by simp[Ow.updL,hne],by simp[Ow.updL,hne]⟩
theorem Ad.none(h:Hp F p M w)(d n j:Nat)(S:Nat->Prop)(hfr:∀i,j<=i->i<n->go M (cid d i)=none):Ad F p M w d n j j S [] ⟨p.β,p.σ,fun b=>p.L b/\¬S b⟩:=⟨a0k _,hfr,fun k hk=>by simp[ca]at hk,Tr.drop h _ (fun b hb=>hb.1),fun b=>a17,fun i ob hi=>⟨hi,rfl,rfl⟩⟩
theorem arl:∀(N N':Mem),ca (ap N N')=ca N++ca N'
 |[],N'=>rfl
 |(k,_)::N,N'=>by simp only[ap,ca,arl N N',a4y]
theorem amt{α:Type}(a b c:List α):ap (ap a b) c=ap a (ap b c):=by simp only[mj,a01]
theorem Ad.two{d n j j' j'':Nat}{S S1 S2:Nat->Prop}{N N':Mem}(h1:Ad F p M w d n j j' S1 N p')(h2:Ad F p' (ap N M) w d n j' j'' S2 N' p'')(hS1:∀b,S1 b->S b)(hS2:∀b,S2 b->S b) :
  Ad F p M w d n j j'' S (ap N' N) ⟨p''.β,p''.σ,fun b=>p''.L b/\¬S b⟩:=by
 have hap:ap (ap N' N) M=ap N' (ap N M):=amt _ _ _;refine⟨a0z h1.le h2.le,fun i hi hin=>by rw[hap];exact h2.fr i hi hin,fun k hk=>?_,?_,fun b=>?_,fun i ob hi=>?_⟩
 ·rw[arl]at hk;rcases a07.1 hk with hk|hk
  ·obtain⟨i,a1,a2,a3⟩:=h2.keys k hk;exact⟨i,a0z h1.le a1,a2,a3⟩
  ·obtain⟨i,a1,a2,a3⟩:=h1.keys k hk;exact⟨i,a1,a1a a2 h2.le,a3⟩
 ·rw[hap];exact h1.tr.trans (h2.tr.trans (Tr.drop h2.tr.hp _ (fun b hb=>hb.1)))
 ·show p''.L b/\¬S b<->_;rw[h2.L,h1.L];constructor
  ·rintro⟨⟨⟨a1,_⟩,_⟩,a2⟩;exact⟨a1,a2⟩
  ·rintro⟨a1,a2⟩;exact⟨⟨⟨a1,fun h=>a2 (hS1 b h)⟩,fun h=>a2 (hS2 b h)⟩,a2⟩
 ·obtain⟨a1,a2,a3⟩:=h1.old i ob hi;obtain⟨b1,b2,b3⟩:=h2.old i ob a1;exact⟨by rw[hap];exact b1,b2.trans a2,b3.trans a3⟩
theorem av9(d:Nat):(o:O)->(j:Nat)->(x:o.strip.den)->j<=(n7 d j o x).2.2/\∀i,j<=i->i<(n7 d j o x).2.2->cid d i∈ca (n7 d j o x).2.1
 |.fz t,j,x=>by simp only[n7];exact⟨a0k _,fun i h1 h2=>by omega⟩
 |.sl e,j,x|.pt e,j,x|.mp k v,j,x=>by simp only[n7];exact⟨a2a _,fun i h1 h2=>by (have:i=j:=by omega);subst this;simp[ca]⟩
 |.op e,j,x=>by simp only[n7];exact⟨a0k _,fun i h1 h2=>by omega⟩
 |.p a b,j,x=>by
  obtain⟨a1,a2⟩:=av9 d a j x.1;simp only[n7];generalize n7 d j a x.1=q1 at a1 a2⊢;obtain⟨v1,N1,j1⟩:=q1;simp only at a1 a2⊢;obtain⟨b1,b2⟩:=av9 d b j1 x.2;generalize n7 d j1 b x.2=q2 at b1 b2⊢;obtain⟨v2,N2,j2⟩:=q2;simp only at b1 b2⊢;refine⟨a0z a1 b1,fun i h1 h2=>?_⟩;rw[arl];by_cases h:i<j1
  ·exact a25 _ (a2 i h1 h)
  ·exact a2b _ (b2 i (by omega) h2)
theorem apz(d:Nat):(rs:List (Bool×O))->(j:Nat)->(x:gq rs)->j<=(newL d j rs x).2.2/\∀i,j<=i->i<(newL d j rs x).2.2->cid d i∈ca (newL d j rs x).2.1
 |[],j,x=>by simp only[newL];exact⟨a0k _,fun i h1 h2=>by omega⟩
 |q::rs,j,x=>by
  obtain⟨a1,a2⟩:=av9 d q.2 j x.1;simp only[newL];generalize n7 d j q.2 x.1=q1 at a1 a2⊢;obtain⟨v1,N1,j1⟩:=q1;simp only at a1 a2⊢;obtain⟨b1,b2⟩:=apz d rs j1 x.2;generalize newL d j1 rs x.2=q2 at b1 b2⊢;obtain⟨v2,N2,j2⟩:=q2;simp only at b1 b2⊢;refine⟨a0z a1 b1,fun i h1 h2=>?_⟩;rw[arl];by_cases h:i<j1
  ·exact a25 _ (a2 i h1 h)
  ·exact a2b _ (b2 i (by omega) h2)
theorem bd1(d n:Nat):(o:O)->(M:Mem)->(p:Ow)->(j:Nat)->(x:o.strip.den)->(S:Nat->Prop)->(vs:List Value)->Hp F p M w->Rel (Imm F p M w) w o x S vs->(∀b,S b->p.L b)->(n7 d j o x).2.2<=n->(∀i,j<=i->i<n->go M (cid d i)=none)->
  ∃p',Ad F p M w d n j (n7 d j o x).2.2 S (n7 d j o x).2.1 p'/\ak p'.β (ap (n7 d j o x).2.1 M) (Imm F p' (ap (n7 d j o x).2.1 M) w) w (n7 d j o x).1 vs
 |.fz t,M,p,j,x,S,vs,h,r,hS,hn,hfr=>by simp only[n7,ap];have ha:=Ad.none h d n j S hfr;refine⟨_,ha,th t x vs ?_⟩;simp only[Rel]at r;exact aq.keep ha.tr.keep _ _ _ r
 |.op e,M,p,j,x,S,vs,h,r,hS,hn,hfr=>by simp only[n7,ap];have ha:=Ad.none h d n j S hfr;refine⟨_,ha,?_⟩;simp only[Rel]at r;simp only[ak];exact r.2.1
 |.sl e,M,p,j,x,S,vs,h,r,hS,hn,hfr=>by
  simp only[n7];obtain⟨u,rfl⟩:∃u,vs=[u]:=by simp only[Rel]at r;obtain⟨v,_,_,_,rfl,_⟩:=r;exact⟨v,rfl⟩
  have ha:=Ad.one (ob:=⟨.sl e,x⟩) h d n j (by simp only[n7]at hn;exact hn) hfr r hS;refine⟨_,ha,?_⟩;simp only[ak,ap];refine⟨⟨.sl e,x⟩,Option.none,qd _ _ _,by simp only[gok],⟨⟨.sl e,x⟩,by simp only[get]⟩,?_⟩;simp only[res,Ow.updL,a04]
 |.mp e e',M,p,j,x,S,vs,h,r,hS,hn,hfr=>by
  simp only[n7];obtain⟨u,rfl⟩:∃u,vs=[u]:=by simp only[Rel]at r;obtain⟨b,_,_,rfl,_⟩:=r;exact⟨_,rfl⟩
  have ha:=Ad.one (ob:=⟨.mp e e',x⟩) h d n j (by simp only[n7]at hn;exact hn) hfr r hS;refine⟨_,ha,?_⟩;simp only[ak,ap];refine⟨⟨.mp e e',x⟩,Option.none,qd _ _ _,by simp only[gok],⟨⟨.mp e e',x⟩,by simp only[get]⟩,?_⟩;simp only[res,Ow.updL,a04]
 |.pt o,M,p,j,x,S,vs,h,r,hS,hn,hfr=>by
  simp only[n7];obtain⟨b,us,ty',S',rfl,_⟩:∃b us ty' S',vs=[.pointer (some ⟨b,0,Option.none⟩)]/\S b/\w.heap[b]? = some (.cells (us:List Value).toArray ty' (0,0))/\(∀c,S' c->S c/\c≠b)/\Rel (Imm F p M w) w o x S' us:=by simp only[Rel]at r;exact r
  have ha:=Ad.one (ob:=⟨.pt o,x⟩) h d n j (by simp only[n7]at hn;exact hn) hfr r hS;refine⟨_,ha,?_⟩;simp only[ak,ap];refine⟨_,rfl,⟨.pt o,x⟩,cellsOf w b 0 o.size,b,0,qd _ _ _,by simp only[gok],⟨⟨o,x⟩,by simp only[get]⟩,rfl,?_,rfl⟩;simp only[res,Ow.updL,a04]
 |.p a b,M,p,j,x,S,vs,h,r,hS,hn,hfr=>by
  simp only[Rel]at r;obtain⟨va,vb,S1,S2,rfl,h1,h2,h3,ha,hb⟩:=r;have hle:=av9 d b (n7 d j a x.1).2.2 x.2;simp only[n7]at hn;obtain⟨p1,a1,a2⟩:=bd1 d n a M p j x.1 S1 va h ha (fun c hc=>hS c (h1 c hc)) (a0z hle.1 hn) hfr;simp only[n7];generalize n7 d j a x.1=q1 at a1 a2 hn hle⊢;obtain⟨v1,N1,j1⟩:=q1;simp only at a1 a2 hn hle⊢;obtain⟨p2,b1,b2⟩:=bd1 d n b (ap N1 M) p1 j1 x.2 S2 vb a1.tr.hp (Rel.keep a1.tr.keep _ _ _ _ (fun _ _=>rfl) hb) (fun c hc=>(a1.L c).2 ⟨hS c (h2 c hc),fun hc1=>h3 c hc1 hc⟩) hn a1.fr;generalize n7 d j1 b x.2=q2 at b1 b2⊢;obtain⟨v2,N2,j2⟩:=q2;simp only at b1 b2⊢;have hc:=a1.two b1 h1 h2;refine⟨_,hc,?_⟩;have hd:=Tr.drop b1.tr.hp (fun b=>p2.L b/\¬S b) (fun b hb=>hb.1);rw[amt];simp only[ak];refine⟨va,vb,rfl,?_,?_⟩
  ·have:=(b1.tr.trans hd).c _ _ a2;simpa only [ap,V.evs]using this
  ·have:=hd.c _ _ b2;simpa only [V.evs]using this
theorem aws(d n:Nat):(rs:List (Bool×O))->(M:Mem)->(p:Ow)->(j:Nat)->(x:gq rs)->(S:Nat->Prop)->(us:List Value)->Hp F p M w->g9 (Imm F p M w) w rs x S us->(∀b,S b->p.L b)->(newL d j rs x).2.2<=n->(∀i,j<=i->i<n->go M (cid d i)=none)->
  ∃p',Ad F p M w d n j (newL d j rs x).2.2 S (newL d j rs x).2.1 p'/\da p'.β (ap (newL d j rs x).2.1 M) (Imm F p' (ap (newL d j rs x).2.1 M) w) w (newL d j rs x).1 us
 |[],M,p,j,x,S,us,h,r,hS,hn,hfr=>by simp only[g9]at r;simp only[newL,ap,da];exact⟨_,Ad.none h d n j S hfr,r⟩
 |q::rs,M,p,j,x,S,us,h,r,hS,hn,hfr=>by
  simp only[g9]at r;obtain⟨u,us',vs,S1,S2,rfl,g1,g2,h1,h2,h3,ha,hb⟩:=r;have hle:=apz d rs (n7 d j q.2 x.1).2.2 x.2;simp only[newL]at hn;obtain⟨p1,a1,a2⟩:=bd1 d n q.2 M p j x.1 S1 vs h ha (fun c hc=>hS c (h1 c hc)) (a0z hle.1 hn) hfr;simp only[newL];generalize n7 d j q.2 x.1=q1 at a1 a2 hn hle⊢;obtain⟨v1,N1,j1⟩:=q1;simp only at a1 a2 hn hle⊢
  have hbk:∀(rs:List (Bool×O)) (x:gq rs) (S:Nat->Prop) (us:List Value),g9 (Imm F p M w) w rs x S us->g9 (Imm F p1 (ap N1 M) w) w rs x S us:=by
   intro rs
   induction rs with
   |nil=>intro x S us r;simpa only [g9]using r
   |cons q rs ih=>intro x S us r;simp only[g9]at r⊢;obtain⟨u,us',vs,S1,S2,e1,e2,e3,e4,e5,e6,e7,e8⟩:=r;exact⟨u,us',vs,S1,S2,e1,e2,e3,e4,e5,e6,Rel.keep a1.tr.keep _ _ _ _ (fun _ _=>rfl) e7,ih _ _ _ e8⟩
  obtain⟨p2,b1,b2⟩:=aws d n rs (ap N1 M) p1 j1 x.2 S2 us' a1.tr.hp (hbk _ _ _ _ hb) (fun c hc=>(a1.L c).2 ⟨hS c (h2 c hc),fun hc1=>h3 c hc1 hc⟩) hn a1.fr;generalize newL d j1 rs x.2=q2 at b1 b2⊢;obtain⟨v2,N2,j2⟩:=q2;simp only at b1 b2⊢;have hc:=a1.two b1 h1 h2;refine⟨_,hc,?_⟩;have hd:=Tr.drop b1.tr.hp (fun b=>p2.L b/\¬S b) (fun b hb=>hb.1);rw[amt];simp only[da];refine⟨u,us',rfl,?_,?_⟩
  ·have h4:=(b1.tr.trans hd).c _ _ a2;simp only[ap,V.evs]at h4
   cases hq:q.1 with
   |true=>simp only[age,a0d,ao];exact⟨vs,g1 hq,h4⟩
   |false=>have:=g2 hq;subst this;simp only[age,a0j];exact bu h4
  ·have hT:∀(v:V)(us:List Value),da p2.β (ap N2 (ap N1 M)) (Imm F p2 (ap N2 (ap N1 M)) w) w v us->da p2.β (ap N2 (ap N1 M)) (Imm F ⟨p2.β,p2.σ,fun b=>p2.L b/\¬S b⟩ (ap N2 (ap N1 M)) w) w v us:=fun v us r=>by
    have h5:ao p2.β (ap N2 (ap N1 M)) (Imm F p2 (ap N2 (ap N1 M)) w) w (.tup v) (.tuple us.toArray):=by simp only[ao];exact⟨us,rfl,r⟩
    have h6:=hd.s _ _ h5;simp only[V.evs,ao,Value.tuple.injEq]at h6;obtain⟨us',e1,e2⟩:=h6;have:us=us':=by simpa using congrArg Array.toList e1
    rw[this];exact e2
   exact hT _ _ b2
end
end Go.Bm
/- The ff machine:calls that write what they are handed. -/
namespace Go.Bm
open Go.RowKit
theorem bqy(a b:V):∀e:List Ev,(V.p a b).evs e=.p (a.evs e) (b.evs e)
 |[]=>rfl
 |x::e=>by simp only[V.evs,V.ev];exact bqy _ _ e
theorem bue(a:V):∀e:List Ev,(V.ag a).evs e=.ag (a.evs e)
 |[]=>rfl
 |x::e=>by simp only[V.evs,V.ev];exact bue _ e
theorem bmw(a:V):∀e:List Ev,(V.tup a).evs e=.tup (a.evs e)
 |[]=>rfl
 |x::e=>by simp only[V.evs,V.ev];exact bmw _ e
theorem btv(j:Nat)(b:Bool)(P:Prop)(a:V):∀e:List Ev,(V.gd j b P a).evs e=.gd j b P (a.evs e)
 |[]=>rfl
 |x::e=>by simp only[V.evs,V.ev];exact btv j b P _ e
theorem bt9(f:FuncId)(a:V):∀e:List Ev,(V.fn f a).evs e=.fn f (a.evs e)
 |[]=>rfl
 |x::e=>by simp only[V.evs,V.ev];exact bt9 f _ e
theorem bm4(t:TypeId)(a:V):∀e:List Ev,(V.ifc t a).evs e=.ifc t (a.evs e)
 |[]=>rfl
 |x::e=>by simp only[V.evs,V.ev];exact bm4 t _ e
theorem bto(a:V):∀e:List Ev,(V.bx a).evs e=.bx (a.evs e)
 |[]=>rfl
 |x::e=>by simp only[V.evs,V.ev];exact bto _ e
theorem bps:∀e:List Ev,V.u.evs e=.u
 |[]=>rfl
 |x::e=>by simp only[V.evs,V.ev];exact bps e
theorem aqg:∀e:List Ev,V.any.evs e=.any
 |[]=>rfl
 |x::e=>by simp only[V.evs,V.ev];exact aqg e
theorem bs4:∀e:List Ev,V.nl.evs e=.nl
 |[]=>rfl
 |x::e=>by simp only[V.evs,V.ev];exact bs4 e
theorem bsd:∀e:List Ev,V.np.evs e=.np
 |[]=>rfl
 |x::e=>by simp only[V.evs,V.ev];exact bsd e
theorem bxn(t:T)(y:t.den):∀e:List Ev,(V.d t y).evs e=.d t y
 |[]=>rfl
 |x::e=>by simp only[V.evs,V.ev];exact bxn t y e
section
variable {β β':Nat->Value} {M M':Mem} {Im Im':Nat->Prop} {w w':World}
theorem ak.evs{e:List Ev}(hk:ju Im Im' w w')(href:∀k π vs,Ref β M w k π vs->ak β' M' Im' w' ((V.ref k π).evs e) vs)(had:∀k π v,Adr β M w k π v->ak β' M' Im' w' ((V.ad k π).evs e) [v]) :
  (x:V)->(vs:List Value)->ak β M Im w x vs->ak β' M' Im' w' (x.evs e) vs
 |.p a b,vs,r=>by rw[bqy];simp only[ak]at r⊢;obtain⟨va,vb,h1,h2,h3⟩:=r;exact⟨va,vb,h1,ak.evs hk href had a va h2,ak.evs hk href had b vb h3⟩
 |.u,vs,r=>by rw[bps];simpa only [ak]using r
 |.ref k π,vs,r=>by simp only[ak]at r;exact href k π vs r
 |.ad k π,vs,r=>by simp only[ak]at r;obtain⟨v,rfl,h⟩:=r;exact had k π v h
 |.d t x,vs,r=>by rw[bxn];simp only[ak]at r⊢;exact aq.keep hk t x vs r
 |.nl,vs,r=>by rw[bs4];simpa only [ak]using r
 |.np,vs,r=>by rw[bsd];simpa only [ak]using r
 |.any,vs,r=>by rw[aqg];simpa only [ak]using r
 |.fn f v,vs,r=>by rw[bt9];simp only[ak]at r⊢;obtain⟨us,h1,h2⟩:=r;exact⟨us,h1,ak.evs hk href had v us h2⟩
 |.bx v,vs,r=>by rw[bto];simp only[ak]at r⊢;obtain⟨b,o,us,h1,h2,h3,h4⟩:=r;exact⟨b,o,us,h1,(hk b h2).1,h3.keep (hk b h2).2,ak.evs hk href had v us h4⟩
 |.ag _,vs,r|.tup _,vs,r|.gd _ _ _ _,vs,r=>by simp only[ak]at r
 |.ifc t v,vs,r=>by rw[bm4];simp only[ak]at r⊢;obtain⟨u,h1,h2⟩:=r;exact⟨u,h1,ak.evs hk href had v [u] h2⟩
mutual
theorem ao.evs{e:List Ev}(hk:ju Im Im' w w')(href:∀k π vs,Ref β M w k π vs->ak β' M' Im' w' ((V.ref k π).evs e) vs)(had:∀k π v,Adr β M w k π v->ak β' M' Im' w' ((V.ad k π).evs e) [v]) :
  (x:V)->(v:Value)->ao β M Im w x v->ao β' M' Im' w' (x.evs e) v
 |.any,v,r=>by rw[aqg];simp only[ao]
 |.ag x,v,r=>by rw[bue];simp only[ao]at r⊢;obtain⟨vs,h1,h2⟩:=r;exact⟨vs,h1,ak.evs hk href had x vs h2⟩
 |.tup x,v,r=>by rw[bmw];simp only[ao]at r⊢;obtain⟨vs,h1,h2⟩:=r;exact⟨vs,h1,da.evs hk href had x vs h2⟩
 |.gd j b P x,v,r=>by rw[btv];simp only[ao]at r⊢;exact⟨fun hp=>ao.evs hk href had x v (r.1 hp),r.2⟩
 |.ifc t x,v,r|.p a b,v,r|.u,v,r|.ref k π,v,r|.ad k π,v,r|.d t x,v,r|.nl,v,r|.np,v,r|.fn f x,v,r|.bx x,v,r=>by simp only[ao]at r;exact bu (ak.evs hk href had _ _ r)
theorem da.evs{e:List Ev}(hk:ju Im Im' w w')(href:∀k π vs,Ref β M w k π vs->ak β' M' Im' w' ((V.ref k π).evs e) vs)(had:∀k π v,Adr β M w k π v->ak β' M' Im' w' ((V.ad k π).evs e) [v]) :
  (x:V)->(vs:List Value)->da β M Im w x vs->da β' M' Im' w' (x.evs e) vs
 |.p a b,vs,r=>by rw[bqy];simp only[da]at r⊢;obtain⟨u,us,h1,h2,h3⟩:=r;exact⟨u,us,h1,ao.evs hk href had a u h2,da.evs hk href had b us h3⟩
 |.u,vs,r=>by rw[bps];simpa only [da]using r
 |.any,vs,r|.ag x,vs,r|.tup x,vs,r|.gd j b P x,vs,r|.ifc t x,vs,r|.ref k π,vs,r|.ad k π,vs,r|.d t x,vs,r|.nl,vs,r|.np,vs,r|.fn f x,vs,r|.bx x,vs,r=>by simp only[da]at r
end
end
theorem at5:∀{l:List Nat},ark l=true->∀k∈l,∀j∈l,gid<=k->gid<=j
 |[],_,k,hk,_,_,_=>by cases hk
 |[a],_,k,hk,j,hj,hg=>by simp only[a0s]at hk hj;subst hk;subst hj;exact hg
 |a::b::r,h,k,hk,j,hj,hg=>by
  simp only[ark]at h;have hb:∀n,Nat.ble gid n=true<->gid<=n:=fun n=>by rw[Nat.ble_eq]
  cases ha:Nat.ble gid a with
  |true=>
   rw[ha]at h;simp only[a0d]at h
   cases hb':Nat.ble gid b with
   |false=>rw[hb']at h;cases h
   |true=>
    rw[hb']at h;have ih:=at5 h b (by simp);rcases a0t.1 hj with rfl|hj
    ·exact (hb _).1 ha
    ·exact ih j hj ((hb _).1 hb')
  |false=>
   rw[ha]at h;simp only[a0j]at h
   cases hb':Nat.ble gid b with
   |true=>rw[hb']at h;cases h
   |false=>
    rw[hb']at h;have na:¬gid<=a:=fun h'=>by rw[(hb _).2 h']at ha;cases ha
    have nb':¬gid<=b:=fun h'=>by rw[(hb _).2 h']at hb';cases hb'
    exfalso;rcases a0t.1 hk with rfl|hk
    ·exact na hg
    ·exact nb' (at5 h k hk b (by simp) hg)
section
variable {F:Fr} {p:Ow} {M:Mem} {w w':World}
structure Upd (F:Fr) (p:Ow) (M:Mem) (w w':World) (T S':Nat->Prop) (L:List Nat) (σ':Nat->Nat->Prop) (M0 M1:Mem) (e:List Ev):Prop where
 keys:∀k,k∈L->∃ob ob',go M k=some ob/\go M1 k=some ob'/\∀Im':Nat->Prop,ju (Imm F p M w) Im' w w'->Rel Im' w' ob'.o ob'.x (σ' k) [p.β k]
 sub:∀k,k∈L->∀c,σ' k c->(p.σ k c/\¬T c)\/S' c
 dis:∀k k',k∈L->k'∈L->k≠k'->∀c,σ' k c->¬σ' k' c
 rest:∀k,k∉L->go M1 k=go M0 k
 ref:∀k π,(V.ref k π).evs e=if k∈L then (if z7 π=true then .ref k π else .any)else .ref k π
 ad:∀k,k∉L->∀π,(V.ad k π).evs e=.ad k π
 adk:∀k,k∈L->∀π,(V.ad k π).evs e=.any\/((V.ad k π).evs e=.ad k π/\∃ob ob' n,go M k=some ob/\go M1 k=some ob'/\qb π ob.o=some n/\qb π ob'.o=some n)
end
end Go.Bm
/- The ff machine:what a call leaves that writes a box. -/
namespace Go.Bm
open Go.RowKit
section
variable {F:Fr} {p:Ow} {M:Mem} {w w':World}
theorem bum(hp:Hp F p M w)(hL:∀b,¬p.L b){k:Nat}{o:O}{x x':o.strip.den}(hk:go M k=some ⟨o,x⟩){A S' R:Nat->Prop}(hA:∀b,A b->Imm F p M w b)(hX:ExtS w w' (p.σ k))
  (hR:∀b,R b->w.heap.size<=b/\b<w'.heap.size) (hS:∀b,S' b->(p.σ k b\/w.heap.size<=b/\b<w'.heap.size)/\¬R b)
  (hrel:Rel (fun b=>b<w'.heap.size/\(A b\/p.σ k b\/w.heap.size<=b)/\¬S' b/\¬R b) w' o x' S' [p.β k]) :
  ∃p',Tr F p M w [.cut k o o] p' (put k ⟨o,x'⟩ M) w'/\(∀b,p'.L b<->R b)/\(∀b,(b<w'.heap.size/\(A b\/p.σ k b\/w.heap.size<=b)/\¬S' b/\¬R b)->Imm F p' (put k ⟨o,x'⟩ M) w' b):=by
 generalize hp':(⟨p.β,fun j=>if j=k then S' else p.σ j,R⟩:Ow)=p';have hβ:p'.β=p.β:=by rw[←hp']
 have hσ1:p'.σ k=S':=by rw[←hp'];simp
 have hσ2:∀j,j≠k->p'.σ j=p.σ j:=fun j hj=>by rw[←hp'];simp[hj]
 have hL':∀b,p'.L b<->R b:=by rw[←hp'];exact fun b=>a17
 have hlk:=cq hk;have hg1:go (put k ⟨o,x'⟩ M) k=some ⟨o,x'⟩:=my _ _ hlk;have hg2:∀j,j≠k->go (put k ⟨o,x'⟩ M) j=go M j:=fun j hj=>lu _ hj _
 have hlv:∀j,c6 (put k ⟨o,x'⟩ M) j<->c6 M j:=fun j=>by
  by_cases hj:j=k
  ·subst hj;exact⟨fun _=>hlk,fun _=>cq hg1⟩
  ·unfold c6;rw[hg2 j hj]
 have hR0:∀b,R b->∀j,c6 M j->¬p.σ j b:=fun b hb j hj hs=>by have:=(hp.own j b hj hs).1;have:=(hR b hb).1;omega
 have hS0:∀b,S' b->∀j,j≠k->c6 M j->¬p.σ j b:=fun b hb j hj hl hs=>by
  rcases (hS b hb).1 with h|h
  ·exact hp.sep k j b (a0u hj) hlk hl h hs
  ·have:=(hp.own j b hl hs).1;omega
 have hkeep:ju (Imm F p M w) (Imm F p' (put k ⟨o,x'⟩ M) w') w w':=fun b hb=>by
  have hnT:¬p.σ k b:=hb.2.2.2 k hlk;refine⟨⟨a1a hb.1 hX.size,hb.2.1,fun h=>?_,fun j hj=>?_⟩,hX.old b hb.1 hnT⟩
  ·have:=(hR b ((hL' b).1 h)).1;have:=hb.1;omega
  ·by_cases h:j=k
   ·subst h;rw[hσ1];intro hc;rcases (hS b hc).1 with q|q
    ·exact hnT q
    ·have:=hb.1;omega
   ·rw[hσ2 j h];exact hb.2.2.2 j ((hlv j).1 hj)
 have hoth:∀j,j≠k->c6 M j->∀b,p.σ j b->w'.heap[b]? = w.heap[b]?:=fun j hj hl b hb=>hX.old b (hp.own j b hl hb).1 (fun h=>hp.sep k j b (a0u hj) hlk hl h hb)
 have himm:∀b,(b<w'.heap.size/\(A b\/p.σ k b\/w.heap.size<=b)/\¬S' b/\¬R b)->Imm F p' (put k ⟨o,x'⟩ M) w' b:=fun b ⟨b1,b2,b3,b4⟩=>by
  rcases b2 with h|h|h
  ·exact (hkeep b (hA b h)).1
  ·have hown:=hp.own k b hlk h;refine⟨b1,?_,fun h=>b4 ((hL' b).1 h),fun j hj=>?_⟩
   ·rcases hown.2 with⟨_,h2⟩|h2
    ·exact .inr (.inl h2)
    ·exact .inr h2.r
   ·by_cases hjk:j=k
    ·subst hjk;rw[hσ1];exact b3
    ·rw[hσ2 j hjk];exact hp.sep k j b (a0u hjk) hlk ((hlv j).1 hj) h
  ·refine⟨b1,.inr (.inr (a0z hp.size h)),fun h=>b4 ((hL' b).1 h),fun j hj=>?_⟩;by_cases hjk:j=k
   ·subst hjk;rw[hσ1];exact b3
   ·rw[hσ2 j hjk];exact fun hs=>by have:=(hp.own j b ((hlv j).1 hj) hs).1;omega
 have href:∀j π vs,Ref p.β M w j π vs->ak p'.β (put k ⟨o,x'⟩ M) (Imm F p' (put k ⟨o,x'⟩ M) w') w' (Ev.ref j π (.cut k o o)) vs:=fun j π vs r=>by
  simp only[Ev.ref,dg];by_cases h:j=k
  ·subst h;rw[a0a rfl]
   cases π with
   |nil=>simp only[z7,a0d,ak];obtain⟨ob,pl0,k1,k2,k3,k4⟩:=r;simp only[res,a0e,a0n]at k4;obtain⟨rfl,rfl⟩:=k4;exact⟨_,none,hg1,by simp only[gok],⟨_,by simp only[get];rfl⟩,by simp only[res,hβ]⟩
   |cons s ρ=>simp only[z7,a0j,ak];exact r.one hp
  ·rw[ds h];simp only[ak];exact r.same hp (hg2 j h) (by rw[hβ]) (hoth j h)
 have had:∀j π v,Adr p.β M w j π v->ak p'.β (put k ⟨o,x'⟩ M) (Imm F p' (put k ⟨o,x'⟩ M) w') w' (Ev.ad j π (.cut k o o)) [v]:=fun j π v r=>by
  simp only[Ev.ad,dg];by_cases h:j=k
  ·subst h;rw[a0a rfl]
   cases hs:aan (qb π o) (qb π o)with
   |false=>simp only[a0j,ak];intro u hu;rw[a0s.1 hu];exact r.one
   |true=>obtain⟨n,s1,_⟩:=arn hs;simp only[a0d,ak];refine⟨v,rfl,?_⟩;obtain⟨o0,us0,b0,off0,k1,k2,k3,k4,k5,rfl⟩:=r;rw[hk]at k1;cases k1;obtain⟨ρ1,o1,rfl,e1,f1⟩:=acl s1;subst e1;have hr:=hp.objs j _ hk;simp only[Rel]at hr;obtain⟨bb,us1,ty',S1,r1,r2,r3,r4,r5⟩:=hr;simp only[a0q,a0c]at r1;rw[r1]at k5;simp only[res]at k5;obtain⟨_,_,us2,q3⟩:=tx w ρ1 o1 n f1 x (cellsOf w bb 0 o1.size) (some (bb,0));rw[q3]at k5;simp only[a0e,a0n]at k5;obtain⟨q1,q2,us3,q3'⟩:=tx w' ρ1 o1 n f1 x' (cellsOf w' bb 0 o1.size) (some (bb,0));refine⟨_,us3,b0,off0,hg1,by simpa only [gok]using q2,by simpa only [get]using q1,by simp only[dp],?_,rfl⟩;rw[hβ,r1];simp only[res];rw[q3',k5.2]
  ·rw[ds h];simp only[ak];exact⟨v,rfl,r.same hp (hg2 j h) (by rw[hβ]) (hoth j h)⟩
 refine⟨p',Tr.one _ hkeep href had ⟨fun j ob hj=>?_,fun j j' b hne hj hj' hb=>?_,fun j b hj hb=>?_,fun b hb=>?_,hX.os.trans hp.os,hX.tape.trans hp.tape,hX.output.trans hp.output,a0z hp.size hX.size,fun b hb hRR=>?_⟩,hL',himm⟩
 ·by_cases h:j=k
  ·subst h;rw[hg1]at hj;cases hj;rw[hβ,hσ1];exact Rel.keep (fun b hb=>⟨himm b hb,rfl⟩) _ _ _ _ (fun _ _=>rfl) hrel
  ·rw[hg2 j h]at hj;rw[hβ,hσ2 j h];exact Rel.keep hkeep _ _ _ _ (hoth j h (cq hj)) (hp.objs j ob hj)
 ·have hj1:=(hlv j).1 hj;have hj2:=(hlv j').1 hj';by_cases h:j=k
  ·subst h;rw[hσ1]at hb;rw[hσ2 j' (a0u hne)];exact hS0 b hb j' (a0u hne) hj2
  ·rw[hσ2 j h]at hb;by_cases h':j'=k
   ·subst h';rw[hσ1];exact fun hc=>hS0 b hc j h hj1 hb
   ·rw[hσ2 j' h'];exact hp.sep j j' b hne hj1 hj2 hb
 ·have hj1:=(hlv j).1 hj;by_cases h:j=k
  ·subst h;rw[hσ1]at hb;rcases (hS b hb).1 with q|q
   ·have:=hp.own j b hj1 q;exact⟨a1a this.1 hX.size,this.2⟩
   ·exact⟨q.2,.inr (.inl (a0z hp.size q.1))⟩
  ·rw[hσ2 j h]at hb;have:=hp.own j b hj1 hb;exact⟨a1a this.1 hX.size,this.2⟩
 ·have hb:=(hL' b).1 hb;refine⟨(hR b hb).2,.inl (a0z hp.size (hR b hb).1),fun j hj=>?_⟩;by_cases h:j=k
  ·subst h;rw[hσ1];exact fun hs=>(hS b hs).2 hb
  ·rw[hσ2 j h];exact hR0 b hb j ((hlv j).1 hj)
 ·rw[hX.old b (a1a hb hp.size) (fun ht=>?_)]
  ·exact hp.old b hb hRR
  ·rcases (hp.own k b hlk ht).2 with⟨_,a2⟩|a1
   ·exact hRR a2
   ·exact a1.r.elim hRR fun h=>by omega
end
end Go.Bm
/- The ff machine:maps. -/
namespace Go.Bm
open Go.RowKit
section
variable {F:Fr} {p p' p'':Ow} {env:Env} {M M' M'':Mem} {a:Act} {w w' w'':World} {P:Program} {B:Tab}
structure KeyR (P:Program) (kty:TypeId) (k:T):Prop where
 check:∀(w:World)(e:Bool)(x:k.den),k.ok x->(Instr.checkKey e 10000 kty (apb k x)).run P w=.ok () w
 find:∀(w:World)(v:T)(x:k.den),k.ok x->∀(es:List MapEntry)(l:List (k.den×v.den)),(∀y∈l,k.ok y.1)->es.map (fun e=>(e.key,e.val))=l.map (fun y=>(apb k y.1,apb v y.2))->
  ((Instr.findKey kty (apb k x) es).run P w=.ok none w/\bli k v l x=none/\∀z,bqr k v l x z=l++[(x,z)])\/
  ∃j y,(Instr.findKey kty (apb k x) es).run P w=.ok (some (j,apb v y)) w/\l[j]? = some (x,y)/\bli k v l x=some y/\∀z,bqr k v l x z=l.set j (x,z)
 same:∀(x:k.den),Instr.sameBits 10000 (apb k x) (apb k x)=true
theorem btu(hB:TabOk P B)(hp:Hp F p M w){t:TypeId}(x i:V)(u iu:Value)(ok:Bool)(hx:ao p.β M (Imm F p M w) w x u)(hi:ao p.β M (Imm F p M w) w i iu)(hv:ab (bje B t M x i ok).1) :
  ∃r,(Instr.lookup t u iu ok).run P w=.ok r w/\ao p.β M (Imm F p M w) w (bje B t M x i ok).2 r:=by
 have h:False/\True:=hv;exact h.1.elim
theorem bp3(hB:TabOk P B)(h:Hp F p M w)(hL:∀b,¬p.L b){t:TypeId}(dst:Option Nat)(hv:ab (bcx B t dst M).vc)(qt:Bool) :
  ∃v w',(Instr.makeMap t none).run P w=.ok v w'/\gx F p M w qt (bcx B t dst M) v w':=by
 have h:False/\True:=hv;exact h.1.elim
theorem bp4(hB:TabOk P B)(h:Hp F p M w)(hL:∀b,¬p.L b){t:TypeId}(m i x:V)(u iu xu:Value)(hm:ao p.β M (Imm F p M w) w m u)(hi:ao p.β M (Imm F p M w) w i iu)(hx:ao p.β M (Imm F p M w) w x xu)(hv:ab (bdh B t m i x M).vc) :
  ∃w',(Instr.mapUpdate t u iu xu).run P w=.ok () w'/\gx F p M w false (bdh B t m i x M) undef w':=by
 have h:False/\True:=hv;exact h.1.elim
end
end Go.Bm
/- The ff machine:interfaces. -/
namespace Go.Bm
open Go.RowKit
variable {P:Program} {B:Tab} {F:Fr} {p:Ow} {M:Mem} {w:World}
theorem bn7:∀{l:List Mth} {t i:TypeId},ava P l=true->bkd l t i=true->∃inf,P.info? t=some inf/\bv0 P inf.methods (P.underlying i)=true
 |[],_,_,_,h=>by cases h
 |e::r,t,i,ha,h=>by
  simp only[ava,be,a0b]at ha;simp only[bkd,lq,be,a09,a0b]at h;rcases h with⟨h1,h2⟩|h
  ·have e1:e.t=t:=a0v h1;have e2:e.i=i:=a0v h2;subst e1;subst e2;have hm:=ha.1;unfold bpu at hm;split at hm
   ·rename_i inf hi;simp only[br,bz,a0o,a0b]at hm;exact⟨inf,hi,hm.2.1⟩
   ·cases hm
  ·exact bn7 ha.2 h
theorem bi5:∀{l:List Mth} {t:TypeId} {n:String} {f:FuncId},ava P l=true->bb0 l t n=some f->∃inf,P.info? t=some inf/\bdi (P.underlying t)=true/\isM f (inf.methods.find? (·.name==n))=true
 |[],_,_,_,_,h=>by cases h
 |e::r,t,n,f,ha,h=>by
  simp only[ava,be,a0b]at ha;unfold bb0 at h
  cases hc:nob (Nat.beq e.t t) (e.name==n)with
  |true=>
   rw[hc]at h;cases h;simp only[be,a0b]at hc;have e1:e.t=t:=a0v hc.1;have e2:e.name=n:=by simpa using hc.2
   subst e1;subst e2;have hm:=ha.1;unfold bpu at hm;split at hm
   ·rename_i inf hi;simp only[br,bz,a0o,a0b]at hm;exact⟨inf,hi,hm.1,hm.2.2⟩
   ·cases hm
  |false=>rw[hc]at h;exact bi5 ha.2 h
theorem bsy{l:List Mth}{t:TypeId}{n:String}{f:FuncId}(ha:ava P l=true)(h:bb0 l t n=some f)(k:Nat)(v:Value):(method (k+1) t v n).run P w=.ok (f,v) w:=by
 obtain⟨inf,h1,h2,h3⟩:=bi5 ha h;unfold isM at h3;split at h3
 ·rename_i m hm;split at h3
  ·rename_i g b hp hf;simp only[be,a0b,qu,a1z]at h3;have e:f=g:=a0v h3.1;subst e
   cases hu:P.underlying t with
   |none=>rw[hu]at h2;cases h2
   |some d=>
    rw[hu]at h2;have hpe:m.path.toList=[]:=by rw[←ew];exact hp
    cases d<;>simp only[bdi,a1g]at h2
    all_goals simp[method,run_typeInfo w h1,hm,hpe,follow,hf,h3.2,receiverAt,a06 hu,Place.get]
  ·cases h3
 ·cases h3
theorem br7{x v:V}{t:TypeId}{u:Value}{β:Nat->Value}{Im:Nat->Prop}(hx:ao β M Im w x u)(h:inI x=some (t,v)):∃y,u=.iface t y/\ao β M Im w v y:=by
 unfold inI at h;split at h
 ·cases h;simp only[ao,ak]at hx;obtain⟨y,h1,h2⟩:=hx;exact⟨y,by simpa using h1,bu h2⟩
 ·cases h;rw[cf]at hx;simp only[aq]at hx;obtain⟨y,h1,h2⟩:=hx;exact⟨y,by simpa using h1,bu (th _ _ _ h2)⟩
 ·cases h;rw[cf]at hx;simp only[aq]at hx;obtain⟨us,h1,h2⟩:=hx;exact⟨.agg us.toArray,by simpa using h1,by simp only[ao];exact⟨us,rfl,th _ _ _ h2⟩⟩
 ·cases h
theorem bwy(hB:TabOk P B)(hp:Hp F p M w){t:TypeId}(x:V)(u:Value)(hx:ao p.β M (Imm F p M w) w x u)(hv:ab (bib B t M x).1) :
  ∃r,(Instr.makeInterface t u).run P w=.ok r w/\ao p.β M (Imm F p M w) w (bib B t M x).2 r:=by
 unfold bib at hv⊢;split at hv
 ·rename_i s
  cases hk:cd [(B.τ t).ok,(B.τ t).agg]with
  |false=>rw[hk]at hv;exact hv.1.elim
  |true=>
  simp only[a0d];simp only[br,bz,a0o,a0b]at hk;obtain⟨k1,k2⟩:=hk;have hty:=hB.τ t k1
  have hc:P.concrete t=true:=by
   unfold ty at hty;split at hty
   ·rename_i i d h1 h2;unfold Program.concrete;rw[h2];cases d<;>first|rfl|(rw[←hty]at k2;simp[rk]at k2)
   ·rw[←hty]at k1;cases k1
  simp only[ao]at hx;obtain⟨vs,rfl,r⟩:=hx;simp only[ak,aq]at r;obtain⟨rfl,_⟩:=r;exact⟨_,run_makeInterface w t _ hc,by simp only[du];rw[cf];simp only[aq];exact .inr ⟨s,trivial,rfl⟩⟩
 ·rename_i T y hne
  cases hk:cd [(B.τ t).ok,(B.τ t).agg]with
  |false=>rw[hk]at hv;exact hv.1.elim
  |true=>
  simp only[a0d];simp only[br,bz,a0o,a0b]at hk;obtain⟨k1,k2⟩:=hk;have hty:=hB.τ t k1
  have hc:P.concrete t=true:=by
   unfold ty at hty;split at hty
   ·rename_i i d h1 h2;unfold Program.concrete;rw[h2];cases d<;>first|rfl|(rw[←hty]at k2;simp[rk]at k2)
   ·rw[←hty]at k1;cases k1
  simp only[ao]at hx;obtain⟨vs,rfl,r⟩:=hx;simp only[ak]at r;exact⟨_,run_makeInterface w t _ hc,by simp only[du];rw[cf];simp only[aq];exact⟨vs,rfl,r⟩⟩
 ·rename_i hne hne2
  cases hk:cd [(B.τ t).ok,neg (isN (B.τ t).el),neg (aau x),kx M x 1]with
  |false=>rw[hk]at hv;exact hv.1.elim
  |true=>
   simp only[a0d];simp only[br,bz,a0o,a0b]at hk;obtain⟨k1,k2,k3,k4⟩:=hk;have hty:=hB.τ t k1
   have hc:P.concrete t=true:=by
    unfold ty at hty;split at hty
    ·rename_i i d h1 h2;unfold Program.concrete;rw[h2];cases d<;>first|rfl|(rw[←hty]at k2;simp[rk,isN]at k2)
    ·rw[←hty]at k1;cases k1
   refine⟨.iface t u,run_makeInterface w t u hc,?_⟩;have k3':aau x=false:=by simpa using k3
   have hcx:x.cells=x:=by cases x<;>first|rfl|(simp[aau]at k3')
   have hcc:od x=true:=af3 (M:=M) (n:=1) (by rw[hcx];exact o7 k4);obtain⟨vs,_,a2,a3⟩:=amz hp hx hcc;rw[a2 k3',hcx]at a3;simp only[du,ao,ak];exact⟨u,rfl,a3⟩
theorem bw6(hB:TabOk P B){i xt:TypeId}(ok:Bool)(x:V)(u:Value){β:Nat->Value}{Im:Nat->Prop}(hx:ao β M Im w x u)(hv:ab (bik B i ok x).1) :
  ∃r,(Instr.typeAssert u xt i ok).run P w=.ok r w/\ao β M Im w (bik B i ok x).2 r:=by
 unfold bik at hv⊢;split at hv
 ·rename_i t v hin;obtain⟨y,rfl,hy⟩:=br7 hx hin
  cases hm:bkd B.m t i with
  |false=>rw[hm]at hv;exact hv.1.elim
  |true=>
   simp only[a0d];obtain⟨inf,h1,h2⟩:=bn7 hB.m hm
   cases hu:P.underlying i with
   |none=>rw[hu]at h2;cases h2
   |some d=>
    rw[hu]at h2;cases d<;>simp only[bv0,a1g]at h2;rename_i want
    have hn:Instr.missingMethod want inf.methods=none:=by
     cases hq:Instr.missingMethod want inf.methods with
     |none=>rfl
     |some _=>rw[hq]at h2;cases h2
    cases ok with
    |true=>refine⟨.tuple #[.iface t y,.bool true],by simp[Instr.typeAssert,a06 hu,run_typeInfo w h1,hn],?_⟩;simp only[du,a0d,ao,da];exact⟨_,rfl,_,_,rfl,hx,_,_,rfl,cf.2 (by simp only[aq]),rfl⟩
    |false=>exact⟨.iface t y,by simp[Instr.typeAssert,a06 hu,run_typeInfo w h1,hn],by simpa only [du,a0j]using hx⟩
 ·exact hv.1.elim
end Go.Bm
/- The ff machine:every operation is sound. -/
namespace Go.Bm
open Go.RowKit
section
variable {F:Fr} {p p' p'':Ow} {env:Env} {M M' M'':Mem} {a:Act} {w w' w'':World} {P:Program} {B:Tab}
theorem ba2{o:Oper}{K:Act->World->Prop}{Q:Exit->Act->World->Prop}{v:Value}{w':World}(h:(execOp a.eval o).run P w=.ok (.value v) w')(hk:K (a.put o.dst v) w'):o.wp P a w K Q:=by unfold Oper.wp;rw[h];exact hk
theorem bjf{o:Oper}{K:Act->World->Prop}{Q:Exit->Act->World->Prop}{w':World}(h:(execOp a.eval o).run P w=.ok .skip w')(hk:K (a.put o.dst undef) w'):o.wp P a w K Q:=by unfold Oper.wp;rw[h];exact hk
theorem btz{Im:Nat->Prop}{t:T}{l:List t.den}{oa:Option Addr}{cap lo hi:Nat}(h:aq Im w (.sl t) l [.slice oa l.length cap])(h1:lo<=hi)(h2:hi<=l.length) :
  aq Im w (.sl t) ((l.take hi).drop lo) [sliced oa lo hi cap t.size]:=by
 have hlen:((l.take hi).drop lo).length=hi-lo:=by rw[a13,a03];omega
 simp only[aq,a0q,a0c,Value.slice.injEq]at h⊢;obtain⟨oa',cap',⟨rfl,_,rfl⟩,⟨g1,g2⟩,g3,g4⟩:=h;refine⟨if cap=lo then oa else oa.map (·.add (lo*t.size)),cap-lo,by simp only[sliced,hlen],⟨by omega,by omega⟩,fun hn=>?_,fun ad had hpos=>?_⟩
 ·have:oa=none:=by
   split at hn
   ·exact hn
   ·cases oa with
    |none=>rfl
    |some _=>cases hn
  obtain⟨e1,e2⟩:=g3 this;omega
 ·have hne:cap≠lo:=by omega
  rw[ds hne]at had
  cases oa with
  |none=>cases had
  |some ad0=>
   simp only[a1e,a0e]at had;obtain⟨k1,k2,k3⟩:=g4 ad0 rfl (by omega);obtain⟨b,o,s⟩:=ad0;simp only at k1 k2 k3;subst k1;rw[a24]at had;subst had;refine⟨rfl,k2,fun i x hx=>?_⟩;rw[a1l,a1d]at hx;split at hx
   ·obtain⟨us,u1,u2⟩:=k3 (lo+i) x hx;refine⟨us,?_,u2⟩;rw[a2g,←a22]at u1;exact u1
   ·cases hx
theorem tn1{n:Int}{m:Nat}(h:n<=m):n.toNat<=m:=by omega
theorem tn2{a b:Int}(h:a<=b):a.toNat<=b.toNat:=by omega
theorem bn6(hB:TabOk P B){t:TypeId}{x0:Operand}{lo0 hi0:Option Operand}(x:V)(f:Operand->V)(hx:ao p.β M (Imm F p M w) w x (a.eval x0))(hlo:∀y,lo0=some y->ao p.β M (Imm F p M w) w (f y) (a.eval y))(hhi:∀y,hi0=some y->ao p.β M (Imm F p M w) w (f y) (a.eval y))
  (hv:ab (bi9 B (B.τ t) x (zj f lo0) (zj f hi0)).1):∃r,(Instr.sliceAt t (a.eval x0) (lo0.map a.eval) (hi0.map a.eval) none).run P w=.ok r w/\ao p.β M (Imm F p M w) w (bi9 B (B.τ t) x (zj f lo0) (zj f hi0)).2 r:=by
 unfold bi9 at hv⊢;split at hv
 ·rename_i te l e he;have hk:=km hv;simp only[hk,a0d]at hv⊢;simp only[br,bz,a0o,a0b,iz,a0r]at hk;obtain⟨k1,k2,k3⟩:=hk;have eτ:=hB.τ t k1;have eτ':=hB.τ e k2;rw[←eτ]at k1 he;rw[←eτ']at k2 k3;obtain⟨inf,u,hi,hu⟩:=gu k1;obtain⟨infe,ue,hie,hue⟩:=gu k2;rw[ke hi hu]at he;rw[ke hie hue]at k3;simp only[rk]at he k3;cases u<;>simp at he;obtain rfl:=he.symm;rw[cf]at hx;have hx0:=hx;simp only[aq,a0q,a0c]at hx;obtain⟨oa,cap,hsl,⟨hn,hcap⟩,_⟩:=hx;rw[hsl]at hx0;have hel:P.elem t=e:=by simp[Program.elem,hu]
  have hu':P.underlying t=some (.slice (P.elem t)):=by rw[hel];exact hu
  have hsz:(sizeOf (P.elem t)).run P w=.ok infe.size w:=by rw[hel];simp[sizeOf,typeInfo,hie]
  have fin:∀(lo hi:Nat)(lv hv:Option Value),lo<=hi->hi<=l.length->(Instr.slice t (.slice oa l.length cap) lv hv none).run P w=((sizeOf (P.elem t)).run P w).andThen (fun s w=>.ok (sliced oa lo hi cap s) w)->∀z,z=(l.take hi).drop lo->
    ∃r,(Instr.sliceAt t (a.eval x0) lv hv none).run P w=.ok r w/\ao p.β M (Imm F p M w) w (.d (.sl te) z) r:=fun lo hi lv hv h1 h2 hrun z hz=>by
   refine⟨sliced oa lo hi cap infe.size,?_,?_⟩
   ·rw[run_sliceAt_slice w t _ _ _ _ hu',hsl,hrun,hsz];rfl
   ·rw[cf,hz,←k3];exact btz hx0 h1 h2
  cases lo0 with
  |none=>
   cases hi0 with
   |none=>exact fin 0 l.length none none (a1j _) (a0k _) (run_slice_all w t oa l.length cap hu') l (by simp)
   |some yh=>
    have h2:=hhi yh rfl;simp only[zj]at hv⊢;split at hv
    ·rename_i heq;cases heq
    ·rename_i heq;cases heq
    ·rename_i kb b e1 e2;simp only[a0e]at e2;rw[e2,cf,fx]at h2;simp only[d7,fh,a0c]at hv;simp only[e2];have hb2:(b:Int)<=(l.length:Int):=hv.2;refine fin 0 b.toNat none (some (a.eval yh)) (a1j _) ?_ (by rw[h2.1];exact run_slice_h w t oa l.length cap hu' kb b hv.1 (a3q hb2 (Int.ofNat_le.2 hcap))) _ (by simp);exact tn1 hb2
    ·rename_i heq _;cases heq
    ·exact hv.1.elim
  |some yl=>
   have h1:=hlo yl rfl
   cases hi0 with
   |none=>
    simp only[zj]at hv⊢;split at hv
    ·rename_i heq _;cases heq
    ·rename_i ka b e1 e2;simp only[a0e]at e1;rw[e1,cf,fx]at h1;simp only[d7,fh,a0c]at hv;simp only[e1];have hb2:(b:Int)<=(l.length:Int):=hv.2;refine fin b.toNat l.length (some (a.eval yl)) none ?_ (a0k _) (by rw[h1.1];exact run_slice_l w t oa l.length cap hu' ka b hv.1 hb2) _ (by simp);exact tn1 hb2
    ·rename_i heq _;cases heq
    ·rename_i heq;cases heq
    ·exact hv.1.elim
   |some yh=>
    have h2:=hhi yh rfl;simp only[zj]at hv⊢;split at hv
    ·rename_i heq _;cases heq
    ·rename_i heq;cases heq
    ·rename_i heq _;cases heq
    ·rename_i ka b kb c e1 e2;simp only[a0e]at e1 e2;rw[e1,cf,fx]at h1;rw[e2,cf,fx]at h2;simp only[d7,fh,a0c]at hv;simp only[e1,e2];obtain⟨v1,v2,v3⟩:=hv;have hb2:(b:Int)<=c:=v2;have hb3:(c:Int)<=(l.length:Int):=v3;refine fin b.toNat c.toNat (some (a.eval yl)) (some (a.eval yh)) ?_ ?_ (by rw[h1.1,h2.1];exact run_slice_lh w t oa l.length cap hu' ka kb b c v1 v2 (a3q hb3 (Int.ofNat_le.2 hcap))) _ rfl
     ·exact tn2 hb2
     ·exact tn1 hb3
    ·exact hv.1.elim
 ·exact hv.1.elim
theorem aq0:(vs:List V)->(M:Mem)->Hp F p M w->Tr F p M w (qa M vs).1 p (qa M vs).2 w
 |[],M,h=>by simp only[qa];exact Tr.refl h
 |v::r,M,h=>by simp only[qa];have h1:=yu v M h;exact h1.trans (aq0 r _ h1.hp)
theorem bfe:(vs:List V)->(M:Mem)->((qa M vs).1=[]/\(qa M vs).2=M)\/∃x r,(qa M vs).1=x::r/\fresh M [x]=false
 |[],M=>.inl ⟨rfl,rfl⟩
 |v::r,M=>by
  simp only[qa];rcases abe v M with⟨h1,h2⟩|⟨x,e,h1,h2⟩
  ·rw[h1,h2];simp only[ap];exact bfe r M
  ·exact .inr ⟨x,_,by rw[h1];rfl,h2⟩
theorem bb3:(ks:List Nat)->(M:Mem)->Hp F p M w->Tr F p M w (klL ks) p (mn ks M) w
 |[],M,h=>by simp only[klL,mn];exact Tr.refl h
 |k::r,M,h=>by simp only[klL,mn];have h1:=Tr.kl h k;exact h1.trans (bb3 r _ h1.hp)
theorem afs:(ks:List Nat)->(M:Mem)->(k:Nat)->(k∈ks\/go M k=none->go (mn ks M) k=none)/\(k∉ks->go (mn ks M) k=go M k)
 |[],M,k=>⟨fun h=>Or.elim h (fun h=>by cases h) (fun h=>h),fun _=>rfl⟩
 |i::r,M,k=>by
  simp only[mn];obtain⟨h1,h2⟩:=afs r (del i M) k;refine⟨fun h=>h1 ?_,fun h=>?_⟩
  ·rcases h with h|h
   ·rcases a0t.1 h with rfl|h
    ·exact .inr (dy k M)
    ·exact .inl h
   ·by_cases e:k=i
    ·subst e;exact .inr (dy k M)
    ·exact .inr (by rw[dx e];exact h)
  ·simp only[a0t,not_or]at h;rw[h2 h.2,dx h.1]
theorem atj:(ks:List Nat)->fresh M (klL ks)=true->∀k∈ks,go M k=none
 |[],_,k,hk=>by cases hk
 |i::r,h,k,hk=>by
  obtain⟨h1,h2⟩:=ax4 h;rcases a0t.1 hk with rfl|hk
  ·exact h1
  ·exact atj r h2 k hk
theorem g9.keep{Im Im':Nat->Prop}(hk:∀b,Im b->Im' b):(rs:List (Bool×O))->(x:gq rs)->(S:Nat->Prop)->(us:List Value)->g9 Im w rs x S us->g9 Im' w rs x S us
 |[],x,S,us,r=>by simpa only [g9]using r
 |q::rs,x,S,us,r=>by simp only[g9]at r⊢;obtain⟨u,us',vs,S1,S2,e1,e2,e3,e4,e5,e6,e7,e8⟩:=r;exact⟨u,us',vs,S1,S2,e1,e2,e3,e4,e5,e6,Rel.keep (fun b hb=>⟨hk b hb,rfl⟩) _ _ _ _ (fun _ _=>rfl) e7,g9.keep hk rs _ _ _ e8⟩
theorem bcy{β:Nat->Value}{Im:Nat->Prop}(rs:List (Bool×O))(v:V)(us:List Value)(hl:us.length=rs.length)(r:da β M Im w v us):ao β M Im w (apq rs v) (ot us):=by
 match rs,us,hl with
 |[],[],_=>simp only[apq,ot,ao];exact⟨[],rfl,r⟩
 |[q],[u],_=>
  cases v with
  |p a b=>simp only[da]at r;obtain⟨u',us',e,h1,h2⟩:=r;simp only[a0q]at e;obtain⟨rfl,_⟩:=e;simp only[apq,ot];exact h1
  |u=>simp only[da]at r;cases r
  |_=>simp only[da]at r
 |q::q'::rs,u::u'::us,_=>simp only[apq,ot,ao];exact⟨_,rfl,r⟩
theorem ast{Im:Nat->Prop}:(rs:List (Bool×O))->(x:gq rs)->(S:Nat->Prop)->(us:List Value)->g9 Im w rs x S us->us.length=rs.length
 |[],x,S,us,r=>by simp only[g9]at r;rw[r];rfl
 |q::rs,x,S,us,r=>by simp only[g9]at r;obtain⟨u,us',vs,S1,S2,rfl,_,_,_,_,_,_,e8⟩:=r;simp[ast rs _ _ _ e8]
theorem bnq(h:Hp F p M w)(hL:∀b,¬p.L b)(ct:Ct)(d:Nat)(x:db ct.args){A:Nat->Prop}(hA:ct.sh=true->∀b,A b->Imm F p M w b){rs:List Value}{S:Nat->Prop}
  (he:Ext w w') (hS:∀b,S b->w.heap.size<=b/\b<w'.heap.size) (hr:g9 (fun b=>b<w'.heap.size/\(ct.sh=true/\A b\/w.heap.size<=b)/\¬S b) w' ct.rt (ct.res x) S rs) {N:Mem} {v:V} {j':Nat} (hN:newL d 0 ct.rt (ct.res x)=(v,N,j')) :
  ∃p',Tr F p M w (klL (ca N)) p' (ap N (mn (ca N) M)) w'/\(∀b,¬p'.L b)/\ao p'.β (ap N (mn (ca N) M)) (Imm F p' (ap N (mn (ca N) M)) w') w' (apq ct.rt v) (ot rs)/\
   (fresh M (klL (ca N))=true->Qt p M p' (ap N (mn (ca N) M)) w w'):=by
 have h1:=bb3 (ca N) M h;have h2:=Tr.grow h1.hp hL he S hS
 have hkeep:∀b,(fun b=>b<w'.heap.size/\(ct.sh=true/\A b\/w.heap.size<=b)/\¬S b) b->Imm F ⟨p.β,p.σ,S⟩ (mn (ca N) M) w' b:=fun b ⟨b1,b2,b3⟩=>by
  rcases b2 with⟨b2,b4⟩|b2
  ·have:=hA b2 b b4;exact⟨b1,this.2.1,b3,(h1.keep b this).1.2.2.2⟩
  ·refine⟨b1,.inr (.inr (a0z h.size b2)),b3,fun k hk hs=>?_⟩;have:=(h1.hp.own k b hk hs).1;omega
 obtain⟨hle,hkeys⟩:=apz d ct.rt 0 (ct.res x);have hnew:=aws (F:=F) (w:=w') d j' ct.rt (mn (ca N) M) ⟨p.β,p.σ,S⟩ 0 (ct.res x) S rs h2.hp (g9.keep hkeep _ _ _ _ hr) (fun b hb=>hb);rw[hN]at hnew hle hkeys;simp only at hnew hle hkeys;obtain⟨p2,a1,a2⟩:=hnew (a0k _) (fun i hi hij=>(afs (ca N) M _).1 (.inl (hkeys i hi hij)));have h3:=Tr.drop a1.tr.hp (fun _=>False) (fun b hb=>hb.elim);refine⟨⟨p2.β,p2.σ,fun _=>False⟩,?_,fun b hb=>hb,?_,fun hf=>⟨he,fun j ob hj=>?_⟩⟩
 ·have h4:=h1.trans (h2.trans (a1.tr.trans h3));simpa only [ap,agk]using h4
 ·have h5:=h3.s _ _ (bcy ct.rt v rs (ast _ _ _ _ hr) a2);simpa only [V.evs]using h5
 ·have hn:j∉ca N:=fun hk=>by have:=atj _ hf j hk;rw[this]at hj;cases hj
  have:=a1.old j ob (by rw[(afs (ca N) M j).2 hn];exact hj);exact this
theorem aq5(f:Operand->V):∀(l:List Operand)(i:Nat),(ve f l)[i]? = (l[i]?).map f
 |[],i|x::l,0=>by simp[ve]
 |x::l,i+1=>by simp only[ve,a2i];exact aq5 f l i
theorem aq9(f:Operand->V):∀l:List Operand,(ve f l).length=l.length
 |[]=>rfl
 |x::l=>by simp[ve,aq9 f l]
variable {Φ:FuncId->Option Ct}
theorem ccz{v c:V}{u:Value}{f:FuncId}(h:ao p.β M (Imm F p M w) w v u)(hf:asj v=some (f,c)):∃us:List Value,u=.func (.func f) #[] us.toArray/\ak p.β M (Imm F p M w) w c us:=by
 unfold asj at hf;split at hf
 ·cases hf;simp only[ao,ak]at h;obtain⟨us,e,h1⟩:=h;exact⟨us,by simpa using e,h1⟩
 ·cases hf;simp only[ao,ak,aq]at h;obtain⟨us,e,h2⟩:=h;exact⟨us,by simpa using e,th _ _ _ h2⟩
 ·cases hf
theorem boa(hp:Hp F p M w):(c:V)->(us:List Value)->(cs:List V)->ak p.β M (Imm F p M w) w c us->ub M c=some cs->us.length=cs.length/\∀(i:Nat) v u,cs[i]? = some v->us[i]? = some u->ao p.β M (Imm F p M w) w v u
 |.u,us,cs,r,h=>by simp only[ub,a0e]at h;simp only[ak]at r;subst h;subst r;exact⟨rfl,fun i v u hv=>by simp at hv⟩
 |.p a b,us,cs,r,h=>by
  simp only[ub]at h;simp only[ak]at r;obtain⟨va,vb,rfl,r1,r2⟩:=r
  cases hb:ub M b with
  |none=>rw[hb]at h;cases h
  |some rs=>
   rw[hb]at h
   cases hs:kx M a 1 with
   |false=>simp only[hs]at h;cases h
   |true=>
    simp only[hs,a0d,a0e]at h;subst h;have hl:=zc hp a va 1 r1 (o7 hs);obtain⟨k1,k2⟩:=boa hp b vb rs r2 hb
    match va,hl with
    |[u0],_=>
     refine⟨by simp[k1],fun i v u hv hu=>?_⟩
     cases i with
     |zero=>simp only[a1u,a4y,a0e]at hv hu;subst hv;subst hu;exact bu r1
     |succ i=>exact k2 i v u (by simpa using hv) (by simpa using hu)
 |.any,_,_,_,h|.nl,_,_,_,h|.np,_,_,_,h|.d _ _,_,_,_,h|.ref _ _,_,_,_,h|.ad _ _,_,_,_,h|.ag _,_,_,_,h|.tup _,_,_,_,h|.gd _ _ _ _,_,_,_,h|.fn _ _,_,_,_,h|.ifc _ _,_,_,_,h|.bx _,_,_,_,h=>by simp[ub]at h
theorem bm7(hp:Hp F p M w):(vs:List V)->(us:List Value)->(c:V)->us.length=vs.length->(∀(i:Nat) v u,vs[i]? = some v->us[i]? = some u->ao p.β M (Imm F p M w) w v u)->be9 M vs=some c->ak p.β M (Imm F p M w) w c us
 |[],us,c,hl,_,h=>by simp only[be9,a0e]at h;subst h;simp only[ak];exact a18 hl
 |v::vs,us,c,hl,hr,h=>by
  simp only[be9]at h
  cases hc:be9 M vs with
  |none=>rw[hc]at h;cases h
  |some c'=>
   rw[hc]at h
   cases hk:nob (neg (aau v)) (kx M v 1)with
   |false=>simp only[hk]at h;cases h
   |true=>
    simp only[hk,a0d,a0e]at h;subst h;simp only[be,a0b,qu,a1z]at hk
    match us,hl with
    |u::us,hl=>
     have h0:=hr 0 v u rfl rfl;have ih:=bm7 hp vs us c' (by simpa using hl) (fun i v u hv hu=>hr (i+1) v u (by simpa using hv) (by simpa using hu)) hc;have hcv:od v=true:=by have hs:=o7 hk.2;cases v<;>first|rfl|(simp[V.size]at hs;done)|(simp[aau]at hk;done)
     obtain⟨vs1,_,a2,a3⟩:=amz hp h0 hcv;have e:=a2 hk.1;subst e;have hcells:v.cells=v:=by cases v<;>first|rfl|(simp[aau]at hk;done)
     rw[hcells]at a3;simp only[ak];exact⟨[u],us,rfl,a3,ih⟩
theorem buh(hG:ah4 P F)(h:Hp F p M w)(hL:∀b,¬p.L b){f:FuncId}{m:Mt}(hm:MtOk P f m)(vs:List V)(us:List Value)(hlen:us.length=vs.length)(hrel:∀(i:Nat) v u,vs[i]? = some v->us[i]? = some u->ao p.β M (Imm F p M w) w v u)
  {o:Oper} (hr:(execOp a.eval o).run P w=.ok (.enter f us.toArray) w) (hv:ab (bjb m vs M).vc) (qt:Bool) (Q:Exit->Act->World->Prop):o.wp P a w (fun a' w'=>∃v,a'=a.put o.dst v/\gx F p M w qt (bjb m vs M) v w') Q:=by
 have h:False/\True:=hv;exact h.1.elim
theorem alo{π:cr}(h:asf π=true):π=[.de]:=by
 unfold asf at h;split at h
 ·rfl
 ·cases h
theorem ban{v:V}{k:Nat}(h:ai3 v=some k):v=.ad k [.de]\/v=.ref k []:=by
 unfold ai3 at h;split at h
 ·rename_i j π
  cases hd:asf π with
  |false=>rw[hd]at h;cases h
  |true=>rw[hd]at h;simp only[a0d,a0e]at h;rw[h,alo hd];exact .inl rfl
 ·rename_i j π
  cases π with
  |nil=>simp only[bp2,a0d,a0e]at h;rw[h];exact .inr rfl
  |cons _ _=>simp[bp2]at h
 ·cases h
theorem ba5{v:V}{k:Nat}(h:ai3 v=some k):∃π,v=.ad k π\/v=.ref k π:=by
 rcases ban h with h|h
 ·exact⟨_,.inl h⟩
 ·exact⟨_,.inr h⟩
theorem bt0(k:Nat)(v0:V)(h0:∃π,v0=.ad k π\/v0=.ref k π):∀(v:V)(M:Mem),c6 (cu M v).2 k->v0.evs (cu M v).1=v0/\c6 M k:=by
 have one:∀(j:Nat)(M:Mem)(ob:Ob),c6 (del j M) k->v0.evs [.fz j ob]=v0/\c6 M k:=fun j M ob hl=>by
  have hne:k≠j:=fun e=>by subst e;unfold c6 at hl;rw[dy]at hl;cases hl
  refine⟨by obtain⟨π,h|h⟩:=h0<;>simp only[h,V.evs,V.ev,Ev.ad,Ev.ref,dg,ds hne],?_⟩;unfold c6 at hl⊢;rwa [dx hne]at hl
 intro v
 induction v with
 |p a b iha ihb=>intro M hl;simp only[cu]at hl⊢;obtain⟨h1,h2⟩:=ihb _ hl;obtain⟨h3,h4⟩:=iha _ h2;rw[aql,h3];exact⟨h1,h4⟩
 |ref j ρ=>
  intro M hl;simp only[cu]at hl⊢
  cases hg:go M j with
  |none=>rw[hg]at hl;exact⟨rfl,hl⟩
  |some ob=>rw[hg]at hl;exact one j M ob hl
 |ad j ρ=>
  intro M hl;simp only[cu]at hl⊢
  cases hg:go M j with
  |none=>rw[hg]at hl;exact⟨rfl,hl⟩
  |some ob=>rw[hg]at hl;exact one j M ob hl
 |ag v ih|fn f v ih|ifc f v ih|bx v ih|tup v ih|gd _ _ _ v ih=>intro M hl;simp only[cu]at hl⊢;exact ih M hl
 |_=>intro M hl;exact⟨rfl,hl⟩
theorem awk(k:Nat)(v0:V)(h0:∃π,v0=.ad k π\/v0=.ref k π):∀(vs:List V)(M:Mem),c6 (qa M vs).2 k->v0.evs (qa M vs).1=v0
 |[],_,_=>rfl
 |v::r,M,hl=>by
  simp only[qa]at hl⊢;have h1:=awk k v0 h0 r _ hl
  have lv:∀(vs:List V)(M:Mem),c6 (qa M vs).2 k->c6 M k:=fun vs=>by
   induction vs with
   |nil=>intro M h;exact h
   |cons v vs ih=>intro M h;simp only[qa]at h;exact (bt0 k v0 h0 v M (ih _ h)).2
  rw[aql,(bt0 k v0 h0 v M (lv _ _ hl)).1];exact h1
theorem am9(hp:Hp F p M w){k:Nat}{ob:Ob}(hg:go M k=some ob){v0:V}(h0:ai3 v0=some k){e:List Ev}(hs:v0.evs e=v0){u:Value}(hu:ao p.β M (Imm F p M w) w (v0.evs e) u):u=p.β k:=by
 rw[hs]at hu;rcases ban h0 with rfl|rfl
 ·simp only[ao,ak]at hu;obtain⟨_,e1,hadr⟩:=hu;simp only[a0q,a0c]at e1;subst e1;obtain⟨o0,us0,b0,off0,k1,k2,k3,k4,k5,k6⟩:=hadr;rw[hg]at k1;cases k1;have hrk:=hp.objs k _ hg;obtain⟨oo,xx⟩:=ob
  cases oo with
  |pt o1=>simp only[Rel]at hrk;obtain⟨bb,us1,ty',S1,r1,_⟩:=hrk;simp only[a0q,a0c]at r1;rw[r1]at k5;simp only[res,a0e,a0n]at k5;rw[k6,r1,k5.2.1,k5.2.2]
  |fz t=>obtain⟨q,hq⟩:=k3;cases t<;>simp[get]at hq<;>simp[res]at k5
  |p a b|sl e|mp e e'|op e=>obtain⟨q,hq⟩:=k3;simp[get]at hq
 ·simp only[ao,ak]at hu;obtain⟨o0,pl0,k1,k2,k3,k4⟩:=hu;simp only[res,a0e,a0n,a0q,a0c]at k4;exact k4.1.symm
def bwp(P:Program)(f:FuncId)(W:Wt)(Lk:World->Value->Value->Prop):Prop:=
 ∀(A:Nat->Prop)(w:World)(r u:Value)(x:W.o.strip.den)(us:List Value)(y:db W.as)(S:Nat->Prop),uj P A w->(∀b,A b->b<w.heap.size)->(∀b,S b->b<w.heap.size/\¬A b)->
  Rel (fun b=>A b) w W.o x S [r]->Lk w r u->mg A w W.ag W.as y us->ab (W.pre x y)->
  Calls P f (gw W.i u us).toArray w fun e w'=>∃rs R S',e=.returned (ot rs)/\ExtS w w' S/\(∀b,R b->w.heap.size<=b/\b<w'.heap.size)/\(∀b,S' b->(S b\/w.heap.size<=b/\b<w'.heap.size)/\¬R b)/\
   Rel (fun b=>b<w'.heap.size/\(A b\/S b\/w.heap.size<=b)/\¬S' b/\¬R b) w' W.o (W.new x y) S' [r]/\
   g9 (fun b=>b<w'.heap.size/\(A b\/S b\/w.heap.size<=b)/\¬S' b/\¬R b) w' W.rt (W.res x y) R rs
theorem cdx{f:FuncId}{W:Wt}(h:bo6 P f W):bwp P f W (fun _ r u=>u=r):=fun A w r u x us y S h0 h1 h2 h3 h4 h5 h6=>by subst h4;exact h A w u x us y S h0 h1 h2 h3 h5 h6
def cdk(w:World)(r u:Value):Prop:=∃b ty,r=.pointer (some ⟨b,0,none⟩)/\w.heap[b]? = some (.cells #[u] ty)
theorem cdc{f:FuncId}{W:Wt}(hs:slO W.o=true)(h:bo6 P f W):bwp P f (pbW W) cdk:=fun A w r u x us y S h0 h1 h2 h3 h4 h5 h6=>by
 obtain⟨b,ty,rfl,hb⟩:=h4;simp only[pbW,Rel]at h3;obtain⟨b',us1,ty',S1,r1,r2,r3,r4,r5⟩:=h3;simp only[a0q,a5e,a0e,Addr.mk.injEq,a0c,a0f]at r1;subst r1;rw[hb]at r3;have e1:us1=[u]:=by simp only[a0e,Obj.cells.injEq]at r3;have:=congrArg Array.toList r3.1;simpa using this.symm
 subst e1;refine (h A w u x us y S1 h0 h1 (fun c hc=>h2 c (r4 c hc).1) r5 h5 h6).mono fun e w' ⟨rs,R,S2,e1,e2,e3,e4,e5,e6⟩=>?_;have hR:¬R b:=fun hr=>by have:=(e3 b hr).1;have:=(h2 b r2).1;omega
 have hS2:∀c,(c<w'.heap.size/\(A c\/S1 c\/w.heap.size<=c)/\¬S2 c/\¬R c)->(c<w'.heap.size/\(A c\/S c\/w.heap.size<=c)/\¬(S2 c\/c=b)/\¬R c):=fun c ⟨k1,k2,k3,k4⟩=>by
  refine⟨k1,k2.elim .inl fun k=>k.elim (fun k=>.inr (.inl (r4 c k).1)) fun k=>.inr (.inr k),fun hc=>hc.elim k3 fun hc=>?_,k4⟩;subst hc;rcases k2 with k|k|k
  ·exact (h2 c r2).2 k
  ·exact (r4 c k).2 rfl
  ·have:=(h2 c r2).1;omega
 have hold:w'.heap[b]? = w.heap[b]?:=e2.old b (h2 b r2).1 (fun hc=>(r4 b hc).2 rfl)
 have hb2:¬S2 b:=fun hc=>by
  rcases (e4 b hc).1 with k|k
  ·exact (r4 b k).2 rfl
  ·have:=(h2 b r2).1;omega
 refine⟨rs,R,fun c=>S2 c\/c=b,e1,⟨e2.os,e2.tape,e2.output,e2.size,fun c hc hn=>e2.old c hc fun k=>hn (r4 c k).1⟩,e3,fun c hc=>?_,?_,?_⟩
 ·rcases hc with hc|hc
  ·obtain⟨k1,k2⟩:=e4 c hc;exact⟨k1.elim (fun k=>.inl (r4 c k).1) .inr,k2⟩
  ·subst hc;exact⟨.inl r2,hR⟩
 ·simp only[pbW,Rel];refine⟨b,[u],ty,S2,rfl,.inr rfl,by rw[hold,hb],fun c hc=>⟨.inl hc,fun k=>by subst k;exact hb2 hc⟩,?_⟩;exact Rel.keep (fun c hc=>⟨hS2 c hc,rfl⟩) _ _ _ _ (fun _ _=>rfl) e5
 ·exact g9.keep hS2 _ _ _ _ e6
theorem axk(hG:ah4 P F)(h:Hp F p M w)(hL:∀b,¬p.L b){f:FuncId}{W:Wt}{Lk:World->Value->Value->Prop}(hw:bwp P f W Lk)(k:Nat)(u:Value)(r:List V)(us:List Value)(hlnk:∀x,go (qa M r).2 k=some ⟨W.o,x⟩->Lk w (p.β k) u)(hlen:us.length=r.length)(hrel:∀(i:Nat) v u,r[i]? = some v->us[i]? = some u->ao p.β M (Imm F p M w) w v u)
  {o:Oper} {d:Nat} (hr:(execOp a.eval o).run P w=.ok (.enter f (gw W.i u us).toArray) w) (hv:ab (zv k W d r M).vc) (qt:Bool) (Q:Exit->Act->World->Prop):o.wp P a w (fun a' w'=>∃v,a'=a.put o.dst v/\gx F p M w qt (zv k W d r M) v w') Q:=by
 unfold zv at hv⊢
 cases b2:shp r W.ag with
 |false=>rw[b2]at hv;exact hv.1.elim
 |true=>
 simp only[b2,a0d]at hv⊢;have hfz:=aq0 r M h;generalize hz:qa M r=z at hv hfz hlnk⊢;obtain⟨e0,M1⟩:=z;simp only at hv hfz hlnk⊢
 cases hg:go M1 k with
 |none=>simp only[hg]at hv;exact hv.1.elim
 |some ob=>
 cases hy:asL (ux e0 r) W.as with
 |none=>simp only[hg,hy]at hv;exact hv.1.elim
 |some y=>
 simp only[hg,hy]at hv⊢
 cases hc:yp ob W.o with
 |none=>simp only[hc]at hv;exact hv.1.elim
 |some x=>
 simp only[hc]at hv⊢;have:=xq hc;subst this;generalize hN:newL d 0 W.rt (W.res x y)=q at hv⊢;obtain⟨v,N,j'⟩:=q;simp only at hv⊢
 cases hin:inN k (ca N)with
 |true=>rw[hin]at hv;exact hv.1.elim
 |false=>
 simp only[hin,a0j]at hv⊢;have hl:=hlen
 have hrel1:∀(i:Nat) v u',(ux e0 r)[i]? = some v->us[i]? = some u'->ao p.β M1 (Imm F p M1 w) w v u':=fun i v u' hv hu'=>by
  rw[amf]at hv
  cases hx:r[i]? with
  |none=>rw[hx]at hv;cases hv
  |some v0=>rw[hx]at hv;simp only[a1e,a0e]at hv;subst hv;exact hfz.s _ _ (hrel i v0 u' hx hu')
 have hbox:Lk w (p.β k) u:=hlnk x hg;have hlk:=cq hg;unfold Oper.wp;rw[hr,a3s];refine (hw (Imm F p M1 w) w (p.β k) u x us y (p.σ k) (aq1 hG hfz.hp hL) (fun b hb=>hb.1) (fun b hb=>⟨(hfz.hp.own k b hlk hb).1,fun hi=>hi.2.2.2 k hlk hb⟩) (hfz.hp.objs k _ hg) hbox (auo hfz.hp _ _ _ _ _ (by rw[aat];simpa using hl) hrel1 (by rw[av0];exact b2) hy) hv).mono fun e w' ⟨rs,R,S',e1,e2,e3,e4,e5,e6⟩=>?_;subst e1;obtain⟨p1,t1,t2,t3⟩:=bum hfz.hp hL hg (fun b hb=>hb) e2 e3 e4 e5;generalize hM2:put k (⟨W.o,W.new x y⟩:Ob) M1=M2 at t1 t3⊢;have h1:=bb3 (ca N) M2 t1.hp;obtain⟨hle,hkeys⟩:=apz d W.rt 0 (W.res x y);have hnew:=aws (F:=F) (w:=w') d j' W.rt (mn (ca N) M2) p1 0 (W.res x y) R rs h1.hp (g9.keep (fun b hb=>(h1.keep b (t3 b hb)).1) _ _ _ _ e6) (fun b hb=>(t2 b).2 hb);rw[hN]at hnew hle hkeys;simp only at hnew hle hkeys;obtain⟨p2,a1,a2⟩:=hnew (a0k _) (fun i hi hij=>(afs (ca N) M2 _).1 (.inl (hkeys i hi hij)));have h3:=Tr.drop a1.tr.hp (fun _=>False) (fun b hb=>hb.elim);refine⟨_,rfl,⟨p2.β,p2.σ,fun _=>False⟩,?_,fun b hb=>hb,?_,fun hfr _=>?_⟩
 ·have h4:=hfz.trans (t1.trans (h1.trans (a1.tr.trans h3)));simpa only [ap,agk]using h4
 ·have h5:=h3.s _ _ (bcy W.rt v rs (ast _ _ _ _ e6) a2);simpa only [V.evs]using h5
 ·exfalso
  have:∀e:List Ev,fresh M (ap e (.cut k W.o W.o::klL (ca N)))=false:=fun e=>by
   induction e with
   |nil=>rfl
   |cons x e ih=>cases x<;>simp[ap,fresh,ih]
  rw[this]at hfr;cases hfr
theorem bzl{Im:Nat->Prop}{w:World}:(o:O)->(x:o.strip.den)->(S:Nat->Prop)->(vs:List Value)->slO o=true->Rel Im w o x S vs->vs.length=1
 |.sl e,x,S,vs,_,r=>by simp only[Rel]at r;obtain⟨v',_,_,_,rfl,_⟩:=r;rfl
 |.fz _,_,_,_,h,_|.p _ _,_,_,_,h,_|.pt _,_,_,_,h,_|.mp _ _,_,_,_,h,_|.op _,_,_,_,h,_=>by cases h
theorem bvv:(o:O)->slO o=true->o.size=1
 |.sl e,_=>rfl
 |.fz _,h|.p _ _,h|.pt _,h|.mp _ _,h|.op _,h=>by cases h
theorem cbx{v:V}{k:Nat}(h:deK v=some k):v=.ref k [.de]:=by
 unfold deK at h;split at h
 ·rename_i j π
  cases hd:asf π with
  |false=>rw[hd]at h;cases h
  |true=>rw[hd]at h;simp only[a0d,a0e]at h;rw[h,alo hd]
 ·cases h
theorem ayz{R:V->Value->Prop}:∀(i:Nat)(vs:List V)(us:List Value)(v0:V)(r:List V),pkN i vs=some (v0,r)->us.length=vs.length->(∀(j:Nat) v u,vs[j]? = some v->us[j]? = some u->R v u)->
  ∃u us',us=gw i u us'/\us'.length=r.length/\R v0 u/\∀(j:Nat) v u,r[j]? = some v->us'[j]? = some u->R v u
 |_,[],_,_,_,h,_,_=>by cases ‹Nat›<;>simp[pkN]at h
 |0,v::vs,us,v0,r,h,hl,hr=>by
  simp only[pkN,a0e,a0n]at h;obtain⟨rfl,rfl⟩:=h
  match us,hl with
  |u::us,hl=>exact⟨u,us,rfl,by simpa using hl,hr 0 _ _ rfl rfl,fun j v u h1 h2=>hr (j+1) v u (by simpa using h1) (by simpa using h2)⟩
 |i+1,v::vs,us,v0,r,h,hl,hr=>by
  simp only[pkN]at h;split at h
  ·rename_i y s hs;simp only[a0e,a0n]at h;obtain⟨rfl,rfl⟩:=h
   match us,hl with
   |u::us,hl=>
    obtain⟨u',us',rfl,k1,k2,k3⟩:=ayz i vs us y s hs (by simpa using hl) (fun j v u h1 h2=>hr (j+1) v u (by simpa using h1) (by simpa using h2));refine⟨u',u::us',rfl,by simp[k1],k2,fun j w z h1 h2=>?_⟩
    cases j with
    |zero=>simp at h1 h2;subst h1;subst h2;exact hr 0 _ _ rfl rfl
    |succ j=>exact k3 j w z (by simpa using h1) (by simpa using h2)
  ·cases h
theorem bpc(hG:ah4 P F)(h:Hp F p M w)(hL:∀b,¬p.L b){f:FuncId}{W:Wt}(hw:bo6 P f W)(vs:List V)(us0:List Value)(hlen:us0.length=vs.length)(hrel:∀(i:Nat) v u,vs[i]? = some v->us0[i]? = some u->ao p.β M (Imm F p M w) w v u)
  {o:Oper} {d:Nat} (hr:(execOp a.eval o).run P w=.ok (.enter f us0.toArray) w) (hv:ab (afu W d vs M).vc) (qt:Bool) (Q:Exit->Act->World->Prop):o.wp P a w (fun a' w'=>∃v,a'=a.put o.dst v/\gx F p M w qt (afu W d vs M) v w') Q:=by
 unfold afu at hv⊢;split at hv
 ·rename_i v0 r hpk;obtain⟨u,us,rfl,hl',h0,hrel'⟩:=ayz (R:=ao p.β M (Imm F p M w) w) W.i vs us0 v0 r hpk hlen hrel;have hfz:=aq0 r M h;have hu:=hfz.s _ _ h0
  cases hroot:ai3 v0 with
  |some k=>
   simp only[hroot]at hv⊢
   cases hb:abw W.o with
   |false=>rw[hb]at hv;exact hv.1.elim
   |true=>
   simp only[hb,a0d]at hv⊢;exact axk hG h hL (cdx hw) k u r us (fun x hg=>am9 hfz.hp hg hroot (awk k v0 (ba5 hroot) r M (cq hg)) hu) hl' hrel' hr hv qt Q
  |none=>
   simp only[hroot]at hv⊢
   cases hde:deK v0 with
   |none=>simp only[hde]at hv;exact hv.1.elim
   |some k=>
   simp only[hde]at hv⊢
   cases hb:slO W.o with
   |false=>rw[hb]at hv;exact hv.1.elim
   |true=>
   simp only[hb,a0d]at hv⊢;have hv0:=cbx hde;subst hv0;refine axk hG h hL (cdc hb hw) k u r us (fun x hg=>?_) hl' hrel' hr hv qt Q;rw[awk k _ ⟨[.de],.inr rfl⟩ r M (cq hg)]at hu;simp only[ao,ak]at hu;obtain⟨o0,pl0,k1,k2,k3,k4⟩:=hu;rw[hg]at k1;cases k1;have hrk:=hfz.hp.objs k _ hg;simp only[pbW,Rel]at hrk;obtain⟨bb,us1,ty',S1,r1,r2,r3,r4,r5⟩:=hrk;simp only[a0q,a0c]at r1;have hsz:us1.length=1:=bzl _ _ _ _ hb r5;have hs1:W.o.size=1:=bvv _ hb;refine⟨bb,ty',r1,?_⟩
   obtain⟨z,rfl⟩:∃z,us1=[z]:=by
    match us1,hsz with
    |[z],_=>exact⟨z,rfl⟩
   rw[r1]at k4;simp only[pbW,res,hs1,a0e,a0n]at k4;rw[r3];have k5:cellsOf w bb 0 1=[z]:=by simp[cellsOf,World.cell?,r3]
   rw[k5]at k4;simp only[a0q,a0c]at k4;rw[k4.1]
 ·exact hv.1.elim
theorem Tr.un(h:Hp F p M w)(hL:∀b,¬p.L b){k j:Nat}{o:O}{x:o.strip.den}(hk:go M k=some ⟨.pt (.pt o),x⟩)(hj:go M j=none)(hg:k<gid) :
  ∃p',Tr F p M w [.un k j] p' ((j,⟨.pt o,x⟩)::Bm.del k M) w/\∀b,¬p'.L b:=by
 have hro:=h.objs k _ hk;simp only[Rel]at hro;obtain⟨b0,us0,ty0,S0,r1,r2,r3,r4,r5⟩:=hro;have r5':=r5;obtain⟨b1,us1,ty1,S1,q1,q2,q3,q4,q5⟩:=r5;subst q1;simp only[a0q,a0c]at r1;generalize hp':(⟨fun i=>if i=j then .pointer (some ⟨b1,0,none⟩)else p.β i,fun i=>if i=j then S0 else p.σ i,fun _=>False⟩:Ow)=p';have hjk:j≠k:=by rintro rfl;rw[hk]at hj;cases hj
 have hβj:p'.β j=.pointer (some ⟨b1,0,none⟩):=by rw[←hp'];simp
 have hσj:p'.σ j=S0:=by rw[←hp'];simp
 have hβ:∀i,i≠j->p'.β i=p.β i:=fun i hi=>by rw[←hp'];simp[hi]
 have hσ:∀i,i≠j->p'.σ i=p.σ i:=fun i hi=>by rw[←hp'];simp[hi]
 have hL':∀b,¬p'.L b:=fun b hb=>by rw[←hp']at hb;exact hb
 generalize hM1:(((j,⟨.pt o,x⟩)::Bm.del k M):Mem)=M1;have hgj:go M1 j=some ⟨.pt o,x⟩:=by rw[←hM1];exact qd _ _ _
 have hgi:∀i,i≠j->i≠k->go M1 i=go M i:=fun i h1 h2=>by rw[←hM1,dn,ds (a0u h1),dx h2]
 have hgk:go M1 k=none:=by rw[←hM1,dn,ds hjk,dy]
 have hlive:∀i,c6 M1 i->i=j\/(i≠j/\i≠k/\c6 M i):=fun i hi=>by
  by_cases e:i=j
  ·exact .inl e
  ·by_cases e':i=k
   ·subst e';unfold c6 at hi;rw[hgk]at hi;cases hi
   ·refine .inr ⟨e,e',?_⟩;unfold c6 at hi⊢;rwa [hgi i e e']at hi
 have hlk:=cq hk
 have hkeep:ju (Imm F p M w) (Imm F p' M1 w) w w:=fun b hb=>by
  refine⟨⟨hb.1,hb.2.1,hL' b,fun i hi=>?_⟩,rfl⟩;rcases hlive i hi with rfl|⟨h1,h2,h3⟩
  ·rw[hσj];exact fun hs=>hb.2.2.2 k hlk (r4 b hs).1
  ·rw[hσ i h1];exact hb.2.2.2 i h3
 have hb0:Imm F p' M1 w b0:=by
  obtain⟨o1,o2⟩:=h.own k b0 hlk r2;refine⟨o1,.inr (o2.elim (fun h=>.inl h.2) (fun h=>h.r)),hL' b0,fun i hi=>?_⟩;rcases hlive i hi with rfl|⟨h1,h2,h3⟩
  ·rw[hσj];exact fun hs=>(r4 b0 hs).2 rfl
  ·rw[hσ i h1];exact fun hs=>h.sep k i b0 (a0u h2) hlk h3 r2 hs
 have hne:∀i,c6 M i->i≠j:=fun i hi e=>by subst e;unfold c6 at hi;rw[hj]at hi;cases hi
 have hinner:Rel (Imm F p' M1 w) w (.pt o) x S0 [.pointer (some ⟨b1,0,none⟩)]:=Rel.keep hkeep _ _ _ _ (fun _ _=>rfl) r5';refine⟨p',Tr.one _ hkeep (fun i π vs r=>?_) (fun i π v r=>?_) ⟨fun i ob hi=>?_,fun i i' b hne' hi hi' hb=>?_,fun i b hi hb=>?_,fun b hb=>absurd hb (hL' b),h.os,h.tape,h.output,h.size,h.old⟩,hL'⟩
 ·simp only[Ev.ref,dg];have hij:i≠j:=by obtain⟨o,_,h1,_⟩:=r;exact hne i (cq h1)
  split
  ·rename_i e;subst e;simp only[ak];obtain⟨ob,pl,h1,h2,⟨q,h3⟩,h4⟩:=r;obtain⟨us,pl',S',e1,e2,e3,_⟩:=look h h1 h2 h3;rw[e1]at h4;cases h4;exact Rel.one _ _ _ _ e3
  ·rename_i e;simp only[ak];exact r.same h (hgi i hij e) (hβ i hij) (fun _ _ _=>rfl)
 ·simp only[Ev.ad,dg];have hij:i≠j:=by obtain⟨o,_,_,_,h1,_⟩:=r;exact hne i (cq h1)
  split
  ·rename_i e;subst e;split
   ·obtain⟨o',us,b,off,h1,h2,h3,h4,h5,h6⟩:=r;rw[hk]at h1;cases h1;rw[r1]at h5;simp only[res,a0e,a0n]at h5;rw[ak];refine⟨b0,0,[.pointer (some ⟨b1,0,none⟩)],by rw[h6,←h5.2.1,←h5.2.2],hb0,fun i' u hu=>?_,?_⟩
    ·cases i' with
     |zero=>simp only[a1u,a0e]at hu;subst hu;simp[World.cell?,r3]
     |succ i'=>simp at hu
    ·simp only[ak];refine⟨_,rfl,_,cellsOf w b1 0 o.size,b1,0,hgj,by simp only[gok],by simp only[get];exact⟨_,rfl⟩,by simp only[dp],by rw[hβj];simp only[res],rfl⟩
   ·simp only[ak];obtain⟨_,_,_,_,_,_,_,_,_,rfl⟩:=r;intro u hu;simp only[a0s]at hu;subst hu;rfl
  ·rename_i e;simp only[ak];exact⟨v,rfl,r.same h (hgi i hij e) (hβ i hij) (fun _ _ _=>rfl)⟩
 ·rcases hlive i (cq hi)with rfl|⟨h1,h2,h3⟩
  ·rw[hgj]at hi;cases hi;rw[hβj,hσj];exact hinner
  ·rw[hgi i h1 h2]at hi;rw[hβ i h1,hσ i h1];exact Rel.keep hkeep _ _ _ _ (fun _ _=>rfl) (h.objs i ob hi)
 ·rcases hlive i hi with e|⟨h1,h2,h3⟩
  ·rcases hlive i' hi' with e'|⟨h1',h2',h3'⟩
   ·exact absurd (e.trans e'.symm) hne'
   ·rw[e,hσj]at hb;rw[hσ i' h1'];exact h.sep k i' b (a0u h2') hlk h3' (r4 b hb).1
  ·rw[hσ i h1]at hb;rcases hlive i' hi' with e'|⟨h1',h2',h3'⟩
   ·rw[e',hσj];exact fun hs=>h.sep i k b h2 h3 hlk hb (r4 b hs).1
   ·rw[hσ i' h1'];exact h.sep i i' b hne' h3 h3' hb
 ·rcases hlive i hi with e|⟨h1,h2,h3⟩
  ·rw[e,hσj]at hb;obtain⟨o1,o2⟩:=h.own k b hlk (r4 b hb).1;exact⟨o1,o2.elim (fun h=>by have:=h.1;omega) .inr⟩
  ·rw[hσ i h1]at hb;exact h.own i b h3 hb
theorem bso(x y:V)(M:Mem)(r:Rs):(aa7 x y M r).vc=r.vc:=by
 unfold aa7;split
 ·split
  ·rename_i k j _ _ _ o z _ _;cases nob (Nat.blt k gid) (isN (go r.M j))<;>rfl
  ·rfl
 ·rfl
theorem bs6{x y:V}{r:Rs}{v:Value}(h:gx F p M w false r v w'):gx F p M w false (aa7 x y M r) v w':=by
 unfold aa7;split
 ·rename_i k j;split
  ·rename_i q1 q2 o z h1 h2
   cases hb:nob (Nat.blt k gid) (isN (go r.M j))with
   |false=>simpa only [a0j]using h
   |true=>
    simp only[a0d];simp only[be,a0b]at hb;obtain⟨p1,t1,l1,v1,_⟩:=h
    have hj:go r.M j=none:=by
     cases hg:go r.M j with
     |none=>rfl
     |some _=>rw[hg]at hb;simp[isN]at hb
    obtain⟨p2,t2,l2⟩:=Tr.un t1.hp l1 h2 hj (by simpa using hb.1);exact⟨p2,t1.trans t2,l2,by simp only[ao],fun _ hq=>by cases hq⟩
  ·exact h
 ·exact h
theorem Tr.kn(h:Hp F p M w){k:Nat}{X:V}(hX:∀u,Adr p.β M w k [.de] u->ak p.β (Bm.del k M) (Imm F p (Bm.del k M) w) w (.bx X) [u]):Tr F p M w [.kn k X] p (Bm.del k M) w:=by
 refine Tr.one (.kn k X) (h.del k).2 (fun j π vs r=>?_) (fun j π v r=>?_) (h.del k).1
 ·simp only[Ev.ref,dg];split
  ·simp only[ak];exact r.one h
  ·rename_i hne;simp only[ak];exact r.same h (dx hne M) rfl (fun _ _ _=>rfl)
 ·simp only[Ev.ad,dg];split
  ·rename_i e;subst e;split
   ·exact hX v r
   ·simp only[ak];intro u hu;rw[a0s.1 hu];exact r.one
  ·rename_i hne;simp only[ak];exact⟨v,rfl,r.same h (dx hne M) rfl (fun _ _ _=>rfl)⟩
theorem bl8(h:Hp F p M w){k:Nat}{f:FuncId}{v:V}{us:List Value}(hc:∀u,Adr p.β M w k [.de] u->∃b,u=.pointer (some ⟨b,0,none⟩)/\Imm F p (Bm.del k M) w b/\pg w b 0 [.func (.func f) #[] us.toArray])(hv:ak p.β M (Imm F p M w) w v us) :
  ∀(n:Nat) u,Adr p.β M w k [.de] u->ak p.β (Bm.del k M) (Imm F p (Bm.del k M) w) w (.bx (as2 f v k n)) [u]
 |0,u,hu=>by obtain⟨b,rfl,h2,h3⟩:=hc u hu;rw[ak];exact⟨b,0,_,rfl,h2,h3,by simp only[as2,ak,aq];exact⟨_,rfl,rfl⟩⟩
 |n+1,u,hu=>by obtain⟨b,rfl,h2,h3⟩:=hc u hu;rw[ak];refine⟨b,0,_,rfl,h2,h3,?_⟩;simp only[as2,ak];exact⟨us,rfl,(Tr.kn h (bl8 h hc hv n)).c v us hv⟩
theorem bvt(hB:TabOk P B)(h:Hp F p M w)(hL:∀b,¬p.L b){t:TypeId}{x0 y0:Operand}(x y:V)(hx:ao p.β M (Imm F p M w) w x (a.eval x0))(hy:ao p.β M (Imm F p M w) w y (a.eval y0))(hv:ab (aiv B t x y M).vc){op:Oper}(hop:op.op=.store t x0 y0) :
  ∃w',(execOp a.eval op).run P w=.ok .skip w'/\gx F p M w false (aiv B t x y M) undef w':=by
 unfold aiv at hv⊢
 cases hkn:axv (B.τ t) x y M with
 |none=>simp only[hkn,bso]at hv⊢;obtain⟨w',hr,hd⟩:=baq hB h hL (op:=op) _ _ hx hy hv hop;exact⟨w',hr,bs6 hd⟩
 |some r=>
  simp only[hkn]at hv⊢;unfold axv at hkn;split at hkn
  ·rename_i k f v1 v2
   cases hha:agd (.p v1 v2)with
   |false=>rw[hha]at hkn;cases hkn
   |true=>
   rw[hha]at hkn;simp only[a0d]at hkn;unfold bq2 at hkn;split at hkn
   ·rename_i z hgo
    cases hb:cd [(B.τ t).ok,gb (B.τ t).size 1,Nat.ble (Nat.succ k) gid]with
    |false=>rw[hb]at hkn;cases hkn
    |true=>
     rw[hb]at hkn;simp only[a0d,a0e]at hkn;subst hkn;simp only[br,bz,a0o,a0b,iz,a0r]at hb;obtain⟨k1,k2,k3⟩:=hb;have hy:ak p.β M (Imm F p M w) w (.fn f (.p v1 v2)) [a.eval y0]:=by simpa only [ao]using hy
     rw[ak]at hy;obtain⟨us,hyu,hyc⟩:=hy;simp only[a0q,a0c]at hyu;have hya:ao p.β M (Imm F p M w) w (.d .any ()) (a.eval y0):=by simp only[ao,ak,aq];exact⟨_,rfl,by rw[hyu];rfl⟩
     have hst:uq B t (.ad k [.de]) (.d .any ()) M=⟨[],.any,[.cut k (.pt (.fz .any)) (.pt (.fz .any))],put k ⟨.pt (.fz .any),()⟩ M⟩:=by
      have hs:isZ (B.τ t).size=false:=by rw[k2];rfl
      have hc:alg B.tk k (B.σ t) (.d .any ()) M=some (⟨.fz .any,()⟩,[],M):=by unfold alg;cases B.tk<;>simp[azu,conv]
      simp only[uq,hgo,qh,get,V.cells,kx,V.size,k1,k2,T.size,O.strip,iz,a38,isZ,qu,Bool.not_false,br,bz,a0o,a2n,a0d,agp,a0j,hc,set,be3,vj,ap]
     obtain⟨w',hr,hd⟩:=baq hB h hL (op:=op) (.ad k [.de]) (.d .any ()) hx hya (by rw[hst];trivial) hop;rw[hst]at hd;obtain⟨p1,t1,l1,_,_⟩:=hd;simp only at t1;refine⟨w',hr,?_⟩
     -- where the variable lies
     simp only[ao,ak,a0q,a0c,exists_eq_left']at hx;have hx1:=hx;obtain⟨ob,us0,b,off,j1,j2,j3,j4,j5,j6⟩:=hx;rw[hgo]at j1;cases j1;have hro:=h.objs k _ hgo;simp only[Rel]at hro;obtain⟨b0,us1,ty0,S0,r1,r2,r3,r4,r5⟩:=hro;simp only[a0q,a0c]at r1;rw[r1]at j5;simp only[res,a0e,a0n]at j5;obtain⟨j5a,j5b,j5c⟩:=j5;subst j5b;subst j5c;simp only[aq]at r5;obtain⟨c0,rfl,hc0⟩:=r5;have hone:∀u∈[Value.func (.func f) #[] us.toArray],u.oneCell'=true:=fun u hu=>by rw[a0s.1 hu];rfl
     have hrun:=run_storeCells_at P b0 0 ty0 [Value.func (.func f) #[] us.toArray] 0 _ w r3 (by simp) hone;simp only[Nat.add_zero]at hrun
     have hgoal:(execOp a.eval op).run P w=.ok .skip (w.setRow b0 ((([c0]:List Value).take 0++[Value.func (.func f) #[] us.toArray]++([c0]:List Value).drop (0+1)).toArray)):=by
      have eτ:=hB.τ t k1;rw[←eτ]at k1 k2;obtain⟨inf,ud,hi,hu⟩:=gu k1;rw[ke hi hu]at k2;simp only[rk]at k2;have hcells:(Value.func (.func f) #[] us.toArray).cells=#[Value.func (.func f) #[] us.toArray]:=rfl;have hrun':(storeCells { block:=b0,off:=0 } [Value.func (Fn.func f) #[] us.toArray]).run P w=Result.ok () (w.setRow b0 #[Value.func (Fn.func f) #[] us.toArray]):=by simpa using hrun
      simp[execOp,hop,Instr.storeAt,Instr.sureAddr,j6,hyu,storeVar,sizeOf,typeInfo,hi,hcells,hrun',k2]
     rw[hr]at hgoal;simp only[Result.ok.injEq,a0f]at hgoal;have hblk:w'.heap[b0]? = some (.cells #[Value.func (.func f) #[] us.toArray] ty0 (0,0)):=by rw[hgoal,setRow_heap w b0 _ _ ty0 _ r3];simp
     have hgk:go (put k ⟨.pt (.fz .any),()⟩ M) k=some ⟨.pt (.fz .any),()⟩:=my _ M (cq hgo);have hp1:=t1.hp;have hobj:=hp1.objs k _ hgk;simp only[Rel]at hobj;obtain⟨b1,us2,ty2,S2,s1,s2,s3,s4,s5⟩:=hobj;simp only[a0q,a0c]at s1
     have hself:=bl8 hp1 (k:=k) (f:=f) (v:=(V.p v1 v2).ev (.cut k (.pt (.fz .any)) (.pt (.fz .any)))) (us:=us) (fun u hu=>by
      obtain⟨ob',us',b',off',i1,i2,i3,i4,i5,i6⟩:=hu;rw[hgk]at i1;cases i1;rw[s1]at i5;simp only[res,a0e,a0n]at i5;obtain⟨_,rfl,rfl⟩:=i5
      have hb1:b1=b0:=by
       have hu1:=t1.c (.ad k [.de]) [a.eval x0] (by simp only[ak];exact⟨_,rfl,hx1⟩);have hev:(V.ad k [.de]).evs [.cut k (.pt (.fz .any)) (.pt (.fz .any))]=.ad k [.de]:=by simp[V.evs,V.ev,Ev.ad,qb,jj,aan]
       rw[hev]at hu1;simp only[ak,a0q,a0c,exists_eq_left']at hu1;obtain⟨ob3,us3,b3,off3,m1,m2,m3,m4,m5,m6⟩:=hu1;rw[hgk]at m1;cases m1;rw[s1]at m5;simp only[res,a0e,a0n]at m5;obtain⟨_,rfl,rfl⟩:=m5;rw[j6]at m6;simp only[a5e,a0e,Addr.mk.injEq]at m6;exact m6.1.symm
      subst hb1;refine⟨b1,i6,aft hp1 (cq hgk) s2,fun i u hu=>?_⟩
      cases i with
      |zero=>simp only[a1u,a0e]at hu;subst hu;simp[World.cell?,hblk]
      |succ i=>simp at hu) (t1.c (.p v1 v2) us hyc)
     have t2:=Tr.kn hp1 (hself 10);refine⟨p1,?_,l1,by simp only[ao],fun _ hq=>by cases hq⟩;have t3:=t1.trans t2;have hsv:∀n,as2 f ((V.p v1 v2).ev (.cut k (.pt (.fz .any)) (.pt (.fz .any)))) k n=as2 f ((V.p v1 v2).ev (.cut k (.pt (.fz .any)) (.pt (.fz .any)))) k n:=fun _=>rfl;exact t3
   ·cases hkn
  ·cases hkn
theorem bpm(hG:ah4 P F)(h:Hp F p M w)(hL:∀b,¬p.L b){f:FuncId}{W:Wa}(hw:WaOk P f W)(vs:List V)(us:List Value)(hlen:us.length=vs.length)(hrel:∀(i:Nat) v u,vs[i]? = some v->us[i]? = some u->ao p.β M (Imm F p M w) w v u)
  {o:Oper} (hr:(execOp a.eval o).run P w=.ok (.enter f us.toArray) w) (hv:ab (bc7 W vs M).vc) (qt:Bool) (Q:Exit->Act->World->Prop):o.wp P a w (fun a' w'=>∃v,a'=a.put o.dst v/\gx F p M w qt (bc7 W vs M) v w') Q:=by
 have h:False/\True:=hv;exact h.1.elim
theorem but(hG:ah4 P F)(h:Hp F p M w)(hL:∀b,¬p.L b){f:FuncId}{W:Wc}(hw:WcOk P f W)(vs:List V)(us:List Value)(hlen:us.length=vs.length)(hrel:∀(i:Nat) v u,vs[i]? = some v->us[i]? = some u->ao p.β M (Imm F p M w) w v u)
  {o:Oper} (hr:(execOp a.eval o).run P w=.ok (.enter f us.toArray) w) (hv:ab (az2 W vs M).vc) (qt:Bool) (Q:Exit->Act->World->Prop):o.wp P a w (fun a' w'=>∃v,a'=a.put o.dst v/\gx F p M w qt (az2 W vs M) v w') Q:=by
 have h:False/\True:=hv;exact h.1.elim
theorem brc{Im:Nat->Prop}{w:World}{oa:Option Addr}:{o:O}->{x:o.strip.den}->bap o=some x->Rel Im w o x (fun _=>False) [.slice oa 0 0]
 |.sl e,x,h=>by
  simp only[bap,a0e]at h;subst h;simp only[Rel];refine⟨_,0,[],fun _ _=>False,rfl,⟨by simp,.inl ⟨rfl,oa,rfl⟩⟩,a1j _,?_,?_,?_,?_⟩
  ·intro c hc;cases oa<;>cases hc
  ·intro i c h;exact h.elim
  ·intro i j c _ h;exact h.elim
  ·intro i y hi;simp at hi
 |.fz _,_,h|.p _ _,_,h|.pt _,_,h|.mp _ _,_,h|.op _,_,h=>by cases h
theorem bbg{f:FuncId}{W:Wu}(hw:bwl P f W)(hp:Hp F p M w)(hE:uj P (Imm F p M w) w){e1:List Ev}{p1:Ow}{M1:Mem}{S:Nat->Prop}(t1:Tr F p M w e1 p1 M1 w)(hS:∀b,p1.L b<->S b)(hSn:∀b,S b->b<w.heap.size/\¬Imm F p M w b)
  (u:Value) (x:W.o.strip.den) (us:List Value) (y:db W.as) (hx:Rel (Imm F p M w) w W.o x S [u]) (hargs:mg (Imm F p M w) w W.ag W.as y us) (hpre:ab (W.pre x y)) (d:Nat) {N:Mem} {v:V} {j':Nat} (hN:newL d 0 W.rt (W.res x y)=(v,N,j')) :
  Calls P f (gw W.i u us).toArray w fun e w'=>∃v' p',e=.returned v'/\Tr F p M w (ap e1 (klL (ca N))) p' (ap N (mn (ca N) M1)) w'/\(∀b,¬p'.L b)/\ao p'.β (ap N (mn (ca N) M1)) (Imm F p' (ap N (mn (ca N) M1)) w') w' (apq W.rt v) v'/\
   ((∀b,¬S b)->fresh M1 (klL (ca N))=true->Qt p1 M1 p' (ap N (mn (ca N) M1)) w w'):=by
 refine (hw (Imm F p M w) w u x us y S hE (fun b hb=>hb.1) hSn hx hargs hpre).mono fun e w' ⟨rs,R,q1,q2,q3,q4⟩=>?_;have h1:=bb3 (ca N) M1 t1.hp;have h2:=Tr.growL h1.hp (w':=w') ⟨q2.os,q2.tape,q2.output,q2.size,fun b hb hL=>q2.old b hb (fun h=>hL ((hS b).2 h))⟩ R (fun b hb=>(q3 b hb).2.elim (fun h=>.inl ((hS b).2 h)) fun h=>.inr ⟨h,(q3 b hb).1⟩)
 have hkeep:∀b,(fun b=>b<w'.heap.size/\(Imm F p M w b\/S b\/w.heap.size<=b)/\¬R b) b->Imm F ⟨p1.β,p1.σ,R⟩ (mn (ca N) M1) w' b:=fun b ⟨b1,b2,b3⟩=>by
  rcases b2 with b2|b2|b2
  ·have:=(h1.keep b (t1.keep b b2).1).1;exact⟨b1,this.2.1,b3,this.2.2.2⟩
  ·have:=h1.hp.lim b ((hS b).2 b2);exact⟨b1,.inr this.2.1.r,b3,this.2.2⟩
  ·refine⟨b1,.inr (.inr (a0z hp.size b2)),b3,fun k hk hs=>?_⟩;have:=(h1.hp.own k b hk hs).1;omega
 obtain⟨hle,hkeys⟩:=apz d W.rt 0 (W.res x y);have hnew:=aws (F:=F) (w:=w') d j' W.rt (mn (ca N) M1) ⟨p1.β,p1.σ,R⟩ 0 (W.res x y) R rs h2.hp (g9.keep hkeep _ _ _ _ q4) (fun b hb=>hb);rw[hN]at hnew hle hkeys;simp only at hnew hle hkeys;obtain⟨p2,a1,a2⟩:=hnew (a0k _) (fun i hi hij=>(afs (ca N) M1 _).1 (.inl (hkeys i hi hij)));have h3:=Tr.drop a1.tr.hp (fun _=>False) (fun b hb=>hb.elim);refine⟨_,⟨p2.β,p2.σ,fun _=>False⟩,q1,?_,fun b hb=>hb,?_,fun hs hf=>⟨⟨q2.os,q2.tape,q2.output,q2.size,fun b hb=>q2.old b hb (hs b)⟩,fun j ob hj=>?_⟩⟩
 ·have h4:=t1.trans (h1.trans (h2.trans (a1.tr.trans h3)));simpa only [ap,agk]using h4
 ·have h5:=h3.s _ _ (bcy W.rt v rs (ast _ _ _ _ q4) a2);simpa only [V.evs]using h5
 ·have hn:j∉ca N:=fun hk=>by have:=atj _ hf j hk;rw[this]at hj;cases hj
  exact a1.old j ob (by rw[(afs (ca N) M1 j).2 hn];exact hj)
theorem bty(hG:ah4 P F)(h:Hp F p M w)(hL:∀b,¬p.L b){f:FuncId}{W:Wu}(hw:bwl P f W)(vs:List V)(us0:List Value)(hlen:us0.length=vs.length)(hrel:∀(i:Nat) v u,vs[i]? = some v->us0[i]? = some u->ao p.β M (Imm F p M w) w v u)
  {o:Oper} {d:Nat} (hr:(execOp a.eval o).run P w=.ok (.enter f us0.toArray) w) (hv:ab (amu W d vs M).vc) (qt:Bool) (Q:Exit->Act->World->Prop):o.wp P a w (fun a' w'=>∃v,a'=a.put o.dst v/\gx F p M w qt (amu W d vs M) v w') Q:=by
 unfold amu at hv⊢;split at hv
 ·rename_i v0 r hpk;obtain⟨u,us,rfl,hl',h0,hrel'⟩:=ayz (R:=ao p.β M (Imm F p M w) w) W.i vs us0 v0 r hpk hlen hrel
  cases b2:nob (slO W.o) (shp r W.ag)with
  |false=>rw[b2]at hv;exact hv.1.elim
  |true=>
  simp only[b2,a0d]at hv⊢;rw[be,a0b]at b2;have hfz:=aq0 r M h;have hff:=bfe r M;have hrt:=awk (M:=M) (vs:=r);have hu:=hfz.s _ _ h0;generalize hz:qa M r=z at hv hfz hu hff hrt⊢;obtain⟨e0,M1⟩:=z;simp only at hv hfz hu hff hrt⊢
  cases hy:asL (ux e0 r) W.as with
  |none=>simp only[hy]at hv;exact hv.1.elim
  |some y=>
  simp only[hy]at hv⊢
  have hrel1:∀(i:Nat) v u',(ux e0 r)[i]? = some v->us[i]? = some u'->ao p.β M1 (Imm F p M1 w) w v u':=fun i v u' hv hu'=>by
   rw[amf]at hv
   cases hx:r[i]? with
   |none=>rw[hx]at hv;cases hv
   |some v0=>rw[hx]at hv;simp only[a1e,a0e]at hv;subst hv;exact hfz.s _ _ (hrel' i v0 u' hx hu')
  have hargs:=auo hfz.hp _ _ _ _ _ (by rw[aat];simpa using hl') hrel1 (by rw[av0];exact b2.2) hy
  cases hroot:ai3 v0 with
  |some k=>
   simp only[hroot]at hv⊢
   cases hkg:Nat.ble (Nat.succ k) gid with
   |false=>rw[hkg]at hv;exact hv.1.elim
   |true=>
   simp only[hkg,a0d]at hv⊢
   cases hg:go M1 k with
   |none=>simp only[hg]at hv;exact hv.1.elim
   |some ob=>
   simp only[hg]at hv⊢
   cases hc:yp ob W.o with
   |none=>simp only[hc]at hv;exact hv.1.elim
   |some x=>
   simp only[hc]at hv⊢;have:=xq hc;subst this;have hlk:=cq hg;have hbox:u=p.β k:=am9 hfz.hp hg hroot (e:=e0) (hrt k v0 (ba5 hroot) hlk) hu;have t1:=Tr.lim hfz.hp k hlk (a08 hkg);unfold abi at hv⊢;generalize hN:newL d 0 W.rt (W.res x y)=q at hv⊢;obtain⟨v,N,j'⟩:=q;simp only at hv⊢;unfold Oper.wp;rw[hr,a3s];refine (bbg (S:=p.σ k) hw hfz.hp (aq1 hG hfz.hp hL) t1 (fun b=>⟨fun h=>h.elim (fun h=>(hL b h).elim) id,.inr⟩) (fun b hb=>⟨(hfz.hp.own k b hlk hb).1,fun hi=>hi.2.2.2 k hlk hb⟩) u x us y (hbox▸hfz.hp.objs k _ hg) hargs hv d hN).mono fun e w' ⟨v',p',q1,q2,q3,q4,_⟩=>?_;subst q1;refine⟨_,rfl,p',?_,q3,q4,fun hfr _=>?_⟩
   ·have h4:=hfz.trans q2;rw[amt];exact h4
   ·exfalso;rcases hff with⟨rfl,rfl⟩|⟨z,r',rfl,hz2⟩
    ·simp[ap,fresh,hg,isN]at hfr
    ·rw[show ap (ap (z::r') [Ev.kl k]) (klL (ca N))=z::ap (ap r' [Ev.kl k]) (klL (ca N))from rfl,afr hz2]at hfr;cases hfr
  |none=>
   simp only[hroot]at hv⊢;split at hv
   ·rename_i x hx;unfold abi at hv⊢;generalize hN:newL d 0 W.rt (W.res x y)=q at hv⊢;obtain⟨v,N,j'⟩:=q;simp only at hv⊢;have hu':∃oa,u=.slice oa 0 0:=by have:ao p.β M (Imm F p M w) w .nl u:=h0;simp only[ao,ak,a0q,a0c]at this;exact this
    obtain⟨oa,rfl⟩:=hu';have hxx:Rel (Imm F p M1 w) w W.o x (fun _=>False) [.slice oa 0 0]:=brc hx;unfold Oper.wp;rw[hr,a3s];refine (bbg (S:=fun _=>False) hw hfz.hp (aq1 hG hfz.hp hL) (Tr.refl hfz.hp) (fun b=>⟨fun h=>hL b h,fun h=>h.elim⟩) (fun b hb=>hb.elim) _ x us y hxx hargs hv d hN).mono fun e w' ⟨v',p',q1,q2,q3,q4,q5⟩=>?_;subst q1;refine⟨_,rfl,p',?_,q3,q4,fun hfr _=>?_⟩
    ·exact hfz.trans q2
    ·rcases hff with⟨rfl,rfl⟩|⟨z,r',rfl,hz2⟩
     ·exact q5 (fun _ h=>h) hfr
     ·exfalso;rw[show ap (z::r') (klL (ca N))=z::ap r' (klL (ca N))from rfl,afr hz2]at hfr;cases hfr
   ·exact hv.1.elim
 ·exact hv.1.elim
theorem bf4(hΦ:uw P F Φ)(h:Hp F p M w)(hL:∀b,¬p.L b){f:FuncId}{ct:Ct}(hf:Φ f=some ct)(vs:List V)(us:List Value)(hlen:us.length=vs.length)(hrel:∀(i:Nat) v u,vs[i]? = some v->us[i]? = some u->ao p.β M (Imm F p M w) w v u){o:Oper}{d:Nat}(hr0:(∀args w,(callFunc f args).run P w=.ok (.enter f args) w)->(execOp a.eval o).run P w=.ok (.enter f us.toArray) w)
  (hv:ab (ab8 ct d vs M).vc) (qt:Bool) (Q:Exit->Act->World->Prop):o.wp P a w (fun a' w'=>∃v,a'=a.put o.dst v/\gx F p M w qt (ab8 ct d vs M) v w') Q:=by
 obtain⟨hΦ,hG⟩:=hΦ;obtain⟨hcall,hspec⟩:=hΦ f ct hf;have hr:=hr0 hcall;unfold ab8 at hv⊢
 cases hmu:ct.mu with
 |some mu=>
  cases mu with
  |o O=>simp only[hmu]at hv hspec⊢;unfold Oper.wp;rw[hr,a3s];refine (hspec F p M w vs us hG h hL hlen hrel hv).mono fun e w' ⟨r,h1,p',h2,h3,h4,h5⟩=>?_;subst h1;exact⟨_,rfl,p',h2,h3,h4,fun hfr _=>h5 hfr rfl⟩
  |m m=>simp only[hmu]at hv hspec⊢;exact buh hG h hL hspec _ _ hlen hrel hr hv qt Q
  |w W=>simp only[hmu]at hv hspec⊢;exact bpc hG h hL hspec _ _ hlen hrel hr hv qt Q
  |s s=>simp only[hmu]at hv;exact hv.1.elim
  |a W=>simp only[hmu]at hv hspec⊢;exact bpm hG h hL hspec _ _ hlen hrel hr hv qt Q
  |k W=>simp only[hmu]at hv hspec⊢;exact bty hG h hL hspec _ _ hlen hrel hr hv qt Q
  |c W=>simp only[hmu]at hv hspec⊢;exact but hG h hL hspec _ _ hlen hrel hr hv qt Q
 |none=>
 simp only[hmu]at hv hspec⊢;unfold blm at hspec
 cases hs:shp vs ct.ga with
 |false=>rw[hs]at hv;exact hv.1.elim
 |true=>
  simp only[hs,a0d]at hv⊢
  cases hsh:ct.sh with
  |false=>
   simp only[hsh]at hv⊢;split at hv
   ·rename_i x hx;generalize hN:newL d 0 ct.rt (ct.res x)=q at hv⊢;obtain⟨v,N,j'⟩:=q;simp only at hv⊢;unfold Oper.wp;rw[hr,a3s];refine (hspec (All F w) w _ x (cak hG h) (fun b hb=>hb.1) (blv h _ _ _ _ _ hlen hrel hs hx) hv).mono fun e w' ⟨rs,S,he1,he2,he3,he4⟩=>?_;subst he1;obtain⟨p',t1,t2,t3,t4⟩:=bnq h hL ct d x (A:=All F w) (fun h=>by rw[hsh]at h;cases h) he2 he3 he4 hN;exact⟨_,rfl,p',t1,t2,t3,fun hfr _=>t4 hfr⟩
   ·exact hv.1.elim
  |true=>
   simp only[hsh]at hv⊢;have hfz:=aq0 vs M h;have hff:=bfe vs M;generalize qa M vs=z at hv hfz hff⊢;obtain⟨e0,M1⟩:=z;simp only at hv hfz hff⊢;split at hv
   ·rename_i x hx;generalize hN:newL d 0 ct.rt (ct.res x)=q at hv⊢;obtain⟨v,N,j'⟩:=q;simp only at hv⊢;unfold Oper.wp;rw[hr,a3s]
    have hrel1:∀(i:Nat) v u,(ux e0 vs)[i]? = some v->us[i]? = some u->ao p.β M1 (Imm F p M1 w) w v u:=fun i v u hv hu=>by
     rw[amf]at hv
     cases hx:vs[i]? with
     |none=>rw[hx]at hv;cases hv
     |some v0=>rw[hx]at hv;simp only[a1e,a0e]at hv;subst hv;exact hfz.s _ _ (hrel i v0 u hx hu)
    refine (hspec (Imm F p M1 w) w _ x (aq1 hG hfz.hp hL) (fun b hb=>hb.1) (auo hfz.hp _ _ _ _ _ (by rw[aat];exact hlen) hrel1 (by rw[av0];exact hs) hx) hv).mono fun e w' ⟨rs,S,he1,he2,he3,he4⟩=>?_;subst he1;obtain⟨p',t1,t2,t3,t4⟩:=bnq hfz.hp hL ct d x (A:=Imm F p M1 w) (fun _ b hb=>hb) he2 he3 he4 hN;refine⟨_,rfl,p',hfz.trans t1,t2,t3,fun hfr _=>?_⟩;rcases hff with⟨rfl,rfl⟩|⟨y,r,rfl,hy⟩
    ·exact t4 hfr
    ·exfalso;rw[show ap (y::r) (klL (ca N))=y::ap r (klL (ca N))from rfl]at hfr;rw[afr hy]at hfr;cases hfr
   ·exact hv.1.elim
theorem ah8{q:Nat×Operand}{ps:Array (Nat×Operand)}(h:q∈ps.toList):q.2∈cy.snds (toL ps):=by
 rw[ew];generalize ps.toList=l at h
 induction l with
 |nil=>cases h
 |cons x l ih=>
  obtain⟨i,y⟩:=x;simp only[cy.snds];rcases a0t.1 h with rfl|h
  ·simp
  ·exact a1k _ (ih h)
theorem bp9(hB:TabOk P B)(h:Hp F p M w)(hL:∀b,¬p.L b){t:TypeId}(dst:Option Nat)(x:V)(u:Value)(hx:ao p.β M (Imm F p M w) w x u)(hv:ab (ul (B.τ t) M dst x).vc)(qt:Bool) :
  ∃r,(Instr.loadAt t u).run P w=.ok r w/\gx F p M w qt (ul (B.τ t) M dst x) r w:=by
 unfold ul at hv⊢;obtain⟨r,h1,h2⟩:=bgo hB h _ _ hx hv;exact⟨r,h1,gx.pure h hL h2 _⟩
theorem cau{r:Nat}{π:cr}(q:Ob)(M':Mem)(hc:ac4 gid r π M=some (q,[],M')):False:=by
 unfold ac4 at hc
 cases hok:neg (nq r gid)with
 |true=>rw[hok]at hc;cases hc
 |false=>
  rw[hok]at hc;simp only[a0j]at hc
  cases hg:go M r with
  |none=>rw[hg]at hc;cases hc
  |some ob=>
   rw[hg]at hc;simp only at hc
   cases hq:get π ob.o ob.x with
   |none=>rw[hq]at hc;cases hc
   |some q0=>
    rw[hq]at hc
    cases π with
    |nil=>cases hc
    |cons s π=>
     simp only at hc
     cases hh:agp (s::π)with
     |true=>rw[hh]at hc;cases hc
     |false=>rw[hh]at hc;simp only[a0j]at hc;split at hc<;>cases hc
theorem bvn(hB:TabOk P B)(h:Hp F p M w)(hL:∀b,¬p.L b){t:TypeId}(ρ:Operand->V)(x:Operand)(lo hi:Option Operand)(hx:ao p.β M (Imm F p M w) w (ρ x) (a.eval x))(hlo:∀y,lo=some y->ao p.β M (Imm F p M w) w (ρ y) (a.eval y))(hhi:∀y,hi=some y->ao p.β M (Imm F p M w) w (ρ y) (a.eval y))
  (hv:ab (as0 B (B.τ t) ρ x lo hi M).vc) (qt:Bool) {o:Oper} (ho:o.op=.slice t x lo hi none):∃v w',(execOp a.eval o).run P w=.ok (.value v) w'/\gx F p M w qt (as0 B (B.τ t) ρ x lo hi M) v w':=by
 unfold as0 at hv⊢;split at hv
 ·rename_i r π hr;split at hv
  ·rename_i q e M' hc;rw[hr]at hx;have hx1:Ref p.β M w r π [a.eval x]:=by have:=hx;simp only[ao,ak]at this;exact this
   obtain⟨_,p1,S,cv⟩:=blu h gid r π [a.eval x] q e M' hx1 hc;have td:=Tr.drop cv.tr.hp (fun b=>p.L b) (fun b hb=>(cv.L b).2 (.inl hb));have tt:Tr F p M w e ⟨p1.β,p1.σ,fun b=>p.L b⟩ M' w:=by have:=cv.tr.trans td;rwa [agk]at this
   have hrel:ao p1.β M' (Imm F ⟨p1.β,p1.σ,fun b=>p.L b⟩ M' w) w (.d q.o.strip q.x) (a.eval x):=by rw[cf];refine Rel.frz (fun b hb=>(td.keep b hb).1) q.o q.x S [a.eval x] (fun b hb=>?_) cv.rel;have hl:=cv.tr.hp.lim b ((cv.L b).2 (.inr hb));exact⟨hl.1,.inr hl.2.1.r,fun h=>cv.sp b hb h,hl.2.2⟩
   obtain⟨u,h1,h2⟩:=bn6 (p:=⟨p1.β,p1.σ,fun b=>p.L b⟩) (M:=M') hB (x0:=x) (lo0:=lo) (hi0:=hi) _ (fun y=>(ρ y).evs e) hrel (fun y hy=>tt.s _ _ (hlo y hy)) (fun y hy=>tt.s _ _ (hhi y hy)) hv;refine⟨u,w,by simp[execOp,ho,h1],_,tt,hL,h2,fun hf _=>?_⟩;exfalso;rcases cv.fr with⟨e1,_,_⟩|⟨y,r',e1,e2⟩
   ·subst e1;exact cau q M' hc
   ·subst e1;have:=afr (M:=M) (r:=r') e2;rw[this]at hf;cases hf
  ·exact hv.1.elim
 ·obtain⟨u,h1,h2⟩:=bn6 hB (x0:=x) (lo0:=lo) (hi0:=hi) _ ρ hx hlo hhi hv;exact⟨u,w,by simp[execOp,ho,h1],gx.pure h hL h2 _⟩
theorem cce(hB:TabOk P B)(h:Hp F p M w)(hL:∀b,¬p.L b){t:TypeId}(d:Option Nat)(ρ:Operand->V)(x:Operand)(lo hi:Option Operand)(hx:ao p.β M (Imm F p M w) w (ρ x) (a.eval x))(hlo:∀y,lo=some y->ao p.β M (Imm F p M w) w (ρ y) (a.eval y))
  (hv:ab (alf B (B.τ t) d ρ x lo hi M).vc) (qt:Bool) {o:Oper} (ho:o.op=.slice t x lo hi none):∃v w',(execOp a.eval o).run P w=.ok (.value v) w'/\gx F p M w qt (alf B (B.τ t) d ρ x lo hi M) v w':=by
 unfold alf at hv⊢;split at hv
 ·rename_i r d ki n e hr hlo0 he
  obtain⟨y,rfl,hy⟩:∃y,lo=some y/\ρ y=.d (.int ki) n:=by
   cases lo with
   |none=>cases hlo0
   |some y=>simp only[zj,a0e]at hlo0;exact⟨y,rfl,hlo0⟩
  split at hv
  ·rename_i oo l hg
   cases hk:cd [nq r d,(B.τ t).ok,(B.τ e).ok,gb oo.strip.size (B.τ e).size]with
   |false=>rw[hk]at hv;exact hv.1.elim
   |true=>
    simp only[hk,a0d,d7,fh,a0c]at hv⊢;simp only[br,bz,a0o,a0b,iz,a0r]at hk;obtain⟨k0,k1,k2,k3⟩:=hk;obtain⟨hne,hgid⟩:=zu (r:=r) (k:=d) (by rw[k0];rfl);have eτ:=hB.τ t k1;have eτ':=hB.τ e k2;rw[←eτ]at k1 he;rw[←eτ']at k2 k3;obtain⟨inf,u,hi',hu⟩:=gu k1;obtain⟨infe,ue,hie,hue⟩:=gu k2;rw[ke hi' hu]at he;rw[ke hie hue]at k3;simp only[rk]at he k3;cases u<;>simp at he;obtain rfl:=he.symm;have h1:=hlo y rfl;rw[hy,cf,fx]at h1;rw[hr]at hx;simp only[ao,ak]at hx;obtain⟨ob,pl,q1,q2,q3,q4⟩:=hx;rw[hg]at q1;cases q1;simp only[res,a0e,a0n,a0q,a0c]at q4;have hvβ:=q4.1;have hrel:=h.objs r _ hg;rw[hvβ]at hrel;have hrel0:=hrel;simp only[Rel,a0q,a0c]at hrel;obtain⟨v',ety,xs,T,rfl,r2,r3,r4,r5,r6,r7⟩:=hrel;have hel:P.elem t=e:=by simp[Program.elem,hu]
    have hu':P.underlying t=some (.slice (P.elem t)):=by rw[hel];exact hu
    have hsz:(sizeOf (P.elem t)).run P w=.ok infe.size w:=by rw[hel];simp[sizeOf,typeInfo,hie]
    have hn0:(0:Int)<=n:=hv.1;have hnl:n<=(l.length:Int):=hv.2;have hnn:n.toNat<=l.length:=tn1 hnl
    obtain⟨oa,cap,hsl,hcap⟩:∃oa cap,a.eval x=.slice oa l.length cap/\l.length<=cap:=by
     rcases ach r2 with⟨hn,oa,hs⟩|⟨g,off,c,cur,hs,_,hc,_⟩
     ·exact⟨oa,0,by rw[hs,hn],by omega⟩
     ·exact⟨_,_,hs,hc⟩
    have hrun:(execOp a.eval o).run P w=.ok (.value (sliced oa n.toNat l.length cap infe.size)) w:=by
     have:(Instr.sliceAt t (a.eval x) (some (a.eval y)) none none).run P w=.ok (sliced oa n.toNat l.length cap infe.size) w:=by rw[run_sliceAt_slice w t _ _ _ _ hu',hsl,h1.1,run_slice_l w t oa l.length cap hu' ki n hn0 hnl,hsz];rfl
     simp[execOp,ho,this]
    have c2:=Cv.whole h d hg hgid;obtain⟨hk1,hk2⟩:=Hp.del c2.tr.hp d;have hxl:xs.length=l.length*oo.size:=r2.1;have hos:oo.size=infe.size:=k3
    -- the row that begins later
    have hnew:xm w ety oo.size (sliced oa n.toNat l.length cap infe.size) (l.drop n.toNat).length (xs.drop (n.toNat*oo.size))/\∀b,mi (sliced oa n.toNat l.length cap infe.size)=some b->mi (a.eval x)=some b:=by
     rcases ach r2 with⟨hn,oa',hs⟩|⟨g,off,c,cur,hs,hg1,hc1,hc2,hc3,hc4⟩
     ·rw[hs]at hsl;simp only[Value.slice.injEq]at hsl;obtain⟨rfl,_,rfl⟩:=hsl;have hz:n.toNat=0:=by omega
      have hl0:l=[]:=a18 hn;subst hl0;rw[hz];simp only[sliced,a04,List.drop_nil,a0i,a3t,Nat.zero_mul,List.drop_zero];have hxs:xs=[]:=a18 (by simpa using hxl);rw[hxs];exact⟨bm2 w ety _ _,fun b hb=>by cases oa'<;>cases hb⟩
     ·rw[hs]at hsl;simp only[Value.slice.injEq]at hsl;obtain⟨rfl,_,rfl⟩:=hsl;have hdl:(xs.drop (n.toNat*oo.size)).length=(l.drop n.toNat).length*oo.size:=by rw[a13,a13,hxl,Nat.sub_mul]
      by_cases hce:c+1=n.toNat
      ·have hll:l.length=n.toNat:=by omega
       have e0:(l.drop n.toNat).length=0:=by rw[a13];omega
       simp only[sliced,a0a hce];rw[show l.length-n.toNat=0 by omega,show c+1-n.toNat=0 by omega];refine⟨⟨hdl,.inl ⟨e0,_,rfl⟩⟩,fun b hb=>by cases hb⟩
      ·simp only[sliced,ds hce,a1e];rw[a24];obtain⟨m,hm⟩:∃m,c+1-n.toNat=m+1:=⟨c-n.toNat,by omega⟩;rw[hm];refine⟨⟨hdl,.inr ⟨g,off+n.toNat*infe.size,m,cur,by rw[a13],hg1,by rw[a13];omega,by omega,?_,?_⟩⟩,fun b hb=>by rw[hs];exact hb⟩
       ·rw[hc3,←hm,hos,Nat.sub_mul];have:n.toNat*infe.size<=(c+1)*infe.size:=a2q _ (by omega);omega
       ·rw[←hc4,a4r,a3l,hos,a13,Nat.sub_mul]
    obtain⟨o1,o2⟩:=hnew;have hσ:∀b,p.σ r b->p.L b\/p.σ r b:=fun b hb=>.inr hb;have hld:∀i,(l.drop n.toNat)[i]? = l[n.toNat+i]?:=fun i=>a1l;refine⟨_,w,hrun,gx.appQ (r:=⟨_,.ref d [],[.kl r,.kl d],_⟩) (p':=_) (c2.tr.trans ((Tr.kl c2.tr.hp d).trans (Tr.new (w':=w) hk1 d (dy d _) (sliced oa n.toNat l.length cap infe.size) (p.σ r) ⟨.sl oo,l.drop n.toNat⟩ ⟨rfl,⟨rfl,a0k _⟩,rfl,a0k _,fun _ _ _=>rfl⟩ (fun b hb=>.inr (.inr hb)) (fun hkp=>?_)))) (fun b hb=>hb) ?_ ?_⟩
    ·simp only[Rel];refine⟨_,ety,_,fun i=>T (n.toNat+i),rfl,o1,by rw[a13];omega,fun b hb=>r4 b (o2 b hb),fun i c hc=>⟨(r5 _ c hc).1,fun e=>(r5 _ c hc).2 (o2 c e)⟩,fun i j c hij=>r6 _ _ c (by omega),fun i z hz=>?_⟩;rw[hld]at hz;have:=r7 _ z hz;rw[a3l,←a2g];exact Rel.keep ((c2.tr.keep.trans (Tr.kl c2.tr.hp d).keep).trans hkp) _ _ _ _ (fun _ _=>rfl) this
    ·simp only[ao,ak];refine⟨⟨.sl oo,l.drop n.toNat⟩,none,qd _ _ _,by simp only[gok],⟨⟨.sl oo,l.drop n.toNat⟩,by simp only[get]⟩,?_⟩;rw[ain];simp only[res]
    ·show fresh M [.kl r,.kl d]=false;simp[fresh,hg,isN]
  ·exact hv.1.elim
 ·exact hv.1.elim
theorem bvq(hB:TabOk P B)(h:Hp F p M w)(hL:∀b,¬p.L b){t:TypeId}(d:Option Nat)(ρ:Operand->V)(x:Operand)(lo hi:Option Operand)(hx:ao p.β M (Imm F p M w) w (ρ x) (a.eval x))(hlo:∀y,lo=some y->ao p.β M (Imm F p M w) w (ρ y) (a.eval y))(hhi:∀y,hi=some y->ao p.β M (Imm F p M w) w (ρ y) (a.eval y))
  (hv:ab (aav B t d ρ x lo hi M).vc) (qt:Bool) {o:Oper} (ho:o.op=.slice t x lo hi none):∃v w',(execOp a.eval o).run P w=.ok (.value v) w'/\gx F p M w qt (aav B t d ρ x lo hi M) v w':=by
 unfold aav at hv⊢
 cases hn:nsT (B.σ t)with
 |true=>simp only[hn,a0d]at hv⊢;exact cce hB h hL d ρ x lo hi hx hlo hv qt ho
 |false=>simp only[hn,a0j]at hv⊢;exact bvn hB h hL ρ x lo hi hx hlo hhi hv qt ho
theorem by3(hΦ:uw P F Φ)(hB:TabOk P B)(h:Hp F p M w)(hL:∀b,¬p.L b)(o:Oper)(ρ:Operand->V)(hρ:∀x∈cy o.op,ao p.β M (Imm F p M w) w (ρ x) (a.eval x))(hv:ab (dz B Φ o ρ M).vc)(Q:Exit->Act->World->Prop) :
  o.wp P a w (fun a' w'=>∃v,a'=a.put o.dst v/\gx F p M w (pd o) (dz B Φ o ρ M) v w') Q:=by
 have pure_ok:∀{q:List Prop×V} {r:Value},(execOp a.eval o).run P w=.ok (.value r) w->ao p.β M (Imm F p M w) w q.2 r->o.wp P a w (fun a' w'=>∃v,a'=a.put o.dst v/\gx F p M w (pd o) (dh q M) v w') Q:=fun hr hx=>ba2 hr ⟨_,rfl,gx.pure h hL hx _⟩;have val_ok:∀{r:Rs},(∃v w',(execOp a.eval o).run P w=.ok (.value v) w'/\gx F p M w (pd o) r v w')->o.wp P a w (fun a' w'=>∃v,a'=a.put o.dst v/\gx F p M w (pd o) r v w') Q:=fun⟨v,w',hr,hd⟩=>ba2 hr ⟨_,rfl,hd⟩;obtain⟨dst,op,ty',pos,after,guard⟩:=o;cases op
 case move x=>exact pure_ok (r:=a.eval x) (by simp[execOp]) (hρ x (by simp[cy]))
 case assign x=>exact pure_ok (r:=a.eval x) (by simp[execOp]) (hρ x (by simp[cy]))
 case nilCheck x=>simp only[dz,dh]at hv;obtain⟨⟨ad,h1⟩,h2⟩:=bwt _ _ (hρ x (by simp[cy])) hv;exact pure_ok (r:=a.eval x) (by simp[execOp,h1]) h2
 case load t x=>simp only[dz]at hv⊢;obtain⟨r,h1,h2⟩:=bp9 hB h hL dst _ _ (hρ x (by simp[cy])) hv (pd { dst:=dst,op:=.load t x,type:=ty',pos:=pos,after:=after,guard:=guard });exact val_ok ⟨r,w,by simp[execOp,h1],h2⟩
 case fieldAddr t x i=>simp only[dz,dh]at hv;obtain⟨r,h1,h2⟩:=bsx hB h _ _ (hρ x (by simp[cy])) hv;exact pure_ok (r:=r) (by simp[execOp,h1]) h2
 case field t x i=>simp only[dz,dh]at hv;obtain⟨r,h1,h2⟩:=bvm hB h _ _ (hρ x (by simp[cy])) hv;exact pure_ok (r:=r) (by simp[execOp,h1]) h2
 case indexAddr t x i=>simp only[dz,dh]at hv;obtain⟨r,h1,h2⟩:=bu8 hB h _ _ _ _ (hρ x (by simp[cy])) (hρ i (by simp[cy])) hv;exact pure_ok (r:=r) (by simp[execOp,h1]) h2
 case index t x i=>simp only[dz,dh]at hv;obtain⟨r,h1,h2⟩:=bzh hB t _ _ _ _ (hρ x (by simp[cy])) (hρ i (by simp[cy])) hv;exact pure_ok (r:=r) (by simp[execOp,h1]) h2
 case binOp op t x y yt=>simp only[dz,dh]at hv;obtain⟨r,h1,h2⟩:=br2 hB op t x y _ _ _ _ _ _ (bsh a y) (bsa a y) (hρ x (by simp[cy])) (hρ y (by simp[cy])) hv;refine pure_ok (r:=r) ?_ h2;simp only[execOp,a1q,a2l]at h1⊢;rw[h1];rfl
 case unOp op t x=>simp only[dz,dh]at hv;obtain⟨r,h1,h2⟩:=bzj (P:=P) op _ _ (hρ x (by simp[cy])) hv;exact pure_ok (r:=r) (by simp[execOp,h1]) h2
 case convert s d x=>simp only[dz,dh]at hv;obtain⟨r,h1,h2⟩:=bo0 hB h s d _ _ (hρ x (by simp[cy])) hv;exact pure_ok (r:=r) (by simp[execOp,h1]) h2
 case extract x i=>simp only[dz,dh]at hv;obtain⟨r,h1,h2⟩:=buo (P:=P) _ i _ (hρ x (by simp[cy])) hv;exact pure_ok (r:=r) (by simp[execOp,h1]) h2
 case slice t x lo hi mx=>
  cases mx with
  |some _=>simp only[dz]at hv;exact hv.1.elim
  |none=>simp only[dz]at hv⊢;exact val_ok (bvq hB h hL dst ρ x lo hi (hρ x (by simp[cy])) (fun y hy=>hρ y (by subst hy;simp[cy,cy.optL,ap])) (fun y hy=>hρ y (by subst hy;simp[cy,cy.optL,mj])) hv _ rfl)
 case alloc e=>simp only[dz]at hv⊢;exact val_ok (bzc hB h hL dst hv _ rfl)
 case box e x=>simp only[dz]at hv⊢;exact val_ok (bwm h hL dst _ x (hρ x (by simp[cy])) hv _ rfl)
 case build t parts=>simp only[dz]at hv⊢;exact val_ok (bpz hB h hL ρ (fun q hq=>hρ q.2 (ah8 hq)) hv _ rfl)
 case buildSlice t n parts=>simp only[dz]at hv⊢;exact val_ok (bvk hB h hL ρ (fun q hq=>hρ q.2 (ah8 hq)) dst hv _ rfl)
 case makeSlice t l c=>simp only[dz]at hv⊢;exact val_ok (br0 hB h hL _ _ (hρ l (by simp[cy])) (hρ c (by simp[cy])) dst hv _ rfl)
 case makeFunc fn fs cs=>
  simp only[dz,dh]at hv;have hlen:(cs.toList.map a.eval).length=(ve ρ cs.toList).length:=by rw[aq9,a00]
  unfold bcg at hv;split at hv
  ·rename_i f c hf hc;have hfs:fs=#[]:=by apply a2k;rw[ew]at hf;simpa using hf
   subst hfs;rw[ew]at hc
   have hrc:=bm7 h (ve ρ cs.toList) (cs.toList.map a.eval) c hlen (fun i v u hv hu=>by
    rw[aq5]at hv;rw[a1r]at hu
    cases hx:cs.toList[i]? with
    |none=>rw[hx]at hv;cases hv
    |some x=>rw[hx]at hv hu;simp only[a1e,a0e]at hv hu;subst hv;subst hu;exact hρ x (by simp only[cy,ew,mj];exact a25 _ (a3m hx))) hc
   refine pure_ok (r:=.func (.func f) #[] (cs.toList.map a.eval).toArray) (by
    have e:(cs.toList.map a.eval).toArray=cs.map a.eval:=by apply a2k;simp
    rw[e];simp[execOp,Instr.makeFunc]) ?_
   have hev:bcg M (.func f) (toL #[]) (ve ρ (toL cs))=du (.fn f c):=by unfold bcg;rw[ew,ew,hc]
   rw[hev];simp only[du,ao,ak];exact⟨_,rfl,hrc⟩
  ·exact hv.1.elim
 case store t x y=>simp only[dz]at hv;simp only[dz];obtain⟨w',hr,hd⟩:=bvt hB h hL (op:={ dst:=dst,op:=.store t x y,type:=ty',pos:=pos,after:=after,guard:=guard }) _ _ (hρ x (by simp[cy])) (hρ y (by simp[cy])) hv rfl;exact bjf hr ⟨_,rfl,hd⟩
 case lookup t x i ok=>simp only[dz,dh]at hv;obtain⟨r,h1,h2⟩:=btu hB h _ _ _ _ ok (hρ x (by simp[cy])) (hρ i (by simp[cy])) hv;exact pure_ok (r:=r) (by simp[execOp,h1]) h2
 case makeMap t rs=>
  cases rs with
  |some _=>simp only[dz]at hv;exact hv.1.elim
  |none=>simp only[dz]at hv⊢;obtain⟨r,w',h1,h2⟩:=bp3 hB h hL dst hv (pd { dst:=dst,op:=.makeMap t none,type:=ty',pos:=pos,after:=after,guard:=guard });exact val_ok ⟨r,w',by simp[execOp,h1],h2⟩
 case mapUpdate t m i x=>simp only[dz]at hv⊢;obtain⟨w',hr,hd⟩:=bp4 hB h hL _ _ _ _ _ _ (hρ m (by simp[cy])) (hρ i (by simp[cy])) (hρ x (by simp[cy])) hv;exact bjf (by simp[execOp,hr]) ⟨_,rfl,hd⟩
 case makeInterface t x=>simp only[dz,dh]at hv;obtain⟨r,h1,h2⟩:=bwy hB h _ _ (hρ x (by simp[cy])) hv;exact pure_ok (r:=r) (by simp[execOp,h1]) h2
 case typeAssert x xt i ok=>simp only[dz,dh]at hv;obtain⟨r,h1,h2⟩:=bw6 hB (xt:=xt) ok _ _ (hρ x (by simp[cy])) hv;exact pure_ok (r:=r) (by simp[execOp,h1]) h2
 case call c=>
  obtain⟨callee,args,argTypes⟩:=c;simp only[cy,ew]at hρ;have hρa:∀x∈args.toList,ao p.β M (Imm F p M w) w (ρ x) (a.eval x):=fun x hx=>hρ x (by rw[mj];exact a25 _ hx);simp only[dz,ew]at hv⊢;split at hv
  ·split at hv
   ·rename_i x t ha ht;have ha':args=#[x]:=by apply a2k;simpa using ha
    have ht':argTypes=#[t]:=by apply a2k;simpa using ht
    subst ha';subst ht';simp only[dh]at hv;obtain⟨r,h1,h2⟩:=bv8 hB (ty':=ty') h _ _ (hρa x (by simp)) hv;refine pure_ok (r:=r) ?_ h2;simp[execOp,resolve,invoke,builtin,h1]
   ·exact hv.1.elim
  ·split at hv
   ·rename_i x y ha;have ha':args=#[x,y]:=by apply a2k;simpa using ha
    subst ha';simp only[dh]at hv;obtain⟨r,h1,h2⟩:=bnu (P:=P) true argTypes ty' _ _ _ _ (hρa x (by simp)) (hρa y (by simp)) hv;exact pure_ok (r:=r) (by simp only[a0d]at h1;simp[execOp,resolve,invoke,builtin,h1]) h2
   ·exact hv.1.elim
  ·split at hv
   ·rename_i x y ha;have ha':args=#[x,y]:=by apply a2k;simpa using ha
    subst ha';simp only[dh]at hv;obtain⟨r,h1,h2⟩:=bnu (P:=P) false argTypes ty' _ _ _ _ (hρa x (by simp)) (hρa y (by simp)) hv;exact pure_ok (r:=r) (by simp only[a0j]at h1;simp[execOp,resolve,invoke,builtin,h1]) h2
   ·exact hv.1.elim
  ·split at hv
   ·rename_i x y t t' ha ht;have ha':args=#[x,y]:=by apply a2k;simpa using ha
    have ht':argTypes=#[t,t']:=by apply a2k;simpa using ht
    subst ha';subst ht';simp only[dg]at hv⊢;split at hv
    ·rename_i e;subst e;rw[a0a rfl];obtain⟨v',w',hr,hd⟩:=bv1 hB (ty':=ty') h hL dst _ _ _ _ (hρa x (by simp)) (hρa y (by simp)) hv;exact ba2 (v:=v') (w':=w') (by simp[execOp,resolve,invoke,builtin,hr]) ⟨_,rfl,hd⟩
    ·exact hv.1.elim
   ·exact hv.1.elim
  ·rename_i cx;split at hv
   ·rename_i f c d hfn;split at hv
    ·rename_i ct cs hf hcs;obtain⟨us,hcx,hcr⟩:=ccz (hρ cx (by rw[mj];exact a2b _ (by simp[cy.calO]))) hfn;obtain⟨cl,crel⟩:=boa h c us cs hcr hcs;have hal:(args.toList.map a.eval).length=(ve ρ args.toList).length:=by rw[aq9,a00]
     refine bf4 hΦ h hL hf (o:={ dst:=some d,op:=.call { callee:=.value cx,args:=args,argTypes:=argTypes },type:=ty',pos:=pos,after:=after,guard:=guard }) (ap (ve ρ args.toList) cs) (args.toList.map a.eval++us) (by rw[mj,a0m,a0m,hal,cl]) (fun i v u hv hu=>?_) (fun hc=>?_) hv _ Q
     ·rw[mj]at hv;by_cases hi:i<(ve ρ args.toList).length
      ·rw[a1f hi]at hv;rw[a1f (by omega)]at hu;rw[aq5]at hv;rw[a1r]at hu
       cases hx:args.toList[i]? with
       |none=>rw[hx]at hv;cases hv
       |some x=>rw[hx]at hv hu;simp only[a1e,a0e]at hv hu;subst hv;subst hu;exact hρa x (a3m hx)
      ·rw[a1s (by omega)]at hv;rw[a1s (by omega)]at hu;rw[hal]at hu;exact crel _ v u hv hu
     ·have e:(args.toList.map a.eval++us).toArray=args.map a.eval++us.toArray:=by apply a2k;simp
      rw[e];have hc1:=hc (args.map a.eval++us.toArray) w;simp[execOp,resolve,hcx,Deferred.ofValue,invoke,hc1]
    ·exact hv.1.elim
   ·exact hv.1.elim
  ·rename_i rc name;split at hv
   ·rename_i t v d hin;split at hv
    ·rename_i f hfm;split at hv
     ·rename_i ct hf;obtain⟨y,hy,hyr⟩:=br7 (hρ rc (by rw[mj];exact a2b _ (by simp[cy.calO]))) hin;have hal:(args.toList.map a.eval).length=(ve ρ args.toList).length:=by rw[aq9,a00]
      refine bf4 hΦ h hL hf (o:={ dst:=some d,op:=.call { callee:=.invoke rc name,args:=args,argTypes:=argTypes },type:=ty',pos:=pos,after:=after,guard:=guard }) (v::ve ρ args.toList) (y::args.toList.map a.eval) (by simp[hal]) (fun i v' u hv hu=>?_) (fun hc=>?_) hv _ Q
      ·cases i with
       |zero=>simp only[a1u,a0e]at hv hu;subst hv;subst hu;exact hyr
       |succ i=>
        simp only[a2i]at hv hu;rw[aq5]at hv;rw[a1r]at hu
        cases hx:args.toList[i]? with
        |none=>rw[hx]at hv;cases hv
        |some x=>rw[hx]at hv hu;simp only[a1e,a0e]at hv hu;subst hv;subst hu;exact hρa x (a3m hx)
      ·have e:(y::args.toList.map a.eval).toArray=#[y]++args.map a.eval:=by apply a2k;simp
       rw[e];have hc1:=hc (#[y]++args.map a.eval) w;obtain⟨k,hk⟩:∃k,P.types.size+Made.depth=k+1:=⟨P.types.size+99,rfl⟩;have hm:=bsy (w:=w) hB.m hfm k y;have e0:(#[Value.iface t y]++args.map a.eval)[0]? = some (Value.iface t y):=by rw[a3u Nat.zero_lt_one];rfl
       have e2:(args.map a.eval).extract 0 args.size=args.map a.eval:=by
        have:=Array.extract_size (xs:=args.map a.eval)
        rwa [Array.size_map]at this
       simp only[execOp,resolve,hy];simp[invoke,callMethod,e0,e2,hk,hm,hc1]
     ·exact hv.1.elim
    ·exact hv.1.elim
   ·exact hv.1.elim
  ·exact hv.1.elim
 all_goals exact hv.1.elim
end
end Go.Bm
/- The ff machine:regions in the order of their text. -/
namespace Go.Bm
open Go.RowKit
section
variable {F:Fr} {p p' p'':Ow} {env:Env} {M M' M'':Mem} {a:Act} {w w' w'':World} {P:Program} {B:Tab} {Φ:FuncId->Option Ct}
section
variable (hp:Hp F p' M' w') (q:Qt p M p' M' w w') (hL:∀ b,¬ p.L b)
include hp q hL
omit hp in
theorem bb6{b:Nat}(h:Imm F p' M' w' b):Imm F p M w' b:=by refine⟨h.1,h.2.1,hL b,fun j hj=>?_⟩;obtain⟨ob,ho⟩:=bd8 hj;obtain⟨h1,h2,h3⟩:=q.old j ob ho;rw[←h3];exact h.2.2.2 j (cq h1)
theorem bmb{k b:Nat}(hk:go M k=none)(hl:c6 M' k)(h:p'.σ k b):Imm F p M w' b:=by obtain⟨h1,h2⟩:=hp.own k b hl h;refine⟨h1,h2.elim (fun h=>.inr (.inl h.2)) (fun h=>.inr h.r),hL b,fun j hj=>?_⟩;obtain⟨ob,ho⟩:=bd8 hj;obtain⟨e1,e2,e3⟩:=q.old j ob ho;rw[←e3];exact hp.sep k j b (fun e=>by rw[e,ho]at hk;cases hk) hl (cq e1) h
theorem can(k:Nat)(π:cr)(vs:List Value)(r:Ref p'.β M' w' k π vs):ak p.β M (Imm F p M w') w' (avF M M' (.ref k π)) vs:=by
 simp only[avF];split
 ·rename_i ob ho;obtain⟨e1,e2,e3⟩:=q.old k ob ho;simp only[ak];obtain⟨ob',pl,k1,k2,k3,k4⟩:=r;rw[e1]at k1;cases k1;exact⟨ob,pl,ho,k2,k3,by rw[←e2];exact k4⟩
 ·rename_i ho;split
  ·rename_i qq hq;obtain⟨ob,g1,g2⟩:=uk hq;obtain⟨ob',pl,k1,k2,k3,k4⟩:=r;rw[g1]at k1;cases k1;obtain⟨us,pl',S',e1,e2,e3,_⟩:=look hp g1 k2 g2;rw[e1]at k4;cases k4;exact th _ _ _ (Rel.frz (fun b hb=>bb6 q hL hb) _ _ S' _ (fun b hb=>bmb hp q hL ho (cq g1) (e2 b hb)) e3)
  ·simp only[ak];exact r.one hp
theorem cbn(k:Nat)(π:cr)(v:Value)(r:Adr p'.β M' w' k π v):ak p.β M (Imm F p M w') w' (avF M M' (.ad k π)) [v]:=by
 simp only[avF];split
 ·rename_i ob ho;obtain⟨e1,e2,e3⟩:=q.old k ob ho;simp only[ak];obtain⟨ob',us,b,off,k1,k2,k3,k4,k5,k6⟩:=r;rw[e1]at k1;cases k1;exact⟨v,rfl,ob,us,b,off,ho,k2,k3,k4,by rw[←e2];exact k5,k6⟩
 ·rename_i ho;split
  ·rename_i qq hq;obtain⟨ob,g1,g2⟩:=uk hq;obtain⟨ob',us0,b0,off0,k1,k2,k3,k4,k5,rfl⟩:=r;rw[g1]at k1;cases k1;obtain⟨us,pl',S',e1,e2,e3,e4,_⟩:=look hp g1 k2 g2;rw[e1]at k5;simp only[a0e,a0n]at k5;obtain⟨rfl,rfl⟩:=k5;obtain⟨b,off,cur,ty',c1,c2,c3,c4,c5⟩:=e4 k4;simp only[a0e,a0n]at c1;obtain⟨rfl,rfl⟩:=c1;simp only[ak,aq]
   exact⟨b0,off0,us,rfl,bmb hp q hL ho (cq g1) c2,fun j u hu=>by rw[a2f w' b0 _ cur ty' (0,0) c4];exact c5 j u hu,
    Rel.frz (fun b hb=>bb6 q hL hb) _ _ S' _ (fun b hb=>bmb hp q hL ho (cq g1) (e2 b hb)) e3⟩
  ·simp only[ak];intro u hu;rw[a0s.1 hu];exact r.one
theorem ym:(v:V)->(vs:List Value)->ak p'.β M' (Imm F p' M' w') w' v vs->ak p.β M (Imm F p M w') w' (avF M M' v) vs
 |.p a b,vs,r=>by simp only[ak]at r;simp only[avF,ak];obtain⟨va,vb,h1,h2,h3⟩:=r;exact⟨va,vb,h1,ym a va h2,ym b vb h3⟩
 |.u,vs,r=>by simpa only [avF,ak]using r
 |.ref k π,vs,r=>by simp only[ak]at r;exact can hp q hL k π vs r
 |.ad k π,vs,r=>by simp only[ak]at r;obtain⟨v,rfl,r⟩:=r;exact cbn hp q hL k π v r
 |.d t x,vs,r=>by simp only[ak,avF]at r⊢;exact aq.keep (fun b hb=>⟨bb6 q hL hb,rfl⟩) t x vs r
 |.nl,vs,r|.np,vs,r|.any,vs,r=>by simpa only [avF,ak]using r
 |.fn f v,vs,r=>by simp only[ak]at r;simp only[avF,ak];obtain⟨us,h1,h2⟩:=r;exact⟨us,h1,ym v us h2⟩
 |.bx v,vs,r=>by simp only[ak]at r;simp only[avF,ak];obtain⟨b,o,us,h1,h2,h3,h4⟩:=r;exact⟨b,o,us,h1,bb6 q hL h2,h3,ym v us h4⟩
 |.ag _,vs,r|.tup _,vs,r|.gd _ _ _ _,vs,r=>by simp only[ak]at r
 |.ifc t v,vs,r=>by simp only[ak]at r;simp only[avF,ak];obtain⟨u,h1,h2⟩:=r;exact⟨u,h1,ym v [u] h2⟩
mutual
theorem bxl:(v:V)->(u:Value)->ao p'.β M' (Imm F p' M' w') w' v u->ao p.β M (Imm F p M w') w' (avF M M' v) u
 |.any,u,r=>by simp only[avF,ao]
 |.ag v,u,r=>by simp only[avF,ao]at r⊢;obtain⟨vs,h1,h2⟩:=r;exact⟨vs,h1,ym hp q hL v vs h2⟩
 |.tup v,u,r=>by simp only[avF,ao]at r⊢;obtain⟨vs,h1,h2⟩:=r;exact⟨vs,h1,byx v vs h2⟩
 |.gd _ _ _ _,u,r=>by simp only[avF,ao]
 |.ifc t v,u,r|.p a b,u,r|.u,u,r|.ref k π,u,r|.ad k π,u,r|.d t x,u,r|.nl,u,r|.np,u,r|.fn f x,u,r|.bx x,u,r=>by simp only[ao]at r;exact bu (ym hp q hL _ _ r)
theorem byx:(v:V)->(us:List Value)->da p'.β M' (Imm F p' M' w') w' v us->da p.β M (Imm F p M w') w' (avF M M' v) us
 |.p a b,us,r=>by simp only[avF,da]at r⊢;obtain⟨u,us',h1,h2,h3⟩:=r;exact⟨u,us',h1,bxl a u h2,byx b us' h3⟩
 |.u,us,r=>by simpa only [avF,da]using r
 |.any,us,r|.ag x,us,r|.tup x,us,r|.gd _ _ _ x,us,r|.ifc t x,us,r|.ref k π,us,r|.ad k π,us,r|.d t x,us,r|.nl,us,r|.np,us,r|.fn f x,us,r|.bx x,us,r=>by simp only[da]at r
end
end
theorem bhm(h:St F p env M a w)(x:Operand)(hx:acy x=true):ao p.β M (Imm F p M w) w (rd env x) (a.eval x):=by
 cases x with
 |tmp t=>simp only[rd,Act.eval];exact h.slots t
 |const v=>
  simp only[rd,Act.eval];simp only[acy]at hx
  cases v with
  |int k n=>simp only[rdV,cf,fx,a0f];simp only[bqo,inKb,br,bz,a0o,a0b,a0w]at hx;exact hx
  |bool b=>simp only[rdV,cf,jy]
  |string s=>simp only[rdV,cf,am0,a0f];simp only[bqo]at hx;exact a08 hx
  |slice o n m=>
   cases o with
   |some _=>simp only[rdV,ao]
   |none=>
    simp only[rdV]
    cases hb:nob (Nat.beq n 0) (Nat.beq m 0)with
    |false=>simp only[a0j,ao]
    |true=>simp only[be,a0b]at hb;have h1:=a0v hb.1;have h2:=a0v hb.2;subst h1;subst h2;simp only[a0d,ao,ak];exact⟨none,rfl⟩
  |pointer o=>
   cases o with
   |some _=>simp only[rdV,ao]
   |none=>simp only[rdV,ao,ak]
  |nilIface=>simp only[rdV];rw[cf];simp only[aq];simp
  |_=>simp only[rdV,ao]
 |func f=>simp only[rd,Act.eval,ao,ak];exact⟨[],rfl,rfl⟩
 |global g=>simp only[rd,ao]
theorem anq(f:Operand->V):∀(l:List Operand),ab (pi f l)->∀x∈l,∀j b Q v,f x=.gd j b Q v->Q
 |[],_,x,hx,_,_,_,_,_=>by cases hx
 |y::r,h,x,hx,j,b,Q,v,e=>by
  simp only[pi]at h;rcases a0t.1 hx with rfl|hx
  ·rw[e]at h;exact h.1
  ·split at h
   ·exact anq f r h.2 x hx j b Q v e
   ·exact anq f r h x hx j b Q v e
theorem ar0{x:Operand}{u:Value}(h:ao p.β M (Imm F p M w) w (rd env x) u)(hn:∀j b Q v,rd env x=.gd j b Q v->Q):ao p.β M (Imm F p M w) w (rd env x).strip u:=by
 cases hx:rd env x with
 |gd j b Q v=>rw[hx]at h;simp only[ao]at h;simp only[V.strip];exact h.1 (hn j b Q v hx)
 |_=>rw[hx]at h;exact h
def yB(u:Value):Option Bool:=match u with|.bool b=>some b|_=>none
theorem bht{β:Nat->Value}{Im:Nat->Prop}:(x:V)->(u:Value)->(want:Bool)->lx x=true->ao β M Im w x u->((yB u==some want)=true<->gc x want)
 |.d .bool b,u,want,_,r=>by rw[cf,jy]at r;subst r;simp[yB,gc]
 |.gd j b Q x,u,want,h,r=>by
  simp only[ao]at r;simp only[lx]at h;simp only[gc];by_cases hp:Q
  ·rw[bht x u want h (r.1 hp)];simp[hp]
  ·rw[r.2 hp];simp[yB,undef,hp]
 |.any,_,_,h,_|.nl,_,_,h,_|.np,_,_,h,_|.u,_,_,h,_|.d (.int _) _,_,_,h,_|.d .str _,_,_,h,_|.d .u _,_,_,h,_|.d (.p _ _) _,_,_,h,_|.d (.sl _) _,_,_,h,_|.d (.pt _) _,_,_,h,_|.d (.fn _ _) _,_,_,h,_|.d .any _,_,_,h,_|.ref _ _,_,_,h,_|.ad _ _,_,_,h,_|.p _ _,_,_,h,_|.ag _,_,_,h,_|.tup _,_,_,h,_|.fn _ _,_,_,h,_|.ifc _ _,_,_,h,_|.bx _,_,_,h,_=>by simp[lx]at h
theorem ar3{ops:Array Oper}{tmps:Array Value}{j d:Nat}(hd:(ops[j]?).bind (·.dst)=some d):yielded ops tmps j=yB (tmps.getD d undef):=by
 unfold yielded;rw[hd];simp only[Option.bind_some];rw[a3v]
 cases tmps[d]? with
 |none=>rfl
 |some u=>cases u<;>rfl
theorem asw{v:V}(h:v.isB=true):∃b,v=.d .bool b/\v.boolV=b:=by
 cases v with
 |d t x=>cases t<;>simp[V.isB]at h;exact⟨x,rfl,rfl⟩
 |_=>simp[V.isB]at h
theorem brl(h:St F p env M a w)(c x y:Operand)(hc:acy c=true)(hx:acy x=true)(hy:acy y=true)(hv:ab (ag6 env c x y).1) :
  ∃r,(do pure (if ←asBool (a.eval c)then a.eval x else a.eval y):Sem Value).run P w=.ok r w/\ao p.β M (Imm F p M w) w (ag6 env c x y).2 r:=by
 unfold ag6 at hv⊢;have hk:=km hv;simp only[hk,a0d]at hv⊢;simp only[br,bz,a0o,a0b]at hk;obtain⟨cb,c1,c2⟩:=asw hk.1;obtain⟨xb,x1,x2⟩:=asw hk.2.1;obtain⟨yb,y1,y2⟩:=asw hk.2.2;simp only[kv]at hv;obtain⟨v1,v2,v3⟩:=hv;have hcv:=ar0 (bhm h c hc) (fun j b Q v e=>anq _ _ v1 c (by simp) j b Q v e);rw[c1,cf,jy]at hcv;simp only[c1,x1,y1,V.boolV]at v2 v3⊢
 have hxv:cb=true->a.eval x=.bool xb:=fun hcb=>by
  have:=ar0 (bhm h x hx) (fun j b Q v e=>by rw[e]at v2;simp only[ai6,d7]at v2;exact v2.1 hcb)
  rwa [x1,cf,jy]at this
 have hyv:cb=false->a.eval y=.bool yb:=fun hcb=>by
  have:=ar0 (bhm h y hy) (fun j b Q v e=>by rw[e]at v3;simp only[ai6,d7]at v3;exact v3.1 hcb)
  rwa [y1,cf,jy]at this
 have hval:∀r,r=(if cb=true then a.eval x else a.eval y)->r=.bool (bif cb then xb else yb):=fun r hr=>by
  cases cb with
  |true=>rw[hr,a0a rfl,hxv rfl];rfl
  |false=>rw[hr,ds (by simp),hyv rfl];rfl
 have hpick:bhr cb x y xb yb=(bif cb then xb else yb):=by
  unfold bhr;split
  ·simp only[rd,rdV,V.strip,V.d.injEq,heq_eq_eq,a0f]at x1;subst x1;cases cb<;>rfl
  ·simp only[rd,rdV,V.strip,V.d.injEq,heq_eq_eq,a0f]at y1;subst y1;cases cb<;>simp
  ·rfl
 refine⟨if cb=true then a.eval x else a.eval y,?_,?_⟩
 ·simp only[a1q,a2l,hcv,asBool,a14]
 ·rw[cf,jy,hpick];exact hval _ rfl
def mr(nt:Nat):List Oper->Bool
 |[]=>true
 |o::r=>nob (match o.dst with|some k=>Nat.ble (Nat.succ k) nt|none=>true) (nob (bja acy (cy o.op)) (nob (match o.op with|.pick c a b=>cd [acy c,acy a,acy b]|_=>true) (mr nt r)))
theorem af2{nt:Nat}{o:Oper}{r:List Oper}(h:mr nt (o::r)=true):(∀k,o.dst=some k->k<nt)/\(∀x∈cy o.op,acy x=true)/\(∀c a b,o.op=.pick c a b->acy c=true/\acy a=true/\acy b=true)/\mr nt r=true:=by
 simp only[mr,be,a0b]at h;obtain⟨h1,h2,h3,h4⟩:=h;refine⟨fun k hk=>?_,(bvw _ _).1 h2,fun c a b e=>?_,h4⟩
 ·rw[hk]at h1;exact a08 h1
 ·rw[e]at h3;simpa only [br,bz,a0o,a0b]using h3
theorem w9{nt:Nat}{o:Oper}:{l:List Oper}->mr nt l=true->o∈l->mr nt [o]=true
 |[],_,h=>by cases h
 |x::l,h,hm=>by
  rcases a0t.1 hm with rfl|hm
  ·simp only[mr,be,a0b]at h⊢;exact⟨h.1,h.2.1,h.2.2.1,trivial⟩
  ·exact w9 (af2 h).2.2.2 hm
theorem atq(hΦ:uw P F Φ)(hB:TabOk P B)(h:St F p env M a w){o:Oper}(hc:mr F.nt [o]=true)(hv:ab (evR B Φ o env M).vc)(Q:Exit->Act->World->Prop) :
  o.wp P a w (fun a' w'=>∃v,a'=a.put o.dst v/\gx F p M w (pd o) (evR B Φ o env M) v w') Q:=by
 obtain⟨_,c1,c2,_⟩:=af2 hc;have key:∀r:Rs,dz B Φ o (fun x=>(rd env x).strip) M=r->ab (pi (rd env) (cy o.op))->ab r.vc->o.wp P a w (fun a' w'=>∃v,a'=a.put o.dst v/\gx F p M w (pd o) r v w') Q:=fun r hr h1 h2=>by subst hr;exact by3 hΦ hB h.hp h.lz o _ (fun x hx=>ar0 (bhm h x (c1 x hx)) (fun j b Q v e=>anq _ _ h1 x hx j b Q v e)) h2 Q
 unfold evR at hv⊢;split at hv
 ·rename_i c x y hop;obtain⟨k1,k2,k3⟩:=c2 c x y hop;simp only[dh]at hv;obtain⟨r,h1,h2⟩:=brl (P:=P) h c x y k1 k2 k3 hv;refine ba2 (v:=r) (w':=w) ?_ ⟨_,rfl,gx.pure h.hp h.lz h2 _⟩;simp only[a1q,a2l]at h1;simp only[execOp,hop,a1q,a2l]
  cases hcc:(asBool (a.eval c)).run P w with
  |ok b w1=>rw[hcc]at h1;simp only[a14,Result.ok.injEq]at h1⊢;rw[h1.1,h1.2];exact⟨rfl,rfl⟩
  |halt hh w1=>rw[hcc]at h1;simp at h1
 ·generalize hq:dz B Φ o (fun x=>(rd env x).strip) M=q at hv⊢;obtain⟨vc,v,e,M1⟩:=q;simp only[kv]at hv⊢;refine a26 (fun a' w' ⟨u,h1,p',h2,h3,h4,h5⟩=>⟨u,h1,p',h2,h3,h4,h5⟩) (key _ hq hv.1 hv.2)
theorem St.wrO{d:Option Nat}(h:St F p env M a w)(x:V)(v:Value)(hx:ao p.β M (Imm F p M w) w x v)(hd:∀k,d=some k->F.ok k):St F p (wr d x env) M (a.put d v) w:=by
 cases d with
 |none=>exact h
 |some k=>exact h.write k x v hx (hd k rfl)
theorem gx.frz{r:Rs}{v:Value}(h:St F p env M a w)(hd:gx F p M w true r v w')(hf:fresh M r.ev=true):St F p env M a w'/\ao p.β M (Imm F p M w') w' (avF M r.M r.av) v:=by obtain⟨p',h1,h2,h3,h4⟩:=hd;have q:=h4 hf rfl;exact⟨h.ext q.ext,bxl h1.hp q h.lz _ _ h3⟩
theorem ay9(all:Array Oper)(j:Nat):vq (toL all) j=(all[j]?).bind (·.dst):=by unfold vq;rw[afp,ew,a5d];cases all[j]?<;>rfl
theorem bjj{o:Oper}(hc:mr F.nt [o]=true)(hfv:∀k,o.dst=some k->F.fv k=none):∀k,o.dst=some k->F.ok k:=fun k hk=>⟨(af2 hc).1 k hk,hfv k hk⟩
theorem bdw(hΦ:uw P F Φ)(hB:TabOk P B)(all:Array Oper)(h:St F p env M a w){o:Oper}{rest:List Oper}{K:Env->Mem->Prop}(hk:tw B Φ (toL all) (o::rest) env M K)(hc:mr F.nt [o]=true)(hfv:∀k,o.dst=some k->F.fv k=none)(Q:Exit->Act->World->Prop) :
  (if Region.wanted o (yielded all a.tmps)then o.wp P a w (fun a' w'=>∃p' env' M',St F p' env' M' a' w'/\tw B Φ (toL all) rest env' M' K) Q\/(o.asks P a w/\LetsOut Q)else ∃p' env' M',St F p' env' M' (a.put o.dst undef) w/\tw B Φ (toL all) rest env' M' K):=by
 simp only[tw]at hk;have hdst:=bjj hc hfv
 cases hg:o.guard with
 |none=>rw[hg]at hk;rw[a0a (by simp[Region.wanted,hg])];generalize hq:evR B Φ o env M=q at hk;obtain⟨vc,v,e,M1⟩:=q;simp only[oq]at hk;refine .inl (a26 (fun a' w' ⟨u,h1,p',h2,h3,h4,_⟩=>?_) (atq hΦ hB h hc (by rw[hq];exact hk.1) Q));rw[hq]at h2 h4;rw[h1];exact⟨p',_,_,(h.tr h2 h3).wrO _ u h4 hdst,hk.2⟩
 |some g=>
  obtain⟨j,want⟩:=g;rw[hg]at hk;simp only[ay9]at hk
  cases hdj:(all[j]?).bind (·.dst)with
  |none=>rw[hdj]at hk;exact hk.elim
  |some dj=>
   rw[hdj]at hk;generalize hq:evR B Φ o env M=q at hk;obtain⟨vc,v,e,M1⟩:=q;simp only at hk
   cases hb:cd [lx (gt env dj),pd o,fresh M e]with
   |false=>rw[hb]at hk;exact hk.elim
   |true=>
    rw[hb]at hk;simp only[a0d,aly]at hk;simp only[br,bz,a0o,a0b]at hb;have hy:=bht _ _ want hb.1 (h.slots dj);have hw:Region.wanted o (yielded all a.tmps)=(yB (a.tmps.getD dj undef)==some want):=by simp only[Region.wanted,hg,ar3 hdj]
    rw[hw];by_cases hcg:gc (gt env dj) want
    ·rw[a0a (hy.2 hcg)];refine .inl (a26 (fun a' w' ⟨u,h1,hd⟩=>?_) (atq hΦ hB h hc (by rw[hq];exact hk.1 hcg) Q));rw[hq,hb.2.1]at hd;obtain⟨h2,h3⟩:=gx.frz h hd hb.2.2;rw[h1];exact⟨p,_,_,h2.wrO _ u (by simp only[ao];exact⟨fun _=>h3,fun hn=>absurd hcg hn⟩) hdst,hk.2⟩
    ·rw[ds (fun hh=>hcg (hy.1 hh))];exact⟨p,_,_,h.wrO _ undef (by simp only[ao];exact⟨fun hn=>absurd hn hcg,fun _=>trivial⟩) hdst,hk.2⟩
theorem bx0(hΦ:uw P F Φ)(hB:TabOk P B)(all:Array Oper)(Q:Exit->Act->World->Prop)(K:Env->Mem->Prop)(hQ:∀p env M a w,St F p env M a w->K env M->Q .normal a w) :
  ∀(ops:List Oper)(p:Ow)(env:Env)(M:Mem)(a:Act)(w:World),mr F.nt ops=true->(∀o∈ops,∀k,o.dst=some k->F.fv k=none)->St F p env M a w->tw B Φ (toL all) ops env M K->wpList P all Q ops a w
 |[],p,env,M,a,w,_,_,h,hk=>hQ p env M a w h hk
 |o::rest,p,env,M,a,w,hc,hfv,h,hk=>by
  have hc1:=w9 hc (a1t);have hst:=bdw hΦ hB all h hk hc1 (hfv o (by simp)) Q;have ih:∀p' env' M' a' w',St F p' env' M' a' w'->tw B Φ (toL all) rest env' M' K->wpList P all Q rest a' w':=fun p' env' M' a' w' h1 h2=>bx0 hΦ hB all Q K hQ rest p' env' M' a' w' (af2 hc).2.2.2 (fun o' ho'=>hfv o' (by simp[ho'])) h1 h2;unfold wpList;split at hst
  ·rename_i hw;rw[a0a hw];exact hst.imp (a26 (fun a' w' ⟨p',env',M',h1,h2⟩=>ih p' env' M' a' w' h1 h2)) id
  ·rename_i hw;rw[ds hw];obtain⟨p',env',M',h1,h2⟩:=hst;exact ih p' env' M' _ w h1 h2
end
end Go.Bm
/- The ff machine:regions whose order is left open. -/
namespace Go.Bm
open Go.RowKit
def aam:Nat->List Oper->Bool
 |_,[]=>true
 |j,o::r=>(o.after.toList.all fun e=>!Region.binds .any e||Nat.blt e.on j)&&aam (j+1) r
def aeu(ops:Array Oper)(o:Oper):List Nat:=o.looksAt ops
def aq2(ops:Array Oper)(ms:List Nat)(i j:Nat)(x y:Oper):Bool:=
 match x.dst with
 |none=>true
 |some t=>(match y.dst with|some t'=>!(Nat.beq t t')|none=>true)&&(!((aeu ops y).contains t)||(if i<j then (ms.getD j 0).testBit i else (ms.getD i 0).testBit j))
def ajv(ops:Array Oper)(ms:List Nat)(m:Nat):Bool:=
 (List.range m).all fun i=>(List.range m).all fun j=>Nat.beq i j||match ops[i]?,ops[j]? with
  |some x,some y=>aq2 ops ms i j x y
  |_,_=>true
def bai(ops:Array Oper)(ms:List Nat)(m:Nat):Bool:=(List.range ops.size).all fun j=>Nat.blt j m||(List.range j).all fun i=>(ms.getD j 0).testBit i
def isL(listed:Array Bool)(i:Nat):Prop:=listed.getD i false=true
def unl(listed:Array Bool):Nat->Nat
 |0=>0
 |n+1=>(if listed.getD n false then 0 else 1)+unl listed n
theorem brd(listed:Array Bool)(i:Nat):∀n,n<=i->unl (listed.setIfInBounds i true) n=unl listed n
 |0,_=>rfl
 |n+1,h=>by rw[unl,unl,brd listed i n (by omega),a2y false (by omega)]
theorem alq{listed:Array Bool}{i:Nat}(hi:i<listed.size)(hl:¬isL listed i):∀n,i<n->unl (listed.setIfInBounds i true) n+1=unl listed n
 |0,h=>by omega
 |n+1,h=>by
  rw[unl,unl];by_cases e:i=n
  ·subst e;rw[brd listed i i (a0k _)];have h1:(listed.setIfInBounds i true).getD i false=true:=by simp[hi]
   have h2:listed.getD i false=false:=by simpa[isL]using hl
   rw[h1,h2];simp+arith
  ·rw[a2y false e];have:=alq hi hl n (by omega);omega
theorem ahs{listed:Array Bool}:∀{n},unl listed n=0->∀i,i<n->isL listed i
 |0,_,i,h=>by omega
 |n+1,h,i,hi=>by
  rw[unl]at h;by_cases e:i=n
  ·subst e;unfold isL
   cases hb:listed.getD i false with
   |true=>rfl
   |false=>rw[hb]at h;simp at h
  ·exact ahs (n:=n) (by omega) i (by omega)
section
variable {ops:Array Oper} {listed:Array Bool}
def ahx(ops:Array Oper)(listed:Array Bool):Prop:=∀(j:Nat)(o:Oper),ops[j]? = some o->isL listed j->∀e∈o.after,Region.binds .any e=true->isL listed e.on
theorem bqb(ms:List Nat)(o:Oper)(i:Nat)(h:(aqo ms o).testBit i=true):∃e∈o.after,Region.binds .any e=true/\(e.on=i\/(ms.getD e.on 0).testBit i=true):=by
 unfold aqo at h
 have key:∀(l:List Edge)(m:Nat),(l.foldl (fun m e=>if Region.binds .any e then m |||(1 <<< e.on) |||(ms.getD e.on 0)else m) m).testBit i=true->m.testBit i=true\/∃e∈l,Region.binds .any e=true/\(e.on=i\/(ms.getD e.on 0).testBit i=true):=by
  intro l
  induction l with
  |nil=>intro m h;exact .inl h
  |cons e l ih=>
   intro m h;rw[a10]at h;rcases ih _ h with h1|⟨e',h1,h2⟩
   ·split at h1
    ·rename_i hb;simp only[Nat.testBit_or,a09]at h1;rcases h1 with (h1|h1)|h1
     ·exact .inl h1
     ·refine .inr ⟨e,by simp,hb,.inl ?_⟩;rw[Nat.shiftLeft_eq,Nat.one_mul]at h1;rw[Nat.testBit_two_pow]at h1;exact a4a h1
     ·exact .inr ⟨e,by simp,hb,.inr h1⟩
    ·exact .inl h1
   ·exact .inr ⟨e',by simp[h1],h2⟩
 rcases key _ _ h with h1|⟨e,h1,h2⟩
 ·simp at h1
 ·exact⟨e,a19.1 h1,h2⟩
theorem bfm:∀(l:List Oper)(ms:List Nat)(pre:List Oper),ms.length=pre.length->(∀j o,pre[j]? = some o->∃ms',ms.getD j 0=aqo ms' o/\∀k,ms'.getD k 0=ms.getD k 0\/ms'.getD k 0=0)->
  ∀j o,(pre++l)[j]? = some o->∃ms',(ij ms l).getD j 0=aqo ms' o/\∀k,ms'.getD k 0=(ij ms l).getD k 0\/ms'.getD k 0=0
 |[],ms,pre,_,h,j,o,hj=>by simpa[ij]using h j o (by simpa using hj)
 |x::l,ms,pre,hlen,h,j,o,hj=>by
  rw[ij];refine bfm l (ms++[aqo ms x]) (pre++[x]) (by simp[hlen]) (fun j o hj=>?_) j o (by simpa using hj);by_cases e:j<pre.length
  ·rw[a1f e]at hj;obtain⟨ms',h1,h2⟩:=h j o hj;refine⟨ms',by rw[←h1];simp[a0l,a1f (hlen▸e)],fun k=>?_⟩;rcases h2 k with h3|h3
   ·by_cases e2:k<ms.length
    ·left;rw[h3];simp[a0l,a1f e2]
    ·right;rw[h3];simp[a0l,a12 (Nat.le_of_not_lt e2)]
   ·exact .inr h3
  ·have hj':=(a1i.1 hj).1;simp at hj';have:j=pre.length:=by omega
   subst this;simp at hj;subst hj;refine⟨ms,by simp[a0l,←hlen],fun k=>?_⟩;by_cases e2:k<ms.length
   ·left;simp[a0l,a1f e2]
   ·right;simp[a0l,a12 (Nat.le_of_not_lt e2)]
theorem alm:∀(l:List Oper)(k:Nat),aam k l=true->∀j o,l[j]? = some o->∀e∈o.after,Region.binds .any e=true->e.on<k+j
 |[],_,_,j,o,h=>by simp at h
 |x::l,k,hb,j,o,h=>by
  simp only[aam,a0b]at hb;intro e he hbi
  cases j with
  |zero=>simp only[a1u,a0e]at h;subst h;have:=a1y.1 hb.1 e (a19.2 he);simpa[hbi,a2z]using this
  |succ j=>simp only[a2i]at h;have:=alm l (k+1) hb.2 j o h e he hbi;omega
theorem j7(hd:ahx ops listed)(hb:aam 0 ops.toList=true):∀(j:Nat)(o:Oper),ops[j]? = some o->(∀e∈o.after,Region.binds .any e=true->isL listed e.on)->∀i,((ij [] ops.toList).getD j 0).testBit i=true->isL listed i:=by
 intro j
 induction j using Nat.strongRecOn with
 |_ j ih=>
  intro o ho hl i hi;obtain⟨ms',h1,h2⟩:=bfm ops.toList [] [] rfl (fun j o h=>by simp at h) j o (by simpa using ho);rw[h1]at hi;obtain⟨e,he,hbi,h3⟩:=bqb ms' o i hi;have hle:=hl e he hbi;rcases h3 with h3|h3
  ·rw[←h3];exact hle
  ·have hlt:=alm ops.toList 0 hb j o (by simpa using ho) e he hbi;rcases h2 e.on with h4|h4
   ·rw[h4]at h3
    cases hoe:ops[e.on]? with
    |none=>
     have:ops.size<=e.on:=by
      rcases a15 e.on ops.size with h|h
      ·simp[h]at hoe
      ·exact h
     have:=(a0x.1 ho).1;omega
    |some oe=>exact ih e.on (by omega) oe hoe (fun e' he' hb'=>hd e.on oe hoe hle e' he' hb') i h3
   ·rw[h4]at h3;simp at h3
theorem t8{j:Nat}(h:j∈Region.ready .any ops listed):∃o,ops[j]? = some o/\listed.getD j true=false/\∀e∈o.after,Region.binds .any e=true->isL listed e.on:=by obtain⟨h1,o,h2,h3⟩:=a3w.1 h;exact⟨o,h2,h1,h3⟩
theorem ahx.set(hd:ahx ops listed){j:Nat}(h:j∈Region.ready .any ops listed):ahx ops (listed.setIfInBounds j true):=by
 intro k o hk hl e he hb;obtain⟨oj,h1,_,h3⟩:=t8 h;refine getD_set_true ?_;by_cases hkj:k=j
 ·subst hkj;rw[h1]at hk;cases hk;exact h3 e he hb
 ·refine hd k o hk ?_ e he hb;unfold isL at hl⊢
  rwa [a2y false (a0u hkj)]at hl
theorem agt(hs:listed.size=ops.size)(hb:aam 0 ops.toList=true)(h:Region.ready .any ops listed=[]):∀i,i<ops.size->isL listed i:=by
 intro i
 induction i using Nat.strongRecOn with
 |_ i ih=>
  intro hi
  cases hl:listed.getD i false with
  |true=>exact hl
  |false=>have:i∈Region.ready .any ops listed:=a3w.2 ⟨by simp[hs,hi]at hl⊢;exact hl,ops[i],by simp[hi],fun e he hbi=>by have:=alm ops.toList 0 hb i ops[i] (by simp[hi]) e he hbi;exact ih e.on (by omega) (by omega)⟩;rw[h]at this;cases this
end
section
variable {P:Program} {B:Tab} {Φ:FuncId->Option Ct}
theorem as6{M:Mem}{place:Nat->Option (cr×Nat×Nat)}{f g:Operand->V}:∀(l:List (Nat×Operand)) (v:V),(∀q∈l,f q.2=g q.2)->v6 M place f l v=v6 M place g l v
 |[],v,_=>rfl
 |(i,x)::r,v,h=>by simp only[v6];rw[h (i,x) (by simp)];have ih:∀v,v6 M place f r v=v6 M place g r v:=fun v=>as6 r v (fun q hq=>h q (by simp[hq]));simp only[ih]
theorem as7{M:Mem}{sz:Nat}{f g:Operand->V}:∀(l:List (Nat×Operand)) (v:List V),(∀q∈l,f q.2=g q.2)->sj M sz f l v=sj M sz g l v
 |[],v,_=>rfl
 |(i,x)::r,v,h=>by simp only[sj];rw[h (i,x) (by simp)];have ih:∀v,sj M sz f r v=sj M sz g r v:=fun v=>as7 r v (fun q hq=>h q (by simp[hq]));simp only[ih]
theorem arg{f g:Operand->V}:∀(l:List Operand),(∀x∈l,f x=g x)->ve f l=ve g l
 |[],_=>rfl
 |x::r,h=>by simp only[ve,h x (by simp),arg r fun y hy=>h y (by simp[hy])]
theorem agz{f g:Operand->V}(l:Option Operand)(h:∀x,l=some x->f x=g x):zj f l=zj g l:=by
 cases l with
 |none=>rfl
 |some x=>simp only[zj,h x rfl]
theorem bqn{ρ ρ':Operand->V}{M:Mem}(o:Oper)(h:∀x∈cy o.op,ρ x=ρ' x):dz B Φ o ρ M=dz B Φ o ρ' M:=by
 obtain⟨dst,op,ty',pos,after,guard⟩:=o;cases op<;>simp only[cy]at h
 case build t ps=>simp only[dz,abh];rw[as6 (toL ps) _ (fun q hq=>h q.2 (ah8 (by rwa [ew]at hq)))]
 case buildSlice t n ps=>
  simp only[dz,aet]
  cases dst with
  |none=>rfl
  |some k=>
   cases (B.τ t).el with
   |none=>rfl
   |some e=>simp only;rw[as7 (toL ps) _ (fun q hq=>h q.2 (ah8 (by rwa [ew]at hq)))]
 case slice t x lo hi mx=>
  cases mx with
  |some _=>rfl
  |none=>
   have hW:alf B (B.τ t) dst ρ x lo hi M=alf B (B.τ t) dst ρ' x lo hi M:=by unfold alf;rw[h x (by simp),agz lo (fun y hy=>h y (by subst hy;simp[cy.optL,ap]))]
   simp only[dz,aav,as0,hW];have h1:∀e:List Ev,zj (fun y=>(ρ y).evs e) lo=zj (fun y=>(ρ' y).evs e) lo:=fun e=>agz lo (fun y hy=>by rw[h y (by subst hy;simp[cy.optL,ap])]);have h2:∀e:List Ev,zj (fun y=>(ρ y).evs e) hi=zj (fun y=>(ρ' y).evs e) hi:=fun e=>agz hi (fun y hy=>by rw[h y (by subst hy;simp[cy.optL,mj])]);rw[h x (by simp),agz lo (fun y hy=>h y (by subst hy;simp[cy.optL,ap])),agz hi (fun y hy=>h y (by subst hy;simp[cy.optL,mj]))];simp only[h1,h2]
 case call c=>
  obtain⟨callee,args,argTypes⟩:=c;simp only[dz];simp only at h;have ha:∀x∈toL args,ρ x=ρ' x:=fun x hx=>h x (by rw[mj];exact a25 _ hx);rw[arg _ ha]
  cases callee with
  |value cx|invoke cx nm=>have hc:ρ cx=ρ' cx:=h cx (by rw[mj];exact a2b _ (by simp[cy.calO]));simp only[hc]
  |builtin b=>
   cases b<;>first
    |rfl
    |(simp only;split;(rename_i x t e1 e2;first|rw[ha x (by rw[e1];simp)]|rfl);rfl)
    |(simp only;split;(rename_i x y t t' e1 e2;rw[ha x (by rw[e1];simp),ha y (by rw[e1];simp)]);rfl)
    |(simp only;split;(rename_i x y e1;rw[ha x (by rw[e1];simp),ha y (by rw[e1];simp)]);rfl)
 case makeFunc fn fs cs=>simp only[dz];rw[arg _ (fun x hx=>h x (by rw[mj];exact a25 _ hx))]
 case makeMap t rs=>cases rs<;>rfl
 all_goals (first|rfl|(simp only[dz];simp_all;done))
theorem axd{f g:Operand->V}:∀(l:List Operand),(∀x∈l,f x=g x)->pi f l=pi g l
 |[],_=>rfl
 |x::r,h=>by simp only[pi,h x (by simp),axd r fun y hy=>h y (by simp[hy])]
theorem am8(o:Oper):(∀x∈cy o.op,x∈o.op.operands):=by
 intro x hx;obtain⟨dst,op,ty',pos,after,guard⟩:=o;cases op<;>simp only[cy,Op.operands,a3x]at hx⊢<;>try (simpa using hx)
 case slice t y lo hi mx=>cases lo<;>cases hi<;>cases mx<;>simp_all[cy.optL,ap]<;>first|(rcases hx with hx|hx|hx<;>simp[hx];done)|(rcases hx with hx|hx<;>simp[hx];done)
 case build t ps=>
  rw[ew]at hx
  have:∀l:List (Nat×Operand),x∈cy.snds l->∃q∈l,q.2=x:=by
   intro l
   induction l with
   |nil=>intro h;cases h
   |cons q l ih=>
    intro h;obtain⟨i,y⟩:=q;simp only[cy.snds]at h;rcases a0t.1 h with rfl|h
    ·exact⟨(i,x),by simp,rfl⟩
    ·obtain⟨q,h1,h2⟩:=ih h;exact⟨q,by simp[h1],h2⟩
  obtain⟨q,h1,rfl⟩:=this _ hx;rw[List.mem_toArray];exact a2c.2 ⟨q,h1,rfl⟩
 case buildSlice t n ps=>
  rw[ew]at hx
  have:∀l:List (Nat×Operand),x∈cy.snds l->∃q∈l,q.2=x:=by
   intro l
   induction l with
   |nil=>intro h;cases h
   |cons q l ih=>
    intro h;obtain⟨i,y⟩:=q;simp only[cy.snds]at h;rcases a0t.1 h with rfl|h
    ·exact⟨(i,x),by simp,rfl⟩
    ·obtain⟨q,h1,h2⟩:=ih h;exact⟨q,by simp[h1],h2⟩
  obtain⟨q,h1,rfl⟩:=this _ hx;rw[List.mem_toArray];exact a2c.2 ⟨q,h1,rfl⟩
 case makeFunc fn fs cs=>
  rw[mj,ew,ew]at hx;rw[Array.mem_append];rcases a07.1 hx with hx|hx
  ·exact Or.inl (a19.1 hx)
  ·exact Or.inr (a19.1 hx)
 case call c=>
  rw[ew,mj]at hx;unfold Call.operands;rcases a07.1 hx with hx|hx
  ·cases hc:c.callee<;>rw[hc]at hx<;>simp_all[cy.calO]
  ·have:=a19.1 hx;simp[this]
theorem ack{env env':Env}{M:Mem}(o:Oper)(h:∀x∈o.op.operands,rd env x=rd env' x):evR B Φ o env M=evR B Φ o env' M:=by
 unfold evR;split
 ·rename_i c a b hop;have hc:=h c (by rw[hop];simp[Op.operands]);have ha:=h a (by rw[hop];simp[Op.operands]);have hb:=h b (by rw[hop];simp[Op.operands]);simp only[ag6,pi,hc,ha,hb]
 ·rw[bqn o (fun x hx=>by rw[h x (am8 o x hx)]),axd _ (fun x hx=>h x (am8 o x hx))]
def avu(B:Tab)(Φ:FuncId->Option Ct)(all:List Oper)(o:Oper)(env:Env)(M:Mem)(v:V):Prop:=
 match o.guard with
  |none=>pd o=true/\fresh M (evR B Φ o env M).ev=true/\ab (evR B Φ o env M).vc/\v=avF M (evR B Φ o env M).M (evR B Φ o env M).av
  |some (j,want)=>(match vq all j with
   |some dj=>lx (gt env dj)=true/\pd o=true/\fresh M (evR B Φ o env M).ev=true/\(gc (gt env dj) want->ab (evR B Φ o env M).vc)/\v=.gd j want (gc (gt env dj) want) (avF M (evR B Φ o env M).M (evR B Φ o env M).av)
   |none=>False)
section
variable {F:Fr} {p:Ow} {env:Env} {M:Mem} {a:Act} {w:World} {all:Array Oper}
theorem bfz(all:List Oper):∀(l:List Oper)(env:Env)(K:Env->Prop),dw B Φ all l env M K->∃(E:Nat->Env)(V:Nat->V),E 0=env/\(∀j o,l[j]? = some o->avu B Φ all o (E j) M (V j)/\E (j+1)=wr o.dst (V j) (E j))/\K (E l.length)
 |[],env,K,h=>⟨fun _=>env,fun _=>.any,rfl,fun j o h=>by simp at h,h⟩
 |o::rest,env,K,h=>by
  have key:∃v,avu B Φ all o env M v/\dw B Φ all rest (wr o.dst v env) M K:=by
   simp only[dw]at h;unfold avu;split at h
   ·rename_i hg;simp only[hg];generalize evR B Φ o env M=q at h⊢;obtain⟨vc,v,e,M1⟩:=q;simp only at h⊢
    cases hb:cd [pd o,fresh M e]with
    |false=>rw[hb]at h;exact h.elim
    |true=>rw[hb]at h;simp only[a0d,oq]at h;simp only[br,bz,a0o,a0b]at hb;exact⟨_,⟨hb.1,hb.2,h.1,rfl⟩,h.2⟩
   ·rename_i j want hg;simp only[hg];generalize evR B Φ o env M=q at h⊢;obtain⟨vc,v,e,M1⟩:=q;simp only at h⊢
    cases hdj:vq all j with
    |none=>rw[hdj]at h;exact h.elim
    |some dj=>
     rw[hdj]at h;simp only[hdj]at h⊢
     cases hb:cd [lx (gt env dj),pd o,fresh M e]with
     |false=>rw[hb]at h;exact h.elim
     |true=>rw[hb]at h;simp only[a0d,aly]at h;simp only[br,bz,a0o,a0b]at hb;exact⟨_,⟨hb.1,hb.2.1,hb.2.2,h.1,rfl⟩,h.2⟩
  obtain⟨v,h1,h2⟩:=key;obtain⟨E,V,e1,e2,e3⟩:=bfz all rest _ K h2;refine⟨fun j=>match j with|0=>env|j+1=>E j,fun j=>match j with|0=>v|j+1=>V j,rfl,fun j x hj=>?_,by simpa using e3⟩
  cases j with
  |zero=>simp only[a1u,a0e]at hj;subst hj;exact⟨h1,e1⟩
  |succ j=>simp only[a2i]at hj;exact e2 j x hj
theorem aiz(d:Option Nat)(v:V)(env:Env)(t:Nat):gt (wr d v env) t=if d=some t then v else gt env t:=by
 cases d with
 |none=>simp[wr]
 |some k=>simp only[wr,iy,a0e]
theorem asr{l:List Oper}{E:Nat->Env}{V:Nat->V}(h2:∀j o,l[j]? = some o->E (j+1)=wr o.dst (V j) (E j)):∀(j t:Nat),j<=l.length->
  ((∀(i:Nat)(o:Oper),l[i]? = some o->i<j->o.dst≠some t)->gt (E j) t=gt (E 0) t)/\
  (∀(i:Nat)(o:Oper),l[i]? = some o->i<j->o.dst=some t->(∀(i':Nat)(o':Oper),l[i']? = some o'->i'<j->o'.dst=some t->i'=i)->gt (E j) t=V i)
 |0,t,_=>⟨fun _=>rfl,fun i o _ h=>by omega⟩
 |j+1,t,hj=>by
  obtain⟨a1,a2⟩:=asr h2 j t (by omega);have ho:l[j]? = some l[j]:=a0p (by omega);rw[h2 j _ ho,aiz];refine⟨fun h=>?_,fun i o hi hlt hd hu=>?_⟩
  ·rw[ds (h j _ ho (by omega))];exact a1 fun i o hi hlt=>h i o hi (by omega)
  ·by_cases e:i=j
   ·subst e;rw[ho]at hi;cases hi;rw[a0a hd]
   ·rw[ds (fun hh=>e (hu j _ ho (by omega) hh).symm)];exact a2 i o hi (by omega) hd fun i' o' hi' hl'=>hu i' o' hi' (by omega)
theorem bvf(hΦ:uw P F Φ)(hB:TabOk P B)(h:St F p env M a w){envj:Env}{o:Oper}{v:V}(hd:avu B Φ (toL all) o envj M v)(hl:∀t∈o.looksAt all,gt env t=gt envj t)
  (hc:mr F.nt [o]=true) (hfv:∀k,o.dst=some k->F.fv k=none) {j:Nat} (hj:all[j]? = some o) (K:Act->World->Prop) (QQ:Exit->Act->World->Prop)
  (hK:∀a' w',St F p (wr o.dst v env) M a' w'->K a' w'):wpOp P all QQ j K a w:=by
 have hdst:=bjj hc hfv
 have hops:evR B Φ o env M=evR B Φ o envj M:=ack o fun x hx=>by
  cases x with
  |tmp t=>have:t∈o.looksAt all:=a2b _ (a20.2 ⟨.tmp t,by simpa using hx,rfl⟩);simpa only [rd]using hl t this
  |const c|global g|func f=>rfl
 unfold wpOp;rw[hj];simp only;unfold avu at hd;rw[←hops]at hd
 cases hg:o.guard with
 |none=>rw[hg]at hd;obtain⟨h1,h2,h3,rfl⟩:=hd;rw[a0a (by simp[Region.wanted,hg])];refine .inl (a26 (fun a' w' ⟨u,e1,hdn⟩=>?_) (atq hΦ hB h hc h3 QQ));rw[h1]at hdn;obtain⟨k1,k2⟩:=gx.frz h hdn h2;rw[e1];exact hK _ _ (k1.wrO _ u k2 hdst)
 |some g=>
  obtain⟨jg,want⟩:=g;rw[hg]at hd;simp only[ay9]at hd
  cases hdj:(all[jg]?).bind (·.dst)with
  |none=>rw[hdj]at hd;exact hd.elim
  |some dj=>
   rw[hdj]at hd;obtain⟨k0,k1,k2,k3,rfl⟩:=hd;have hgt:gt env dj=gt envj dj:=hl dj (a25 _ (by simp[hg,hdj]));rw[←hgt]at k0 k3 hK;have hy:=bht _ _ want k0 (h.slots dj);have hw:Region.wanted o (yielded all a.tmps)=(yB (a.tmps.getD dj undef)==some want):=by simp only[Region.wanted,hg,ar3 hdj]
   rw[hw];by_cases hcg:gc (gt env dj) want
   ·rw[a0a (hy.2 hcg)];refine .inl (a26 (fun a' w' ⟨u,e1,hdn⟩=>?_) (atq hΦ hB h hc (k3 hcg) QQ));rw[k1]at hdn;obtain⟨g1,g2⟩:=gx.frz h hdn k2;rw[e1];exact hK _ _ (g1.wrO _ u (by simp only[ao];exact⟨fun _=>g2,fun hn=>absurd hcg hn⟩) hdst)
   ·rw[ds (fun hh=>hcg (hy.1 hh))];exact hK _ _ (h.wrO _ undef (by simp only[ao];exact⟨fun hn=>absurd hn hcg,fun _=>trivial⟩) hdst)
theorem aqu(hΦ:uw P F Φ)(hB:TabOk P B)(h:St F p env M a w){o:Oper}{rest:List Oper}{K:Env->Mem->Prop}(hk:tw B Φ (toL all) (o::rest) env M K)
  (hc:mr F.nt [o]=true) (hfv:∀k,o.dst=some k->F.fv k=none) {j:Nat} (hj:all[j]? = some o) (Q:Exit->Act->World->Prop) :
  wpOp P all Q j (fun a' w'=>∃p' env' M',St F p' env' M' a' w'/\tw B Φ (toL all) rest env' M' K) a w:=by
 unfold wpOp;rw[hj];exact bdw hΦ hB all h hk hc hfv Q
theorem axe{ms:List Nat}{m:Nat}(h:bai all ms m=true){j:Nat}(hj:j<all.size)(hm:m<=j){i:Nat}(hi:i<j):(ms.getD j 0).testBit i=true:=by
 have:=a1y.1 h j (by simpa using hj);simp only[a09]at this;rcases this with h1|h1
 ·rw[a2z]at h1;omega
 ·exact a1y.1 h1 i (by simpa using hi)
theorem bfl(hΦ:uw P F Φ)(hB:TabOk P B)(Q:Exit->Act->World->Prop)(K:Env->Mem->Prop)(hQ:∀p env M a w,St F p env M a w->K env M->Q .normal a w)(hb:aam 0 all.toList=true)(m:Nat)(ht:bai all (ij [] all.toList) m=true)
  (hco:mr F.nt all.toList=true) (hfv:∀o∈all.toList,∀k,o.dst=some k->F.fv k=none) :
  ∀(fuel:Nat)(listed:Array Bool)(c:Nat)(p:Ow)(env:Env)(M:Mem)(a:Act)(w:World),listed.size=all.size->(∀i,i<all.size->(isL listed i<->i<c))->m<=c->unl listed all.size<=fuel->ahx all listed->
   St F p env M a w->tw B Φ (toL all) (all.toList.drop c) env M K->wpAny P .any all Q fuel listed a w:=by
 intro fuel
 have done:∀(listed:Array Bool)(c:Nat)(p:Ow)(env:Env)(M:Mem)(a:Act)(w:World),listed.size=all.size->(∀i,i<all.size->(isL listed i<->i<c))->Region.ready .any all listed=[]->St F p env M a w->tw B Φ (toL all) (all.toList.drop c) env M K->Q .normal a w:=by
  intro listed c p env M a w hs hl hr hst hk
  have hc:all.toList.length<=c:=by
   rcases a15 c all.size with h|h
   ·have:=(hl c h).1 (agt hs hb hr c h);omega
   ·simpa using h
  rw[a4z hc]at hk;simp only[tw]at hk;exact hQ p env M a w hst hk
 have noready:∀(listed:Array Bool),listed.size=all.size->unl listed all.size=0->Region.ready .any all listed=[]:=by
  intro listed hs hu
  cases hr:Region.ready .any all listed with
  |nil=>rfl
  |cons i r=>obtain⟨o,h1,h2,_⟩:=t8 (j:=i) (by rw[hr];simp);have hi:=(a0x.1 h1).1;have:=ahs hu i hi;unfold isL at this;simp[hs,hi]at this h2;rw[this]at h2;cases h2
 induction fuel with
 |zero=>intro listed c p env M a w hs hl hm hu _ hst hk;have hr:=noready listed hs (by omega);exact⟨hr,done listed c p env M a w hs hl hr hst hk⟩
 |succ fuel ih=>
  intro listed c p env M a w hs hl hm hu hdn hst hk;refine⟨fun hr=>done listed c p env M a w hs hl hr hst hk,fun j hj=>?_⟩;obtain⟨o,h1,h2,h3⟩:=t8 hj;have hjs:=(a0x.1 h1).1;have hnl:¬isL listed j:=by unfold isL;simp[hs,hjs]at h2⊢;exact h2
  have hcj:c<=j:=by
   rcases a15 j c with h|h
   ·exact absurd ((hl j hjs).2 h) hnl
   ·exact h
  have hjc:j=c:=by
   rcases a15 c j with h|h
   ·have:=j7 hdn hb j o h1 h3 c (axe ht hjs (by omega) h);have:=(hl c (by omega)).1 this;omega
   ·omega
  subst hjc;have hdrop:all.toList.drop j=o::all.toList.drop (j+1):=by rw[a3y (by simpa using hjs)];congr 1;have:=(a0x.1 h1).2;simpa using this
  rw[hdrop]at hk;refine a3z (fun a' w' ⟨p',env',M',e1,e2⟩=>ih _ (j+1) p' env' M' a' w' (by simpa using hs) (fun i hi=>?_) (by omega) ?_ (hdn.set hj) e1 e2) (aqu hΦ hB hst hk (w9 hco (by rw[a19];exact a27 h1)) (hfv o (by rw[a19];exact a27 h1)) h1 Q)
  ·by_cases e:i=j
   ·subst e;simp[isL,hs,hi]
   ·unfold isL at hl⊢;rw[a2y false (a0u e),hl i hi];omega
  ·have:=alq (by rw[hs];exact hjs) hnl all.size hjs;omega
theorem mw{ms:List Nat}{m:Nat}(h:ajv all ms m=true){i j:Nat}(hi:i<m)(hj:j<m)(hne:i≠j){x y:Oper}(hx:all[i]? = some x)(hy:all[j]? = some y):aq2 all ms i j x y=true:=by
 have:=a1y.1 (a1y.1 h i (by simpa using hi)) j (by simpa using hj);rw[hx,hy]at this;simp only[a09]at this;rcases this with h1|h1
 ·exact absurd (a0v h1) hne
 ·exact h1
theorem asz{ms:List Nat}{i j:Nat}{x y:Oper}(h:aq2 all ms i j x y=true){t:Nat}(hx:x.dst=some t):y.dst≠some t:=by unfold aq2 at h;rw[hx]at h;simp only[a0b]at h;intro hy;rw[hy]at h;simp at h
theorem ro{ms:List Nat}{i j:Nat}{x y:Oper}(h:aq2 all ms i j x y=true){t:Nat}(hx:x.dst=some t)(ht:t∈y.looksAt all):if i<j then (ms.getD j 0).testBit i=true else (ms.getD i 0).testBit j=true:=by
 unfold aq2 at h;rw[hx]at h;simp only[a0b,a09,a1z]at h;have h2:=h.2;have hc:(aeu all y).contains t=true:=by simpa[aeu]using ht
 rcases h2 with h2|h2
 ·rw[hc]at h2;cases h2
 ·split
  ·rename_i hlt;rw[a0a hlt]at h2;exact h2
  ·rename_i hlt;rw[ds hlt]at h2;exact h2
theorem nx{j:Nat}:all.toList[j]? = all[j]?:=by simp
theorem bt8(hΦ:uw P F Φ)(hB:TabOk P B)(Q:Exit->Act->World->Prop)(K:Env->Mem->Prop)(hQ:∀p env M a w,St F p env M a w->K env M->Q .normal a w)(hb:aam 0 all.toList=true)(m:Nat)(hmn:m<=all.size)
  (ht:bai all (ij [] all.toList) m=true) (hdr:ajv all (ij [] all.toList) m=true)
  (hco:mr F.nt all.toList=true) (hfv:∀o∈all.toList,∀k,o.dst=some k->F.fv k=none) (E:Nat->Env) (V:Nat->V) (hE:∀j o,(all.toList.take m)[j]? = some o->avu B Φ (toL all) o (E j) M (V j)/\E (j+1)=wr o.dst (V j) (E j))
  (hlast:tw B Φ (toL all) (all.toList.drop m) (E m) M K) :
  ∀(fuel:Nat)(listed:Array Bool)(env:Env)(a:Act)(w:World),listed.size=all.size->(∀i,i<all.size->isL listed i->i<m)->unl listed all.size<=fuel->ahx all listed->
   (∀t,((∀i o,all[i]? = some o->isL listed i->o.dst≠some t)->gt env t=gt (E 0) t)/\∀i o,all[i]? = some o->isL listed i->o.dst=some t->gt env t=V i)->
   St F p env M a w->wpAny P .any all Q fuel listed a w:=by
 have htake:∀j o,j<m->all[j]? = some o->(all.toList.take m)[j]? = some o:=fun j o hj ho=>by rw[a30 hj,nx];exact ho
 have hlen:(all.toList.take m).length=m:=by simp[hmn]
 have uniq:∀i j x y t,i<m->j<m->all[i]? = some x->all[j]? = some y->x.dst=some t->y.dst=some t->i=j:=fun i j x y t hi hj hx hy h1 h2=>by
  rcases Nat.decEq i j with h|h
  ·exact absurd h2 (asz (mw hdr hi hj h hx hy) h1)
  ·exact h
 have take_lt:∀i o,(all.toList.take m)[i]? = some o->i<m/\all[i]? = some o:=fun i o h=>by have h1:=(a1i.1 h).1;rw[hlen]at h1;rw[a30 h1,nx]at h;exact⟨h1,h⟩
 have hgt:=asr (fun j o h=>(hE j o h).2);intro fuel
 induction fuel with
 |zero=>
  intro listed env a w hs hl hu hdn hg hst;by_cases hall:∀i,i<m->isL listed i
  ·refine bfl hΦ hB Q K hQ hb m ht hco hfv 0 listed m p (E m) M a w hs (fun i hi=>⟨hl i hi,hall i⟩) (a0k _) hu hdn (hst.weak fun t=>.inr ?_) hlast;by_cases ht:∃i o,all[i]? = some o/\i<m/\o.dst=some t
   ·obtain⟨i,o,h1,h2,h3⟩:=ht;rw[(hg t).2 i o h1 (hall i h2) h3];exact (hgt m t (by omega)).2 i o (htake i o h2 h1) h2 h3 fun i' o' h1' h2' h3'=>uniq i' i o' o t h2' h2 (take_lt i' o' h1').2 h1 h3' h3
   ·rw[(hg t).1 fun i o h1 h2 h3=>ht ⟨i,o,h1,hl i (a0x.1 h1).1 h2,h3⟩];exact (hgt m t (by omega)).1 fun i o h1 h2 h3=>ht ⟨i,o,(take_lt i o h1).2,h2,h3⟩
  ·exact absurd (fun i hi=>ahs (Nat.le_zero.1 hu) i (by omega)) hall
 |succ fuel ih=>
  intro listed env a w hs hl hu hdn hg hst;by_cases hall:∀i,i<m->isL listed i
  ·refine bfl hΦ hB Q K hQ hb m ht hco hfv (fuel+1) listed m p (E m) M a w hs (fun i hi=>⟨hl i hi,hall i⟩) (a0k _) hu hdn (hst.weak fun t=>.inr ?_) hlast;by_cases ht:∃i o,all[i]? = some o/\i<m/\o.dst=some t
   ·obtain⟨i,o,h1,h2,h3⟩:=ht;rw[(hg t).2 i o h1 (hall i h2) h3];exact (hgt m t (by omega)).2 i o (htake i o h2 h1) h2 h3 fun i' o' h1' h2' h3'=>uniq i' i o' o t h2' h2 (take_lt i' o' h1').2 h1 h3' h3
   ·rw[(hg t).1 fun i o h1 h2 h3=>ht ⟨i,o,h1,hl i (a0x.1 h1).1 h2,h3⟩];exact (hgt m t (by omega)).1 fun i o h1 h2 h3=>ht ⟨i,o,(take_lt i o h1).2,h2,h3⟩
  ·refine⟨fun hr=>absurd (fun i hi=>agt hs hb hr i (by omega)) hall,fun j hj=>?_⟩;obtain⟨o,h1,h2,h3⟩:=t8 hj;have hjs:=(a0x.1 h1).1;have hnl:¬isL listed j:=by unfold isL;simp[hs,hjs]at h2⊢;exact h2
   have hjm:j<m:=by
    rcases a15 j m with h|h
    ·exact h
    ·exact absurd (fun i hi=>j7 hdn hb j o h1 h3 i (axe ht hjs h (by omega))) hall
   obtain⟨d1,d2⟩:=hE j o (htake j o hjm h1)
   have hlook:∀t∈o.looksAt all,gt env t=gt (E j) t:=fun t htl=>by
    by_cases hw:∃i x,all[i]? = some x/\i<m/\x.dst=some t
    ·obtain⟨i,x,e1,e2,e3⟩:=hw;by_cases hij:i<j
     ·have hpair:=ro (mw hdr e2 hjm (by omega) e1 h1) e3 htl;rw[a0a hij]at hpair;have hli:=j7 hdn hb j o h1 h3 i hpair;rw[(hg t).2 i x e1 hli e3];exact ((hgt j t (by omega)).2 i x (htake i x e2 e1) hij e3 fun i' o' h1' h2' h3'=>uniq i' i o' x t (by omega) e2 (take_lt i' o' h1').2 e1 h3' e3).symm
     ·have hnli:¬isL listed i:=fun hli=>by
       by_cases e:i=j
       ·subst e;exact hnl hli
       ·have hpair:=ro (mw hdr e2 hjm e e1 h1) e3 htl;rw[ds hij]at hpair;exact hnl (j7 hdn hb i x e1 (fun e' he' hb'=>hdn i x e1 hli e' he' hb') j hpair)
      rw[(hg t).1 fun i' o' h1' h2' h3'=>hnli (uniq i' i o' x t (hl i' (a0x.1 h1').1 h2') e2 h1' e1 h3' e3▸h2')];exact ((hgt j t (by omega)).1 fun i' o' h1' h2' h3'=>hij (uniq i' i o' x t (by omega) e2 (take_lt i' o' h1').2 e1 h3' e3▸h2')).symm
    ·rw[(hg t).1 fun i x h1 h2 h3=>hw ⟨i,x,h1,hl i (a0x.1 h1).1 h2,h3⟩];exact ((hgt j t (by omega)).1 fun i x h1 h2 h3=>hw ⟨i,x,(take_lt i x h1).2,by omega,h3⟩).symm
   refine bvf hΦ hB hst d1 hlook (w9 hco (by rw[a19];exact a27 h1)) (hfv o (by rw[a19];exact a27 h1)) h1 _ Q fun a' w' hst'=>ih _ _ a' w' (by simpa using hs) (fun i hi hli=>?_) ?_ (hdn.set hj) (fun t=>⟨fun hno=>?_,fun i x hx hli hxd=>?_⟩) hst'
   ·by_cases e:i=j
    ·omega
    ·refine hl i hi ?_;unfold isL at hli⊢
     rwa [a2y false (a0u e)]at hli
   ·have:=alq (by rw[hs];exact hjs) hnl all.size hjs;omega
   ·rw[aiz,ds (hno j o h1 (by simp[isL,hs,hjs]))];refine (hg t).1 fun i x hx hli=>hno i x hx (getD_set_true hli)
   ·rw[aiz];by_cases e:i=j
    ·subst e;rw[h1]at hx;cases hx;rw[a0a hxd]
    ·have hli':isL listed i:=by
      unfold isL at hli⊢
      rwa [a2y false (a0u e)]at hli
     have him:=hl i (a0x.1 hx).1 hli';rw[ds (fun hod=>e (uniq i j x o t him hjm hx h1 hxd hod))];exact (hg t).2 i x hx hli' hxd
theorem ze{n i:Nat}:¬isL (Array.replicate n false) i:=by unfold isL;simp[Array.getElem?_replicate];split<;>simp
theorem bbf(listed:Array Bool):∀n,unl listed n<=n
 |0=>a0k _
 |n+1=>by rw[unl];have:=bbf listed n;split<;>omega
theorem St.drew(h:St F p env M a w):St F p env M a { w with drawn:=w.drawn+1 }:=h.ext ⟨rfl,⟨rfl,a2a _⟩,rfl,a0k _,fun _ _=>rfl⟩
def bcr:Op->Bool
 |.move (.tmp _)|.assign (.tmp _)|.extract (.tmp _) _=>true
 |_=>false
def bq8(D:Bool)(o:Op):Bool:=orb (bcr o) (nob D (ww o))
def flt(D R:Bool)(ops:Array Oper)(x y:Oper):Bool:=
 nob (isN x.guard) (nob (nob (bq8 D x.op) (orb (neg R) (orb (bcr x.op) (orb (bay y) (bks y))))) (match x.dst with
  |some t=>nob (neg ((aeu ops y).contains t)) (match y.dst with
   |some u=>nob (neg (Nat.beq u t)) (neg ((aeu ops x).contains u))
   |none=>true)
  |none=>false))
def bqx(D R:Bool)(ops:Array Oper)(ms:List Nat)(m:Nat):Bool:=
 (List.range ops.size).all fun j=>Nat.blt j m||(match ops[j]? with
  |some y=>isN y.guard&&(List.range j).all fun i=>(ms.getD j 0).testBit i||(Nat.blt i m&&(match ops[i]? with|some x=>flt D R ops x y|none=>false))
  |none=>true)
def bqp(ops:Array Oper)(ms:List Nat)(m:Nat):Bool:=
 (List.range m).all fun i=>!(vm ops.size ms m i)||(List.range m).all fun j=>Nat.blt j i||!(vm ops.size ms m j)||(match ops[i]?,ops[j]? with
  |some x,some y=>(match y.dst with|some u=>!((aeu ops x).contains u)|none=>true)
  |_,_=>true)
def au7(D R:Bool)(l:List Oper)(m:Nat):Bool:=aam 0 l&&(Nat.ble m l.length&&(bqx D R l.toArray (ij [] l) m&&(bqp l.toArray (ij [] l) m&&ajv l.toArray (ij [] l) m)))
def bkq(σ:List Nat)(n:Nat):Bool:=Nat.beq (len σ) n&&((List.range n).all fun i=>Nat.blt (plc σ i) n&&(match pq σ (plc σ i)with|some k=>Nat.beq k i|none=>false))&&(List.range n).all fun k=>(match pq σ k with|some i=>Nat.blt i n&&Nat.beq (plc σ i) k|none=>false)
def bb7:List Oper->Bool
 |[]=>true
 |o::r=>nob (isN o.guard) (bb7 r)
def bqq(R R2:Bool)(l:List Oper)(m:Nat):Bool:=aam 0 l&&(bkq (bae R l) l.length&&(bb7 l&&au7 true R2 (gv R l) m))
def bpb(l:List Oper):Bool:=aam 0 l&&(ajv l.toArray (ij [] l) l.length&&acm (akl l))
def bpt(l:List Oper)(m:Nat):Bool:=aam 0 l&&(Nat.ble m l.length&&(bai l.toArray (ij [] l) m&&ajv l.toArray (ij [] l) m))
end
end
end Go.Bm
/- The ff machine:where ways meet. -/
namespace Go.Bm
open Go.RowKit
theorem bm6{a b a' b':T}{x:(T.p a b).den}{x':(T.p a' b').den}(h:rj (.p a' b') (a:=.p a b) x=some x'):rj a' x.1=some x'.1/\rj b' x.2=some x'.2:=by obtain⟨e,h1⟩:=ag5 h;cases e;simp only at h1;subst h1;exact⟨aak _,aak _⟩
theorem bu7{a a':T}{x:List a.den}{x':List a'.den}(h:rj (.sl a') (a:=.sl a) x=some x'):x'.length=x.length/\∀(i:Nat) y',x'[i]? = some y'->∃y,x[i]? = some y/\rj a' y=some y':=by obtain⟨e,h1⟩:=ag5 h;cases e;simp only at h1;subst h1;exact⟨rfl,fun i y' hy=>⟨y',hy,aak _⟩⟩
theorem bvj{a a':T}{x:a.den}{x':a'.den}(h:rj (.pt a') (a:=.pt a) x=some x'):rj a' x=some x':=by obtain⟨e,h1⟩:=ag5 h;cases e;simp only at h1;subst h1;exact aak _
theorem aid:(o o':O)->o.wk o'=true->o.strip=o'.strip
 |.p a b,.p a' b',h=>by simp only[O.wk,be,a0b]at h;simp only[O.strip,aid a a' h.1,aid b b' h.2]
 |.sl e,.sl e',h|.pt e,.pt e',h=>by simp only[O.wk]at h;simp only[O.strip,aid e e' h]
 |.op e,.op e',h=>by simp only[O.wk]at h;simp only[O.strip,O.beq_eq h]
 |.mp k v,.mp k' v',h=>by simp only[O.wk,be,a0b]at h;simp only[O.strip,T.beq_eq h.1,T.beq_eq h.2]
 |.fz (.p a b),.p a' b',h=>by simp only[O.wk,be,a0b]at h;have h1:=aid (.fz a) a' h.1;have h2:=aid (.fz b) b' h.2;simp only[O.strip]at h1 h2⊢;rw[h1,h2]
 |.p a b,.fz t,h|.sl e,.fz t,h|.pt e,.fz t,h|.mp _ _,.fz t,h|.op _,.fz t,h=>by simp only[O.wk]at h;exact T.beq_eq h
 |.fz s,.fz t,h=>by
  have:O.wk (.fz s) (.fz t)=s.beq t:=by cases s<;>simp only[O.wk,O.strip]
  rw[this]at h;exact T.beq_eq h
 |.p _ _,.mp _ _,h|.p _ _,.op _,h|.sl _,.mp _ _,h|.sl _,.op _,h|.pt _,.mp _ _,h|.pt _,.op _,h|.mp _ _,.p _ _,h|.op _,.p _ _,h|.mp _ _,.sl _,h|.op _,.sl _,h|.mp _ _,.pt _,h|.op _,.pt _,h=>by simp[O.wk]at h
 |.fz s,.mp _ _,h|.fz s,.op _,h=>by cases s<;>simp[O.wk]at h
 |.fz (.ifc _ _),.p _ _,h|.fz (.ib _ _),.p _ _,h|.fz (.mp _ _),.p _ _,h|.fz (.op _),.p _ _,h|.fz (.ns _),.p _ _,h|.fz (.er _),.p _ _,h|.p _ _,.sl _,h|.p _ _,.pt _,h|.sl _,.p _ _,h|.sl _,.pt _,h|.pt _,.p _ _,h|.pt _,.sl _,h=>by simp[O.wk]at h
 |.fz s,.sl _,h|.fz s,.pt _,h=>by cases s<;>simp[O.wk]at h
 |.fz (.int _),.p _ _,h|.fz .bool,.p _ _,h|.fz .str,.p _ _,h|.fz .u,.p _ _,h|.fz (.sl _),.p _ _,h|.fz (.pt _),.p _ _,h|.fz (.fn _ _),.p _ _,h|.fz .any,.p _ _,h=>by simp[O.wk]at h
def Wk(Im:Nat->Prop)(w:World)(o':O)(x':o'.strip.den)(S:Nat->Prop)(vs:List Value):Prop:=∃S':Nat->Prop,(∀b,S' b->S b)/\∀Im':Nat->Prop,(∀b,Im b->Im' b)->(∀b,S b->¬S' b->Im' b)->Rel Im' w o' x' S' vs
theorem cee{Im:Nat->Prop}{w:World}{o:O}{t:T}{x:o.strip.den}{x':t.den}{S:Nat->Prop}{vs:List Value}(hx:rj t x=some x')(r:Rel Im w o x S vs):Wk Im w (.fz t) x' S vs:=⟨fun _=>False,fun b hb=>hb.elim,fun Im' h1 h2=>by simp only[Rel];exact x5 hx (Rel.frz h1 o x S vs (fun b hb=>h2 b hb (fun h=>h)) r)⟩
theorem bnz{Im:Nat->Prop}{w:World}{a' b':O}{x':a'.strip.den}{y':b'.strip.den}{S S1 S2:Nat->Prop}{va vb:List Value}(h1:∀c,S1 c->S c)(h2:∀c,S2 c->S c)(h3:∀c,S1 c->¬S2 c)(ha:Wk Im w a' x' S1 va)(hb:Wk Im w b' y' S2 vb):Wk Im w (.p a' b') (x',y') S (va++vb):=by
 obtain⟨T1,a1,a2⟩:=ha;obtain⟨T2,b1,b2⟩:=hb;refine⟨fun c=>T1 c\/T2 c,fun c hc=>hc.elim (fun h=>h1 c (a1 c h)) (fun h=>h2 c (b1 c h)),fun Im' k1 k2=>?_⟩;simp only[Rel];refine⟨va,vb,T1,T2,rfl,fun c hc=>.inl hc,fun c hc=>.inr hc,fun c hc hc'=>h3 c (a1 c hc) (b1 c hc'),a2 Im' k1 (fun c hc hn=>k2 c (h1 c hc) ?_),b2 Im' k1 (fun c hc hn=>k2 c (h2 c hc) ?_)⟩
 ·rintro (h|h)
  ·exact hn h
  ·exact h3 c hc (b1 c h)
 ·rintro (h|h)
  ·exact h3 c (a1 c h) hc
  ·exact hn h
theorem acg{Im:Nat->Prop}{w:World}:(o o':O)->o.wk o'=true->(x:o.strip.den)->(x':o'.strip.den)->(S:Nat->Prop)->(vs:List Value)->rj o'.strip x=some x'->Rel Im w o x S vs->Wk Im w o' x' S vs
 |.p a b,.p a' b',h,x,x',S,vs,hx,r=>by simp only[O.wk,be,a0b]at h;simp only[Rel]at r;obtain⟨va,vb,S1,S2,rfl,h1,h2,h3,ha,hb⟩:=r;obtain⟨c1,c2⟩:=bm6 hx;exact bnz h1 h2 h3 (acg a a' h.1 _ _ _ _ c1 ha) (acg b b' h.2 _ _ _ _ c2 hb)
 |.fz (.p a b),.p a' b',h,x,x',S,vs,hx,r=>by simp only[O.wk,be,a0b]at h;simp only[Rel,aq]at r;obtain⟨va,vb,rfl,ha,hb⟩:=r;obtain⟨c1,c2⟩:=bm6 hx;exact bnz (S1:=fun _=>False) (S2:=fun _=>False) (fun c hc=>hc.elim) (fun c hc=>hc.elim) (fun c hc=>hc.elim) (acg (.fz a) a' h.1 _ _ _ _ c1 (by simpa only [Rel]using ha)) (acg (.fz b) b' h.2 _ _ _ _ c2 (by simpa only [Rel]using hb))
 |.sl e,.sl e',h,x,x',S,vs,hx,r=>by
  have hs:=aid (.sl e) (.sl e') h;simp only[O.wk]at h;simp only[O.strip,T.sl.injEq]at hs;have hsz:e'.size=e.size:=by unfold O.size;rw[hs]
  simp only[Rel]at r;obtain⟨v,ety,xs,T,rfl,h2,h3,h4,h5,h6,h7⟩:=r;obtain⟨c1,c2⟩:=bu7 hx;have hall:∀i,i<x'.length->∃y',x'[i]? = some y'/\Wk Im w e' y' (T i) ((xs.drop (i*e.size)).take e.size):=fun i hi=>by have hy:=a0p hi;obtain⟨y,k1,k2⟩:=c2 i _ hy;exact⟨_,hy,acg e e' h y _ _ _ k2 (h7 i y k1)⟩
  let T':Nat->Nat->Prop:=fun i=>if hi:i<x'.length then (hall i hi).choose_spec.2.choose else fun _=>False
  have hT:∀i y',x'[i]? = some y'->(∀b,T' i b->T i b)/\∀Im':Nat->Prop,(∀b,Im b->Im' b)->(∀b,T i b->¬T' i b->Im' b)->Rel Im' w e' y' (T' i) ((xs.drop (i*e.size)).take e.size):=fun i y' hy=>by
   have hi:=(a1i.1 hy).1;have h1:=(hall i hi).choose_spec.1;have h2:=(hall i hi).choose_spec.2.choose_spec;have e1:T' i=(hall i hi).choose_spec.2.choose:=by simp only[T',dif_pos hi]
   rw[e1];have:y'=(hall i hi).choose:=a28 (hy.symm.trans h1);rw[this];exact h2
  have hT0:∀i b,T' i b->T i b:=fun i b hb=>by
   by_cases hi:i<x'.length
   ·exact (hT i _ (a0p hi)).1 b hb
   ·have:T' i=fun _=>False:=by simp only[T',dif_neg hi]
    rw[this]at hb;exact hb.elim
  refine⟨fun b=>mi v=some b\/∃i,T' i b,fun b hb=>?_,fun Im' k1 k2=>?_⟩
  ·rcases hb with hb|⟨i,hb⟩
   ·exact h4 b hb
   ·exact (h5 i b (hT0 i b hb)).1
  ·simp only[Rel];refine⟨v,ety,xs,T',rfl,by rw[hsz,c1];exact h2,by rw[c1];exact h3,fun c hc=>.inl hc,fun i c hc=>⟨.inr ⟨i,hc⟩,(h5 i c (hT0 i c hc)).2⟩,fun i j c hij hc hc'=>h6 i j c hij (hT0 i c hc) (hT0 j c hc'),fun i y' hy=>?_⟩;rw[hsz];refine (hT i y' hy).2 Im' k1 (fun b hb hn=>k2 b (h5 i b hb).1 ?_);rintro (hr|⟨j,hj⟩)
   ·exact (h5 i b hb).2 hr
   ·by_cases e:j=i
    ·subst e;exact hn hj
    ·exact h6 j i b e (hT0 j b hj) hb
 |.pt e,.pt e',h,x,x',S,vs,hx,r=>by
  simp only[O.wk]at h;simp only[Rel]at r;obtain⟨b,us,ty',S0,rfl,h2,h3,h4,h5⟩:=r;obtain⟨T1,a1,a2⟩:=acg e e' h x x' S0 us (bvj hx) h5;refine⟨fun c=>c=b\/T1 c,fun c hc=>?_,fun Im' k1 k2=>?_⟩
  ·rcases hc with rfl|hc
   ·exact h2
   ·exact (h4 c (a1 c hc)).1
  ·simp only[Rel];refine⟨b,us,ty',T1,rfl,.inl rfl,h3,fun c hc=>⟨.inr hc,(h4 c (a1 c hc)).2⟩,a2 Im' k1 (fun c hc hn=>k2 c (h4 c hc).1 ?_)⟩;rintro (rfl|h)
   ·exact (h4 c hc).2 rfl
   ·exact hn h
 |.op e,.op e',h,x,x',S,vs,hx,r=>by simp only[O.wk]at h;have e1:=O.beq_eq h;subst e1;have:x=x':=a28 ((aak (a:=.op e.strip) x).symm.trans hx);subst this;refine⟨S,fun c hc=>hc,fun Im' k1 _=>?_⟩;exact Rel.keep (fun b hb=>⟨k1 b hb,rfl⟩) (.op e) x S vs (fun _ _=>rfl) r
 |.mp k v,.mp k' v',h,x,x',S,vs,hx,r=>by simp only[O.wk,be,a0b]at h;have e1:=T.beq_eq h.1;have e2:=T.beq_eq h.2;subst e1;subst e2;have:x=x':=a28 ((aak (a:=.mp k v) x).symm.trans hx);subst this;simp only[Rel]at r;obtain⟨b,es,n,rfl,h2,h3,h4⟩:=r;refine⟨fun c=>c=b,fun c hc=>by rw[hc];exact h2,fun Im' k1 _=>?_⟩;simp only[Rel];exact⟨b,es,n,rfl,rfl,h3,h4⟩
 |o,.fz t,h,x,x',S,vs,hx,r=>cee hx r
 |.p _ _,.mp _ _,h,_,_,_,_,_,_|.p _ _,.op _,h,_,_,_,_,_,_|.sl _,.mp _ _,h,_,_,_,_,_,_|.sl _,.op _,h,_,_,_,_,_,_|.pt _,.mp _ _,h,_,_,_,_,_,_|.pt _,.op _,h,_,_,_,_,_,_|.mp _ _,.p _ _,h,_,_,_,_,_,_|.op _,.p _ _,h,_,_,_,_,_,_|.mp _ _,.sl _,h,_,_,_,_,_,_|.op _,.sl _,h,_,_,_,_,_,_|.mp _ _,.pt _,h,_,_,_,_,_,_|.op _,.pt _,h,_,_,_,_,_,_=>by simp[O.wk]at h
 |.fz s,.mp _ _,h,_,_,_,_,_,_|.fz s,.op _,h,_,_,_,_,_,_=>by cases s<;>simp[O.wk]at h
 |.fz (.ifc _ _),.p _ _,h,_,_,_,_,_,_|.fz (.ib _ _),.p _ _,h,_,_,_,_,_,_|.fz (.mp _ _),.p _ _,h,_,_,_,_,_,_|.fz (.op _),.p _ _,h,_,_,_,_,_,_|.fz (.ns _),.p _ _,h,_,_,_,_,_,_|.fz (.er _),.p _ _,h,_,_,_,_,_,_|.p _ _,.sl _,h,_,_,_,_,_,_|.p _ _,.pt _,h,_,_,_,_,_,_|.sl _,.p _ _,h,_,_,_,_,_,_|.sl _,.pt _,h,_,_,_,_,_,_|.pt _,.p _ _,h,_,_,_,_,_,_|.pt _,.sl _,h,_,_,_,_,_,_=>by simp[O.wk]at h
 |.fz s,.sl _,h,_,_,_,_,_,_|.fz s,.pt _,h,_,_,_,_,_,_=>by cases s<;>simp[O.wk]at h
 |.fz (.int _),.p _ _,h,_,_,_,_,_,_|.fz .bool,.p _ _,h,_,_,_,_,_,_|.fz .str,.p _ _,h,_,_,_,_,_,_|.fz .u,.p _ _,h,_,_,_,_,_,_|.fz (.sl _),.p _ _,h,_,_,_,_,_,_|.fz (.pt _),.p _ _,h,_,_,_,_,_,_|.fz (.fn _ _),.p _ _,h,_,_,_,_,_,_|.fz .any,.p _ _,h,_,_,_,_,_,_=>by simp[O.wk]at h
end Go.Bm
