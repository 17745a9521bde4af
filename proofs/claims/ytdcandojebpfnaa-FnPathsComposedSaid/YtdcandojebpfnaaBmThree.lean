/- The typed machine that the walks of this claim go by: its data, its operations and the proof that each is sound. No condition. -/
import Derived.Test.YtdcandojebpfnaaBmTwo
import Derived.MapKept
import Derived.ChangeKeysEq
import Derived.Orders
set_option linter.unusedVariables false
set_option linter.unusedSimpArgs false
set_option linter.unusedSectionVars false
/- The gi machine:calls. -/
namespace Go.Bm
open Go.RowKit
def T.flat:T->Bool
 | .int _=>true
 | .bool=>true
 | .str=>true
 | .u=>true
 | .any=>true
 | .p a b=>nob a.flat b.flat
 | .fn _ t=>t.flat
 | .ifc _ t=>t.flat
 | .mp _ _=>false
 | .op _=>false
 | .ns _=>false
 | .sl _=>false
 | .pt _=>false
def O.flat:O->Bool
 | .fz t=>t.flat
 | .p a b=>nob a.flat b.flat
 | .sl e=>e.flat
 | .pt o=>o.flat
 | .mp _ _=>true
 | .op e=>e.flat
def ahu:List (Bool×O)->Bool
 | []=>true
 | q::r=>nob q.2.flat (ahu r)
theorem af7 {Im Im':Nat->Prop} {w:World}:(t:T)->t.flat=true->(x:t.den)->(vs:List Value)->aq Im w t x vs->aq Im' w t x vs
 | .int _,_,_,_,r=>by simpa only [aq]using r
 | .bool,_,_,_,r=>by simpa only [aq]using r
 | .str,_,_,_,r=>by simpa only [aq]using r
 | .u,_,_,_,r=>by simpa only [aq]using r
 | .any,_,_,_,r=>by simpa only [aq]using r
 | .p a b,h,x,vs,r=>by
  simp only [T.flat,bc,Bool.and_eq_true]at h
  simp only [aq]at r ⊢
  obtain ⟨va,vb,h1,h2,h3⟩:=r
  exact ⟨va,vb,h1,af7 a h.1 _ _ h2,af7 b h.2 _ _ h3⟩
 | .fn f t,h,x,vs,r=>by
  simp only [T.flat]at h
  simp only [aq]at r ⊢
  obtain ⟨us,h1,h2⟩:=r
  exact ⟨us,h1,af7 t h _ _ h2⟩
 | .ifc f t,h,x,vs,r=>by
  simp only [T.flat]at h
  simp only [aq]at r ⊢
  obtain ⟨u,h1,h2⟩:=r
  exact ⟨u,h1,af7 t h _ _ h2⟩
 | .mp _ _,h,_,_,_=>by simp [T.flat]at h
 | .op _,h,_,_,_=>by simp [T.flat]at h
 | .ns _,h,_,_,_=>by simp [T.flat]at h
 | .sl _,h,_,_,_=>by simp [T.flat]at h
 | .pt _,h,_,_,_=>by simp [T.flat]at h
theorem aev {Im Im':Nat->Prop} {w:World}:(o:O)->o.flat=true->(x:o.strip.den)->(S:Nat->Prop)->(vs:List Value)->Rel Im w o x S vs->Rel Im' w o x S vs
 | .fz t,h,x,S,vs,r=>by simp only [O.flat]at h;simp only [Rel]at r ⊢;exact af7 t h x vs r
 | .p a b,h,x,S,vs,r=>by
  simp only [O.flat,bc,Bool.and_eq_true]at h
  simp only [Rel]at r ⊢
  obtain ⟨va,vb,S1,S2,h1,h2,h3,h4,h5,h6⟩:=r
  exact ⟨va,vb,S1,S2,h1,h2,h3,h4,aev a h.1 _ _ _ h5,aev b h.2 _ _ _ h6⟩
 | .sl e,h,x,S,vs,r=>by
  simp only [O.flat]at h
  simp only [Rel]at r ⊢
  obtain ⟨v,ety,xs,T,h1,h2,h3,h4,h5,h6,h7⟩:=r
  exact ⟨v,ety,xs,T,h1,h2,h3,h4,h5,h6,fun i x hx=>aev e h _ _ _ (h7 i x hx)⟩
 | .pt o,h,x,S,vs,r=>by
  simp only [O.flat]at h
  simp only [Rel]at r ⊢
  obtain ⟨b,us,ty',S',h1,h2,h3,h4,h5⟩:=r
  exact ⟨b,us,ty',S',h1,h2,h3,h4,aev o h _ _ _ h5⟩
 | .op e,h,x,S,vs,r=>by
  simp only [O.flat]at h
  simp only [Rel]at r ⊢
  exact ⟨r.1,r.2.1,fun y hy=>aev e h _ _ _ (r.2.2 y hy)⟩
 | .mp k v,h,x,S,vs,r=>by
  simp only [Rel]at r ⊢
  exact r
def oy (A:Nat->Prop) (w:World):List Bool->(ts:List T)->bi ts->List Value->Prop
 | [],[],_,us=>us=[]
 | g::gs,t::ts,x,us=>∃ u us' vs,us=u::us'/\(g=true->u=.agg (vs:List Value).toArray)/\(g=false->vs=[u])/\aq A w t x.1 vs/\oy A w gs ts x.2 us'
 | _,_,_,_=>False
def kg (Im:Nat->Prop) (w:World):(rs:List (Bool×O))->js rs->(Nat->Prop)->List Value->Prop
 | [],_,_,us=>us=[]
 | q::rs,x,S,us=>∃ u us' vs,∃ S1 S2:Nat->Prop,us=u::us'/\(q.1=true->u=.agg (vs:List Value).toArray)/\(q.1=false->vs=[u])/\(∀ b,S1 b->S b)/\(∀ b,S2 b->S b)/\(∀ b,S1 b->¬ S2 b)/\Rel Im w q.2 x.1 S1 vs/\kg Im w rs x.2 S2 us'
def xn:List Value->Value
 | [u]=>u
 | l=>.tuple l.toArray
def asg (P:Program) (f:FuncId):Prop:=∀ args w,(callFunc f args).run P w=.ok (.enter f args) w
theorem akw {P : Program} {f : FuncId} {fn : Func} {c : Code} (hf : P.funcs[f]? = some fn) (hb : fn.body = some c) (hn : (fn.name == "runtime.NumGoroutine") = false) : asg P f := by
 intro args w
 have h : ¬ fn.name = "runtime.NumGoroutine" := by simpa using hn
 simp [callFunc,hf,hb,h]
structure ExtS (w w':World) (T:Nat->Prop):Prop where
 os:w'.os=w.os
 tape:TD w' w
 output:w'.output=w.output
 size:w.heap.size<=w'.heap.size
 old:∀ b,b < w.heap.size->¬ T b->w'.heap[b]? = w.heap[b]?
def MtOk (P:Program) (f:FuncId) (m:Mt):Prop:=
 m.o.flat=true/\∀ (w:World) (u:Value) (vs:List Value) (x:m.o.strip.den) (k:Int) (S:Nat->Prop),(m.g=true->u=.agg vs.toArray)->(m.g=false->vs=[u])->Rel (fun _=>False) w m.o x S vs->
  (∀ b,S b->b < w.heap.size)->inK .i64 k->ae (m.pre x k)->
  Calls P f #[u,.int .i64 k] w fun e w'=>e=.returned (.int .i64 (m.res x k).2)/\ExtS w w' S/\inK .i64 (m.res x k).2/\
   ∃ S':Nat->Prop,Rel (fun _=>False) w' m.o (m.res x k).1 S' vs/\∀ b,S' b->S b\/w.heap.size<=b/\b < w'.heap.size
def WtOk (P:Program) (f:FuncId) (W:Wt):Prop:=
 ∀ (A:Nat->Prop) (w:World) (u:Value) (x:W.o.strip.den) (us:List Value) (y:bi W.as) (S:Nat->Prop),(∀ b,A b->b < w.heap.size)->(∀ b,S b->b < w.heap.size/\¬ A b)->
  Rel (fun b=>A b) w W.o x S [u]->oy A w W.ag W.as y us->ae (W.pre x y)->
  Calls P f (u::us).toArray w fun e w'=>∃ rs R S',e=.returned (xn rs)/\ExtS w w' S/\(∀ b,R b->w.heap.size<=b/\b < w'.heap.size)/\(∀ b,S' b->(S b\/w.heap.size<=b/\b < w'.heap.size)/\¬ R b)/\
   Rel (fun b=>b < w'.heap.size/\(A b\/S b\/w.heap.size<=b)/\¬ S' b/\¬ R b) w' W.o (W.new x y) S' [u]/\
   kg (fun b=>b < w'.heap.size/\(A b\/S b\/w.heap.size<=b)/\¬ S' b/\¬ R b) w' W.rt (W.res x y) R rs
def AlR (w:World) (u:Value):T->List Value->Prop
 | .pt t,vs=>bqw t=true->∃ b o,vs=[.pointer (some ⟨b,o,none⟩)]/\ol w b o [u]
 | .p a b,vs=>∃ va vb,vs=va++vb/\va.length=a.size/\AlR w u a va/\AlR w u b vb
 | .fn f t,vs=>∃ us:List Value,vs=[.func (.func f) #[] us.toArray]/\AlR w u t us
 | _,_=>True
def AlL (w:World) (u:Value):List T->List Value->Prop
 | t::ts,v::vs=>AlR w u t [v]/\AlL w u ts vs
 | _,_=>True
def WaOk (P:Program) (f:FuncId) (W:Wa):Prop:=
 ∀ (A:Nat->Prop) (w:World) (u v:Value) (x:W.o.strip.den) (us:List Value) (y:bi W.as) (S:Nat->Prop),(∀ b,A b->b < w.heap.size)->(∀ b,S b->b < w.heap.size/\¬ A b)->
  Rel (fun b=>A b) w W.o x S [u]->Adr (fun _=>u) [(0,⟨W.o,x⟩)] w 0 W.way v->oy A w (at6 W.as) W.as y us->AlL w u W.as us->ae (W.pre x y)->
  Calls P f (v::us).toArray w fun e w'=>∃ S',e=.returned (xn [])/\ExtS w w' S/\(∀ b,S' b->S b\/w.heap.size<=b/\b < w'.heap.size)/\
   Rel (fun b=>b < w'.heap.size/\(A b\/S b\/w.heap.size<=b)/\¬ S' b) w' W.o (W.new x y) S' [u]
def bch (P:Program) (f:FuncId) (ct:Ct):Prop:=∀ (A:Nat->Prop) (w:World) (us:List Value) (x:bi ct.args),(∀ b,A b->b < w.heap.size)->oy A w ct.ga ct.args x us->ae (ct.pre x)->
  Calls P f us.toArray w fun e w'=>∃ rs S,e=.returned (xn rs)/\Ext w w'/\(∀ b,S b->w.heap.size<=b/\b < w'.heap.size)/\
   kg (fun b=>b < w'.heap.size/\(ct.sh=true/\A b\/w.heap.size<=b)/\¬ S b) w' ct.rt (ct.res x) S rs
def dg (P:Program) (f:FuncId) (ct:Ct):Prop:=
 asg P f/\match ct.mu with
 | some (.m m)=>MtOk P f m
 | some (.w W)=>WtOk P f W
 | some (.a W)=>WaOk P f W
 | some (.s s)=>bch P f (spCt s true)/\bch P f (spCt s false)
 | none=>bch P f ct
def m7 (P:Program) (Φ:FuncId->Option Ct):Prop:=∀ f ct,Φ f=some ct->dg P f ct
section
variable {F:Fr} {p p' p'':Ow} {env:Env} {M M' M'':Mem} {a:Act} {w w' w'':World} {P:Program} {B:Tab}
def All (F:Fr) (w:World):Nat->Prop:=fun b=>b < w.heap.size/\(F.A b\/F.RR b\/F.w0.heap.size<=b)
theorem aqx {b:Nat} (h:Imm F p M w b):All F w b:=⟨h.1,h.2.1⟩
theorem awk (hp:Hp F p M w) {k b:Nat} (hl:er M k) (h:p.σ k b):All F w b:=by
 obtain ⟨h1,h2⟩:=hp.own k b hl h
 exact ⟨h1,h2.elim (fun h=>.inr (.inl h.2)) (fun h=>.inr (.inr h))⟩
theorem ah0 (hp:Hp F p M w):(v:V)->(t:T)->(vs:List Value)->(x:t.den)->ai p.β M (Imm F p M w) w v vs->v.view M t=some x->aq (All F w) w t x vs
 | .d s y,t,vs,x,r,h=>by
  simp only [ai]at r;simp only [V.view]at h
  exact aq.keep (fun b hb=>⟨aqx hb,rfl⟩) _ _ _ (bgi h r)
 | .p a b,.p t s,vs,x,r,h=>by
  simp only [ai]at r
  simp only [V.view]at h
  split at h
  ·rename_i y z hy hz
   cases h
   obtain ⟨va,vb,h1,h2,h3⟩:=r
   simp only [aq]
   exact ⟨va,vb,h1,ah0 hp a t va y h2 hy,ah0 hp b s vb z h3 hz⟩
  ·cases h
 | .nl,.sl _,vs,x,r,h=>by
  simp only [ai]at r
  simp only [V.view,Option.some.injEq]at h
  subst h
  simp only [aq]
  obtain ⟨oa,r⟩:=r
  exact ⟨oa,0,r,⟨Nat.zero_le _,Nat.le_refl _⟩,fun _=>⟨rfl,rfl⟩,fun a ha hpos=>absurd hpos (Nat.lt_irrefl 0)⟩
 | .u,.u,vs,x,r,h=>by simp only [ai]at r;simp only [aq];exact r
 | .np,.any,vs,x,r,h=>by simp only [ai]at r;simp only [aq];exact ⟨_,r,rfl⟩
 | .bx v,.pt t,vs,x,r,h=>by
  simp only [V.view]at h
  simp only [ai]at r
  obtain ⟨b,o,us,h1,h2,h3,h4⟩:=r
  simp only [aq]
  exact ⟨b,o,us,h1,aqx h2,h3,ah0 hp v t us x h4 h⟩
 | .fn f v,.fn f' t,vs,x,r,h=>by
  simp only [ai]at r
  simp only [V.view,dv]at h
  split at h
  ·rename_i e
   subst e
   obtain ⟨us,h1,h2⟩:=r
   simp only [aq]
   exact ⟨us,h1,ah0 hp v t us x h2 h⟩
  ·cases h
 | .ref k π,t,vs,x,r,h=>by
  simp only [ai]at r
  have h':ap7 M k π t=some x:=by cases t <;> simpa only [V.view]using h
  unfold ap7 at h'
  split at h'
  ·rename_i q hq
   obtain ⟨ob,h1,h2⟩:=ru hq
   obtain ⟨ob',pl,k1,k2,k3,k4⟩:=r
   rw [h1]at k1;cases k1
   obtain ⟨us,pl',S',e1,e2,e3,_⟩:=look hp h1 k2 h2
   rw [e1]at k4;cases k4
   exact wj h' (Rel.frz (fun b hb=>aqx hb) _ _ S' _ (fun b hb=>awk hp (c8 h1) (e2 b hb)) e3)
  ·cases h'
 | .ad k π,.pt t,vs,x,r,h=>by
  simp only [ai]at r
  obtain ⟨v,rfl,r⟩:=r
  simp only [V.view,ap7]at h
  split at h
  ·rename_i q hq
   obtain ⟨ob,h1,h2⟩:=ru hq
   obtain ⟨ob',us0,b0,off0,k1,k2,k3,k4,k5,rfl⟩:=r
   rw [h1]at k1;cases k1
   obtain ⟨us,pl',S',e1,e2,e3,e4,_⟩:=look hp h1 k2 h2
   rw [e1]at k5
   simp only [Option.some.injEq,Prod.mk.injEq]at k5
   obtain ⟨rfl,rfl⟩:=k5
   obtain ⟨b,off,cur,ty',c1,c2,c3,c4,c5⟩:=e4 k4
   simp only [Option.some.injEq,Prod.mk.injEq]at c1
   obtain ⟨rfl,rfl⟩:=c1
   have:=wj h (Rel.frz (fun b hb=>aqx hb) _ _ S' _ (fun b hb=>awk hp (c8 h1) (e2 b hb)) e3)
   simp only [aq]
   exact ⟨b0,off0,us,rfl,awk hp (c8 h1) c2,fun j u hu=>by rw [cell_of_row w b0 _ cur ty' (0,0) c4];exact c5 j u hu,this⟩
  ·cases h
 | .p _ _,.int _,_,_,_,h=>by simp [V.view]at h
 | .p _ _,.bool,_,_,_,h=>by simp [V.view]at h
 | .p _ _,.str,_,_,_,h=>by simp [V.view]at h
 | .p _ _,.u,_,_,_,h=>by simp [V.view]at h
 | .p _ _,.sl _,_,_,_,h=>by simp [V.view]at h
 | .p _ _,.pt _,_,_,_,h=>by simp [V.view]at h
 | .p _ _,.fn _ _,_,_,_,h=>by simp [V.view]at h
 | .p _ _,.any,_,_,_,h=>by simp [V.view]at h
 | .nl,.int _,_,_,_,h=>by simp [V.view]at h
 | .nl,.bool,_,_,_,h=>by simp [V.view]at h
 | .nl,.str,_,_,_,h=>by simp [V.view]at h
 | .nl,.u,_,_,_,h=>by simp [V.view]at h
 | .nl,.p _ _,_,_,_,h=>by simp [V.view]at h
 | .nl,.pt _,_,_,_,h=>by simp [V.view]at h
 | .nl,.fn _ _,_,_,_,h=>by simp [V.view]at h
 | .nl,.any,_,_,_,h=>by simp [V.view]at h
 | .u,.int _,_,_,_,h=>by simp [V.view]at h
 | .u,.bool,_,_,_,h=>by simp [V.view]at h
 | .u,.str,_,_,_,h=>by simp [V.view]at h
 | .u,.sl _,_,_,_,h=>by simp [V.view]at h
 | .u,.p _ _,_,_,_,h=>by simp [V.view]at h
 | .u,.pt _,_,_,_,h=>by simp [V.view]at h
 | .u,.fn _ _,_,_,_,h=>by simp [V.view]at h
 | .u,.any,_,_,_,h=>by simp [V.view]at h
 | .np,.int _,_,_,_,h=>by simp [V.view]at h
 | .np,.bool,_,_,_,h=>by simp [V.view]at h
 | .np,.str,_,_,_,h=>by simp [V.view]at h
 | .np,.sl _,_,_,_,h=>by simp [V.view]at h
 | .np,.p _ _,_,_,_,h=>by simp [V.view]at h
 | .np,.pt _,_,_,_,h=>by simp [V.view]at h
 | .np,.fn _ _,_,_,_,h=>by simp [V.view]at h
 | .np,.u,_,_,_,h=>by simp [V.view]at h
 | .fn _ _,.int _,_,_,_,h=>by simp [V.view]at h
 | .fn _ _,.bool,_,_,_,h=>by simp [V.view]at h
 | .fn _ _,.str,_,_,_,h=>by simp [V.view]at h
 | .fn _ _,.sl _,_,_,_,h=>by simp [V.view]at h
 | .fn _ _,.p _ _,_,_,_,h=>by simp [V.view]at h
 | .fn _ _,.pt _,_,_,_,h=>by simp [V.view]at h
 | .fn _ _,.u,_,_,_,h=>by simp [V.view]at h
 | .fn _ _,.any,_,_,_,h=>by simp [V.view]at h
 | .bx _,.int _,_,_,_,h=>by simp [V.view]at h
 | .bx _,.bool,_,_,_,h=>by simp [V.view]at h
 | .bx _,.str,_,_,_,h=>by simp [V.view]at h
 | .bx _,.sl _,_,_,_,h=>by simp [V.view]at h
 | .bx _,.p _ _,_,_,_,h=>by simp [V.view]at h
 | .bx _,.fn _ _,_,_,_,h=>by simp [V.view]at h
 | .bx _,.u,_,_,_,h=>by simp [V.view]at h
 | .bx _,.any,_,_,_,h=>by simp [V.view]at h
 | .ad _ _,.int _,_,_,_,h=>by simp [V.view]at h
 | .ad _ _,.bool,_,_,_,h=>by simp [V.view]at h
 | .ad _ _,.str,_,_,_,h=>by simp [V.view]at h
 | .ad _ _,.u,_,_,_,h=>by simp [V.view]at h
 | .ad _ _,.p _ _,_,_,_,h=>by simp [V.view]at h
 | .ad _ _,.sl _,_,_,_,h=>by simp [V.view]at h
 | .ad _ _,.fn _ _,_,_,_,h=>by simp [V.view]at h
 | .ad _ _,.any,_,_,_,h=>by simp [V.view]at h
 | .any,_,_,_,_,h=>by simp [V.view]at h
 | .ag _,_,_,_,r,h=>by simp [V.view]at h
 | .tup _,_,_,_,r,h=>by simp [V.view]at h
 | .gd _ _ _ _,_,_,_,r,h=>by simp [V.view]at h
 | .ifc f v,.ifc f' t,vs,x,r,h=>by
  simp only [ai]at r
  simp only [V.view,dv]at h
  split at h
  ·rename_i e
   subst e
   obtain ⟨u,h1,h2⟩:=r
   simp only [aq]
   exact ⟨u,h1,ah0 hp v t [u] x h2 h⟩
  ·cases h
 | .ifc _ _,.int _,_,_,_,h=>by simp [V.view]at h
 | .ifc _ _,.bool,_,_,_,h=>by simp [V.view]at h
 | .ifc _ _,.str,_,_,_,h=>by simp [V.view]at h
 | .ifc _ _,.sl _,_,_,_,h=>by simp [V.view]at h
 | .ifc _ _,.p _ _,_,_,_,h=>by simp [V.view]at h
 | .ifc _ _,.pt _,_,_,_,h=>by simp [V.view]at h
 | .ifc _ _,.u,_,_,_,h=>by simp [V.view]at h
 | .ifc _ _,.any,_,_,_,h=>by simp [V.view]at h
 | .ifc _ _,.fn _ _,_,_,_,h=>by simp [V.view]at h
theorem asu (hp:Hp F p M w) {v:V} {u:Value} (h:al p.β M (Imm F p M w) w v u) (hc:nr v=true):∃ vs:List Value,(ac9 v=true->u=.agg vs.toArray)/\(ac9 v=false->vs=[u])/\ai p.β M (Imm F p M w) w v.cells vs:=by
 have hcc:=ae4 hp h hc
 refine ⟨u.cells.toList,fun ha=>?_,fun ha=>?_,hcc⟩
 ·cases v <;> simp [ac9]at ha
  simp only [al]at h
  obtain ⟨vs,rfl,_⟩:=h
  simp [Value.cells]
 ·have key:ai p.β M (Imm F p M w) w v [u]->u.cells.toList=[u]:=fun r=>by rw [azt (ai.one hp v _ r u (by simp))]
  cases v with
  | any=>cases hc
  | tup _=>cases hc
  | gd _ _ _ _=>cases hc
  | ifc _ _=>exact key (by simpa only [al]using h)
  | ag y=>cases ha
  | p a b=>exact key (by simpa only [al]using h)
  | u=>exact key (by simpa only [al]using h)
  | ref k π=>exact key (by simpa only [al]using h)
  | ad k π=>exact key (by simpa only [al]using h)
  | d t y=>exact key (by simpa only [al]using h)
  | nl=>exact key (by simpa only [al]using h)
  | np=>exact key (by simpa only [al]using h)
  | fn f y=>exact key (by simpa only [al]using h)
  | bx y=>exact key (by simpa only [al]using h)
theorem bht {v:V} {t:T} {x:t.den} (h:v.cells.view M t=some x):nr v=true:=by
 cases v <;> first | rfl | (exfalso;revert h;cases t <;> simp [V.cells,V.view])
theorem blz {v:V} {t:T} {x:t.den} (h:v.cells.as t=some x):nr v=true:=by
 cases v <;> first | rfl | (exfalso;revert h;cases t <;> simp [V.cells,V.as])
theorem bcy {v:V} {r:List V} {g:Bool} {gs:List Bool} (h:shp (v::r) (g::gs)=true):ac9 v=g/\shp r gs=true:=by
 simp only [shp]at h
 cases ha:ac9 v <;> cases g <;> simp [ha]at h ⊢ <;> exact h
theorem bbc (hp:Hp F p M w):(vs:List V)->(gs:List Bool)->(ts:List T)->(x:bi ts)->(us:List Value)->us.length=vs.length->(∀ (i:Nat) v u,vs[i]? = some v->us[i]? = some u->al p.β M (Imm F p M w) w v u)->shp vs gs=true->afe M vs ts=some x->oy (All F w) w gs ts x us
 | [],[],[],x,us,hl,_,_,h=>by simp only [oy];exact List.eq_nil_of_length_eq_zero (by simpa using hl)
 | [],_::_,_,x,us,hl,_,hs,h=>by simp [shp]at hs
 | [],[],_::_,x,us,hl,_,hs,h=>by simp [afe]at h
 | _::_,[],_,x,us,hl,_,hs,h=>by simp [shp]at hs
 | _::_,_::_,[],x,us,hl,_,hs,h=>by simp [afe]at h
 | v::r,g::gs,t::ts,x,us,hl,hr,hs,h=>by
  simp only [afe]at h
  split at h
  ·rename_i y z hy hz
   cases h
   cases us with
   | nil=>simp at hl
   | cons u us=>
    obtain ⟨s1,s2⟩:=bcy hs
    obtain ⟨cs,c1,c2,c3⟩:=asu hp (hr 0 v u rfl rfl) (bht hy)
    simp only [oy]
    exact ⟨u,us,cs,rfl,fun hg=>c1 (s1.trans hg),fun hg=>c2 (s1.trans hg),ah0 hp _ _ _ _ c3 hy,bbc hp r gs ts z us (by simpa using hl) (fun i v' u' hv' hu'=>hr (i+1) v' u' (by simpa using hv') (by simpa using hu')) s2 hz⟩
  ·cases h
theorem bck (hp:Hp F p M w):(vs:List V)->(gs:List Bool)->(ts:List T)->(x:bi ts)->(us:List Value)->us.length=vs.length->(∀ (i:Nat) v u,vs[i]? = some v->us[i]? = some u->al p.β M (Imm F p M w) w v u)->shp vs gs=true->asL vs ts=some x->oy (Imm F p M w) w gs ts x us
 | [],[],[],x,us,hl,_,_,h=>by simp only [oy];exact List.eq_nil_of_length_eq_zero (by simpa using hl)
 | [],_::_,_,x,us,hl,_,hs,h=>by simp [shp]at hs
 | [],[],_::_,x,us,hl,_,hs,h=>by simp [asL]at h
 | _::_,[],_,x,us,hl,_,hs,h=>by simp [shp]at hs
 | _::_,_::_,[],x,us,hl,_,hs,h=>by simp [asL]at h
 | v::r,g::gs,t::ts,x,us,hl,hr,hs,h=>by
  simp only [asL]at h
  split at h
  ·rename_i y z hy hz
   cases h
   cases us with
   | nil=>simp at hl
   | cons u us=>
    obtain ⟨s1,s2⟩:=bcy hs
    obtain ⟨cs,c1,c2,c3⟩:=asu hp (hr 0 v u rfl rfl) (blz hy)
    simp only [oy]
    exact ⟨u,us,cs,rfl,fun hg=>c1 (s1.trans hg),fun hg=>c2 (s1.trans hg),afk _ _ _ _ c3 hy,bck hp r gs ts z us (by simpa using hl) (fun i v' u' hv' hu'=>hr (i+1) v' u' (by simpa using hv') (by simpa using hu')) s2 hz⟩
  ·cases h
theorem bow (e:Ev) (v:V):ac9 (v.ev e)=ac9 v:=by
 cases v with
 | ref k π=>
  have hx:∀ t x,ac9 (n9 t x)=false:=fun t x=>by cases t <;> rfl
  cases e <;> simp only [V.ev,Ev.ref,dv] <;> split <;> first | rfl | (split <;> first | rfl | exact hx _ _) | (cases ab4 π <;> rfl) | (rename_i o o' _;cases orb (ab4 π) (baq (trk π o) (trk π o')) <;> rfl)
 | ad k π=>
  cases e <;> simp only [V.ev,Ev.ad,dv] <;> split <;> first | rfl | (split <;> rfl) | (rename_i o o' _;cases aag (qw π o) (qw π o') <;> rfl)
 | _=>rfl
theorem bb1 (v:V):∀ e:List Ev,ac9 (v.evs e)=ac9 v
 | []=>rfl
 | x::e=>by simp only [V.evs];rw [bb1 _ e,bow]
theorem awd (e:List Ev):∀ (vs:List V) (gs:List Bool),shp (vi e vs) gs=shp vs gs
 | [],[]=>rfl
 | [],_::_=>rfl
 | _::_,[]=>rfl
 | v::r,g::gs=>by simp only [vi,shp,bb1];rw [awd e r gs]
theorem bnu {d i j:Nat} (h:cid d i=cid d j):i=j:=by unfold cid at h;exact Nat.add_left_cancel h
structure Ad (F:Fr) (p:Ow) (M:Mem) (w:World) (d n j j':Nat) (S:Nat->Prop) (N:Mem) (p':Ow):Prop where
 le:j<=j'
 fr:∀ i,j'<=i->i < n->go (ap N M) (cid d i)=none
 keys:∀ k ∈ cj N,∃ i,j<=i/\i < j'/\k=cid d i
 tr:Tr F p M w [] p' (ap N M) w
 L:∀ b,p'.L b<->p.L b/\¬ S b
 old:∀ i ob,go M i=some ob->go (ap N M) i=some ob/\p'.β i=p.β i/\p'.σ i=p.σ i
theorem Ad.one (h:Hp F p M w) (d n j:Nat) (hjn:j < n) {S:Nat->Prop} {ob:Ob} {u:Value} (hfr:∀ i,j<=i->i < n->go M (cid d i)=none) (hr:Rel (Imm F p M w) w ob.o ob.x S [u]) (hS:∀ b,S b->p.L b) :
  Ad F p M w d n j (Nat.succ j) S [(cid d j,ob)] (p.updL (cid d j) u S fun b=>p.L b/\¬ S b):=by
 refine ⟨Nat.le_succ j,fun i hi hin=>?_,fun k hk=>⟨j,Nat.le_refl _,Nat.lt_succ_self _,by simpa [cj]using hk⟩,?_,fun b=>Iff.rfl,fun i o hi=>?_⟩
 ·have hne:cid d j ≠ cid d i:=fun e=>by have:=bnu e;subst this;exact Nat.lt_irrefl _ hi
  simp only [ap];rw [fx,if_neg hne];exact hfr i (by exact Nat.le_of_succ_le hi) hin
 ·simp only [ap]
  exact Tr.newL h _ (hfr j (Nat.le_refl _) hjn) u S _ ob ⟨rfl,⟨rfl,Nat.le_refl _⟩,rfl,Nat.le_refl _,fun _ _ _=>rfl⟩ (fun b hb=>hb) (fun b hb=>.inr (hS b hb)) (fun hkp=>Rel.keep hkp _ _ _ _ (fun _ _=>rfl) hr)
 ·have hne:i ≠ cid d j:=by rintro rfl;rw [hfr j (Nat.le_refl _) hjn]at hi;cases hi
  refine ⟨by simp only [ap];rw [fx,if_neg (Ne.symm hne)];exact hi,by simp [Ow.updL,hne],by simp [Ow.updL,hne]⟩
theorem Ad.none (h:Hp F p M w) (d n j:Nat) (S:Nat->Prop) (hfr:∀ i,j<=i->i < n->go M (cid d i)=none):Ad F p M w d n j j S [] ⟨p.β,p.σ,fun b=>p.L b/\¬ S b⟩:=
 ⟨Nat.le_refl _,hfr,fun k hk=>by simp [cj]at hk,Tr.drop h _ (fun b hb=>hb.1),fun b=>Iff.rfl,fun i ob hi=>⟨hi,rfl,rfl⟩⟩
theorem anr:∀ (N N':Mem),cj (ap N N')=cj N++cj N'
 | [],N'=>rfl
 | (k,_)::N,N'=>by simp only [ap,cj,anr N N',List.cons_append]
theorem aso {α:Type} (a b c:List α):ap (ap a b) c=ap a (ap b c):=by simp only [mr,List.append_assoc]
theorem Ad.two {d n j j' j'':Nat} {S S1 S2:Nat->Prop} {N N':Mem} (h1:Ad F p M w d n j j' S1 N p') (h2:Ad F p' (ap N M) w d n j' j'' S2 N' p'') (hS1:∀ b,S1 b->S b) (hS2:∀ b,S2 b->S b) :
  Ad F p M w d n j j'' S (ap N' N) ⟨p''.β,p''.σ,fun b=>p''.L b/\¬ S b⟩:=by
 have hap:ap (ap N' N) M=ap N' (ap N M):=aso _ _ _
 refine ⟨Nat.le_trans h1.le h2.le,fun i hi hin=>by rw [hap];exact h2.fr i hi hin,fun k hk=>?_,?_,fun b=>?_,fun i ob hi=>?_⟩
 ·rw [anr]at hk
  rcases List.mem_append.1 hk with hk | hk
  ·obtain ⟨i,a1,a2,a3⟩:=h2.keys k hk;exact ⟨i,Nat.le_trans h1.le a1,a2,a3⟩
  ·obtain ⟨i,a1,a2,a3⟩:=h1.keys k hk;exact ⟨i,a1,Nat.lt_of_lt_of_le a2 h2.le,a3⟩
 ·rw [hap]
  exact h1.tr.trans (h2.tr.trans (Tr.drop h2.tr.hp _ (fun b hb=>hb.1)))
 ·show p''.L b/\¬ S b<->_
  rw [h2.L,h1.L]
  constructor
  ·rintro ⟨⟨⟨a1,_⟩,_⟩,a2⟩;exact ⟨a1,a2⟩
  ·rintro ⟨a1,a2⟩;exact ⟨⟨⟨a1,fun h=>a2 (hS1 b h)⟩,fun h=>a2 (hS2 b h)⟩,a2⟩
 ·obtain ⟨a1,a2,a3⟩:=h1.old i ob hi
  obtain ⟨b1,b2,b3⟩:=h2.old i ob a1
  exact ⟨by rw [hap];exact b1,b2.trans a2,b3.trans a3⟩
theorem aqc (d:Nat):(o:O)->(j:Nat)->(x:o.strip.den)->j<=(mq d j o x).2.2/\∀ i,j<=i->i < (mq d j o x).2.2->cid d i ∈ cj (mq d j o x).2.1
 | .fz t,j,x=>by simp only [mq];exact ⟨Nat.le_refl _,fun i h1 h2=>by omega⟩
 | .sl e,j,x=>by simp only [mq];exact ⟨Nat.le_succ _,fun i h1 h2=>by (have:i=j:=by omega);subst this;simp [cj]⟩
 | .pt e,j,x=>by simp only [mq];exact ⟨Nat.le_succ _,fun i h1 h2=>by (have:i=j:=by omega);subst this;simp [cj]⟩
 | .mp k v,j,x=>by simp only [mq];exact ⟨Nat.le_succ _,fun i h1 h2=>by (have:i=j:=by omega);subst this;simp [cj]⟩
 | .op e,j,x=>by simp only [mq];exact ⟨Nat.le_refl _,fun i h1 h2=>by omega⟩
 | .p a b,j,x=>by
  obtain ⟨a1,a2⟩:=aqc d a j x.1
  simp only [mq]
  generalize mq d j a x.1=q1 at a1 a2 ⊢
  obtain ⟨v1,N1,j1⟩:=q1
  simp only at a1 a2 ⊢
  obtain ⟨b1,b2⟩:=aqc d b j1 x.2
  generalize mq d j1 b x.2=q2 at b1 b2 ⊢
  obtain ⟨v2,N2,j2⟩:=q2
  simp only at b1 b2 ⊢
  refine ⟨Nat.le_trans a1 b1,fun i h1 h2=>?_⟩
  rw [anr]
  by_cases h:i < j1
  ·exact List.mem_append_right _ (a2 i h1 h)
  ·exact List.mem_append_left _ (b2 i (by omega) h2)
theorem aqo (d:Nat):(rs:List (Bool×O))->(j:Nat)->(x:js rs)->j<=(newL d j rs x).2.2/\∀ i,j<=i->i < (newL d j rs x).2.2->cid d i ∈ cj (newL d j rs x).2.1
 | [],j,x=>by simp only [newL];exact ⟨Nat.le_refl _,fun i h1 h2=>by omega⟩
 | q::rs,j,x=>by
  obtain ⟨a1,a2⟩:=aqc d q.2 j x.1
  simp only [newL]
  generalize mq d j q.2 x.1=q1 at a1 a2 ⊢
  obtain ⟨v1,N1,j1⟩:=q1
  simp only at a1 a2 ⊢
  obtain ⟨b1,b2⟩:=aqo d rs j1 x.2
  generalize newL d j1 rs x.2=q2 at b1 b2 ⊢
  obtain ⟨v2,N2,j2⟩:=q2
  simp only at b1 b2 ⊢
  refine ⟨Nat.le_trans a1 b1,fun i h1 h2=>?_⟩
  rw [anr]
  by_cases h:i < j1
  ·exact List.mem_append_right _ (a2 i h1 h)
  ·exact List.mem_append_left _ (b2 i (by omega) h2)
theorem ax7 (d n:Nat):(o:O)->(M:Mem)->(p:Ow)->(j:Nat)->(x:o.strip.den)->(S:Nat->Prop)->(vs:List Value)->Hp F p M w->Rel (Imm F p M w) w o x S vs->(∀ b,S b->p.L b)->(mq d j o x).2.2<=n->(∀ i,j<=i->i < n->go M (cid d i)=none)->
  ∃ p',Ad F p M w d n j (mq d j o x).2.2 S (mq d j o x).2.1 p'/\ai p'.β (ap (mq d j o x).2.1 M) (Imm F p' (ap (mq d j o x).2.1 M) w) w (mq d j o x).1 vs
 | .fz t,M,p,j,x,S,vs,h,r,hS,hn,hfr=>by
  simp only [mq,ap]
  have ha:=Ad.none h d n j S hfr
  refine ⟨_,ha,sm t x vs ?_⟩
  simp only [Rel]at r
  exact aq.keep ha.tr.keep _ _ _ r
 | .op e,M,p,j,x,S,vs,h,r,hS,hn,hfr=>by
  simp only [mq,ap]
  have ha:=Ad.none h d n j S hfr
  refine ⟨_,ha,?_⟩
  simp only [Rel]at r
  simp only [ai]
  exact r.2.1
 | .sl e,M,p,j,x,S,vs,h,r,hS,hn,hfr=>by
  simp only [mq]
  obtain ⟨u,rfl⟩:∃ u,vs=[u]:=by simp only [Rel]at r;obtain ⟨v,_,_,_,rfl,_⟩:=r;exact ⟨v,rfl⟩
  have ha:=Ad.one (ob:=⟨.sl e,x⟩) h d n j (by simp only [mq]at hn;exact hn) hfr r hS
  refine ⟨_,ha,?_⟩
  simp only [ai,ap]
  refine ⟨⟨.sl e,x⟩,Option.none,m8 _ _ _,by simp only [gok],⟨⟨.sl e,x⟩,by simp only [get]⟩,?_⟩
  simp only [res,Ow.updL,if_true]
 | .mp e e',M,p,j,x,S,vs,h,r,hS,hn,hfr=>by
  simp only [mq]
  obtain ⟨u,rfl⟩:∃ u,vs=[u]:=by simp only [Rel]at r;obtain ⟨b,_,_,rfl,_⟩:=r;exact ⟨_,rfl⟩
  have ha:=Ad.one (ob:=⟨.mp e e',x⟩) h d n j (by simp only [mq]at hn;exact hn) hfr r hS
  refine ⟨_,ha,?_⟩
  simp only [ai,ap]
  refine ⟨⟨.mp e e',x⟩,Option.none,m8 _ _ _,by simp only [gok],⟨⟨.mp e e',x⟩,by simp only [get]⟩,?_⟩
  simp only [res,Ow.updL,if_true]
 | .pt o,M,p,j,x,S,vs,h,r,hS,hn,hfr=>by
  simp only [mq]
  obtain ⟨b,us,ty',S',rfl,_⟩:∃ b us ty' S',vs=[.pointer (some ⟨b,0,Option.none⟩)]/\S b/\w.heap[b]? = some (.cells (us:List Value).toArray ty' (0,0))/\(∀ c,S' c->S c/\c ≠ b)/\Rel (Imm F p M w) w o x S' us:=by
   simp only [Rel]at r;exact r
  have ha:=Ad.one (ob:=⟨.pt o,x⟩) h d n j (by simp only [mq]at hn;exact hn) hfr r hS
  refine ⟨_,ha,?_⟩
  simp only [ai,ap]
  refine ⟨_,rfl,⟨.pt o,x⟩,cellsOf w b 0 o.size,b,0,m8 _ _ _,by simp only [gok],⟨⟨o,x⟩,by simp only [get]⟩,rfl,?_,rfl⟩
  simp only [res,Ow.updL,if_true]
 | .p a b,M,p,j,x,S,vs,h,r,hS,hn,hfr=>by
  simp only [Rel]at r
  obtain ⟨va,vb,S1,S2,rfl,h1,h2,h3,ha,hb⟩:=r
  have hle:=aqc d b (mq d j a x.1).2.2 x.2
  simp only [mq]at hn
  obtain ⟨p1,a1,a2⟩:=ax7 d n a M p j x.1 S1 va h ha (fun c hc=>hS c (h1 c hc)) (Nat.le_trans hle.1 hn) hfr
  simp only [mq]
  generalize mq d j a x.1=q1 at a1 a2 hn hle ⊢
  obtain ⟨v1,N1,j1⟩:=q1
  simp only at a1 a2 hn hle ⊢
  obtain ⟨p2,b1,b2⟩:=ax7 d n b (ap N1 M) p1 j1 x.2 S2 vb a1.tr.hp (Rel.keep a1.tr.keep _ _ _ _ (fun _ _=>rfl) hb) (fun c hc=>(a1.L c).2 ⟨hS c (h2 c hc),fun hc1=>h3 c hc1 hc⟩) hn a1.fr
  generalize mq d j1 b x.2=q2 at b1 b2 ⊢
  obtain ⟨v2,N2,j2⟩:=q2
  simp only at b1 b2 ⊢
  have hc:=a1.two b1 h1 h2
  refine ⟨_,hc,?_⟩
  have hd:=Tr.drop b1.tr.hp (fun b=>p2.L b/\¬ S b) (fun b hb=>hb.1)
  rw [aso]
  simp only [ai]
  refine ⟨va,vb,rfl,?_,?_⟩
  ·have:=(b1.tr.trans hd).c _ _ a2
   simpa only [ap,V.evs]using this
  ·have:=hd.c _ _ b2
   simpa only [V.evs]using this
theorem aw1 (d n:Nat):(rs:List (Bool×O))->(M:Mem)->(p:Ow)->(j:Nat)->(x:js rs)->(S:Nat->Prop)->(us:List Value)->Hp F p M w->kg (Imm F p M w) w rs x S us->(∀ b,S b->p.L b)->(newL d j rs x).2.2<=n->(∀ i,j<=i->i < n->go M (cid d i)=none)->
  ∃ p',Ad F p M w d n j (newL d j rs x).2.2 S (newL d j rs x).2.1 p'/\cz p'.β (ap (newL d j rs x).2.1 M) (Imm F p' (ap (newL d j rs x).2.1 M) w) w (newL d j rs x).1 us
 | [],M,p,j,x,S,us,h,r,hS,hn,hfr=>by
  simp only [kg]at r
  simp only [newL,ap,cz]
  exact ⟨_,Ad.none h d n j S hfr,r⟩
 | q::rs,M,p,j,x,S,us,h,r,hS,hn,hfr=>by
  simp only [kg]at r
  obtain ⟨u,us',vs,S1,S2,rfl,g1,g2,h1,h2,h3,ha,hb⟩:=r
  have hle:=aqo d rs (mq d j q.2 x.1).2.2 x.2
  simp only [newL]at hn
  obtain ⟨p1,a1,a2⟩:=ax7 d n q.2 M p j x.1 S1 vs h ha (fun c hc=>hS c (h1 c hc)) (Nat.le_trans hle.1 hn) hfr
  simp only [newL]
  generalize mq d j q.2 x.1=q1 at a1 a2 hn hle ⊢
  obtain ⟨v1,N1,j1⟩:=q1
  simp only at a1 a2 hn hle ⊢
  have hbk:∀ (rs:List (Bool×O)) (x:js rs) (S:Nat->Prop) (us:List Value),kg (Imm F p M w) w rs x S us->kg (Imm F p1 (ap N1 M) w) w rs x S us:=by
   intro rs
   induction rs with
   | nil=>intro x S us r;simpa only [kg]using r
   | cons q rs ih=>
    intro x S us r
    simp only [kg]at r ⊢
    obtain ⟨u,us',vs,S1,S2,e1,e2,e3,e4,e5,e6,e7,e8⟩:=r
    exact ⟨u,us',vs,S1,S2,e1,e2,e3,e4,e5,e6,Rel.keep a1.tr.keep _ _ _ _ (fun _ _=>rfl) e7,ih _ _ _ e8⟩
  obtain ⟨p2,b1,b2⟩:=aw1 d n rs (ap N1 M) p1 j1 x.2 S2 us' a1.tr.hp (hbk _ _ _ _ hb) (fun c hc=>(a1.L c).2 ⟨hS c (h2 c hc),fun hc1=>h3 c hc1 hc⟩) hn a1.fr
  generalize newL d j1 rs x.2=q2 at b1 b2 ⊢
  obtain ⟨v2,N2,j2⟩:=q2
  simp only at b1 b2 ⊢
  have hc:=a1.two b1 h1 h2
  refine ⟨_,hc,?_⟩
  have hd:=Tr.drop b1.tr.hp (fun b=>p2.L b/\¬ S b) (fun b hb=>hb.1)
  rw [aso]
  simp only [cz]
  refine ⟨u,us',rfl,?_,?_⟩
  ·have h4:=(b1.tr.trans hd).c _ _ a2
   simp only [ap,V.evs]at h4
   cases hq:q.1 with
   | true=>simp only [ac1,cond_true,al];exact ⟨vs,g1 hq,h4⟩
   | false=>
    have:=g2 hq
    subst this
    simp only [ac1,cond_false]
    exact bq h4
  ·have hT:∀ (v:V) (us:List Value),cz p2.β (ap N2 (ap N1 M)) (Imm F p2 (ap N2 (ap N1 M)) w) w v us->cz p2.β (ap N2 (ap N1 M)) (Imm F ⟨p2.β,p2.σ,fun b=>p2.L b/\¬ S b⟩ (ap N2 (ap N1 M)) w) w v us:=fun v us r=>by
    have h5:al p2.β (ap N2 (ap N1 M)) (Imm F p2 (ap N2 (ap N1 M)) w) w (.tup v) (.tuple us.toArray):=by simp only [al];exact ⟨us,rfl,r⟩
    have h6:=hd.s _ _ h5
    simp only [V.evs,al,Value.tuple.injEq]at h6
    obtain ⟨us',e1,e2⟩:=h6
    have:us=us':=by simpa using congrArg Array.toList e1
    rw [this];exact e2
   exact hT _ _ b2
end
end Go.Bm
/- The gi machine:calls that write what they are handed. -/
namespace Go.Bm
open Go.RowKit
theorem bg3 (a b:V):∀ e:List Ev,(V.p a b).evs e=.p (a.evs e) (b.evs e)
 | []=>rfl
 | x::e=>by simp only [V.evs,V.ev];exact bg3 _ _ e
theorem bks (a:V):∀ e:List Ev,(V.ag a).evs e=.ag (a.evs e)
 | []=>rfl
 | x::e=>by simp only [V.evs,V.ev];exact bks _ e
theorem bgf (a:V):∀ e:List Ev,(V.tup a).evs e=.tup (a.evs e)
 | []=>rfl
 | x::e=>by simp only [V.evs,V.ev];exact bgf _ e
theorem bkt (j:Nat) (b:Bool) (P:Prop) (a:V):∀ e:List Ev,(V.gd j b P a).evs e=.gd j b P (a.evs e)
 | []=>rfl
 | x::e=>by simp only [V.evs,V.ev];exact bkt j b P _ e
theorem bin (f:FuncId) (a:V):∀ e:List Ev,(V.fn f a).evs e=.fn f (a.evs e)
 | []=>rfl
 | x::e=>by simp only [V.evs,V.ev];exact bin f _ e
theorem bey (t:TypeId) (a:V):∀ e:List Ev,(V.ifc t a).evs e=.ifc t (a.evs e)
 | []=>rfl
 | x::e=>by simp only [V.evs,V.ev];exact bey t _ e
theorem bkk (a:V):∀ e:List Ev,(V.bx a).evs e=.bx (a.evs e)
 | []=>rfl
 | x::e=>by simp only [V.evs,V.ev];exact bkk _ e
theorem bhh:∀ e:List Ev,V.u.evs e=.u
 | []=>rfl
 | x::e=>by simp only [V.evs,V.ev];exact bhh e
theorem ax3:∀ e:List Ev,V.any.evs e=.any
 | []=>rfl
 | x::e=>by simp only [V.evs,V.ev];exact ax3 e
theorem bje:∀ e:List Ev,V.nl.evs e=.nl
 | []=>rfl
 | x::e=>by simp only [V.evs,V.ev];exact bje e
theorem bih:∀ e:List Ev,V.np.evs e=.np
 | []=>rfl
 | x::e=>by simp only [V.evs,V.ev];exact bih e
theorem bnq (t:T) (y:t.den):∀ e:List Ev,(V.d t y).evs e=.d t y
 | []=>rfl
 | x::e=>by simp only [V.evs,V.ev];exact bnq t y e
section
variable {β β':Nat->Value} {M M':Mem} {Im Im':Nat->Prop} {w w':World}
theorem ai.evs {e:List Ev} (hk:jc Im Im' w w') (href:∀ k π vs,Ref β M w k π vs->ai β' M' Im' w' ((V.ref k π).evs e) vs) (had:∀ k π v,Adr β M w k π v->ai β' M' Im' w' ((V.ad k π).evs e) [v]) :
  (x:V)->(vs:List Value)->ai β M Im w x vs->ai β' M' Im' w' (x.evs e) vs
 | .p a b,vs,r=>by
  rw [bg3]
  simp only [ai]at r ⊢
  obtain ⟨va,vb,h1,h2,h3⟩:=r
  exact ⟨va,vb,h1,ai.evs hk href had a va h2,ai.evs hk href had b vb h3⟩
 | .u,vs,r=>by rw [bhh];simpa only [ai]using r
 | .ref k π,vs,r=>by simp only [ai]at r;exact href k π vs r
 | .ad k π,vs,r=>by simp only [ai]at r;obtain ⟨v,rfl,h⟩:=r;exact had k π v h
 | .d t x,vs,r=>by rw [bnq];simp only [ai]at r ⊢;exact aq.keep hk t x vs r
 | .nl,vs,r=>by rw [bje];simpa only [ai]using r
 | .np,vs,r=>by rw [bih];simpa only [ai]using r
 | .any,vs,r=>by rw [ax3];simpa only [ai]using r
 | .fn f v,vs,r=>by
  rw [bin]
  simp only [ai]at r ⊢
  obtain ⟨us,h1,h2⟩:=r
  exact ⟨us,h1,ai.evs hk href had v us h2⟩
 | .bx v,vs,r=>by
  rw [bkk]
  simp only [ai]at r ⊢
  obtain ⟨b,o,us,h1,h2,h3,h4⟩:=r
  exact ⟨b,o,us,h1,(hk b h2).1,h3.keep (hk b h2).2,ai.evs hk href had v us h4⟩
 | .ag _,vs,r=>by simp only [ai]at r
 | .tup _,vs,r=>by simp only [ai]at r
 | .gd _ _ _ _,vs,r=>by simp only [ai]at r
 | .ifc t v,vs,r=>by
  rw [bey]
  simp only [ai]at r ⊢
  obtain ⟨u,h1,h2⟩:=r
  exact ⟨u,h1,ai.evs hk href had v [u] h2⟩
mutual
theorem al.evs {e:List Ev} (hk:jc Im Im' w w') (href:∀ k π vs,Ref β M w k π vs->ai β' M' Im' w' ((V.ref k π).evs e) vs) (had:∀ k π v,Adr β M w k π v->ai β' M' Im' w' ((V.ad k π).evs e) [v]) :
  (x:V)->(v:Value)->al β M Im w x v->al β' M' Im' w' (x.evs e) v
 | .any,v,r=>by rw [ax3];simp only [al]
 | .ag x,v,r=>by
  rw [bks]
  simp only [al]at r ⊢
  obtain ⟨vs,h1,h2⟩:=r
  exact ⟨vs,h1,ai.evs hk href had x vs h2⟩
 | .tup x,v,r=>by
  rw [bgf]
  simp only [al]at r ⊢
  obtain ⟨vs,h1,h2⟩:=r
  exact ⟨vs,h1,cz.evs hk href had x vs h2⟩
 | .gd j b P x,v,r=>by
  rw [bkt]
  simp only [al]at r ⊢
  exact ⟨fun hp=>al.evs hk href had x v (r.1 hp),r.2⟩
 | .ifc t x,v,r=>by simp only [al]at r;exact bq (ai.evs hk href had _ _ r)
 | .p a b,v,r=>by simp only [al]at r;exact bq (ai.evs hk href had _ _ r)
 | .u,v,r=>by simp only [al]at r;exact bq (ai.evs hk href had _ _ r)
 | .ref k π,v,r=>by simp only [al]at r;exact bq (ai.evs hk href had _ _ r)
 | .ad k π,v,r=>by simp only [al]at r;exact bq (ai.evs hk href had _ _ r)
 | .d t x,v,r=>by simp only [al]at r;exact bq (ai.evs hk href had _ _ r)
 | .nl,v,r=>by simp only [al]at r;exact bq (ai.evs hk href had _ _ r)
 | .np,v,r=>by simp only [al]at r;exact bq (ai.evs hk href had _ _ r)
 | .fn f x,v,r=>by simp only [al]at r;exact bq (ai.evs hk href had _ _ r)
 | .bx x,v,r=>by simp only [al]at r;exact bq (ai.evs hk href had _ _ r)
theorem cz.evs {e:List Ev} (hk:jc Im Im' w w') (href:∀ k π vs,Ref β M w k π vs->ai β' M' Im' w' ((V.ref k π).evs e) vs) (had:∀ k π v,Adr β M w k π v->ai β' M' Im' w' ((V.ad k π).evs e) [v]) :
  (x:V)->(vs:List Value)->cz β M Im w x vs->cz β' M' Im' w' (x.evs e) vs
 | .p a b,vs,r=>by
  rw [bg3]
  simp only [cz]at r ⊢
  obtain ⟨u,us,h1,h2,h3⟩:=r
  exact ⟨u,us,h1,al.evs hk href had a u h2,cz.evs hk href had b us h3⟩
 | .u,vs,r=>by rw [bhh];simpa only [cz]using r
 | .any,vs,r=>by simp only [cz]at r
 | .ag x,vs,r=>by simp only [cz]at r
 | .tup x,vs,r=>by simp only [cz]at r
 | .gd j b P x,vs,r=>by simp only [cz]at r
 | .ifc t x,vs,r=>by simp only [cz]at r
 | .ref k π,vs,r=>by simp only [cz]at r
 | .ad k π,vs,r=>by simp only [cz]at r
 | .d t x,vs,r=>by simp only [cz]at r
 | .nl,vs,r=>by simp only [cz]at r
 | .np,vs,r=>by simp only [cz]at r
 | .fn f x,vs,r=>by simp only [cz]at r
 | .bx x,vs,r=>by simp only [cz]at r
end
end
section
variable {F:Fr} {p:Ow} {M:Mem} {w w':World}
structure Upd (F:Fr) (p:Ow) (M:Mem) (w w':World) (T S':Nat->Prop) (L:List Nat) (σ':Nat->Nat->Prop) (M0 M1:Mem) (e:List Ev):Prop where
 keys:∀ k,k ∈ L->∃ ob ob',go M k=some ob/\go M1 k=some ob'/\∀ Im':Nat->Prop,jc (Imm F p M w) Im' w w'->Rel Im' w' ob'.o ob'.x (σ' k) [p.β k]
 sub:∀ k,k ∈ L->∀ c,σ' k c->(p.σ k c/\¬ T c)\/S' c
 dis:∀ k k',k ∈ L->k' ∈ L->k ≠ k'->∀ c,σ' k c->¬ σ' k' c
 rest:∀ k,k ∉ L->go M1 k=go M0 k
 ref:∀ k π,(V.ref k π).evs e=if k ∈ L then (if ab4 π=true then .ref k π else .any)else .ref k π
 ad:∀ k,k ∉ L->∀ π,(V.ad k π).evs e=.ad k π
 adk:∀ k,k ∈ L->∀ π,(V.ad k π).evs e=.any\/((V.ad k π).evs e=.ad k π/\∃ ob ob' n,go M k=some ob/\go M1 k=some ob'/\qw π ob.o=some n/\qw π ob'.o=some n)
end
end Go.Bm
/- The gi machine:what a call leaves that writes a box. -/
namespace Go.Bm
open Go.RowKit
section
variable {F:Fr} {p:Ow} {M:Mem} {w w':World}
theorem bly (hp:Hp F p M w) (hL:∀ b,¬ p.L b) {k:Nat} {o:O} {x x':o.strip.den} (hk:go M k=some ⟨o,x⟩) {A S' R:Nat->Prop} (hA:∀ b,A b->Imm F p M w b) (hX:ExtS w w' (p.σ k))
  (hR:∀ b,R b->w.heap.size<=b/\b < w'.heap.size) (hS:∀ b,S' b->(p.σ k b\/w.heap.size<=b/\b < w'.heap.size)/\¬ R b)
  (hrel:Rel (fun b=>b < w'.heap.size/\(A b\/p.σ k b\/w.heap.size<=b)/\¬ S' b/\¬ R b) w' o x' S' [p.β k]) :
  ∃ p',Tr F p M w [.cut k o o] p' (put k ⟨o,x'⟩ M) w'/\(∀ b,p'.L b<->R b)/\(∀ b,(b < w'.heap.size/\(A b\/p.σ k b\/w.heap.size<=b)/\¬ S' b/\¬ R b)->Imm F p' (put k ⟨o,x'⟩ M) w' b):=by
 generalize hp':(⟨p.β,fun j=>if j=k then S' else p.σ j,R⟩:Ow)=p'
 have hβ:p'.β=p.β:=by rw [← hp']
 have hσ1:p'.σ k=S':=by rw [← hp'];simp
 have hσ2:∀ j,j ≠ k->p'.σ j=p.σ j:=fun j hj=>by rw [← hp'];simp [hj]
 have hL':∀ b,p'.L b<->R b:=by rw [← hp'];exact fun b=>Iff.rfl
 have hlk:=c8 hk
 have hg1:go (put k ⟨o,x'⟩ M) k=some ⟨o,x'⟩:=mf _ _ hlk
 have hg2:∀ j,j ≠ k->go (put k ⟨o,x'⟩ M) j=go M j:=fun j hj=>kv _ hj _
 have hlv:∀ j,er (put k ⟨o,x'⟩ M) j<->er M j:=fun j=>by
  by_cases hj:j=k
  ·subst hj;exact ⟨fun _=>hlk,fun _=>c8 hg1⟩
  ·unfold er;rw [hg2 j hj]
 have hR0:∀ b,R b->∀ j,er M j->¬ p.σ j b:=fun b hb j hj hs=>by
  have:=(hp.own j b hj hs).1;have:=(hR b hb).1;omega
 have hS0:∀ b,S' b->∀ j,j ≠ k->er M j->¬ p.σ j b:=fun b hb j hj hl hs=>by
  rcases (hS b hb).1 with h | h
  ·exact hp.sep k j b (Ne.symm hj) hlk hl h hs
  ·have:=(hp.own j b hl hs).1;omega
 have hkeep:jc (Imm F p M w) (Imm F p' (put k ⟨o,x'⟩ M) w') w w':=fun b hb=>by
  have hnT:¬ p.σ k b:=hb.2.2.2 k hlk
  refine ⟨⟨Nat.lt_of_lt_of_le hb.1 hX.size,hb.2.1,fun h=>?_,fun j hj=>?_⟩,hX.old b hb.1 hnT⟩
  ·have:=(hR b ((hL' b).1 h)).1;have:=hb.1;omega
  ·by_cases h:j=k
   ·subst h;rw [hσ1]
    intro hc
    rcases (hS b hc).1 with q | q
    ·exact hnT q
    ·have:=hb.1;omega
   ·rw [hσ2 j h];exact hb.2.2.2 j ((hlv j).1 hj)
 have hoth:∀ j,j ≠ k->er M j->∀ b,p.σ j b->w'.heap[b]? = w.heap[b]?:=fun j hj hl b hb=>hX.old b (hp.own j b hl hb).1 (fun h=>hp.sep k j b (Ne.symm hj) hlk hl h hb)
 have himm:∀ b,(b < w'.heap.size/\(A b\/p.σ k b\/w.heap.size<=b)/\¬ S' b/\¬ R b)->Imm F p' (put k ⟨o,x'⟩ M) w' b:=fun b ⟨b1,b2,b3,b4⟩=>by
  rcases b2 with h | h | h
  ·exact (hkeep b (hA b h)).1
  ·have hown:=hp.own k b hlk h
   refine ⟨b1,?_,fun h=>b4 ((hL' b).1 h),fun j hj=>?_⟩
   ·rcases hown.2 with ⟨_,h2⟩ | h2
    ·exact .inr (.inl h2)
    ·exact .inr (.inr h2)
   ·by_cases hjk:j=k
    ·subst hjk;rw [hσ1];exact b3
    ·rw [hσ2 j hjk];exact hp.sep k j b (Ne.symm hjk) hlk ((hlv j).1 hj) h
  ·refine ⟨b1,.inr (.inr (Nat.le_trans hp.size h)),fun h=>b4 ((hL' b).1 h),fun j hj=>?_⟩
   by_cases hjk:j=k
   ·subst hjk;rw [hσ1];exact b3
   ·rw [hσ2 j hjk];exact fun hs=>by have:=(hp.own j b ((hlv j).1 hj) hs).1;omega
 have href:∀ j π vs,Ref p.β M w j π vs->ai p'.β (put k ⟨o,x'⟩ M) (Imm F p' (put k ⟨o,x'⟩ M) w') w' (Ev.ref j π (.cut k o o)) vs:=fun j π vs r=>by
  simp only [Ev.ref,dv]
  by_cases h:j=k
  ·subst h
   rw [if_pos rfl]
   cases π with
   | nil=>
    simp only [ab4,cond_true,ai]
    obtain ⟨ob,pl0,k1,k2,k3,k4⟩:=r
    simp only [res,Option.some.injEq,Prod.mk.injEq]at k4
    obtain ⟨rfl,rfl⟩:=k4
    exact ⟨_,none,hg1,by simp only [gok],⟨_,by simp only [get];rfl⟩,by simp only [res,hβ]⟩
   | cons s ρ=>simp only [ab4,cond_false,ai];exact r.one hp
  ·rw [if_neg h];simp only [ai]
   exact r.same hp (hg2 j h) (by rw [hβ]) (hoth j h)
 have had:∀ j π v,Adr p.β M w j π v->ai p'.β (put k ⟨o,x'⟩ M) (Imm F p' (put k ⟨o,x'⟩ M) w') w' (Ev.ad j π (.cut k o o)) [v]:=fun j π v r=>by
  simp only [Ev.ad,dv]
  by_cases h:j=k
  ·subst h
   rw [if_pos rfl]
   cases hs:aag (qw π o) (qw π o)with
   | false=>simp only [cond_false,ai];intro u hu;rw [List.mem_singleton.1 hu];exact r.one
   | true=>
    obtain ⟨n,s1,_⟩:=ata hs
    simp only [cond_true,ai]
    refine ⟨v,rfl,?_⟩
    obtain ⟨o0,us0,b0,off0,k1,k2,k3,k4,k5,rfl⟩:=r
    rw [hk]at k1;cases k1
    obtain ⟨ρ1,o1,rfl,e1,f1⟩:=afx s1
    subst e1
    have hr:=hp.objs j _ hk
    simp only [Rel]at hr
    obtain ⟨bb,us1,ty',S1,r1,r2,r3,r4,r5⟩:=hr
    simp only [List.cons.injEq,and_true]at r1
    rw [r1]at k5
    simp only [res]at k5
    obtain ⟨_,_,us2,q3⟩:=ub w ρ1 o1 n f1 x (cellsOf w bb 0 o1.size) (some (bb,0))
    rw [q3]at k5
    simp only [Option.some.injEq,Prod.mk.injEq]at k5
    obtain ⟨q1,q2,us3,q3'⟩:=ub w' ρ1 o1 n f1 x' (cellsOf w' bb 0 o1.size) (some (bb,0))
    refine ⟨_,us3,b0,off0,hg1,by simpa only [gok]using q2,by simpa only [get]using q1,by simp only [dy],?_,rfl⟩
    rw [hβ,r1]
    simp only [res]
    rw [q3',k5.2]
  ·rw [if_neg h];simp only [ai]
   exact ⟨v,rfl,r.same hp (hg2 j h) (by rw [hβ]) (hoth j h)⟩
 refine ⟨p',Tr.one _ hkeep href had ⟨fun j ob hj=>?_,fun j j' b hne hj hj' hb=>?_,fun j b hj hb=>?_,fun b hb=>?_,hX.os.trans hp.os,hX.tape.trans hp.tape,hX.output.trans hp.output,Nat.le_trans hp.size hX.size,fun b hb hRR=>?_⟩,hL',himm⟩
 ·by_cases h:j=k
  ·subst h
   rw [hg1]at hj;cases hj
   rw [hβ,hσ1]
   exact Rel.keep (fun b hb=>⟨himm b hb,rfl⟩) _ _ _ _ (fun _ _=>rfl) hrel
  ·rw [hg2 j h]at hj
   rw [hβ,hσ2 j h]
   exact Rel.keep hkeep _ _ _ _ (hoth j h (c8 hj)) (hp.objs j ob hj)
 ·have hj1:=(hlv j).1 hj
  have hj2:=(hlv j').1 hj'
  by_cases h:j=k
  ·subst h
   rw [hσ1]at hb
   rw [hσ2 j' (Ne.symm hne)]
   exact hS0 b hb j' (Ne.symm hne) hj2
  ·rw [hσ2 j h]at hb
   by_cases h':j'=k
   ·subst h';rw [hσ1];exact fun hc=>hS0 b hc j h hj1 hb
   ·rw [hσ2 j' h'];exact hp.sep j j' b hne hj1 hj2 hb
 ·have hj1:=(hlv j).1 hj
  by_cases h:j=k
  ·subst h
   rw [hσ1]at hb
   rcases (hS b hb).1 with q | q
   ·have:=hp.own j b hj1 q
    exact ⟨Nat.lt_of_lt_of_le this.1 hX.size,this.2⟩
   ·exact ⟨q.2,.inr (Nat.le_trans hp.size q.1)⟩
  ·rw [hσ2 j h]at hb
   have:=hp.own j b hj1 hb
   exact ⟨Nat.lt_of_lt_of_le this.1 hX.size,this.2⟩
 ·have hb:=(hL' b).1 hb
  refine ⟨(hR b hb).2,Nat.le_trans hp.size (hR b hb).1,fun j hj=>?_⟩
  by_cases h:j=k
  ·subst h;rw [hσ1];exact fun hs=>(hS b hs).2 hb
  ·rw [hσ2 j h];exact hR0 b hb j ((hlv j).1 hj)
 ·rw [hX.old b (Nat.lt_of_lt_of_le hb hp.size) (fun ht=>?_)]
  ·exact hp.old b hb hRR
  ·rcases (hp.own k b hlk ht).2 with ⟨_,a2⟩ | a1
   ·exact hRR a2
   ·omega
end
end Go.Bm
/- The gi machine:maps. -/
namespace Go.Bm
open Go.RowKit
section
variable {F:Fr} {p p' p'':Ow} {env:Env} {M M' M'':Mem} {a:Act} {w w' w'':World} {P:Program} {B:Tab}
structure KeyR (P:Program) (kty:TypeId) (k:T):Prop where
 check:∀ (w:World) (e:Bool) (x:k.den),k.ok x->(Instr.checkKey e 10000 kty (ak3 k x)).run P w=.ok () w
 find:∀ (w:World) (v:T) (x:k.den),k.ok x->∀ (es:List MapEntry) (l:List (k.den×v.den)),(∀ y ∈ l,k.ok y.1)->es.map (fun e=>(e.key,e.val))=l.map (fun y=>(ak3 k y.1,ak3 v y.2))->
  ((Instr.findKey kty (ak3 k x) es).run P w=.ok none w/\bi8 k v l x=none/\∀ z,bhi k v l x z=l++[(x,z)])\/
  ∃ j y,(Instr.findKey kty (ak3 k x) es).run P w=.ok (some (j,ak3 v y)) w/\l[j]? = some (x,y)/\bi8 k v l x=some y/\∀ z,bhi k v l x z=l.set j (x,z)
 same:∀ (x:k.den),Instr.sameBits 10000 (ak3 k x) (ak3 k x)=true
theorem bjl (hB:TabOk P B) (hp:Hp F p M w) {t:TypeId} (x i:V) (u iu:Value) (ok:Bool) (hx:al p.β M (Imm F p M w) w x u) (hi:al p.β M (Imm F p M w) w i iu) (hv:ae (bbg B t M x i ok).1) :
  ∃ r,(Instr.lookup t u iu ok).run P w=.ok r w/\al p.β M (Imm F p M w) w (bbg B t M x i ok).2 r:=by
 have h:False/\True:=hv
 exact h.1.elim
theorem bg2 (hB:TabOk P B) (h:Hp F p M w) (hL:∀ b,¬ p.L b) {t:TypeId} (dst:Option Nat) (hv:ae (axw B t dst M).vc) (qt:Bool) :
  ∃ v w',(Instr.makeMap t none).run P w=.ok v w'/\ij F p M w qt (axw B t dst M) v w':=by
 have h:False/\True:=hv
 exact h.1.elim
theorem bhq (hB:TabOk P B) (h:Hp F p M w) (hL:∀ b,¬ p.L b) {t:TypeId} (m i x:V) (u iu xu:Value) (hm:al p.β M (Imm F p M w) w m u) (hi:al p.β M (Imm F p M w) w i iu) (hx:al p.β M (Imm F p M w) w x xu) (hv:ae (axr B t m i x M).vc) :
  ∃ w',(Instr.mapUpdate t u iu xu).run P w=.ok () w'/\ij F p M w false (axr B t m i x M) undef w':=by
 have h:False/\True:=hv
 exact h.1.elim
end
end Go.Bm
/- The gi machine:interfaces. -/
namespace Go.Bm
open Go.RowKit
variable {P:Program} {B:Tab} {F:Fr} {p:Ow} {M:Mem} {w:World}
theorem bb3:∀ {l:List Mth} {t:TypeId} {n:String} {f:FuncId},awf P l=true->aub l t n=some f->∃ inf,P.info? t=some inf/\aw8 (P.underlying t)=true/\isM f (inf.methods.find? (·.name == n))=true
 | [],_,_,_,_,h=>by cases h
 | e::r,t,n,f,ha,h=>by
  simp only [awf,bc,Bool.and_eq_true]at ha
  unfold aub at h
  cases hc:nob (Nat.beq e.t t) (e.name == n)with
  | true=>
   rw [hc]at h
   cases h
   simp only [bc,Bool.and_eq_true]at hc
   have e1:e.t=t:=Nat.eq_of_beq_eq_true hc.1
   have e2:e.name=n:=by simpa using hc.2
   subst e1;subst e2
   have hm:=ha.1
   unfold bno at hm
   split at hm
   ·rename_i inf hi
    simp only [br,b8,Bool.and_true,Bool.and_eq_true]at hm
    exact ⟨inf,hi,hm.1,hm.2.2⟩
   ·cases hm
  | false=>rw [hc]at h;exact bb3 ha.2 h
theorem bj9 {l:List Mth} {t:TypeId} {n:String} {f:FuncId} (ha:awf P l=true) (h:aub l t n=some f) (k:Nat) (v:Value):(method (k+1) t v n).run P w=.ok (f,v) w:=by
 obtain ⟨inf,h1,h2,h3⟩:=bb3 ha h
 unfold isM at h3
 split at h3
 ·rename_i m hm
  split at h3
  ·rename_i g b hp hf
   simp only [bc,Bool.and_eq_true,ro,Bool.not_eq_true']at h3
   have e:f=g:=Nat.eq_of_beq_eq_true h3.1
   subst e
   cases hu:P.underlying t with
   | none=>rw [hu]at h2;cases h2
   | some d=>
    rw [hu]at h2
    cases d <;> simp only [aw8,Bool.false_eq_true]at h2
    have hpe:m.path.toList=[]:=by rw [← ge];exact hp
    simp [method,run_typeInfo w h1,hm,hpe,follow,hf,h3.2,receiverAt,run_underlying hu,Place.get]
  ·cases h3
 ·cases h3
theorem bpy {x v:V} {t:TypeId} {u:Value} {β:Nat->Value} {Im:Nat->Prop} (hx:al β M Im w x u) (h:inI x=some (t,v)):∃ y,u=.iface t y/\ai β M Im w v [y]:=by
 unfold inI at h
 split at h
 ·cases h
  simp only [al,ai]at hx
  obtain ⟨y,h1,h2⟩:=hx
  exact ⟨y,by simpa using h1,h2⟩
 ·cases h
  rw [bw]at hx
  simp only [aq]at hx
  obtain ⟨y,h1,h2⟩:=hx
  exact ⟨y,by simpa using h1,sm _ _ _ h2⟩
 ·cases h
theorem bmu (hB:TabOk P B) (hp:Hp F p M w) {t:TypeId} (x:V) (u:Value) (hx:al p.β M (Imm F p M w) w x u) (hv:ae (bha B t M x).1) :
  ∃ r,(Instr.makeInterface t u).run P w=.ok r w/\al p.β M (Imm F p M w) w (bha B t M x).2 r:=by
 have h:False/\True:=hv
 exact h.1.elim
theorem bmi (hB:TabOk P B) {i xt:TypeId} (ok:Bool) (x:V) (u:Value) {β:Nat->Value} {Im:Nat->Prop} (hx:al β M Im w x u) (hv:ae (bh9 B i ok x).1) :
  ∃ r,(Instr.typeAssert u xt i ok).run P w=.ok r w/\al β M Im w (bh9 B i ok x).2 r:=by
 have h:False/\True:=hv
 exact h.1.elim
end Go.Bm
/- The gi machine:every operation is sound. -/
namespace Go.Bm
open Go.RowKit
section
variable {F:Fr} {p p' p'':Ow} {env:Env} {M M' M'':Mem} {a:Act} {w w' w'':World} {P:Program} {B:Tab}
theorem avh {o:Oper} {K:Act->World->Prop} {Q:Exit->Act->World->Prop} {v:Value} {w':World} (h:(execOp a.eval o).run P w=.ok (.value v) w') (hk:K (a.put o.dst v) w'):o.wp P a w K Q:=by
 unfold Oper.wp;rw [h];exact hk
theorem bcg {o:Oper} {K:Act->World->Prop} {Q:Exit->Act->World->Prop} {w':World} (h:(execOp a.eval o).run P w=.ok .skip w') (hk:K (a.put o.dst undef) w'):o.wp P a w K Q:=by
 unfold Oper.wp;rw [h];exact hk
theorem bky {Im:Nat->Prop} {t:T} {l:List t.den} {oa:Option Addr} {cap lo hi:Nat} (h:aq Im w (.sl t) l [.slice oa l.length cap]) (h1:lo<=hi) (h2:hi<=l.length) :
  aq Im w (.sl t) ((l.take hi).drop lo) [sliced oa lo hi cap t.size]:=by
 have hlen:((l.take hi).drop lo).length=hi - lo:=by rw [List.length_drop,List.length_take];omega
 simp only [aq,List.cons.injEq,and_true,Value.slice.injEq]at h ⊢
 obtain ⟨oa',cap',⟨rfl,_,rfl⟩,⟨g1,g2⟩,g3,g4⟩:=h
 refine ⟨if cap=lo then oa else oa.map (·.add (lo * t.size)),cap - lo,by simp only [sliced,hlen],⟨by omega,by omega⟩,fun hn=>?_,fun ad had hpos=>?_⟩
 ·have:oa=none:=by
   split at hn
   ·exact hn
   ·cases oa with
    | none=>rfl
    | some _=>cases hn
  obtain ⟨e1,e2⟩:=g3 this
  omega
 ·have hne:cap ≠ lo:=by omega
  rw [if_neg hne]at had
  cases oa with
  | none=>cases had
  | some ad0=>
   simp only [Option.map_some,Option.some.injEq]at had
   obtain ⟨k1,k2,k3⟩:=g4 ad0 rfl (by omega)
   obtain ⟨b,o,s⟩:=ad0
   simp only at k1 k2 k3
   subst k1
   rw [Addr.add_lit]at had
   subst had
   refine ⟨rfl,k2,fun i x hx=>?_⟩
   rw [List.getElem?_drop,List.getElem?_take]at hx
   split at hx
   ·obtain ⟨us,u1,u2⟩:=k3 (lo+i) x hx
    refine ⟨us,?_,u2⟩
    rw [Nat.add_mul,← Nat.add_assoc]at u1
    exact u1
   ·cases hx
theorem tn1 {n:Int} {m:Nat} (h:n<=m):n.toNat<=m:=by omega
theorem tn2 {a b:Int} (h:a<=b):a.toNat<=b.toNat:=by omega
theorem bfd (hB:TabOk P B) {t:TypeId} {x0:Operand} {lo0 hi0:Option Operand} (x:V) (f:Operand->V) (hx:al p.β M (Imm F p M w) w x (a.eval x0)) (hlo:∀ y,lo0=some y->al p.β M (Imm F p M w) w (f y) (a.eval y)) (hhi:∀ y,hi0=some y->al p.β M (Imm F p M w) w (f y) (a.eval y))
  (hv:ae (bc0 B (B.τ t) x (xq f lo0) (xq f hi0)).1):∃ r,(Instr.sliceAt t (a.eval x0) (lo0.map a.eval) (hi0.map a.eval) none).run P w=.ok r w/\al p.β M (Imm F p M w) w (bc0 B (B.τ t) x (xq f lo0) (xq f hi0)).2 r:=by
 unfold bc0 at hv ⊢
 split at hv
 ·rename_i te l e he
  have hk:=lw hv
  simp only [hk,cond_true]at hv ⊢
  simp only [br,b8,Bool.and_true,Bool.and_eq_true,iv,beq_iff_eq]at hk
  obtain ⟨k1,k2,k3⟩:=hk
  have eτ:=hB.τ t k1
  have eτ':=hB.τ e k2
  rw [← eτ]at k1 he
  rw [← eτ']at k2 k3
  obtain ⟨inf,u,hi,hu⟩:=ja k1
  obtain ⟨infe,ue,hie,hue⟩:=ja k2
  rw [lk hi hu]at he
  rw [lk hie hue]at k3
  simp only [tx]at he k3
  cases u <;> simp at he
  obtain rfl:=he.symm
  rw [bw]at hx
  have hx0:=hx
  simp only [aq,List.cons.injEq,and_true]at hx
  obtain ⟨oa,cap,hsl,⟨hn,hcap⟩,_⟩:=hx
  rw [hsl]at hx0
  have hel:P.elem t=e:=by simp [Program.elem,hu]
  have hu':P.underlying t=some (.slice (P.elem t)):=by rw [hel];exact hu
  have hsz:(sizeOf (P.elem t)).run P w=.ok infe.size w:=by rw [hel];simp [sizeOf,typeInfo,hie]
  have fin:∀ (lo hi:Nat) (lv hv:Option Value),lo<=hi->hi<=l.length->(Instr.slice t (.slice oa l.length cap) lv hv none).run P w=((sizeOf (P.elem t)).run P w).andThen (fun s w=>.ok (sliced oa lo hi cap s) w)->∀ z,z=(l.take hi).drop lo->
    ∃ r,(Instr.sliceAt t (a.eval x0) lv hv none).run P w=.ok r w/\al p.β M (Imm F p M w) w (.d (.sl te) z) r:=fun lo hi lv hv h1 h2 hrun z hz=>by
   refine ⟨sliced oa lo hi cap infe.size,?_,?_⟩
   ·rw [run_sliceAt_slice w t _ _ _ _ hu',hsl,hrun,hsz];rfl
   ·rw [bw,hz,← k3];exact bky hx0 h1 h2
  cases lo0 with
  | none=>
   cases hi0 with
   | none=>exact fin 0 l.length none none (Nat.zero_le _) (Nat.le_refl _) (run_slice_all w t oa l.length cap hu') l (by simp)
   | some yh=>
    have h2:=hhi yh rfl
    simp only [xq]at hv ⊢
    split at hv
    ·rename_i heq;cases heq
    ·rename_i heq;cases heq
    ·rename_i kb b e1 e2
     simp only [Option.some.injEq]at e2
     rw [e2,bw,gm]at h2
     simp only [d6,fh,and_true]at hv
     simp only [e2]
     have hb2:(b:Int)<=(l.length:Int):=hv.2
     refine fin 0 b.toNat none (some (a.eval yh)) (Nat.zero_le _) ?_ (by rw [h2.1];exact run_slice_h w t oa l.length cap hu' kb b hv.1 (Int.le_trans hb2 (Int.ofNat_le.2 hcap))) _ (by simp)
     exact tn1 hb2
    ·rename_i heq _;cases heq
    ·exact hv.1.elim
  | some yl=>
   have h1:=hlo yl rfl
   cases hi0 with
   | none=>
    simp only [xq]at hv ⊢
    split at hv
    ·rename_i heq _;cases heq
    ·rename_i ka b e1 e2
     simp only [Option.some.injEq]at e1
     rw [e1,bw,gm]at h1
     simp only [d6,fh,and_true]at hv
     simp only [e1]
     have hb2:(b:Int)<=(l.length:Int):=hv.2
     refine fin b.toNat l.length (some (a.eval yl)) none ?_ (Nat.le_refl _) (by rw [h1.1];exact run_slice_l w t oa l.length cap hu' ka b hv.1 hb2) _ (by simp)
     exact tn1 hb2
    ·rename_i heq _;cases heq
    ·rename_i heq;cases heq
    ·exact hv.1.elim
   | some yh=>
    have h2:=hhi yh rfl
    simp only [xq]at hv ⊢
    split at hv
    ·rename_i heq _;cases heq
    ·rename_i heq;cases heq
    ·rename_i heq _;cases heq
    ·rename_i ka b kb c e1 e2
     simp only [Option.some.injEq]at e1 e2
     rw [e1,bw,gm]at h1
     rw [e2,bw,gm]at h2
     simp only [d6,fh,and_true]at hv
     simp only [e1,e2]
     obtain ⟨v1,v2,v3⟩:=hv
     have hb2:(b:Int)<=c:=v2
     have hb3:(c:Int)<=(l.length:Int):=v3
     refine fin b.toNat c.toNat (some (a.eval yl)) (some (a.eval yh)) ?_ ?_ (by rw [h1.1,h2.1];exact run_slice_lh w t oa l.length cap hu' ka kb b c v1 v2 (Int.le_trans hb3 (Int.ofNat_le.2 hcap))) _ rfl
     ·exact tn2 hb2
     ·exact tn1 hb3
    ·exact hv.1.elim
 ·exact hv.1.elim
theorem axn:(vs:List V)->(M:Mem)->Hp F p M w->Tr F p M w (qg M vs).1 p (qg M vs).2 w
 | [],M,h=>by simp only [qg];exact Tr.refl h
 | v::r,M,h=>by
  simp only [qg]
  have h1:=xm v M h
  exact h1.trans (axn r _ h1.hp)
theorem bfn:(vs:List V)->(M:Mem)->((qg M vs).1=[]/\(qg M vs).2=M)\/∃ x r,(qg M vs).1=x::r/\fresh M [x]=false
 | [],M=>.inl ⟨rfl,rfl⟩
 | v::r,M=>by
  simp only [qg]
  rcases zj v M with ⟨h1,h2⟩ | ⟨x,e,h1,h2⟩
  ·rw [h1,h2];simp only [ap];exact bfn r M
  ·exact .inr ⟨x,_,by rw [h1];rfl,h2⟩
theorem bbx:(ks:List Nat)->(M:Mem)->Hp F p M w->Tr F p M w (klL ks) p (rp ks M) w
 | [],M,h=>by simp only [klL,rp];exact Tr.refl h
 | k::r,M,h=>by
  simp only [klL,rp]
  have h1:=Tr.kl h k
  exact h1.trans (bbx r _ h1.hp)
theorem aqg:(ks:List Nat)->(M:Mem)->(k:Nat)->(k ∈ ks\/go M k=none->go (rp ks M) k=none)/\(k ∉ ks->go (rp ks M) k=go M k)
 | [],M,k=>⟨fun h=>Or.elim h (fun h=>by cases h) (fun h=>h),fun _=>rfl⟩
 | i::r,M,k=>by
  simp only [rp]
  obtain ⟨h1,h2⟩:=aqg r (del i M) k
  refine ⟨fun h=>h1 ?_,fun h=>?_⟩
  ·rcases h with h | h
   ·rcases List.mem_cons.1 h with rfl | h
    ·exact .inr (fp k M)
    ·exact .inl h
   ·by_cases e:k=i
    ·subst e;exact .inr (fp k M)
    ·exact .inr (by rw [fo e];exact h)
  ·simp only [List.mem_cons,not_or]at h
   rw [h2 h.2,fo h.1]
theorem azb:(ks:List Nat)->fresh M (klL ks)=true->∀ k ∈ ks,go M k=none
 | [],_,k,hk=>by cases hk
 | i::r,h,k,hk=>by
  obtain ⟨h1,h2⟩:=asb h
  rcases List.mem_cons.1 hk with rfl | hk
  ·exact h1
  ·exact azb r h2 k hk
theorem kg.keep {Im Im':Nat->Prop} (hk:∀ b,Im b->Im' b):(rs:List (Bool×O))->(x:js rs)->(S:Nat->Prop)->(us:List Value)->kg Im w rs x S us->kg Im' w rs x S us
 | [],x,S,us,r=>by simpa only [kg]using r
 | q::rs,x,S,us,r=>by
  simp only [kg]at r ⊢
  obtain ⟨u,us',vs,S1,S2,e1,e2,e3,e4,e5,e6,e7,e8⟩:=r
  exact ⟨u,us',vs,S1,S2,e1,e2,e3,e4,e5,e6,Rel.keep (fun b hb=>⟨hk b hb,rfl⟩) _ _ _ _ (fun _ _=>rfl) e7,kg.keep hk rs _ _ _ e8⟩
theorem bek {β:Nat->Value} {Im:Nat->Prop} (rs:List (Bool×O)) (v:V) (us:List Value) (hl:us.length=rs.length) (r:cz β M Im w v us):al β M Im w (ap0 rs v) (xn us):=by
 match rs,us,hl with
 | [],[],_=>simp only [ap0,xn,al];exact ⟨[],rfl,r⟩
 | [q],[u],_=>
  cases v with
  | p a b=>
   simp only [cz]at r
   obtain ⟨u',us',e,h1,h2⟩:=r
   simp only [List.cons.injEq]at e
   obtain ⟨rfl,_⟩:=e
   simp only [ap0,xn];exact h1
  | u=>simp only [cz]at r;cases r
  | _=>simp only [cz]at r
 | q::q'::rs,u::u'::us,_=>
  simp only [ap0,xn,al]
  exact ⟨_,rfl,r⟩
theorem ar2 {Im:Nat->Prop}:(rs:List (Bool×O))->(x:js rs)->(S:Nat->Prop)->(us:List Value)->kg Im w rs x S us->us.length=rs.length
 | [],x,S,us,r=>by simp only [kg]at r;rw [r];rfl
 | q::rs,x,S,us,r=>by
  simp only [kg]at r
  obtain ⟨u,us',vs,S1,S2,rfl,_,_,_,_,_,_,e8⟩:=r
  simp [ar2 rs _ _ _ e8]
theorem bem (h:Hp F p M w) (hL:∀ b,¬ p.L b) (ct:Ct) (d:Nat) (x:bi ct.args) {A:Nat->Prop} (hA:ct.sh=true->∀ b,A b->Imm F p M w b) {rs:List Value} {S:Nat->Prop}
  (he:Ext w w') (hS:∀ b,S b->w.heap.size<=b/\b < w'.heap.size) (hr:kg (fun b=>b < w'.heap.size/\(ct.sh=true/\A b\/w.heap.size<=b)/\¬ S b) w' ct.rt (ct.res x) S rs) {N:Mem} {v:V} {j':Nat} (hN:newL d 0 ct.rt (ct.res x)=(v,N,j')) :
  ∃ p',Tr F p M w (klL (cj N)) p' (ap N (rp (cj N) M)) w'/\(∀ b,¬ p'.L b)/\al p'.β (ap N (rp (cj N) M)) (Imm F p' (ap N (rp (cj N) M)) w') w' (ap0 ct.rt v) (xn rs)/\
   (fresh M (klL (cj N))=true->Qt p M p' (ap N (rp (cj N) M)) w w'):=by
 have h1:=bbx (cj N) M h
 have h2:=Tr.grow h1.hp hL he S hS
 have hkeep:∀ b,(fun b=>b < w'.heap.size/\(ct.sh=true/\A b\/w.heap.size<=b)/\¬ S b) b->Imm F ⟨p.β,p.σ,S⟩ (rp (cj N) M) w' b:=fun b ⟨b1,b2,b3⟩=>by
  rcases b2 with ⟨b2,b4⟩ | b2
  ·have:=hA b2 b b4
   exact ⟨b1,this.2.1,b3,(h1.keep b this).1.2.2.2⟩
  ·refine ⟨b1,.inr (.inr (Nat.le_trans h.size b2)),b3,fun k hk hs=>?_⟩
   have:=(h1.hp.own k b hk hs).1;omega
 obtain ⟨hle,hkeys⟩:=aqo d ct.rt 0 (ct.res x)
 have hnew:=aw1 (F:=F) (w:=w') d j' ct.rt (rp (cj N) M) ⟨p.β,p.σ,S⟩ 0 (ct.res x) S rs h2.hp (kg.keep hkeep _ _ _ _ hr) (fun b hb=>hb)
 rw [hN]at hnew hle hkeys
 simp only at hnew hle hkeys
 obtain ⟨p2,a1,a2⟩:=hnew (Nat.le_refl _) (fun i hi hij=>(aqg (cj N) M _).1 (.inl (hkeys i hi hij)))
 have h3:=Tr.drop a1.tr.hp (fun _=>False) (fun b hb=>hb.elim)
 refine ⟨⟨p2.β,p2.σ,fun _=>False⟩,?_,fun b hb=>hb,?_,fun hf=>⟨he,fun j ob hj=>?_⟩⟩
 ·have h4:=h1.trans (h2.trans (a1.tr.trans h3))
  simpa only [ap,ap3]using h4
 ·have h5:=h3.s _ _ (bek ct.rt v rs (ar2 _ _ _ _ hr) a2)
  simpa only [V.evs]using h5
 ·have hn:j ∉ cj N:=fun hk=>by have:=azb _ hf j hk;rw [this]at hj;cases hj
  have:=a1.old j ob (by rw [(aqg (cj N) M j).2 hn];exact hj)
  exact this
theorem aod (f:Operand->V):∀ (l:List Operand) (i:Nat),(sk f l)[i]? = (l[i]?).map f
 | [],i=>by simp [sk]
 | x::l,0=>by simp [sk]
 | x::l,i+1=>by simp only [sk,List.getElem?_cons_succ];exact aod f l i
theorem anf (f:Operand->V):∀ l:List Operand,(sk f l).length=l.length
 | []=>rfl
 | x::l=>by simp [sk,anf f l]
variable {Φ:FuncId->Option Ct}
theorem bo7 {v c:V} {u:Value} {f:FuncId} (h:al p.β M (Imm F p M w) w v u) (hf:an8 v=some (f,c)):∃ us:List Value,u=.func (.func f) #[] us.toArray/\ai p.β M (Imm F p M w) w c us:=by
 unfold an8 at hf
 split at hf
 ·cases hf
  simp only [al,ai]at h
  obtain ⟨us,e,h1⟩:=h
  exact ⟨us,by simpa using e,h1⟩
 ·cases hf
  simp only [al,ai,aq]at h
  obtain ⟨us,e,h2⟩:=h
  exact ⟨us,by simpa using e,sm _ _ _ h2⟩
 ·cases hf
theorem bfv (hp:Hp F p M w):(c:V)->(us:List Value)->(cs:List V)->ai p.β M (Imm F p M w) w c us->rq M c=some cs->us.length=cs.length/\∀ (i:Nat) v u,cs[i]? = some v->us[i]? = some u->al p.β M (Imm F p M w) w v u
 | .u,us,cs,r,h=>by
  simp only [rq,Option.some.injEq]at h
  simp only [ai]at r
  subst h;subst r
  exact ⟨rfl,fun i v u hv=>by simp at hv⟩
 | .p a b,us,cs,r,h=>by
  simp only [rq]at h
  simp only [ai]at r
  obtain ⟨va,vb,rfl,r1,r2⟩:=r
  cases hb:rq M b with
  | none=>rw [hb]at h;cases h
  | some rs=>
   rw [hb]at h
   cases hs:l8 M a 1 with
   | false=>simp only [hs]at h;cases h
   | true=>
    simp only [hs,cond_true,Option.some.injEq]at h
    subst h
    have hl:=xp hp a va 1 r1 (oq hs)
    obtain ⟨k1,k2⟩:=bfv hp b vb rs r2 hb
    match va,hl with
    | [u0],_=>
     refine ⟨by simp [k1],fun i v u hv hu=>?_⟩
     cases i with
     | zero=>simp only [List.getElem?_cons_zero,List.cons_append,Option.some.injEq]at hv hu;subst hv;subst hu;exact bq r1
     | succ i=>exact k2 i v u (by simpa using hv) (by simpa using hu)
 | .any,_,_,_,h=>by simp [rq]at h
 | .nl,_,_,_,h=>by simp [rq]at h
 | .np,_,_,_,h=>by simp [rq]at h
 | .d _ _,_,_,_,h=>by simp [rq]at h
 | .ref _ _,_,_,_,h=>by simp [rq]at h
 | .ad _ _,_,_,_,h=>by simp [rq]at h
 | .ag _,_,_,_,h=>by simp [rq]at h
 | .tup _,_,_,_,h=>by simp [rq]at h
 | .gd _ _ _ _,_,_,_,h=>by simp [rq]at h
 | .fn _ _,_,_,_,h=>by simp [rq]at h
 | .ifc _ _,_,_,_,h=>by simp [rq]at h
 | .bx _,_,_,_,h=>by simp [rq]at h
theorem be0 (hp:Hp F p M w):(vs:List V)->(us:List Value)->(c:V)->us.length=vs.length->(∀ (i:Nat) v u,vs[i]? = some v->us[i]? = some u->al p.β M (Imm F p M w) w v u)->awm M vs=some c->ai p.β M (Imm F p M w) w c us
 | [],us,c,hl,_,h=>by
  simp only [awm,Option.some.injEq]at h
  subst h
  simp only [ai];exact List.eq_nil_of_length_eq_zero hl
 | v::vs,us,c,hl,hr,h=>by
  simp only [awm]at h
  cases hc:awm M vs with
  | none=>rw [hc]at h;cases h
  | some c'=>
   rw [hc]at h
   cases hk:nob (neg (ac9 v)) (l8 M v 1)with
   | false=>simp only [hk]at h;cases h
   | true=>
    simp only [hk,cond_true,Option.some.injEq]at h
    subst h
    simp only [bc,Bool.and_eq_true,ro,Bool.not_eq_true']at hk
    match us,hl with
    | u::us,hl=>
     have h0:=hr 0 v u rfl rfl
     have ih:=be0 hp vs us c' (by simpa using hl) (fun i v u hv hu=>hr (i+1) v u (by simpa using hv) (by simpa using hu)) hc
     have hcv:nr v=true:=by
      have hs:=oq hk.2
      cases v <;> first | rfl | (simp [V.size]at hs;done) | (simp [ac9]at hk;done)
     obtain ⟨vs1,_,a2,a3⟩:=asu hp h0 hcv
     have e:=a2 hk.1
     subst e
     have hcells:v.cells=v:=by cases v <;> first | rfl | (simp [ac9]at hk;done)
     rw [hcells]at a3
     simp only [ai]
     exact ⟨[u],us,rfl,a3,ih⟩
theorem bjc (h:Hp F p M w) {f:FuncId} {m:Mt} (hm:MtOk P f m) (vs:List V) (us:List Value) (hlen:us.length=vs.length) (hrel:∀ (i:Nat) v u,vs[i]? = some v->us[i]? = some u->al p.β M (Imm F p M w) w v u)
  {o:Oper} (hr:(execOp a.eval o).run P w=.ok (.enter f us.toArray) w) (hv:ae (bd5 m vs M).vc) (qt:Bool) (Q:Exit->Act->World->Prop):o.wp P a w (fun a' w'=>∃ v,a'=a.put o.dst v/\ij F p M w qt (bd5 m vs M) v w') Q:=by
 have h:False/\True:=hv
 exact h.1.elim
theorem bfr {π:b9} (h:bds π=true):π=[.de]:=by
 unfold bds at h
 split at h
 ·rfl
 ·cases h
theorem av1 {v:V} {k:Nat} (h:an2 v=some k):v=.ad k [.de]\/v=.ref k []:=by
 unfold an2 at h
 split at h
 ·rename_i j π
  cases hd:bds π with
  | false=>rw [hd]at h;cases h
  | true=>rw [hd]at h;simp only [cond_true,Option.some.injEq]at h;rw [h,bfr hd];exact .inl rfl
 ·rename_i j π
  cases π with
  | nil=>simp only [bhn,cond_true,Option.some.injEq]at h;rw [h];exact .inr rfl
  | cons _ _=>simp [bhn]at h
 ·cases h
theorem bia {v:V} {k:Nat} (h:an2 v=some k):∃ π,v=.ad k π\/v=.ref k π:=by
 rcases av1 h with h | h
 ·exact ⟨_,.inl h⟩
 ·exact ⟨_,.inr h⟩
theorem bim (k:Nat) (v0:V) (h0:∃ π,v0=.ad k π\/v0=.ref k π):∀ (v:V) (M:Mem),er (cf M v).2 k->v0.evs (cf M v).1=v0/\er M k:=by
 have one:∀ (j:Nat) (M:Mem) (ob:Ob),er (del j M) k->v0.evs [.fz j ob]=v0/\er M k:=fun j M ob hl=>by
  have hne:k ≠ j:=fun e=>by subst e;unfold er at hl;rw [fp]at hl;cases hl
  refine ⟨by obtain ⟨π,h | h⟩:=h0 <;> simp only [h,V.evs,V.ev,Ev.ad,Ev.ref,dv,if_neg hne],?_⟩
  unfold er at hl ⊢;rwa [fo hne]at hl
 intro v
 induction v with
 | p a b iha ihb=>
  intro M hl
  simp only [cf]at hl ⊢
  obtain ⟨h1,h2⟩:=ihb _ hl
  obtain ⟨h3,h4⟩:=iha _ h2
  rw [alt,h3]
  exact ⟨h1,h4⟩
 | ref j ρ=>
  intro M hl
  simp only [cf]at hl ⊢
  cases hg:go M j with
  | none=>rw [hg]at hl;exact ⟨rfl,hl⟩
  | some ob=>rw [hg]at hl;exact one j M ob hl
 | ad j ρ=>
  intro M hl
  simp only [cf]at hl ⊢
  cases hg:go M j with
  | none=>rw [hg]at hl;exact ⟨rfl,hl⟩
  | some ob=>rw [hg]at hl;exact one j M ob hl
 | ag v ih=>intro M hl;simp only [cf]at hl ⊢;exact ih M hl
 | fn f v ih=>intro M hl;simp only [cf]at hl ⊢;exact ih M hl
 | ifc f v ih=>intro M hl;simp only [cf]at hl ⊢;exact ih M hl
 | bx v ih=>intro M hl;simp only [cf]at hl ⊢;exact ih M hl
 | tup v ih=>intro M hl;simp only [cf]at hl ⊢;exact ih M hl
 | gd _ _ _ v ih=>intro M hl;simp only [cf]at hl ⊢;exact ih M hl
 | _=>intro M hl;exact ⟨rfl,hl⟩
theorem bgm (k:Nat) (v0:V) (h0:∃ π,v0=.ad k π\/v0=.ref k π):∀ (vs:List V) (M:Mem),er (qg M vs).2 k->v0.evs (qg M vs).1=v0
 | [],_,_=>rfl
 | v::r,M,hl=>by
  simp only [qg]at hl ⊢
  have h1:=bgm k v0 h0 r _ hl
  have lv:∀ (vs:List V) (M:Mem),er (qg M vs).2 k->er M k:=fun vs=>by
   induction vs with
   | nil=>intro M h;exact h
   | cons v vs ih=>intro M h;simp only [qg]at h;exact (bim k v0 h0 v M (ih _ h)).2
  rw [alt,(bim k v0 h0 v M (lv _ _ hl)).1]
  exact h1
theorem bdq (hp:Hp F p M w) {k:Nat} {ob:Ob} (hg:go M k=some ob) {v0:V} (h0:an2 v0=some k) {e:List Ev} (hs:v0.evs e=v0) {u:Value} (hu:al p.β M (Imm F p M w) w (v0.evs e) u):u=p.β k:=by
 rw [hs]at hu
 rcases av1 h0 with rfl | rfl
 ·simp only [al,ai]at hu
  obtain ⟨_,e1,hadr⟩:=hu
  simp only [List.cons.injEq,and_true]at e1
  subst e1
  obtain ⟨o0,us0,b0,off0,k1,k2,k3,k4,k5,k6⟩:=hadr
  rw [hg]at k1;cases k1
  have hrk:=hp.objs k _ hg
  obtain ⟨oo,xx⟩:=ob
  cases oo with
  | pt o1=>
   simp only [Rel]at hrk
   obtain ⟨bb,us1,ty',S1,r1,_⟩:=hrk
   simp only [List.cons.injEq,and_true]at r1
   rw [r1]at k5
   simp only [res,Option.some.injEq,Prod.mk.injEq]at k5
   rw [k6,r1,k5.2.1,k5.2.2]
  | fz t=>obtain ⟨q,hq⟩:=k3;cases t <;> simp [get]at hq <;> simp [res]at k5
  | p a b=>obtain ⟨q,hq⟩:=k3;simp [get]at hq
  | sl e=>obtain ⟨q,hq⟩:=k3;simp [get]at hq
  | mp e e'=>obtain ⟨q,hq⟩:=k3;simp [get]at hq
  | op e=>obtain ⟨q,hq⟩:=k3;simp [get]at hq
 ·simp only [al,ai]at hu
  obtain ⟨o0,pl0,k1,k2,k3,k4⟩:=hu
  simp only [res,Option.some.injEq,Prod.mk.injEq,List.cons.injEq,and_true]at k4
  exact k4.1.symm
theorem bg1 (h:Hp F p M w) (hL:∀ b,¬ p.L b) {f:FuncId} {W:Wt} (hw:WtOk P f W) (vs:List V) (us:List Value) (hlen:us.length=vs.length) (hrel:∀ (i:Nat) v u,vs[i]? = some v->us[i]? = some u->al p.β M (Imm F p M w) w v u)
  {o:Oper} {d:Nat} (hr:(execOp a.eval o).run P w=.ok (.enter f us.toArray) w) (hv:ae (ahx W d vs M).vc) (qt:Bool) (Q:Exit->Act->World->Prop):o.wp P a w (fun a' w'=>∃ v,a'=a.put o.dst v/\ij F p M w qt (ahx W d vs M) v w') Q:=by
 unfold ahx at hv ⊢
 split at hv
 ·rename_i v0 r
  cases hroot:an2 v0 with
  | none=>simp only [hroot]at hv;exact hv.1.elim
  | some k=>
  simp only [hroot]at hv ⊢
  cases hb:nob (ajt W.o) (shp r W.ag)with
  | false=>rw [hb]at hv;exact hv.1.elim
  | true=>
  simp only [hb,cond_true]at hv ⊢
  simp only [bc,Bool.and_eq_true]at hb
  obtain ⟨b1,b2⟩:=hb
  have hfz:=axn r M h
  generalize hz:qg M r=z at hv hfz ⊢
  obtain ⟨e0,M1⟩:=z
  simp only at hv hfz ⊢
  cases hg:go M1 k with
  | none=>simp only [hg]at hv;exact hv.1.elim
  | some ob=>
  cases hy:asL (vi e0 r) W.as with
  | none=>simp only [hg,hy]at hv;exact hv.1.elim
  | some y=>
  simp only [hg,hy]at hv ⊢
  cases hc:yu ob W.o with
  | none=>simp only [hc]at hv;exact hv.1.elim
  | some x=>
  simp only [hc]at hv ⊢
  have:=ahj hc
  subst this
  generalize hN:newL d 0 W.rt (W.res x y)=q at hv ⊢
  obtain ⟨v,N,j'⟩:=q
  simp only at hv ⊢
  cases hin:inN k (cj N)with
  | true=>rw [hin]at hv;exact hv.1.elim
  | false=>
  simp only [hin,cond_false]at hv ⊢
  match us,hlen with
  | [],hl=>simp at hl
  | u::us,hl=>
  have hu:al p.β M1 (Imm F p M1 w) w (v0.evs e0) u:=hfz.s _ _ (hrel 0 _ u rfl rfl)
  have hrel1:∀ (i:Nat) v u',(vi e0 r)[i]? = some v->us[i]? = some u'->al p.β M1 (Imm F p M1 w) w v u':=fun i v u' hv hu'=>by
   rw [am9]at hv
   cases hx:r[i]? with
   | none=>rw [hx]at hv;cases hv
   | some v0=>
    rw [hx]at hv
    simp only [Option.map_some,Option.some.injEq]at hv
    subst hv
    exact hfz.s _ _ (hrel (i+1) v0 u' (by simpa using hx) (by simpa using hu'))
  have hbox:u=p.β k:=bdq hfz.hp hg hroot (by
   have h0:=bgm k v0 (bia hroot) r M (by rw [hz];exact c8 hg)
   rw [hz]at h0
   exact h0) hu
  subst hbox
  have hlk:=c8 hg
  unfold Oper.wp
  rw [hr,Oper.upon_enter]
  refine (hw (Imm F p M1 w) w (p.β k) x us y (p.σ k) (fun b hb=>hb.1) (fun b hb=>⟨(hfz.hp.own k b hlk hb).1,fun hi=>hi.2.2.2 k hlk hb⟩) (hfz.hp.objs k _ hg) (bck hfz.hp _ _ _ _ _ (by rw [aa1];simpa using hl) hrel1 (by rw [awd];exact b2) hy) hv).mono fun e w' ⟨rs,R,S',e1,e2,e3,e4,e5,e6⟩=>?_
  subst e1
  obtain ⟨p1,t1,t2,t3⟩:=bly hfz.hp hL hg (fun b hb=>hb) e2 e3 e4 e5
  generalize hM2:put k (⟨W.o,W.new x y⟩:Ob) M1=M2 at t1 t3 ⊢
  have h1:=bbx (cj N) M2 t1.hp
  obtain ⟨hle,hkeys⟩:=aqo d W.rt 0 (W.res x y)
  have hnew:=aw1 (F:=F) (w:=w') d j' W.rt (rp (cj N) M2) p1 0 (W.res x y) R rs h1.hp (kg.keep (fun b hb=>(h1.keep b (t3 b hb)).1) _ _ _ _ e6) (fun b hb=>(t2 b).2 hb)
  rw [hN]at hnew hle hkeys
  simp only at hnew hle hkeys
  obtain ⟨p2,a1,a2⟩:=hnew (Nat.le_refl _) (fun i hi hij=>(aqg (cj N) M2 _).1 (.inl (hkeys i hi hij)))
  have h3:=Tr.drop a1.tr.hp (fun _=>False) (fun b hb=>hb.elim)
  refine ⟨_,rfl,⟨p2.β,p2.σ,fun _=>False⟩,?_,fun b hb=>hb,?_,fun hfr _=>?_⟩
  ·have h4:=hfz.trans (t1.trans (h1.trans (a1.tr.trans h3)))
   simpa only [ap,ap3]using h4
  ·have h5:=h3.s _ _ (bek W.rt v rs (ar2 _ _ _ _ e6) a2)
   simpa only [V.evs]using h5
  ·exfalso
   have:∀ e:List Ev,fresh M (ap e (.cut k W.o W.o::klL (cj N)))=false:=fun e=>by
    induction e with
    | nil=>rfl
    | cons x e ih=>cases x <;> simp [ap,fresh,ih]
   rw [this]at hfr;cases hfr
 ·exact hv.1.elim
theorem Tr.un (h:Hp F p M w) (hL:∀ b,¬ p.L b) {k j:Nat} {o:O} {x:o.strip.den} (hk:go M k=some ⟨.pt (.pt o),x⟩) (hj:go M j=none) (hg:k < gid) :
  ∃ p',Tr F p M w [.un k j] p' ((j,⟨.pt o,x⟩)::Bm.del k M) w/\∀ b,¬ p'.L b:=by
 have hro:=h.objs k _ hk
 simp only [Rel]at hro
 obtain ⟨b0,us0,ty0,S0,r1,r2,r3,r4,r5⟩:=hro
 have r5':=r5
 obtain ⟨b1,us1,ty1,S1,q1,q2,q3,q4,q5⟩:=r5
 subst q1
 simp only [List.cons.injEq,and_true]at r1
 generalize hp':(⟨fun i=>if i=j then .pointer (some ⟨b1,0,none⟩)else p.β i,fun i=>if i=j then S0 else p.σ i,fun _=>False⟩:Ow)=p'
 have hjk:j ≠ k:=by rintro rfl;rw [hk]at hj;cases hj
 have hβj:p'.β j=.pointer (some ⟨b1,0,none⟩):=by rw [← hp'];simp
 have hσj:p'.σ j=S0:=by rw [← hp'];simp
 have hβ:∀ i,i ≠ j->p'.β i=p.β i:=fun i hi=>by rw [← hp'];simp [hi]
 have hσ:∀ i,i ≠ j->p'.σ i=p.σ i:=fun i hi=>by rw [← hp'];simp [hi]
 have hL':∀ b,¬ p'.L b:=fun b hb=>by rw [← hp']at hb;exact hb
 generalize hM1:(((j,⟨.pt o,x⟩)::Bm.del k M):Mem)=M1
 have hgj:go M1 j=some ⟨.pt o,x⟩:=by rw [← hM1];exact m8 _ _ _
 have hgi:∀ i,i ≠ j->i ≠ k->go M1 i=go M i:=fun i h1 h2=>by rw [← hM1,fx,if_neg (Ne.symm h1),fo h2]
 have hgk:go M1 k=none:=by rw [← hM1,fx,if_neg hjk,fp]
 have hlive:∀ i,er M1 i->i=j\/(i ≠ j/\i ≠ k/\er M i):=fun i hi=>by
  by_cases e:i=j
  ·exact .inl e
  ·by_cases e':i=k
   ·subst e';unfold er at hi;rw [hgk]at hi;cases hi
   ·refine .inr ⟨e,e',?_⟩
    unfold er at hi ⊢;rwa [hgi i e e']at hi
 have hlk:=c8 hk
 have hkeep:jc (Imm F p M w) (Imm F p' M1 w) w w:=fun b hb=>by
  refine ⟨⟨hb.1,hb.2.1,hL' b,fun i hi=>?_⟩,rfl⟩
  rcases hlive i hi with rfl | ⟨h1,h2,h3⟩
  ·rw [hσj];exact fun hs=>hb.2.2.2 k hlk (r4 b hs).1
  ·rw [hσ i h1];exact hb.2.2.2 i h3
 have hb0:Imm F p' M1 w b0:=by
  obtain ⟨o1,o2⟩:=h.own k b0 hlk r2
  refine ⟨o1,.inr (o2.elim (fun h=>.inl h.2) .inr),hL' b0,fun i hi=>?_⟩
  rcases hlive i hi with rfl | ⟨h1,h2,h3⟩
  ·rw [hσj];exact fun hs=>(r4 b0 hs).2 rfl
  ·rw [hσ i h1];exact fun hs=>h.sep k i b0 (Ne.symm h2) hlk h3 r2 hs
 have hne:∀ i,er M i->i ≠ j:=fun i hi e=>by subst e;unfold er at hi;rw [hj]at hi;cases hi
 have hinner:Rel (Imm F p' M1 w) w (.pt o) x S0 [.pointer (some ⟨b1,0,none⟩)]:=Rel.keep hkeep _ _ _ _ (fun _ _=>rfl) r5'
 refine ⟨p',Tr.one _ hkeep (fun i π vs r=>?_) (fun i π v r=>?_) ⟨fun i ob hi=>?_,fun i i' b hne' hi hi' hb=>?_,fun i b hi hb=>?_,fun b hb=>absurd hb (hL' b),h.os,h.tape,h.output,h.size,h.old⟩,hL'⟩
 ·simp only [Ev.ref,dv]
  have hij:i ≠ j:=by obtain ⟨o,_,h1,_⟩:=r;exact hne i (c8 h1)
  split
  ·rename_i e
   subst e
   simp only [ai]
   obtain ⟨ob,pl,h1,h2,⟨q,h3⟩,h4⟩:=r
   obtain ⟨us,pl',S',e1,e2,e3,_⟩:=look h h1 h2 h3
   rw [e1]at h4;cases h4
   exact Rel.one _ _ _ _ e3
  ·rename_i e
   simp only [ai]
   exact r.same h (hgi i hij e) (hβ i hij) (fun _ _ _=>rfl)
 ·simp only [Ev.ad,dv]
  have hij:i ≠ j:=by obtain ⟨o,_,_,_,h1,_⟩:=r;exact hne i (c8 h1)
  split
  ·rename_i e
   subst e
   split
   ·obtain ⟨o',us,b,off,h1,h2,h3,h4,h5,h6⟩:=r
    rw [hk]at h1;cases h1
    rw [r1]at h5
    simp only [res,Option.some.injEq,Prod.mk.injEq]at h5
    rw [ai]
    refine ⟨b0,0,[.pointer (some ⟨b1,0,none⟩)],by rw [h6,← h5.2.1,← h5.2.2],hb0,fun i' u hu=>?_,?_⟩
    ·cases i' with
     | zero=>
      simp only [List.getElem?_cons_zero,Option.some.injEq]at hu
      subst hu
      simp [World.cell?,r3]
     | succ i'=>simp at hu
    ·simp only [ai]
     refine ⟨_,rfl,_,cellsOf w b1 0 o.size,b1,0,hgj,by simp only [gok],by simp only [get];exact ⟨_,rfl⟩,by simp only [dy],by rw [hβj];simp only [res],rfl⟩
   ·simp only [ai]
    obtain ⟨_,_,_,_,_,_,_,_,_,rfl⟩:=r
    intro u hu
    simp only [List.mem_singleton]at hu
    subst hu;rfl
  ·rename_i e
   simp only [ai]
   exact ⟨v,rfl,r.same h (hgi i hij e) (hβ i hij) (fun _ _ _=>rfl)⟩
 ·rcases hlive i (c8 hi)with rfl | ⟨h1,h2,h3⟩
  ·rw [hgj]at hi;cases hi
   rw [hβj,hσj]
   exact hinner
  ·rw [hgi i h1 h2]at hi
   rw [hβ i h1,hσ i h1]
   exact Rel.keep hkeep _ _ _ _ (fun _ _=>rfl) (h.objs i ob hi)
 ·rcases hlive i hi with e | ⟨h1,h2,h3⟩
  ·rcases hlive i' hi' with e' | ⟨h1',h2',h3'⟩
   ·exact absurd (e.trans e'.symm) hne'
   ·rw [e,hσj]at hb
    rw [hσ i' h1'];exact h.sep k i' b (Ne.symm h2') hlk h3' (r4 b hb).1
  ·rw [hσ i h1]at hb
   rcases hlive i' hi' with e' | ⟨h1',h2',h3'⟩
   ·rw [e',hσj];exact fun hs=>h.sep i k b h2 h3 hlk hb (r4 b hs).1
   ·rw [hσ i' h1'];exact h.sep i i' b hne' h3 h3' hb
 ·rcases hlive i hi with e | ⟨h1,h2,h3⟩
  ·rw [e,hσj]at hb
   obtain ⟨o1,o2⟩:=h.own k b hlk (r4 b hb).1
   exact ⟨o1,o2.elim (fun h=>by have:=h.1;omega) .inr⟩
  ·rw [hσ i h1]at hb;exact h.own i b h3 hb
theorem bi9 (x y:V) (M:Mem) (r:Rs):(ail x y M r).vc=r.vc:=by
 unfold ail
 split
 ·split
  ·rename_i k j _ _ _ o z _ _
   cases nob (Nat.blt k gid) (isN (go r.M j)) <;> rfl
  ·rfl
 ·rfl
theorem bk0 {x y:V} {r:Rs} {v:Value} (h:ij F p M w false r v w'):ij F p M w false (ail x y M r) v w':=by
 unfold ail
 split
 ·rename_i k j
  split
  ·rename_i q1 q2 o z h1 h2
   cases hb:nob (Nat.blt k gid) (isN (go r.M j))with
   | false=>simpa only [cond_false]using h
   | true=>
    simp only [cond_true]
    simp only [bc,Bool.and_eq_true]at hb
    obtain ⟨p1,t1,l1,v1,_⟩:=h
    have hj:go r.M j=none:=by
     cases hg:go r.M j with
     | none=>rfl
     | some _=>rw [hg]at hb;simp [isN]at hb
    obtain ⟨p2,t2,l2⟩:=Tr.un t1.hp l1 h2 hj (by simpa using hb.1)
    exact ⟨p2,t1.trans t2,l2,by simp only [al],fun _ hq=>by cases hq⟩
  ·exact h
 ·exact h
theorem bie (h:Hp F p M w) (hL:∀ b,¬ p.L b) {f:FuncId} {W:Wa} (hw:WaOk P f W) (vs:List V) (us:List Value) (hlen:us.length=vs.length) (hrel:∀ (i:Nat) v u,vs[i]? = some v->us[i]? = some u->al p.β M (Imm F p M w) w v u)
  {o:Oper} (hr:(execOp a.eval o).run P w=.ok (.enter f us.toArray) w) (hv:ae (axi W vs M).vc) (qt:Bool) (Q:Exit->Act->World->Prop):o.wp P a w (fun a' w'=>∃ v,a'=a.put o.dst v/\ij F p M w qt (axi W vs M) v w') Q:=by
 have h:False/\True:=hv
 exact h.1.elim
theorem azp (hΦ:m7 P Φ) (h:Hp F p M w) (hL:∀ b,¬ p.L b) {f:FuncId} {ct:Ct} (hf:Φ f=some ct) (vs:List V) (us:List Value) (hlen:us.length=vs.length) (hrel:∀ (i:Nat) v u,vs[i]? = some v->us[i]? = some u->al p.β M (Imm F p M w) w v u) {o:Oper} {d:Nat} (hr0:(∀ args w,(callFunc f args).run P w=.ok (.enter f args) w)->(execOp a.eval o).run P w=.ok (.enter f us.toArray) w)
  (hv:ae (aa3 ct d vs M).vc) (qt:Bool) (Q:Exit->Act->World->Prop):o.wp P a w (fun a' w'=>∃ v,a'=a.put o.dst v/\ij F p M w qt (aa3 ct d vs M) v w') Q:=by
 obtain ⟨hcall,hspec⟩:=hΦ f ct hf
 have hr:=hr0 hcall
 unfold aa3 at hv ⊢
 cases hmu:ct.mu with
 | some mu=>
  cases mu with
  | m m=>
   simp only [hmu]at hv hspec ⊢
   exact bjc h hspec _ _ hlen hrel hr hv qt Q
  | w W=>
   simp only [hmu]at hv hspec ⊢
   exact bg1 h hL hspec _ _ hlen hrel hr hv qt Q
  | s s=>
   simp only [hmu]at hv
   exact hv.1.elim
  | a W=>
   simp only [hmu]at hv hspec ⊢
   exact bie h hL hspec _ _ hlen hrel hr hv qt Q
 | none=>
 simp only [hmu]at hv hspec ⊢
 unfold bch at hspec
 cases hs:shp vs ct.ga with
 | false=>rw [hs]at hv;exact hv.1.elim
 | true=>
  simp only [hs,cond_true]at hv ⊢
  cases hsh:ct.sh with
  | false=>
   simp only [hsh]at hv ⊢
   split at hv
   ·rename_i x hx
    generalize hN:newL d 0 ct.rt (ct.res x)=q at hv ⊢
    obtain ⟨v,N,j'⟩:=q
    simp only at hv ⊢
    unfold Oper.wp
    rw [hr,Oper.upon_enter]
    refine (hspec (All F w) w _ x (fun b hb=>hb.1) (bbc h _ _ _ _ _ hlen hrel hs hx) hv).mono fun e w' ⟨rs,S,he1,he2,he3,he4⟩=>?_
    subst he1
    obtain ⟨p',t1,t2,t3,t4⟩:=bem h hL ct d x (A:=All F w) (fun h=>by rw [hsh]at h;cases h) he2 he3 he4 hN
    exact ⟨_,rfl,p',t1,t2,t3,fun hfr _=>t4 hfr⟩
   ·exact hv.1.elim
  | true=>
   simp only [hsh]at hv ⊢
   have hfz:=axn vs M h
   have hff:=bfn vs M
   generalize qg M vs=z at hv hfz hff ⊢
   obtain ⟨e0,M1⟩:=z
   simp only at hv hfz hff ⊢
   split at hv
   ·rename_i x hx
    generalize hN:newL d 0 ct.rt (ct.res x)=q at hv ⊢
    obtain ⟨v,N,j'⟩:=q
    simp only at hv ⊢
    unfold Oper.wp
    rw [hr,Oper.upon_enter]
    have hrel1:∀ (i:Nat) v u,(vi e0 vs)[i]? = some v->us[i]? = some u->al p.β M1 (Imm F p M1 w) w v u:=fun i v u hv hu=>by
     rw [am9]at hv
     cases hx:vs[i]? with
     | none=>rw [hx]at hv;cases hv
     | some v0=>
      rw [hx]at hv
      simp only [Option.map_some,Option.some.injEq]at hv
      subst hv
      exact hfz.s _ _ (hrel i v0 u hx hu)
    refine (hspec (Imm F p M1 w) w _ x (fun b hb=>hb.1) (bck hfz.hp _ _ _ _ _ (by rw [aa1];exact hlen) hrel1 (by rw [awd];exact hs) hx) hv).mono fun e w' ⟨rs,S,he1,he2,he3,he4⟩=>?_
    subst he1
    obtain ⟨p',t1,t2,t3,t4⟩:=bem hfz.hp hL ct d x (A:=Imm F p M1 w) (fun _ b hb=>hb) he2 he3 he4 hN
    refine ⟨_,rfl,p',hfz.trans t1,t2,t3,fun hfr _=>?_⟩
    rcases hff with ⟨rfl,rfl⟩ | ⟨y,r,rfl,hy⟩
    ·exact t4 hfr
    ·exfalso
     rw [show ap (y::r) (klL (cj N))=y::ap r (klL (cj N))from rfl]at hfr
     rw [aj6 hy]at hfr;cases hfr
   ·exact hv.1.elim
theorem ae8 {q:Nat×Operand} {ps:Array (Nat×Operand)} (h:q ∈ ps.toList):q.2 ∈ cu.snds (toL ps):=by
 rw [ge]
 generalize ps.toList=l at h
 induction l with
 | nil=>cases h
 | cons x l ih=>
  obtain ⟨i,y⟩:=x
  simp only [cu.snds]
  rcases List.mem_cons.1 h with rfl | h
  ·simp
  ·exact List.mem_cons_of_mem _ (ih h)
theorem bh6 (hB:TabOk P B) (h:Hp F p M w) (hL:∀ b,¬ p.L b) {t:TypeId} (dst:Option Nat) (x:V) (u:Value) (hx:al p.β M (Imm F p M w) w x u) (hv:ae (sj (B.τ t) M dst x).vc) (qt:Bool) :
  ∃ r,(Instr.loadAt t u).run P w=.ok r w/\ij F p M w qt (sj (B.τ t) M dst x) r w:=by
 unfold sj at hv ⊢
 cases htk:ab6 (B.τ t) M dst x with
 | none=>
  simp only [htk,dz]at hv ⊢
  obtain ⟨r,h1,h2⟩:=ao7 hB h _ _ hx hv
  exact ⟨r,h1,ij.pure h hL h2 _⟩
 | some R=>
  simp only [htk]at hv ⊢
  unfold ab6 at htk
  split at htk
  ·rename_i k i d
   split at htk
   ·rename_i o l hgo
    cases htk
    cases hk:bt [(B.τ t).ok,gl (B.τ t).size 1,neg (B.τ t).agg,neg (Nat.beq d k),Nat.ble (Nat.succ k) gid]with
    | false=>rw [hk]at hv;exact hv.1.elim
    | true=>
     simp only [hk,cond_true,d6,fh,and_true]at hv ⊢
     simp only [br,b8,Bool.and_true,Bool.and_eq_true,iv,beq_iff_eq,ro,Bool.not_eq_true']at hk
     obtain ⟨k1,k2,k3,k4,k5⟩:=hk
     have hkg:k < gid:=Nat.le_of_ble_eq_true k5
     have hgM:pb M k [.ix i]=some ⟨.op (.sl o),l.getD i none⟩:=by simp only [pb,hgo,get,O.dflt]
     have hev:ur (B.τ t) M (.ad k [.ix i])=([],.ref k [.ix i]):=by
      have hz:(O.op (.sl o)).strip.size=1:=rfl
      simp only [ur,hgM,hz,k1,k2,k3,ac1,cond_false]
      rfl
     obtain ⟨r,h1,h2⟩:=ao7 hB h (.ad k [.ix i]) u hx (by rw [hev];trivial)
     refine ⟨r,h1,?_⟩
     rw [hev]at h2
     simp only [al,ai]at h2
     obtain ⟨ob1,pl,q1,q2,q3,q4⟩:=h2
     rw [hgo]at q1;cases q1
     simp only [gok]at q2
     have hy:l.getD i none=some (alg [] l i):=by
      simp only [biy]at hv
      obtain ⟨y,hy⟩:=Option.isSome_iff_exists.1 hv
      simp only [alg,hy,Option.getD_some]
     obtain ⟨p1,S,s1,s2,s3,s4,s5⟩:=Tr.row h hgo hkg q2.1 hy q4
     obtain ⟨d1,d2⟩:=Hp.del s4.hp d
     have tn:=Tr.new d1 d (fp d _) r S ⟨.sl o,alg [] l i⟩ ⟨rfl,⟨rfl,Nat.le_refl _⟩,rfl,Nat.le_refl _,fun _ _ _=>rfl⟩ (fun b hb=>.inr ((s2 b).2 (.inr hb))) (fun hkp=>Rel.keep (d2.trans hkp) _ _ _ _ (fun _ _=>rfl) s5)
     refine ⟨_,s4.trans ((Tr.kl s4.hp d).trans tn),fun b hb=>hb,?_,fun hf _=>by simp [fresh]at hf⟩
     simp only [al,ai]
     exact ⟨⟨.sl o,alg [] l i⟩,none,m8 _ _ _,by simp only [gok],⟨⟨.sl o,alg [] l i⟩,by simp only [get]⟩,by rw [ac2];simp only [res]⟩
   ·cases htk
  ·cases htk
theorem bn0 {r:Nat} {π:b9} (q:Ob) (M':Mem) (hc:adb gid r π M=some (q,[],M')):False:=by
 unfold adb at hc
 cases hok:neg (qa r gid)with
 | true=>rw [hok]at hc;cases hc
 | false=>
  rw [hok]at hc
  simp only [cond_false]at hc
  cases hg:go M r with
  | none=>rw [hg]at hc;cases hc
  | some ob=>
   rw [hg]at hc
   simp only at hc
   cases hq:get π ob.o ob.x with
   | none=>rw [hq]at hc;cases hc
   | some q0=>
    rw [hq]at hc
    cases π with
    | nil=>cases hc
    | cons s π=>
     simp only at hc
     cases hh:ajy (s::π)with
     | true=>rw [hh]at hc;cases hc
     | false=>
      rw [hh]at hc
      simp only [cond_false]at hc
      split at hc <;> cases hc
theorem bl3 (hB:TabOk P B) (h:Hp F p M w) (hL:∀ b,¬ p.L b) {t:TypeId} (ρ:Operand->V) (x:Operand) (lo hi:Option Operand) (hx:al p.β M (Imm F p M w) w (ρ x) (a.eval x)) (hlo:∀ y,lo=some y->al p.β M (Imm F p M w) w (ρ y) (a.eval y)) (hhi:∀ y,hi=some y->al p.β M (Imm F p M w) w (ρ y) (a.eval y))
  (hv:ae (auw B (B.τ t) ρ x lo hi M).vc) (qt:Bool) {o:Oper} (ho:o.op=.slice t x lo hi none):∃ v w',(execOp a.eval o).run P w=.ok (.value v) w'/\ij F p M w qt (auw B (B.τ t) ρ x lo hi M) v w':=by
 unfold auw at hv ⊢
 split at hv
 ·rename_i r π hr
  split at hv
  ·rename_i q e M' hc
   rw [hr]at hx
   have hx1:Ref p.β M w r π [a.eval x]:=by have:=hx;simp only [al,ai]at this;exact this
   obtain ⟨_,p1,S,cv⟩:=bbz h gid r π [a.eval x] q e M' hx1 hc
   have td:=Tr.drop cv.tr.hp (fun b=>p.L b) (fun b hb=>(cv.L b).2 (.inl hb))
   have tt:Tr F p M w e ⟨p1.β,p1.σ,fun b=>p.L b⟩ M' w:=by have:=cv.tr.trans td;rwa [ap3]at this
   have hrel:al p1.β M' (Imm F ⟨p1.β,p1.σ,fun b=>p.L b⟩ M' w) w (.d q.o.strip q.x) (a.eval x):=by
    rw [bw]
    refine Rel.frz (fun b hb=>(td.keep b hb).1) q.o q.x S [a.eval x] (fun b hb=>?_) cv.rel
    have hl:=cv.tr.hp.lim b ((cv.L b).2 (.inr hb))
    exact ⟨hl.1,.inr (.inr hl.2.1),fun h=>cv.sp b hb h,hl.2.2⟩
   obtain ⟨u,h1,h2⟩:=bfd (p:=⟨p1.β,p1.σ,fun b=>p.L b⟩) (M:=M') hB (x0:=x) (lo0:=lo) (hi0:=hi) _ (fun y=>(ρ y).evs e) hrel (fun y hy=>tt.s _ _ (hlo y hy)) (fun y hy=>tt.s _ _ (hhi y hy)) hv
   refine ⟨u,w,by simp [execOp,ho,h1],_,tt,hL,h2,fun hf _=>?_⟩
   exfalso
   rcases cv.fr with ⟨e1,_,_⟩ | ⟨y,r',e1,e2⟩
   ·subst e1
    exact bn0 q M' hc
   ·subst e1
    have:=aj6 (M:=M) (r:=r') e2
    rw [this]at hf;cases hf
  ·exact hv.1.elim
 ·obtain ⟨u,h1,h2⟩:=bfd hB (x0:=x) (lo0:=lo) (hi0:=hi) _ ρ hx hlo hhi hv
  exact ⟨u,w,by simp [execOp,ho,h1],ij.pure h hL h2 _⟩
theorem bo4 (hB:TabOk P B) (h:Hp F p M w) (hL:∀ b,¬ p.L b) {t:TypeId} (d:Option Nat) (ρ:Operand->V) (x:Operand) (lo hi:Option Operand) (hx:al p.β M (Imm F p M w) w (ρ x) (a.eval x)) (hlo:∀ y,lo=some y->al p.β M (Imm F p M w) w (ρ y) (a.eval y))
  (hv:ae (an3 B (B.τ t) d ρ x lo hi M).vc) (qt:Bool) {o:Oper} (ho:o.op=.slice t x lo hi none):∃ v w',(execOp a.eval o).run P w=.ok (.value v) w'/\ij F p M w qt (an3 B (B.τ t) d ρ x lo hi M) v w':=by
 unfold an3 at hv ⊢
 split at hv
 ·rename_i r d ki n e hr hlo0 he
  obtain ⟨y,rfl,hy⟩:∃ y,lo=some y/\ρ y=.d (.int ki) n:=by
   cases lo with
   | none=>cases hlo0
   | some y=>simp only [xq,Option.some.injEq]at hlo0;exact ⟨y,rfl,hlo0⟩
  split at hv
  ·rename_i oo l hg
   cases hk:bt [qa r d,(B.τ t).ok,(B.τ e).ok,gl oo.strip.size (B.τ e).size]with
   | false=>rw [hk]at hv;exact hv.1.elim
   | true=>
    simp only [hk,cond_true,d6,fh,and_true]at hv ⊢
    simp only [br,b8,Bool.and_true,Bool.and_eq_true,iv,beq_iff_eq]at hk
    obtain ⟨k0,k1,k2,k3⟩:=hk
    obtain ⟨hne,hgid⟩:=aaz (r:=r) (k:=d) (by rw [k0];rfl)
    have eτ:=hB.τ t k1
    have eτ':=hB.τ e k2
    rw [← eτ]at k1 he
    rw [← eτ']at k2 k3
    obtain ⟨inf,u,hi',hu⟩:=ja k1
    obtain ⟨infe,ue,hie,hue⟩:=ja k2
    rw [lk hi' hu]at he
    rw [lk hie hue]at k3
    simp only [tx]at he k3
    cases u <;> simp at he
    obtain rfl:=he.symm
    have h1:=hlo y rfl
    rw [hy,bw,gm]at h1
    rw [hr]at hx
    simp only [al,ai]at hx
    obtain ⟨ob,pl,q1,q2,q3,q4⟩:=hx
    rw [hg]at q1;cases q1
    simp only [res,Option.some.injEq,Prod.mk.injEq,List.cons.injEq,and_true]at q4
    have hvβ:=q4.1
    have hrel:=h.objs r _ hg
    rw [hvβ]at hrel
    have hrel0:=hrel
    simp only [Rel,List.cons.injEq,and_true]at hrel
    obtain ⟨v',ety,xs,T,rfl,r2,r3,r4,r5,r6,r7⟩:=hrel
    have hel:P.elem t=e:=by simp [Program.elem,hu]
    have hu':P.underlying t=some (.slice (P.elem t)):=by rw [hel];exact hu
    have hsz:(sizeOf (P.elem t)).run P w=.ok infe.size w:=by rw [hel];simp [sizeOf,typeInfo,hie]
    have hn0:(0:Int)<=n:=hv.1
    have hnl:n<=(l.length:Int):=hv.2
    have hnn:n.toNat<=l.length:=tn1 hnl
    obtain ⟨oa,cap,hsl,hcap⟩:∃ oa cap,a.eval x=.slice oa l.length cap/\l.length<=cap:=by
     rcases ye r2 with ⟨hn,oa,hs⟩ | ⟨g,off,c,cur,hs,_,hc,_⟩
     ·exact ⟨oa,0,by rw [hs,hn],by omega⟩
     ·exact ⟨_,_,hs,hc⟩
    have hrun:(execOp a.eval o).run P w=.ok (.value (sliced oa n.toNat l.length cap infe.size)) w:=by
     have:(Instr.sliceAt t (a.eval x) (some (a.eval y)) none none).run P w=.ok (sliced oa n.toNat l.length cap infe.size) w:=by
      rw [run_sliceAt_slice w t _ _ _ _ hu',hsl,h1.1,run_slice_l w t oa l.length cap hu' ki n hn0 hnl,hsz];rfl
     simp [execOp,ho,this]
    have c2:=Cv.whole h d hg hgid
    obtain ⟨hk1,hk2⟩:=Hp.del c2.tr.hp d
    have hxl:xs.length=l.length * oo.size:=r2.1
    have hos:oo.size=infe.size:=k3
    -- the row that begins later
    have hnew:vm w ety oo.size (sliced oa n.toNat l.length cap infe.size) (l.drop n.toNat).length (xs.drop (n.toNat * oo.size))/\∀ b,lu (sliced oa n.toNat l.length cap infe.size)=some b->lu (a.eval x)=some b:=by
     rcases ye r2 with ⟨hn,oa',hs⟩ | ⟨g,off,c,cur,hs,hg1,hc1,hc2,hc3,hc4⟩
     ·rw [hs]at hsl
      simp only [Value.slice.injEq]at hsl
      obtain ⟨rfl,_,rfl⟩:=hsl
      have hz:n.toNat=0:=by omega
      have hl0:l=[]:=List.eq_nil_of_length_eq_zero hn
      subst hl0
      rw [hz]
      simp only [sliced,if_true,List.drop_nil,List.length_nil,Nat.sub_zero,Nat.zero_mul,List.drop_zero]
      have hxs:xs=[]:=List.eq_nil_of_length_eq_zero (by simpa using hxl)
      rw [hxs]
      exact ⟨bfo w ety _ _,fun b hb=>by cases oa' <;> cases hb⟩
     ·rw [hs]at hsl
      simp only [Value.slice.injEq]at hsl
      obtain ⟨rfl,_,rfl⟩:=hsl
      have hdl:(xs.drop (n.toNat * oo.size)).length=(l.drop n.toNat).length * oo.size:=by
       rw [List.length_drop,List.length_drop,hxl,Nat.sub_mul]
      by_cases hce:c+1=n.toNat
      ·have hll:l.length=n.toNat:=by omega
       have e0:(l.drop n.toNat).length=0:=by rw [List.length_drop];omega
       simp only [sliced,if_pos hce]
       rw [show l.length - n.toNat=0 by omega,show c+1 - n.toNat=0 by omega]
       refine ⟨⟨hdl,.inl ⟨e0,_,rfl⟩⟩,fun b hb=>by cases hb⟩
      ·simp only [sliced,if_neg hce,Option.map_some]
       rw [Addr.add_lit]
       obtain ⟨m,hm⟩:∃ m,c+1 - n.toNat=m+1:=⟨c - n.toNat,by omega⟩
       rw [hm]
       refine ⟨⟨hdl,.inr ⟨g,off+n.toNat * infe.size,m,cur,by rw [List.length_drop],hg1,by rw [List.length_drop];omega,by omega,?_,?_⟩⟩,fun b hb=>by rw [hs];exact hb⟩
       ·rw [hc3,← hm,hos,Nat.sub_mul]
        have:n.toNat * infe.size<=(c+1) * infe.size:=Nat.mul_le_mul_right _ (by omega)
        omega
       ·rw [← hc4,List.drop_take,List.drop_drop,hos,List.length_drop,Nat.sub_mul]
    obtain ⟨o1,o2⟩:=hnew
    have hσ:∀ b,p.σ r b->p.L b\/p.σ r b:=fun b hb=>.inr hb
    have hld:∀ i,(l.drop n.toNat)[i]? = l[n.toNat+i]?:=fun i=>List.getElem?_drop
    refine ⟨_,w,hrun,ij.appQ (r:=⟨_,.ref d [],[.kl r,.kl d],_⟩) (p':=_) (c2.tr.trans ((Tr.kl c2.tr.hp d).trans (Tr.new (w':=w) hk1 d (fp d _) (sliced oa n.toNat l.length cap infe.size) (p.σ r) ⟨.sl oo,l.drop n.toNat⟩ ⟨rfl,⟨rfl,Nat.le_refl _⟩,rfl,Nat.le_refl _,fun _ _ _=>rfl⟩ (fun b hb=>.inr (.inr hb)) (fun hkp=>?_)))) (fun b hb=>hb) ?_ ?_⟩
    ·simp only [Rel]
     refine ⟨_,ety,_,fun i=>T (n.toNat+i),rfl,o1,by rw [List.length_drop];omega,fun b hb=>r4 b (o2 b hb),fun i c hc=>⟨(r5 _ c hc).1,fun e=>(r5 _ c hc).2 (o2 c e)⟩,fun i j c hij=>r6 _ _ c (by omega),fun i z hz=>?_⟩
     rw [hld]at hz
     have:=r7 _ z hz
     rw [List.drop_drop,← Nat.add_mul]
     exact Rel.keep ((c2.tr.keep.trans (Tr.kl c2.tr.hp d).keep).trans hkp) _ _ _ _ (fun _ _=>rfl) this
    ·simp only [al,ai]
     refine ⟨⟨.sl oo,l.drop n.toNat⟩,none,m8 _ _ _,by simp only [gok],⟨⟨.sl oo,l.drop n.toNat⟩,by simp only [get]⟩,?_⟩
     rw [ac2]
     simp only [res]
    ·show fresh M [.kl r,.kl d]=false
     simp [fresh,hg,isN]
  ·exact hv.1.elim
 ·exact hv.1.elim
theorem bmb (hB:TabOk P B) (h:Hp F p M w) (hL:∀ b,¬ p.L b) {t:TypeId} (d:Option Nat) (ρ:Operand->V) (x:Operand) (lo hi:Option Operand) (hx:al p.β M (Imm F p M w) w (ρ x) (a.eval x)) (hlo:∀ y,lo=some y->al p.β M (Imm F p M w) w (ρ y) (a.eval y)) (hhi:∀ y,hi=some y->al p.β M (Imm F p M w) w (ρ y) (a.eval y))
  (hv:ae (aui B t d ρ x lo hi M).vc) (qt:Bool) {o:Oper} (ho:o.op=.slice t x lo hi none):∃ v w',(execOp a.eval o).run P w=.ok (.value v) w'/\ij F p M w qt (aui B t d ρ x lo hi M) v w':=by
 unfold aui at hv ⊢
 cases hn:nsT (B.σ t)with
 | true=>simp only [hn,cond_true]at hv ⊢;exact bo4 hB h hL d ρ x lo hi hx hlo hv qt ho
 | false=>simp only [hn,cond_false]at hv ⊢;exact bl3 hB h hL ρ x lo hi hx hlo hhi hv qt ho
theorem bn3 (h:Hp F p M w) {o:O} {y y':V} {v:Value} {c:List Prop} {e:List Ev} {M1:Mem} (hy:al p.β M (Imm F p M w) w y v) (ht:bay o M y=some (c,y',e,M1)) (hc:ae c) :
  Tr F p M w e p M1 w/\al p.β M1 (Imm F p M1 w) w y' v/\∃ j ob,e=[.fz j ob]:=by
 unfold bay at ht
 split at ht
 ·rename_i t j
  split at ht
  ·rename_i oe l hg
   split at ht
   ·rename_i l' hl
    simp only [Option.some.injEq,Prod.mk.injEq]at ht
    obtain ⟨rfl,rfl,rfl,rfl⟩:=ht
    simp only [d6,fh,and_true]at hc
    have hf:=Tr.frz h j _ hg
    refine ⟨hf,?_,_,_,rfl⟩
    simp only [al,ai]at hy
    obtain ⟨ob,pl,q1,q2,q3,q4⟩:=hy
    rw [hg]at q1;cases q1
    simp only [res,Option.some.injEq,Prod.mk.injEq,List.cons.injEq,and_true]at q4
    have hr:=h.objs j _ hg
    rw [q4.1]at hr
    have hrf:aq (Imm F p (del j M) w) w (.sl oe.strip) l [v]:=by
     have:=Rel.frz (fun b hb=>((h.del j).2 b hb).1) _ _ (p.σ j) _ (fun b hb=>adc h (c8 hg) hb) hr
     simpa only [O.strip]using this
    have hrf2:=wj hl hrf
    rw [bw]
    simp only [aq]
    have hlen:l'.length=l.length:=by
     obtain ⟨e1,e2⟩:=abl hl
     cases e1
     simp only at e2
     rw [e2]
    simp only [Rel,List.cons.injEq,and_true]at hr
    obtain ⟨v',ety,xs,T,rfl,r2,_⟩:=hr
    rcases ye r2 with ⟨hn,_⟩ | ⟨g,off,cp,cur,hs,_⟩
    ·omega
    ·exact .inr ⟨l',_,_,_,rfl,by rw [hs],by simpa only [aq]using hrf2⟩
   ·cases ht
  ·cases ht
 ·cases ht
theorem beb (hB:TabOk P B) (h:Hp F p M w) (hL:∀ b,¬ p.L b) {t:TypeId} {x0 y0:Operand} (x y:V) (hx:al p.β M (Imm F p M w) w x (a.eval x0)) (hy:al p.β M (Imm F p M w) w y (a.eval y0)) (hv:ae (afa B t x y M).vc) {op:Oper} (hop:op.op=.store t x0 y0) :
  ∃ w',(execOp a.eval op).run P w=.ok .skip w'/\ij F p M w false (afa B t x y M) undef w':=by
 unfold afa at hv ⊢
 split at hv
 ·rename_i c y' e M1 ht
  have hv':ae (ap c (x5 B t (x.evs e) y' M1).vc):=hv
  rw [lh]at hv'
  obtain ⟨t1,r1,_⟩:=bn3 h hy ht hv'.1
  obtain ⟨w',hr,p',t2,hL2,hres,_⟩:=avd hB t1.hp hL (op:=op) (x.evs e) y' (t1.s _ _ hx) r1 hv'.2 hop
  exact ⟨w',hr,p',t1.trans t2,hL2,hres,fun _ hq=>by cases hq⟩
 ·exact avd hB h hL x y hx hy hv hop
theorem bn7 (hΦ:m7 P Φ) (hB:TabOk P B) (h:Hp F p M w) (hL:∀ b,¬ p.L b) (o:Oper) (ρ:Operand->V) (hρ:∀ x ∈ cu o.op,al p.β M (Imm F p M w) w (ρ x) (a.eval x)) (hv:ae (ew B Φ o ρ M).vc) (Q:Exit->Act->World->Prop) :
  o.wp P a w (fun a' w'=>∃ v,a'=a.put o.dst v/\ij F p M w (ni o) (ew B Φ o ρ M) v w') Q:=by
 have pure_ok:∀ {q:List Prop×V} {r:Value},(execOp a.eval o).run P w=.ok (.value r) w->al p.β M (Imm F p M w) w q.2 r->o.wp P a w (fun a' w'=>∃ v,a'=a.put o.dst v/\ij F p M w (ni o) (dz q M) v w') Q:=fun hr hx=>avh hr ⟨_,rfl,ij.pure h hL hx _⟩
 have val_ok:∀ {r:Rs},(∃ v w',(execOp a.eval o).run P w=.ok (.value v) w'/\ij F p M w (ni o) r v w')->o.wp P a w (fun a' w'=>∃ v,a'=a.put o.dst v/\ij F p M w (ni o) r v w') Q:=fun ⟨v,w',hr,hd⟩=>avh hr ⟨_,rfl,hd⟩
 obtain ⟨dst,op,ty',pos,after,guard⟩:=o
 cases op
 case move x=>exact pure_ok (r:=a.eval x) (by simp [execOp]) (hρ x (by simp [cu]))
 case assign x=>exact pure_ok (r:=a.eval x) (by simp [execOp]) (hρ x (by simp [cu]))
 case nilCheck x=>
  simp only [ew,dz]at hv
  obtain ⟨⟨ad,h1⟩,h2⟩:=bmm _ _ (hρ x (by simp [cu])) hv
  exact pure_ok (r:=a.eval x) (by simp [execOp,h1]) h2
 case load t x=>
  simp only [ew]at hv ⊢
  obtain ⟨r,h1,h2⟩:=bh6 hB h hL dst _ _ (hρ x (by simp [cu])) hv (ni { dst:=dst,op:=.load t x,type:=ty',pos:=pos,after:=after,guard:=guard })
  exact val_ok ⟨r,w,by simp [execOp,h1],h2⟩
 case fieldAddr t x i=>
  simp only [ew,dz]at hv
  obtain ⟨r,h1,h2⟩:=bko hB h _ _ (hρ x (by simp [cu])) hv
  exact pure_ok (r:=r) (by simp [execOp,h1]) h2
 case field t x i=>
  simp only [ew,dz]at hv
  obtain ⟨r,h1,h2⟩:=bm0 hB h _ _ (hρ x (by simp [cu])) hv
  exact pure_ok (r:=r) (by simp [execOp,h1]) h2
 case indexAddr t x i=>
  simp only [ew,dz]at hv
  obtain ⟨r,h1,h2⟩:=bln hB h _ _ _ _ (hρ x (by simp [cu])) (hρ i (by simp [cu])) hv
  exact pure_ok (r:=r) (by simp [execOp,h1]) h2
 case index t x i=>
  simp only [ew,dz]at hv
  obtain ⟨r,h1,h2⟩:=bo3 hB t _ _ _ _ (hρ x (by simp [cu])) (hρ i (by simp [cu])) hv
  exact pure_ok (r:=r) (by simp [execOp,h1]) h2
 case binOp op t x y yt=>
  simp only [ew,dz]at hv
  obtain ⟨r,h1,h2⟩:=bjo hB op t x y _ _ _ _ _ (bkc a y) (hρ x (by simp [cu])) (hρ y (by simp [cu])) hv
  refine pure_ok (r:=r) ?_ h2
  simp only [execOp,Sem.run_bind,Sem.run_pure]at h1 ⊢
  rw [h1];rfl
 case unOp op t x=>
  simp only [ew,dz]at hv
  obtain ⟨r,h1,h2⟩:=bnw (P:=P) op _ _ (hρ x (by simp [cu])) hv
  exact pure_ok (r:=r) (by simp [execOp,h1]) h2
 case convert s d x=>
  simp only [ew,dz]at hv
  obtain ⟨r,h1,h2⟩:=bi1 hB s d _ _ (hρ x (by simp [cu])) hv
  exact pure_ok (r:=r) (by simp [execOp,h1]) h2
 case extract x i=>
  simp only [ew,dz]at hv
  obtain ⟨r,h1,h2⟩:=blo (P:=P) _ i _ (hρ x (by simp [cu])) hv
  exact pure_ok (r:=r) (by simp [execOp,h1]) h2
 case slice t x lo hi mx=>
  cases mx with
  | some _=>simp only [ew]at hv;exact hv.1.elim
  | none=>
   simp only [ew]at hv ⊢
   exact val_ok (bmb hB h hL dst ρ x lo hi (hρ x (by simp [cu])) (fun y hy=>hρ y (by subst hy;simp [cu,cu.optL,ap])) (fun y hy=>hρ y (by subst hy;simp [cu,cu.optL,mr])) hv _ rfl)
 case alloc e=>simp only [ew]at hv ⊢;exact val_ok (boj hB h hL dst hv _ rfl)
 case box e x=>simp only [ew]at hv ⊢;exact val_ok (blb h hL dst _ x (hρ x (by simp [cu])) hv _ rfl)
 case build t parts=>simp only [ew]at hv ⊢;exact val_ok (bhr hB h hL ρ (fun q hq=>hρ q.2 (ae8 hq)) hv _ rfl)
 case buildSlice t n parts=>simp only [ew]at hv ⊢;exact val_ok (blp hB h hL ρ (fun q hq=>hρ q.2 (ae8 hq)) dst hv _ rfl)
 case makeSlice t l c=>simp only [ew]at hv ⊢;exact val_ok (bio hB h hL _ _ (hρ l (by simp [cu])) (hρ c (by simp [cu])) dst hv _ rfl)
 case makeFunc fn fs cs=>
  simp only [ew,dz]at hv
  have hlen:(cs.toList.map a.eval).length=(sk ρ cs.toList).length:=by rw [anf,List.length_map]
  unfold at3 at hv
  split at hv
  ·rename_i f c hf hc
   have hfs:fs=#[]:=by apply Array.ext';rw [ge]at hf;simpa using hf
   subst hfs
   rw [ge]at hc
   have hrc:=be0 h (sk ρ cs.toList) (cs.toList.map a.eval) c hlen (fun i v u hv hu=>by
    rw [aod]at hv
    rw [List.getElem?_map]at hu
    cases hx:cs.toList[i]? with
    | none=>rw [hx]at hv;cases hv
    | some x=>
     rw [hx]at hv hu
     simp only [Option.map_some,Option.some.injEq]at hv hu
     subst hv;subst hu
     exact hρ x (by simp only [cu,ge,mr];exact List.mem_append_right _ (List.mem_of_getElem? hx))) hc
   refine pure_ok (r:=.func (.func f) #[] (cs.toList.map a.eval).toArray) (by
    have e:(cs.toList.map a.eval).toArray=cs.map a.eval:=by apply Array.ext';simp
    rw [e];simp [execOp,Instr.makeFunc]) ?_
   have hev:at3 M (.func f) (toL #[]) (sk ρ (toL cs))=d5 (.fn f c):=by unfold at3;rw [ge,ge,hc]
   rw [hev]
   simp only [d5,al,ai]
   exact ⟨_,rfl,hrc⟩
  ·exact hv.1.elim
 case store t x y=>
  simp only [ew,bi9]at hv
  simp only [ew]
  obtain ⟨w',hr,hd⟩:=beb hB h hL (op:={ dst:=dst,op:=.store t x y,type:=ty',pos:=pos,after:=after,guard:=guard }) _ _ (hρ x (by simp [cu])) (hρ y (by simp [cu])) hv rfl
  exact bcg hr ⟨_,rfl,bk0 hd⟩
 case lookup t x i ok=>
  simp only [ew,dz]at hv
  obtain ⟨r,h1,h2⟩:=bjl hB h _ _ _ _ ok (hρ x (by simp [cu])) (hρ i (by simp [cu])) hv
  exact pure_ok (r:=r) (by simp [execOp,h1]) h2
 case makeMap t rs=>
  cases rs with
  | some _=>simp only [ew]at hv;exact hv.1.elim
  | none=>
   simp only [ew]at hv ⊢
   obtain ⟨r,w',h1,h2⟩:=bg2 hB h hL dst hv (ni { dst:=dst,op:=.makeMap t none,type:=ty',pos:=pos,after:=after,guard:=guard })
   exact val_ok ⟨r,w',by simp [execOp,h1],h2⟩
 case mapUpdate t m i x=>
  simp only [ew]at hv ⊢
  obtain ⟨w',hr,hd⟩:=bhq hB h hL _ _ _ _ _ _ (hρ m (by simp [cu])) (hρ i (by simp [cu])) (hρ x (by simp [cu])) hv
  exact bcg (by simp [execOp,hr]) ⟨_,rfl,hd⟩
 case makeInterface t x=>
  simp only [ew,dz]at hv
  obtain ⟨r,h1,h2⟩:=bmu hB h _ _ (hρ x (by simp [cu])) hv
  exact pure_ok (r:=r) (by simp [execOp,h1]) h2
 case typeAssert x xt i ok=>
  simp only [ew,dz]at hv
  obtain ⟨r,h1,h2⟩:=bmi hB (xt:=xt) ok _ _ (hρ x (by simp [cu])) hv
  exact pure_ok (r:=r) (by simp [execOp,h1]) h2
 case call c=>
  obtain ⟨callee,args,argTypes⟩:=c
  simp only [cu,ge]at hρ
  have hρa:∀ x ∈ args.toList,al p.β M (Imm F p M w) w (ρ x) (a.eval x):=fun x hx=>hρ x (by rw [mr];exact List.mem_append_right _ hx)
  simp only [ew,ge]at hv ⊢
  split at hv
  ·split at hv
   ·rename_i x t ha ht
    have ha':args=#[x]:=by apply Array.ext';simpa using ha
    have ht':argTypes=#[t]:=by apply Array.ext';simpa using ht
    subst ha';subst ht'
    simp only [dz]at hv
    obtain ⟨r,h1,h2⟩:=blr hB (ty':=ty') h _ _ (hρa x (by simp)) hv
    refine pure_ok (r:=r) ?_ h2
    simp [execOp,resolve,invoke,builtin,h1]
   ·exact hv.1.elim
  ·split at hv
   ·rename_i x y ha
    have ha':args=#[x,y]:=by apply Array.ext';simpa using ha
    subst ha'
    simp only [dz]at hv
    obtain ⟨r,h1,h2⟩:=bfb (P:=P) true argTypes ty' _ _ _ _ (hρa x (by simp)) (hρa y (by simp)) hv
    exact pure_ok (r:=r) (by simp only [cond_true]at h1;simp [execOp,resolve,invoke,builtin,h1]) h2
   ·exact hv.1.elim
  ·split at hv
   ·rename_i x y ha
    have ha':args=#[x,y]:=by apply Array.ext';simpa using ha
    subst ha'
    simp only [dz]at hv
    obtain ⟨r,h1,h2⟩:=bfb (P:=P) false argTypes ty' _ _ _ _ (hρa x (by simp)) (hρa y (by simp)) hv
    exact pure_ok (r:=r) (by simp only [cond_false]at h1;simp [execOp,resolve,invoke,builtin,h1]) h2
   ·exact hv.1.elim
  ·split at hv
   ·rename_i x y t t' ha ht
    have ha':args=#[x,y]:=by apply Array.ext';simpa using ha
    have ht':argTypes=#[t,t']:=by apply Array.ext';simpa using ht
    subst ha';subst ht'
    simp only [dv]at hv ⊢
    split at hv
    ·rename_i e
     subst e
     rw [if_pos rfl]
     obtain ⟨v',w',hr,hd⟩:=bl0 hB (ty':=ty') h hL dst _ _ _ _ (hρa x (by simp)) (hρa y (by simp)) hv
     exact avh (v:=v') (w':=w') (by simp [execOp,resolve,invoke,builtin,hr]) ⟨_,rfl,hd⟩
    ·exact hv.1.elim
   ·exact hv.1.elim
  ·rename_i cx
   split at hv
   ·rename_i f c d hfn
    split at hv
    ·rename_i ct cs hf hcs
     obtain ⟨us,hcx,hcr⟩:=bo7 (hρ cx (by rw [mr];exact List.mem_append_left _ (by simp [cu.calO]))) hfn
     obtain ⟨cl,crel⟩:=bfv h c us cs hcr hcs
     have hal:(args.toList.map a.eval).length=(sk ρ args.toList).length:=by rw [anf,List.length_map]
     refine azp hΦ h hL hf (o:={ dst:=some d,op:=.call { callee:=.value cx,args:=args,argTypes:=argTypes },type:=ty',pos:=pos,after:=after,guard:=guard }) (ap (sk ρ args.toList) cs) (args.toList.map a.eval++us) (by rw [mr,List.length_append,List.length_append,hal,cl]) (fun i v u hv hu=>?_) (fun hc=>?_) hv _ Q
     ·rw [mr]at hv
      by_cases hi:i < (sk ρ args.toList).length
      ·rw [List.getElem?_append_left hi]at hv
       rw [List.getElem?_append_left (by omega)]at hu
       rw [aod]at hv
       rw [List.getElem?_map]at hu
       cases hx:args.toList[i]? with
       | none=>rw [hx]at hv;cases hv
       | some x=>
        rw [hx]at hv hu
        simp only [Option.map_some,Option.some.injEq]at hv hu
        subst hv;subst hu
        exact hρa x (List.mem_of_getElem? hx)
      ·rw [List.getElem?_append_right (by omega)]at hv
       rw [List.getElem?_append_right (by omega)]at hu
       rw [hal]at hu
       exact crel _ v u hv hu
     ·have e:(args.toList.map a.eval++us).toArray=args.map a.eval++us.toArray:=by apply Array.ext';simp
      rw [e]
      have hc1:=hc (args.map a.eval++us.toArray) w
      simp [execOp,resolve,hcx,Deferred.ofValue,invoke,hc1]
    ·exact hv.1.elim
   ·exact hv.1.elim
  ·rename_i rc name
   split at hv
   ·rename_i t v d hin
    split at hv
    ·rename_i f hfm
     split at hv
     ·rename_i ct hf
      obtain ⟨y,hy,hyr⟩:=bpy (hρ rc (by rw [mr];exact List.mem_append_left _ (by simp [cu.calO]))) hin
      have hal:(args.toList.map a.eval).length=(sk ρ args.toList).length:=by rw [anf,List.length_map]
      refine azp hΦ h hL hf (o:={ dst:=some d,op:=.call { callee:=.invoke rc name,args:=args,argTypes:=argTypes },type:=ty',pos:=pos,after:=after,guard:=guard }) (v::sk ρ args.toList) (y::args.toList.map a.eval) (by simp [hal]) (fun i v' u hv hu=>?_) (fun hc=>?_) hv _ Q
      ·cases i with
       | zero=>
        simp only [List.getElem?_cons_zero,Option.some.injEq]at hv hu
        subst hv;subst hu
        exact bq hyr
       | succ i=>
        simp only [List.getElem?_cons_succ]at hv hu
        rw [aod]at hv
        rw [List.getElem?_map]at hu
        cases hx:args.toList[i]? with
        | none=>rw [hx]at hv;cases hv
        | some x=>
         rw [hx]at hv hu
         simp only [Option.map_some,Option.some.injEq]at hv hu
         subst hv;subst hu
         exact hρa x (List.mem_of_getElem? hx)
      ·have e:(y::args.toList.map a.eval).toArray=#[y]++args.map a.eval:=by apply Array.ext';simp
       rw [e]
       have hc1:=hc (#[y]++args.map a.eval) w
       obtain ⟨k,hk⟩:∃ k,P.types.size+Made.depth=k+1:=⟨P.types.size+99,rfl⟩
       have hm:=bj9 (w:=w) hB.m hfm k y
       have e0:(#[Value.iface t y]++args.map a.eval)[0]? = some (Value.iface t y):=by rw [Array.getElem?_append_left Nat.zero_lt_one];rfl
       have e2:(args.map a.eval).extract 0 args.size=args.map a.eval:=by
        have:=Array.extract_size (xs:=args.map a.eval)
        rwa [Array.size_map]at this
       simp only [execOp,resolve,hy]
       simp [invoke,callMethod,e0,e2,hk,hm,hc1]
     ·exact hv.1.elim
    ·exact hv.1.elim
   ·exact hv.1.elim
  ·exact hv.1.elim
 all_goals exact hv.1.elim
end
end Go.Bm
/- The gi machine:regions in the order of their text. -/
namespace Go.Bm
open Go.RowKit
section
variable {F:Fr} {p p' p'':Ow} {env:Env} {M M' M'':Mem} {a:Act} {w w' w'':World} {P:Program} {B:Tab} {Φ:FuncId->Option Ct}
section
variable (hp:Hp F p' M' w') (q:Qt p M p' M' w w') (hL:∀ b,¬ p.L b)
include hp q hL
omit hp in
theorem av2 {b:Nat} (h:Imm F p' M' w' b):Imm F p M w' b:=by
 refine ⟨h.1,h.2.1,hL b,fun j hj=>?_⟩
 obtain ⟨ob,ho⟩:=av6 hj
 obtain ⟨h1,h2,h3⟩:=q.old j ob ho
 rw [← h3]
 exact h.2.2.2 j (c8 h1)
theorem bc8 {k b:Nat} (hk:go M k=none) (hl:er M' k) (h:p'.σ k b):Imm F p M w' b:=by
 obtain ⟨h1,h2⟩:=hp.own k b hl h
 refine ⟨h1,h2.elim (fun h=>.inr (.inl h.2)) (fun h=>.inr (.inr h)),hL b,fun j hj=>?_⟩
 obtain ⟨ob,ho⟩:=av6 hj
 obtain ⟨e1,e2,e3⟩:=q.old j ob ho
 rw [← e3]
 exact hp.sep k j b (fun e=>by rw [e,ho]at hk;cases hk) hl (c8 e1) h
theorem bnt (k:Nat) (π:b9) (vs:List Value) (r:Ref p'.β M' w' k π vs):ai p.β M (Imm F p M w') w' (avF M M' (.ref k π)) vs:=by
 simp only [avF]
 split
 ·rename_i ob ho
  obtain ⟨e1,e2,e3⟩:=q.old k ob ho
  simp only [ai]
  obtain ⟨ob',pl,k1,k2,k3,k4⟩:=r
  rw [e1]at k1;cases k1
  exact ⟨ob,pl,ho,k2,k3,by rw [← e2];exact k4⟩
 ·rename_i ho
  split
  ·rename_i qq hq
   obtain ⟨ob,g1,g2⟩:=ru hq
   obtain ⟨ob',pl,k1,k2,k3,k4⟩:=r
   rw [g1]at k1;cases k1
   obtain ⟨us,pl',S',e1,e2,e3,_⟩:=look hp g1 k2 g2
   rw [e1]at k4;cases k4
   exact sm _ _ _ (Rel.frz (fun b hb=>av2 q hL hb) _ _ S' _ (fun b hb=>bc8 hp q hL ho (c8 g1) (e2 b hb)) e3)
  ·simp only [ai];exact r.one hp
theorem bpl (k:Nat) (π:b9) (v:Value) (r:Adr p'.β M' w' k π v):ai p.β M (Imm F p M w') w' (avF M M' (.ad k π)) [v]:=by
 simp only [avF]
 split
 ·rename_i ob ho
  obtain ⟨e1,e2,e3⟩:=q.old k ob ho
  simp only [ai]
  obtain ⟨ob',us,b,off,k1,k2,k3,k4,k5,k6⟩:=r
  rw [e1]at k1;cases k1
  exact ⟨v,rfl,ob,us,b,off,ho,k2,k3,k4,by rw [← e2];exact k5,k6⟩
 ·rename_i ho
  split
  ·rename_i qq hq
   obtain ⟨ob,g1,g2⟩:=ru hq
   obtain ⟨ob',us0,b0,off0,k1,k2,k3,k4,k5,rfl⟩:=r
   rw [g1]at k1;cases k1
   obtain ⟨us,pl',S',e1,e2,e3,e4,_⟩:=look hp g1 k2 g2
   rw [e1]at k5
   simp only [Option.some.injEq,Prod.mk.injEq]at k5
   obtain ⟨rfl,rfl⟩:=k5
   obtain ⟨b,off,cur,ty',c1,c2,c3,c4,c5⟩:=e4 k4
   simp only [Option.some.injEq,Prod.mk.injEq]at c1
   obtain ⟨rfl,rfl⟩:=c1
   simp only [ai,aq]
   exact ⟨b0,off0,us,rfl,bc8 hp q hL ho (c8 g1) c2,fun j u hu=>by rw [cell_of_row w' b0 _ cur ty' (0,0) c4];exact c5 j u hu,
    Rel.frz (fun b hb=>av2 q hL hb) _ _ S' _ (fun b hb=>bc8 hp q hL ho (c8 g1) (e2 b hb)) e3⟩
  ·simp only [ai];intro u hu;rw [List.mem_singleton.1 hu];exact r.one
theorem xd:(v:V)->(vs:List Value)->ai p'.β M' (Imm F p' M' w') w' v vs->ai p.β M (Imm F p M w') w' (avF M M' v) vs
 | .p a b,vs,r=>by
  simp only [ai]at r
  simp only [avF,ai]
  obtain ⟨va,vb,h1,h2,h3⟩:=r
  exact ⟨va,vb,h1,xd a va h2,xd b vb h3⟩
 | .u,vs,r=>by simpa only [avF,ai]using r
 | .ref k π,vs,r=>by simp only [ai]at r;exact bnt hp q hL k π vs r
 | .ad k π,vs,r=>by simp only [ai]at r;obtain ⟨v,rfl,r⟩:=r;exact bpl hp q hL k π v r
 | .d t x,vs,r=>by simp only [ai,avF]at r ⊢;exact aq.keep (fun b hb=>⟨av2 q hL hb,rfl⟩) t x vs r
 | .nl,vs,r=>by simpa only [avF,ai]using r
 | .np,vs,r=>by simpa only [avF,ai]using r
 | .any,vs,r=>by simpa only [avF,ai]using r
 | .fn f v,vs,r=>by
  simp only [ai]at r
  simp only [avF,ai]
  obtain ⟨us,h1,h2⟩:=r
  exact ⟨us,h1,xd v us h2⟩
 | .bx v,vs,r=>by
  simp only [ai]at r
  simp only [avF,ai]
  obtain ⟨b,o,us,h1,h2,h3,h4⟩:=r
  exact ⟨b,o,us,h1,av2 q hL h2,h3,xd v us h4⟩
 | .ag _,vs,r=>by simp only [ai]at r
 | .tup _,vs,r=>by simp only [ai]at r
 | .gd _ _ _ _,vs,r=>by simp only [ai]at r
 | .ifc t v,vs,r=>by
  simp only [ai]at r
  simp only [avF,ai]
  obtain ⟨u,h1,h2⟩:=r
  exact ⟨u,h1,xd v [u] h2⟩
mutual
theorem bm6:(v:V)->(u:Value)->al p'.β M' (Imm F p' M' w') w' v u->al p.β M (Imm F p M w') w' (avF M M' v) u
 | .any,u,r=>by simp only [avF,al]
 | .ag v,u,r=>by
  simp only [avF,al]at r ⊢
  obtain ⟨vs,h1,h2⟩:=r
  exact ⟨vs,h1,xd hp q hL v vs h2⟩
 | .tup v,u,r=>by
  simp only [avF,al]at r ⊢
  obtain ⟨vs,h1,h2⟩:=r
  exact ⟨vs,h1,bni v vs h2⟩
 | .gd _ _ _ _,u,r=>by simp only [avF,al]
 | .ifc t v,u,r=>by simp only [al]at r;exact bq (xd hp q hL _ _ r)
 | .p a b,u,r=>by simp only [al]at r;exact bq (xd hp q hL _ _ r)
 | .u,u,r=>by simp only [al]at r;exact bq (xd hp q hL _ _ r)
 | .ref k π,u,r=>by simp only [al]at r;exact bq (xd hp q hL _ _ r)
 | .ad k π,u,r=>by simp only [al]at r;exact bq (xd hp q hL _ _ r)
 | .d t x,u,r=>by simp only [al]at r;exact bq (xd hp q hL _ _ r)
 | .nl,u,r=>by simp only [al]at r;exact bq (xd hp q hL _ _ r)
 | .np,u,r=>by simp only [al]at r;exact bq (xd hp q hL _ _ r)
 | .fn f x,u,r=>by simp only [al]at r;exact bq (xd hp q hL _ _ r)
 | .bx x,u,r=>by simp only [al]at r;exact bq (xd hp q hL _ _ r)
theorem bni:(v:V)->(us:List Value)->cz p'.β M' (Imm F p' M' w') w' v us->cz p.β M (Imm F p M w') w' (avF M M' v) us
 | .p a b,us,r=>by
  simp only [avF,cz]at r ⊢
  obtain ⟨u,us',h1,h2,h3⟩:=r
  exact ⟨u,us',h1,bm6 a u h2,bni b us' h3⟩
 | .u,us,r=>by simpa only [avF,cz]using r
 | .any,us,r=>by simp only [cz]at r
 | .ag x,us,r=>by simp only [cz]at r
 | .tup x,us,r=>by simp only [cz]at r
 | .gd _ _ _ x,us,r=>by simp only [cz]at r
 | .ifc t x,us,r=>by simp only [cz]at r
 | .ref k π,us,r=>by simp only [cz]at r
 | .ad k π,us,r=>by simp only [cz]at r
 | .d t x,us,r=>by simp only [cz]at r
 | .nl,us,r=>by simp only [cz]at r
 | .np,us,r=>by simp only [cz]at r
 | .fn f x,us,r=>by simp only [cz]at r
 | .bx x,us,r=>by simp only [cz]at r
end
end
theorem bat (h:St F p env M a w) (x:Operand) (hx:abn x=true):al p.β M (Imm F p M w) w (rd env x) (a.eval x):=by
 cases x with
 | tmp t=>simp only [rd,Act.eval];exact h.slots t
 | const v=>
  simp only [rd,Act.eval]
  simp only [abn]at hx
  cases v with
  | int k n=>
   simp only [rdV,bw,gm,true_and]
   simp only [bg8,inKb,br,b8,Bool.and_true,Bool.and_eq_true,decide_eq_true_eq]at hx
   exact hx
  | bool b=>simp only [rdV,bw,gy]
  | string s=>
   simp only [rdV,bw,ai6,true_and]
   simp only [bg8]at hx
   exact Nat.le_of_ble_eq_true hx
  | slice o n m=>
   cases o with
   | some _=>simp only [rdV,al]
   | none=>
    simp only [rdV]
    cases hb:nob (Nat.beq n 0) (Nat.beq m 0)with
    | false=>simp only [cond_false,al]
    | true=>
     simp only [bc,Bool.and_eq_true]at hb
     have h1:=Nat.eq_of_beq_eq_true hb.1
     have h2:=Nat.eq_of_beq_eq_true hb.2
     subst h1;subst h2
     simp only [cond_true,al,ai]
     exact ⟨none,rfl⟩
  | pointer o=>
   cases o with
   | some _=>simp only [rdV,al]
   | none=>simp only [rdV,al,ai]
  | _=>simp only [rdV,al]
 | func f=>
  simp only [rd,Act.eval,al,ai]
  exact ⟨[],rfl,rfl⟩
 | global g=>simp only [rd,al]
theorem aj1 (f:Operand->V):∀ (l:List Operand),ae (nf f l)->∀ x ∈ l,∀ j b Q v,f x=.gd j b Q v->Q
 | [],_,x,hx,_,_,_,_,_=>by cases hx
 | y::r,h,x,hx,j,b,Q,v,e=>by
  simp only [nf]at h
  rcases List.mem_cons.1 hx with rfl | hx
  ·rw [e]at h;exact h.1
  ·split at h
   ·exact aj1 f r h.2 x hx j b Q v e
   ·exact aj1 f r h x hx j b Q v e
theorem am4 {x:Operand} {u:Value} (h:al p.β M (Imm F p M w) w (rd env x) u) (hn:∀ j b Q v,rd env x=.gd j b Q v->Q):al p.β M (Imm F p M w) w (rd env x).strip u:=by
 cases hx:rd env x with
 | gd j b Q v=>
  rw [hx]at h
  simp only [al]at h
  simp only [V.strip]
  exact h.1 (hn j b Q v hx)
 | _=>rw [hx]at h;exact h
def yB (u:Value):Option Bool:=match u with | .bool b=>some b | _=>none
theorem baw {β:Nat->Value} {Im:Nat->Prop}:(x:V)->(u:Value)->(want:Bool)->lx x=true->al β M Im w x u->((yB u == some want)=true<->gc x want)
 | .d .bool b,u,want,_,r=>by rw [bw,gy]at r;subst r;simp [yB,gc]
 | .gd j b Q x,u,want,h,r=>by
  simp only [al]at r
  simp only [lx]at h
  simp only [gc]
  by_cases hp:Q
  ·rw [baw x u want h (r.1 hp)];simp [hp]
  ·rw [r.2 hp];simp [yB,undef,hp]
 | .any,_,_,h,_=>by simp [lx]at h
 | .nl,_,_,h,_=>by simp [lx]at h
 | .np,_,_,h,_=>by simp [lx]at h
 | .u,_,_,h,_=>by simp [lx]at h
 | .d (.int _) _,_,_,h,_=>by simp [lx]at h
 | .d .str _,_,_,h,_=>by simp [lx]at h
 | .d .u _,_,_,h,_=>by simp [lx]at h
 | .d (.p _ _) _,_,_,h,_=>by simp [lx]at h
 | .d (.sl _) _,_,_,h,_=>by simp [lx]at h
 | .d (.pt _) _,_,_,h,_=>by simp [lx]at h
 | .d (.fn _ _) _,_,_,h,_=>by simp [lx]at h
 | .d .any _,_,_,h,_=>by simp [lx]at h
 | .ref _ _,_,_,h,_=>by simp [lx]at h
 | .ad _ _,_,_,h,_=>by simp [lx]at h
 | .p _ _,_,_,h,_=>by simp [lx]at h
 | .ag _,_,_,h,_=>by simp [lx]at h
 | .tup _,_,_,h,_=>by simp [lx]at h
 | .fn _ _,_,_,h,_=>by simp [lx]at h
 | .ifc _ _,_,_,h,_=>by simp [lx]at h
 | .bx _,_,_,h,_=>by simp [lx]at h
theorem aoa {ops:Array Oper} {tmps:Array Value} {j d:Nat} (hd:(ops[j]?).bind (·.dst)=some d):yielded ops tmps j=yB (tmps.getD d undef):=by
 unfold yielded
 rw [hd]
 simp only [Option.bind_some]
 rw [Array.getD_eq_getD_getElem?]
 cases tmps[d]? with
 | none=>rfl
 | some u=>cases u <;> rfl
theorem amz {v:V} (h:v.isB=true):∃ b,v=.d .bool b/\v.boolV=b:=by
 cases v with
 | d t x=>cases t <;> simp [V.isB]at h;exact ⟨x,rfl,rfl⟩
 | _=>simp [V.isB]at h
theorem bil (h:St F p env M a w) (c x y:Operand) (hc:abn c=true) (hx:abn x=true) (hy:abn y=true) (hv:ae (ad1 env c x y).1) :
  ∃ r,(do pure (if ← asBool (a.eval c)then a.eval x else a.eval y):Sem Value).run P w=.ok r w/\al p.β M (Imm F p M w) w (ad1 env c x y).2 r:=by
 unfold ad1 at hv ⊢
 have hk:=lw hv
 simp only [hk,cond_true]at hv ⊢
 simp only [br,b8,Bool.and_true,Bool.and_eq_true]at hk
 obtain ⟨cb,c1,c2⟩:=amz hk.1
 obtain ⟨xb,x1,x2⟩:=amz hk.2.1
 obtain ⟨yb,y1,y2⟩:=amz hk.2.2
 simp only [lh]at hv
 obtain ⟨v1,v2,v3⟩:=hv
 have hcv:=am4 (bat h c hc) (fun j b Q v e=>aj1 _ _ v1 c (by simp) j b Q v e)
 rw [c1,bw,gy]at hcv
 simp only [c1,x1,y1,V.boolV]at v2 v3 ⊢
 have hxv:cb=true->a.eval x=.bool xb:=fun hcb=>by
  have:=am4 (bat h x hx) (fun j b Q v e=>by
   rw [e]at v2
   simp only [afl,d6]at v2
   exact v2.1 hcb)
  rwa [x1,bw,gy]at this
 have hyv:cb=false->a.eval y=.bool yb:=fun hcb=>by
  have:=am4 (bat h y hy) (fun j b Q v e=>by
   rw [e]at v3
   simp only [afl,d6]at v3
   exact v3.1 hcb)
  rwa [y1,bw,gy]at this
 have hval:∀ r,r=(if cb=true then a.eval x else a.eval y)->r=.bool (bif cb then xb else yb):=fun r hr=>by
  cases cb with
  | true=>rw [hr,if_pos rfl,hxv rfl];rfl
  | false=>rw [hr,if_neg (by simp),hyv rfl];rfl
 have hpick:bap cb x y xb yb=(bif cb then xb else yb):=by
  unfold bap
  split
  ·simp only [rd,rdV,V.strip,V.d.injEq,heq_eq_eq,true_and]at x1
   subst x1
   cases cb <;> rfl
  ·simp only [rd,rdV,V.strip,V.d.injEq,heq_eq_eq,true_and]at y1
   subst y1
   cases cb <;> simp
  ·rfl
 refine ⟨if cb=true then a.eval x else a.eval y,?_,?_⟩
 ·simp only [Sem.run_bind,Sem.run_pure,hcv,asBool,Result.andThen_ok]
 ·rw [bw,gy,hpick]
  exact hval _ rfl
def l7 (nt:Nat):List Oper->Bool
 | []=>true
 | o::r=>nob (match o.dst with | some k=>Nat.ble (Nat.succ k) nt | none=>true) (nob (bbf abn (cu o.op)) (nob (match o.op with | .pick c a b=>bt [abn c,abn a,abn b] | _=>true) (l7 nt r)))
theorem adu {nt:Nat} {o:Oper} {r:List Oper} (h:l7 nt (o::r)=true):(∀ k,o.dst=some k->k < nt)/\(∀ x ∈ cu o.op,abn x=true)/\(∀ c a b,o.op=.pick c a b->abn c=true/\abn a=true/\abn b=true)/\l7 nt r=true:=by
 simp only [l7,bc,Bool.and_eq_true]at h
 obtain ⟨h1,h2,h3,h4⟩:=h
 refine ⟨fun k hk=>?_,(bk7 _ _).1 h2,fun c a b e=>?_,h4⟩
 ·rw [hk]at h1;exact Nat.le_of_ble_eq_true h1
 ·rw [e]at h3;simpa only [br,b8,Bool.and_true,Bool.and_eq_true]using h3
theorem t7 {nt:Nat} {o:Oper}:{l:List Oper}->l7 nt l=true->o ∈ l->l7 nt [o]=true
 | [],_,h=>by cases h
 | x::l,h,hm=>by
  rcases List.mem_cons.1 hm with rfl | hm
  ·simp only [l7,bc,Bool.and_eq_true]at h ⊢
   exact ⟨h.1,h.2.1,h.2.2.1,trivial⟩
  ·exact t7 (adu h).2.2.2 hm
theorem aph (hΦ:m7 P Φ) (hB:TabOk P B) (h:St F p env M a w) {o:Oper} (hc:l7 F.nt [o]=true) (hv:ae (evR B Φ o env M).vc) (Q:Exit->Act->World->Prop) :
  o.wp P a w (fun a' w'=>∃ v,a'=a.put o.dst v/\ij F p M w (ni o) (evR B Φ o env M) v w') Q:=by
 obtain ⟨_,c1,c2,_⟩:=adu hc
 have key:∀ r:Rs,ew B Φ o (fun x=>(rd env x).strip) M=r->ae (nf (rd env) (cu o.op))->ae r.vc->o.wp P a w (fun a' w'=>∃ v,a'=a.put o.dst v/\ij F p M w (ni o) r v w') Q:=fun r hr h1 h2=>by
  subst hr
  exact bn7 hΦ hB h.hp h.lz o _ (fun x hx=>am4 (bat h x (c1 x hx)) (fun j b Q v e=>aj1 _ _ h1 x hx j b Q v e)) h2 Q
 unfold evR at hv ⊢
 split at hv
 ·rename_i c x y hop
  obtain ⟨k1,k2,k3⟩:=c2 c x y hop
  simp only [dz]at hv
  obtain ⟨r,h1,h2⟩:=bil (P:=P) h c x y k1 k2 k3 hv
  refine avh (v:=r) (w':=w) ?_ ⟨_,rfl,ij.pure h.hp h.lz h2 _⟩
  simp only [Sem.run_bind,Sem.run_pure]at h1
  simp only [execOp,hop,Sem.run_bind,Sem.run_pure]
  cases hcc:(asBool (a.eval c)).run P w with
  | ok b w1=>rw [hcc]at h1;simp only [Result.andThen_ok,Result.ok.injEq]at h1 ⊢;rw [h1.1,h1.2];exact ⟨rfl,rfl⟩
  | halt hh w1=>rw [hcc]at h1;simp at h1
 ·generalize hq:ew B Φ o (fun x=>(rd env x).strip) M=q at hv ⊢
  obtain ⟨vc,v,e,M1⟩:=q
  simp only [lh]at hv ⊢
  refine Oper.wp_mono (fun a' w' ⟨u,h1,p',h2,h3,h4,h5⟩=>⟨u,h1,p',h2,h3,h4,h5⟩) (key _ hq hv.1 hv.2)
theorem St.wrO {d:Option Nat} (h:St F p env M a w) (x:V) (v:Value) (hx:al p.β M (Imm F p M w) w x v) (hd:∀ k,d=some k->F.ok k):St F p (wr d x env) M (a.put d v) w:=by
 cases d with
 | none=>exact h
 | some k=>exact h.write k x v hx (hd k rfl)
theorem ij.frz {r:Rs} {v:Value} (h:St F p env M a w) (hd:ij F p M w true r v w') (hf:fresh M r.ev=true):St F p env M a w'/\al p.β M (Imm F p M w') w' (avF M r.M r.av) v:=by
 obtain ⟨p',h1,h2,h3,h4⟩:=hd
 have q:=h4 hf rfl
 exact ⟨h.ext q.ext,bm6 h1.hp q h.lz _ _ h3⟩
theorem ars (all:Array Oper) (j:Nat):tj (toL all) j=(all[j]?).bind (·.dst):=by
 unfold tj
 rw [zm,ge,Array.getElem?_toList]
 cases all[j]? <;> rfl
theorem bdn {o:Oper} (hc:l7 F.nt [o]=true) (hfv:∀ k,o.dst=some k->F.fv k=none):∀ k,o.dst=some k->F.ok k:=fun k hk=>⟨(adu hc).1 k hk,hfv k hk⟩
theorem aw2 (hΦ:m7 P Φ) (hB:TabOk P B) (all:Array Oper) (h:St F p env M a w) {o:Oper} {rest:List Oper} {K:Env->Mem->Prop} (hk:tw B Φ (toL all) (o::rest) env M K) (hc:l7 F.nt [o]=true) (hfv:∀ k,o.dst=some k->F.fv k=none) (Q:Exit->Act->World->Prop) :
  (if Region.wanted o (yielded all a.tmps)then o.wp P a w (fun a' w'=>∃ p' env' M',St F p' env' M' a' w'/\tw B Φ (toL all) rest env' M' K) Q\/(o.asks P a w/\LetsOut Q)else ∃ p' env' M',St F p' env' M' (a.put o.dst undef) w/\tw B Φ (toL all) rest env' M' K):=by
 simp only [tw]at hk
 have hdst:=bdn hc hfv
 cases hg:o.guard with
 | none=>
  rw [hg]at hk
  rw [if_pos (by simp [Region.wanted,hg])]
  generalize hq:evR B Φ o env M=q at hk
  obtain ⟨vc,v,e,M1⟩:=q
  simp only [od]at hk
  refine .inl (Oper.wp_mono (fun a' w' ⟨u,h1,p',h2,h3,h4,_⟩=>?_) (aph hΦ hB h hc (by rw [hq];exact hk.1) Q))
  rw [hq]at h2 h4
  rw [h1]
  exact ⟨p',_,_,(h.tr h2 h3).wrO _ u h4 hdst,hk.2⟩
 | some g=>
  obtain ⟨j,want⟩:=g
  rw [hg]at hk
  simp only [ars]at hk
  cases hdj:(all[j]?).bind (·.dst)with
  | none=>rw [hdj]at hk;exact hk.elim
  | some dj=>
   rw [hdj]at hk
   generalize hq:evR B Φ o env M=q at hk
   obtain ⟨vc,v,e,M1⟩:=q
   simp only at hk
   cases hb:bt [lx (gt env dj),ni o,fresh M e]with
   | false=>rw [hb]at hk;exact hk.elim
   | true=>
    rw [hb]at hk
    simp only [cond_true,ah2]at hk
    simp only [br,b8,Bool.and_true,Bool.and_eq_true]at hb
    have hy:=baw _ _ want hb.1 (h.slots dj)
    have hw:Region.wanted o (yielded all a.tmps)=(yB (a.tmps.getD dj undef) == some want):=by simp only [Region.wanted,hg,aoa hdj]
    rw [hw]
    by_cases hcg:gc (gt env dj) want
    ·rw [if_pos (hy.2 hcg)]
     refine .inl (Oper.wp_mono (fun a' w' ⟨u,h1,hd⟩=>?_) (aph hΦ hB h hc (by rw [hq];exact hk.1 hcg) Q))
     rw [hq,hb.2.1]at hd
     obtain ⟨h2,h3⟩:=ij.frz h hd hb.2.2
     rw [h1]
     exact ⟨p,_,_,h2.wrO _ u (by simp only [al];exact ⟨fun _=>h3,fun hn=>absurd hcg hn⟩) hdst,hk.2⟩
    ·rw [if_neg (fun hh=>hcg (hy.1 hh))]
     exact ⟨p,_,_,h.wrO _ undef (by simp only [al];exact ⟨fun hn=>absurd hn hcg,fun _=>trivial⟩) hdst,hk.2⟩
theorem bne (hΦ:m7 P Φ) (hB:TabOk P B) (all:Array Oper) (Q:Exit->Act->World->Prop) (K:Env->Mem->Prop) (hQ:∀ p env M a w,St F p env M a w->K env M->Q .normal a w) :
  ∀ (ops:List Oper) (p:Ow) (env:Env) (M:Mem) (a:Act) (w:World),l7 F.nt ops=true->(∀ o ∈ ops,∀ k,o.dst=some k->F.fv k=none)->St F p env M a w->tw B Φ (toL all) ops env M K->wpList P all Q ops a w
 | [],p,env,M,a,w,_,_,h,hk=>hQ p env M a w h hk
 | o::rest,p,env,M,a,w,hc,hfv,h,hk=>by
  have hc1:=t7 hc (List.mem_cons_self)
  have hst:=aw2 hΦ hB all h hk hc1 (hfv o (by simp)) Q
  have ih:∀ p' env' M' a' w',St F p' env' M' a' w'->tw B Φ (toL all) rest env' M' K->wpList P all Q rest a' w':=fun p' env' M' a' w' h1 h2=>bne hΦ hB all Q K hQ rest p' env' M' a' w' (adu hc).2.2.2 (fun o' ho'=>hfv o' (by simp [ho'])) h1 h2
  unfold wpList
  split at hst
  ·rename_i hw
   rw [if_pos hw]
   exact hst.imp (Oper.wp_mono (fun a' w' ⟨p',env',M',h1,h2⟩=>ih p' env' M' a' w' h1 h2)) id
  ·rename_i hw
   rw [if_neg hw]
   obtain ⟨p',env',M',h1,h2⟩:=hst
   exact ih p' env' M' _ w h1 h2
end
end Go.Bm
/- The gi machine:regions whose order is left open. -/
namespace Go.Bm
open Go.RowKit
def ww:Nat->List Oper->Bool
 | _,[]=>true
 | j,o::r=>(o.after.toList.all fun e=>!Region.binds .any e || Nat.blt e.on j) && ww (j+1) r
def acr (ops:Array Oper) (o:Oper):List Nat:=o.looksAt ops
def ald (ops:Array Oper) (ms:List Nat) (i j:Nat) (x y:Oper):Bool:=
 match x.dst with
 | none=>true
 | some t=>(match y.dst with | some t'=>!(Nat.beq t t') | none=>true) && (!((acr ops y).contains t) || (if i < j then (ms.getD j 0).testBit i else (ms.getD i 0).testBit j))
def af9 (ops:Array Oper) (ms:List Nat) (m:Nat):Bool:=
 (List.range m).all fun i=>(List.range m).all fun j=>Nat.beq i j || match ops[i]?,ops[j]? with
  | some x,some y=>ald ops ms i j x y
  | _,_=>true
def auz (ops:Array Oper) (ms:List Nat) (m:Nat):Bool:=
 (List.range ops.size).all fun j=>Nat.blt j m || (List.range j).all fun i=>(ms.getD j 0).testBit i
def isL (listed:Array Bool) (i:Nat):Prop:=listed.getD i false=true
def unl (listed:Array Bool):Nat->Nat
 | 0=>0
 | n+1=>(if listed.getD n false then 0 else 1)+unl listed n
theorem bj4 (listed:Array Bool) (i:Nat):∀ n,n<=i->unl (listed.setIfInBounds i true) n=unl listed n
 | 0,_=>rfl
 | n+1,h=>by rw [unl,unl,bj4 listed i n (by omega),getD_set_ne false (by omega)]
theorem aeq {listed:Array Bool} {i:Nat} (hi:i < listed.size) (hl:¬ isL listed i):∀ n,i < n->unl (listed.setIfInBounds i true) n+1=unl listed n
 | 0,h=>by omega
 | n+1,h=>by
  rw [unl,unl]
  by_cases e:i=n
  ·subst e
   rw [bj4 listed i i (Nat.le_refl _)]
   have h1:(listed.setIfInBounds i true).getD i false=true:=by simp [hi]
   have h2:listed.getD i false=false:=by simpa [isL]using hl
   rw [h1,h2];simp+arith
  ·rw [getD_set_ne false e]
   have:=aeq hi hl n (by omega)
   omega
theorem ac7 {listed:Array Bool}:∀ {n},unl listed n=0->∀ i,i < n->isL listed i
 | 0,_,i,h=>by omega
 | n+1,h,i,hi=>by
  rw [unl]at h
  by_cases e:i=n
  ·subst e
   unfold isL
   cases hb:listed.getD i false with
   | true=>rfl
   | false=>rw [hb]at h;simp at h
  ·exact ac7 (n:=n) (by omega) i (by omega)
section
variable {ops:Array Oper} {listed:Array Bool}
def ac5 (ops:Array Oper) (listed:Array Bool):Prop:=∀ (j:Nat) (o:Oper),ops[j]? = some o->isL listed j->∀ e ∈ o.after,Region.binds .any e=true->isL listed e.on
theorem bhv (ms:List Nat) (o:Oper) (i:Nat) (h:(alm ms o).testBit i=true):∃ e ∈ o.after,Region.binds .any e=true/\(e.on=i\/(ms.getD e.on 0).testBit i=true):=by
 unfold alm at h
 have key:∀ (l:List Edge) (m:Nat),(l.foldl (fun m e=>if Region.binds .any e then m ||| (1 <<< e.on) ||| (ms.getD e.on 0)else m) m).testBit i=true->m.testBit i=true\/∃ e ∈ l,Region.binds .any e=true/\(e.on=i\/(ms.getD e.on 0).testBit i=true):=by
  intro l
  induction l with
  | nil=>intro m h;exact .inl h
  | cons e l ih=>
   intro m h
   rw [List.foldl_cons]at h
   rcases ih _ h with h1 | ⟨e',h1,h2⟩
   ·split at h1
    ·rename_i hb
     simp only [Nat.testBit_or,Bool.or_eq_true]at h1
     rcases h1 with (h1 | h1) | h1
     ·exact .inl h1
     ·refine .inr ⟨e,by simp,hb,.inl ?_⟩
      rw [Nat.shiftLeft_eq,Nat.one_mul]at h1
      rw [Nat.testBit_two_pow]at h1;exact of_decide_eq_true h1
     ·exact .inr ⟨e,by simp,hb,.inr h1⟩
    ·exact .inl h1
   ·exact .inr ⟨e',by simp [h1],h2⟩
 rcases key _ _ h with h1 | ⟨e,h1,h2⟩
 ·simp at h1
 ·exact ⟨e,Array.mem_toList_iff.1 h1,h2⟩
theorem azf:∀ (l:List Oper) (ms:List Nat) (pre:List Oper),ms.length=pre.length->(∀ j o,pre[j]? = some o->∃ ms',ms.getD j 0=alm ms' o/\∀ k,ms'.getD k 0=ms.getD k 0\/ms'.getD k 0=0)->
  ∀ j o,(pre++l)[j]? = some o->∃ ms',(g8 ms l).getD j 0=alm ms' o/\∀ k,ms'.getD k 0=(g8 ms l).getD k 0\/ms'.getD k 0=0
 | [],ms,pre,_,h,j,o,hj=>by simpa [g8]using h j o (by simpa using hj)
 | x::l,ms,pre,hlen,h,j,o,hj=>by
  rw [g8]
  refine azf l (ms++[alm ms x]) (pre++[x]) (by simp [hlen]) (fun j o hj=>?_) j o (by simpa using hj)
  by_cases e:j < pre.length
  ·rw [List.getElem?_append_left e]at hj
   obtain ⟨ms',h1,h2⟩:=h j o hj
   refine ⟨ms',by rw [← h1];simp [List.getD_eq_getElem?_getD,List.getElem?_append_left (hlen ▸ e)],fun k=>?_⟩
   rcases h2 k with h3 | h3
   ·by_cases e2:k < ms.length
    ·left;rw [h3];simp [List.getD_eq_getElem?_getD,List.getElem?_append_left e2]
    ·right;rw [h3];simp [List.getD_eq_getElem?_getD,List.getElem?_eq_none (Nat.le_of_not_lt e2)]
   ·exact .inr h3
  ·have hj':=(List.getElem?_eq_some_iff.1 hj).1
   simp at hj'
   have:j=pre.length:=by omega
   subst this
   simp at hj
   subst hj
   refine ⟨ms,by simp [List.getD_eq_getElem?_getD,← hlen],fun k=>?_⟩
   by_cases e2:k < ms.length
   ·left;simp [List.getD_eq_getElem?_getD,List.getElem?_append_left e2]
   ·right;simp [List.getD_eq_getElem?_getD,List.getElem?_eq_none (Nat.le_of_not_lt e2)]
theorem ad9:∀ (l:List Oper) (k:Nat),ww k l=true->∀ j o,l[j]? = some o->∀ e ∈ o.after,Region.binds .any e=true->e.on < k+j
 | [],_,_,j,o,h=>by simp at h
 | x::l,k,hb,j,o,h=>by
  simp only [ww,Bool.and_eq_true]at hb
  intro e he hbi
  cases j with
  | zero=>
   simp only [List.getElem?_cons_zero,Option.some.injEq]at h
   subst h
   have:=List.all_eq_true.1 hb.1 e (Array.mem_toList_iff.2 he)
   simpa [hbi,Nat.blt_eq]using this
  | succ j=>
   simp only [List.getElem?_cons_succ]at h
   have:=ad9 l (k+1) hb.2 j o h e he hbi
   omega
theorem jk (hd:ac5 ops listed) (hb:ww 0 ops.toList=true):∀ (j:Nat) (o:Oper),ops[j]? = some o->(∀ e ∈ o.after,Region.binds .any e=true->isL listed e.on)->∀ i,((g8 [] ops.toList).getD j 0).testBit i=true->isL listed i:=by
 intro j
 induction j using Nat.strongRecOn with
 | _ j ih=>
  intro o ho hl i hi
  obtain ⟨ms',h1,h2⟩:=azf ops.toList [] [] rfl (fun j o h=>by simp at h) j o (by simpa using ho)
  rw [h1]at hi
  obtain ⟨e,he,hbi,h3⟩:=bhv ms' o i hi
  have hle:=hl e he hbi
  rcases h3 with h3 | h3
  ·rw [← h3];exact hle
  ·have hlt:=ad9 ops.toList 0 hb j o (by simpa using ho) e he hbi
   rcases h2 e.on with h4 | h4
   ·rw [h4]at h3
    cases hoe:ops[e.on]? with
    | none=>
     have:ops.size<=e.on:=by
      rcases Nat.lt_or_ge e.on ops.size with h | h
      ·simp [h]at hoe
      ·exact h
     have:=(Array.getElem?_eq_some_iff.1 ho).1
     omega
    | some oe=>exact ih e.on (by omega) oe hoe (fun e' he' hb'=>hd e.on oe hoe hle e' he' hb') i h3
   ·rw [h4]at h3;simp at h3
theorem pu {j:Nat} (h:j ∈ Region.ready .any ops listed):∃ o,ops[j]? = some o/\listed.getD j true=false/\∀ e ∈ o.after,Region.binds .any e=true->isL listed e.on:=by
 obtain ⟨h1,o,h2,h3⟩:=mem_ready.1 h
 exact ⟨o,h2,h1,h3⟩
theorem ac5.set (hd:ac5 ops listed) {j:Nat} (h:j ∈ Region.ready .any ops listed):ac5 ops (listed.setIfInBounds j true):=by
 intro k o hk hl e he hb
 obtain ⟨oj,h1,_,h3⟩:=pu h
 refine getD_set_true ?_
 by_cases hkj:k=j
 ·subst hkj
  rw [h1]at hk
  cases hk
  exact h3 e he hb
 ·refine hd k o hk ?_ e he hb
  unfold isL at hl ⊢
  rwa [getD_set_ne false (Ne.symm hkj)]at hl
theorem abi (hs:listed.size=ops.size) (hb:ww 0 ops.toList=true) (h:Region.ready .any ops listed=[]):∀ i,i < ops.size->isL listed i:=by
 intro i
 induction i using Nat.strongRecOn with
 | _ i ih=>
  intro hi
  cases hl:listed.getD i false with
  | true=>exact hl
  | false=>
   have:i ∈ Region.ready .any ops listed:=mem_ready.2 ⟨by simp [hs,hi]at hl ⊢;exact hl,ops[i],by simp [hi],fun e he hbi=>by
    have:=ad9 ops.toList 0 hb i ops[i] (by simp [hi]) e he hbi
    exact ih e.on (by omega) (by omega)⟩
   rw [h]at this
   cases this
end
section
variable {P:Program} {B:Tab} {Φ:FuncId->Option Ct}
theorem aok {M:Mem} {place:Nat->Option (b9×Nat×Nat)} {f g:Operand->V}:∀ (l:List (Nat×Operand)) (v:V),(∀ q ∈ l,f q.2=g q.2)->ug M place f l v=ug M place g l v
 | [],v,_=>rfl
 | (i,x)::r,v,h=>by
  simp only [ug]
  rw [h (i,x) (by simp)]
  have ih:∀ v,ug M place f r v=ug M place g r v:=fun v=>aok r v (fun q hq=>h q (by simp [hq]))
  simp only [ih]
theorem aog {M:Mem} {sz:Nat} {f g:Operand->V}:∀ (l:List (Nat×Operand)) (v:List V),(∀ q ∈ l,f q.2=g q.2)->qc M sz f l v=qc M sz g l v
 | [],v,_=>rfl
 | (i,x)::r,v,h=>by
  simp only [qc]
  rw [h (i,x) (by simp)]
  have ih:∀ v,qc M sz f r v=qc M sz g r v:=fun v=>aog r v (fun q hq=>h q (by simp [hq]))
  simp only [ih]
theorem am0 {f g:Operand->V}:∀ (l:List Operand),(∀ x ∈ l,f x=g x)->sk f l=sk g l
 | [],_=>rfl
 | x::r,h=>by simp only [sk,h x (by simp),am0 r fun y hy=>h y (by simp [hy])]
theorem aee {f g:Operand->V} (l:Option Operand) (h:∀ x,l=some x->f x=g x):xq f l=xq g l:=by
 cases l with
 | none=>rfl
 | some x=>simp only [xq,h x rfl]
theorem bhw {ρ ρ':Operand->V} {M:Mem} (o:Oper) (h:∀ x ∈ cu o.op,ρ x=ρ' x):ew B Φ o ρ M=ew B Φ o ρ' M:=by
 obtain ⟨dst,op,ty',pos,after,guard⟩:=o
 cases op <;> simp only [cu]at h
 case build t ps=>
  simp only [ew,zk]
  rw [aok (toL ps) _ (fun q hq=>h q.2 (ae8 (by rwa [ge]at hq)))]
 case buildSlice t n ps=>
  simp only [ew,acm]
  cases dst with
  | none=>rfl
  | some k=>
   cases (B.τ t).el with
   | none=>rfl
   | some e=>simp only;rw [aog (toL ps) _ (fun q hq=>h q.2 (ae8 (by rwa [ge]at hq)))]
 case slice t x lo hi mx=>
  cases mx with
  | some _=>rfl
  | none=>
   have hW:an3 B (B.τ t) dst ρ x lo hi M=an3 B (B.τ t) dst ρ' x lo hi M:=by
    unfold an3
    rw [h x (by simp),aee lo (fun y hy=>h y (by subst hy;simp [cu.optL,ap]))]
   simp only [ew,aui,auw,hW]
   have h1:∀ e:List Ev,xq (fun y=>(ρ y).evs e) lo=xq (fun y=>(ρ' y).evs e) lo:=fun e=>aee lo (fun y hy=>by rw [h y (by subst hy;simp [cu.optL,ap])])
   have h2:∀ e:List Ev,xq (fun y=>(ρ y).evs e) hi=xq (fun y=>(ρ' y).evs e) hi:=fun e=>aee hi (fun y hy=>by rw [h y (by subst hy;simp [cu.optL,mr])])
   rw [h x (by simp),aee lo (fun y hy=>h y (by subst hy;simp [cu.optL,ap])),aee hi (fun y hy=>h y (by subst hy;simp [cu.optL,mr]))]
   simp only [h1,h2]
 case call c=>
  obtain ⟨callee,args,argTypes⟩:=c
  simp only [ew]
  simp only at h
  have ha:∀ x ∈ toL args,ρ x=ρ' x:=fun x hx=>h x (by rw [mr];exact List.mem_append_right _ hx)
  rw [am0 _ ha]
  cases callee with
  | value cx=>
   have hc:ρ cx=ρ' cx:=h cx (by rw [mr];exact List.mem_append_left _ (by simp [cu.calO]))
   simp only [hc]
  | invoke cx nm=>
   have hc:ρ cx=ρ' cx:=h cx (by rw [mr];exact List.mem_append_left _ (by simp [cu.calO]))
   simp only [hc]
  | builtin b=>
   cases b <;> first
    | rfl
    | (simp only;split;(rename_i x t e1 e2;first | rw [ha x (by rw [e1];simp)] | rfl);rfl)
    | (simp only;split;(rename_i x y t t' e1 e2;rw [ha x (by rw [e1];simp),ha y (by rw [e1];simp)]);rfl)
    | (simp only;split;(rename_i x y e1;rw [ha x (by rw [e1];simp),ha y (by rw [e1];simp)]);rfl)
 case makeFunc fn fs cs=>
  simp only [ew]
  rw [am0 _ (fun x hx=>h x (by rw [mr];exact List.mem_append_right _ hx))]
 case makeMap t rs=>cases rs <;> rfl
 all_goals (first | rfl | (simp only [ew];simp_all;done))
theorem arj {f g:Operand->V}:∀ (l:List Operand),(∀ x ∈ l,f x=g x)->nf f l=nf g l
 | [],_=>rfl
 | x::r,h=>by simp only [nf,h x (by simp),arj r fun y hy=>h y (by simp [hy])]
theorem ais (o:Oper):(∀ x ∈ cu o.op,x ∈ o.op.operands):=by
 intro x hx
 obtain ⟨dst,op,ty',pos,after,guard⟩:=o
 cases op <;> simp only [cu,Op.operands,List.not_mem_nil]at hx ⊢ <;> try (simpa using hx)
 case slice t y lo hi mx=>cases lo <;> cases hi <;> cases mx <;> simp_all [cu.optL,ap] <;> first | (rcases hx with hx | hx | hx <;> simp [hx];done) | (rcases hx with hx | hx <;> simp [hx];done)
 case build t ps=>
  rw [ge]at hx
  have:∀ l:List (Nat×Operand),x ∈ cu.snds l->∃ q ∈ l,q.2=x:=by
   intro l
   induction l with
   | nil=>intro h;cases h
   | cons q l ih=>
    intro h
    obtain ⟨i,y⟩:=q
    simp only [cu.snds]at h
    rcases List.mem_cons.1 h with rfl | h
    ·exact ⟨(i,x),by simp,rfl⟩
    ·obtain ⟨q,h1,h2⟩:=ih h;exact ⟨q,by simp [h1],h2⟩
  obtain ⟨q,h1,rfl⟩:=this _ hx
  rw [List.mem_toArray];exact List.mem_map.2 ⟨q,h1,rfl⟩
 case buildSlice t n ps=>
  rw [ge]at hx
  have:∀ l:List (Nat×Operand),x ∈ cu.snds l->∃ q ∈ l,q.2=x:=by
   intro l
   induction l with
   | nil=>intro h;cases h
   | cons q l ih=>
    intro h
    obtain ⟨i,y⟩:=q
    simp only [cu.snds]at h
    rcases List.mem_cons.1 h with rfl | h
    ·exact ⟨(i,x),by simp,rfl⟩
    ·obtain ⟨q,h1,h2⟩:=ih h;exact ⟨q,by simp [h1],h2⟩
  obtain ⟨q,h1,rfl⟩:=this _ hx
  rw [List.mem_toArray];exact List.mem_map.2 ⟨q,h1,rfl⟩
 case makeFunc fn fs cs=>
  rw [mr,ge,ge]at hx
  rw [Array.mem_append]
  rcases List.mem_append.1 hx with hx | hx
  ·exact Or.inl (Array.mem_toList_iff.1 hx)
  ·exact Or.inr (Array.mem_toList_iff.1 hx)
 case call c=>
  rw [ge,mr]at hx
  unfold Call.operands
  rcases List.mem_append.1 hx with hx | hx
  ·cases hc:c.callee <;> rw [hc]at hx <;> simp_all [cu.calO]
  ·have:=Array.mem_toList_iff.1 hx
   simp [this]
theorem aa0 {env env':Env} {M:Mem} (o:Oper) (h:∀ x ∈ o.op.operands,rd env x=rd env' x):evR B Φ o env M=evR B Φ o env' M:=by
 unfold evR
 split
 ·rename_i c a b hop
  have hc:=h c (by rw [hop];simp [Op.operands])
  have ha:=h a (by rw [hop];simp [Op.operands])
  have hb:=h b (by rw [hop];simp [Op.operands])
  simp only [ad1,nf,hc,ha,hb]
 ·rw [bhw o (fun x hx=>by rw [h x (ais o x hx)]),arj _ (fun x hx=>h x (ais o x hx))]
def aqa (B:Tab) (Φ:FuncId->Option Ct) (all:List Oper) (o:Oper) (env:Env) (M:Mem) (v:V):Prop:=
 match o.guard with
  | none=>ni o=true/\fresh M (evR B Φ o env M).ev=true/\ae (evR B Φ o env M).vc/\v=avF M (evR B Φ o env M).M (evR B Φ o env M).av
  | some (j,want)=>(match tj all j with
   | some dj=>lx (gt env dj)=true/\ni o=true/\fresh M (evR B Φ o env M).ev=true/\(gc (gt env dj) want->ae (evR B Φ o env M).vc)/\v=.gd j want (gc (gt env dj) want) (avF M (evR B Φ o env M).M (evR B Φ o env M).av)
   | none=>False)
section
variable {F:Fr} {p:Ow} {env:Env} {M:Mem} {a:Act} {w:World} {all:Array Oper}
theorem azi (all:List Oper):∀ (l:List Oper) (env:Env) (K:Env->Prop),dw B Φ all l env M K->∃ (E:Nat->Env) (V:Nat->V),E 0=env/\(∀ j o,l[j]? = some o->aqa B Φ all o (E j) M (V j)/\E (j+1)=wr o.dst (V j) (E j))/\K (E l.length)
 | [],env,K,h=>⟨fun _=>env,fun _=>.any,rfl,fun j o h=>by simp at h,h⟩
 | o::rest,env,K,h=>by
  have key:∃ v,aqa B Φ all o env M v/\dw B Φ all rest (wr o.dst v env) M K:=by
   simp only [dw]at h
   unfold aqa
   split at h
   ·rename_i hg
    simp only [hg]
    generalize evR B Φ o env M=q at h ⊢
    obtain ⟨vc,v,e,M1⟩:=q
    simp only at h ⊢
    cases hb:bt [ni o,fresh M e]with
    | false=>rw [hb]at h;exact h.elim
    | true=>
     rw [hb]at h
     simp only [cond_true,od]at h
     simp only [br,b8,Bool.and_true,Bool.and_eq_true]at hb
     exact ⟨_,⟨hb.1,hb.2,h.1,rfl⟩,h.2⟩
   ·rename_i j want hg
    simp only [hg]
    generalize evR B Φ o env M=q at h ⊢
    obtain ⟨vc,v,e,M1⟩:=q
    simp only at h ⊢
    cases hdj:tj all j with
    | none=>rw [hdj]at h;exact h.elim
    | some dj=>
     rw [hdj]at h
     simp only [hdj]at h ⊢
     cases hb:bt [lx (gt env dj),ni o,fresh M e]with
     | false=>rw [hb]at h;exact h.elim
     | true=>
      rw [hb]at h
      simp only [cond_true,ah2]at h
      simp only [br,b8,Bool.and_true,Bool.and_eq_true]at hb
      exact ⟨_,⟨hb.1,hb.2.1,hb.2.2,h.1,rfl⟩,h.2⟩
  obtain ⟨v,h1,h2⟩:=key
  obtain ⟨E,V,e1,e2,e3⟩:=azi all rest _ K h2
  refine ⟨fun j=>match j with | 0=>env | j+1=>E j,fun j=>match j with | 0=>v | j+1=>V j,rfl,fun j x hj=>?_,by simpa using e3⟩
  cases j with
  | zero=>
   simp only [List.getElem?_cons_zero,Option.some.injEq]at hj
   subst hj
   exact ⟨h1,e1⟩
  | succ j=>
   simp only [List.getElem?_cons_succ]at hj
   exact e2 j x hj
theorem ahk (d:Option Nat) (v:V) (env:Env) (t:Nat):gt (wr d v env) t=if d=some t then v else gt env t:=by
 cases d with
 | none=>simp [wr]
 | some k=>simp only [wr,im,Option.some.injEq]
theorem ane {l:List Oper} {E:Nat->Env} {V:Nat->V} (h2:∀ j o,l[j]? = some o->E (j+1)=wr o.dst (V j) (E j)):∀ (j t:Nat),j<=l.length->
  ((∀ (i:Nat) (o:Oper),l[i]? = some o->i < j->o.dst ≠ some t)->gt (E j) t=gt (E 0) t)/\
  (∀ (i:Nat) (o:Oper),l[i]? = some o->i < j->o.dst=some t->(∀ (i':Nat) (o':Oper),l[i']? = some o'->i' < j->o'.dst=some t->i'=i)->gt (E j) t=V i)
 | 0,t,_=>⟨fun _=>rfl,fun i o _ h=>by omega⟩
 | j+1,t,hj=>by
  obtain ⟨a1,a2⟩:=ane h2 j t (by omega)
  have ho:l[j]? = some l[j]:=List.getElem?_eq_getElem (by omega)
  rw [h2 j _ ho,ahk]
  refine ⟨fun h=>?_,fun i o hi hlt hd hu=>?_⟩
  ·rw [if_neg (h j _ ho (by omega))]
   exact a1 fun i o hi hlt=>h i o hi (by omega)
  ·by_cases e:i=j
   ·subst e;rw [ho]at hi;cases hi;rw [if_pos hd]
   ·rw [if_neg (fun hh=>e (hu j _ ho (by omega) hh).symm)]
    exact a2 i o hi (by omega) hd fun i' o' hi' hl'=>hu i' o' hi' (by omega)
theorem bmn (hΦ:m7 P Φ) (hB:TabOk P B) (h:St F p env M a w) {envj:Env} {o:Oper} {v:V} (hd:aqa B Φ (toL all) o envj M v) (hl:∀ t ∈ o.looksAt all,gt env t=gt envj t)
  (hc:l7 F.nt [o]=true) (hfv:∀ k,o.dst=some k->F.fv k=none) {j:Nat} (hj:all[j]? = some o) (K:Act->World->Prop) (QQ:Exit->Act->World->Prop)
  (hK:∀ a' w',St F p (wr o.dst v env) M a' w'->K a' w'):wpOp P all QQ j K a w:=by
 have hdst:=bdn hc hfv
 have hops:evR B Φ o env M=evR B Φ o envj M:=aa0 o fun x hx=>by
  cases x with
  | tmp t=>
   have:t ∈ o.looksAt all:=List.mem_append_left _ (List.mem_filterMap.2 ⟨.tmp t,by simpa using hx,rfl⟩)
   simpa only [rd]using hl t this
  | const c=>rfl
  | global g=>rfl
  | func f=>rfl
 unfold wpOp
 rw [hj]
 simp only
 unfold aqa at hd
 rw [← hops]at hd
 cases hg:o.guard with
 | none=>
  rw [hg]at hd
  obtain ⟨h1,h2,h3,rfl⟩:=hd
  rw [if_pos (by simp [Region.wanted,hg])]
  refine .inl (Oper.wp_mono (fun a' w' ⟨u,e1,hdn⟩=>?_) (aph hΦ hB h hc h3 QQ))
  rw [h1]at hdn
  obtain ⟨k1,k2⟩:=ij.frz h hdn h2
  rw [e1]
  exact hK _ _ (k1.wrO _ u k2 hdst)
 | some g=>
  obtain ⟨jg,want⟩:=g
  rw [hg]at hd
  simp only [ars]at hd
  cases hdj:(all[jg]?).bind (·.dst)with
  | none=>rw [hdj]at hd;exact hd.elim
  | some dj=>
   rw [hdj]at hd
   obtain ⟨k0,k1,k2,k3,rfl⟩:=hd
   have hgt:gt env dj=gt envj dj:=hl dj (List.mem_append_right _ (by simp [hg,hdj]))
   rw [← hgt]at k0 k3 hK
   have hy:=baw _ _ want k0 (h.slots dj)
   have hw:Region.wanted o (yielded all a.tmps)=(yB (a.tmps.getD dj undef) == some want):=by simp only [Region.wanted,hg,aoa hdj]
   rw [hw]
   by_cases hcg:gc (gt env dj) want
   ·rw [if_pos (hy.2 hcg)]
    refine .inl (Oper.wp_mono (fun a' w' ⟨u,e1,hdn⟩=>?_) (aph hΦ hB h hc (k3 hcg) QQ))
    rw [k1]at hdn
    obtain ⟨g1,g2⟩:=ij.frz h hdn k2
    rw [e1]
    exact hK _ _ (g1.wrO _ u (by simp only [al];exact ⟨fun _=>g2,fun hn=>absurd hcg hn⟩) hdst)
   ·rw [if_neg (fun hh=>hcg (hy.1 hh))]
    exact hK _ _ (h.wrO _ undef (by simp only [al];exact ⟨fun hn=>absurd hn hcg,fun _=>trivial⟩) hdst)
theorem ahv (hΦ:m7 P Φ) (hB:TabOk P B) (h:St F p env M a w) {o:Oper} {rest:List Oper} {K:Env->Mem->Prop} (hk:tw B Φ (toL all) (o::rest) env M K)
  (hc:l7 F.nt [o]=true) (hfv:∀ k,o.dst=some k->F.fv k=none) {j:Nat} (hj:all[j]? = some o) (Q:Exit->Act->World->Prop) :
  wpOp P all Q j (fun a' w'=>∃ p' env' M',St F p' env' M' a' w'/\tw B Φ (toL all) rest env' M' K) a w:=by
 unfold wpOp
 rw [hj]
 exact aw2 hΦ hB all h hk hc hfv Q
theorem ark {ms:List Nat} {m:Nat} (h:auz all ms m=true) {j:Nat} (hj:j < all.size) (hm:m<=j) {i:Nat} (hi:i < j):(ms.getD j 0).testBit i=true:=by
 have:=List.all_eq_true.1 h j (by simpa using hj)
 simp only [Bool.or_eq_true]at this
 rcases this with h1 | h1
 ·rw [Nat.blt_eq]at h1;omega
 ·exact List.all_eq_true.1 h1 i (by simpa using hi)
theorem aze (hΦ:m7 P Φ) (hB:TabOk P B) (Q:Exit->Act->World->Prop) (K:Env->Mem->Prop) (hQ:∀ p env M a w,St F p env M a w->K env M->Q .normal a w) (hb:ww 0 all.toList=true) (m:Nat) (ht:auz all (g8 [] all.toList) m=true)
  (hco:l7 F.nt all.toList=true) (hfv:∀ o ∈ all.toList,∀ k,o.dst=some k->F.fv k=none) :
  ∀ (fuel:Nat) (listed:Array Bool) (c:Nat) (p:Ow) (env:Env) (M:Mem) (a:Act) (w:World),listed.size=all.size->(∀ i,i < all.size->(isL listed i<->i < c))->m<=c->unl listed all.size<=fuel->ac5 all listed->
   St F p env M a w->tw B Φ (toL all) (all.toList.drop c) env M K->wpAny P .any all Q fuel listed a w:=by
 intro fuel
 have done:∀ (listed:Array Bool) (c:Nat) (p:Ow) (env:Env) (M:Mem) (a:Act) (w:World),listed.size=all.size->(∀ i,i < all.size->(isL listed i<->i < c))->Region.ready .any all listed=[]->St F p env M a w->tw B Φ (toL all) (all.toList.drop c) env M K->Q .normal a w:=by
  intro listed c p env M a w hs hl hr hst hk
  have hc:all.toList.length<=c:=by
   rcases Nat.lt_or_ge c all.size with h | h
   ·have:=(hl c h).1 (abi hs hb hr c h);omega
   ·simpa using h
  rw [List.drop_eq_nil_of_le hc]at hk
  simp only [tw]at hk
  exact hQ p env M a w hst hk
 have noready:∀ (listed:Array Bool),listed.size=all.size->unl listed all.size=0->Region.ready .any all listed=[]:=by
  intro listed hs hu
  cases hr:Region.ready .any all listed with
  | nil=>rfl
  | cons i r=>
   obtain ⟨o,h1,h2,_⟩:=pu (j:=i) (by rw [hr];simp)
   have hi:=(Array.getElem?_eq_some_iff.1 h1).1
   have:=ac7 hu i hi
   unfold isL at this
   simp [hs,hi]at this h2
   rw [this]at h2;cases h2
 induction fuel with
 | zero=>
  intro listed c p env M a w hs hl hm hu _ hst hk
  have hr:=noready listed hs (by omega)
  exact ⟨hr,done listed c p env M a w hs hl hr hst hk⟩
 | succ fuel ih=>
  intro listed c p env M a w hs hl hm hu hdn hst hk
  refine ⟨fun hr=>done listed c p env M a w hs hl hr hst hk,fun j hj=>?_⟩
  obtain ⟨o,h1,h2,h3⟩:=pu hj
  have hjs:=(Array.getElem?_eq_some_iff.1 h1).1
  have hnl:¬ isL listed j:=by
   unfold isL;simp [hs,hjs]at h2 ⊢;exact h2
  have hcj:c<=j:=by
   rcases Nat.lt_or_ge j c with h | h
   ·exact absurd ((hl j hjs).2 h) hnl
   ·exact h
  have hjc:j=c:=by
   rcases Nat.lt_or_ge c j with h | h
   ·have:=jk hdn hb j o h1 h3 c (ark ht hjs (by omega) h)
    have:=(hl c (by omega)).1 this
    omega
   ·omega
  subst hjc
  have hdrop:all.toList.drop j=o::all.toList.drop (j+1):=by
   rw [List.drop_eq_getElem_cons (by simpa using hjs)]
   congr 1
   have:=(Array.getElem?_eq_some_iff.1 h1).2
   simpa using this
  rw [hdrop]at hk
  refine wpOp_mono (fun a' w' ⟨p',env',M',e1,e2⟩=>ih _ (j+1) p' env' M' a' w' (by simpa using hs) (fun i hi=>?_) (by omega) ?_ (hdn.set hj) e1 e2) (ahv hΦ hB hst hk (t7 hco (by rw [Array.mem_toList_iff];exact Array.mem_of_getElem? h1)) (hfv o (by rw [Array.mem_toList_iff];exact Array.mem_of_getElem? h1)) h1 Q)
  ·by_cases e:i=j
   ·subst e;simp [isL,hs,hi]
   ·unfold isL at hl ⊢
    rw [getD_set_ne false (Ne.symm e),hl i hi];omega
  ·have:=aeq (by rw [hs];exact hjs) hnl all.size hjs
   omega
theorem mh {ms:List Nat} {m:Nat} (h:af9 all ms m=true) {i j:Nat} (hi:i < m) (hj:j < m) (hne:i ≠ j) {x y:Oper} (hx:all[i]? = some x) (hy:all[j]? = some y):ald all ms i j x y=true:=by
 have:=List.all_eq_true.1 (List.all_eq_true.1 h i (by simpa using hi)) j (by simpa using hj)
 rw [hx,hy]at this
 simp only [Bool.or_eq_true]at this
 rcases this with h1 | h1
 ·exact absurd (Nat.eq_of_beq_eq_true h1) hne
 ·exact h1
theorem amr {ms:List Nat} {i j:Nat} {x y:Oper} (h:ald all ms i j x y=true) {t:Nat} (hx:x.dst=some t):y.dst ≠ some t:=by
 unfold ald at h
 rw [hx]at h
 simp only [Bool.and_eq_true]at h
 intro hy
 rw [hy]at h
 simp at h
theorem pq {ms:List Nat} {i j:Nat} {x y:Oper} (h:ald all ms i j x y=true) {t:Nat} (hx:x.dst=some t) (ht:t ∈ y.looksAt all):if i < j then (ms.getD j 0).testBit i=true else (ms.getD i 0).testBit j=true:=by
 unfold ald at h
 rw [hx]at h
 simp only [Bool.and_eq_true,Bool.or_eq_true,Bool.not_eq_true']at h
 have h2:=h.2
 have hc:(acr all y).contains t=true:=by simpa [acr]using ht
 rcases h2 with h2 | h2
 ·rw [hc]at h2;cases h2
 ·split
  ·rename_i hlt;rw [if_pos hlt]at h2;exact h2
  ·rename_i hlt;rw [if_neg hlt]at h2;exact h2
theorem px {j:Nat}:all.toList[j]? = all[j]?:=by simp
theorem bjx (hΦ:m7 P Φ) (hB:TabOk P B) (Q:Exit->Act->World->Prop) (K:Env->Mem->Prop) (hQ:∀ p env M a w,St F p env M a w->K env M->Q .normal a w) (hb:ww 0 all.toList=true) (m:Nat) (hmn:m<=all.size)
  (ht:auz all (g8 [] all.toList) m=true) (hdr:af9 all (g8 [] all.toList) m=true)
  (hco:l7 F.nt all.toList=true) (hfv:∀ o ∈ all.toList,∀ k,o.dst=some k->F.fv k=none) (E:Nat->Env) (V:Nat->V) (hE:∀ j o,(all.toList.take m)[j]? = some o->aqa B Φ (toL all) o (E j) M (V j)/\E (j+1)=wr o.dst (V j) (E j))
  (hlast:tw B Φ (toL all) (all.toList.drop m) (E m) M K) :
  ∀ (fuel:Nat) (listed:Array Bool) (env:Env) (a:Act) (w:World),listed.size=all.size->(∀ i,i < all.size->isL listed i->i < m)->unl listed all.size<=fuel->ac5 all listed->
   (∀ t,((∀ i o,all[i]? = some o->isL listed i->o.dst ≠ some t)->gt env t=gt (E 0) t)/\∀ i o,all[i]? = some o->isL listed i->o.dst=some t->gt env t=V i)->
   St F p env M a w->wpAny P .any all Q fuel listed a w:=by
 have htake:∀ j o,j < m->all[j]? = some o->(all.toList.take m)[j]? = some o:=fun j o hj ho=>by
  rw [List.getElem?_take_of_lt hj,px];exact ho
 have hlen:(all.toList.take m).length=m:=by simp [hmn]
 have uniq:∀ i j x y t,i < m->j < m->all[i]? = some x->all[j]? = some y->x.dst=some t->y.dst=some t->i=j:=fun i j x y t hi hj hx hy h1 h2=>by
  rcases Nat.decEq i j with h | h
  ·exact absurd h2 (amr (mh hdr hi hj h hx hy) h1)
  ·exact h
 have take_lt:∀ i o,(all.toList.take m)[i]? = some o->i < m/\all[i]? = some o:=fun i o h=>by
  have h1:=(List.getElem?_eq_some_iff.1 h).1
  rw [hlen]at h1
  rw [List.getElem?_take_of_lt h1,px]at h
  exact ⟨h1,h⟩
 have hgt:=ane (fun j o h=>(hE j o h).2)
 intro fuel
 induction fuel with
 | zero=>
  intro listed env a w hs hl hu hdn hg hst
  by_cases hall:∀ i,i < m->isL listed i
  ·refine aze hΦ hB Q K hQ hb m ht hco hfv 0 listed m p (E m) M a w hs (fun i hi=>⟨hl i hi,hall i⟩) (Nat.le_refl _) hu hdn (hst.weak fun t=>.inr ?_) hlast
   by_cases ht:∃ i o,all[i]? = some o/\i < m/\o.dst=some t
   ·obtain ⟨i,o,h1,h2,h3⟩:=ht
    rw [(hg t).2 i o h1 (hall i h2) h3]
    exact (hgt m t (by omega)).2 i o (htake i o h2 h1) h2 h3 fun i' o' h1' h2' h3'=>uniq i' i o' o t h2' h2 (take_lt i' o' h1').2 h1 h3' h3
   ·rw [(hg t).1 fun i o h1 h2 h3=>ht ⟨i,o,h1,hl i (Array.getElem?_eq_some_iff.1 h1).1 h2,h3⟩]
    exact (hgt m t (by omega)).1 fun i o h1 h2 h3=>ht ⟨i,o,(take_lt i o h1).2,h2,h3⟩
  ·exact absurd (fun i hi=>ac7 (Nat.le_zero.1 hu) i (by omega)) hall
 | succ fuel ih=>
  intro listed env a w hs hl hu hdn hg hst
  by_cases hall:∀ i,i < m->isL listed i
  ·refine aze hΦ hB Q K hQ hb m ht hco hfv (fuel+1) listed m p (E m) M a w hs (fun i hi=>⟨hl i hi,hall i⟩) (Nat.le_refl _) hu hdn (hst.weak fun t=>.inr ?_) hlast
   by_cases ht:∃ i o,all[i]? = some o/\i < m/\o.dst=some t
   ·obtain ⟨i,o,h1,h2,h3⟩:=ht
    rw [(hg t).2 i o h1 (hall i h2) h3]
    exact (hgt m t (by omega)).2 i o (htake i o h2 h1) h2 h3 fun i' o' h1' h2' h3'=>uniq i' i o' o t h2' h2 (take_lt i' o' h1').2 h1 h3' h3
   ·rw [(hg t).1 fun i o h1 h2 h3=>ht ⟨i,o,h1,hl i (Array.getElem?_eq_some_iff.1 h1).1 h2,h3⟩]
    exact (hgt m t (by omega)).1 fun i o h1 h2 h3=>ht ⟨i,o,(take_lt i o h1).2,h2,h3⟩
  ·refine ⟨fun hr=>absurd (fun i hi=>abi hs hb hr i (by omega)) hall,fun j hj=>?_⟩
   obtain ⟨o,h1,h2,h3⟩:=pu hj
   have hjs:=(Array.getElem?_eq_some_iff.1 h1).1
   have hnl:¬ isL listed j:=by
    unfold isL;simp [hs,hjs]at h2 ⊢;exact h2
   have hjm:j < m:=by
    rcases Nat.lt_or_ge j m with h | h
    ·exact h
    ·exact absurd (fun i hi=>jk hdn hb j o h1 h3 i (ark ht hjs h (by omega))) hall
   obtain ⟨d1,d2⟩:=hE j o (htake j o hjm h1)
   have hlook:∀ t ∈ o.looksAt all,gt env t=gt (E j) t:=fun t htl=>by
    by_cases hw:∃ i x,all[i]? = some x/\i < m/\x.dst=some t
    ·obtain ⟨i,x,e1,e2,e3⟩:=hw
     by_cases hij:i < j
     ·have hpair:=pq (mh hdr e2 hjm (by omega) e1 h1) e3 htl
      rw [if_pos hij]at hpair
      have hli:=jk hdn hb j o h1 h3 i hpair
      rw [(hg t).2 i x e1 hli e3]
      exact ((hgt j t (by omega)).2 i x (htake i x e2 e1) hij e3 fun i' o' h1' h2' h3'=>uniq i' i o' x t (by omega) e2 (take_lt i' o' h1').2 e1 h3' e3).symm
     ·have hnli:¬ isL listed i:=fun hli=>by
       by_cases e:i=j
       ·subst e;exact hnl hli
       ·have hpair:=pq (mh hdr e2 hjm e e1 h1) e3 htl
        rw [if_neg hij]at hpair
        exact hnl (jk hdn hb i x e1 (fun e' he' hb'=>hdn i x e1 hli e' he' hb') j hpair)
      rw [(hg t).1 fun i' o' h1' h2' h3'=>hnli (uniq i' i o' x t (hl i' (Array.getElem?_eq_some_iff.1 h1').1 h2') e2 h1' e1 h3' e3 ▸ h2')]
      exact ((hgt j t (by omega)).1 fun i' o' h1' h2' h3'=>hij (uniq i' i o' x t (by omega) e2 (take_lt i' o' h1').2 e1 h3' e3 ▸ h2')).symm
    ·rw [(hg t).1 fun i x h1 h2 h3=>hw ⟨i,x,h1,hl i (Array.getElem?_eq_some_iff.1 h1).1 h2,h3⟩]
     exact ((hgt j t (by omega)).1 fun i x h1 h2 h3=>hw ⟨i,x,(take_lt i x h1).2,by omega,h3⟩).symm
   refine bmn hΦ hB hst d1 hlook (t7 hco (by rw [Array.mem_toList_iff];exact Array.mem_of_getElem? h1)) (hfv o (by rw [Array.mem_toList_iff];exact Array.mem_of_getElem? h1)) h1 _ Q fun a' w' hst'=>ih _ _ a' w' (by simpa using hs) (fun i hi hli=>?_) ?_ (hdn.set hj) (fun t=>⟨fun hno=>?_,fun i x hx hli hxd=>?_⟩) hst'
   ·by_cases e:i=j
    ·omega
    ·refine hl i hi ?_
     unfold isL at hli ⊢
     rwa [getD_set_ne false (Ne.symm e)]at hli
   ·have:=aeq (by rw [hs];exact hjs) hnl all.size hjs
    omega
   ·rw [ahk,if_neg (hno j o h1 (by simp [isL,hs,hjs]))]
    refine (hg t).1 fun i x hx hli=>hno i x hx (getD_set_true hli)
   ·rw [ahk]
    by_cases e:i=j
    ·subst e;rw [h1]at hx;cases hx;rw [if_pos hxd]
    ·have hli':isL listed i:=by
      unfold isL at hli ⊢
      rwa [getD_set_ne false (Ne.symm e)]at hli
     have him:=hl i (Array.getElem?_eq_some_iff.1 hx).1 hli'
     rw [if_neg (fun hod=>e (uniq i j x o t him hjm hx h1 hxd hod))]
     exact (hg t).2 i x hx hli' hxd
theorem xw {n i:Nat}:¬ isL (Array.replicate n false) i:=by
 unfold isL
 simp [Array.getElem?_replicate]
 split <;> simp
theorem au0 (listed:Array Bool):∀ n,unl listed n<=n
 | 0=>Nat.le_refl _
 | n+1=>by rw [unl];have:=au0 listed n;split <;> omega
theorem St.drew (h:St F p env M a w):St F p env M a { w with drawn:=w.drawn+1 }:=
 h.ext ⟨rfl,⟨rfl,Nat.le_succ _⟩,rfl,Nat.le_refl _,fun _ _=>rfl⟩
def ayw:Op->Bool
 | .move (.tmp _)=>true
 | .assign (.tmp _)=>true
 | .extract (.tmp _) _=>true
 | _=>false
def bhb (D:Bool) (o:Op):Bool:=orb (ayw o) (nob D (yq o))
def flt (D R:Bool) (ops:Array Oper) (x y:Oper):Bool:=
 nob (isN x.guard) (nob (nob (bhb D x.op) (orb (neg R) (orb (ayw x.op) (avq y)))) (match x.dst with
  | some t=>nob (neg ((acr ops y).contains t)) (match y.dst with
   | some u=>nob (neg (Nat.beq u t)) (neg ((acr ops x).contains u))
   | none=>true)
  | none=>false))
def bgw (D R:Bool) (ops:Array Oper) (ms:List Nat) (m:Nat):Bool:=
 (List.range ops.size).all fun j=>Nat.blt j m || (match ops[j]? with
  | some y=>isN y.guard && (List.range j).all fun i=>(ms.getD j 0).testBit i || (Nat.blt i m && (match ops[i]? with | some x=>flt D R ops x y | none=>false))
  | none=>true)
def bhy (ops:Array Oper) (ms:List Nat) (m:Nat):Bool:=
 (List.range m).all fun i=>!(tq ops.size ms m i) || (List.range m).all fun j=>Nat.blt j i || !(tq ops.size ms m j) || (match ops[i]?,ops[j]? with
  | some x,some y=>(match y.dst with | some u=>!((acr ops x).contains u) | none=>true)
  | _,_=>true)
def akq (D R:Bool) (l:List Oper) (m:Nat):Bool:=ww 0 l && (Nat.ble m l.length && (bgw D R l.toArray (g8 [] l) m && (bhy l.toArray (g8 [] l) m && af9 l.toArray (g8 [] l) m)))
def avu (σ:List Nat) (n:Nat):Bool:=Nat.beq (len σ) n && ((List.range n).all fun i=>Nat.blt (plc σ i) n && (match ng σ (plc σ i)with | some k=>Nat.beq k i | none=>false)) && (List.range n).all fun k=>(match ng σ k with | some i=>Nat.blt i n && Nat.beq (plc σ i) k | none=>false)
def aqq:List Oper->Bool
 | []=>true
 | o::r=>nob (isN o.guard) (aqq r)
def bh2 (R R2:Bool) (l:List Oper) (m:Nat):Bool:=ww 0 l && (avu (avw R l) l.length && (aqq l && akq true R2 (gq R l) m))
def bna (l:List Oper):Bool:=ww 0 l && (af9 l.toArray (g8 [] l) l.length && aik (agx l))
def bgu (l:List Oper) (m:Nat):Bool:=ww 0 l && (Nat.ble m l.length && (auz l.toArray (g8 [] l) m && af9 l.toArray (g8 [] l) m))
end
end
end Go.Bm
/- The gi machine:where ways meet. -/
namespace Go.Bm
open Go.RowKit
theorem bfe {a b a' b':T} {x:(T.p a b).den} {x':(T.p a' b').den} (h:p7 (.p a' b') (a:=.p a b) x=some x'):p7 a' x.1=some x'.1/\p7 b' x.2=some x'.2:=by
 obtain ⟨e,h1⟩:=abl h
 cases e
 simp only at h1
 subst h1
 exact ⟨yk _,yk _⟩
theorem bmh {a a':T} {x:List a.den} {x':List a'.den} (h:p7 (.sl a') (a:=.sl a) x=some x'):x'.length=x.length/\∀ (i:Nat) y',x'[i]? = some y'->∃ y,x[i]? = some y/\p7 a' y=some y':=by
 obtain ⟨e,h1⟩:=abl h
 cases e
 simp only at h1
 subst h1
 exact ⟨rfl,fun i y' hy=>⟨y',hy,yk _⟩⟩
theorem blv {a a':T} {x:a.den} {x':a'.den} (h:p7 (.pt a') (a:=.pt a) x=some x'):p7 a' x=some x':=by
 obtain ⟨e,h1⟩:=abl h
 cases e
 simp only at h1
 subst h1
 exact yk _
theorem aes:(o o':O)->o.wk o'=true->o.strip=o'.strip
 | .p a b,.p a' b',h=>by
  simp only [O.wk,bc,Bool.and_eq_true]at h
  simp only [O.strip,aes a a' h.1,aes b b' h.2]
 | .sl e,.sl e',h=>by simp only [O.wk]at h;simp only [O.strip,aes e e' h]
 | .pt e,.pt e',h=>by simp only [O.wk]at h;simp only [O.strip,aes e e' h]
 | .op e,.op e',h=>by simp only [O.wk]at h;simp only [O.strip,O.beq_eq h]
 | .mp k v,.mp k' v',h=>by
  simp only [O.wk,bc,Bool.and_eq_true]at h
  simp only [O.strip,T.beq_eq h.1,T.beq_eq h.2]
 | .fz (.p a b),.p a' b',h=>by
  simp only [O.wk,bc,Bool.and_eq_true]at h
  have h1:=aes (.fz a) a' h.1
  have h2:=aes (.fz b) b' h.2
  simp only [O.strip]at h1 h2 ⊢
  rw [h1,h2]
 | .p a b,.fz t,h=>by simp only [O.wk]at h;exact T.beq_eq h
 | .sl e,.fz t,h=>by simp only [O.wk]at h;exact T.beq_eq h
 | .pt e,.fz t,h=>by simp only [O.wk]at h;exact T.beq_eq h
 | .mp _ _,.fz t,h=>by simp only [O.wk]at h;exact T.beq_eq h
 | .op _,.fz t,h=>by simp only [O.wk]at h;exact T.beq_eq h
 | .fz s,.fz t,h=>by
  have:O.wk (.fz s) (.fz t)=s.beq t:=by cases s <;> simp only [O.wk,O.strip]
  rw [this]at h
  exact T.beq_eq h
 | .p _ _,.mp _ _,h=>by simp [O.wk]at h
 | .p _ _,.op _,h=>by simp [O.wk]at h
 | .sl _,.mp _ _,h=>by simp [O.wk]at h
 | .sl _,.op _,h=>by simp [O.wk]at h
 | .pt _,.mp _ _,h=>by simp [O.wk]at h
 | .pt _,.op _,h=>by simp [O.wk]at h
 | .mp _ _,.p _ _,h=>by simp [O.wk]at h
 | .op _,.p _ _,h=>by simp [O.wk]at h
 | .mp _ _,.sl _,h=>by simp [O.wk]at h
 | .op _,.sl _,h=>by simp [O.wk]at h
 | .mp _ _,.pt _,h=>by simp [O.wk]at h
 | .op _,.pt _,h=>by simp [O.wk]at h
 | .fz s,.mp _ _,h=>by cases s <;> simp [O.wk]at h
 | .fz s,.op _,h=>by cases s <;> simp [O.wk]at h
 | .fz (.ifc _ _),.p _ _,h=>by simp [O.wk]at h
 | .fz (.mp _ _),.p _ _,h=>by simp [O.wk]at h
 | .fz (.op _),.p _ _,h=>by simp [O.wk]at h
 | .fz (.ns _),.p _ _,h=>by simp [O.wk]at h
 | .p _ _,.sl _,h=>by simp [O.wk]at h
 | .p _ _,.pt _,h=>by simp [O.wk]at h
 | .sl _,.p _ _,h=>by simp [O.wk]at h
 | .sl _,.pt _,h=>by simp [O.wk]at h
 | .pt _,.p _ _,h=>by simp [O.wk]at h
 | .pt _,.sl _,h=>by simp [O.wk]at h
 | .fz s,.sl _,h=>by cases s <;> simp [O.wk]at h
 | .fz s,.pt _,h=>by cases s <;> simp [O.wk]at h
 | .fz (.int _),.p _ _,h=>by simp [O.wk]at h
 | .fz .bool,.p _ _,h=>by simp [O.wk]at h
 | .fz .str,.p _ _,h=>by simp [O.wk]at h
 | .fz .u,.p _ _,h=>by simp [O.wk]at h
 | .fz (.sl _),.p _ _,h=>by simp [O.wk]at h
 | .fz (.pt _),.p _ _,h=>by simp [O.wk]at h
 | .fz (.fn _ _),.p _ _,h=>by simp [O.wk]at h
 | .fz .any,.p _ _,h=>by simp [O.wk]at h
def Wk (Im:Nat->Prop) (w:World) (o':O) (x':o'.strip.den) (S:Nat->Prop) (vs:List Value):Prop:=
 ∃ S':Nat->Prop,(∀ b,S' b->S b)/\∀ Im':Nat->Prop,(∀ b,Im b->Im' b)->(∀ b,S b->¬ S' b->Im' b)->Rel Im' w o' x' S' vs
theorem bqs {Im:Nat->Prop} {w:World} {o:O} {t:T} {x:o.strip.den} {x':t.den} {S:Nat->Prop} {vs:List Value} (hx:p7 t x=some x') (r:Rel Im w o x S vs):Wk Im w (.fz t) x' S vs:=
 ⟨fun _=>False,fun b hb=>hb.elim,fun Im' h1 h2=>by
  simp only [Rel]
  exact wj hx (Rel.frz h1 o x S vs (fun b hb=>h2 b hb (fun h=>h)) r)⟩
theorem bes {Im:Nat->Prop} {w:World} {a' b':O} {x':a'.strip.den} {y':b'.strip.den} {S S1 S2:Nat->Prop} {va vb:List Value} (h1:∀ c,S1 c->S c) (h2:∀ c,S2 c->S c) (h3:∀ c,S1 c->¬ S2 c) (ha:Wk Im w a' x' S1 va) (hb:Wk Im w b' y' S2 vb):Wk Im w (.p a' b') (x',y') S (va++vb):=by
 obtain ⟨T1,a1,a2⟩:=ha
 obtain ⟨T2,b1,b2⟩:=hb
 refine ⟨fun c=>T1 c\/T2 c,fun c hc=>hc.elim (fun h=>h1 c (a1 c h)) (fun h=>h2 c (b1 c h)),fun Im' k1 k2=>?_⟩
 simp only [Rel]
 refine ⟨va,vb,T1,T2,rfl,fun c hc=>.inl hc,fun c hc=>.inr hc,fun c hc hc'=>h3 c (a1 c hc) (b1 c hc'),a2 Im' k1 (fun c hc hn=>k2 c (h1 c hc) ?_),b2 Im' k1 (fun c hc hn=>k2 c (h2 c hc) ?_)⟩
 ·rintro (h | h)
  ·exact hn h
  ·exact h3 c hc (b1 c h)
 ·rintro (h | h)
  ·exact h3 c (a1 c h) hc
  ·exact hn h
theorem ady {Im:Nat->Prop} {w:World}:(o o':O)->o.wk o'=true->(x:o.strip.den)->(x':o'.strip.den)->(S:Nat->Prop)->(vs:List Value)->p7 o'.strip x=some x'->Rel Im w o x S vs->Wk Im w o' x' S vs
 | .p a b,.p a' b',h,x,x',S,vs,hx,r=>by
  simp only [O.wk,bc,Bool.and_eq_true]at h
  simp only [Rel]at r
  obtain ⟨va,vb,S1,S2,rfl,h1,h2,h3,ha,hb⟩:=r
  obtain ⟨c1,c2⟩:=bfe hx
  exact bes h1 h2 h3 (ady a a' h.1 _ _ _ _ c1 ha) (ady b b' h.2 _ _ _ _ c2 hb)
 | .fz (.p a b),.p a' b',h,x,x',S,vs,hx,r=>by
  simp only [O.wk,bc,Bool.and_eq_true]at h
  simp only [Rel,aq]at r
  obtain ⟨va,vb,rfl,ha,hb⟩:=r
  obtain ⟨c1,c2⟩:=bfe hx
  exact bes (S1:=fun _=>False) (S2:=fun _=>False) (fun c hc=>hc.elim) (fun c hc=>hc.elim) (fun c hc=>hc.elim) (ady (.fz a) a' h.1 _ _ _ _ c1 (by simpa only [Rel]using ha)) (ady (.fz b) b' h.2 _ _ _ _ c2 (by simpa only [Rel]using hb))
 | .sl e,.sl e',h,x,x',S,vs,hx,r=>by
  have hs:=aes (.sl e) (.sl e') h
  simp only [O.wk]at h
  simp only [O.strip,T.sl.injEq]at hs
  have hsz:e'.size=e.size:=by unfold O.size;rw [hs]
  simp only [Rel]at r
  obtain ⟨v,ety,xs,T,rfl,h2,h3,h4,h5,h6,h7⟩:=r
  obtain ⟨c1,c2⟩:=bmh hx
  have hall:∀ i,i < x'.length->∃ y',x'[i]? = some y'/\Wk Im w e' y' (T i) ((xs.drop (i * e.size)).take e.size):=fun i hi=>by
   have hy:=List.getElem?_eq_getElem hi
   obtain ⟨y,k1,k2⟩:=c2 i _ hy
   exact ⟨_,hy,ady e e' h y _ _ _ k2 (h7 i y k1)⟩
  let T':Nat->Nat->Prop:=fun i=>if hi:i < x'.length then (hall i hi).choose_spec.2.choose else fun _=>False
  have hT:∀ i y',x'[i]? = some y'->(∀ b,T' i b->T i b)/\∀ Im':Nat->Prop,(∀ b,Im b->Im' b)->(∀ b,T i b->¬ T' i b->Im' b)->Rel Im' w e' y' (T' i) ((xs.drop (i * e.size)).take e.size):=fun i y' hy=>by
   have hi:=(List.getElem?_eq_some_iff.1 hy).1
   have h1:=(hall i hi).choose_spec.1
   have h2:=(hall i hi).choose_spec.2.choose_spec
   have e1:T' i=(hall i hi).choose_spec.2.choose:=by simp only [T',dif_pos hi]
   rw [e1]
   have:y'=(hall i hi).choose:=Option.some.inj (hy.symm.trans h1)
   rw [this]
   exact h2
  have hT0:∀ i b,T' i b->T i b:=fun i b hb=>by
   by_cases hi:i < x'.length
   ·exact (hT i _ (List.getElem?_eq_getElem hi)).1 b hb
   ·have:T' i=fun _=>False:=by simp only [T',dif_neg hi]
    rw [this]at hb;exact hb.elim
  refine ⟨fun b=>lu v=some b\/∃ i,T' i b,fun b hb=>?_,fun Im' k1 k2=>?_⟩
  ·rcases hb with hb | ⟨i,hb⟩
   ·exact h4 b hb
   ·exact (h5 i b (hT0 i b hb)).1
  ·simp only [Rel]
   refine ⟨v,ety,xs,T',rfl,by rw [hsz,c1];exact h2,by rw [c1];exact h3,fun c hc=>.inl hc,fun i c hc=>⟨.inr ⟨i,hc⟩,(h5 i c (hT0 i c hc)).2⟩,fun i j c hij hc hc'=>h6 i j c hij (hT0 i c hc) (hT0 j c hc'),fun i y' hy=>?_⟩
   rw [hsz]
   refine (hT i y' hy).2 Im' k1 (fun b hb hn=>k2 b (h5 i b hb).1 ?_)
   rintro (hr | ⟨j,hj⟩)
   ·exact (h5 i b hb).2 hr
   ·by_cases e:j=i
    ·subst e;exact hn hj
    ·exact h6 j i b e (hT0 j b hj) hb
 | .pt e,.pt e',h,x,x',S,vs,hx,r=>by
  simp only [O.wk]at h
  simp only [Rel]at r
  obtain ⟨b,us,ty',S0,rfl,h2,h3,h4,h5⟩:=r
  obtain ⟨T1,a1,a2⟩:=ady e e' h x x' S0 us (blv hx) h5
  refine ⟨fun c=>c=b\/T1 c,fun c hc=>?_,fun Im' k1 k2=>?_⟩
  ·rcases hc with rfl | hc
   ·exact h2
   ·exact (h4 c (a1 c hc)).1
  ·simp only [Rel]
   refine ⟨b,us,ty',T1,rfl,.inl rfl,h3,fun c hc=>⟨.inr hc,(h4 c (a1 c hc)).2⟩,a2 Im' k1 (fun c hc hn=>k2 c (h4 c hc).1 ?_)⟩
   rintro (rfl | h)
   ·exact (h4 c hc).2 rfl
   ·exact hn h
 | .op e,.op e',h,x,x',S,vs,hx,r=>by
  simp only [O.wk]at h
  have e1:=O.beq_eq h
  subst e1
  have:x=x':=Option.some.inj ((yk (a:=.op e.strip) x).symm.trans hx)
  subst this
  refine ⟨S,fun c hc=>hc,fun Im' k1 _=>?_⟩
  exact Rel.keep (fun b hb=>⟨k1 b hb,rfl⟩) (.op e) x S vs (fun _ _=>rfl) r
 | .mp k v,.mp k' v',h,x,x',S,vs,hx,r=>by
  simp only [O.wk,bc,Bool.and_eq_true]at h
  have e1:=T.beq_eq h.1
  have e2:=T.beq_eq h.2
  subst e1;subst e2
  have:x=x':=Option.some.inj ((yk (a:=.mp k v) x).symm.trans hx)
  subst this
  simp only [Rel]at r
  obtain ⟨b,es,n,rfl,h2,h3,h4⟩:=r
  refine ⟨fun c=>c=b,fun c hc=>by rw [hc];exact h2,fun Im' k1 _=>?_⟩
  simp only [Rel]
  exact ⟨b,es,n,rfl,rfl,h3,h4⟩
 | o,.fz t,h,x,x',S,vs,hx,r=>bqs hx r
 | .p _ _,.mp _ _,h,_,_,_,_,_,_=>by simp [O.wk]at h
 | .p _ _,.op _,h,_,_,_,_,_,_=>by simp [O.wk]at h
 | .sl _,.mp _ _,h,_,_,_,_,_,_=>by simp [O.wk]at h
 | .sl _,.op _,h,_,_,_,_,_,_=>by simp [O.wk]at h
 | .pt _,.mp _ _,h,_,_,_,_,_,_=>by simp [O.wk]at h
 | .pt _,.op _,h,_,_,_,_,_,_=>by simp [O.wk]at h
 | .mp _ _,.p _ _,h,_,_,_,_,_,_=>by simp [O.wk]at h
 | .op _,.p _ _,h,_,_,_,_,_,_=>by simp [O.wk]at h
 | .mp _ _,.sl _,h,_,_,_,_,_,_=>by simp [O.wk]at h
 | .op _,.sl _,h,_,_,_,_,_,_=>by simp [O.wk]at h
 | .mp _ _,.pt _,h,_,_,_,_,_,_=>by simp [O.wk]at h
 | .op _,.pt _,h,_,_,_,_,_,_=>by simp [O.wk]at h
 | .fz s,.mp _ _,h,_,_,_,_,_,_=>by cases s <;> simp [O.wk]at h
 | .fz s,.op _,h,_,_,_,_,_,_=>by cases s <;> simp [O.wk]at h
 | .fz (.ifc _ _),.p _ _,h,_,_,_,_,_,_=>by simp [O.wk]at h
 | .fz (.mp _ _),.p _ _,h,_,_,_,_,_,_=>by simp [O.wk]at h
 | .fz (.op _),.p _ _,h,_,_,_,_,_,_=>by simp [O.wk]at h
 | .fz (.ns _),.p _ _,h,_,_,_,_,_,_=>by simp [O.wk]at h
 | .p _ _,.sl _,h,_,_,_,_,_,_=>by simp [O.wk]at h
 | .p _ _,.pt _,h,_,_,_,_,_,_=>by simp [O.wk]at h
 | .sl _,.p _ _,h,_,_,_,_,_,_=>by simp [O.wk]at h
 | .sl _,.pt _,h,_,_,_,_,_,_=>by simp [O.wk]at h
 | .pt _,.p _ _,h,_,_,_,_,_,_=>by simp [O.wk]at h
 | .pt _,.sl _,h,_,_,_,_,_,_=>by simp [O.wk]at h
 | .fz s,.sl _,h,_,_,_,_,_,_=>by cases s <;> simp [O.wk]at h
 | .fz s,.pt _,h,_,_,_,_,_,_=>by cases s <;> simp [O.wk]at h
 | .fz (.int _),.p _ _,h,_,_,_,_,_,_=>by simp [O.wk]at h
 | .fz .bool,.p _ _,h,_,_,_,_,_,_=>by simp [O.wk]at h
 | .fz .str,.p _ _,h,_,_,_,_,_,_=>by simp [O.wk]at h
 | .fz .u,.p _ _,h,_,_,_,_,_,_=>by simp [O.wk]at h
 | .fz (.sl _),.p _ _,h,_,_,_,_,_,_=>by simp [O.wk]at h
 | .fz (.pt _),.p _ _,h,_,_,_,_,_,_=>by simp [O.wk]at h
 | .fz (.fn _ _),.p _ _,h,_,_,_,_,_,_=>by simp [O.wk]at h
 | .fz .any,.p _ _,h,_,_,_,_,_,_=>by simp [O.wk]at h
end Go.Bm
