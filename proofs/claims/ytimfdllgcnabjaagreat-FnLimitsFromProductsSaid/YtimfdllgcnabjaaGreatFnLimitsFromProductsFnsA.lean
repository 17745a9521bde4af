/- What the functions that FnLimitsFromProducts reaches give: for each its contract, what it asks, and the proof. No condition. -/
import Derived.Test.YtimfdllgcnabjaaGreatTab
set_option linter.unusedVariables false
set_option linter.unusedSimpArgs false
namespace Go.Bm
open Go.Proofs
abbrev aW:=@implies_true
abbrev gM:=@decide_eq_false_iff_not
abbrev fY:=@bne_eq_false_iff_eq
abbrev dK:=@Int.lt_irrefl
abbrev mt:=@beq_eq_false_iff_ne
abbrev iO:=@List.foldl_append
abbrev lH:=@bne_iff_ne
abbrev mw:=@List.mem_filter
abbrev zo:=@List.flatMap_cons
abbrev G7:=@List.flatMap_append
abbrev sg:=@List.mem_flatMap
abbrev pS:=@List.mem_flatten
abbrev w6:=@List.eq_of_mem_replicate
abbrev zp:=@List.getD_cons_succ
abbrev dy:Type:=(Int×((List Int)×((List Int)×((List Int)×(List (List Int))))))
abbrev dD:Type:=(Unit×(Unit×(Int×Unit)))
abbrev jM:Type:=(dy×(dy×((List Int)×(List Int))))
abbrev dV:Type:=((List Int)×Unit)
abbrev mj:Type:=((List Int)×(Int×Int))
abbrev Uu:Type:=((Bool×(Bool×(Bool×Bool)))×((List (dy×(Int×(Int×((dy×(Int×(Int×Unit)))×Bool)))))×((List (dy×(Int×(Int×((dy×(Int×(Int×Unit)))×Bool)))))×Unit)))
abbrev gh:Type:=(dy×(dy×Unit))
abbrev dH:Type:=(Unit×(Int×Unit))
abbrev iK:Type:=(List (List Int))
abbrev g8:Type:=(Unit×(Unit×Unit))
abbrev eG:Type:=((Unit×dD)×(dy×(dy×dV)))
abbrev fm:Type:=(Int×(List Int))
abbrev cH:Type:=((Int×Unit)×Unit)
abbrev gR:Type:=((Unit×g8)×(mj×gh))
abbrev ig:Type:=(dD×(mj×(iK×Unit)))
abbrev uf:Type:=(dy×((List fm)×(Int×((List Int)×(dy×(Int×(jM×Unit)))))))
abbrev nu:Type:=(Int×(Int×Unit))
abbrev kL:Type:=(dH×((List (Int×fm))×Unit))
abbrev yJ:Type:=(dD×((Bool×(Bool×(Bool×Bool)))×((List (dy×(Int×(Int×(Unit×Bool)))))×Unit)))
abbrev vQ:Type:=(Unit×(Unit×dD))
abbrev mi:Type:=(Int×Int×List Int)
abbrev rQ:Type:=((Unit×Unit)×((List (Int×Int))×Unit))
abbrev rR:Type:=(Int×(Int×(Unit×Bool)))
abbrev ug:Type:=((Unit×g8)×(mj×(jM×(jM×Unit))))
abbrev uh:Type:=((jM×(jM×(Bool×(Int×iK))))×Unit)
abbrev vR:Type:=(Unit×(Bool×(Int×Unit)))
abbrev nv:Type:=(dH×((Int×Int)×Unit))
abbrev yK:Type:=((Unit×(Unit×(Unit×(Bool×Unit))))×(mj×gh))
abbrev pI:Type:=((List Int)×dV)
abbrev ly:Type:=((Unit×Unit)×dV)
abbrev yL:Type:=(vQ×((List jM)×(dy×(dy×dV))))
abbrev vS:Type:=(vQ×(dy×(dy×(iK×dV))))
abbrev yM:Type:=(dy×(Int×(Int×((dy×nu)×Bool))))
abbrev rS:Type:=(dH×((List fm)×Unit))
abbrev Cg:Type:=(Bool×(Bool×Bool))
abbrev nw:Type:=(dD×(jM×dV))
abbrev ot:Type:=((Int×Int)×Bool)
abbrev yN:Type:=((Unit×dD)×((List jM)×gh))
abbrev yO:Type:=(dH×((List (Int×Int))×Unit))
abbrev Gw:Type:=((Unit×Unit)×((List (Int×fm))×Unit))
abbrev LY:Type:=((Unit×(Unit×(Unit×nu)))×(dy×(dy×dV)))
abbrev Ch:Type:=((Unit×(Bool×Unit))×dV)
abbrev Ci:Type:=(dy×(iK×(dy×dV)))
abbrev yP:Type:=((Unit×dD)×Uu)
abbrev Uv:Type:=(dy×(iK×Unit))
abbrev LZ:Type:=((Unit×dD)×(dy×(iK×(dy×Unit))))
abbrev Gx:Type:=(g8×(mj×(iK×Unit)))
abbrev Ma:Type:=(vQ×(mj×(dy×(iK×dV))))
abbrev Mb:Type:=((Unit×dD)×(mj×(iK×dV)))
abbrev Uw:Type:=((Unit×(Unit×(Unit×(dy×Unit))))×(mj×(dy×(jM×Unit))))
abbrev Cj:Type:=(mj×(jM×Unit))
abbrev LR:Type:=((Int×(Unit×g8))×(iK×gh))
abbrev LS:Type:=(g8×((List fm)×(Int×Unit)))
abbrev LT:Type:=(vQ×(mj×(dy×pI)))
abbrev LU:Type:=((Unit×dD)×(dy×Uv))
abbrev LV:Type:=((Unit×dD)×(mj×Uv))
abbrev Gt:Type:=(Int×Int×Int×Int)
abbrev LW:Type:=(dH×((List ot)×Unit))
abbrev Gu:Type:=((Unit×g8)×Uu)
abbrev Gv:Type:=(dH×(iK×Unit))
abbrev LX:Type:=((Unit×dD)×(iK×gh))
abbrev Gy:Type:=(dH×(mj×Unit))
abbrev Mc:Type:=(dD×(mj×(dy×Unit)))
set_option maxRecDepth 100000
set_option maxHeartbeats 1000000
noncomputable section
abbrev aC:T:=.int .i64
abbrev cy:T:=.sl aC
abbrev yn:T:=.sl cy
abbrev Fw:T:=.p aC (.p cy (.p cy (.p cy yn)))
abbrev tyN9:T:=.p Fw (.p Fw (.p cy cy))
abbrev tyN8:O:=.fz tyN9
abbrev cU:O:=.fz .bool
abbrev dP:O:=.fz aC
abbrev bS:O:=.sl dP
abbrev iU:O:=.sl bS
abbrev T0:O:=.p cU (.p dP iU)
abbrev LB:O:=.pt (.p tyN8 (.p tyN8 T0))
abbrev yj:T:=.pt Fw
abbrev yu:T:=.pt aC
abbrev Uq:T:=.p yu (.p yu .u)
abbrev TK:T:=.p (.pt yj) Uq
abbrev tyN1:O:=.sl (.fz (.pt (.p yj (.p aC (.p aC (.p (.fn 110 TK) .bool))))))
abbrev tyN2:O:=.sl (.fz (.pt (.p yj (.p aC (.p aC (.p (.fn 111 TK) .bool))))))
abbrev Lp:O:=.p dP (.p bS (.p bS (.p bS iU)))
abbrev Lr:O:=.p bS bS
abbrev tM:O:=.pt (.p Lp (.p Lp Lr))
abbrev KZ:O:=.fz Fw
abbrev tyN6:O:=.p KZ (.p KZ Lr)
abbrev LQ:O:=.sl tyN6
abbrev tyN5:O:=.pt tyN6
abbrev tyN7:O:=.pt (.fz (.pt tyN9))
abbrev TH:T:=.p aC (.p aC (.p (.fn 109 .u) .bool))
abbrev TV:O:=.sl (.fz (.pt (.p yj TH)))
abbrev ir:T:=.pt bO
abbrev BF:T:=.pt ir
abbrev Us:T:=.p BF Uq
abbrev B2:T:=.pt (.p ir (.p aC (.p aC (.p (.fn 110 Us) .bool))))
abbrev BI:T:=.pt (.p ir (.p aC (.p aC (.p (.fn 111 Us) .bool))))
abbrev cG:O:=.pt Lp
abbrev rA:O:=.sl (.fz cy)
abbrev afi:O:=.pt (.p dP (.p bS (.p bS (.p bS rA))))
abbrev TL:O:=.pt (.fz yj)
abbrev lY:O:=.pt KZ
abbrev ph:O:=.fz io
abbrev Ut:O:=.pt (.p ph (.p ph T0))
abbrev B3:O:=.fz bO
abbrev yv:O:=.p B3 (.p B3 Lr)
abbrev yi:O:=.sl yv
abbrev B8:T:=.pt (.p ir TH)
abbrev T4:T:=.p aC (.p aC cy)
abbrev aft:O:=.sl (.fz T4)
abbrev cO:T:=.sl (.int .u8)
abbrev jE:O:=.pt (.fz (.p cO (.p aC (.int .u64))))
abbrev Tv:O:=.p dP bS
abbrev Uk:O:=.sl Tv
abbrev BM:O:=.pt Uk
abbrev TX:O:=.fz (.p .bool (.p .bool (.p .bool .bool)))
abbrev Le:O:=.pt TX
abbrev Fz:O:=.sl (.fz (.p aC cy))
abbrev kz:T:=.p aC aC
abbrev ae3:O:=.sl (.fz kz)
abbrev xZ:O:=.pt (.fz kz)
abbrev Uf:O:=.pt bS
abbrev fC:O:=.pt (.fz ke)
abbrev vm:O:=.pt dP
abbrev rj:T:=.pt io
abbrev ky:T:=.sl kw
abbrev yq:O:=.fz tF
abbrev nT:T:=.sl tF
abbrev vq:T:=.sl Ly
abbrev La:Obs:=[(999900,TL),(999901,BM),(999902,vm),(999903,Uf),(999904,TL),(999905,vm),(999906,tyN7)]
abbrev TS:Shs:=[(4,(.ad 4 [.de])),(5,(.ad 5 [.de])),(9,(.ref 800009 [])),(11,(.ref 800011 [])),(13,(.d aC))]
abbrev Up:Shs:=[(0,(.ad 1000000 [.de])),(3,(.ad 3 [.de])),(4,(.ad 4 [.de])),(58,(.d .bool))]
abbrev Ul:Shs:=[(4,(.ad 4 [.de])),(7,(.ad 7 [.de])),(12,(.ref 800012 [])),(13,(.d aC))]
abbrev Tx:Shs:=[(4,(.ad 4 [.de])),(7,(.ad 7 [.de])),(12,(.ref 800012 [])),(14,(.d aC))]
abbrev TF:Shs:=[(4,(.ad 4 [.de])),(7,(.ad 7 [.de])),(12,(.ref 800012 [])),(15,(.d aC))]
abbrev TY:Shs:=[(6,(.ad 6 [.de])),(8,(.ad 8 [.de])),(11,(.ref 800011 [])),(13,(.d aC))]
abbrev TJ:Shs:=[(2,(.ad 2 [.de])),(4,(.ref 800004 [])),(5,(.ref 800005 []))]
abbrev qZ:Shs:=[(0,(.ad 1000000 [.de])),(3,(.ad 3 [.de])),(4,(.ad 4 [.de]))]
abbrev T9:Shs:=[(0,(.ad 1000000 [.de])),(6,(.ad 6 [.de])),(8,(.ad 8 [.de]))]
abbrev FL:Shs:=[(0,(.ad 1000000 [.de])),(2,(.ad 2 [.de])),(3,(.ad 3 [.de]))]
abbrev TU:Shs:=[(4,(.ad 4 [.de])),(7,(.ad 7 [.de])),(10,(.d aC))]
abbrev T8:Shs:=[(4,(.ad 4 [.de])),(7,(.ad 7 [.de])),(11,(.d aC))]
abbrev Lf:Obs:=[(4,cG),(5,cG),(800009,iU),(800011,bS)]
abbrev Uj:Obs:=[(2,cG),(800004,iU),(5,cG),(800007,bS)]
abbrev Ud:Shs:=[(4,(.ad 4 [.de])),(7,(.ad 7 [.de])),(8,(.d aC))]
abbrev Tz:Shs:=[(4,(.ad 4 [.de])),(7,(.ad 7 [.de])),(9,(.d aC))]
abbrev TT:Obs:=[(999900,LQ),(4,lY),(5,lY),(800009,bS)]
abbrev Uh:Shs:=[(0,(.ad 1000000 [.de])),(5,(.ref 800005 []))]
abbrev FD:Obs:=[(2,Le),(800004,tyN1),(800005,tyN2)]
abbrev vu:Obs:=[(1000000,jE),(3,afi),(4,cG)]
abbrev B1:Obs:=[(1000000,jE),(3,cG),(4,cG)]
abbrev KW:Shs:=[(5,(.ref 800005 [])),(22,(.d aC))]
abbrev Ld:Shs:=[(5,(.ref 800005 [])),(54,(.d aC))]
abbrev yg:Obs:=[(4,cG),(7,cG),(800012,bS)]
abbrev FE:Obs:=[(6,cG),(8,cG),(800011,bS)]
abbrev FA:Shs:=[(3,(.ref 800003 [])),(4,(.d aC))]
abbrev Lg:Shs:=[(5,(.ref 800005 [])),(6,(.d aC))]
abbrev F8:Obs:=[(1000000,jE),(2,tM),(3,tyN5)]
abbrev Lv:Shs:=[(3,(.ad 3 [.de])),(23,(.d aC))]
abbrev KY:Shs:=[(9,(.ref 37 [])),(40,(.d aC))]
abbrev Li:Shs:=[(3,(.ad 3 [.de])),(5,(.d aC))]
abbrev ym:Obs:=[(1000000,jE),(800005,iU)]
abbrev Lu:List Nat:=[0,1,7,20,21,22,52,53,54]
abbrev Lc:List Nat:=[0,1,7,20,21,22,52,53]
abbrev K9:Obs:=[(37,(.mp kz .bool))]
abbrev t7:Obs:=[(4,cG),(7,cG)]
abbrev Fd:Shs:=[(7,(.ref 800007 []))]
abbrev mM:Shs:=[(5,(.ref 800005 []))]
abbrev Br:Shs:=[(10,(.d aC))]
abbrev xI:List Nat:=[0,1,20,21,22]
abbrev EZ:Obs:=[(1000000,bS)]
abbrev pa:Shs:=[(7,(.d aC))]
abbrev xD:Obs:=[(800008,bS)]
abbrev Bp:Obs:=[(800003,bS)]
abbrev kt:Obs:=[(800005,ae3)]
abbrev tx:Shs:=[(5,(.d aC))]
abbrev tB:Obs:=[(800005,bS)]
abbrev vf:Obs:=[(800007,aft)]
abbrev bW:Type:=List (List Int)
abbrev pJ:Type:=List (Int×Int)
abbrev pL:Type:=Bool×Cg
abbrev yR:Type:=Int->Int->Bool
abbrev yS:Type:=Int->Int->Int
variable {A t:bW}{B:Tab}{E:Prop}{F:yS}{K:Int×((Int×Int)×(Bool×Unit))->Prop}{U:Int->Int->Int->Bool}{a:pL}{b f g i j k w x y:Int}{c:ah}{d:Int×Int}{fits:yR}{l:pJ}{m n:Nat}{p:jt}{s:aA}{Φ:du}{α:Type}
def Ix(a:Int)(l:Nat)(P:Prop):Prop:=0<=a/\a<(l:Int)/\P
def Iq(a:Int)(P:Prop):Prop:=inK .i64 a->P
def Ik(a:Int)(P:Prop):Prop:=inK .i64 a/\P
def Ol(a:aA)(P:Prop):Prop:=T.ok (.sl (.int .i64)) a->P
def Om(a:bW)(P:Prop):Prop:=T.ok (.sl (.sl (.int .i64))) a->P
def Oc(a:ah)(P:Prop):Prop:=inK .i64 a.1->T.ok (.sl (.int .i64)) a.2.1->T.ok (.sl (.int .i64)) a.2.2.1->T.ok (.sl (.int .i64)) a.2.2.2.1->T.ok (.sl (.sl (.int .i64))) a.2.2.2.2->P
def Of(a:aV)(P:Prop):Prop:=Oc a.1 (Oc a.2.1 (T.ok (.sl (.int .i64)) a.2.2.1->T.ok (.sl (.int .i64)) a.2.2.2->P))
def Oa(t:T)(a:t.den)(P:Prop):Prop:=T.ok t a->P
theorem ctb  (g : fR Tryz.prog Φ)  (hB : TabOk Tryz.prog B) (f : FuncId) (fn : Func) (ct : Ct) (A : Ann) (l : List (Nat × Nat)) (W : bq ct.args -> (bY ct.rt -> Prop) -> Prop) (hm : ∀ x, ab (okL ct.args x) -> ab (ct.pre x) -> W x (fun r => r = ct.res x)) (h : (Tryz.prog.funcs[f]?, fn.body, fn.name == "runtime.NumGoroutine", ct.ga, orb ct.sh (nU ct.rt), okC fn.ntmps (fJ l) (eC fn), Nat.ble ct.ga.length fn.ntmps) = (some fn, some (eC fn), false, agL B fn, true, true, true) := by kernel_rfl) (hu : ct.mu = none := by rfl) (hw : ∀ x K, evF B Φ (fJ l) fn (eC fn) A ct x K = W x K := by intros; kernel_rfl) : aN Tryz.prog f ct := by
 simp only[bE]at h;obtain⟨h1,h2,h3,h4,h5,h6,h7⟩:=h;exact aeg g hB (by kernel_rfl) h1 h2 h3 ct hu A (fJ l) h4 h5 h6 (eU h7) W hw hm
abbrev Mh(c:Ct)(x:bq c.args)(V:(bY c.rt->Prop)->Prop):Prop:=ab (okL c.args x)->ab (c.pre x)->V (λr=>r=c.res x)
theorem wtb  (g : fR Tryz.prog Φ)  (hB : TabOk Tryz.prog B) (f : FuncId) (fn : Func) (W : Wt) (A : Ann) (l : List (Nat × Nat)) (hm : ∀ x y, ab (W.o.strip.oks x) -> ab (okL W.as y) -> ab (W.pre x y) -> pH B Φ (fJ l) fn (eC fn) A W x y (fun z r => z = W.new x y /\ r = W.res x y)) (h : (Tryz.prog.funcs[f]?, fn.body, fn.name == "runtime.NumGoroutine", lf W.o, cn W.i false W.ag, okC fn.ntmps (fJ l) (eC fn), Nat.ble W.i W.ag.length, Nat.ble (W.ag.length + 1) fn.ntmps, noW [W.i] (eC fn)) = (some fn, some (eC fn), false, true, agL B fn, true, true, true, true) := by kernel_rfl) : aN Tryz.prog f (g7 W) := by
 simp only[bE]at h;obtain⟨h1,h2,h3,h4,h5,h6,h7,h8,h9⟩:=h;exact ae7 g hB (by kernel_rfl) h1 h2 h3 W A (fJ l) h4 (eU h7) h5 h6 (eU h8) h9 hm
theorem pkb  (g : fR Tryz.prog Φ)  (hB : TabOk Tryz.prog B) (f : FuncId) (fn : Func) (ct : Ct) (A : Ann) (l : List (Nat × Nat)) (W : bq ct.args -> (bY ct.rt -> Prop) -> Prop) (Q : bq ct.args -> bY ct.rt -> Prop) (hm : ∀ x, ab (okL ct.args x) -> ab (ct.pre x) -> W x (Q x)) (x : bq ct.args) (h : (Tryz.prog.funcs[f]?, fn.body, fn.name == "runtime.NumGoroutine", BG l, ct.ga, orb ct.sh (nU ct.rt), okC fn.ntmps (fJ l) (eC fn), Nat.ble ct.ga.length fn.ntmps, reL ct.ga ct.args) = (some fn, some (eC fn), false, true, agL B fn, true, true, true, true) := by kernel_rfl) (hw : ∀ x K, evF B Φ (fJ l) fn (eC fn) A ct x K = W x K := by intros; kernel_rfl) :
  ∃r,ab (okL ct.args x)->ab (ct.pre x)->W x (λr'=>r'=r)/\ab (okR ct.rt r)/\Q x r:=by
 simp only[bE]at h;obtain⟨h1,h2,h3,h4,h5,h6,h7,h8,h9⟩:=h;exact ab8 g hB (by kernel_rfl) h1 h2 h3 ct A (fJ l) (K4 h4) (PE (by kernel_rfl)) h5 h6 h7 (eU h8) h9 W hw Q hm x
theorem pkw(g:fR Tryz.prog Φ)(hB:TabOk Tryz.prog B)(f:fL)(fn:Func)(W:Wt)(A:Ann)(l:List (Nat×Nat))(t:T)(V:W.o.strip.den->bq W.as->(W.o.strip.den->bY W.rt->Prop)->Prop)
  (Q : W.o.strip.den -> bq W.as -> W.o.strip.den -> bY W.rt -> Prop) (hm : ∀ x y, ab (W.o.strip.oks x) -> ab (okL W.as y) -> ab (W.pre x y) -> V x y (Q x y)) (x : W.o.strip.den) (y : bq W.as) (h : (Tryz.prog.funcs[f]?, fn.body, fn.name == "runtime.NumGoroutine", BG l, lf W.o, cn W.i false W.ag, okC fn.ntmps (fJ l) (eC fn), Nat.ble W.i W.ag.length, Nat.ble (W.ag.length + 1) fn.ntmps, noW [W.i] (eC fn), reL W.ag W.as, W.o, reT t) = (some fn, some (eC fn), false, true, true, agL B fn, true, true, true, true, true, .pt (.fz t), true) := by kernel_rfl) (hw : ∀ x y K, pH B Φ (fJ l) fn (eC fn) A W x y K = V x y K := by intros; kernel_rfl) :
  ∃q:W.o.strip.den×bY W.rt,ab (W.o.strip.oks x)->ab (okL W.as y)->ab (W.pre x y)->V x y (λz r=>z=q.1/\r=q.2)/\ab (W.o.strip.oks q.1)/\ab (okR W.rt q.2)/\Q x y q.1 q.2:=by
 simp only[bE]at h;obtain⟨h1,h2,h3,h4,h5,h6,h7,h8,h9,h10,h11,h12,h13⟩:=h;exact ac0 g hB (by kernel_rfl) h1 h2 h3 W A (fJ l) (K4 h4) (PE (by kernel_rfl)) h5 (eU h8) h6 h7 (eU h9) h10 h11 t h12 h13 V hw Q hm x y
def su:Ct:=⟨[ir],[false],λx=>[],[(false,dP)],λx=>((x.1.2.1.length:Int),()),false,none⟩
abbrev vU:Type:=Int×Unit->Prop
def GV(c:ah)(K:vU):Prop:=K ((c.2.1.length:Int),())
theorem Vs(c:ah):Mh su (c,()) (GV c):=by
 intro hok hpre;simp only[su,okL,T.oks,T.ok,ap,ab,aL,az,aW]at hok hpre
 try dsimp only[T.den]at hok hpre
 unfold GV;rfl
theorem CG:aN Tryz.prog 85 su:=ctb aR aS 85 Tryz.f85 su .n [] (λx K=>GV x.1 K) (λx h1 h2=>Vs x.1 h1 h2)
def aq(c:ah)(f g:Int):Int:=(c.2.2.2.2.getD f.toNat []).getD g.toNat 0
def m8:Ct:=⟨[ir,aC,aC],[false,false,false],λx=>[0<=x.2.1,x.2.1<x.1.2.2.2.2.length,0<=x.2.2.1,x.2.2.1<(x.1.2.2.2.2.getD x.2.1.toNat []).length],[(false,dP)],λx=>(aq x.1 x.2.1 x.2.2.1,()),false,none⟩
def Hm(c:ah)(f g:Int)(K:vU):Prop:=let a:=c.2.2.2.2.getD f.toNat [];Ix f c.2.2.2.2.length<|Ix g a.length<|K (a.getD g.toNat 0,())
theorem VA(c:ah)(f g:Int):Mh m8 (c,f,g,()) (Hm c f g):=by
 intro hok hpre;simp only[m8,okL,T.oks,T.ok,ap,ab,aL,az,aW]at hok hpre
 try dsimp only[T.den]at hok hpre
 delta Hm Ix
 dsimp -proj -eta only;exact⟨hpre.1,hpre.2.1,hpre.2.2.1,hpre.2.2.2,rfl⟩
theorem oD:aN Tryz.prog 46 m8:=ctb aR aS 46 Tryz.f46 m8 .n [] (λx K=>Hm x.1 x.2.1 x.2.2.1 K) (λx h1 h2=>VA x.1 x.2.1 x.2.2.1 h1 h2)
def wE:Ct:=⟨[ir,aC],[false,false],λx=>[0<=x.2.1,x.2.1<x.1.2.1.length,x.2.1<x.1.2.2.1.length],[(true,(.fz kw))],λx=>(((x.1.2.1.getD x.2.1.toNat 0,x.1.2.2.1.getD x.2.1.toNat 0):Int×Int),()),false,none⟩
def Hi(c:ah)(f:Int)(K:qK×Unit->Prop):Prop:=Ix f c.2.1.length<|Ix f c.2.2.1.length<|K ((c.2.1.getD f.toNat 0,c.2.2.1.getD f.toNat 0),())
theorem VB(c:ah)(f:Int):Mh wE (c,f,()) (Hi c f):=by
 intro hok hpre;simp only[wE,okL,T.oks,T.ok,ap,ab,aL,az,aW]at hok hpre
 try dsimp only[T.den]at hok hpre
 delta Hi Ix
 exact⟨hpre.1,hpre.2.1,hpre.1,hpre.2.2,rfl⟩
theorem Ml:aN Tryz.prog 78 wE:=ctb aR aS 78 Tryz.f78 wE .n [(1,15)] (λx K=>Hi x.1 x.2.1 K) (λx h1 h2=>VB x.1 x.2.1 h1 h2)
def wU:Ct:=⟨[aC,aC,aC],[false,false,false],λx=>[],[(false,cU)],λx=>(inR x.1 x.2.1 x.2.2.1,()),false,none⟩
abbrev d9:Type:=Bool×Unit->Prop
def If(n low high:Int)(K:d9):Prop:=K (decide (low<=n)&&decide (n<=high),())
theorem Ym(n low high:Int):Mh wU (n,low,high,()) (If n low high):=by
 intro hok hpre;simp only[wU,okL,T.oks,T.ok,ap,ab,aL,az,aW]at hok hpre
 try dsimp only[T.den]at hok hpre
 unfold If
 grind[cnd,ce,cF,wU,inR]
theorem Nr:aN Tryz.prog 108 wU:=ctb aR aS 108 Tryz.f108 wU .n [] (λx K=>If x.1 x.2.1 x.2.2.1 K) (λx h1 h2=>Ym x.1 x.2.1 x.2.2.1 h1 h2)
def sM:Ct:=⟨[cy,aC],[false,false],λx=>[inK .i64 (x.2.1-1)],[(false,cU)],λx=>(ds x.1 x.2.1,()),false,none⟩
def XQ:Ann:=(.s .n (.s (.s .n (.l [(9,(.d aC))] [] [1,7,8] .n)) .n))
def Is(list:aA)(n:Int)(K:d9):Prop:=aK (S:=cH) (λa b=>Iq a.1.1<|cnd (decide (a.1.1<(list.length:Int))) (Ix a.1.1 list.length<|Ik (n-1)<|cnd (!inR (list.getD a.1.1.toNat 0) 0 (n-1)) (K (false,())) (Ik (a.1.1+1)<|b ((a.1.1+1,()),()))) (K (true,()))) ((0,()),())
theorem YA(list:aA)(n:Int):Mh sM (list,n,()) (Is list n):=by
 intro hok hpre;simp only[sM,okL,T.oks,T.ok,ap,ab,aL,az,aW]at hok hpre
 try dsimp only[T.den]at hok hpre
 delta Is Ik Iq Ix
 refine bt (λ(s:cH)=>0<=s.1.1/\s.1.1<=list.length/\ds list n=ds (list.drop s.1.1.toNat) n) (λ(s:cH)=>(list.length-s.1.1).toNat) ?_ ak;rintro⟨⟨i,_⟩,_⟩ next ⟨h0,h1,h2⟩ hn hin
 simp only at h0 h1 h2 hn⊢;refine aE (λhc=>?_) (λhc=>?_)
 ·rw[tE list 0 h0 hc]at h2;simp only[ds,zm]at h2
  grind[cnd,ce,cF,sM,ds]
 ·rw[ve list aa]at h2
  grind[cnd,ce,cF,sM,ds]
theorem N3:aN Tryz.prog 96 sM:=ctb (au Nr aR) aS 96 Tryz.f96 sM XQ [] (λx K=>Is x.1 x.2.1 K) (λx h1 h2=>YA x.1 x.2.1 h1 h2)
def k8(c:ah)(f g v:Int):Bool:=
 if c.2.2.1.getD f.toNat 0=c.2.1.getD g.toNat 0 then decide (0<=v/\v<c.2.1.length/\c.2.1.getD v.toNat 0=c.2.1.getD f.toNat 0/\c.2.2.1.getD v.toNat 0=c.2.2.1.getD g.toNat 0)
 else decide (v=-1)
def iV(c:ah)(f g:Int):Bool:=k8 c f g (aq c f g)
structure ShapeP (c:ah):Prop where
 ob:0<=c.1/\c.1<=8
 m:c.2.1.length<=40
 lt:c.2.2.1.length=c.2.1.length
 fr:ds c.2.1 c.1=true
 to:ds c.2.2.1 c.1=true
 li:(c.2.2.2.1.length:Int)=c.1
 ids:ds c.2.2.2.1 c.2.1.length=true
 lc:c.2.2.2.2.length=c.2.1.length
 idt:∀x:Int,0<=x->x<c.1->c.2.1.getD (c.2.2.2.1.getD x.toNat 0).toNat 0=x/\c.2.2.1.getD (c.2.2.2.1.getD x.toNat 0).toNat 0=x
 row:∀f:Int,0<=f->f<c.2.1.length->(c.2.2.2.2.getD f.toNat []).length=c.2.1.length
 cell:∀f g:Int,0<=f->f<c.2.1.length->0<=g->g<c.2.1.length->iV c f g=true
def lP(c:ah):Bool:=inR c.1 0 8&&decide (c.2.1.length<=40)&&decide (c.2.2.1.length=c.2.1.length)&&ds c.2.1 c.1&&ds c.2.2.1 c.1&&decide ((c.2.2.2.1.length:Int)=c.1)&&ds c.2.2.2.1 c.2.1.length &&
 decide (c.2.2.2.2.length=c.2.1.length)&&cu c.1.toNat (λx=>decide (c.2.1.getD (c.2.2.2.1.getD x.toNat 0).toNat 0=x/\c.2.2.1.getD (c.2.2.2.1.getD x.toNat 0).toNat 0=x)) &&
 cu c.2.1.length (λf=>decide ((c.2.2.2.2.getD f.toNat []).length=c.2.1.length))&&cu c.2.1.length (λf=>cu c.2.1.length λg=>iV c f g)
theorem uJ{c:ah}:lP c=true<->ShapeP c:=by
 simp only[lP,ao,db,inR,gX];constructor
 ·rintro⟨⟨⟨⟨⟨⟨⟨⟨⟨⟨h0,h1⟩,h2⟩,h3⟩,h4⟩,h5⟩,h6⟩,h7⟩,h8⟩,h9⟩,h10⟩;exact⟨h0,h1,h2,h3,h4,h5,h6,h7,λx a b=>h8 x a aa,h9,λf g a b d e=>h10 f a b g d e⟩
 ·intro h;exact⟨⟨⟨⟨⟨⟨⟨⟨⟨⟨h.ob,h.m⟩,h.lt⟩,h.fr⟩,h.to⟩,h.li⟩,h.ids⟩,h.lc⟩,λx a b=>h.idt x a (by have:=h.ob;omega)⟩,h.row⟩,λf a b g d e=>h.cell f g a b d e⟩
theorem E6(h:¬ShapeP c):lP c=false:=by
 cases hs:lP c with
 |false=>rfl
 |true=>exact absurd (uJ.1 hs) h
theorem Kw(h:ShapeP c):lP c=true:=uJ.2 h
def mz:Ct:=⟨[ir],[false],λx=>[],[(false,cU)],λx=>(lP x.1,()),false,none⟩
def Vb:Ann:=(.s .n (.s .n (.s .n (.s .n (.s (.s .n (.l [(88,(.d aC))] [] [0,3,86,87] .n)) (.s (.s .n (.l [(106,(.d aC))] [] [0,3,104,105] (.s .n (.s .n (.s (.s .n (.s .n (.s .n (.l [(117,(.d aC))] [] [0,3,6,104,105,106,115,116] (.s .n (.s .n (.s (.j [] [] [0,3,6,104,105,106,115,116,117] .n) .n))))))) .n))))) .n))))))
def af6:FuncId->Option Ct:=lkp [(85,su),(78,wE),(108,wU),(96,sM)]
def GN(c:ah)(K:d9):Prop:=let w:=inR c.1 0 8;let v:=c.2.2.2.2.length;let q:=c.2.2.2.1.length;let o:=c.2.2.1.length;let l:=c.2.1.length;let r:=decide (40<(l:Int));((!w||r||(o:Int) != (l:Int))=false->inK .i64 (c.1-1))/\((!w||r||(o:Int) != (l:Int)||!ds c.2.1 c.1)=false->inK .i64 (c.1-1))/\cnd (!w||r||(o:Int) != (l:Int)||!ds c.2.1 c.1||!ds c.2.2.1 c.1) (K (false,())) ((((q:Int) != c.1)=false->inK .i64 ((l:Int)-1))/\cnd ((q:Int) != c.1||!ds c.2.2.2.1 (l:Int)||(v:Int) != (l:Int)) (K (false,())) (aK (S:=cH) (λa b=>let x:=a.1.1;let n:=c.2.2.2.1.getD x.toNat 0;Iq x<|cnd (decide (x<(q:Int))) (Ix x q<|Ix n l<|n<(o:Int)/\cnd (!(c.2.1.getD n.toNat 0==x&&c.2.2.1.getD n.toNat 0==x)) (K (false,())) (Ik (x+1)<|b ((x+1,()),()))) (aK (S:=cH) (λd e=>let t:=d.1.1;let m:=c.2.2.2.2.getD t.toNat [];Iq t<|cnd (decide (t<(v:Int))) (Ix t v<|cnd ((m.length:Int) != (l:Int)) (K (false,())) (aK (S:=cH) (λf g=>let u:=f.1.1;let j:=m.getD u.toNat 0;let p:=inR j 0 ((l:Int)-1);Iq u<|cnd (decide (u<(m.length:Int))) (bK (S:=(Unit×Unit)) (λh=>Ik (u+1)<|g ((u+1,()),())) (λi=>Ix u m.length<|Ix t o<|Ix u l<|cnd (c.2.2.1.getD t.toNat 0 != c.2.1.getD u.toNat 0) (cnd (j != -1) (K (false,())) (i ((),()))) (Ik ((l:Int)-1)<|((!p)=false->j<(l:Int)/\j<(o:Int)/\0<=j)/\((!p)=false->t<(l:Int)/\0<=t)/\((!p)=false->u<(o:Int)/\0<=u)/\cnd (!p||!(c.2.1.getD j.toNat 0==c.2.1.getD t.toNat 0&&c.2.2.1.getD j.toNat 0==c.2.2.1.getD u.toNat 0)) (K (false,())) (i ((),()))))) (Ik (t+1)<|e ((t+1,()),()))) ((0,()),()))) (K (true,()))) ((0,()),()))) ((0,()),())))
theorem Vh(c:ah)(hok:ab (okL mz.args (c,())))(hpre:ab (mz.pre (c,()))):GN c (λr=>r=mz.res (c,())):=by
 simp only[mz,okL,T.oks,T.ok,ap,ab,aL,az,aW]at hok hpre
 try dsimp only[T.den]at hok hpre
 delta GN Ik Iq Ix
 dsimp -proj -eta only;refine⟨by grind[cnd,ce,cF,inR],by grind[cnd,ce,cF,inR],aJ (λhc=>?_) (λhc=>⟨by rw[cF];have:=hok.2.1.1;grind[cnd,ce,cF],aJ (λhd=>?_) (λhd=>?_)⟩)⟩
 ·simp only[mz];rw[E6];intro h;have h1:=h.ob;have h2:=h.m;have h3:=h.lt;have h4:=h.fr;have h5:=h.to;simp only[inR]at hc;grind[cnd,ce,cF]
 ·simp only[mz];rw[E6];intro h;have h1:=h.li;have h2:=h.ids;have h3:=h.lc;grind[cnd,ce,cF]
 simp only[inR,lE,oB,ao,db,gM,fY]at hc hd;obtain⟨⟨⟨⟨hob,hm⟩,hlt⟩,hfr⟩,hto⟩:=hc;obtain⟨⟨hli,hids⟩,hlc⟩:=hd;have bad:¬ShapeP c->(false,())=mz.res (c,()):=λh=>by simp only[mz];rw[E6 h]
 refine eV (n:=c.2.2.2.1.length) (λx=>∀y:Int,0<=y->y<x->c.2.1.getD (c.2.2.2.1.getD y.toNat 0).toNat 0=y/\c.2.2.1.getD (c.2.2.2.1.getD y.toNat 0).toNat 0=y) aa (by intro y h0 h1;omega) ?_ ?_
 ·intro x next h0 h1 hP hn hin
  have hb:=fw.1 hids x h0 h1
  try dsimp only
  refine aE (λ_=>⟨h0,h1,hb.1,hb.2,aa,aJ (λhx=>bad λh=>?_) (λhx=>?_)⟩) (λh=>absurd h1 h)
  ·have:=h.idt x h0 aa;rw[this.1,this.2]at hx;simp at hx
  ·simp only[oB,ao,bN]at hx;refine⟨aB,hn λy y0 y1=>?_⟩;by_cases e:y=x
   ·rw[e];exact hx
   ·exact hP y y0 aa
 intro next hidt hin
 refine aE (λh=>absurd h an) (λ_=>?_);refine eV (n:=c.2.2.2.2.length) (λf=>∀f':Int,0<=f'->f'<f->(c.2.2.2.2.getD f'.toNat []).length=c.2.1.length/\∀g:Int,0<=g->g<c.2.1.length->iV c f' g=true) aa (by intro y h0 h1;omega) ?_ ?_
 ·intro f next h0 h1 hP hn hin
  try dsimp only
  refine aE (λ_=>⟨h0,h1,aJ (λhx=>bad λh=>?_) (λhx=>?_)⟩) (λh=>absurd h1 h)
  ·have:=h.row f h0 aa;rw[this]at hx;simp at hx
  simp only[fY]at hx;refine eV (n:=(c.2.2.2.2.getD f.toNat []).length) (λg=>∀g':Int,0<=g'->g'<g->iV c f g'=true) aa (by intro y h0 h1;omega) ?_ ?_
  ·intro g next3 g0 g1 hP3 hn3 hin3
   try dsimp only
   refine aE (λ_=>?_) (λh=>absurd g1 h);refine bZ (λ_=>iV c f g=true) (λ_ hcell=>⟨aB,hn3 λg' y0 y1=>?_⟩) (λk hk=>?_)
   ·by_cases e:g'=g
    ·rw[e];exact hcell
    ·exact hP3 g' y0 aa
   have hcell:∀b,iV c f g=b->b=false->¬ShapeP c:=λb h1 h2 h=>by have:=h.cell f g h0 aa g0 aa;rw[h1,h2]at this;cases this
   have hk':=hk ((),());obtain⟨v,hv⟩:∃v,(c.2.2.2.2.getD f.toNat []).getD g.toNat 0=v:=⟨_,rfl⟩;have hR:iV c f g=k8 c f g v:=by unfold iV aq;rw[hv]
   rw[hR]at hk';rw[hR]at hcell;rw[hv];clear hP3 hn3 hP hn hk hR hv hidt hok;refine⟨g0,g1,h0,aa,g0,aa,aJ (λha=>aJ (λhb=>bad ?_) (λhb=>hk' ?_)) (λha=>⟨aB,λhv=>?_,λ_=>⟨aa,h0⟩,λ_=>⟨aa,g0⟩,aJ (λhb=>bad ?_) (λhb=>hk' ?_)⟩)⟩
   ·exact hcell _ rfl (by grind[cnd,ce,cF,k8])
   ·grind[cnd,ce,cF,k8]
   ·simp only[inR,oB,ao,db]at hv;omega
   ·exact hcell _ rfl (by simp only[inR]at hb;grind[cnd,ce,cF,k8])
   ·simp only[inR]at hb;grind[cnd,ce,cF,k8]
  ·intro next3 hP3 hin3;refine aE (λh=>absurd h an) (λ_=>⟨aB,hn λf' y0 y1=>?_⟩);by_cases e:f'=f
   ·rw[e];exact⟨aa,λg g0 g1=>hP3 g g0 aa⟩
   ·exact hP f' y0 aa
 ·intro next2 hP2 hin2;refine aE (λh=>absurd h an) (λ_=>?_);simp only[mz];rw[Kw ⟨hob,aa,aa,hfr,hto,aa,hids,aa,λx a b=>hidt x a aa,λf a b=>(hP2 f a aa).1,λf g a b d e=>(hP2 f a aa).2 g d e⟩]
theorem Vc:aN Tryz.prog 73 mz:=ctb (au CG (au Ml (au Nr (au N3 aR)))) aS 73 Tryz.f73 mz Vb [(2,43),(20,15),(4,28),(23,26)] (λx K=>GN x.1 K) (λx h1 h2=>Vh x.1 h1 h2)
theorem ShapeP.frm(h:ShapeP c)(h0:0<=f)(h1:f<c.2.1.length):0<=c.2.1.getD f.toNat 0/\c.2.1.getD f.toNat 0<c.1/\0<=c.2.2.1.getD f.toNat 0/\c.2.2.1.getD f.toNat 0<c.1:=by have a:=fw.1 h.fr f h0 h1;have b:=fw.1 h.to f h0 (by have:=h.lt;omega);exact⟨a.1,a.2,b.1,b.2⟩
theorem ShapeP.idn(h:ShapeP c)(h0:0<=x)(h1:x<c.1):0<=c.2.2.2.1.getD x.toNat 0/\c.2.2.2.1.getD x.toNat 0<c.2.1.length/\c.2.1.getD (c.2.2.2.1.getD x.toNat 0).toNat 0=x/\c.2.2.1.getD (c.2.2.2.1.getD x.toNat 0).toNat 0=x:=by have a:=fw.1 h.ids x h0 (by have:=h.li;omega);have b:=h.idt x h0 h1;exact⟨a.1,a.2,b.1,b.2⟩
theorem ShapeP.yes{c:ah}(h:ShapeP c){f g:Int}(h0:0<=f)(h1:f<c.2.1.length)(g0:0<=g)(g1:g<c.2.1.length)(e:c.2.2.1.getD f.toNat 0=c.2.1.getD g.toNat 0) :
  0<=aq c f g/\aq c f g<c.2.1.length/\c.2.1.getD (aq c f g).toNat 0=c.2.1.getD f.toNat 0/\c.2.2.1.getD (aq c f g).toNat 0=c.2.2.1.getD g.toNat 0:=by
 have:=h.cell f g h0 h1 g0 g1;unfold iV k8 at this;rw[am e]at this;simpa using this
theorem ShapeP.no(h:ShapeP c)(h0:0<=f)(h1:f<c.2.1.length)(g0:0<=g)(g1:g<c.2.1.length)(e:c.2.2.1.getD f.toNat 0≠c.2.1.getD g.toNat 0):aq c f g=-1:=by have:=h.cell f g h0 h1 g0 g1;unfold iV k8 at this;rw[aj e]at this;simpa using this
theorem ShapeP.comp(h:ShapeP c)(h0:0<=f)(h1:f<c.2.1.length)(g0:0<=g)(g1:g<c.2.1.length):0<=aq c f g<->c.2.2.1.getD f.toNat 0=c.2.1.getD g.toNat 0:=by
 constructor
 ·intro h2;by_cases e:c.2.2.1.getD f.toNat 0=c.2.1.getD g.toNat 0
  ·exact e
  ·have:=h.no h0 h1 g0 g1 e;omega
 ·intro e;exact (h.yes h0 h1 g0 g1 e).1
def iq(c:ah)(f:Int):Option Gt:=if aq c (c.2.2.2.1.getD (c.2.1.getD f.toNat 0).toNat 0) f≠f\/aq c f (c.2.2.2.1.getD (c.2.2.1.getD f.toNat 0).toNat 0)≠f then some (1,f,0,0)else none
def kW(c:ah)(f g h:Int):Option Gt:=if c.2.2.1.getD g.toNat 0=c.2.1.getD h.toNat 0/\aq c (aq c f g) h≠aq c f (aq c g h)then some (2,f,g,h)else none
def jC(c:ah)(f g:Int):Option Gt:=if c.2.2.1.getD f.toNat 0=c.2.1.getD g.toNat 0 then ck (kW c f g) c.2.1.length 0 else none
def jD(c:ah)(f:Int):Option Gt:=ck (jC c f) c.2.1.length 0
def gO(c:ah):Int×Int×Int×Int:=orR (ck (iq c) c.2.1.length 0) (orR (ck (jD c) c.2.1.length 0) (0,0,0,0))
def pY:Ct:=⟨[ir],[false],λx=>[ShapeP x.1],[(false,dP),(false,dP),(false,dP),(false,dP)],λx=>((gO x.1).1,(gO x.1).2.1,(gO x.1).2.2.1,(gO x.1).2.2.2,()),false,none⟩
def Vt:Ann:=(.s .n (.s .n (.s (.s .n (.l pa [] [0,6] .n)) (.s (.s .n (.l [(8,(.d aC))] [] [0,6] (.s .n (.s (.s .n (.l [(9,(.d aC))] [] [0,6,8] (.s .n (.s (.j [] [] [0,6,8,9] (.s .n (.s .n (.l Br [] [0,6,8,9] .n)))) .n)))) .n)))) .n))))
def af4:FuncId->Option Ct:=lkp [(85,su),(46,m8)]
def GX(c:ah)(K:Int×Int×Int×Int×Unit->Prop):Prop:=let v:=c.2.1.length;let o:=c.2.2.2.2.length;aK (S:=cH) (λa b=>let p:=a.1.1;let a2:=c.2.1.getD p.toNat 0;let t:=c.2.2.1.getD p.toNat 0;let a0:=c.2.2.2.1.getD t.toNat 0;let m:=c.2.2.2.1.getD a2.toNat 0;let z:=aq c m p;Iq p<|cnd (decide (p<(v:Int))) (Ix p v<|Ix a2 c.2.2.2.1.length<|Ix m o<|Ix p (c.2.2.2.2.getD m.toNat []).length<|((z != p)=false->p<(c.2.2.1.length:Int)/\0<=p)/\((z != p)=false->t<(c.2.2.2.1.length:Int)/\0<=t)/\((z != p)=false->p<(o:Int)/\(Ix a0 (c.2.2.2.2.getD p.toNat []).length<|0<=p))/\cnd (z != p||aq c p a0 != p) (K (1,p,0,0,())) (Ik (p+1)<|b ((p+1,()),()))) (aK (S:=cH) (λd e=>let w:=d.1.1;let r:=(c.2.2.2.2.getD w.toNat []).length;Iq w<|cnd (decide (w<(v:Int))) (aK (S:=cH) (λf g=>let u:=f.1.1;let y:=(c.2.2.2.2.getD u.toNat []).length;let q:=aq c w u;Iq u<|cnd (decide (u<(v:Int))) (bK (S:=(Unit×Unit)) (λh=>Ik (u+1)<|g ((u+1,()),())) (λi=>Ix w o<|Ix u r<|cnd (decide (q<0)) (i ((),())) (aK (S:=cH) (λj l=>let x:=j.1.1;let a1:=aq c u x;let n:=decide (0<=a1);Iq x<|cnd (decide (x<(v:Int))) (Ix u o<|Ix x y<|(n=true->w<(o:Int)/\(Ix u r<|0<=w))/\(n=true->q<(o:Int)/\(Ix x (c.2.2.2.2.getD q.toNat []).length<|0<=q))/\(n=true->u<(o:Int)/\(Ix x y<|0<=u))/\(n=true->w<(o:Int)/\(Ix a1 r<|0<=w))/\cnd (n&&aq c q x != aq c w a1) (K (2,w,u,x,())) (Ik (x+1)<|l ((x+1,()),()))) (i ((),()))) ((0,()),())))) (Ik (w+1)<|e ((w+1,()),()))) ((0,()),())) (K (0,0,0,0,()))) ((0,()),()))) ((0,()),())
theorem Vr(c:ah)(hok:ab (okL pY.args (c,())))(hpre:ab (pY.pre (c,()))):GX c (λr=>r=pY.res (c,())):=by
 simp only[pY,okL,T.oks,T.ok,ap,ab,aL,az,aW]at hok hpre
 try dsimp only[T.den]at hok hpre
 delta GX Ik Iq Ix
 dsimp -proj -eta only;have S:ShapeP c:=hpre;have hlt:=S.lt;have hli:=S.li;have hlc:=S.lc;have hmm:=S.m;have resq:∀a b d e,gO c=(a,b,d,e)->(a,b,d,e,())=pY.res (c,()):=λa b d e h=>by simp only[pY,h]
 refine eV (n:=c.2.1.length) (λf=>ck (iq c) c.2.1.length 0=ck (iq c) ((c.2.1.length:Int)-f).toNat f) aa t8 ?_ ?_
 ·intro f next h0 h1 hP hn hin
  try dsimp only
  obtain⟨a1,a2,a3,a4⟩:=S.frm h0 h1;obtain⟨b1,b2,_,_⟩:=S.idn a1 a2;obtain⟨d1,d2,_,_⟩:=S.idn a3 a4;have r1:=S.row _ b1 b2;have r2:=S.row f h0 h1;refine aE (λ_=>⟨h0,h1,aa,aa,aa,aa,h0,aa,λ_=>aa,λ_=>aa,λ_=>aa,aJ (λhx=>resq _ _ _ _ ?_) (λhx=>⟨aB,hn ?_⟩)⟩) (λh=>absurd h1 h)
  ·have:iq c f=some (1,f,0,0):=by unfold iq;rw[am];simpa using hx
   unfold gO;rw[hP,t9 h1 this];rfl
  ·have:iq c f=none:=by unfold iq;rw[aj];simpa using hx
   rw[hP,tz h1 this]
 intro next hI hin
 rw[tq]at hI;refine aE (λh=>absurd h an) (λ_=>?_);have hF:gO c=orR (ck (jD c) c.2.1.length 0) (0,0,0,0):=by unfold gO;rw[hI];rfl
 refine eV (n:=c.2.1.length) (λf=>ck (jD c) c.2.1.length 0=ck (jD c) ((c.2.1.length:Int)-f).toNat f) aa t8 ?_ ?_
 ·intro f next h0 h1 hP hn hin
  try dsimp only
  refine aE (λ_=>?_) (λh=>absurd h1 h);have r1:=S.row f h0 h1;refine eV (n:=c.2.1.length) (λg=>jD c f=ck (jC c f) ((c.2.1.length:Int)-g).toNat g) aa t8 ?_ ?_
  ·intro g next3 g0 g1 hP3 hn3 hin3
   try dsimp only
   refine aE (λ_=>?_) (λh=>absurd g1 h);have r2:=S.row g g0 g1;refine bZ (λ_=>jC c f g=none) (λ_ hG=>⟨aB,hn3 (by rw[hP3,tz g1 hG])⟩) (λk hk=>?_);have hk':=hk ((),());refine⟨aa,aa,aa,aa,aE (λhx=>hk' ?_) (λhx=>?_)⟩
   ·unfold jC;rw[aj];intro e;have:=(S.comp h0 h1 g0 g1).2 e;omega
   have hfg:=(S.comp h0 h1 g0 g1).1 aa;obtain⟨y1,y2,_,_⟩:=S.yes h0 h1 g0 g1 hfg;refine eV (n:=c.2.1.length) (λh=>jC c f g=ck (kW c f g) ((c.2.1.length:Int)-h).toNat h) aa (by unfold jC;rw[am hfg];exact t8) ?_ ?_
   ·intro h next4 i0 i1 hP4 hn4 hin4
    try dsimp only
    refine aE (λ_=>?_) (λh=>absurd i1 h);have r3:=S.row _ y1 y2;have cgh:=S.comp g0 g1 i0 i1;have ygh:=@ShapeP.yes c S g h g0 g1 i0 i1;refine⟨aa,aa,aa,aa,λ_=>aa,λ_=>aa,λ_=>aa,λhe=>?_,aJ (λhx=>resq _ _ _ _ ?_) (λhx=>⟨aB,hn4 ?_⟩)⟩
    ·have:=ygh (cgh.1 (by simpa using he));omega
    ·have:kW c f g h=some (2,f,g,h):=by unfold kW;rw[am];rw[←cgh];simpa using hx
     have e1:jC c f g=some (2,f,g,h):=by rw[hP4,t9 i1 this]
     have e2:jD c f=some (2,f,g,h):=by rw[hP3,t9 g1 e1]
     rw[hF,hP,t9 h1 e2];rfl
    ·have:kW c f g h=none:=by unfold kW;rw[aj];rw[←cgh];simpa using hx
     rw[hP4,tz i1 this]
   ·intro next4 hP4 hin4;rw[tq]at hP4;exact aE (λh=>absurd h an) (λ_=>hk' hP4)
  ·intro next3 hP3 hin3;rw[tq]at hP3;exact aE (λh=>absurd h an) (λ_=>⟨aB,hn (by rw[hP,tz h1 hP3])⟩)
 ·intro next2 hP2 hin2;rw[tq]at hP2;refine aE (λh=>absurd h an) (λ_=>resq _ _ _ _ ?_);rw[hF,hP2];rfl
theorem Vu:aN Tryz.prog 74 pY:=ctb (au CG (au oD aR)) aS 74 Tryz.f74 pY Vt [(5,38)] (λx K=>GX x.1 K) (λx h1 h2=>Vr x.1 h1 h2)
def cq(c:ah):Bool:=lP c&&(gO c).1==0
def pW:Ct:=⟨[ir],[false],λx=>[],[(false,cU)],λx=>(cq x.1,()),false,none⟩
def afz:FuncId->Option Ct:=lkp [(74,pY),(73,mz)]
def GJ(c:ah)(K:d9):Prop:=cnd (!lP c) (K (false,())) (ShapeP c/\K ((gO c).1==0,()))
theorem UJ(c:ah)(hok:ab (okL pW.args (c,())))(hpre:ab (pW.pre (c,()))):GJ c (λr=>r=pW.res (c,())):=by
 simp only[pW,okL,T.oks,T.ok,ap,ab,aL,az,aW]at hok hpre
 try dsimp only[T.den]at hok hpre
 unfold GJ;simp only[pW,cq];have:=@uJ c
 grind[cnd,ce,cF]
theorem GC:aN Tryz.prog 37 pW:=ctb (au Vu (au Vc aR)) aS 37 Tryz.f37 pW .n [] (λx K=>GJ x.1 K) (λx h1 h2=>UJ x.1 h1 h2)
def aF(c:ah)(x y:Int):List Int:=dh c.2.1.length λf=>c.2.1.getD f.toNat 0==x&&c.2.2.1.getD f.toNat 0==y
theorem cY:g∈aF c x y<->0<=g/\g<c.2.1.length/\c.2.1.getD g.toNat 0=x/\c.2.2.1.getD g.toNat 0=y:=by unfold aF;rw[kS,ao,bN,bN]
def jy:Ct:=⟨[ir,aC,aC],[false,false,false],λx=>[x.1.2.1.length<=40,x.1.2.2.1.length=x.1.2.1.length],[(false,bS)],λx=>(aF x.1 x.2.1 x.2.2.1,()),false,none⟩
def V8:Ann:=(.s .n (.s .n (.s (.s .n (.l [(7,(.ref 800007 [])),(15,(.d aC))] [(800007,bS)] [0,1,2,14] (.s .n (.s .n (.s (.s .n (.s .n (.j Fd [(800007,bS)] [0,1,2,14,15] .n))) .n))))) .n)))
abbrev l6:Type:=(List Int)×Unit->Prop
def Hl(c:ah)(x y:Int)(K:l6):Prop:=aK (S:=(dH×dV)) (λa b=>let f:=a.1.2.1;let g:=c.2.1.getD f.toNat 0;Iq f<|Ol a.2.1<|cnd (decide (f<(c.2.1.length:Int))) (Ix f c.2.1.length<|((g==x)=true->f<(c.2.2.1.length:Int)/\0<=f)/\bK (S:=ly) (λd=>Ol d.2.1<|Ik (f+1)<|b (((),f+1,()),d.2.1,())) (λe=>cnd (g==x&&c.2.2.1.getD f.toNat 0==y) (bg a.2.1.length [f].length 8/\e (((),()),a.2.1++[f],())) (e (((),()),a.2.1,())))) (K (a.2.1,()))) (((),0,()),[],())
abbrev l8:Type:=(dH×dV)
theorem VK(c:ah)(x y:Int)(hok:ab (okL jy.args (c,x,y,())))(hpre:ab (jy.pre (c,x,y,()))):Hl c x y (λr=>r=jy.res (c,x,y,())):=by
 simp only[jy,okL,T.oks,T.ok,ap,ab,aL,az,aW]at hok hpre
 try dsimp only[T.den]at hok hpre
 delta Hl Ik Iq Ix Ol
 dsimp -proj -eta only;have hm:c.2.1.length<=40:=hpre.1;have hlt:c.2.2.1.length=c.2.1.length:=hpre.2;refine bt (λ(s:l8)=>0<=s.1.2.1/\s.1.2.1<=c.2.1.length/\s.2.1=dh s.1.2.1.toNat λf=>c.2.1.getD f.toNat 0==x&&c.2.2.1.getD f.toNat 0==y) (λ(s:l8)=>(c.2.1.length-s.1.2.1).toNat) ?_ ⟨ak,ak,rfl⟩;rintro⟨⟨_,i,_⟩,l,_⟩ next ⟨h0,h1,h2⟩ hn hin hl
 try dsimp only at h0 h1 h2 hn⊢
 subst h2;refine aE (λhc=>⟨h0,hc,λ_=>aa,bZ (λs1=>s1.2.1=dh (i+1).toNat λf=>c.2.1.getD f.toNat 0==x&&c.2.2.1.getD f.toNat 0==y) (λs1 hs _=>⟨aB,hn _ ⟨cw,cw,hs⟩ cw⟩) (λk hk=>aJ (λhx=>⟨?_,hk _ ?_⟩) (λhx=>hk _ ?_))⟩) (λhc=>?_)
 ·have:=gD (p:=λf=>c.2.1.getD f.toNat 0==x&&c.2.2.1.getD f.toNat 0==y) i.toNat;unfold bg;rw[ce];have h3:(i::([]:List Int)).length=1:=rfl;rw[h3];omega
 ·exact (xU h0 hx).symm
 ·exact (xR h0 hx).symm
 ·have e1:i.toNat=c.2.1.length:=aa
  simp only[jy,aF];rw[e1]
theorem qd:aN Tryz.prog 84 jy:=ctb aR aS 84 Tryz.f84 jy V8 [] (λx K=>Hl x.1 x.2.1 x.2.2.1 K) (λx h1 h2=>VK x.1 x.2.1 x.2.2.1 h1 h2)
theorem Bw{c:ah}{x y i:Int}(h0:0<=i)(h1:i<(aF c x y).length):0<=(aF c x y).getD i.toNat 0/\(aF c x y).getD i.toNat 0<c.2.1.length/\c.2.1.getD ((aF c x y).getD i.toNat 0).toNat 0=x/\c.2.2.1.getD ((aF c x y).getD i.toNat 0).toNat 0=y:=cY.1 (bX _ 0 h0 h1)
theorem E1(S:ShapeP c)(x y:Int):(aF c x y).length<=40:=c8 (gD _) S.m
structure CmpP (d:aV) (p q:cB):Prop where
 S:ShapeP d.2.1
 l:p.2.length=q.2.length
 n:q.2.length<=1000000
 q:∀f∈q.2,0<=f/\f<d.2.1.2.1.length
def jF(d:aV)(p q:cB):List Int:=(aF d.2.1 p.1 q.1).filter λu=>cu q.2.length λj=>aq d.2.1 u (q.2.getD j.toNat 0)==p.2.getD j.toNat 0
def mg(d:aV)(p q:cB)(u j:Int):Bool:=aq d.2.1 u (q.2.getD j.toNat 0)==p.2.getD j.toNat 0
theorem QN{d:aV}{p q:cB}:jF d p q=(aF d.2.1 p.1 q.1).filter λu=>cu q.2.length (mg d p q u):=rfl
theorem Ez(h0:0<=i)(h1:i<n)(h:p i=false):cu n p=false:=by
 cases hb:cu n p with
 |false=>rfl
 |true=>rw[gX.1 hb i h0 h1]at h;cases h
def uB:Ct:=⟨[rj,tF,tF],[false,true,true],λx=>[CmpP x.1 x.2.1 x.2.2.1],[(false,bS)],λx=>(jF x.1 x.2.1 x.2.2.1,()),false,none⟩
def WM:Ann:=(.s .n (.s .n (.s .n (.s .n (.s (.s .n (.l [(8,(.ref 800008 [])),(24,(.d aC))] xD [4,5,7,22,23] (.s .n (.s .n (.s (.j [(8,(.ref 800008 []))] xD [4,5,7,22,23,24] (.s .n (.s (.s .n (.l [(8,(.ref 800008 [])),(31,(.d aC))] xD [4,5,7,10,22,23,24,29,30] .n)) .n))) .n))))) .n)))))
def agl:FuncId->Option Ct:=lkp [(84,jy),(46,m8)]
def HL(d:aV)(p q:cB)(K:l6):Prop:=let j:=aF d.2.1 p.1 q.1;d.2.1.2.1.length<=40/\d.2.1.2.2.1.length=d.2.1.2.1.length/\aK (S:=(dH×dV)) (λa b=>let l:=a.1.2.1;let h:=j.getD l.toNat 0;Iq l<|Ol a.2.1<|cnd (decide (l<(j.length:Int))) (bK (S:=ly) (λc=>Ol c.2.1<|Ik (l+1)<|b (((),l+1,()),c.2.1,())) (λe=>Ix l j.length<|aK (S:=(dH×dV)) (λf g=>let i:=f.1.2.1;Iq i<|Ol f.2.1<|cnd (decide (i<(q.2.length:Int))) (Ix i q.2.length<|Ix h d.2.1.2.2.2.2.length<|Ix (q.2.getD i.toNat 0) (d.2.1.2.2.2.2.getD h.toNat []).length<|Ix i p.2.length<|cnd (aq d.2.1 h (q.2.getD i.toNat 0) != p.2.getD i.toNat 0) (e (((),()),f.2.1,())) (Ik (i+1)<|g (((),i+1,()),f.2.1,()))) (bg f.2.1.length [h].length 8/\e (((),()),f.2.1++[h],()))) (((),0,()),a.2.1,()))) (K (a.2.1,()))) (((),0,()),[],())
theorem WS(d:aV)(p q:cB)(hok:ab (okL uB.args (d,p,q,())))(hpre:ab (uB.pre (d,p,q,()))):HL d p q (λr=>r=uB.res (d,p,q,())):=by
 simp only[uB,okL,T.oks,T.ok,ap,ab,aL,az,aW]at hok hpre
 try dsimp only[T.den]at hok hpre
 delta HL Ik Iq Ix Ol
 dsimp -proj -eta only;obtain⟨S,hl,hn,hq⟩:=hpre;refine⟨S.m,S.lt,?_⟩;have hL:=E1 S p.1 q.1;have hmem:=λi:Int=>@Bw d.2.1 p.1 q.1 i;have hval:=@QN d p q;have hlc:=S.lc;have hm:=S.m;generalize aF d.2.1 p.1 q.1=l at *;refine iB (hV (λu=>cu q.2.length (mg d p q u)) l) (n:=l.length) aa rfl ?_ ?_
 ·intro i next h0 h1 hnx hin hok
  have hmi:=hmem i h0 h1;have hr:=S.row _ hmi.1 hmi.2.1;have hf:=@xy (λu=>cu q.2.length (mg d p q u)) l i;refine aE (λ_=>?_) (λh=>absurd h1 h)
  try dsimp only
  refine bZ (λs1=>s1.2.1=hV (λu=>cu q.2.length (mg d p q u)) l (i+1)) (λs1 hs _=>⟨aB,by rw[←hs]at hnx;exact hnx⟩) (λk hk=>⟨h0,h1,?_⟩);refine PF (n:=q.2.length) (λj=>cu j.toNat (mg d p q (l.getD i.toNat 0))=true) aa rfl ?_ ?_
  ·intro j next1 j0 j1 hP hn1 hin1 hok1;have hqj:=hq _ (bX q.2 0 j0 j1)
   try dsimp only
   refine aE (λ_=>⟨j0,j1,hmi.1,aa,hqj.1,aa,j0,aa,aJ (λhx=>hk _ (vl h0 h1 (Ez j0 j1 ?_)).symm) (λhx=>⟨aB,hn1 ?_⟩)⟩) (λh=>absurd j1 h)
   ·unfold mg;simpa using hx
   ·rw[xB j0,hP,gB];unfold mg;simpa using hx
  ·intro next1 hP hin1 hok1;refine aE (λh=>absurd h (dK _)) (λ_=>⟨?_,hk _ (ya h0 h1 hP).symm⟩);unfold bg;rw[ce];have h3:((l.getD i.toNat 0)::([]:List Int)).length=1:=rfl;rw[h3]
   try dsimp only
   omega
 ·intro next hin hok
  refine aE (λh=>absurd h (dK _)) (λ_=>?_);simp only[uB];rw[xO aa,hval]
theorem W9:aN Tryz.prog 41 uB:=ctb (au qd (au oD aR)) aS 41 Tryz.f41 uB WM [(9,9)] (λx K=>HL x.1 x.2.1 x.2.2.1 K) (λx h1 h2=>WS x.1 x.2.1 x.2.2.1 h1 h2)
def rG(c:ah)(x y:Int):Bool:=(aF c y x).length==1
def BO(c:ah):List Int:=dh c.1.toNat λx=>cu c.1.toNat (rG c x)
def sj:Ct:=⟨[ir],[false],λx=>[ShapeP x.1],[(false,bS)],λx=>(BO x.1,()),false,none⟩
def US:Ann:=(.s .n (.s .n (.s .n (.s (.s .n (.l FA Bp [0] (.s .n (.s (.j [(3,(.ref 800003 []))] Bp [0,4] (.s (.s .n (.l [(3,(.ref 800003 [])),(5,(.d aC))] Bp [0,4] .n)) .n)) .n)))) .n))))
def GR(c:ah)(K:l6):Prop:=aK (S:=(dH×dV)) (λa b=>let h:=a.1.2.1;Iq h<|Ol a.2.1<|cnd (decide (h<c.1)) (bK (S:=ly) (λd=>Ol d.2.1<|Ik (h+1)<|b (((),h+1,()),d.2.1,())) (λe=>aK (S:=(dH×dV)) (λf g=>let i:=f.1.2.1;Iq i<|Ol f.2.1<|cnd (decide (i<c.1)) (c.2.1.length<=40/\c.2.2.1.length=c.2.1.length/\cnd (((aF c i h).length:Int) != 1) (e (((),()),f.2.1,())) (Ik (i+1)<|g (((),i+1,()),f.2.1,()))) (bg f.2.1.length [h].length 8/\e (((),()),f.2.1++[h],()))) (((),0,()),a.2.1,()))) (K (a.2.1,()))) (((),0,()),[],())
theorem Vd(c:ah)(hok:ab (okL sj.args (c,())))(hpre:ab (sj.pre (c,()))):GR c (λr=>r=sj.res (c,())):=by
 simp only[sj,okL,T.oks,T.ok,ap,ab,aL,az,aW]at hok hpre
 try dsimp only[T.den]at hok hpre
 delta GR Ik Iq Ol
 dsimp -proj -eta only;have S:ShapeP c:=hpre;have ob:=S.ob;have e:((c.1.toNat:Nat):Int)=c.1:=aa
 refine iB (λi=>dh i.toNat λx=>cu c.1.toNat (rG c x)) (n:=c.1) aa rfl ?_ ?_
 ·intro i next i0 i1 hnx hin hok
  have hf:=gD (p:=λx=>cu c.1.toNat (rG c x)) i.toNat;refine aE (λ_=>?_) (λh=>absurd i1 h)
  try dsimp only
  refine bZ (λs1=>s1.2.1=dh (i+1).toNat λx=>cu c.1.toNat (rG c x)) (λs1 hs _=>⟨aB,by rw[←hs]at hnx;exact hnx⟩) (λk hk=>?_);refine PF (n:=c.1) (λj=>cu j.toNat (rG c i)=true) aa rfl ?_ ?_
  ·intro j next1 j0 j1 hP hn1 hin1 hok1
   try dsimp only
   refine aE (λ_=>⟨S.m,S.lt,aJ (λhx=>hk _ (xR i0 (Ez j0 aa ?_)).symm) (λhx=>⟨aB,hn1 ?_⟩)⟩) (λh=>absurd j1 h)
   ·unfold rG;rw[mt];intro h;rw[h]at hx;exact absurd hx aH
   ·rw[xB j0,hP,gB];unfold rG;rw[bN];have h:(((aF c j i).length:Nat):Int)=1:=by simpa using hx
    omega
  ·intro next1 hP hin1 hok1;refine aE (λh=>absurd h (dK _)) (λ_=>⟨?_,hk _ (xU i0 hP).symm⟩);unfold bg;rw[ce];have h3:(i::([]:List Int)).length=1:=rfl;rw[h3]
   try dsimp only
   omega
 ·intro next hin hok
  refine aE (λh=>absurd h (dK _)) (λ_=>?_);simp only[sj,BO]
theorem UX:aN Tryz.prog 56 sj:=ctb (au qd aR) aS 56 Tryz.f56 sj US [] (λx K=>GR x.1 K) (λx h1 h2=>Vd x.1 h1 h2)
def zw:Ct:=⟨[aC,aC,BF,yu,yu],[false,false,false,false,false],λx=>[ShapeP x.2.2.1,0<=x.1,x.1<x.2.2.1.2.1.length,0<=x.2.1,x.2.1<x.2.2.1.2.1.length,0<=x.2.2.2.1,x.2.2.2.1<x.2.2.1.2.1.length,0<=x.2.2.2.2.1,x.2.2.2.2.1<x.2.2.1.2.1.length],[(false,cU)],λx=>(aq x.2.2.1 x.1 x.2.2.2.1==aq x.2.2.1 x.2.1 x.2.2.2.2.1,()),false,none⟩
def GG(a b:Int)(c:ah)(f g:Int)(K:d9):Prop:=Ix a c.2.2.2.2.length<|Ix f (c.2.2.2.2.getD a.toNat []).length<|Ix b c.2.2.2.2.length<|Ix g (c.2.2.2.2.getD b.toNat []).length<|K (aq c a f==aq c b g,())
theorem UA(a b:Int)(c:ah)(f g:Int):Mh zw (a,b,c,f,g,()) (GG a b c f g):=by
 intro hok hpre;simp only[zw,okL,T.oks,T.ok,ap,ab,aL,az,aW]at hok hpre
 try dsimp only[T.den]at hok hpre
 delta GG Ix
 obtain⟨S,a0,a1,b0,b1,f0,f1,g0,g1⟩:=hpre;have ra:=S.row a a0 a1;have rb:=S.row b b0 b1;have hlc:=S.lc;exact⟨a0,aa,f0,aa,b0,aa,g0,aa,rfl⟩
theorem U6:aN Tryz.prog 110 zw:=ctb (au oD aR) aS 110 Tryz.f110 zw .n [(1,7)] (λx K=>GG x.1 x.2.1 x.2.2.1 x.2.2.2.1 x.2.2.2.2.1 K) (λx h1 h2=>UA x.1 x.2.1 x.2.2.1 x.2.2.2.1 x.2.2.2.2.1 h1 h2)
abbrev SpD:Type:=ah×(Int×(Int×((ah×nu)×Bool)))
structure EqP (s:SpD):Prop where
 sh:ShapeP s.1
 cc:s.2.2.2.1.1=s.1
 al:s.2.2.2.2=true
 f0:0<=s.2.2.2.1.2.1
 f1:s.2.2.2.1.2.1<s.1.2.1.length
 g0:0<=s.2.2.2.1.2.2.1
 g1:s.2.2.2.1.2.2.1<s.1.2.1.length
def nY(c:ah)(x g h w:Int):List Int:=(aF c w x).filter λa=>aq c a g==aq c a h
def qe:Ct:=⟨[B2,aC],[false,false],λx=>[EqP x.1],[(false,(.sl Lx))],λx=>((nY x.1.1 x.1.2.1 x.1.2.2.2.1.2.1 x.1.2.2.2.1.2.2.1 x.2.1).map λa=>(a,a),()),false,none⟩
def V0:Ann:=(.s .n (.s .n (.s (.s .n (.l KW kt [0,1,20,21] (.s .n (.s .n (.s (.j mM kt xI (.s .n (.s (.s .n (.s (.s (.s .n (.j mM kt xI .n)) .n) .n)) (.s .n (.l Ld kt Lc (.s .n (.s .n (.s (.s .n (.s .n (.j mM kt Lu .n))) .n)))))))) .n))))) .n)))
def aga:FuncId->Option Ct:=lkp [(84,jy),(110,zw)]
abbrev mm:Type:=ah×(Int×(Int×((ah×nu)×Bool)))
abbrev G1:Type:=(List qK)×Unit->Prop
def Hb(s:mm)(w:Int)(K:G1):Prop:=let r:=aF s.1 w s.2.1;let q:=aF s.1 w s.2.2.1;let p:=s.1.2.1.length;let m:=s.2.2.2.1;let o:=m.1.2.1.length;p<=40/\s.1.2.2.1.length=p/\aK (S:=yO) (λa b=>let t:=a.1.2.1;let l:=r.getD t.toNat 0;Iq t<|Oa ky a.2.1<|cnd (decide (t<(r.length:Int))) (bK (S:=rQ) (λc=>Oa ky c.2.1<|Ik (t+1)<|b (((),t+1,()),c.2.1,())) (λd=>Ix t r.length<|cnd s.2.2.2.2 (ShapeP m.1/\(Ix l o<|Ix l o<|Ix m.2.1 o<|Ix m.2.2.1 o<|bK (S:=rQ) (λe=>Oa ky e.2.1<|d (((),()),e.2.1,())) (λf=>cnd (aq m.1 l m.2.1==aq m.1 l m.2.2.1) (bg a.2.1.length ((l,l)::([]:List (Int×Int))).length 16/\f (((),()),a.2.1++(l,l)::([]:List (Int×Int)),())) (f (((),()),a.2.1,()))))) (p<=40/\s.1.2.2.1.length=p/\aK (S:=yO) (λg h=>let u:=g.1.2.1;let n:=q.getD u.toNat 0;Iq u<|Oa ky g.2.1<|cnd (decide (u<(q.length:Int))) (Ix u q.length<|ShapeP m.1/\(Ix l o<|Ix n o<|Ix m.2.1 o<|Ix m.2.2.1 o<|bK (S:=rQ) (λi=>Oa ky i.2.1<|Ik (u+1)<|h (((),u+1,()),i.2.1,())) (λj=>cnd (aq m.1 l m.2.1==aq m.1 n m.2.2.1) (bg g.2.1.length ((l,n)::([]:List (Int×Int))).length 16/\j (((),()),g.2.1++(l,n)::([]:List (Int×Int)),())) (j (((),()),g.2.1,()))))) (d (((),()),g.2.1,()))) (((),0,()),a.2.1,())))) (K (a.2.1,()))) (((),0,()),([]:List (Int×Int)),())
theorem VC(s:mm)(w:Int)(hok:ab (okL qe.args (s,w,())))(hpre:ab (qe.pre (s,w,()))):Hb s w (λr=>r=qe.res (s,w,())):=by
 simp only[qe,okL,T.oks,T.ok,ap,ab,aL,az,aW]at hok hpre
 try dsimp only[T.den]at hok hpre
 delta Hb Ik Iq Ix Oa
 dsimp -proj -eta only;have E:EqP s:=hpre;clear hok;obtain⟨c,x,y,⟨c',f,g,v⟩,al⟩:=s;obtain⟨S,hc,hal,f0,f1,g0,g1⟩:=E
 try dsimp only at S hc hal f0 f1 g0 g1⊢
 subst hc;subst hal;have hm:=S.m;have hhl:(aF c' w x).length<=40:=c8 (gD _) hm;refine⟨hm,S.lt,?_⟩;refine iB (n:=((aF c' w x).length:Int)) (λj=>(hV (λa=>aq c' a f==aq c' a g) (aF c' w x) j).map λa=>(a,a)) aa rfl ?_ ?_
 ·intro j next j0 j1 hn hin hol
  have hh:=cY.1 (bX (aF c' w x) 0 j0 j1);have hlen:=c8 (@xy (λa=>aq c' a f==aq c' a g) (aF c' w x) j) (c8 (gD _) hm);have ft:=@ya (λa=>aq c' a f==aq c' a g) (aF c' w x) j j0 j1;have ff:=@vl (λa=>aq c' a f==aq c' a g) (aF c' w x) j j0 j1
  try dsimp only at hn hol⊢
  refine aE (λ_=>?_) (λh=>absurd j1 h);refine uR _ (λs hs _=>⟨aB,by rw[hs];exact hn⟩) (λk hk=>⟨j0,j1,aJ (λ_=>⟨S,hh.1,hh.2.1,hh.1,hh.2.1,f0,f1,g0,g1,?_⟩) (λh=>by cases h)⟩);refine uR _ (λs hs _=>hk _ hs) (λk1 hk1=>aJ (λhp=>⟨bQ (by simp only[cC,aX,bh];omega),hk1 _ ?_⟩) (λhp=>hk1 _ ?_))
  ·rw[ft hp,mr];rfl
  ·rw[ff hp]
 ·intro next _ _
  exact aE (λh=>absurd h (dK _)) (λ_=>by simp only[qe,nY];rw[xO (dB _)])
theorem Mn:aN Tryz.prog 136 qe:=ctb (au qd (au U6 aR)) aS 136 Tryz.f136 qe V0 [(2,512),(8,512)] (λx K=>Hb x.1 x.2.1 K) (λx h1 h2=>VC x.1 x.2.1 h1 h2)
def kC(l:pJ):List ot:=l.foldl (λm k=>dq kz .bool m k true) []
def EP(c:ah)(x g h z p q w:Int):Bool:=(aF c w z).length==(nY c x g h w).length&&(kC ((aF c w z).map λu=>(aq c u p,aq c u q))).length==(aF c w z).length
def vg(c:ah)(x g h z p q:Int):Bool:=cu c.1.toNat (EP c x g h z p q)
theorem KD{l:pJ}{j:Int}{d:Int×Int}(h0:0<=j)(h1:j<l.length):kC (l.take (j+1).toNat)=dq kz .bool (kC (l.take j.toNat)) (l.getD j.toNat d) true:=by rw[gE l d h0 h1];unfold kC;rw[iO];rfl
theorem Kt:∀(l:pJ) (m:List ot),(l.foldl (λm k=>dq kz .bool m k true) m).length<=m.length+l.length
 |[],m=>ak
 |a::r,m=>by have h1:=Kt r (dq kz .bool m a true);have h2:=@PA kz .bool a true m;simp only[iA,aX];omega
theorem xn{l:pJ}:(kC l).length<=l.length:=by have:=Kt l [];simpa[kC]using this
def pV:Ct:=⟨[B2,aC,kw],[false,false,true],λx=>[EqP x.1,0<=x.2.2.1.1,x.2.2.1.1<x.1.1.2.1.length,0<=x.2.2.1.2,x.2.2.1.2<x.1.1.2.1.length],[(false,cU)],λx=>(vg x.1.1 x.1.2.1 x.1.2.2.2.1.2.1 x.1.2.2.2.1.2.2.1 x.2.1 x.2.2.1.1 x.2.2.1.2,()),false,none⟩
def U7:Ann:=(.s .n (.s (.s .n (.l pa [] [0,1,5] (.s .n (.s (.s .n (.s .n (.s .n (.s (.s .n (.l KY K9 [0,1,5,7,8,38,39] .n)) .n)))) .n)))) .n))
def afw:FuncId->Option Ct:=lkp [(84,jy),(136,qe),(46,m8)]
def GH(s:mm)(z:Int)(p:qK)(K:d9):Prop:=aK (S:=cH) (λb c=>let h:=(aF s.1 b.1.1 z).length;Iq b.1.1<|cnd (decide (b.1.1<s.1.1)) (s.1.2.1.length<=40/\s.1.2.2.1.length=s.1.2.1.length/\EqP s/\cnd ((h:Int) != ((List.map (λd=>(d,d)) (nY s.1 s.2.1 s.2.2.2.1.2.1 s.2.2.2.1.2.2.1 b.1.1)).length:Int)) (K (false,())) (aK (S:=LW) (λe f=>let j:=e.1.2.1;let g:=(aF s.1 b.1.1 z).getD j.toNat 0;let i:=(s.1.2.2.2.2.getD g.toNat []).length;Iq j<|T.ok (T.mp kw T.bool) e.2.1->cnd (decide (j<(h:Int))) (Ix j h<|Ix g s.1.2.2.2.2.length<|Ix p.1 i<|Ix g s.1.2.2.2.2.length<|Ix p.2 i<|bg e.2.1.length 1 1/\(Ik (j+1)<|f (((),j+1,()),dq kw T.bool e.2.1 (aq s.1 g p.1,aq s.1 g p.2) true,()))) (cnd ((e.2.1.length:Int) != (h:Int)) (K (false,())) (Ik (b.1.1+1)<|c ((b.1.1+1,()),())))) (((),0,()),([]:List ot),()))) (K (true,()))) ((0,()),())
theorem UD(s:mm)(z:Int)(p:qK)(hok:ab (okL pV.args (s,z,p,())))(hpre:ab (pV.pre (s,z,p,()))):GH s z p (λr=>r=pV.res (s,z,p,())):=by
 simp only[pV,okL,T.oks,T.ok,ap,ab,aL,az,aW]at hok hpre
 try dsimp only[T.den]at hok hpre
 delta GH Ik Iq Ix
 dsimp -proj -eta only;obtain⟨E,p0,p1,q0,q1⟩:=hpre;have S:=E.sh;have hob:=S.ob;have hm:=S.m;have hlc:=S.lc;clear hok;have res:∀b,vg s.1 s.2.1 s.2.2.2.1.2.1 s.2.2.2.1.2.2.1 z p.1 p.2=b->(b,())=pV.res (s,z,p,()):=λb h=>by simp only[pV,h]
 refine IV s.1.1.toNat (EP s.1 s.2.1 s.2.2.2.1.2.1 s.2.2.2.1.2.2.1 z p.1 p.2) ?_ ?_
 ·intro w next w0 w1 hno hyes _
  try dsimp only
  rw[cC];have hhl:(aF s.1 w z).length<=40:=c8 (gD _) hm;refine aE (λ_=>⟨hm,S.lt,E,?_⟩) (λh=>absurd aa h);have hu:EP s.1 s.2.1 s.2.2.2.1.2.1 s.2.2.2.1.2.2.1 z p.1 p.2 w=((aF s.1 w z).length==(nY s.1 s.2.1 s.2.2.2.1.2.1 s.2.2.2.1.2.2.1 w).length&&(kC ((aF s.1 w z).map λu=>(aq s.1 u p.1,aq s.1 u p.2))).length==(aF s.1 w z).length):=rfl;refine aJ (λhx=>res _ (hno ?_)) (λhx=>?_)
  ·rw[hu];have:((aF s.1 w z).length==(nY s.1 s.2.1 s.2.2.2.1.2.1 s.2.2.2.1.2.2.1 w).length)=false:=by rw[lH]at hx;rw[mt];omega
   rw[this,C3]
  have he:((aF s.1 w z).length==(nY s.1 s.2.1 s.2.2.2.1.2.1 s.2.2.2.1.2.2.1 w).length)=true:=by rw[fY]at hx;rw[bN];omega
  rw[he,gB]at hu;have hsl:=@xn ((aF s.1 w z).map λu=>(aq s.1 u p.1,aq s.1 u p.2));rw[cC]at hsl;refine iB (n:=((aF s.1 w z).length:Int)) (λj=>kC (((aF s.1 w z).map λu=>(aq s.1 u p.1,aq s.1 u p.2)).take j.toNat)) aa rfl ?_ ?_
  ·intro j next1 j0 j1 hn1 _ _;have hs:=@KD ((aF s.1 w z).map λu=>(aq s.1 u p.1,aq s.1 u p.2)) j (0,0) j0 (by rw[cC];exact j1);have hl:=@xn (((aF s.1 w z).map λu=>(aq s.1 u p.1,aq s.1 u p.2)).take j.toNat);rw[dW,cC]at hl;rw[AM (d:=0) aa]at hs
   try dsimp only at hn1⊢
   rw[hs]at hn1;have hh:=cY.1 (bX (aF s.1 w z) 0 j0 j1);have hr:=S.row _ hh.1 hh.2.1;exact aE (λ_=>⟨j0,j1,hh.1,aa,p0,aa,hh.1,aa,q0,aa,by unfold bg;rw[ce];omega,aB,hn1⟩) (λh=>absurd j1 h)
  ·intro next1 _ _;refine aE (λh=>absurd h (dK _)) (λ_=>?_)
   try dsimp only
   rw[lQ _ (by rw[cC];omega)];refine aJ (λhy=>res _ (hno ?_)) (λhy=>⟨aB,hyes ?_⟩)
   ·rw[hu,mt];rw[lH]at hy;omega
   ·rw[hu,bN];rw[fY]at hy;omega
 ·intro next h _
  exact aE (λh=>absurd h an) (λ_=>res _ h)
theorem U9:aN Tryz.prog 137 pV:=ctb (au qd (au Mn (au oD aR))) aS 137 Tryz.f137 pV U7 [(11,18)] (λx K=>GH x.1 x.2.1 x.2.2.1 K) (λx h1 h2=>UD x.1 x.2.1 x.2.2.1 h1 h2)
abbrev rT:Type:=Int->List (Int×Int)
abbrev Co:Type:=Int->Int×Int->Bool
def fsJ(F:rT)(U:Co)(z i:Int):Option (Int×(Int×Int)):=if U z ((F z).getD i.toNat (0,0))=true then some (z,(F z).getD i.toNat (0,0))else none
def fsZ(F:rT)(U:Co)(z:Int):Option (Int×(Int×Int)):=ck (fsJ F U z) (F z).length 0
def fsO(n:Nat)(F:rT)(U:Co):Int×ot:=
 match ck (fsZ F U) n 0 with
 |some q=>(q.1,(q.2,true))
 |none=>(0,((0,0),false))
def tX(c:ah)(x f g w:Int):List (Int×Int):=(nY c x f g w).map λa=>(a,a)
def rD(s:SpD):Int×ot:=fsO s.1.1.toNat (tX s.1 s.2.1 s.2.2.2.1.2.1 s.2.2.2.1.2.2.1) (λz p=>vg s.1 s.2.1 s.2.2.2.1.2.1 s.2.2.2.1.2.2.1 z p.1 p.2)
theorem Lw{n:Int}{F:rT}(hE:E)(n0:0<=n)(n8:n<=8)(hl:∀z,(F z).length<=1600)(hF:∀z,∀p∈F z,(0<=p.1/\p.1<m)/\(0<=p.2/\p.2<m))(hK:∀r,r=(let q:=fsO n.toNat F (λz p=>U z p.1 p.2);(q.1,q.2.1,q.2.2,()))->K r):
  aK (S:=nv) (λs1 next=>inK .i64 s1.1.2.1->inK .i64 s1.2.1.1->inK .i64 s1.2.1.2->
   cnd (decide (s1.1.2.1<n)) (E/\aK (S:=nv) (λs2 next1=>inK .i64 s2.1.2.1->inK .i64 s2.2.1.1->inK .i64 s2.2.1.2->
    cnd (decide (s2.1.2.1<((F s1.1.2.1).length:Int))) (0<=s2.1.2.1/\s2.1.2.1<((F s1.1.2.1).length:Int)/\E/\0<=((F s1.1.2.1).getD s2.1.2.1.toNat (0,0)).1/\((F s1.1.2.1).getD s2.1.2.1.toNat (0,0)).1<(m:Int)/\0<=((F s1.1.2.1).getD s2.1.2.1.toNat (0,0)).2/\((F s1.1.2.1).getD s2.1.2.1.toNat (0,0)).2<(m:Int)/\
     cnd (U s1.1.2.1 ((F s1.1.2.1).getD s2.1.2.1.toNat (0,0)).1 ((F s1.1.2.1).getD s2.1.2.1.toNat (0,0)).2) (K (s1.1.2.1,(F s1.1.2.1).getD s2.1.2.1.toNat (0,0),true,())) (inK .i64 (s2.1.2.1+1)/\next1 (((),s2.1.2.1+1,()),s2.2.1,())))
    (inK .i64 (s1.1.2.1+1)/\next (((),s1.1.2.1+1,()),s2.2.1,()))) (((),0,()),s1.2.1,()))
   (K (0,(0,0),false,()))) (((),0,()),(0,0),()):=by
 refine bt (λ(t:nv)=>0<=t.1.2.1/\t.1.2.1<=n/\ck (fsZ F λz p=>U z p.1 p.2) n.toNat 0=ck (fsZ F λz p=>U z p.1 p.2) (n-t.1.2.1).toNat t.1.2.1) (λ(t:nv)=>(n-t.1.2.1).toNat) ?_ ⟨dB _,n0,ak⟩;rintro⟨⟨_,z,_⟩,p,_⟩ next ⟨z0,z1,hz⟩ hnx
 intros;dsimp only at z0 z1 hz hnx⊢;refine aE (λhzl=>⟨hE,?_⟩) (λhzl=>hK _ ?_)
 ·have hb:=λi (i0:0<=i) (i1:i<((F z).length:Int))=>hF z _ (bX (F z) (0,0) i0 i1);have hlz:=hl z;have hsz:fsZ F (λz p=>U z p.1 p.2) z=ck (fsJ F (λz p=>U z p.1 p.2) z) (F z).length 0:=rfl;rw[show (n-z).toNat=(n-(z+1)).toNat+1 by omega,ck]at hz;have hj:∀i,fsJ F (λz p=>U z p.1 p.2) z i=if U z ((F z).getD i.toNat (0,0)).1 ((F z).getD i.toNat (0,0)).2=true then some (z,(F z).getD i.toNat (0,0))else none:=λ_=>rfl
  generalize F z=G at *;refine bt (λ(t:nv)=>0<=t.1.2.1/\t.1.2.1<=G.length/\fsZ F (λz p=>U z p.1 p.2) z=ck (fsJ F (λz p=>U z p.1 p.2) z) (G.length-t.1.2.1.toNat) t.1.2.1) (λ(t:nv)=>(G.length-t.1.2.1).toNat) ?_ ⟨dB _,an,hsz⟩;rintro⟨⟨_,i,_⟩,q,_⟩ next1 ⟨i0,i1,hi⟩ hn1;intros;dsimp only at i0 i1 hi hn1⊢;refine aE (λhil=>?_) (λhil=>?_)
  ·have h1:=hb i i0 hil;rw[show G.length-i.toNat=(G.length-(i+1).toNat)+1 by omega,ck,hj]at hi;refine⟨i0,hil,hE,h1.1.1,h1.1.2,h1.2.1,h1.2.2,aJ (λh=>hK _ ?_) (λh=>⟨by rw[cF];omega,hn1 _ ⟨an,an,?_⟩ an⟩)⟩
   ·rw[am h]at hi;dsimp only at hi;rw[hi]at hz;simp only[fsO,hz]
   ·rw[aj (by rw[h];decide)]at hi;exact hi
  ·have:G.length-i.toNat=0:=aa
   rw[this,ck]at hi;rw[hi]at hz;exact⟨by rw[cF];omega,hnx _ ⟨an,an,hz⟩ an⟩
 ·have:(n-z).toNat=0:=aa
  rw[this,ck]at hz;simp only[fsO,hz]
def wA:Ct:=⟨[B2],[false],λx=>[EqP x.1],[(false,dP),(true,(.fz kw)),(false,cU)],λx=>((rD x.1).1,(rD x.1).2.1,(rD x.1).2.2,()),false,none⟩
def Vo:Ann:=(.s .n (.s (.s .n (.l Li [(3,xZ)] [0] (.s .n (.s (.s .n (.l Lv [(3,xZ)] [0,5,21,22] .n)) .n)))) .n))
def af5:FuncId->Option Ct:=lkp [(136,qe),(137,pV)]
abbrev G0:Type:=Int×qK×Bool×Unit->Prop
def GY(s:mm)(K:G0):Prop:=let p:=s.2.2.2.1.2;aK (S:=nv) (λb c=>let o:=b.1.2.1;let m:=nY s.1 s.2.1 p.1 p.2.1 o;Iq o<|Iq b.2.1.1<|Iq b.2.1.2<|cnd (decide (o<s.1.1)) (EqP s/\aK (S:=nv) (λd e=>let n:=d.1.2.1;let q:=n.toNat;Iq n<|Iq d.2.1.1<|Iq d.2.1.2<|cnd (decide (n<((List.map (λf=>(f,f)) m).length:Int))) (Ix n (List.map (λg=>(g,g)) m).length<|EqP s/\(Ix ((List.map (λh=>(h,h)) m).getD q (0,0)).1 s.1.2.1.length<|Ix ((List.map (λi=>(i,i)) m).getD q (0,0)).2 s.1.2.1.length<|cnd (vg s.1 s.2.1 p.1 p.2.1 o ((List.map (λj=>(j,j)) m).getD q (0,0)).1 ((List.map (λk=>(k,k)) m).getD q (0,0)).2) (K (o,(List.map (λl=>(l,l)) m).getD q (0,0),true,())) (Ik (n+1)<|e (((),n+1,()),d.2.1,())))) (Ik (o+1)<|c (((),o+1,()),d.2.1,()))) (((),0,()),b.2.1,())) (K (0,(0,0),false,()))) (((),0,()),(0,0),())
theorem Vx(s:mm)(hok:ab (okL wA.args (s,())))(hpre:ab (wA.pre (s,()))):GY s (λr=>r=wA.res (s,())):=by
 simp only[wA,okL,T.oks,T.ok,ap,ab,aL,az,aW]at hok hpre
 try dsimp only[T.den]at hok hpre
 delta GY Ik Iq Ix
 dsimp -proj -eta only;have E:EqP s:=hpre;have S:=E.sh;have hm:=S.m;have hfl:∀z,(tX s.1 s.2.1 s.2.2.2.1.2.1 s.2.2.2.1.2.2.1 z).length<=1600:=λz=>by unfold tX nY;rw[cC];have:=c8 (wz (λa=>aq s.1 a s.2.2.2.1.2.1==aq s.1 a s.2.2.2.1.2.2.1) (aF s.1 z s.2.1)) (gD _);omega
 refine Lw (F:=tX s.1 s.2.1 s.2.2.2.1.2.1 s.2.2.2.1.2.2.1) (U:=vg s.1 s.2.1 s.2.2.2.1.2.1 s.2.2.2.1.2.2.1) E S.ob.1 S.ob.2 hfl (λz p hp=>?_) (λr hr=>hr);obtain⟨a,ha,rfl⟩:=fX.1 hp;have:=cY.1 (mw.1 ha).1;exact⟨⟨this.1,this.2.1⟩,this.1,this.2.1⟩
theorem Vn:aN Tryz.prog 112 wA:=ctb (au Mn (au U9 aR)) aS 112 Tryz.f112 wA Vo [(8,3)] (λx K=>GY x.1 K) (λx h1 h2=>Vx x.1 h1 h2)
structure EqsP (l:List SpD):Prop where
 a:∀s∈l,EqP s
def Gd(l:List SpD):Bool:=l.all λs=>(rD s).2.2
def qc:Ct:=⟨[(.sl B2)],[false],λx=>[EqsP x.1],[(false,cU)],λx=>(Gd x.1,()),false,none⟩
def VQ:Ann:=(.s .n (.s (.s .n (.l Br [] [8,9] .n)) .n))
abbrev Ck:Type:=List (ah×(Int×(Int×((ah×nu)×Bool))))
def Hu(list:Ck)(K:d9):Prop:=aK (S:=cH) (λa b=>let c:=list.getD a.1.1.toNat ((0,[],[],[],[]),0,0,((0,[],[],[],[]),0,0,()),false);Iq a.1.1<|cnd (decide (a.1.1<(list.length:Int))) (Ix a.1.1 list.length<|EqP c/\cnd (!(rD c).2.2) (K (false,())) (Ik (a.1.1+1)<|b ((a.1.1+1,()),()))) (K (true,()))) ((0,()),())
theorem Wh(list:Ck)(hok:ab (okL qc.args (list,())))(hpre:ab (qc.pre (list,()))):Hu list (λr=>r=qc.res (list,())):=by
 simp only[qc,okL,T.oks,T.ok,ap,ab,aL,az,aW]at hok hpre
 try dsimp only[T.den]at hok hpre
 delta Hu Ik Iq Ix
 dsimp -proj -eta only;have hp:EqsP list:=hpre;have hp:=hp.a;have hl:list.length<=140737488355328:=by simp only[ce]at hok;omega
 clear hok hpre;have res:∀b,Gd list=b->(b,())=qc.res (list,()):=λb h=>by simp only[qc,h]
 refine AH list (((0:Int),(([]:List Int),(([]:List Int),(([]:List Int),([]:List (List Int)))))),((0:Int),((0:Int),((((0:Int),(([]:List Int),(([]:List Int),(([]:List Int),([]:List (List Int)))))),((0:Int),((0:Int),()))),false)))) (λs=>(rD s).2.2) ?_ ?_
 ·intro i next h0 h1 hno hn1 hin
  try dsimp only
  refine aE (λ_=>⟨h0,h1,hp _ (bX list _ h0 h1),aJ (λhx=>res _ (hno ?_)) (λhx=>⟨aB,hn1 ?_⟩)⟩) (λh=>absurd h1 h)
  ·simpa using hx
  ·simpa using hx
 ·intro next h hin
  refine aE (λh=>absurd h (dK _)) (λ_=>res _ h)
theorem VS:aN Tryz.prog 81 qc:=ctb (au Vn aR) aS 81 Tryz.f81 qc VQ [] (λx K=>Hu x.1 K) (λx h1 h2=>Wh x.1 h1 h2)
def zu:Ct:=⟨[aC,aC],[false,false],λx=>[],[(false,cU)],λx=>(true,()),false,none⟩
def GK(a b:Int)(K:d9):Prop:=K (true,())
theorem UL(a b:Int):Mh zu (a,b,()) (GK a b):=by
 intro hok hpre;simp only[zu,okL,T.oks,T.ok,ap,ab,aL,az,aW]at hok hpre
 try dsimp only[T.den]at hok hpre
 unfold GK;rfl
theorem UH:aN Tryz.prog 109 zu:=ctb aR aS 109 Tryz.f109 zu .n [] (λx K=>GK x.1 x.2.1 K) (λx h1 h2=>UL x.1 x.2.1 h1 h2)
abbrev PdD:Type:=ah×rR
structure PdP (s:PdD):Prop where
 sh:ShapeP s.1
 al:s.2.2.2.2=false
def lq(c:ah)(y w:Int)(fits:yR)(a:Int):List (Int×Int):=((aF c w y).filter (fits a)).map λb=>(a,b)
def rP(c:ah)(x y w:Int)(fits:yR):List (Int×Int):=(aF c w x).flatMap (lq c y w fits)
def rF(_ _:Int):Bool:=true
def pB(c:ah)(x y w:Int):List (Int×Int):=rP c x y w rF
theorem ace(hm:c.2.1.length<=40){a:Int}:(lq c y w fits a).length<=40:=by unfold lq;rw[cC];exact c8 (wz _ _) (c8 (gD _) hm)
theorem Tc{α:Type}{f:Int->List α}{m:Nat}(h:∀a,(f a).length<=m):∀l:List Int,(l.flatMap f).length<=l.length*m
 |[]=>ak
 |a::r=>by have h1:=h a;have h2:=Tc h r;rw[zo,bn,aX,um];omega
theorem Ju{c:ah}(hm:c.2.1.length<=40){x y w:Int}{fits:yR}(j:Nat):(((aF c w x).take j).flatMap (lq c y w fits)).length<=1600:=by
 have h1:=Tc (f:=lq c y w fits) (λa=>ace hm) ((aF c w x).take j);have h2:((aF c w x).take j).length<=40:=by rw[dW];exact c8 (Nat.min_le_right _ _) (c8 (gD _) hm)
 omega
theorem fm_s{f:Int->List α}{l:aA}(h0:0<=j)(h1:j<l.length):(l.take (j+1).toNat).flatMap f=(l.take j.toNat).flatMap f++f (l.getD j.toNat 0):=by rw[gE l 0 h0 h1,G7];simp
def pX:Ct:=⟨[B8,aC],[false,false],λx=>[PdP x.1],[(false,(.sl Lx))],λx=>(pB x.1.1 x.1.2.1 x.1.2.2.1 x.2.1,()),false,none⟩
def Vg:Ann:=(.s .n (.s .n (.s (.s .n (.l KW kt [0,1,20,21] (.s .n (.s .n (.s (.j mM kt xI (.s .n (.s (.s .n (.s (.s (.s .n (.j mM kt xI .n)) .n) .n)) (.s .n (.l Ld kt Lc (.s .n (.s .n (.s (.s .n (.s .n (.j mM kt Lu .n))) .n)))))))) .n))))) .n)))
def af8:FuncId->Option Ct:=lkp [(84,jy),(109,zu)]
abbrev vW:Type:=ah×rR
def GU(s:vW)(w:Int)(K:G1):Prop:=let o:=aF s.1 w s.2.1;let n:=s.1.2.1.length;let m:=aF s.1 w s.2.2.1;n<=40/\s.1.2.2.1.length=n/\aK (S:=yO) (λa b=>let q:=a.1.2.1;let l:=o.getD q.toNat 0;Iq q<|Oa ky a.2.1<|cnd (decide (q<(o.length:Int))) (bK (S:=rQ) (λc=>Oa ky c.2.1<|Ik (q+1)<|b (((),q+1,()),c.2.1,())) (λd=>Ix q o.length<|cnd s.2.2.2.2 (bK (S:=rQ) (λe=>Oa ky e.2.1<|d (((),()),e.2.1,())) (λf=>cnd true (bg a.2.1.length ((l,l)::([]:List (Int×Int))).length 16/\f (((),()),a.2.1++(l,l)::([]:List (Int×Int)),())) (f (((),()),a.2.1,())))) (n<=40/\s.1.2.2.1.length=n/\aK (S:=yO) (λg h=>let p:=g.1.2.1;Iq p<|Oa ky g.2.1<|cnd (decide (p<(m.length:Int))) (Ix p m.length<|bK (S:=rQ) (λi=>Oa ky i.2.1<|Ik (p+1)<|h (((),p+1,()),i.2.1,())) (λj=>cnd true (bg g.2.1.length ((l,m.getD p.toNat 0)::([]:List (Int×Int))).length 16/\j (((),()),g.2.1++(l,m.getD p.toNat 0)::([]:List (Int×Int)),())) (j (((),()),g.2.1,())))) (d (((),()),g.2.1,()))) (((),0,()),a.2.1,())))) (K (a.2.1,()))) (((),0,()),([]:List (Int×Int)),())
theorem Vw(s:vW)(w:Int)(hok:ab (okL pX.args (s,w,())))(hpre:ab (pX.pre (s,w,()))):GU s w (λr=>r=pX.res (s,w,())):=by
 simp only[pX,okL,T.oks,T.ok,ap,ab,aL,az,aW]at hok hpre
 try dsimp only[T.den]at hok hpre
 delta GU Ik Iq Ix Oa
 dsimp -proj -eta only;have E:PdP s:=hpre;clear hok;obtain⟨c,x,y,u,al⟩:=s;obtain⟨S,hal⟩:=E
 try dsimp only at S hal⊢
 subst hal;have hm:=S.m;have hlx:(aF c w x).length<=40:=c8 (gD _) hm;have hly:(aF c w y).length<=40:=c8 (gD _) hm;refine⟨hm,S.lt,?_⟩;refine iB (n:=((aF c w x).length:Int)) (λj=>((aF c w x).take j.toNat).flatMap (lq c y w rF)) aa rfl ?_ ?_
 ·intro j next j0 j1 hn hin hol
  have hs:=fm_s (f:=lq c y w rF) j0 j1;have hpl:=@Ju c hm x y w rF j.toNat;have ha:=cY.1 (bX (aF c w x) 0 j0 j1)
  try dsimp only at hn⊢
  refine aE (λ_=>?_) (λh=>absurd j1 h);refine uR _ (λs hs _=>⟨aB,by rw[hs];exact hn⟩) (λk hk=>⟨j0,j1,aJ (λh=>by cases h) (λ_=>⟨hm,S.lt,?_⟩)⟩);rw[hs]at hk;generalize ((aF c w x).take j.toNat).flatMap (lq c y w rF)=A at *;clear hs hn;generalize (aF c w x).getD j.toNat 0=a at *;refine iB (n:=((aF c w y).length:Int)) (λi=>A++(hV (rF a) (aF c w y) i).map λb=>(a,b)) aa (iM A).symm ?_ ?_
  ·intro i next1 i0 i1 hn1 hin1 hol1;have hfl:=@xy (rF a) (aF c w y) i;have ft:=@ya (rF a) (aF c w y) i i0 i1;have ff:=@vl (rF a) (aF c w y) i i0 i1
   try dsimp only at hn1⊢
   refine aE (λ_=>⟨i0,i1,uR _ (λs hs _=>⟨aB,by rw[hs];exact hn1⟩) (λk1 hk1=>aJ (λhp=>⟨bQ (by simp only[bn,cC,aX,bh];omega),hk1 _ ?_⟩) (λhp=>hk1 _ ?_))⟩) (λh=>absurd i1 h)
   ·rw[ft hp,mr,←dk];rfl
   ·rw[ff hp]
  ·intro next1 _ _;refine aE (λh=>absurd h (dK _)) (λ_=>hk _ ?_)
   try dsimp only
   rw[xO (dB _)];rfl
 ·intro next _ _
  refine aE (λh=>absurd h (dK _)) (λ_=>?_);simp only[pX,pB,rP];rw[fU aa]
theorem Mk:aN Tryz.prog 136 pX:=ctb (au qd (au UH aR)) aS 136 Tryz.f136 pX Vg [(2,512),(8,512)] (λx K=>GU x.1 x.2.1 K) (λx h1 h2=>Vw x.1 x.2.1 h1 h2)
def xW(c:ah)(z p q w:Int)(n:Nat):Bool:=(aF c w z).length==n&&(kC ((aF c w z).map λu=>(aq c u p,aq c u q))).length==(aF c w z).length
def KL(c:ah)(x y z p q w:Int):Bool:=xW c z p q w (pB c x y w).length
def xV(c:ah)(x y z p q:Int):Bool:=cu c.1.toNat (KL c x y z p q)
def pU:Ct:=⟨[B8,aC,kw],[false,false,true],λx=>[PdP x.1,0<=x.2.2.1.1,x.2.2.1.1<x.1.1.2.1.length,0<=x.2.2.1.2,x.2.2.1.2<x.1.1.2.1.length],[(false,cU)],λx=>(xV x.1.1 x.1.2.1 x.1.2.2.1 x.2.1 x.2.2.1.1 x.2.2.1.2,()),false,none⟩
def Ux:Ann:=(.s .n (.s (.s .n (.l pa [] [0,1,5] (.s .n (.s (.s .n (.s .n (.s .n (.s (.s .n (.l KY K9 [0,1,5,7,8,38,39] .n)) .n)))) .n)))) .n))
def afu:FuncId->Option Ct:=lkp [(84,jy),(136,pX),(46,m8)]
def GE(s:vW)(z:Int)(p:qK)(K:d9):Prop:=aK (S:=cH) (λa b=>let f:=(aF s.1 a.1.1 z).length;Iq a.1.1<|cnd (decide (a.1.1<s.1.1)) (s.1.2.1.length<=40/\s.1.2.2.1.length=s.1.2.1.length/\PdP s/\cnd ((f:Int) != ((pB s.1 s.2.1 s.2.2.1 a.1.1).length:Int)) (K (false,())) (aK (S:=LW) (λc d=>let h:=c.1.2.1;let e:=(aF s.1 a.1.1 z).getD h.toNat 0;let g:=(s.1.2.2.2.2.getD e.toNat []).length;Iq h<|T.ok (T.mp kw T.bool) c.2.1->cnd (decide (h<(f:Int))) (Ix h f<|Ix e s.1.2.2.2.2.length<|Ix p.1 g<|Ix e s.1.2.2.2.2.length<|Ix p.2 g<|bg c.2.1.length 1 1/\(Ik (h+1)<|d (((),h+1,()),dq kw T.bool c.2.1 (aq s.1 e p.1,aq s.1 e p.2) true,()))) (cnd ((c.2.1.length:Int) != (f:Int)) (K (false,())) (Ik (a.1.1+1)<|b ((a.1.1+1,()),())))) (((),0,()),([]:List ot),()))) (K (true,()))) ((0,()),())
theorem U5(s:vW)(z:Int)(p:qK)(hok:ab (okL pU.args (s,z,p,())))(hpre:ab (pU.pre (s,z,p,()))):GE s z p (λr=>r=pU.res (s,z,p,())):=by
 simp only[pU,okL,T.oks,T.ok,ap,ab,aL,az,aW]at hok hpre
 try dsimp only[T.den]at hok hpre
 delta GE Ik Iq Ix
 dsimp -proj -eta only;obtain⟨E,p0,p1,q0,q1⟩:=hpre;have S:=E.sh;have hob:=S.ob;have hm:=S.m;have hlc:=S.lc;clear hok;have res:∀b,xV s.1 s.2.1 s.2.2.1 z p.1 p.2=b->(b,())=pU.res (s,z,p,()):=λb h=>by simp only[pU,h]
 refine IV s.1.1.toNat (KL s.1 s.2.1 s.2.2.1 z p.1 p.2) ?_ ?_
 ·intro w next w0 w1 hno hyes _
  try dsimp only
  have hhl:(aF s.1 w z).length<=40:=c8 (gD _) hm;refine aE (λ_=>⟨hm,S.lt,E,?_⟩) (λh=>absurd aa h);have hu:KL s.1 s.2.1 s.2.2.1 z p.1 p.2 w=((aF s.1 w z).length==(pB s.1 s.2.1 s.2.2.1 w).length&&(kC ((aF s.1 w z).map λu=>(aq s.1 u p.1,aq s.1 u p.2))).length==(aF s.1 w z).length):=rfl;generalize (pB s.1 s.2.1 s.2.2.1 w)=G at *;refine aJ (λhx=>res _ (hno ?_)) (λhx=>?_)
  ·rw[hu];have:((aF s.1 w z).length==G.length)=false:=by rw[lH]at hx;rw[mt];omega
   rw[this,C3]
  have he:((aF s.1 w z).length==G.length)=true:=by rw[fY]at hx;rw[bN];omega
  rw[he,gB]at hu;have hsl:=@xn ((aF s.1 w z).map λu=>(aq s.1 u p.1,aq s.1 u p.2));rw[cC]at hsl;refine iB (n:=((aF s.1 w z).length:Int)) (λj=>kC (((aF s.1 w z).map λu=>(aq s.1 u p.1,aq s.1 u p.2)).take j.toNat)) aa rfl ?_ ?_
  ·intro j next1 j0 j1 hn1 _ _;have hs:=@KD ((aF s.1 w z).map λu=>(aq s.1 u p.1,aq s.1 u p.2)) j (0,0) j0 (by rw[cC];exact j1);have hl:=@xn (((aF s.1 w z).map λu=>(aq s.1 u p.1,aq s.1 u p.2)).take j.toNat);rw[dW,cC]at hl;rw[AM (d:=0) aa]at hs
   try dsimp only at hn1⊢
   rw[hs]at hn1;have hh:=cY.1 (bX (aF s.1 w z) 0 j0 j1);have hr:=S.row _ hh.1 hh.2.1;exact aE (λ_=>⟨j0,j1,hh.1,aa,p0,aa,hh.1,aa,q0,aa,by unfold bg;rw[ce];omega,aB,hn1⟩) (λh=>absurd j1 h)
  ·intro next1 _ _;refine aE (λh=>absurd h (dK _)) (λ_=>?_)
   try dsimp only
   rw[lQ _ (by rw[cC];omega)];refine aJ (λhy=>res _ (hno ?_)) (λhy=>⟨aB,hyes ?_⟩)
   ·rw[hu,mt];rw[lH]at hy;omega
   ·rw[hu,bN];rw[fY]at hy;omega
 ·intro next h _
  exact aE (λh=>absurd h an) (λ_=>res _ h)
theorem Uy:aN Tryz.prog 137 pU:=ctb (au qd (au Mk (au oD aR))) aS 137 Tryz.f137 pU Ux [(11,516)] (λx K=>GE x.1 x.2.1 x.2.2.1 K) (λx h1 h2=>U5 x.1 x.2.1 x.2.2.1 h1 h2)
def rn(s:PdD):Int×ot:=fsO s.1.1.toNat (pB s.1 s.2.1 s.2.2.1) (λz p=>xV s.1 s.2.1 s.2.2.1 z p.1 p.2)
theorem kU{p:Int×Int}:p∈rP c x y w fits<->p.1∈aF c w x/\p.2∈aF c w y/\fits p.1 p.2=true:=by
 unfold rP lq;rw[sg];constructor
 ·rintro⟨a,ha,h⟩;obtain⟨b,hb,rfl⟩:=fX.1 h;have:=mw.1 hb;exact⟨ha,this.1,this.2⟩
 ·rintro⟨h1,h2,h3⟩;exact⟨p.1,h1,fX.2 ⟨p.2,mw.2 ⟨h2,h3⟩,rfl⟩⟩
theorem R5(hm:c.2.1.length<=40):(rP c x y w fits).length<=1600:=by
 have:=Ju hm (x:=x) (y:=y) (w:=w) (fits:=fits) (aF c w x).length
 rwa [List.take_length]at this
def w8:Ct:=⟨[B8],[false],λx=>[PdP x.1],[(false,dP),(true,(.fz kw)),(false,cU)],λx=>((rn x.1).1,(rn x.1).2.1,(rn x.1).2.2,()),false,none⟩
def UU:Ann:=(.s .n (.s (.s .n (.l Li [(3,xZ)] [0] (.s .n (.s (.s .n (.l Lv [(3,xZ)] [0,5,21,22] .n)) .n)))) .n))
def af7:FuncId->Option Ct:=lkp [(136,pX),(137,pU)]
def GM(s:vW)(K:G0):Prop:=aK (S:=nv) (λa b=>let g:=a.1.2.1;let f:=pB s.1 s.2.1 s.2.2.1 g;Iq g<|Iq a.2.1.1<|Iq a.2.1.2<|cnd (decide (g<s.1.1)) (PdP s/\aK (S:=nv) (λc d=>let h:=c.1.2.1;let e:=f.getD h.toNat (0,0);Iq h<|Iq c.2.1.1<|Iq c.2.1.2<|cnd (decide (h<(f.length:Int))) (Ix h f.length<|PdP s/\(Ix e.1 s.1.2.1.length<|Ix e.2 s.1.2.1.length<|cnd (xV s.1 s.2.1 s.2.2.1 g e.1 e.2) (K (g,e,true,())) (Ik (h+1)<|d (((),h+1,()),c.2.1,())))) (Ik (g+1)<|b (((),g+1,()),c.2.1,()))) (((),0,()),a.2.1,())) (K (0,(0,0),false,()))) (((),0,()),(0,0),())
theorem Vi(s:vW)(hok:ab (okL w8.args (s,())))(hpre:ab (w8.pre (s,()))):GM s (λr=>r=w8.res (s,())):=by
 simp only[w8,okL,T.oks,T.ok,ap,ab,aL,az,aW]at hok hpre
 try dsimp only[T.den]at hok hpre
 delta GM Ik Iq Ix
 dsimp -proj -eta only;have E:PdP s:=hpre;have S:=E.sh;have hm:=S.m;refine Lw (F:=pB s.1 s.2.1 s.2.2.1) (U:=xV s.1 s.2.1 s.2.2.1) E S.ob.1 S.ob.2 (λz=>R5 hm) (λz p hp=>?_) (λr hr=>hr);have:=kU.1 hp;have h1:=cY.1 this.1;have h2:=cY.1 this.2.1;exact⟨⟨h1.1,h1.2.1⟩,h2.1,h2.2.1⟩
theorem UV:aN Tryz.prog 112 w8:=ctb (au Mk (au Uy aR)) aS 112 Tryz.f112 w8 UU [(8,3)] (λx K=>GM x.1 K) (λx h1 h2=>Vi x.1 h1 h2)
structure PdsP (l:List PdD):Prop where
 a:∀s∈l,PdP s
def F3(l:List PdD):Bool:=l.all λs=>(rn s).2.2
def qh:Ct:=⟨[(.sl B8)],[false],λx=>[PdsP x.1],[(false,cU)],λx=>(F3 x.1,()),false,none⟩
def V1:Ann:=(.s .n (.s (.s .n (.l Br [] [8,9] .n)) .n))
def Hg(list:List (ah×rR))(K:d9):Prop:=aK (S:=cH) (λa b=>let c:=list.getD a.1.1.toNat ((0,[],[],[],[]),0,0,(),false);Iq a.1.1<|cnd (decide (a.1.1<(list.length:Int))) (Ix a.1.1 list.length<|PdP c/\cnd (!(rn c).2.2) (K (false,())) (Ik (a.1.1+1)<|b ((a.1.1+1,()),()))) (K (true,()))) ((0,()),())
theorem VE(list:List (ah×rR))(hok:ab (okL qh.args (list,())))(hpre:ab (qh.pre (list,()))):Hg list (λr=>r=qh.res (list,())):=by
 simp only[qh,okL,T.oks,T.ok,ap,ab,aL,az,aW]at hok hpre
 try dsimp only[T.den]at hok hpre
 delta Hg Ik Iq Ix
 dsimp -proj -eta only;have hp:PdsP list:=hpre;have hp:=hp.a;have hl:list.length<=140737488355328:=by simp only[ce]at hok;omega
 clear hok hpre;have res:∀b,F3 list=b->(b,())=qh.res (list,()):=λb h=>by simp only[qh,h]
 refine AH list (((0:Int),(([]:List Int),(([]:List Int),(([]:List Int),([]:List (List Int)))))),((0:Int),((0:Int),((),false)))) (λs=>(rn s).2.2) ?_ ?_
 ·intro i next h0 h1 hno hn1 hin
  try dsimp only
  refine aE (λ_=>⟨h0,h1,hp _ (bX list _ h0 h1),aJ (λhx=>res _ (hno ?_)) (λhx=>⟨aB,hn1 ?_⟩)⟩) (λh=>absurd h1 h)
  ·simpa using hx
  ·simpa using hx
 ·intro next h hin
  refine aE (λh=>absurd h (dK _)) (λ_=>res _ h)
theorem Vq:aN Tryz.prog 81 qh:=ctb (au UV aR) aS 81 Tryz.f81 qh V1 [] (λx K=>Hg x.1 K) (λx h1 h2=>VE x.1 h1 h2)
def zx:Ct:=⟨[aC,aC,BF,yu,yu],[false,false,false,false,false],λx=>[ShapeP x.2.2.1,0<=x.1,x.1<x.2.2.1.2.1.length,0<=x.2.1,x.2.1<x.2.2.1.2.1.length,0<=x.2.2.2.1,x.2.2.2.1<x.2.2.1.2.1.length,0<=x.2.2.2.2.1,x.2.2.2.2.1<x.2.2.1.2.1.length],[(false,cU)],λx=>(aq x.2.2.1 x.1 x.2.2.2.1==aq x.2.2.1 x.2.1 x.2.2.2.2.1,()),false,none⟩
def GB(a b:Int)(c:ah)(f g:Int)(K:d9):Prop:=Ix a c.2.2.2.2.length<|Ix f (c.2.2.2.2.getD a.toNat []).length<|Ix b c.2.2.2.2.length<|Ix g (c.2.2.2.2.getD b.toNat []).length<|K (aq c a f==aq c b g,())
theorem UC(a b:Int)(c:ah)(f g:Int):Mh zx (a,b,c,f,g,()) (GB a b c f g):=by
 intro hok hpre;simp only[zx,okL,T.oks,T.ok,ap,ab,aL,az,aW]at hok hpre
 try dsimp only[T.den]at hok hpre
 delta GB Ix
 obtain⟨S,a0,a1,b0,b1,f0,f1,g0,g1⟩:=hpre;have ra:=S.row a a0 a1;have rb:=S.row b b0 b1;have hlc:=S.lc;exact⟨a0,aa,f0,aa,b0,aa,g0,aa,rfl⟩
theorem U8:aN Tryz.prog 111 zx:=ctb (au oD aR) aS 111 Tryz.f111 zx .n [(1,507)] (λx K=>GB x.1 x.2.1 x.2.2.1 x.2.2.2.1 x.2.2.2.2.1 K) (λx h1 h2=>UC x.1 x.2.1 x.2.2.1 x.2.2.2.1 x.2.2.2.2.1 h1 h2)
abbrev PuD:Type:=ah×(Int×(Int×((ah×nu)×Bool)))
structure PuP (s:PuD):Prop where
 sh:ShapeP s.1
 cc:s.2.2.2.1.1=s.1
 al:s.2.2.2.2=false
 f0:0<=s.2.2.2.1.2.1
 f1:s.2.2.2.1.2.1<s.1.2.1.length
 g0:0<=s.2.2.2.1.2.2.1
 g1:s.2.2.2.1.2.2.1<s.1.2.1.length
def rE(c:ah)(f g a b:Int):Bool:=aq c a f==aq c b g
def pA(c:ah)(x y f g w:Int):List (Int×Int):=rP c x y w (rE c f g)
def pZ:Ct:=⟨[BI,aC],[false,false],λx=>[PuP x.1],[(false,(.sl Lx))],λx=>(pA x.1.1 x.1.2.1 x.1.2.2.1 x.1.2.2.2.1.2.1 x.1.2.2.2.1.2.2.1 x.2.1,()),false,none⟩
def Vk:Ann:=(.s .n (.s .n (.s (.s .n (.l KW kt [0,1,20,21] (.s .n (.s .n (.s (.j mM kt xI (.s .n (.s (.s .n (.s (.s (.s .n (.j mM kt xI .n)) .n) .n)) (.s .n (.l Ld kt Lc (.s .n (.s .n (.s (.s .n (.s .n (.j mM kt Lu .n))) .n)))))))) .n))))) .n)))
def af9:FuncId->Option Ct:=lkp [(84,jy),(111,zx)]
def GW(s:mm)(w:Int)(K:G1):Prop:=let r:=aF s.1 w s.2.1;let q:=aF s.1 w s.2.2.1;let p:=s.1.2.1.length;let m:=s.2.2.2.1;let o:=m.1.2.1.length;p<=40/\s.1.2.2.1.length=p/\aK (S:=yO) (λa b=>let t:=a.1.2.1;let l:=r.getD t.toNat 0;Iq t<|Oa ky a.2.1<|cnd (decide (t<(r.length:Int))) (bK (S:=rQ) (λc=>Oa ky c.2.1<|Ik (t+1)<|b (((),t+1,()),c.2.1,())) (λd=>Ix t r.length<|cnd s.2.2.2.2 (ShapeP m.1/\(Ix l o<|Ix l o<|Ix m.2.1 o<|Ix m.2.2.1 o<|bK (S:=rQ) (λe=>Oa ky e.2.1<|d (((),()),e.2.1,())) (λf=>cnd (aq m.1 l m.2.1==aq m.1 l m.2.2.1) (bg a.2.1.length ((l,l)::([]:List (Int×Int))).length 16/\f (((),()),a.2.1++(l,l)::([]:List (Int×Int)),())) (f (((),()),a.2.1,()))))) (p<=40/\s.1.2.2.1.length=p/\aK (S:=yO) (λg h=>let u:=g.1.2.1;let n:=q.getD u.toNat 0;Iq u<|Oa ky g.2.1<|cnd (decide (u<(q.length:Int))) (Ix u q.length<|ShapeP m.1/\(Ix l o<|Ix n o<|Ix m.2.1 o<|Ix m.2.2.1 o<|bK (S:=rQ) (λi=>Oa ky i.2.1<|Ik (u+1)<|h (((),u+1,()),i.2.1,())) (λj=>cnd (aq m.1 l m.2.1==aq m.1 n m.2.2.1) (bg g.2.1.length ((l,n)::([]:List (Int×Int))).length 16/\j (((),()),g.2.1++(l,n)::([]:List (Int×Int)),())) (j (((),()),g.2.1,()))))) (d (((),()),g.2.1,()))) (((),0,()),a.2.1,())))) (K (a.2.1,()))) (((),0,()),([]:List (Int×Int)),())
theorem Vv(s:mm)(w:Int)(hok:ab (okL pZ.args (s,w,())))(hpre:ab (pZ.pre (s,w,()))):GW s w (λr=>r=pZ.res (s,w,())):=by
 simp only[pZ,okL,T.oks,T.ok,ap,ab,aL,az,aW]at hok hpre
 try dsimp only[T.den]at hok hpre
 delta GW Ik Iq Ix Oa
 dsimp -proj -eta only;have E:PuP s:=hpre;clear hok;obtain⟨c',x,y,⟨c,f,g,v⟩,al⟩:=s;obtain⟨S,hc,hal,f0,f1,g0,g1⟩:=E
 try dsimp only at S hc hal f0 f1 g0 g1⊢
 subst hc;subst hal;have hm:=S.m;have hlx:(aF c w x).length<=40:=c8 (gD _) hm;have hly:(aF c w y).length<=40:=c8 (gD _) hm;refine⟨hm,S.lt,?_⟩;refine iB (n:=((aF c w x).length:Int)) (λj=>((aF c w x).take j.toNat).flatMap (lq c y w (rE c f g))) aa rfl ?_ ?_
 ·intro j next j0 j1 hn hin hol
  have hs:=fm_s (f:=lq c y w (rE c f g)) j0 j1;have hpl:=@Ju c hm x y w (rE c f g) j.toNat;have ha:=cY.1 (bX (aF c w x) 0 j0 j1)
  try dsimp only at hn⊢
  refine aE (λ_=>?_) (λh=>absurd j1 h);refine uR _ (λs hs _=>⟨aB,by rw[hs];exact hn⟩) (λk hk=>⟨j0,j1,aJ (λh=>by cases h) (λ_=>⟨hm,S.lt,?_⟩)⟩);rw[hs]at hk;generalize ((aF c w x).take j.toNat).flatMap (lq c y w (rE c f g))=A at *;clear hs hn;generalize (aF c w x).getD j.toNat 0=a at *;refine iB (n:=((aF c w y).length:Int)) (λi=>A++(hV ((rE c f g) a) (aF c w y) i).map λb=>(a,b)) aa (iM A).symm ?_ ?_
  ·intro i next1 i0 i1 hn1 hin1 hol1;have hfl:=@xy ((rE c f g) a) (aF c w y) i;have ft:=@ya ((rE c f g) a) (aF c w y) i i0 i1;have ff:=@vl ((rE c f g) a) (aF c w y) i i0 i1;have hb:=cY.1 (bX (aF c w y) 0 i0 i1)
   try dsimp only at hn1⊢
   refine aE (λ_=>⟨i0,i1,S,ha.1,ha.2.1,hb.1,hb.2.1,f0,f1,g0,g1,uR _ (λs hs _=>⟨aB,by rw[hs];exact hn1⟩) (λk1 hk1=>aJ (λhp=>⟨bQ (by simp only[bn,cC,aX,bh];omega),hk1 _ ?_⟩) (λhp=>hk1 _ ?_))⟩) (λh=>absurd i1 h)
   ·rw[ft hp,mr,←dk];rfl
   ·rw[ff hp]
  ·intro next1 _ _;refine aE (λh=>absurd h (dK _)) (λ_=>hk _ ?_)
   try dsimp only
   rw[xO (dB _)];rfl
 ·intro next _ _
  refine aE (λh=>absurd h (dK _)) (λ_=>?_);simp only[pZ,pA,rP];rw[fU aa]
theorem Mj:aN Tryz.prog 136 pZ:=ctb (au qd (au U8 aR)) aS 136 Tryz.f136 pZ Vk [(2,512),(8,512)] (λx K=>GW x.1 x.2.1 K) (λx h1 h2=>Vv x.1 x.2.1 h1 h2)
def KR(c:ah)(x y f g z p q w:Int):Bool:=xW c z p q w (pA c x y f g w).length
def xS(c:ah)(x y f g z p q:Int):Bool:=cu c.1.toNat (KR c x y f g z p q)
def pT:Ct:=⟨[BI,aC,kw],[false,false,true],λx=>[PuP x.1,0<=x.2.2.1.1,x.2.2.1.1<x.1.1.2.1.length,0<=x.2.2.1.2,x.2.2.1.2<x.1.1.2.1.length],[(false,cU)],λx=>(xS x.1.1 x.1.2.1 x.1.2.2.1 x.1.2.2.2.1.2.1 x.1.2.2.2.1.2.2.1 x.2.1 x.2.2.1.1 x.2.2.1.2,()),false,none⟩
def U0:Ann:=(.s .n (.s (.s .n (.l pa [] [0,1,5] (.s .n (.s (.s .n (.s .n (.s .n (.s (.s .n (.l KY K9 [0,1,5,7,8,38,39] .n)) .n)))) .n)))) .n))
def afv:FuncId->Option Ct:=lkp [(84,jy),(136,pZ),(46,m8)]
def GF(s:mm)(z:Int)(p:qK)(K:d9):Prop:=aK (S:=cH) (λa b=>let f:=(aF s.1 a.1.1 z).length;Iq a.1.1<|cnd (decide (a.1.1<s.1.1)) (s.1.2.1.length<=40/\s.1.2.2.1.length=s.1.2.1.length/\PuP s/\cnd ((f:Int) != ((pA s.1 s.2.1 s.2.2.1 s.2.2.2.1.2.1 s.2.2.2.1.2.2.1 a.1.1).length:Int)) (K (false,())) (aK (S:=LW) (λc d=>let h:=c.1.2.1;let e:=(aF s.1 a.1.1 z).getD h.toNat 0;let g:=(s.1.2.2.2.2.getD e.toNat []).length;Iq h<|T.ok (T.mp kw T.bool) c.2.1->cnd (decide (h<(f:Int))) (Ix h f<|Ix e s.1.2.2.2.2.length<|Ix p.1 g<|Ix e s.1.2.2.2.2.length<|Ix p.2 g<|bg c.2.1.length 1 1/\(Ik (h+1)<|d (((),h+1,()),dq kw T.bool c.2.1 (aq s.1 e p.1,aq s.1 e p.2) true,()))) (cnd ((c.2.1.length:Int) != (f:Int)) (K (false,())) (Ik (a.1.1+1)<|b ((a.1.1+1,()),())))) (((),0,()),([]:List ot),()))) (K (true,()))) ((0,()),())
theorem U1(s:mm)(z:Int)(p:qK)(hok:ab (okL pT.args (s,z,p,())))(hpre:ab (pT.pre (s,z,p,()))):GF s z p (λr=>r=pT.res (s,z,p,())):=by
 simp only[pT,okL,T.oks,T.ok,ap,ab,aL,az,aW]at hok hpre
 try dsimp only[T.den]at hok hpre
 delta GF Ik Iq Ix
 dsimp -proj -eta only;obtain⟨E,p0,p1,q0,q1⟩:=hpre;have S:=E.sh;have hob:=S.ob;have hm:=S.m;have hlc:=S.lc;clear hok;have res:∀b,xS s.1 s.2.1 s.2.2.1 s.2.2.2.1.2.1 s.2.2.2.1.2.2.1 z p.1 p.2=b->(b,())=pT.res (s,z,p,()):=λb h=>by simp only[pT,h]
 refine IV s.1.1.toNat (KR s.1 s.2.1 s.2.2.1 s.2.2.2.1.2.1 s.2.2.2.1.2.2.1 z p.1 p.2) ?_ ?_
 ·intro w next w0 w1 hno hyes _
  try dsimp only
  have hhl:(aF s.1 w z).length<=40:=c8 (gD _) hm;refine aE (λ_=>⟨hm,S.lt,E,?_⟩) (λh=>absurd aa h);have hu:KR s.1 s.2.1 s.2.2.1 s.2.2.2.1.2.1 s.2.2.2.1.2.2.1 z p.1 p.2 w=((aF s.1 w z).length==(pA s.1 s.2.1 s.2.2.1 s.2.2.2.1.2.1 s.2.2.2.1.2.2.1 w).length&&(kC ((aF s.1 w z).map λu=>(aq s.1 u p.1,aq s.1 u p.2))).length==(aF s.1 w z).length):=rfl;generalize (pA s.1 s.2.1 s.2.2.1 s.2.2.2.1.2.1 s.2.2.2.1.2.2.1 w)=G at *;refine aJ (λhx=>res _ (hno ?_)) (λhx=>?_)
  ·rw[hu];have:((aF s.1 w z).length==G.length)=false:=by rw[lH]at hx;rw[mt];omega
   rw[this,C3]
  have he:((aF s.1 w z).length==G.length)=true:=by rw[fY]at hx;rw[bN];omega
  rw[he,gB]at hu;have hsl:=@xn ((aF s.1 w z).map λu=>(aq s.1 u p.1,aq s.1 u p.2));rw[cC]at hsl;refine iB (n:=((aF s.1 w z).length:Int)) (λj=>kC (((aF s.1 w z).map λu=>(aq s.1 u p.1,aq s.1 u p.2)).take j.toNat)) aa rfl ?_ ?_
  ·intro j next1 j0 j1 hn1 _ _;have hs:=@KD ((aF s.1 w z).map λu=>(aq s.1 u p.1,aq s.1 u p.2)) j (0,0) j0 (by rw[cC];exact j1);have hl:=@xn (((aF s.1 w z).map λu=>(aq s.1 u p.1,aq s.1 u p.2)).take j.toNat);rw[dW,cC]at hl;rw[AM (d:=0) aa]at hs
   try dsimp only at hn1⊢
   rw[hs]at hn1;have hh:=cY.1 (bX (aF s.1 w z) 0 j0 j1);have hr:=S.row _ hh.1 hh.2.1;exact aE (λ_=>⟨j0,j1,hh.1,aa,p0,aa,hh.1,aa,q0,aa,by unfold bg;rw[ce];omega,aB,hn1⟩) (λh=>absurd j1 h)
  ·intro next1 _ _;refine aE (λh=>absurd h (dK _)) (λ_=>?_)
   try dsimp only
   rw[lQ _ (by rw[cC];omega)];refine aJ (λhy=>res _ (hno ?_)) (λhy=>⟨aB,hyes ?_⟩)
   ·rw[hu,mt];rw[lH]at hy;omega
   ·rw[hu,bN];rw[fY]at hy;omega
 ·intro next h _
  exact aE (λh=>absurd h an) (λ_=>res _ h)
theorem Uz:aN Tryz.prog 137 pT:=ctb (au qd (au Mj (au oD aR))) aS 137 Tryz.f137 pT U0 [(11,516)] (λx K=>GF x.1 x.2.1 x.2.2.1 K) (λx h1 h2=>U1 x.1 x.2.1 x.2.2.1 h1 h2)
def rp(s:PuD):Int×ot:=fsO s.1.1.toNat (pA s.1 s.2.1 s.2.2.1 s.2.2.2.1.2.1 s.2.2.2.1.2.2.1) (λz p=>xS s.1 s.2.1 s.2.2.1 s.2.2.2.1.2.1 s.2.2.2.1.2.2.1 z p.1 p.2)
def w9:Ct:=⟨[BI],[false],λx=>[PuP x.1],[(false,dP),(true,(.fz kw)),(false,cU)],λx=>((rp x.1).1,(rp x.1).2.1,(rp x.1).2.2,()),false,none⟩
def UY:Ann:=(.s .n (.s (.s .n (.l Li [(3,xZ)] [0] (.s .n (.s (.s .n (.l Lv [(3,xZ)] [0,5,21,22] .n)) .n)))) .n))
def af3:FuncId->Option Ct:=lkp [(136,pZ),(137,pT)]
def GP(s:mm)(K:G0):Prop:=let h:=s.2.2.2.1.2;aK (S:=nv) (λa b=>let g:=a.1.2.1;let e:=pA s.1 s.2.1 s.2.2.1 h.1 h.2.1 g;Iq g<|Iq a.2.1.1<|Iq a.2.1.2<|cnd (decide (g<s.1.1)) (PuP s/\aK (S:=nv) (λc d=>let i:=c.1.2.1;let f:=e.getD i.toNat (0,0);Iq i<|Iq c.2.1.1<|Iq c.2.1.2<|cnd (decide (i<(e.length:Int))) (Ix i e.length<|PuP s/\(Ix f.1 s.1.2.1.length<|Ix f.2 s.1.2.1.length<|cnd (xS s.1 s.2.1 s.2.2.1 h.1 h.2.1 g f.1 f.2) (K (g,f,true,())) (Ik (i+1)<|d (((),i+1,()),c.2.1,())))) (Ik (g+1)<|b (((),g+1,()),c.2.1,()))) (((),0,()),a.2.1,())) (K (0,(0,0),false,()))) (((),0,()),(0,0),())
theorem Vj(s:mm)(hok:ab (okL w9.args (s,())))(hpre:ab (w9.pre (s,()))):GP s (λr=>r=w9.res (s,())):=by
 simp only[w9,okL,T.oks,T.ok,ap,ab,aL,az,aW]at hok hpre
 try dsimp only[T.den]at hok hpre
 delta GP Ik Iq Ix
 dsimp -proj -eta only;have E:PuP s:=hpre;have S:=E.sh;have hm:=S.m;refine Lw (F:=pA s.1 s.2.1 s.2.2.1 s.2.2.2.1.2.1 s.2.2.2.1.2.2.1) (U:=xS s.1 s.2.1 s.2.2.1 s.2.2.2.1.2.1 s.2.2.2.1.2.2.1) E S.ob.1 S.ob.2 (λz=>R5 hm) (λz p hp=>?_) (λr hr=>hr);have:=kU.1 hp;have h1:=cY.1 this.1;have h2:=cY.1 this.2.1;exact⟨⟨h1.1,h1.2.1⟩,h2.1,h2.2.1⟩
theorem UW:aN Tryz.prog 112 w9:=ctb (au Mj (au Uz aR)) aS 112 Tryz.f112 w9 UY [(8,3)] (λx K=>GP x.1 K) (λx h1 h2=>Vj x.1 h1 h2)
structure PusP (l:List PuD):Prop where
 a:∀s∈l,PuP s
def FJ(l:List PuD):Bool:=l.all λs=>(rp s).2.2
def qf:Ct:=⟨[(.sl BI)],[false],λx=>[PusP x.1],[(false,cU)],λx=>(FJ x.1,()),false,none⟩
def Vz:Ann:=(.s .n (.s (.s .n (.l Br [] [8,9] .n)) .n))
def Hh(list:Ck)(K:d9):Prop:=aK (S:=cH) (λa b=>let c:=list.getD a.1.1.toNat ((0,[],[],[],[]),0,0,((0,[],[],[],[]),0,0,()),false);Iq a.1.1<|cnd (decide (a.1.1<(list.length:Int))) (Ix a.1.1 list.length<|PuP c/\cnd (!(rp c).2.2) (K (false,())) (Ik (a.1.1+1)<|b ((a.1.1+1,()),()))) (K (true,()))) ((0,()),())
theorem VD(list:Ck)(hok:ab (okL qf.args (list,())))(hpre:ab (qf.pre (list,()))):Hh list (λr=>r=qf.res (list,())):=by
 simp only[qf,okL,T.oks,T.ok,ap,ab,aL,az,aW]at hok hpre
 try dsimp only[T.den]at hok hpre
 delta Hh Ik Iq Ix
 dsimp -proj -eta only;have hp:PusP list:=hpre;have hp:=hp.a;have hl:list.length<=140737488355328:=by simp only[ce]at hok;omega
 clear hok hpre;have res:∀b,FJ list=b->(b,())=qf.res (list,()):=λb h=>by simp only[qf,h]
 refine AH list (((0:Int),(([]:List Int),(([]:List Int),(([]:List Int),([]:List (List Int)))))),((0:Int),((0:Int),((((0:Int),(([]:List Int),(([]:List Int),(([]:List Int),([]:List (List Int)))))),((0:Int),((0:Int),()))),false)))) (λs=>(rp s).2.2) ?_ ?_
 ·intro i next h0 h1 hno hn1 hin
  try dsimp only
  refine aE (λ_=>⟨h0,h1,hp _ (bX list _ h0 h1),aJ (λhx=>res _ (hno ?_)) (λhx=>⟨aB,hn1 ?_⟩)⟩) (λh=>absurd h1 h)
  ·simpa using hx
  ·simpa using hx
 ·intro next h hin
  refine aE (λh=>absurd h (dK _)) (λ_=>res _ h)
theorem Vy:aN Tryz.prog 81 qf:=ctb (au UW aR) aS 81 Tryz.f81 qf Vz [] (λx K=>Hh x.1 K) (λx h1 h2=>VD x.1 h1 h2)
def zy:Ct:=⟨[ir,aC,aC],[false,false,false],λx=>[],[(false,(.fz B8))],λx=>(((x.1,(x.2.1,(x.2.2.1,((),false)))):ah×rR),()),true,none⟩
def GS(c:ah)(x y:Int)(K:(ah×rR)×Unit->Prop):Prop:=K ((c,x,y,(),false),())
theorem Ve(c:ah)(x y:Int):Mh zy (c,x,y,()) (GS c x y):=by
 intro hok hpre;simp only[zy,okL,T.oks,T.ok,ap,ab,aL,az,aW]at hok hpre
 try dsimp only[T.den]at hok hpre
 unfold GS;rfl
theorem UR:aN Tryz.prog 77 zy:=ctb aR aS 77 Tryz.f77 zy .n [] (λx K=>GS x.1 x.2.1 x.2.2.1 K) (λx h1 h2=>Ve x.1 x.2.1 x.2.2.1 h1 h2)
def zv:Ct:=⟨[ir,aC,aC],[false,false,false],λx=>[0<=x.2.1,x.2.1<x.1.2.1.length],[(false,(.fz B2))],λx=>(((x.1,(x.1.2.1.getD x.2.1.toNat 0,(x.1.2.1.getD x.2.1.toNat 0,((x.1,(x.2.1,(x.2.2.1,()))),true)))):ah×(Int×(Int×((ah×nu)×Bool)))),()),true,none⟩
abbrev Md:Type:=(ah×(Int×(Int×((ah×nu)×Bool))))×Unit->Prop
def GI(c:ah)(f g:Int)(K:Md):Prop:=let a:=c.2.1.getD f.toNat 0;Ix f c.2.1.length<|Ix f c.2.1.length<|K ((c,a,a,(c,f,g,()),true),())
theorem UG(c:ah)(f g:Int):Mh zv (c,f,g,()) (GI c f g):=by
 intro hok hpre;simp only[zv,okL,T.oks,T.ok,ap,ab,aL,az,aW]at hok hpre
 try dsimp only[T.den]at hok hpre
 delta GI Ix
 dsimp -proj -eta only;exact⟨hpre.1,hpre.2,hpre.1,hpre.2,rfl⟩
theorem UE:aN Tryz.prog 79 zv:=ctb aR aS 79 Tryz.f79 zv .n [(1,16)] (λx K=>GI x.1 x.2.1 x.2.2.1 K) (λx h1 h2=>UG x.1 x.2.1 x.2.2.1 h1 h2)
def zz:Ct:=⟨[ir,aC,aC],[false,false,false],λx=>[0<=x.2.1,x.2.1<x.1.2.1.length,0<=x.2.2.1,x.2.2.1<x.1.2.1.length],[(false,(.fz BI))],λx=>(((x.1,(x.1.2.1.getD x.2.1.toNat 0,(x.1.2.1.getD x.2.2.1.toNat 0,((x.1,(x.2.1,(x.2.2.1,()))),false)))):ah×(Int×(Int×((ah×nu)×Bool)))),()),true,none⟩
def GQ(c:ah)(f g:Int)(K:Md):Prop:=Ix f c.2.1.length<|Ix g c.2.1.length<|K ((c,c.2.1.getD f.toNat 0,c.2.1.getD g.toNat 0,(c,f,g,()),false),())
theorem UO(c:ah)(f g:Int):Mh zz (c,f,g,()) (GQ c f g):=by
 intro hok hpre;simp only[zz,okL,T.oks,T.ok,ap,ab,aL,az,aW]at hok hpre
 try dsimp only[T.den]at hok hpre
 delta GQ Ix
 exact⟨hpre.1,hpre.2.1,hpre.2.2.1,hpre.2.2.2,rfl⟩
theorem UM:aN Tryz.prog 80 zz:=ctb aR aS 80 Tryz.f80 zz .n [(1,16)] (λx K=>GQ x.1 x.2.1 x.2.2.1 K) (λx h1 h2=>UO x.1 x.2.1 x.2.2.1 h1 h2)
def Cd(c:ah)(x y:Int):PdD:=(c,(x,(y,((),false))))
def Ga(c:ah):List PdD:=(aG c.1.toNat λx=>aG c.1.toNat (Cd c x)).flatten
def tL(c:ah)(f g:Int):Bool:=c.2.1.getD f.toNat 0==c.2.1.getD g.toNat 0&&c.2.2.1.getD f.toNat 0==c.2.2.1.getD g.toNat 0
def vF(c:ah)(f g:Int):SpD:=(c,(c.2.1.getD f.toNat 0,(c.2.1.getD f.toNat 0,((c,(f,(g,()))),true))))
def FO(c:ah):List SpD:=(aG c.2.1.length λf=>(dh c.2.1.length (tL c f)).map (vF c f)).flatten
def vD(c:ah)(f g:Int):Bool:=c.2.2.1.getD f.toNat 0==c.2.2.1.getD g.toNat 0
def y9(c:ah)(f g:Int):PuD:=(c,(c.2.1.getD f.toNat 0,(c.2.1.getD g.toNat 0,((c,(f,(g,()))),false))))
def FX(c:ah):List PuD:=(aG c.2.1.length λf=>(dh c.2.1.length (vD c f)).map (y9 c f)).flatten
def ep(c:ah):Bool×Cg:=(decide (0<(BO c).length),(F3 (Ga c),(Gd (FO c),FJ (FX c))))
theorem Ln{f:Int->List α}(h:0<=i):(aG (i+1).toNat f).flatten=(aG i.toNat f).flatten++f i:=by rw[eY h,List.flatten_append];simp
theorem afs(S:ShapeP c):PdsP (Ga c):=⟨λs hs=>by obtain⟨l,hl,hs⟩:=pS.1 hs;obtain⟨x,_,_,rfl⟩:=fN.1 hl;obtain⟨y,_,_,rfl⟩:=fN.1 hs;exact⟨S,rfl⟩⟩
theorem afh(S:ShapeP c):EqsP (FO c):=⟨λs hs=>by obtain⟨l,hl,hs⟩:=pS.1 hs;obtain⟨f,f0,f1,rfl⟩:=fN.1 hl;obtain⟨g,hg,rfl⟩:=fX.1 hs;have:=kS.1 hg;exact⟨S,rfl,rfl,f0,f1,this.1,this.2.1⟩⟩
theorem afc(S:ShapeP c):PusP (FX c):=⟨λs hs=>by obtain⟨l,hl,hs⟩:=pS.1 hs;obtain⟨f,f0,f1,rfl⟩:=fN.1 hl;obtain⟨g,hg,rfl⟩:=fX.1 hs;have:=kS.1 hg;exact⟨S,rfl,rfl,f0,f1,this.1,this.2.1⟩⟩
def sn:Ct:=⟨[ir],[false],λx=>[ShapeP x.1],[(true,TX)],λx=>(ep x.1,()),false,none⟩
def UI:Ann:=(.s .n (.s .n (.s (.s .n (.l [(2,(.ad 2 [.de])),(3,(.ref 800003 [])),(6,(.d aC))] [(2,Le),(800003,TV)] [0,4,5] (.s .n (.s (.s .n (.l [(2,(.ad 2 [.de])),(3,(.ref 800003 [])),(7,(.d aC))] [(2,Le),(800003,TV)] [0,4,5,6] .n)) .n)))) (.s (.s .n (.l [(2,(.ad 2 [.de])),(4,(.ref 800004 [])),(5,(.ref 800005 [])),(41,(.d aC))] FD [0,3,40] (.s .n (.s .n (.s (.s .n (.s .n (.l [(2,(.ad 2 [.de])),(4,(.ref 800004 [])),(5,(.ref 800005 [])),(49,(.d aC))] FD [0,3,8,40,41,48] (.s .n (.s .n (.s (.s .n (.s (.s .n (.j TJ FD [0,3,8,9,40,41,48,49] .n)) (.s .n (.j TJ FD [0,3,8,40,41,48,49] .n)))) .n)))))) .n))))) .n))))
def afx:FuncId->Option Ct:=lkp [(56,sj),(81,vCt [yC qc,yC qh,yC qf]),(77,zy),(79,zv),(80,zz),(78,wE)]
def GL(c:ah)(K:(Bool×Cg)×Unit->Prop):Prop:=let z:=c.2.2.1.length;let x:=T.pt bO;let w:=c.2.1.length;let v:=T.pt (T.p x (T.p aC (T.p aC (T.p (T.fn 109 T.u) T.bool))));let o:=T.p (T.pt x) (T.p (T.pt aC) (T.p (T.pt aC) T.u));let q:=T.pt (T.p x (T.p aC (T.p aC (T.p (T.fn 111 o) T.bool))));let p:=T.pt (T.p x (T.p aC (T.p aC (T.p (T.fn 110 o) T.bool))));aK (S:=yJ) (λa b=>let a0:=a.1.2.2.1;Iq a0<|T.ok (.sl v) a.2.2.1->cnd (decide (a0<c.1)) (aK (S:=yJ) (λd e=>let a1:=d.1.2.2.1;Iq a1<|T.ok (.sl v) d.2.2.1->cnd (decide (a1<c.1)) (bg d.2.2.1.length ((c,a0,a1,(),false)::([]:List (dy×rR))).length 8/\(Ik (a1+1)<|e (((),(),a1+1,()),d.2.1,d.2.2.1++(c,a0,a1,(),false)::([]:List (dy×rR)),()))) (Ik (a0+1)<|b (((),(),a0+1,()),d.2.1,d.2.2.1,()))) (((),(),0,()),a.2.1,a.2.2.1,())) (aK (S:=yP) (λf g=>let a5:=f.2.2;let r:=f.1.2.2.2.1;let a3:=c.2.2.1.getD r.toNat 0;let u:=c.2.1.getD r.toNat 0;Iq r<|T.ok (.sl p) a5.1->T.ok (.sl q) a5.2.1->cnd (decide (r<(w:Int))) (aK (S:=yP) (λh i=>let a2:=h.2.2;let t:=h.1.2.2.2.1;let a4:=c.2.2.1.getD t.toNat 0;let y:=c.2.1.getD t.toNat 0;Iq t<|T.ok (.sl p) a2.1->T.ok (.sl q) a2.2.1->cnd (decide (t<(w:Int))) (Ix r w<|r<(z:Int)/\(Ix t w<|t<(z:Int)/\bK (S:=Gu) (λj=>let a6:=j.2.2.2.1;T.ok (.sl p) j.2.2.1->T.ok (.sl q) a6->(Ix r z<|Ix t z<|bK (S:=Gu) (λl=>T.ok (.sl p) l.2.2.1->T.ok (.sl q) l.2.2.2.1->(Ik (t+1)<|i (((),(),(),t+1,()),l.2.1,l.2.2.1,l.2.2.2.1,()))) (λm=>cnd (a3==a4) (Ix r w<|Ix t w<|bg a6.length ((c,u,y,(c,r,t,()),false)::([]:List yM)).length 8/\m (((),(),(),()),j.2.1,j.2.2.1,a6++(c,u,y,(c,r,t,()),false)::([]:List yM),())) (m (((),(),(),()),j.2.1,j.2.2.1,a6,()))))) (λn=>cnd (u==y&&a3==a4) (Ix r w<|bg a2.1.length ((c,u,u,(c,r,t,()),true)::([]:List yM)).length 8/\n (((),(),(),()),h.2.1,a2.1++(c,u,u,(c,r,t,()),true)::([]:List yM),a2.2.1,())) (n (((),(),(),()),h.2.1,a2.1,a2.2.1,()))))) (Ik (r+1)<|g (((),(),(),r+1,()),h.2.1,a2.1,a2.2.1,()))) (((),(),(),0,()),f.2.1,a5.1,a5.2.1,())) (ShapeP c/\PdsP a.2.2.1/\EqsP a5.1/\PusP a5.2.1/\K ((decide (0<((BO c).length:Int)),F3 a.2.2.1,Gd a5.1,FJ a5.2.1),()))) (((),(),(),0,()),a.2.1,([]:List yM),([]:List yM),()))) (((),(),0,()),(false,false,false,false),([]:List (dy×rR)),())
theorem UK(c:ah)(hok:ab (okL sn.args (c,())))(hpre:ab (sn.pre (c,()))):GL c (λr=>r=sn.res (c,())):=by
 simp only[sn,okL,T.oks,T.ok,ap,ab,aL,az,aW]at hok hpre
 try dsimp only[T.den]at hok hpre
 delta GL Ik Iq Ix
 dsimp -proj -eta only;have S:ShapeP c:=hpre;have ob:=S.ob;have hm:=S.m;have hlt:=S.lt;clear hok hpre;have hres:(sn).res (c,())=(ep c,()):=rfl;rw[hres];refine bt (λ(s:yJ)=>0<=s.1.2.2.1/\s.1.2.2.1<=c.1/\s.2.2.1=(aG s.1.2.2.1.toNat λx=>aG c.1.toNat (Cd c x)).flatten/\(s.2.2.1.length:Int)<=8*s.1.2.2.1) (λ(s:yJ)=>(c.1-s.1.2.2.1).toNat) ?_ ⟨ak,ob.1,rfl,ak⟩;rintro⟨⟨_,_,x,_⟩,b1,A,_⟩ next ⟨x0,x1,hA,hAl⟩ hnx
 intros
 try dsimp only at x0 x1 hA hAl hnx⊢
 refine aE (λhx=>?_) (λhx=>?_)
 ·refine bt (λ(s:yJ)=>0<=s.1.2.2.1/\s.1.2.2.1<=c.1/\s.2.2.1=A++aG s.1.2.2.1.toNat (Cd c x)) (λ(s:yJ)=>(c.1-s.1.2.2.1).toNat) ?_ ⟨ak,ob.1,by simp[aG]⟩;rintro⟨⟨_,_,y,_⟩,b2,A2,_⟩ next1 ⟨y0,y1,hA2⟩ hn1;intros
  try dsimp only at y0 y1 hA2 hn1⊢
  have hl2:A2.length=A.length+y.toNat:=by rw[hA2,bn,bA]
  refine aE (λhy=>⟨bQ (by simp only[aX,bh];omega),aB,hn1 _ ⟨an,an,?_⟩ an⟩) (λhy=>⟨aB,hnx _ ⟨an,an,?_,an⟩ an⟩)
  ·try dsimp only;rw[hA2,eY y0,dk];rfl
  ·try dsimp only;rw[hA2,hA,Ln x0,show y.toNat=c.1.toNat by omega]
 have hAA:A=Ga c:=by rw[hA,show x.toNat=c.1.toNat by omega];rfl
 clear hA hnx;refine bt (λ(s:yP)=>0<=s.1.2.2.2.1/\s.1.2.2.2.1<=c.2.1.length/\s.2.2.1=(aG s.1.2.2.2.1.toNat λf=>(dh c.2.1.length (tL c f)).map (vF c f)).flatten/\s.2.2.2.1=(aG s.1.2.2.2.1.toNat λf=>(dh c.2.1.length (vD c f)).map (y9 c f)).flatten/\(s.2.2.1.length:Int)<=40*s.1.2.2.2.1/\(s.2.2.2.1.length:Int)<=40*s.1.2.2.2.1) (λ(s:yP)=>(c.2.1.length-s.1.2.2.2.1).toNat) ?_ ⟨ak,ak,rfl,rfl,ak,ak⟩;rintro⟨⟨_,_,_,f,_⟩,b2,E,U,_⟩ next ⟨f0,f1,hE,hU,hEl,hUl⟩ hnx
 intros
 try dsimp only at f0 f1 hE hU hEl hUl hnx⊢
 refine aE (λhf=>?_) (λhf=>?_)
 ·refine bt (λ(s:yP)=>0<=s.1.2.2.2.1/\s.1.2.2.2.1<=c.2.1.length/\s.2.2.1=E++(dh s.1.2.2.2.1.toNat (tL c f)).map (vF c f)/\s.2.2.2.1=U++(dh s.1.2.2.2.1.toNat (vD c f)).map (y9 c f)) (λ(s:yP)=>(c.2.1.length-s.1.2.2.2.1).toNat) ?_ ⟨ak,ak,by simp[dh],by simp[dh]⟩;rintro⟨⟨_,_,_,g,_⟩,b3,E2,U2,_⟩ next1 ⟨g0,g1,hE2,hU2⟩ hn1;intros
  try dsimp only at g0 g1 hE2 hU2 hn1⊢
  have hle:E2.length<=E.length+g.toNat:=by have:=@gD (tL c f) g.toNat;rw[hE2,bn,cC];omega
  have hlu:U2.length<=U.length+g.toNat:=by have:=@gD (vD c f) g.toNat;rw[hU2,bn,cC];omega
  refine aE (λhg=>⟨f0,hf,aa,g0,hg,aa,bZ (λ(q:Gu)=>q.2.2.1=E++(dh (g+1).toNat (tL c f)).map (vF c f)/\q.2.2.2.1=U2) ?_ ?_⟩) (λhg=>?_)
  ·rintro⟨_,b4,E3,U3,_⟩ ⟨hE3,hU3⟩;intros
   try dsimp only at hE3 hU3⊢
   subst hU3;refine⟨f0,aa,g0,aa,bZ (λ(q:Gu)=>q.2.2.1=E++(dh (g+1).toNat (tL c f)).map (vF c f)/\q.2.2.2.1=U++(dh (g+1).toNat (vD c f)).map (y9 c f)) ?_ ?_⟩
   ·rintro⟨_,b5,E4,U4,_⟩ ⟨hE4,hU4⟩;intros
    try dsimp only at hE4 hU4⊢
    exact⟨aB,hn1 _ ⟨an,an,hE4,hU4⟩ an⟩
   ·intro k hk;refine aJ (λh=>⟨f0,hf,g0,hg,bQ (by simp only[aX,bh];omega),hk _ ⟨hE3,?_⟩⟩) (λh=>hk _ ⟨hE3,?_⟩)
    ·try dsimp only;rw[hU2,xU g0 h,mr,dk];rfl
    ·try dsimp only;rw[hU2,xR g0 h]
  ·intro k hk;refine aJ (λh=>⟨f0,hf,bQ (by simp only[aX,bh];omega),hk _ ⟨?_,rfl⟩⟩) (λh=>hk _ ⟨?_,rfl⟩)
   ·try dsimp only;rw[hE2,xU g0 h,mr,dk];rfl
   ·try dsimp only;rw[hE2,xR g0 h]
  ·have eg:g.toNat=c.2.1.length:=aa
   refine⟨aB,hnx _ ⟨an,an,?_,?_,an,an⟩ an⟩
   ·try dsimp only;rw[hE2,hE,Ln f0,eg]
   ·try dsimp only;rw[hU2,hU,Ln f0,eg]
 have ef:f.toNat=c.2.1.length:=aa
 have hEE:E=FO c:=by rw[hE,ef];rfl
 have hUU:U=FX c:=by rw[hU,ef];rfl
 rw[hAA,hEE,hUU];refine⟨S,afs S,afh S,afc S,?_⟩;unfold ep;congr 2;rw[decide_eq_decide];omega
theorem UB:aN Tryz.prog 39 sn:=ctb (au UX (au (PX VS rfl (PX Vq rfl (aa8 Vy rfl))) (au UR (au UE (au UM (au Ml aR)))))) aS 39 Tryz.f39 sn UI [(17,14)] (λx K=>GL x.1 K) (λx h1 h2=>UK x.1 h1 h2)
def sS:Ct:=⟨[cy],[false],λx=>[x.1.length<=1099511627776],[(false,bS)],λx=>(x.1,()),false,none⟩
def ID(list:aA)(K:l6):Prop:=bg 0 list.length 8/\K (list,())
theorem Zb(list:aA):Mh sS (list,()) (ID list):=by
 intro hok hpre;simp only[sS,okL,T.oks,T.ok,ap,ab,aL,az,aW]at hok hpre
 try dsimp only[T.den]at hok hpre
 unfold ID;have hl:list.length<=1099511627776:=hpre;exact⟨bQ aa,rfl⟩
theorem I6:aN Tryz.prog 75 sS:=ctb aR aS 75 Tryz.f75 sS .n [] (λx K=>ID x.1 K) (λx h1 h2=>Zb x.1 h1 h2)
def z9:Ct:=⟨[aC,aC,BF],[false,false,false],λx=>[ShapeP x.2.2.1,0<=x.1,x.1<x.2.2.1.2.1.length,0<=x.2.1,x.2.1<x.2.2.1.2.1.length],[(false,dP)],λx=>(aq x.2.2.1 x.2.1 x.1,()),false,none⟩
def Hx(f g:Int)(c:ah)(K:vU):Prop:=Ix g c.2.2.2.2.length<|Ix f (c.2.2.2.2.getD g.toNat []).length<|K (aq c g f,())
theorem Ww(f g:Int)(c:ah):Mh z9 (f,g,c,()) (Hx f g c):=by
 intro hok hpre;simp only[z9,okL,T.oks,T.ok,ap,ab,aL,az,aW]at hok hpre
 try dsimp only[T.den]at hok hpre
 delta Hx Ix
 obtain⟨S,f0,f1,g0,g1⟩:=hpre;have rg:=S.row g g0 g1;have hlc:=S.lc;exact⟨g0,aa,f0,aa,rfl⟩
theorem Wi:aN Tryz.prog 76 z9:=ctb (au oD aR) aS 76 Tryz.f76 z9 .n [] (λx K=>Hx x.1 x.2.1 x.2.2.1 K) (λx h1 h2=>Ww x.1 x.2.1 x.2.2.1 h1 h2)
structure TabRP (o:ah) (a:aA) (c:ah) (b:aA):Prop where
 sh:ShapeP c
 lb:b.length=c.2.1.length
 wb:ds b c.2.1.length=true
 la:a.length=c.2.1.length
 lo:o.2.1.length=c.2.1.length
 lt:o.2.2.1.length=c.2.1.length
 co:∀f g:Int,0<=f->f<c.2.1.length->0<=g->g<c.2.1.length->o.2.2.1.getD f.toNat 0=o.2.1.getD g.toNat 0->c.2.2.1.getD (b.getD f.toNat 0).toNat 0=c.2.1.getD (b.getD g.toNat 0).toNat 0
def yf(o:ah)(F:yS)(f g:Int):Int:=if o.2.2.1.getD f.toNat 0=o.2.1.getD g.toNat 0 then F f g else -1
def vh(o:ah)(F:yS):List (List Int):=aG o.2.1.length λf=>aG o.2.1.length λg=>yf o F f g
def tbT(F:yS)(n:Nat)(i j:Int):List (List Int):=aG n λe=>if e=i then (aG n λg=>if g<j then F i g else 0)else if e<i then aG n (F e)else []
theorem Kh:(tbT F n i j).length=n:=bA _
theorem Ke(i0:0<=i)(i1:i<n):(tbT F n i j).getD i.toNat []=aG n λg=>if g<j then F i g else 0:=by unfold tbT;rw[dN i0 i1,am rfl]
theorem aec{F:yS}{n:Nat}{i j:Int}(i0:0<=i)(i1:i<n)(j0:0<=j)(j1:j<n):(tbT F n i j).set i.toNat (((tbT F n i j).getD i.toNat []).set j.toNat (F i j))=tbT F n i (j+1):=by
 rw[Ke i0 i1,uV j0 j1];unfold tbT;rw[uV i0 i1];refine ge λe _ _=>?_;by_cases h:e=i
 ·rw[am h,am h];refine ge λg _ _=>?_;by_cases hg:g=j
  ·rw[am hg,am aa,hg]
  ·rw[aj hg];by_cases h2:g<j
   ·rw[am h2,am aa]
   ·rw[aj h2,aj aa]
 ·rw[aj h,aj h,aj h]
theorem ZP{A:bW}{i j:Nat}{w v:Int}(h:i<A.length):(A.set i ((A.getD i []).set j w)).set i (((A.set i ((A.getD i []).set j w)).getD i []).set j v)=A.set i ((A.getD i []).set j v):=by rw[Q3 _ _ _ _ _ h,am rfl,List.set_set,List.set_set]
theorem afp(i0:0<=i)(i1:i<n):(aG n λe=>if e<i then aG n (F e)else []).set i.toNat (aG n λ_=>0)=tbT F n i 0:=by
 rw[uV i0 i1];unfold tbT;refine ge λe _ _=>?_;by_cases h:e=i
 ·rw[am h,am h];exact ge λg g0 _=>by rw[aj aa]
 ·rw[aj h,aj h]
theorem aef:tbT F n i n=aG n λe=>if e<i+1 then aG n (F e)else []:=by
 unfold tbT;refine ge λe _ _=>?_;by_cases h:e=i
 ·rw[am h,am aa,h];exact ge λg _ g1=>by rw[am g1]
 ·rw[aj h];by_cases h2:e<i
  ·rw[am h2,am aa]
  ·rw[aj h2,aj aa]
def rI(d:ah)(f g:Int):Int:=aq d g f
def sq:Wt:=⟨(.pt fM),[(.fn 76 (.p BF .u))],[false],λx y=>[ShapeP y.1.1,x.2.1.length=y.1.1.2.1.length,x.2.2.1.length=y.1.1.2.1.length],λx y=>(x.1,x.2.1,x.2.2.1,x.2.2.2.1,vh x (rI y.1.1)),[],λx y=>(()),0⟩
def Mi:Ct:=g7 sq
def UQ:Ann:=(.s .n (.s .n (.s .n (.l [(0,(.ad 1000000 [.de])),(19,(.d aC))] [(1000000,cG)] [1,4,18] (.s .n (.s .n (.s (.s .n (.s .n (.s .n (.l [(0,(.ad 1000000 [.de])),(38,(.d aC))] [(1000000,cG)] [1,4,5,18,19,37] (.s .n (.s .n (.s (.s .n (.s .n (.s .n (.j [(0,(.ad 1000000 [.de]))] [(1000000,cG)] [1,4,5,18,19,37,38] .n)))) .n))))))) .n)))))))
def af1:FuncId->Option Ct:=lkp [(85,su),(76,z9)]
def Mg(c:ah)(composite:ah×Unit)(K:ah->(Unit)->Prop):Prop:=let q:=composite.1;let j:=c.2.1.length;let n:=List.replicate (Int.toNat (j:Int)) ([]:List Int);0<=(j:Int)/\(j:Int)<=(j:Int)/\(j:Int)<=((140737488355328:Nat):Int)/\(j:Int)*((24:Nat):Int)<=((140737488355328:Nat):Int)/\aK (S:=(dH×(dy×Unit))) (λa b=>let r:=a.2.1;let l:=a.1.2.1;let p:=l.toNat;let i:=List.set r.2.2.2.2 p (List.replicate (Int.toNat (j:Int)) (0:Int));Iq l<|Oc r<|cnd (decide (l<(n.length:Int))) (0<=(j:Int)/\(j:Int)<=(j:Int)/\(j:Int)<=((140737488355328:Nat):Int)/\(j:Int)*((8:Nat):Int)<=((140737488355328:Nat):Int)/\(Ix l r.2.2.2.2.length<|Ix l i.length<|aK (S:=(dH×(dy×Unit))) (λd e=>let o:=d.2.1.2;let m:=d.1.2.1;let h:=List.set o.2.2.2 p (List.set (o.2.2.2.getD p []) m.toNat (-1));Iq m<|Oc d.2.1<|cnd (decide (m<((i.getD p []).length:Int))) (Ix l o.2.2.2.length<|Ix m (o.2.2.2.getD p []).length<|Ix l o.2.1.length<|Ix m o.1.length<|bK (S:=((Unit×Unit)×(dy×Unit))) (λf=>Oc f.2.1<|Ik (m+1)<|e (((),m+1,()),f.2.1,())) (λg=>cnd (o.2.1.getD p 0==o.1.getD m.toNat 0) (Ix l h.length<|ShapeP q/\(Ix l q.2.1.length<|Ix m q.2.1.length<|Ix m (h.getD p []).length<|g (((),()),(d.2.1.1,o.1,o.2.1,o.2.2.1,List.set h p (List.set (h.getD p []) m.toNat (aq q m l))),()))) (g (((),()),(d.2.1.1,o.1,o.2.1,o.2.2.1,h),())))) (Ik (l+1)<|b (((),l+1,()),d.2.1,()))) (((),0,()),(r.1,r.2.1,r.2.2.1,r.2.2.2.1,i),()))) (K r ())) (((),0,()),(c.1,c.2.1,c.2.2.1,c.2.2.2.1,n),())
theorem UT(c:ah)(composite:ah×Unit)(hok:ab (sq.o.strip.oks c))(hok2:ab (okL sq.as (composite,())))(hpre:ab (sq.pre c (composite,()))):Mg c composite (λz r=>z=sq.new c (composite,())/\r=sq.res c (composite,())):=by
 simp only[sq,O.strip,okL,T.oks,T.ok,ap,ab,aL,az,aW]at hok hok2 hpre
 try dsimp only[T.den]at hok
 try dsimp only[T.den]at hok2
 try dsimp only[T.den]at hpre
 delta Mg Ik Iq Ix Oc Ol Om
 dsimp -proj -eta only;obtain⟨d,u⟩:=composite;obtain⟨S,hlo,hlt⟩:=hpre
 try dsimp only at S hlo hlt
 have hmm:=S.m;have hnew:∀z,z=vh c (rI d)->(c.1,c.2.1,c.2.2.1,c.2.2.2.1,z)=(c.1,c.2.1,c.2.2.1,c.2.2.2.1,vh c (rI d)):=λz h=>by rw[h]
 clear hok
 try dsimp only
 have hR:vh c (rI d)=aG c.2.1.length λe=>aG c.2.1.length (yf c (rI d) e):=rfl;refine⟨aa,aa,aa,aa,?_⟩;simp only[cQ,R6,bA];generalize hn:c.2.1.length=n at *;generalize hF:yf c (rI d)=F at *;refine iB (λi=>(c.1,c.2.1,c.2.2.1,c.2.2.2.1,aG n λe=>if e<i then aG n (F e)else [])) (n:=n) aa (congrArg (λz=>(c.1,c.2.1,c.2.2.1,c.2.2.2.1,z)) (ge λe h0 _=>by rw[aj aa])) ?_ ?_
 ·intro i next i0 i1 hnx _ _ _ _ _ _
  try dsimp only
  refine aE (λ_=>⟨aa,aa,aa,aa,i0,by rw[bA];exact i1,i0,by rw[gK,bA];exact i1,?_⟩) (λh=>absurd i1 h);rw[afp i0 i1,Ke i0 i1,bA];refine iB (λj=>(c.1,c.2.1,c.2.2.1,c.2.2.2.1,tbT F n i j)) (n:=n) aa rfl ?_ ?_
  ·intro j next2 j0 j1 hn2 _ _ _ _ _ _
   try dsimp only
   have hr:((tbT F n i j).getD i.toNat []).length=n:=by rw[Ke i0 i1,bA]
   have hA:i.toNat<(tbT F n i j).length:=by rw[Kh];omega
   have hs2:=@ZP (tbT F n i j) i.toNat j.toNat (-1) (F i j) hA;have hs1:=@aec F n i j i0 i1 j0 j1;have hrow:(((tbT F n i j).set i.toNat (((tbT F n i j).getD i.toNat []).set j.toNat (-1))).getD i.toNat []).length=n:=by rw[Q3 _ _ _ _ _ hA,am rfl,gK,hr]
   refine aE (λ_=>⟨i0,by rw[Kh];exact i1,j0,by rw[hr];exact j1,i0,aa,j0,aa,?_⟩) (λh=>absurd j1 h);refine bZ (λs2=>s2.2.1=(c.1,c.2.1,c.2.2.1,c.2.2.2.1,tbT F n i (j+1))) (λs2 hs _ _ _ _ _=>⟨aB,by rw[hs];exact hn2⟩) (λk hk=>aJ (λhe=>?_) (λhe=>hk _ ?_))
   ·rw[bN]at he;have hv:aq d j i=F i j:=by rw[←hF];unfold yf;rw[am he];rfl
    refine⟨i0,by rw[gK,Kh];exact i1,S,i0,aa,j0,aa,j0,by rw[hrow];exact j1,hk _ ?_⟩
    try dsimp only
    rw[hv,hs2,hs1]
   ·have hv:F i j=-1:=by rw[←hF];unfold yf;rw[aj (by intro h;rw[h]at he;simp at he)]
    try dsimp only
    rw[←hv,hs1]
  ·intro next2 _ _ _ _ _ _
   try dsimp only
   refine aE (λh=>absurd h (dK _)) (λ_=>⟨aB,?_⟩);rw[aef];exact hnx
 ·intro next _ _ _ _ _ _
  try dsimp only
  refine aE (λh=>absurd h (dK _)) (λ_=>⟨hnew _ ?_,rfl⟩);rw[hR];exact ge λe _ e1=>by rw[am e1]
theorem UN:aN Tryz.prog 43 Mi:=wtb (au CG (au Wi aR)) aS 43 Tryz.f43 sq UQ [(5,507),(10,14),(11,12)] (λx y h1 h2 h3=>Eq.mp (by kernel_rfl) (UT x y.1 h1 h2 h3))
def km:Ct:=⟨[cy],[false],λx=>[x.1.length<=1099511627776],[(false,bS)],λx=>(x.1,()),false,none⟩
def Iy(list:aA)(K:l6):Prop:=bg 0 list.length 8/\K (list,())
theorem YF(list:aA):Mh km (list,()) (Iy list):=by
 intro hok hpre;simp only[km,okL,T.oks,T.ok,ap,ab,aL,az,aW]at hok hpre
 try dsimp only[T.den]at hok hpre
 unfold Iy;have hl:list.length<=1099511627776:=hpre;exact⟨bQ aa,rfl⟩
theorem oL:aN Tryz.prog 143 km:=ctb aR aS 143 Tryz.f143 km .n [] (λx K=>Iy x.1 K) (λx h1 h2=>YF x.1 h1 h2)
structure OwnP (l:bW):Prop where
 n:l.length<=1099511627776
 e:∀r∈l,r.length<=1099511627776
def sI:Ct:=⟨[yn],[false],λx=>[OwnP x.1],[(false,iU)],λx=>(x.1,()),false,none⟩
def Xg:Ann:=(.s .n (.s .n (.s (.s .n (.l FA [(800003,iU)] [0] .n)) .n)))
abbrev Cp:Type:=iK×Unit->Prop
def Ij(lists:bW)(K:Cp):Prop:=aK (S:=Gv) (λa b=>let d:=a.1.2.1;let c:=lists.getD d.toNat [];Iq d<|Om a.2.1<|cnd (decide (d<(lists.length:Int))) (Ix d lists.length<|c.length<=1099511627776/\bg a.2.1.length [c].length 24/\(Ik (d+1)<|b (((),d+1,()),a.2.1++[c],()))) (K (a.2.1,()))) (((),0,()),[],())
theorem XI(lists:bW)(hok:ab (okL sI.args (lists,())))(hpre:ab (sI.pre (lists,()))):Ij lists (λr=>r=sI.res (lists,())):=by
 simp only[sI,okL,T.oks,T.ok,ap,ab,aL,az,aW]at hok hpre
 try dsimp only[T.den]at hok hpre
 delta Ij Ik Iq Ix Om
 dsimp -proj -eta only;have h1:=hpre.n;have h2:=hpre.e;clear hok;refine iB (λi=>lists.take i.toNat) (n:=lists.length) aa rfl ?_ ?_
 ·intro i next i0 i1 hn _ _
  try dsimp only at hn⊢
  rw[gE lists [] i0 i1]at hn;exact aE (λ_=>⟨i0,i1,h2 _ (bX lists [] i0 i1),bQ (by rw[dW];simp only[aX,bh];omega),aB,hn⟩) (λh=>absurd i1 h)
 ·intro next _ _
  refine aE (λh=>absurd h (dK _)) (λ_=>?_);simp only[sI];rw[lQ _ (dB _)]
theorem Nc:aN Tryz.prog 144 sI:=ctb (au oL aR) aS 144 Tryz.f144 sI Xg [] (λx K=>Ij x.1 K) (λx h1 h2=>XI x.1 h1 h2)
def lU(t:bW):ah:=(1,(List.replicate t.length 0,(List.replicate t.length 0,([0],t))))
structure CgR (b:Int) (c:ah):Prop where
 b1:1<=b
 ob0:0<=c.1
 ob:c.1<=b
 m:(c.2.1.length:Int)<=b
 lt:c.2.2.1.length=c.2.1.length
 li:(c.2.2.2.1.length:Int)=c.1
 lc:c.2.2.2.2.length=c.2.1.length
 fr:∀x∈c.2.1,0<=x/\x<=b
 to:∀x∈c.2.2.1,0<=x/\x<=b
 id:∀x∈c.2.2.2.1,0<=x/\x<=b
 row:∀r∈c.2.2.2.2,r.length=c.2.1.length/\∀x∈r,-b<=x/\x<=b
theorem CgR.le{a:Int}(h:CgR a c)(hab:a<=b):CgR b c:=
 ⟨by have:=h.b1;omega,h.ob0,by have:=h.ob;omega,by have:=h.m;omega,h.lt,h.li,h.lc,λx hx=>by have:=h.fr x hx;omega,λx hx=>by have:=h.to x hx;omega,λx hx=>by have:=h.id x hx;omega,
  λr hr=>⟨(h.row r hr).1,λx hx=>by have:=(h.row r hr).2 x hx;omega⟩⟩
theorem CgR.frG(h:CgR b c)(f0:0<=f)(f1:f<c.2.1.length):0<=c.2.1.getD f.toNat 0/\c.2.1.getD f.toNat 0<=b:=h.fr _ (bX c.2.1 0 f0 f1)
theorem CgR.toG(h:CgR b c)(f0:0<=f)(f1:f<c.2.1.length):0<=c.2.2.1.getD f.toNat 0/\c.2.2.1.getD f.toNat 0<=b:=h.to _ (bX c.2.2.1 0 f0 (by rw[h.lt];exact f1))
theorem CgR.idG(h:CgR b c)(f0:0<=x)(f1:x<c.1):0<=c.2.2.2.1.getD x.toNat 0/\c.2.2.2.1.getD x.toNat 0<=b:=h.id _ (bX c.2.2.2.1 0 f0 (by have:=h.li;omega))
theorem CgR.rowG(h:CgR b c)(f0:0<=f)(f1:f<c.2.1.length):(c.2.2.2.2.getD f.toNat []).length=c.2.1.length:=(h.row _ (bX c.2.2.2.2 [] f0 (by rw[h.lc];exact f1))).1
theorem CgR.cel(h:CgR b c)(f0:0<=f)(f1:f<c.2.1.length)(g0:0<=g)(g1:g<c.2.1.length):-b<=(c.2.2.2.2.getD f.toNat []).getD g.toNat 0/\(c.2.2.2.2.getD f.toNat []).getD g.toNat 0<=b:=(h.row _ (bX c.2.2.2.2 [] f0 (by rw[h.lc];exact f1))).2 _ (bX _ 0 g0 (by rw[h.rowG f0 f1];exact g1))
theorem ac1(h0:1<=t.length)(h8:t.length<=8)(hr:∀r∈t,r.length=t.length)(he:∀r∈t,∀x∈r,0<=x/\x<=8):CgR 8 (lU t):=
 ⟨aa,Int.le.intro 1 rfl,by show (1:Int)<=8;omega,by show ((List.replicate t.length (0:Int)).length:Int)<=8;rw[eA];omega,rfl,rfl,by show t.length=(List.replicate t.length (0:Int)).length;rw[eA],
  λx hx=>by rw[w6 hx];omega,λx hx=>by rw[w6 hx];omega,λx hx=>by rw[cA.1 hx];omega,
  λr hr'=>⟨by show r.length=(List.replicate t.length (0:Int)).length;rw[eA];exact hr r hr',λx hx=>by have:=he r hr' x hx;omega⟩⟩
def qk:Ct:=⟨[yn],[false],λx=>[OwnP x.1],[(true,fM)],λx=>(lU x.1,()),false,none⟩
abbrev ny:Type:=ah×Unit->Prop
def H6(table:bW)(K:ny):Prop:=let a:=table.length;let b:=List.replicate (Int.toNat (a:Int)) (0:Int);0<=(a:Int)/\(a:Int)<=(a:Int)/\(a:Int)<=((140737488355328:Nat):Int)/\(a:Int)*((8:Nat):Int)<=((140737488355328:Nat):Int)/\0<=(a:Int)/\(a:Int)<=(a:Int)/\(a:Int)<=((140737488355328:Nat):Int)/\(a:Int)*((8:Nat):Int)<=((140737488355328:Nat):Int)/\OwnP table/\K ((1,b,b,[0],table),())
theorem W8(table:bW)(hok:ab (okL qk.args (table,())))(hpre:ab (qk.pre (table,()))):H6 table (λr=>r=qk.res (table,())):=by
 simp only[qk,okL,T.oks,T.ok,ap,ab,aL,az,aW]at hok hpre
 try dsimp only[T.den]at hok hpre
 delta H6
 dsimp -proj -eta only;have hl:=hpre.n;refine⟨aa,dB _,aa,aa,aa,dB _,aa,aa,hpre,?_⟩;simp only[qk,lU,cQ]
theorem CR:aN Tryz.prog 128 qk:=ctb (au Nc aR) aS 128 Tryz.f128 qk .n [(2,507)] (λx K=>H6 x.1 K) (λx h1 h2=>W8 x.1 h1 h2)
def opR(c:ah):ah:=(c.1,c.2.2.1,c.2.1,c.2.2.2.1,(aG c.2.1.length λf=>aG c.2.1.length λg=>aq c g f))
theorem rz(f0:0<=f)(f1:f<c.2.1.length)(g0:0<=g)(g1:g<c.2.1.length):aq (opR c) f g=aq c g f:=by show ((aG c.2.1.length λf=>aG c.2.1.length λg=>aq c g f).getD f.toNat []).getD g.toNat 0=_;rw[dN f0 f1,dN g0 g1]
theorem J9(S:ShapeP c):ShapeP (opR c):=by
 have hlt:=S.lt;have hlc:=S.lc;refine⟨S.ob,by show c.2.2.1.length<=40;rw[hlt];exact S.m,hlt.symm,S.to,S.fr,S.li,?_,?_,λx a b=>⟨(S.idt x a b).2,(S.idt x a b).1⟩,?_,?_⟩
 ·show ds c.2.2.2.1 c.2.2.1.length=true;rw[hlt];exact S.ids
 ·show (aG c.2.1.length _).length=c.2.2.1.length;rw[bA,hlt]
 ·intro f f0 f1;have f1':f<c.2.1.length:=by rw[←hlt];exact f1
  show ((aG c.2.1.length λf=>aG c.2.1.length λg=>aq c g f).getD f.toNat []).length=c.2.2.1.length;rw[dN f0 f1',bA,hlt]
 ·intro f g f0 f1 g0 g1;have f1':f<c.2.1.length:=by rw[←hlt];exact f1
  have g1':g<c.2.1.length:=by rw[←hlt];exact g1
  unfold iV k8;rw[rz f0 f1' g0 g1'];show (if c.2.1.getD f.toNat 0=c.2.2.1.getD g.toNat 0 then decide (0<=aq c g f/\aq c g f<c.2.2.1.length/\c.2.2.1.getD (aq c g f).toNat 0=c.2.2.1.getD f.toNat 0/\c.2.1.getD (aq c g f).toNat 0=c.2.1.getD g.toNat 0)else decide (aq c g f=-1))=true;split
  ·rename_i h;have:=S.yes g0 g1' f0 f1' h.symm;rw[db,hlt];exact⟨this.1,this.2.1,this.2.2.2,this.2.2.1⟩
  ·rename_i h;rw[db];exact S.no g0 g1' f0 f1' λe=>h e.symm
structure SqR (c:ah):Prop where
 m:c.2.1.length<=1000000000
 lt:c.2.2.1.length=c.2.1.length
 li:c.2.2.2.1.length<=1000000000
 lc:c.2.2.2.2.length=c.2.1.length
 row:∀f:Int,0<=f->f<c.2.1.length->(c.2.2.2.2.getD f.toNat []).length=c.2.1.length
theorem N_(S:ShapeP c):SqR c:=⟨by have:=S.m;omega,S.lt,by have:=S.li;have:=S.ob;omega,S.lc,S.row⟩
theorem aff(h:CgR b c)(hb:b<=1000000000):SqR c:=⟨by have:=h.m;omega,h.lt,by have:=h.li;have:=h.ob;omega,h.lc,λ_ f0 f1=>h.rowG f0 f1⟩
theorem aed(h:CgR b c):CgR b (opR c):=
 ⟨h.b1,h.ob0,h.ob,by have:=h.m;have:=h.lt;show (c.2.2.1.length:Int)<=b;omega,h.lt.symm,h.li,by show (aG c.2.1.length _).length=c.2.2.1.length;rw[bA,h.lt],h.to,h.fr,h.id,
  λr hr=>by change r∈aG c.2.1.length _ at hr;obtain⟨f,f0,f1,rfl⟩:=fN.1 hr;refine⟨by show _=c.2.2.1.length;rw[bA,h.lt],λx hx=>?_⟩;obtain⟨g,g0,g1,rfl⟩:=fN.1 hx;exact h.cel g0 g1 f0 f1⟩
def q9:Ct:=⟨[bO],[true],λx=>[SqR x.1],[(true,fM)],λx=>(opR x.1,()),false,none⟩
def Yy:Ann:=(.s .n (.s .n (.s (.s .n (.l [(2,(.ad 2 [.de])),(3,(.ad 3 [.de])),(4,(.d aC))] [(2,cG),(3,cG)] [1] (.s .n (.s (.s .n (.s (.s .n (.l [(2,(.ad 2 [.de])),(3,(.ad 3 [.de])),(5,(.ref 800005 [])),(6,(.d aC))] [(2,cG),(3,cG),(800005,bS)] [1,4] .n)) .n)) .n)))) .n)))
def IF(c:ah)(K:ny):Prop:=let j:=c.2.1.length;c.2.2.1.length<=1099511627776/\j<=1099511627776/\c.2.2.2.1.length<=1099511627776/\aK (S:=(dD×gh)) (λa b=>let h:=a.1.2.2.1;Iq h<|Oc a.2.1<|Oc a.2.2.1<|cnd (decide (h<(j:Int))) (aK (S:=eG) (λd e=>let i:=d.2.2;let g:=d.1.2.2.2.1;let f:=c.2.2.2.2.getD g.toNat [];Iq g<|Oc d.2.1<|Oc i.1<|Ol i.2.1<|cnd (decide (g<(j:Int))) (Ix g c.2.2.2.2.length<|Ix h f.length<|bg i.2.1.length [f.getD h.toNat 0].length 8/\(Ik (g+1)<|e (((),(),(),g+1,()),d.2.1,i.1,i.2.1++[f.getD h.toNat 0],()))) (bg i.1.2.2.2.2.length [i.2.1].length 24/\(Ik (h+1)<|b (((),(),h+1,()),d.2.1,(i.1.1,i.1.2.1,i.1.2.2.1,i.1.2.2.2.1,i.1.2.2.2.2++[i.2.1]),())))) (((),(),(),0,()),a.2.1,a.2.2.1,[],())) (K (a.2.2.1,()))) (((),(),0,()),(0,[],[],[],[]),(c.1,c.2.2.1,c.2.1,c.2.2.2.1,[]),())
abbrev eH:Type:=(dD×gh)
theorem YM(c:ah)(hok:ab (okL q9.args (c,())))(hpre:ab (q9.pre (c,()))):IF c (λr=>r=q9.res (c,())):=by
 simp only[q9,okL,T.oks,T.ok,ap,ab,aL,az,aW]at hok hpre
 try dsimp only[T.den]at hok hpre
 delta IF Ik Iq Ix Oc Ol Om
 dsimp -proj -eta only;have S:SqR c:=hpre;have hlt:=S.lt;have hlc:=S.lc;have hmm:=S.m;have hids:=S.li;clear hok;generalize hn:c.2.1.length=n at *;refine⟨aa,aa,aa,?_⟩;refine bt (λ(s:eH)=>0<=s.1.2.2.1/\s.1.2.2.1<=n/\s.2.2.1=(c.1,c.2.2.1,c.2.1,c.2.2.2.1,aG s.1.2.2.1.toNat λf=>aG n λg=>aq c g f)) (λ(s:eH)=>(n-s.1.2.2.1).toNat) ?_ ⟨ak,ak,rfl⟩;rintro⟨⟨_,_,f,_⟩,o1,out,_⟩ next ⟨f0,f1,hq⟩ hnx _ _ _ _ _ _ _ _ _ _ _
 try dsimp only at f0 f1 hq hnx⊢
 refine aE (λhf=>?_) (λhf=>?_)
 ·refine bt (λ(s1:eG)=>0<=s1.1.2.2.2.1/\s1.1.2.2.2.1<=n/\s1.2.2.1=out/\s1.2.2.2.1=aG s1.1.2.2.2.1.toNat λg=>aq c g f) (λ(s1:eG)=>(n-s1.1.2.2.2.1).toNat) ?_ ⟨ak,ak,rfl,rfl⟩;rintro⟨⟨_,_,_,g,_⟩,p1,out2,row,_⟩ next1 ⟨g0,g1,h1,h2⟩ hn1 _ _ _ _ _ _ _ _ _ _ _ _
  try dsimp only at g0 g1 h1 h2 hn1⊢
  subst h1;subst h2;refine aE (λhg=>?_) (λhg=>?_)
  ·have hr:=S.row g g0 aa;refine⟨g0,aa,f0,aa,bQ (by rw[bA];simp only[aX,bh];omega),aB,hn1 _ ⟨cw,cw,rfl,?_⟩ cw⟩
   try dsimp only;rw[eY g0];rfl
  ·have e:g=n:=aa
   subst hq;refine⟨bQ (by rw[bA];simp only[aX,bh];omega),aB,hnx _ ⟨cw,cw,?_⟩ cw⟩
   try dsimp only;rw[eY f0,e,cQ]
 ·have e:f=n:=aa
  simp only[q9,opR,hn];rw[hq,e,cQ]
theorem D7:aN Tryz.prog 127 q9:=ctb (au oL aR) aS 127 Tryz.f127 q9 Yy [(1,514)] (λx K=>IF x.1 K) (λx h1 h2=>YM x.1 h1 h2)
def wQ:Ct:=⟨[ir],[false],λx=>[ShapeP x.1],[(true,fM)],λx=>(opR x.1,()),false,none⟩
def agq:FuncId->Option Ct:=lkp [(75,sS),(43,Mi)]
def HH(c:ah)(K:ny):Prop:=let a:=c.2.1.length;c.2.2.1.length<=1099511627776/\a<=1099511627776/\c.2.2.2.1.length<=1099511627776/\ShapeP c/\c.2.2.1.length=a/\a=a/\K ((c.1,c.2.2.1,c.2.1,c.2.2.2.1,vh (c.1,c.2.2.1,c.2.1,c.2.2.2.1,[]) (rI c)),())
theorem Xf(c:ah):Mh wQ (c,()) (HH c):=by
 intro hok hpre;simp only[wQ,okL,T.oks,T.ok,ap,ab,aL,az,aW]at hok hpre
 try dsimp only[T.den]at hok hpre
 delta HH
 dsimp -proj -eta only;have S:ShapeP c:=hpre;have hm:=S.m;have hlt:=S.lt;have hli:=S.li;have hob:=S.ob;clear hok;refine⟨aa,aa,aa,S,hlt,rfl,?_⟩
 have ht:vh (c.1,(c.2.2.1,(c.2.1,(c.2.2.2.1,([]:List (List Int)))))) (rI c)=aG c.2.1.length λf=>aG c.2.1.length λg=>aq c g f:=by
  unfold vh yf rI
  try dsimp only
  rw[hlt];refine ge λf f0 f1=>ge λg g0 g1=>?_;split
  ·rfl
  ·rename_i h;exact (S.no g0 g1 f0 f1 λe=>h e.symm).symm
 rw[ht];rfl
theorem MT:aN Tryz.prog 38 wQ:=ctb (au I6 (au UN aR)) aS 38 Tryz.f38 wQ .n [(1,521)] (λx K=>HH x.1 K) (λx h1 h2=>Xf x.1 h1 h2)
theorem gZ{c:ah}(h:cq c=true):ShapeP c:=by simp only[cq,ao]at h;exact uJ.1 h.1
theorem uK{α:Type}{p:Int->Option α}:∀{n:Nat} {i:Int},ck p n i=none->∀j:Int,i<=j->j<i+n->p j=none
 |0,i,_,j,h0,h1=>aa
 |n+1,i,h,j,h0,h1=>by
  unfold ck at h
  cases hp:p i with
  |some v=>rw[hp]at h;cases h
  |none=>
   rw[hp]at h;by_cases e:j=i
   ·rw[e,hp]
   ·exact uK (n:=n) (i:=i+1) h j aa aa
theorem xf{α:Type}{p:Int->Option α}{v:α}:∀{n:Nat} {i:Int},ck p n i=some v->∃j:Int,p j=some v
 |0,i,h=>by cases h
 |n+1,i,h=>by
  unfold ck at h
  cases hp:p i with
  |some w=>rw[hp]at h;exact⟨i,hp.trans h⟩
  |none=>rw[hp]at h;exact xf (n:=n) (i:=i+1) h
theorem O4(hc:cq c=true){h:Int}(f0:0<=f)(f1:f<c.2.1.length)(g0:0<=g)(g1:g<c.2.1.length)(h0:0<=h)(h1:h<c.2.1.length)(hfg:c.2.2.1.getD f.toNat 0=c.2.1.getD g.toNat 0)(hgh:c.2.2.1.getD g.toNat 0=c.2.1.getD h.toNat 0):aq c (aq c f g) h=aq c f (aq c g h):=by
 simp only[cq,ao,bN]at hc;have h2:=hc.2;unfold gO at h2
 cases h3:ck (iq c) c.2.1.length 0 with
 |some v=>
  obtain⟨j,hj⟩:=xf h3;unfold iq at hj;split at hj
  ·cases hj;rw[h3]at h2;simp[orR]at h2
  ·cases hj
 |none=>
  rw[h3]at h2
  cases h4:ck (jD c) c.2.1.length 0 with
  |some v=>
   obtain⟨j,hj⟩:=xf h4;unfold jD at hj;obtain⟨k,hk⟩:=xf hj;unfold jC at hk;split at hk
   ·obtain⟨l,hl⟩:=xf hk;unfold kW at hl;split at hl
    ·cases hl;rw[h4]at h2;simp[orR]at h2
    ·cases hl
   ·cases hk
  |none=>
   have a1:=uK h4 f f0 aa;unfold jD at a1;have a2:=uK a1 g g0 aa;unfold jC at a2;rw[am hfg]at a2;have a3:=uK a2 h h0 aa;unfold kW at a3;split at a3
   ·cases a3
   ·rename_i hn;exact sf λhne=>hn ⟨hgh,hne⟩
def b2i(b:bo):Int:=if b=true then 1 else 0
def vE(a b:pL):List Int:=[b2i a.1,b2i b.1,b2i a.2.1,b2i b.2.1,b2i a.2.2.1,b2i b.2.2.1,b2i a.2.2.2,b2i b.2.2.2]
def flX(a b:pL)(i:Int):Bool×Cg:=[a,b].getD i.toNat (false,(false,(false,false)))
def flR(a b:pL)(i k:Int):Bool:=[(flX a b i).1,(flX a b i).2.1,(flX a b i).2.2.1,(flX a b i).2.2.2].getD k.toNat false
def flO(a b:pL)(i k j:Int):Int:=if j%2<i\/j%2=i/\j / 2<k then b2i (flR a b (j%2) (j / 2))else 0
theorem fl_n{b:pL}:aG 8 (flO a b 2 0)=vE a b:=rfl
theorem fl_s{b:pL}:aG 8 (flO a b i 4)=aG 8 (flO a b (i+1) 0):=ge λj j0 j1=>by
 unfold flO;by_cases h:j%2<i\/j%2=i/\j / 2<4
 ·rw[am h,am aa]
 ·rw[aj h,aj aa]
theorem fl_t{b:pL}(i0:0<=i)(i1:i<2)(k0:0<=k)(k1:k<4)(h:flR a b i k=true):(aG 8 (flO a b i k)).set (2*k+i).toNat 1=aG 8 (flO a b i (k+1)):=by
 rw[uV aa aa];refine ge λj j0 j1=>?_;unfold flO;by_cases e:j=2*k+i
 ·have e1:j%2=i:=aa
  have e2:j / 2=k:=aa
  rw[am e,am aa,e1,e2,h];rfl
 ·rw[aj e];by_cases h2:j%2<i\/j%2=i/\j / 2<k
  ·rw[am h2,am aa]
  ·rw[aj h2,aj aa]
theorem fl_f{b:pL}(h:flR a b i k=false):aG 8 (flO a b i k)=aG 8 (flO a b i (k+1)):=ge λj j0 j1=>by
 unfold flO;by_cases e:j%2=i/\j / 2=k
 ·rw[aj aa,am aa,e.1,e.2,h];rfl
 ·by_cases h2:j%2<i\/j%2=i/\j / 2<k
  ·rw[am h2,am aa]
  ·rw[aj h2,aj aa]
def pF(c:ah):List Int:=if cq c=true then vE (ep c) (ep (opR c))else []
def uc(c:ah):Int:=if cq c=true then 0 else 1
def s9:Ct:=⟨[bO],[true],λx=>[],[(false,bS),(false,dP)],λx=>(pF x.1,uc x.1,()),false,none⟩
def We:Ann:=(.s .n (.s .n (.s .n (.s .n (.s (.s .n (.l [(5,(.ref 13 [])),(17,(.d aC))] [(13,bS)] [16] (.s .n (.s .n (.s (.s .n (.s .n (.l [(5,(.ref 13 [])),(22,(.d aC))] [(13,bS)] [6,16,17,21] (.s .n (.s .n (.s (.s .n (.s .n (.j [(5,(.ref 13 []))] [(13,bS)] [6,16,17,21,22] .n))) .n)))))) .n))))) .n)))))
def agd:FuncId->Option Ct:=lkp [(37,pW),(39,sn),(38,wQ)]
def H3(c:ah)(K:(List Int)×Int×Unit->Prop):Prop:=cnd (!cq c) (K ([],1,())) (ShapeP c/\(0:Int)<=8/\(8:Int)<=8/\8<=((140737488355328:Nat):Int)/\8*((8:Nat):Int)<=((140737488355328:Nat):Int)/\ShapeP c/\ShapeP (opR c)/\aK (S:=(dH×dV)) (λa b=>let j:=a.1.2.1;let h:=(ep c::ep (opR c)::([]:List (Bool×Cg))).getD j.toNat (false,false,false,false);Iq j<|Ol a.2.1<|cnd (decide (j<2)) (0<=j/\j<((2:Nat):Int)/\aK (S:=(dH×dV)) (λd e=>let i:=d.1.2.1;Iq i<|Ol d.2.1<|cnd (decide (i<4)) (0<=i/\i<((4:Nat):Int)/\bK (S:=ly) (λf=>Ol f.2.1<|Ik (i+1)<|e (((),i+1,()),f.2.1,())) (λg=>cnd ((h.1::h.2.1::h.2.2.1::h.2.2.2::([]:List Bool)).getD i.toNat false) (Ik (2*i)<|Ik (2*i+j)<|Ix (2*i+j) d.2.1.length<|g (((),()),List.set d.2.1 (Int.toNat (2*i+j)) 1,())) (g (((),()),d.2.1,())))) (Ik (j+1)<|b (((),j+1,()),d.2.1,()))) (((),0,()),a.2.1,())) (K (a.2.1,0,()))) (((),0,()),List.replicate (Int.toNat 8) (0:Int),()))
theorem Wq(c:ah)(hok:ab (okL s9.args (c,())))(hpre:ab (s9.pre (c,()))):H3 c (λr=>r=s9.res (c,())):=by
 simp only[s9,okL,T.oks,T.ok,ap,ab,aL,az,aW]at hok hpre
 try dsimp only[T.den]at hok hpre
 delta H3 Ik Iq Ix Ol
 dsimp -proj -eta only;have hres:(s9).res (c,())=(pF c,uc c,()):=rfl;rw[hres];clear hok hpre;refine aJ (λh=>?_) (λh=>?_)
 ·have h:¬cq c=true:=by simpa using h
  unfold pF uc;rw[aj h,aj h]
 have hc:cq c=true:=by simpa using h
 have S:=gZ hc;have e1:pF c=vE (ep c) (ep (opR c)):=am hc;have e2:uc c=0:=am hc;rw[e1,e2];refine⟨S,aa,aa,aa,aa,S,J9 S,?_⟩;generalize ep c=a;generalize ep (opR c)=b;refine bt (λ(s:l8)=>0<=s.1.2.1/\s.1.2.1<=2/\s.2.1=aG 8 (flO a b s.1.2.1 0)) (λ(s:l8)=>(2-s.1.2.1).toNat) ?_ ⟨ak,ak,rfl⟩;rintro⟨⟨_,i,_⟩,o,_⟩ next ⟨i0,i1,ho⟩ hnx
 intros
 try dsimp only at i0 i1 ho hnx⊢
 subst ho;refine aE (λhi=>⟨i0,hi,?_⟩) (λhi=>?_)
 ·refine bt (λ(s:l8)=>0<=s.1.2.1/\s.1.2.1<=4/\s.2.1=aG 8 (flO a b i s.1.2.1)) (λ(s:l8)=>(4-s.1.2.1).toNat) ?_ ⟨ak,ak,rfl⟩;rintro⟨⟨_,k,_⟩,o,_⟩ next1 ⟨k0,k1,ho⟩ hn1;intros
  try dsimp only at k0 k1 ho hn1⊢
  subst ho;refine aE (λhk=>⟨k0,hk,bZ (λ(q:ly)=>q.2.1=aG 8 (flO a b i (k+1))) ?_ ?_⟩) (λhk=>?_)
  ·rintro⟨_,o2,_⟩ h2;intros
   try dsimp only at h2⊢
   exact⟨aB,hn1 _ ⟨an,an,h2⟩ an⟩
  ·intro kk hkk;refine aJ (λh=>⟨aB,aB,aa,by rw[bA];omega,hkk _ ?_⟩) (λh=>hkk _ ?_)
   ·exact fl_t i0 aa k0 aa h
   ·exact fl_f h
  ·have ek:k=4:=aa
   subst ek;exact⟨aB,hnx _ ⟨an,an,fl_s⟩ an⟩
 ·have ei:i=2:=aa
  subst ei;rw[fl_n]
theorem VG:aN Tryz.prog 11 s9:=ctb (au GC (au UB (au MT aR))) aS 11 Tryz.f11 s9 We [] (λx K=>H3 x.1 K) (λx h1 h2=>Wq x.1 h1 h2)
def xY(f:aV):Bool:=decide ((f.2.2.1.length:Int)=f.1.1)&&decide (f.2.2.2.length=f.1.2.1.length)&&ds f.2.2.1 f.2.1.1&&ds f.2.2.2 f.2.1.2.1.length &&
 cu f.1.2.1.length (λa=>decide (f.2.1.2.1.getD (f.2.2.2.getD a.toNat 0).toNat 0=f.2.2.1.getD (f.1.2.1.getD a.toNat 0).toNat 0)&&decide (f.2.1.2.2.1.getD (f.2.2.2.getD a.toNat 0).toNat 0=f.2.2.1.getD (f.1.2.2.1.getD a.toNat 0).toNat 0)) &&
 cu f.1.1.toNat (λx=>decide (f.2.2.2.getD (f.1.2.2.2.1.getD x.toNat 0).toNat 0=f.2.1.2.2.2.1.getD (f.2.2.1.getD x.toNat 0).toNat 0)) &&
 cu f.1.2.1.length (λa=>cu f.1.2.1.length λb=>decide (f.1.2.2.1.getD a.toNat 0=f.1.2.1.getD b.toNat 0->f.2.2.2.getD (aq f.1 a b).toNat 0=aq f.2.1 (f.2.2.2.getD a.toNat 0) (f.2.2.2.getD b.toNat 0)))
structure FitP (f:aV):Prop where
 lo:(f.2.2.1.length:Int)=f.1.1
 la:f.2.2.2.length=f.1.2.1.length
 ow:ds f.2.2.1 f.2.1.1=true
 aw:ds f.2.2.2 f.2.1.2.1.length=true
 ends:∀a:Int,0<=a->a<f.1.2.1.length->f.2.1.2.1.getD (f.2.2.2.getD a.toNat 0).toNat 0=f.2.2.1.getD (f.1.2.1.getD a.toNat 0).toNat 0/\f.2.1.2.2.1.getD (f.2.2.2.getD a.toNat 0).toNat 0=f.2.2.1.getD (f.1.2.2.1.getD a.toNat 0).toNat 0
 ids:∀x:Int,0<=x->x<f.1.1->f.2.2.2.getD (f.1.2.2.2.1.getD x.toNat 0).toNat 0=f.2.1.2.2.2.1.getD (f.2.2.1.getD x.toNat 0).toNat 0
 comp:∀a:Int,0<=a->a<f.1.2.1.length->∀b:Int,0<=b->b<f.1.2.1.length->f.1.2.2.1.getD a.toNat 0=f.1.2.1.getD b.toNat 0->f.2.2.2.getD (aq f.1 a b).toNat 0=aq f.2.1 (f.2.2.2.getD a.toNat 0) (f.2.2.2.getD b.toNat 0)
theorem AI{f:aV}(S:ShapeP f.1):xY f=true<->FitP f:=by
 have e:((f.1.1.toNat:Nat):Int)=f.1.1:=by have:=S.ob;omega
 simp only[xY,ao,db,gX,e];constructor
 ·rintro⟨⟨⟨⟨⟨⟨h1,h2⟩,h3⟩,h4⟩,h5⟩,h6⟩,h7⟩;exact⟨h1,h2,h3,h4,h5,h6,h7⟩
 ·intro h;exact⟨⟨⟨⟨⟨⟨h.lo,h.la⟩,h.ow⟩,h.aw⟩,h.ends⟩,h.ids⟩,h.comp⟩
def oG:Ct:=⟨[rj],[false],λx=>[ShapeP x.1.1,ShapeP x.1.2.1],[(false,cU)],λx=>(xY x.1,()),false,none⟩
def V6:Ann:=(.s .n (.s .n (.s .n (.s (.s .n (.l [(66,(.d aC))] [] [0,3,4,64,65] .n)) (.s (.s .n (.l [(121,(.d aC))] [] [0,3,4,119,120] .n)) (.s (.s .n (.l [(153,(.d aC))] [] [0,4,151,152] (.s .n (.s .n (.s (.s .n (.s .n (.l [(160,(.d aC))] [] [0,4,9,151,152,153,158,159] .n))) .n))))) .n))))))
def agb:FuncId->Option Ct:=lkp [(85,su),(46,m8),(96,sM)]
def Hj(f:aV)(K:d9):Prop:=let a5:=f.1.2.2.2;let a1:=ds f.2.2.1 f.2.1.1;let x:=f.2.1.2.1.length;let u:=f.1.2.1.length;let q:=f.2.2.1.length;let m:=f.2.2.2.length;(((q:Int) != f.1.1||(m:Int) != (u:Int))=false->inK .i64 (f.2.1.1-1))/\(((q:Int) != f.1.1||(m:Int) != (u:Int)||!a1)=false->inK .i64 ((x:Int)-1))/\cnd ((q:Int) != f.1.1||(m:Int) != (u:Int)||!a1||!ds f.2.2.2 (x:Int)) (K (false,())) (aK (S:=cH) (λa b=>let v:=a.1.1;let a2:=f.1.2.1.getD v.toNat 0;let r:=f.1.2.2.1.getD v.toNat 0;let l:=f.2.2.1.getD a2.toNat 0;let k:=f.2.2.2.getD v.toNat 0;let o:=f.2.1.2.1.getD k.toNat 0;Iq v<|cnd (decide (v<(m:Int))) (Ix v m<|Ix k x<|Ix v u<|Ix a2 q<|((o != l)=false->k<(f.2.1.2.2.1.length:Int)/\0<=k)/\((o != l)=false->v<(f.1.2.2.1.length:Int)/\0<=v)/\((o != l)=false->r<(q:Int)/\0<=r)/\cnd (o != l||f.2.1.2.2.1.getD k.toNat 0 != f.2.2.1.getD r.toNat 0) (K (false,())) (Ik (v+1)<|b ((v+1,()),()))) (aK (S:=cH) (λc d=>let a4:=c.1.1;let z:=f.2.2.1.getD a4.toNat 0;let w:=a5.1.getD a4.toNat 0;Iq a4<|cnd (decide (a4<(a5.1.length:Int))) (Ix a4 a5.1.length<|Ix w m<|Ix a4 q<|Ix z f.2.1.2.2.2.1.length<|cnd (f.2.2.2.getD w.toNat 0 != f.2.1.2.2.2.1.getD z.toNat 0) (K (false,())) (Ik (a4+1)<|d ((a4+1,()),()))) (aK (S:=cH) (λe g=>let a0:=e.1.1;let p:=a5.2.getD a0.toNat [];let n:=f.2.2.2.getD a0.toNat 0;Iq a0<|cnd (decide (a0<(a5.2.length:Int))) (Ix a0 a5.2.length<|aK (S:=cH) (λh i=>let y:=h.1.1;let a3:=f.2.2.2.getD y.toNat 0;let j:=p.getD y.toNat 0;let t:=decide (0<=j);Iq y<|cnd (decide (y<(p.length:Int))) (Ix y p.length<|(t=true->j<(m:Int)/\0<=j)/\(t=true->a0<(m:Int)/\0<=a0)/\(t=true->y<(m:Int)/\0<=y)/\(t=true->n<(f.2.1.2.2.2.2.length:Int)/\(Ix a3 (f.2.1.2.2.2.2.getD n.toNat []).length<|0<=n))/\cnd (t&&f.2.2.2.getD j.toNat 0 != aq f.2.1 n a3) (K (false,())) (Ik (y+1)<|i ((y+1,()),()))) (Ik (a0+1)<|g ((a0+1,()),()))) ((0,()),())) (K (true,()))) ((0,()),()))) ((0,()),()))) ((0,()),()))
theorem VN(f:aV)(hok:ab (okL oG.args (f,())))(hpre:ab (oG.pre (f,()))):Hj f (λr=>r=oG.res (f,())):=by
 simp only[oG,okL,T.oks,T.ok,ap,ab,aL,az,aW]at hok hpre
 try dsimp only[T.den]at hok hpre
 delta Hj Ik Iq Ix
 dsimp -proj -eta only;have S:ShapeP f.1:=hpre.1;have S2:ShapeP f.2.1:=hpre.2;have hob:=S.ob;have hlt:=S.lt;have hli:=S.li;have hlc:=S.lc;have hmm:=S.m;have tob:=S2.ob;have tlt:=S2.lt;have tli:=S2.li;have tlc:=S2.lc
 have bad:¬FitP f->(false,())=oG.res (f,()):=λh=>by
  simp only[oG]
  cases hs:xY f with
  |false=>rfl
  |true=>exact absurd ((AI S).1 hs) h
 have at1:∀i j:Int,(f.1.2.2.2.2.getD i.toNat []).getD j.toNat 0=aq f.1 i j:=λ_ _=>rfl;have at2:∀i j:Int,(f.2.1.2.2.2.2.getD i.toNat []).getD j.toNat 0=aq f.2.1 i j:=λ_ _=>rfl;refine⟨λ_=>aB,λ_=>by rw[cF];have:=S2.m;omega,aJ (λhc=>bad λh=>?_) (λhc=>?_)⟩
 ·have h1:=h.lo;have h2:=h.la;have h3:=h.ow;have h4:=h.aw;grind[cnd,ce,cF]
 simp only[lE,oB,fY]at hc;obtain⟨⟨⟨hlo,hla⟩,how⟩,haw⟩:=hc;refine eV (n:=f.2.2.2.length) (λa=>∀a':Int,0<=a'->a'<a->f.2.1.2.1.getD (f.2.2.2.getD a'.toNat 0).toNat 0=f.2.2.1.getD (f.1.2.1.getD a'.toNat 0).toNat 0/\f.2.1.2.2.1.getD (f.2.2.2.getD a'.toNat 0).toNat 0=f.2.2.1.getD (f.1.2.2.1.getD a'.toNat 0).toNat 0) aa (by intro y h0 h1;omega) ?_ ?_
 ·intro a next a0 a1 hP hn hin
  try dsimp only
  have sa:=S.frm a0 aa;have fa:=fw.1 haw a a0 a1;refine aE (λ_=>⟨a0,a1,fa.1,aa,a0,aa,sa.1,aa,λ_=>aa,λ_=>aa,λ_=>aa,aJ (λhx=>bad λh=>?_) (λhx=>⟨aB,hn λa' b0 b1=>?_⟩)⟩) (λh=>absurd a1 h)
  ·have:=h.ends a a0 aa;rw[this.1,this.2]at hx;simp at hx
  ·by_cases e:a'=a
   ·rw[e];simpa only [lE,fY]using hx
   ·exact hP a' b0 aa
 intro next hE hin
 refine aE (λh=>absurd h an) (λ_=>?_);clear next
 refine eV (n:=f.1.2.2.2.1.length) (λx=>∀x':Int,0<=x'->x'<x->f.2.2.2.getD (f.1.2.2.2.1.getD x'.toNat 0).toNat 0=f.2.1.2.2.2.1.getD (f.2.2.1.getD x'.toNat 0).toNat 0) aa (by intro y h0 h1;omega) ?_ ?_
 ·intro x next x0 x1 hP hn hin
  try dsimp only
  have ix:=S.idn x0 aa;have ox:=fw.1 how x x0 aa;refine aE (λ_=>⟨x0,x1,ix.1,aa,x0,aa,ox.1,aa,aJ (λhx=>bad λh=>?_) (λhx=>⟨aB,hn λx' b0 b1=>?_⟩)⟩) (λh=>absurd x1 h)
  ·rw[h.ids x x0 aa]at hx;simp at hx
  ·by_cases e:x'=x
   ·rw[e];simpa only [fY]using hx
   ·exact hP x' b0 aa
 intro next hI hin
 refine aE (λh=>absurd h an) (λ_=>?_);clear next
 refine eV (n:=f.1.2.2.2.2.length) (λa=>∀a':Int,0<=a'->a'<a->∀b:Int,0<=b->b<f.1.2.1.length->f.1.2.2.1.getD a'.toNat 0=f.1.2.1.getD b.toNat 0->f.2.2.2.getD (aq f.1 a' b).toNat 0=aq f.2.1 (f.2.2.2.getD a'.toNat 0) (f.2.2.2.getD b.toNat 0)) aa (by intro y h0 h1;omega) ?_ ?_
 ·intro a next a0 a1 hP hn hin
  try dsimp only
  have ra:=S.row a a0 aa;have fa:=fw.1 haw a a0 aa;have rfa:=S2.row _ fa.1 fa.2;refine aE (λ_=>⟨a0,a1,?_⟩) (λh=>absurd a1 h);refine eV (n:=(f.1.2.2.2.2.getD a.toNat []).length) (λb=>∀b':Int,0<=b'->b'<b->f.1.2.2.1.getD a.toNat 0=f.1.2.1.getD b'.toNat 0->f.2.2.2.getD (aq f.1 a b').toNat 0=aq f.2.1 (f.2.2.2.getD a.toNat 0) (f.2.2.2.getD b'.toNat 0)) aa (by intro y h0 h1;omega) ?_ ?_
  ·intro b next2 b0 b1 hP2 hn2 hin2
   try dsimp only
   simp only[at1,at2];have fb:=fw.1 haw b b0 aa;have cab:=S.comp a0 aa b0 aa;have yab:=@ShapeP.yes f.1 S a b a0 aa b0 aa;refine aE (λ_=>⟨b0,b1,λhq=>?_,λ_=>aa,λ_=>aa,λ_=>aa,aJ (λhx=>bad λh=>?_) (λhx=>⟨aB,hn2 λb' c0 c1=>?_⟩)⟩) (λh=>absurd b1 h)
   ·have:=yab (cab.1 (ze hq));omega
   ·simp only[ao,db,lH]at hx;exact hx.2 (h.comp a a0 aa b b0 aa (cab.1 hx.1))
   ·by_cases e:b'=b
    ·rw[e];intro eab;have hq:=cab.2 eab;simpa[hq]using hx
    ·exact hP2 b' c0 aa
  ·intro next2 hP2 hin2;refine aE (λh=>absurd h an) (λ_=>⟨aB,hn λa' b0 b1=>?_⟩);by_cases e:a'=a
   ·rw[e];exactλb b0 b1=>hP2 b b0 aa
   ·exact hP a' b0 aa
 ·intro next hP hin
  refine aE (λh=>absurd h an) (λ_=>?_);have key:FitP f:=⟨aa,aa,how,haw,λa a0 a1=>hE a a0 aa,λx x0 x1=>hI x x0 aa,λa a0 a1 b b0 b1=>hP a a0 aa b b0 b1⟩;simp only[oG];rw[(AI S).2 key]
theorem V5:aN Tryz.prog 69 oG:=ctb (au CG (au oD (au N3 aR))) aS 69 Tryz.f69 oG V6 [(1,8),(2,42),(22,28),(7,44),(13,21)] (λx K=>Hj x.1 K) (λx h1 h2=>VN x.1 h1 h2)
def qg:Ct:=⟨[(.sl ir)],[false],λx=>[],[(false,cU)],λx=>(x.1.all cq,()),false,none⟩
def V3:Ann:=(.s .n (.s (.s .n (.l pa [] [5,6] .n)) .n))
def Ha(list:List ah)(K:d9):Prop:=aK (S:=cH) (λa b=>Iq a.1.1<|cnd (decide (a.1.1<(list.length:Int))) (Ix a.1.1 list.length<|cnd (!cq (list.getD a.1.1.toNat (0,[],[],[],[]))) (K (false,())) (Ik (a.1.1+1)<|b ((a.1.1+1,()),()))) (K (true,()))) ((0,()),())
theorem V4(list:List ah)(hok:ab (okL qg.args (list,())))(hpre:ab (qg.pre (list,()))):Ha list (λr=>r=qg.res (list,())):=by
 simp only[qg,okL,T.oks,T.ok,ap,ab,aL,az,aW]at hok hpre
 try dsimp only[T.den]at hok hpre
 delta Ha Ik Iq Ix
 have hl:list.length<=140737488355328:=by simp only[ce]at hok;omega
 refine eV (n:=list.length) (λi=>list.all cq=(list.drop i.toNat).all cq) aa ak ?_ ?_
 ·intro i next h0 h1 hP hn hin
  try dsimp only
  rw[tE list (0,([],([],([],[])))) h0 h1,zm]at hP;refine aE (λ_=>⟨h0,h1,aJ (λhx=>?_) (λhx=>⟨aB,hn ?_⟩)⟩) (λh=>absurd h1 h)
  ·simp only[gU]at hx;simp only[qg];rw[hP,hx];rfl
  ·simp only[oB]at hx;rw[hP,hx,gB]
 ·intro next hP hin
  refine aE (λh=>absurd h an) (λ_=>?_);simp only[qg];rw[hP,ve list aa];rfl
theorem V2:aN Tryz.prog 68 qg:=ctb (au GC aR) aS 68 Tryz.f68 qg V3 [] (λx K=>Ha x.1 K) (λx h1 h2=>V4 x.1 h1 h2)
def c9(f:aV):Bool:=cq f.1&&cq f.2.1&&xY f
structure FunP (f:aV):Prop where
 src:ShapeP f.1
 tgt:ShapeP f.2.1
 fit:FitP f
theorem adj{f:aV}(h:c9 f=true):FunP f:=by simp only[c9,ao]at h;exact⟨gZ h.1.1,gZ h.1.2,(AI (gZ h.1.1)).1 h.2⟩
def sk:Ct:=⟨[rj],[false],λx=>[],[(false,cU)],λx=>(c9 x.1,()),false,none⟩
def af0:FuncId->Option Ct:=lkp [(69,oG),(68,qg)]
def GT(f:aV)(K:d9):Prop:=let a:=List.all (f.1::f.2.1::([]:List dy)) cq;(a=true->ShapeP f.2.1/\ShapeP f.1)/\K (a&&xY f,())
theorem Va(f:aV)(hok:ab (okL sk.args (f,())))(hpre:ab (sk.pre (f,()))):GT f (λr=>r=sk.res (f,())):=by
 simp only[sk,okL,T.oks,T.ok,ap,ab,aL,az,aW]at hok hpre
 try dsimp only[T.den]at hok hpre
 delta GT
 dsimp -proj -eta only;simp only[sk,c9,zm,List.all_nil,bC];have h1:=@gZ f.1;have h2:=@gZ f.2.1
 grind[cnd,ce,cF]
theorem UP:aN Tryz.prog 33 sk:=ctb (au V5 (au V2 aR)) aS 33 Tryz.f33 sk .n [(1,13)] (λx K=>GT x.1 K) (λx h1 h2=>Va x.1 h1 h2)
def acK:List V->List Nat
 |[.ad o _,.ad x _]=>[o,x]
 |_=>[]
def acP:List Nat->List V
 |[o,x]=>[.ad o [.de],.ad x [.de]]
 |_=>[]
def n9:Wz:=⟨true,[BM,vm],[cy],acK,acP,λxs y=>[xs.1.length<=1000,y.1.length<=1000],λxs y=>(xs.1++[(xs.2.1,y.1)],xs.2.1,()),λxs y=>decide ((xs.1.length:Int)+1<=400)⟩
def Hz:Ct:=zCt n9
abbrev iL:Type:=List cB
abbrev Cl:Type:=(List cB×Int×Unit)->Bool->Prop
def CI(out:iL)(x:Int)(list:aA)(K:Cl):Prop:=list.length<=1099511627776/\bg out.length ((x,list)::([]:List fm)).length 32/\K (out++(x,list)::([]:List fm),x,()) (decide (((out++(x,list)::([]:List fm)).length:Int)<=400))
theorem Wp(xs:d8 n9.os)(y:bq n9.as)(K:Cl):vP tab (lkp [(75,sS)]) (fJ [(1,9999015005)]) Tryz.f83 (eC Tryz.f83) .n n9 xs y K=CI xs.1 xs.2.1 y.1 K:=by kernel_rfl
theorem W0(out:iL)(x:Int)(list:aA)(hok:ab (okZ n9.os (out,x,())))(hok2:ab (okL n9.as (list,())))(hpre:ab (n9.pre (out,x,()) (list,()))):CI out x list (λzs b=>zs=n9.new (out,x,()) (list,())/\b=n9.res (out,x,()) (list,())):=by
 simp only[n9,okZ,O.strip,okL,T.oks,T.ok,ap,ab,aL,az,aW]at hok hok2 hpre
 try dsimp only[T.den]at hok
 try dsimp only[T.den]at hok2
 try dsimp only[T.den]at hpre
 unfold CI;obtain⟨h1,h2⟩:=hpre;refine⟨aa,bQ (by simp only[aX,bh];omega),rfl,?_⟩;show decide (((out++[(x,list)]).length:Int)<=400)=decide ((out.length:Int)+1<=400);rw[bn];rfl
theorem VU:aN Tryz.prog 83 Hz:=LO (Φ:=lkp [(75,sS)]) (au I6 aR) aS (by kernel_rfl) (fn:=Tryz.f83) (c:=eC Tryz.f83) (by kernel_rfl) (by kernel_rfl) (by kernel_rfl) n9 .n (fJ [(1,9999015005)]) (λρ=>by kernel_rfl) (by kernel_rfl) (by kernel_rfl) (by kernel_rfl) (by kernel_rfl) (by kernel_rfl) (by kernel_rfl) (eU rfl) (by kernel_rfl) (λxs y K=>CI xs.1 xs.2.1 y.1 K) (Wp) (λxs y h1 h2 h3=>W0 xs.1 xs.2.1 y.1 h1 h2 h3)
structure OwcR (c:ah):Prop where
 a:c.2.1.length<=1099511627776
 b:c.2.2.1.length<=1099511627776
 d:c.2.2.2.1.length<=1099511627776
 e:OwnP c.2.2.2.2
theorem SP(h:CgR b c)(hb:b<=1000000000000):OwcR c:=by have h1:=h.m;have h2:=h.lt;have h3:=h.li;have h4:=h.ob;have h5:=h.lc;exact⟨aa,aa,aa,⟨aa,λr hr=>by have:=(h.row r hr).1;omega⟩⟩
def wS:Ct:=⟨[bO],[true],λx=>[OwcR x.1],[(true,fM)],λx=>(x.1,()),false,none⟩
def ag3:FuncId->Option Ct:=lkp [(143,km),(144,sI)]
def I9(c:ah)(K:ny):Prop:=c.2.1.length<=1099511627776/\c.2.2.1.length<=1099511627776/\c.2.2.2.1.length<=1099511627776/\OwnP c.2.2.2.2/\K (c,())
theorem YB(c:ah):Mh wS (c,()) (I9 c):=by
 intro hok hpre;simp only[wS,okL,T.oks,T.ok,ap,ab,aL,az,aW]at hok hpre
 try dsimp only[T.den]at hok hpre
 unfold I9;exact⟨hpre.a,hpre.b,hpre.d,hpre.e,rfl⟩
theorem Ah:aN Tryz.prog 124 wS:=ctb (au oL (au Nc aR)) aS 124 Tryz.f124 wS .n [(1,514)] (λx K=>I9 x.1 K) (λx h1 h2=>YB x.1 h1 h2)
theorem Pj(S:ShapeP c):OwcR c:=by have h1:=S.m;have h2:=S.lt;have h3:=S.li;have h4:=S.ob;have h5:=S.lc;refine⟨aa,aa,aa,aa,λr hr=>?_⟩;obtain⟨i,hi,rfl⟩:=jP hr;have:=S.row (i:Int) aa aa;rw[cQ,br,bU hi]at this;simp only[gA]at this;omega
def wW:Ct:=⟨[bO,bO,cy,cy],[true,true,false,false],λx=>[ShapeP x.1,ShapeP x.2.1,x.2.2.1.length<=1099511627776,x.2.2.2.1.length<=1099511627776],[(true,yv)],λx=>((x.1,x.2.1,x.2.2.1,x.2.2.2.1),()),true,none⟩
def agw:FuncId->Option Ct:=lkp [(143,km),(124,wS)]
abbrev Cq:Type:=aV×Unit->Prop
def Ip(c d:ah)(objects arrows:aA)(K:Cq):Prop:=OwcR c/\OwcR d/\objects.length<=1099511627776/\arrows.length<=1099511627776/\K ((c,d,objects,arrows),())
theorem Yd(c d:ah)(objects arrows:aA):Mh wW (c,d,objects,arrows,()) (Ip c d objects arrows):=by
 intro hok hpre;simp only[wW,okL,T.oks,T.ok,ap,ab,aL,az,aW]at hok hpre
 try dsimp only[T.den]at hok hpre
 unfold Ip;exact⟨Pj hpre.1,Pj hpre.2.1,hpre.2.2.1,hpre.2.2.2,rfl⟩
theorem HN:aN Tryz.prog 133 wW:=ctb (au oL (au Ah aR)) aS 133 Tryz.f133 wW .n [(1,507)] (λx K=>Ip x.1 x.2.1 x.2.2.1 x.2.2.2.1 K) (λx h1 h2=>Yd x.1 x.2.1 x.2.2.1 x.2.2.2.1 h1 h2)
def cT(c d:ah)(y:Int):aV:=(c,d,aG c.1.toNat (λ_=>y),aG c.2.1.length λ_=>d.2.2.2.1.getD y.toNat 0)
def qb:Ct:=⟨[bO,bO,aC],[true,true,false],λx=>[ShapeP x.1,ShapeP x.2.1,0<=x.2.2.1,x.2.2.1<x.2.1.1],[(true,yv)],λx=>(cT x.1 x.2.1 x.2.2.1,()),true,none⟩
def VP:Ann:=(.s .n (.s .n (.s (.s .n (.l [(6,(.ad 6 [.de])),(7,(.ref 800007 [])),(9,(.d aC))] [(6,tM),(800007,bS)] [2,3,4,8] .n)) (.s (.s .n (.l [(6,(.ad 6 [.de])),(8,(.ref 800008 [])),(10,(.d aC))] [(6,tM),(800008,bS)] [2,3,4,7] .n)) .n))))
def Hr(c d:ah)(y:Int)(K:Cq):Prop:=let g:=d.2.2.2.1.getD y.toNat 0;aK (S:=nw) (λa b=>let j:=a.2.2.1;let h:=a.1.2.2.1;Iq h<|Of a.2.1<|Ol j<|cnd (decide (h<c.1)) (bg j.length [y].length 8/\(Ik (h+1)<|b (((),(),h+1,()),a.2.1,j++[y],()))) (aK (S:=nw) (λe f=>let k:=e.2.2.1;let i:=e.1.2.2.1;Iq i<|Of e.2.1<|Ol k<|cnd (decide (i<(c.2.1.length:Int))) (Ix y d.2.2.2.1.length<|bg k.length [g].length 8/\(Ik (i+1)<|f (((),(),i+1,()),e.2.1,k++[g],()))) (ShapeP c/\ShapeP d/\j.length<=1099511627776/\k.length<=1099511627776/\K ((c,d,j,k),()))) (((),(),0,()),a.2.1,[],()))) (((),(),0,()),((0,[],[],[],[]),(0,[],[],[],[]),[],[]),[],())
theorem VY(c d:ah)(y:Int)(hok:ab (okL qb.args (c,d,y,())))(hpre:ab (qb.pre (c,d,y,()))):Hr c d y (λr=>r=qb.res (c,d,y,())):=by
 simp only[qb,okL,T.oks,T.ok,ap,ab,aL,az,aW]at hok hpre
 try dsimp only[T.den]at hok hpre
 delta Hr Ik Iq Ix Oc Of Ol Om
 dsimp -proj -eta only;obtain⟨S,D,y0,y1⟩:=hpre;clear hok;have h1:=S.ob;have h2:=S.m;have h3:=D.li;refine bt (λ(s:nw)=>0<=s.1.2.2.1/\s.1.2.2.1<=c.1/\s.2.2.1=aG s.1.2.2.1.toNat λ_=>y) (λ(s:nw)=>(c.1-s.1.2.2.1).toNat) ?_ ⟨dB _,h1.1,rfl⟩;rintro⟨⟨_,_,i,_⟩,z,l,_⟩ next ⟨i0,i1,hl⟩ hn _ _ _ _ _ _ _ _ _ _ _ _ _ _
 try dsimp only at i0 i1 hl hn⊢
 refine aE (λhc=>?_) (λhc=>?_)
 ·have hll:l.length=i.toNat:=by rw[hl,bA]
  refine⟨bQ (by simp only[aX,bh];omega),aB,hn _ ⟨an,an,?_⟩ an⟩
  try dsimp only
  rw[eY i0,←hl]
 ·have e:i=c.1:=aa
  subst e;refine bt (λ(s:nw)=>0<=s.1.2.2.1/\s.1.2.2.1<=c.2.1.length/\s.2.2.1=aG s.1.2.2.1.toNat λ_=>d.2.2.2.1.getD y.toNat 0) (λ(s:nw)=>(c.2.1.length-s.1.2.2.1).toNat) ?_ ⟨ak,ak,rfl⟩;rintro⟨⟨_,_,i,_⟩,z2,l2,_⟩ next ⟨j0,j1,hl2⟩ hn _ _ _ _ _ _ _ _ _ _ _ _ _ _
  try dsimp only at j0 j1 hl2 hn⊢
  refine aE (λhc=>?_) (λhc=>?_)
  ·have hll:l2.length=i.toNat:=by rw[hl2,bA]
   refine⟨y0,aa,bQ (by simp only[aX,bh];omega),aB,hn _ ⟨an,an,?_⟩ an⟩
   try dsimp only
   rw[eY j0,←hl2]
  ·have e:i=c.2.1.length:=aa
   subst e;refine⟨S,D,by rw[hl,bA];omega,by rw[hl2,bA];omega,?_⟩;simp only[qb,cT];rw[hl,hl2,cQ]
theorem Hk:aN Tryz.prog 115 qb:=ctb (au HN aR) aS 115 Tryz.f115 qb VP [] (λx K=>Hr x.1 x.2.1 x.2.2.1 K) (λx h1 h2=>VY x.1 x.2.1 x.2.2.1 h1 h2)
def dF{α:Type}[DecidableEq α]:List α->α->Int
 |[],_=>-1
 |a::r,x=>if a=x then 0 else (if dF r x<0 then -1 else dF r x+1)
theorem vy{α:Type}[DecidableEq α](z:α):∀{l:List α} {x:α},(x∈l->0<=dF l x/\dF l x<l.length/\l.getD (dF l x).toNat z=x/\∀i:Int,0<=i->i<dF l x->l.getD i.toNat z≠x)/\(x∉l->dF l x=-1)
 |[],x=>by simp[dF]
 |a::r,x=>by
  have ih:=@vy α _ z r x;rw[dF];by_cases h:a=x
  ·subst h;simp only[dA,cz,true_or,not_true_eq_false,false_implies,az,true_implies];exact⟨dB _,ak,rfl,λi i0 i1=>aa⟩
  ·rw[aj h];simp only[cz,not_or];refine⟨λhm=>?_,λhm=>?_⟩
   ·have hm:x∈r:=hm.resolve_left λe=>h e.symm;obtain⟨h0,h1,h2,h3⟩:=ih.1 hm;rw[aj aa];have e:(dF r x+1).toNat=(dF r x).toNat+1:=aa
    refine⟨aa,by simp only[aX];omega,by rw[e,zp];exact h2,λi i0 i1=>?_⟩;by_cases hi:i=0
    ·rw[hi];exact h
    ·have e:i.toNat=(i-1).toNat+1:=aa
     rw[e,zp];exact h3 (i-1) aa aa
   ·rw[ih.2 hm.2,am aa]
theorem KI[DecidableEq α]{z:α}{l:List α}{x:α}(i0:0<=i)(i1:i<l.length)(h:l.getD i.toNat z=x)(hn:∀k:Int,0<=k->k<i->l.getD k.toNat z≠x):dF l x=i:=by
 have hm:x∈l:=h▸bX l z i0 i1;obtain⟨h0,h1,h2,h3⟩:=(vy z).1 hm;rcases Int.lt_trichotomy (dF l x) i with hl|hl|hl
 ·exact absurd h2 (hn _ h0 hl)
 ·exact hl
 ·exact absurd h (h3 i i0 hl)
theorem adg[DecidableEq α]{z:α}{l:List α}{x:α}(hn:∀k:Int,0<=k->k<l.length->l.getD k.toNat z≠x):dF l x=-1:=by refine (vy z).2 λhm=>?_;obtain⟨h0,h1,h2,_⟩:=(vy z).1 hm;exact hn _ h0 h1 h2
def lg(s:aA)(k:Int):List Int:=if dF s k<0 then s++[k]else s
def jq(l:aA):List Int:=l.foldl lg []
def ro(l:aA):List Int:=l.map (dF (jq l))
theorem abw(r:aA)(h:0<=dF s k):dF (s++r) k=dF s k:=by
 have hm:k∈s:=sf λhn=>by have:=(vy (0:Int)).2 hn;omega
 obtain⟨h0,h1,h2,h3⟩:=(vy (0:Int)).1 hm;have hg:∀i:Int,0<=i->i<s.length->(s++r).getD i.toNat 0=s.getD i.toNat 0:=λi i0 i1=>by simp only[br];rw[fT aa]
 refine KI (z:=(0:Int)) h0 (by rw[bn];omega) (by rw[hg _ h0 h1];exact h2) λi i0 i1=>?_;rw[hg i i0 aa];exact h3 i i0 i1
theorem R7:∀(l:aA)(s:aA),∃r,l.foldl lg s=s++r
 |[],s=>⟨[],ak⟩
 |k::l,s=>by
  obtain⟨r,hr⟩:=R7 l (lg s k);rw[iA,hr];unfold lg;split
  ·exact⟨k::r,ak⟩
  ·exact⟨r,rfl⟩
theorem Se:∀(l:aA)(s:aA),(l.foldl lg s).length<=s.length+l.length
 |[],s=>ak
 |k::l,s=>by
  have:=Se l (lg s k);rw[iA,aX];have h2:(lg s k).length<=s.length+1:=by unfold lg;split<;>simp
  omega
theorem aek{l:aA}{i:Int}(i0:0<=i)(i1:i<l.length):jq (l.take (i+1).toNat)=lg (jq (l.take i.toNat)) (l.getD i.toNat 0):=by rw[gE l 0 i0 i1];unfold jq;rw[iO];rfl
theorem acn{l:aA}{n:Nat}{k:Int}(h:0<=dF (jq (l.take n)) k):dF (jq l) k=dF (jq (l.take n)) k:=by
 obtain⟨r,hr⟩:=R7 (l.drop n) (jq (l.take n))
 have:jq l=jq (l.take n)++r:=by
  rw[←hr]
  conv=>lhs;rw[←jb n l]
  unfold jq;rw[iO]
 rw[this,abw r h]
theorem ac3(h:dF s k<0):dF (s++[k]) k=s.length:=by
 have hm:k∉s:=λhm=>by have:=((vy (0:Int)).1 hm).1;omega
 refine KI (z:=(0:Int)) aa (by simp only[bn,aX,bh];omega) (by simp[br]) λi i0 i1=>?_;simp only[br];rw[fT aa];intro e;exact hm (e▸(by rw[←br];exact bX s 0 i0 i1))
structure NumM (m:pJ) (s:aA):Prop where
 n:m.length=s.length
 f:∀k:Int,mL aC aC m k=if dF s k<0 then none else some (dF s k)
end
end Go.Bm
