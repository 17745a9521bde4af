/- What the functions that FnSchemaCategories reaches give: for each its contract, what it asks, and the proof. No condition. -/
import Derived.Test.YtpmjngfhnebmaaaGreatDoorTab
import Derived.Shelf.SlSortCmp.NoneTotal
import Derived.Shelf.SlGeneric
import Derived.Ground.SlsfProg
import Derived.LaidEql
import Derived.Stop.Asserts
import Derived.RowKitTokens
import Derived.WalkKit
set_option linter.unusedVariables false
set_option linter.unusedSimpArgs false
namespace Go.Bm
open Go.Proofs
abbrev bf:=@implies_true
abbrev fS:=@decide_eq_false_iff_not
abbrev fT:=@bne_eq_false_iff_eq
abbrev iH:=@beq_eq_false_iff_ne
abbrev qu:=@bne_iff_ne
abbrev jL:=@Int.lt_irrefl
abbrev yZ:=@Bool.and_eq_false_iff
abbrev we:=@List.mem_filter
abbrev oY:=@List.foldl_append
abbrev wg:=@List.length_reverse
abbrev iT:=@eq_of_beq
abbrev Cg:=@List.getD_cons_succ
abbrev gn:Type:=(Int×((List Int)×((List Int)×((List Int)×(List (List Int))))))
abbrev uf:Type:=(Int×((List Int)×((List Int)×((List (Int×(List Int)))×(List (Int×(List Int)))))))
abbrev dy:Type:=(Unit×(Unit×(Int×Unit)))
abbrev aS:Type:=(Int×(List Int))
abbrev cV:Type:=((List Int)×Unit)
abbrev dW:Type:=(Unit×(Int×Unit))
abbrev jA:Type:=((List Int)×(Int×Int))
abbrev nJ:Type:=(gn×((List aS)×(List Int)))
abbrev dz:Type:=(dy×(gn×(gn×Unit)))
abbrev ff:Type:=((Unit×dy)×(gn×(gn×cV)))
abbrev fE:Type:=((List Int)×(List aS))
abbrev je:Type:=(List (List Int))
abbrev dT:Type:=(dW×((List aS)×Unit))
abbrev cZ:Type:=((Int×Unit)×Unit)
abbrev iw:Type:=(Unit×(Unit×Unit))
abbrev kX:Type:=((List Int)×((uf×(gn×fE))×Unit))
abbrev jf:Type:=(Int×(Int×Unit))
abbrev iy:Type:=(dy×(jA×(je×Unit)))
abbrev lN:Type:=(uf×(uf×Unit))
abbrev kv:Type:=((Unit×Unit)×((List aS)×Unit))
abbrev kY:Type:=(dW×((List (Int×aS))×Unit))
abbrev rL:Type:=((Unit×dy)×((List aS)×((List Bool)×cV)))
abbrev nG:Type:=(Unit×(Unit×dy))
abbrev mG:Type:=(aS×(aS×Unit))
abbrev mH:Type:=(Int×Int×List Int)
abbrev nH:Type:=((Unit×iw)×(jA×lN))
abbrev nI:Type:=(dy×(nJ×(nJ×Unit)))
abbrev oN:Type:=(dy×((List Int)×cV))
abbrev vX:Type:=(nG×(gn×(gn×(je×cV))))
abbrev BV:Type:=(Unit×(Unit×(Unit×jf)))
abbrev y7:Type:=((List Int)×(Int×(aS×Unit)))
abbrev FU:Type:=((Unit×iw)×((List aS)×((List Bool)×cV)))
abbrev BW:Type:=((Unit×dy)×(nJ×(nJ×cV)))
abbrev FV:Type:=((Unit×iw)×(jA×(gn×(gn×Unit))))
abbrev BX:Type:=(dy×((List (Int×Int))×cV))
abbrev y8:Type:=(Unit×(Int×(Unit×Unit)))
abbrev FW:Type:=((Unit×Unit)×((List (Int×aS))×Unit))
abbrev BY:Type:=((Unit×dy)×(je×mG))
abbrev vY:Type:=(dW×(je×Unit))
abbrev BZ:Type:=(gn×(je×(gn×cV)))
abbrev UO:Type:=(gn×(je×Unit))
abbrev LL:Type:=((Unit×dy)×(gn×(je×(gn×Unit))))
abbrev FX:Type:=((Unit×iw)×(jA×mG))
abbrev FY:Type:=(iw×(jA×(je×Unit)))
abbrev LM:Type:=(nG×(jA×(gn×((List Int)×cV))))
abbrev LN:Type:=(nG×(jA×(gn×(je×cV))))
abbrev LO:Type:=((Unit×dy)×(jA×(je×cV)))
abbrev LP:Type:=((uf×(gn×fE))×Unit)
abbrev LQ:Type:=((Unit×dy)×(jA×mG))
abbrev LR:Type:=((Unit×dy)×(gn×UO))
abbrev LS:Type:=(BV×(gn×(gn×cV)))
abbrev LT:Type:=((Unit×dy)×(jA×UO))
abbrev LU:Type:=(BV×(nJ×(nJ×cV)))
abbrev FZ:Type:=(Int×Int×Int×Int)
abbrev Ga:Type:=(dW×(jA×Unit))
abbrev LV:Type:=(dy×(jA×(gn×Unit)))
set_option maxRecDepth 100000
set_option maxHeartbeats 1000000
noncomputable section
abbrev aq:T:=.int .i64
abbrev bd:T:=.sl aq
abbrev B6:T:=.p aq bd
abbrev Fv:T:=.sl B6
abbrev tyN9:T:=.p aq (.p bd (.p bd (.p Fv Fv)))
abbrev tyN8:T:=.pt tyN9
abbrev cA:O:=.fz aq
abbrev cd:O:=.sl cA
abbrev iL:O:=.sl cd
abbrev Bt:O:=.p cA (.p cd (.p cd (.p cd iL)))
abbrev yn:O:=.sl (.fz B6)
abbrev F4:O:=.pt (.p (.fz tyN8) (.p Bt (.p cd yn)))
abbrev Uc:O:=.p cA cd
abbrev ye:O:=.sl Uc
abbrev FK:O:=.pt (.p Bt (.p ye cd))
abbrev tyN2:O:=.pt (.p Bt (.p yn cd))
abbrev kH:T:=.pt fV
abbrev BS:O:=.pt (.p (.fz kH) (.p Bt (.p cd (.sl (.fz eH)))))
abbrev pU:O:=.pt (.p cA (.p cd (.p cd (.p ye ye))))
abbrev L0:O:=.pt (.p cA (.p cd (.p cd (.p yn yn))))
abbrev ru:O:=.fz bd
abbrev TS:O:=.fz Fv
abbrev U1:O:=.p TS TS
abbrev LF:O:=.pt (.p cA (.p ru (.p ru U1)))
abbrev tyN7:O:=.pt (.fz tyN9)
abbrev d7:O:=.pt Bt
abbrev aW:T:=.sl eH
abbrev vD:O:=.fz aW
abbrev Lm:O:=.p cA (.p ru (.p ru (.p vD vD)))
abbrev vB:T:=.p bd Fv
abbrev TV:T:=.p aq B6
abbrev agn:O:=.sl (.fz TV)
abbrev dK:T:=.sl (.int .u8)
abbrev nw:O:=.pt (.fz (.p dK (.p aq (.int .u64))))
abbrev Ff:O:=.pt Uc
abbrev ER:O:=.pt (.fz B6)
abbrev Lo:T:=.pt B6
abbrev xZ:O:=.pt cd
abbrev gE:O:=.pt (.fz lU)
abbrev B3:T:=.pt Zi
abbrev yg:T:=.pt B3
abbrev nz:T:=.sl bd
abbrev By:T:=.pt bd
abbrev Bh:T:=.pt aq
abbrev dS:O:=.fz .bool
abbrev Fw:O:=.sl dS
abbrev vG:T:=.pt cS
abbrev ym:O:=.fz (.er 83)
abbrev tM:O:=.fz fV
abbrev vz:T:=.sl Lx
abbrev nx:O:=.fz .str
abbrev Uz:Shs:=[(4,(.fc 89 (.pr (.ad 1000000 [.de]) (.pr (.d Bh) (.pr (.d (.pt (.pt (.p (.mp .str aq) vB)))) (.pr (.d Lo) .u))))))]
abbrev U7:Shs:=[(4,(.ad 4 [.de])),(5,(.ad 5 [.de])),(9,(.ref 800009 [])),(11,(.ref 800011 [])),(13,(.d aq))]
abbrev UI:Shs:=[(4,(.ad 4 [.de])),(7,(.ad 7 [.de])),(12,(.ref 800012 [])),(13,(.d aq))]
abbrev UB:Shs:=[(4,(.ad 4 [.de])),(7,(.ad 7 [.de])),(12,(.ref 800012 [])),(14,(.d aq))]
abbrev TU:Shs:=[(4,(.ad 4 [.de])),(7,(.ad 7 [.de])),(12,(.ref 800012 [])),(15,(.d aq))]
abbrev TR:Shs:=[(6,(.ad 6 [.de])),(8,(.ad 8 [.de])),(11,(.ref 800011 [])),(13,(.d aq))]
abbrev Fi:Obs:=[(27,(.pt (.p (.mp .str aq) (.p cd (.sl (.fz (.p aq (.ns bd))))))))]
abbrev Li:Obs:=[(4,(.pt (.fz (.pt (.p (.mp .str aq) vB))))),(7,xZ),(42,F4)]
abbrev Ue:Shs:=[(0,(.ad 1000000 [.de])),(6,(.ad 6 [.de])),(7,(.ad 7 [.de]))]
abbrev TQ:Shs:=[(0,(.ad 1000000 [.de])),(6,(.ad 6 [.de])),(8,(.ad 8 [.de]))]
abbrev yc:Shs:=[(0,(.ad 1000000 [.de])),(2,(.ad 2 [.de])),(3,(.ad 3 [.de]))]
abbrev UE:Shs:=[(6,(.ref 17 [])),(7,(.ref 21 [])),(8,(.ref 800008 []))]
abbrev U3:Shs:=[(2,(.ad 2 [.de])),(8,(.ad 8 [.de])),(10,(.d aq))]
abbrev Ur:Shs:=[(4,(.ad 4 [.de])),(7,(.ad 7 [.de])),(10,(.d aq))]
abbrev Ud:Shs:=[(4,(.ad 4 [.de])),(7,(.ad 7 [.de])),(11,(.d aq))]
abbrev Ls:Obs:=[(4,d7),(5,d7),(800009,iL),(800011,cd)]
abbrev UD:Obs:=[(2,d7),(800004,iL),(5,d7),(800007,cd)]
abbrev U8:Shs:=[(4,(.ad 4 [.de])),(7,(.ad 7 [.de])),(8,(.d aq))]
abbrev Uy:Shs:=[(4,(.ad 4 [.de])),(7,(.ad 7 [.de])),(9,(.d aq))]
abbrev Uf:Shs:=[(0,(.ad 1000000 [.de])),(5,(.ref 800005 []))]
abbrev BE:Obs:=[(17,ye),(21,Fw),(800008,cd)]
abbrev Bs:Obs:=[(1000000,nw),(6,Ff),(7,Ff)]
abbrev Lc:Obs:=[(800005,iL),(9,ER),(10,ER)]
abbrev ya:Obs:=[(4,d7),(7,d7),(800012,cd)]
abbrev Fo:Obs:=[(6,d7),(8,d7),(800011,cd)]
abbrev Lz:Shs:=[(3,(.ref 800003 [])),(4,(.d aq))]
abbrev Lj:Shs:=[(5,(.ref 800005 [])),(6,(.d aq))]
abbrev xT:Obs:=[(1000000,nw),(2,pU),(3,tyN7)]
abbrev Lw:Obs:=[(2,FK),(7,tyN2),(800012,cd)]
abbrev yi:Obs:=[(1000000,nw),(800005,iL)]
abbrev tR:Obs:=[(4,d7),(7,d7)]
abbrev BC:Shs:=[(4,(.ref 800004 []))]
abbrev B4:Obs:=[(2,FK),(7,tyN2)]
abbrev Fk:Obs:=[(1000000,xZ)]
abbrev vE:Shs:=[(5,(.d aq))]
abbrev mq:Obs:=[(800004,yn)]
abbrev vx:Obs:=[(800007,agn)]
abbrev bg:Type:=List aO
abbrev Ca:Type:=List (Int×Int)
variable {B:Tab}{c:aF}{e f g i k v x y:Int}{j:aw}{l:bg}{m:Ca}{n:Nat}{p q:aO}{s:aB}{Φ:dM}{α:Type}
def Ix(a:Int)(l:Nat)(P:Prop):Prop:=0<=a/\a<(l:Int)/\P
def Iq(a:Int)(P:Prop):Prop:=inK .i64 a->P
def Ik(a:Int)(P:Prop):Prop:=inK .i64 a/\P
def Ol(a:aw)(P:Prop):Prop:=T.ok (.sl (.int .i64)) a->P
abbrev df:Type:=List (List Int)
def Om(a:df)(P:Prop):Prop:=T.ok (.sl (.sl (.int .i64))) a->P
def Oc(a:aF)(P:Prop):Prop:=inK .i64 a.1->T.ok (.sl (.int .i64)) a.2.1->T.ok (.sl (.int .i64)) a.2.2.1->T.ok (.sl (.int .i64)) a.2.2.2.1->T.ok (.sl (.sl (.int .i64))) a.2.2.2.2->P
def Oa(t:T)(a:t.den)(P:Prop):Prop:=T.ok t a->P
theorem ctb  (g : gK Tryz.prog Φ)  (hB : TabOk Tryz.prog B) (f : FuncId) (fn : Func) (ct : Ct) (A : Ann) (l : List (Nat × Nat)) (W : bo ct.args -> (bV ct.rt -> Prop) -> Prop) (hm : ∀ x, ab (okL ct.args x) -> ab (ct.pre x) -> W x (fun r => r = ct.res x)) (h : (Tryz.prog.funcs[f]?, fn.body, fn.name == "runtime.NumGoroutine", ct.ga, orb ct.sh (oz ct.rt), okC fn.ntmps (fN l) (fa fn), Nat.ble ct.ga.length fn.ntmps) = (some fn, some (fa fn), false, agL B fn, true, true, true) := by kernel_rfl) (hu : ct.mu = none := by rfl) (hw : ∀ x K, evF B Φ (fN l) fn (fa fn) A ct x K = W x K := by intros; kernel_rfl) : aN Tryz.prog f ct := by
 simp only[bS]at h;obtain⟨h1,h2,h3,h4,h5,h6,h7⟩:=h;exact Uq g hB (by kernel_rfl) h1 h2 h3 ct hu A (fN l) h4 h5 h6 (ia h7) W hw hm
abbrev Mh(c:Ct)(x:bo c.args)(V:(bV c.rt->Prop)->Prop):Prop:=ab (okL c.args x)->ab (c.pre x)->V (λr=>r=c.res x)
theorem wtb  (g : gK Tryz.prog Φ)  (hB : TabOk Tryz.prog B) (f : FuncId) (fn : Func) (W : Wt) (A : Ann) (l : List (Nat × Nat)) (hm : ∀ x y, ab (W.o.strip.oks x) -> ab (okL W.as y) -> ab (W.pre x y) -> kP B Φ (fN l) fn (fa fn) A W x y (fun z r => z = W.new x y /\ r = W.res x y)) (h : (Tryz.prog.funcs[f]?, fn.body, fn.name == "runtime.NumGoroutine", nr W.o, ew W.i false W.ag, okC fn.ntmps (fN l) (fa fn), Nat.ble W.i W.ag.length, Nat.ble (W.ag.length + 1) fn.ntmps, noW [W.i] (fa fn)) = (some fn, some (fa fn), false, true, agL B fn, true, true, true, true) := by kernel_rfl) : aN Tryz.prog f (iO W) := by
 simp only[bS]at h;obtain⟨h1,h2,h3,h4,h5,h6,h7,h8,h9⟩:=h;exact TZ g hB (by kernel_rfl) h1 h2 h3 W A (fN l) h4 (ia h7) h5 h6 (ia h8) h9 hm
theorem pkb  (g : gK Tryz.prog Φ)  (hB : TabOk Tryz.prog B) (f : FuncId) (fn : Func) (ct : Ct) (A : Ann) (l : List (Nat × Nat)) (W : bo ct.args -> (bV ct.rt -> Prop) -> Prop) (Q : bo ct.args -> bV ct.rt -> Prop) (hm : ∀ x, ab (okL ct.args x) -> ab (ct.pre x) -> W x (Q x)) (x : bo ct.args) (h : (Tryz.prog.funcs[f]?, fn.body, fn.name == "runtime.NumGoroutine", Bz l, ct.ga, orb ct.sh (oz ct.rt), okC fn.ntmps (fN l) (fa fn), Nat.ble ct.ga.length fn.ntmps, reL ct.ga ct.args) = (some fn, some (fa fn), false, true, agL B fn, true, true, true, true) := by kernel_rfl) (hw : ∀ x K, evF B Φ (fN l) fn (fa fn) A ct x K = W x K := by intros; kernel_rfl) :
  ∃r,ab (okL ct.args x)->ab (ct.pre x)->W x (λr'=>r'=r)/\ab (okR ct.rt r)/\Q x r:=by
 simp only[bS]at h;obtain⟨h1,h2,h3,h4,h5,h6,h7,h8,h9⟩:=h;exact acx g hB (by kernel_rfl) h1 h2 h3 ct A (fN l) (K9 h4) (P9 79 (by kernel_rfl)) h5 h6 h7 (ia h8) h9 W hw Q hm x
theorem pkw(g:gK Tryz.prog Φ)(hB:TabOk Tryz.prog B)(f:gp)(fn:Func)(W:Wt)(A:Ann)(l:List (Nat×Nat))(t:T)(V:W.o.strip.den->bo W.as->(W.o.strip.den->bV W.rt->Prop)->Prop)
  (Q : W.o.strip.den -> bo W.as -> W.o.strip.den -> bV W.rt -> Prop) (hm : ∀ x y, ab (W.o.strip.oks x) -> ab (okL W.as y) -> ab (W.pre x y) -> V x y (Q x y)) (x : W.o.strip.den) (y : bo W.as) (h : (Tryz.prog.funcs[f]?, fn.body, fn.name == "runtime.NumGoroutine", Bz l, nr W.o, ew W.i false W.ag, okC fn.ntmps (fN l) (fa fn), Nat.ble W.i W.ag.length, Nat.ble (W.ag.length + 1) fn.ntmps, noW [W.i] (fa fn), reL W.ag W.as, W.o, reT t) = (some fn, some (fa fn), false, true, true, agL B fn, true, true, true, true, true, .pt (.fz t), true) := by kernel_rfl) (hw : ∀ x y K, kP B Φ (fN l) fn (fa fn) A W x y K = V x y K := by intros; kernel_rfl) :
  ∃q:W.o.strip.den×bV W.rt,ab (W.o.strip.oks x)->ab (okL W.as y)->ab (W.pre x y)->V x y (λz r=>z=q.1/\r=q.2)/\ab (W.o.strip.oks q.1)/\ab (okR W.rt q.2)/\Q x y q.1 q.2:=by
 simp only[bS]at h;obtain⟨h1,h2,h3,h4,h5,h6,h7,h8,h9,h10,h11,h12,h13⟩:=h;exact ac0 g hB (by kernel_rfl) h1 h2 h3 W A (fN l) (K9 h4) (P9 79 (by kernel_rfl)) h5 (ia h8) h6 h7 (ia h9) h10 h11 t h12 h13 V hw Q hm x y
def wE:Ct:=⟨[vG,aq],[false,false],λx=>[0<=x.2.1,x.2.1<x.1.2.1.length,x.2.1<x.1.2.2.1.length],[(true,(.fz agq))],λx=>(((x.1.2.1.getD x.2.1.toNat 0,x.1.2.2.1.getD x.2.1.toNat 0):Int×Int),()),false,none⟩
def GP(c:aF)(f:Int)(K:af6×Unit->Prop):Prop:=Ix f c.2.1.length<|Ix f c.2.2.1.length<|K ((c.2.1.getD f.toNat 0,c.2.2.1.getD f.toNat 0),())
theorem VY(c:aF)(f:Int):Mh wE (c,f,()) (GP c f):=by
 intro hok hpre;simp only[wE,okL,T.oks,T.ok,ap,ab,aL,aA,bf]at hok hpre
 try dsimp only[T.den]at hok hpre
 delta GP Ix
 exact⟨hpre.1,hpre.2.1,hpre.1,hpre.2.2,rfl⟩
theorem My:aN Tryz.prog 29 wE:=ctb aQ aR 29 Tryz.f29 wE .n [(1,15)] (λx K=>GP x.1 x.2.1 K) (λx h1 h2=>VY x.1 x.2.1 h1 h2)
def bU(c:aF)(f g:Int):Int:=(c.2.2.2.2.getD f.toNat []).getD g.toNat 0
def wF:Ct:=⟨[vG,aq,aq],[false,false,false],λx=>[0<=x.2.1,x.2.1<x.1.2.2.2.2.length,0<=x.2.2.1,x.2.2.1<(x.1.2.2.2.2.getD x.2.1.toNat []).length],[(false,cA)],λx=>(bU x.1 x.2.1 x.2.2.1,()),false,none⟩
abbrev jB:Type:=Int×Unit->Prop
def GU(c:aF)(f g:Int)(K:jB):Prop:=let a:=c.2.2.2.2.getD f.toNat [];Ix f c.2.2.2.2.length<|Ix g a.length<|K (a.getD g.toNat 0,())
theorem VX(c:aF)(f g:Int):Mh wF (c,f,g,()) (GU c f g):=by
 intro hok hpre;simp only[wF,okL,T.oks,T.ok,ap,ab,aL,aA,bf]at hok hpre
 try dsimp only[T.den]at hok hpre
 delta GU Ix
 dsimp -proj -eta only;exact⟨hpre.1,hpre.2.1,hpre.2.2.1,hpre.2.2.2,rfl⟩
theorem GG:aN Tryz.prog 26 wF:=ctb aQ aR 26 Tryz.f26 wF .n [] (λx K=>GU x.1 x.2.1 x.2.2.1 K) (λx h1 h2=>VX x.1 x.2.1 x.2.2.1 h1 h2)
def si:Ct:=⟨[vG],[false],λx=>[],[(false,cA)],λx=>((x.1.2.1.length:Int),()),false,none⟩
def GB(c:aF)(K:jB):Prop:=K ((c.2.1.length:Int),())
theorem VA(c:aF):Mh si (c,()) (GB c):=by
 intro hok hpre;simp only[si,okL,T.oks,T.ok,ap,ab,aL,aA,bf]at hok hpre
 try dsimp only[T.den]at hok hpre
 unfold GB;rfl
theorem Cw:aN Tryz.prog 51 si:=ctb aQ aR 51 Tryz.f51 si .n [] (λx K=>GB x.1 K) (λx h1 h2=>VA x.1 h1 h2)
def qH:Ct:=⟨[aq,aq,aq],[false,false,false],λx=>[],[(false,dS)],λx=>(inR x.1 x.2.1 x.2.2.1,()),false,none⟩
abbrev fP:Type:=Bool×Unit->Prop
def Ib(n low high:Int)(K:fP):Prop:=K (decide (low<=n)&&decide (n<=high),())
theorem Yj(n low high:Int):Mh qH (n,low,high,()) (Ib n low high):=by
 intro hok hpre;simp only[qH,okL,T.oks,T.ok,ap,ab,aL,aA,bf]at hok hpre
 try dsimp only[T.den]at hok hpre
 unfold Ib
 grind[cnd,bO,cf,qH,inR]
theorem wT:aN Tryz.prog 25 qH:=ctb aQ aR 25 Tryz.f25 qH .n [] (λx K=>Ib x.1 x.2.1 x.2.2.1 K) (λx h1 h2=>Yj x.1 x.2.1 x.2.2.1 h1 h2)
def qJ:Ct:=⟨[bd,aq],[false,false],λx=>[inK .i64 (x.2.1-1)],[(false,dS)],λx=>(bD x.1 x.2.1,()),false,none⟩
def Yc:Ann:=(.s .n (.s (.s .n (.l [(9,(.d aq))] [] [1,7,8] .n)) .n))
def Iv(list:aw)(n:Int)(K:fP):Prop:=aI (S:=cZ) (λa b=>Iq a.1.1<|cnd (decide (a.1.1<(list.length:Int))) (Ix a.1.1 list.length<|Ik (n-1)<|cnd (!inR (list.getD a.1.1.toNat 0) 0 (n-1)) (K (false,())) (Ik (a.1.1+1)<|b ((a.1.1+1,()),()))) (K (true,()))) ((0,()),())
theorem YJ(list:aw)(n:Int):Mh qJ (list,n,()) (Iv list n):=by
 intro hok hpre;simp only[qJ,okL,T.oks,T.ok,ap,ab,aL,aA,bf]at hok hpre
 try dsimp only[T.den]at hok hpre
 delta Iv Ik Iq Ix
 refine aY (λ(s:cZ)=>0<=s.1.1/\s.1.1<=list.length/\bD list n=bD (list.drop s.1.1.toNat) n) (λ(s:cZ)=>(list.length-s.1.1).toNat) ?_ ak;rintro⟨⟨i,_⟩,_⟩ next ⟨h0,h1,h2⟩ hn hin
 simp only at h0 h1 h2 hn⊢;refine aE (λhc=>?_) (λhc=>?_)
 ·rw[im list 0 h0 hc]at h2;simp only[bD,oX]at h2
  grind[cnd,bO,cf,qJ,bD]
 ·rw[jt list aa]at h2
  grind[cnd,bO,cf,qJ,bD]
theorem HZ:aN Tryz.prog 33 qJ:=ctb (au wT aQ) aR 33 Tryz.f33 qJ Yc [] (λx K=>Iv x.1 x.2.1 K) (λx h1 h2=>YJ x.1 x.2.1 h1 h2)
def mt(c:aF)(f g v:Int):Bool:=
 if c.2.2.1.getD f.toNat 0=c.2.1.getD g.toNat 0 then decide (0<=v/\v<c.2.1.length/\c.2.1.getD v.toNat 0=c.2.1.getD f.toNat 0/\c.2.2.1.getD v.toNat 0=c.2.2.1.getD g.toNat 0)
 else decide (v=-1)
def kg(c:aF)(f g:Int):Bool:=mt c f g (bU c f g)
structure ShapeP (c:aF):Prop where
 ob:0<=c.1/\c.1<=8
 m:c.2.1.length<=40
 lt:c.2.2.1.length=c.2.1.length
 fr:bD c.2.1 c.1=true
 to:bD c.2.2.1 c.1=true
 li:(c.2.2.2.1.length:Int)=c.1
 ids:bD c.2.2.2.1 c.2.1.length=true
 lc:c.2.2.2.2.length=c.2.1.length
 idt:∀x:Int,0<=x->x<c.1->c.2.1.getD (c.2.2.2.1.getD x.toNat 0).toNat 0=x/\c.2.2.1.getD (c.2.2.2.1.getD x.toNat 0).toNat 0=x
 row:∀f:Int,0<=f->f<c.2.1.length->(c.2.2.2.2.getD f.toNat []).length=c.2.1.length
 cell:∀f g:Int,0<=f->f<c.2.1.length->0<=g->g<c.2.1.length->kg c f g=true
def pE(c:aF):Bool:=inR c.1 0 8&&decide (c.2.1.length<=40)&&decide (c.2.2.1.length=c.2.1.length)&&bD c.2.1 c.1&&bD c.2.2.1 c.1&&decide ((c.2.2.2.1.length:Int)=c.1)&&bD c.2.2.2.1 c.2.1.length &&
 decide (c.2.2.2.2.length=c.2.1.length)&&gQ c.1.toNat (λx=>decide (c.2.1.getD (c.2.2.2.1.getD x.toNat 0).toNat 0=x/\c.2.2.1.getD (c.2.2.2.1.getD x.toNat 0).toNat 0=x)) &&
 gQ c.2.1.length (λf=>decide ((c.2.2.2.2.getD f.toNat []).length=c.2.1.length))&&gQ c.2.1.length (λf=>gQ c.2.1.length λg=>kg c f g)
theorem uV{c:aF}:pE c=true<->ShapeP c:=by
 simp only[pE,ao,cj,inR,tb];constructor
 ·rintro⟨⟨⟨⟨⟨⟨⟨⟨⟨⟨h0,h1⟩,h2⟩,h3⟩,h4⟩,h5⟩,h6⟩,h7⟩,h8⟩,h9⟩,h10⟩;exact⟨h0,h1,h2,h3,h4,h5,h6,h7,λx a b=>h8 x a aa,h9,λf g a b d e=>h10 f a b g d e⟩
 ·intro h;exact⟨⟨⟨⟨⟨⟨⟨⟨⟨⟨h.ob,h.m⟩,h.lt⟩,h.fr⟩,h.to⟩,h.li⟩,h.ids⟩,h.lc⟩,λx a b=>h.idt x a (by have:=h.ob;omega)⟩,h.row⟩,λf a b g d e=>h.cell f g a b d e⟩
theorem DX(h:¬ShapeP c):pE c=false:=by
 cases hs:pE c with
 |false=>rfl
 |true=>exact absurd (uV.1 hs) h
theorem S7(h:ShapeP c):pE c=true:=uV.2 h
def mP:Ct:=⟨[vG],[false],λx=>[],[(false,dS)],λx=>(pE x.1,()),false,none⟩
def Vm:Ann:=(.s .n (.s .n (.s .n (.s .n (.s (.s .n (.l [(88,(.d aq))] [] [0,3,86,87] .n)) (.s (.s .n (.l [(106,(.d aq))] [] [0,3,104,105] (.s .n (.s .n (.s (.s .n (.s .n (.s .n (.l [(117,(.d aq))] [] [0,3,6,104,105,106,115,116] (.s .n (.s .n (.s (.j [] [] [0,3,6,104,105,106,115,116,117] .n) .n))))))) .n))))) .n))))))
def ahd:FuncId->Option Ct:=lkp [(51,si),(29,wE),(25,qH),(33,qJ)]
def Gz(c:aF)(K:fP):Prop:=let w:=inR c.1 0 8;let v:=c.2.2.2.2.length;let q:=c.2.2.2.1.length;let o:=c.2.2.1.length;let l:=c.2.1.length;let r:=decide (40<(l:Int));((!w||r||(o:Int) != (l:Int))=false->inK .i64 (c.1-1))/\((!w||r||(o:Int) != (l:Int)||!bD c.2.1 c.1)=false->inK .i64 (c.1-1))/\cnd (!w||r||(o:Int) != (l:Int)||!bD c.2.1 c.1||!bD c.2.2.1 c.1) (K (false,())) ((((q:Int) != c.1)=false->inK .i64 ((l:Int)-1))/\cnd ((q:Int) != c.1||!bD c.2.2.2.1 (l:Int)||(v:Int) != (l:Int)) (K (false,())) (aI (S:=cZ) (λa b=>let x:=a.1.1;let n:=c.2.2.2.1.getD x.toNat 0;Iq x<|cnd (decide (x<(q:Int))) (Ix x q<|Ix n l<|n<(o:Int)/\cnd (!(c.2.1.getD n.toNat 0==x&&c.2.2.1.getD n.toNat 0==x)) (K (false,())) (Ik (x+1)<|b ((x+1,()),()))) (aI (S:=cZ) (λd e=>let t:=d.1.1;let m:=c.2.2.2.2.getD t.toNat [];Iq t<|cnd (decide (t<(v:Int))) (Ix t v<|cnd ((m.length:Int) != (l:Int)) (K (false,())) (aI (S:=cZ) (λf g=>let u:=f.1.1;let j:=m.getD u.toNat 0;let p:=inR j 0 ((l:Int)-1);Iq u<|cnd (decide (u<(m.length:Int))) (bZ (S:=(Unit×Unit)) (λh=>Ik (u+1)<|g ((u+1,()),())) (λi=>Ix u m.length<|Ix t o<|Ix u l<|cnd (c.2.2.1.getD t.toNat 0 != c.2.1.getD u.toNat 0) (cnd (j != -1) (K (false,())) (i ((),()))) (Ik ((l:Int)-1)<|((!p)=false->j<(l:Int)/\j<(o:Int)/\0<=j)/\((!p)=false->t<(l:Int)/\0<=t)/\((!p)=false->u<(o:Int)/\0<=u)/\cnd (!p||!(c.2.1.getD j.toNat 0==c.2.1.getD t.toNat 0&&c.2.2.1.getD j.toNat 0==c.2.2.1.getD u.toNat 0)) (K (false,())) (i ((),()))))) (Ik (t+1)<|e ((t+1,()),()))) ((0,()),()))) (K (true,()))) ((0,()),()))) ((0,()),())))
theorem Vz(c:aF)(hok:ab (okL mP.args (c,())))(hpre:ab (mP.pre (c,()))):Gz c (λr=>r=mP.res (c,())):=by
 simp only[mP,okL,T.oks,T.ok,ap,ab,aL,aA,bf]at hok hpre
 try dsimp only[T.den]at hok hpre
 delta Gz Ik Iq Ix
 dsimp -proj -eta only;refine⟨by grind[cnd,bO,cf,inR],by grind[cnd,bO,cf,inR],aC (λhc=>?_) (λhc=>⟨by rw[cf];have:=hok.2.1.1;grind[cnd,bO,cf],aC (λhd=>?_) (λhd=>?_)⟩)⟩
 ·simp only[mP];rw[DX];intro h;have h1:=h.ob;have h2:=h.m;have h3:=h.lt;have h4:=h.fr;have h5:=h.to;simp only[inR]at hc;grind[cnd,bO,cf]
 ·simp only[mP];rw[DX];intro h;have h1:=h.li;have h2:=h.ids;have h3:=h.lc;grind[cnd,bO,cf]
 simp only[inR,gV,jK,ao,cj,fS,fT]at hc hd;obtain⟨⟨⟨⟨hob,hm⟩,hlt⟩,hfr⟩,hto⟩:=hc;obtain⟨⟨hli,hids⟩,hlc⟩:=hd;have bad:¬ShapeP c->(false,())=mP.res (c,()):=λh=>by simp only[mP];rw[DX h]
 refine il (n:=c.2.2.2.1.length) (λx=>∀y:Int,0<=y->y<x->c.2.1.getD (c.2.2.2.1.getD y.toNat 0).toNat 0=y/\c.2.2.1.getD (c.2.2.2.1.getD y.toNat 0).toNat 0=y) aa (by intro y h0 h1;omega) ?_ ?_
 ·intro x next h0 h1 hP hn hin
  have hb:=fF.1 hids x h0 h1
  try dsimp only
  refine aE (λ_=>⟨h0,h1,hb.1,hb.2,aa,aC (λhx=>bad λh=>?_) (λhx=>?_)⟩) (λh=>absurd h1 h)
  ·have:=h.idt x h0 aa;rw[this.1,this.2]at hx;simp at hx
  ·simp only[jK,ao,cR]at hx;refine⟨az,hn λy y0 y1=>?_⟩;by_cases e:y=x
   ·rw[e];exact hx
   ·exact hP y y0 aa
 intro next hidt hin
 refine aE (λh=>absurd h ae) (λ_=>?_);refine il (n:=c.2.2.2.2.length) (λf=>∀f':Int,0<=f'->f'<f->(c.2.2.2.2.getD f'.toNat []).length=c.2.1.length/\∀g:Int,0<=g->g<c.2.1.length->kg c f' g=true) aa (by intro y h0 h1;omega) ?_ ?_
 ·intro f next h0 h1 hP hn hin
  try dsimp only
  refine aE (λ_=>⟨h0,h1,aC (λhx=>bad λh=>?_) (λhx=>?_)⟩) (λh=>absurd h1 h)
  ·have:=h.row f h0 aa;rw[this]at hx;simp at hx
  simp only[fT]at hx;refine il (n:=(c.2.2.2.2.getD f.toNat []).length) (λg=>∀g':Int,0<=g'->g'<g->kg c f g'=true) aa (by intro y h0 h1;omega) ?_ ?_
  ·intro g next3 g0 g1 hP3 hn3 hin3
   try dsimp only
   refine aE (λ_=>?_) (λh=>absurd g1 h);refine cp (λ_=>kg c f g=true) (λ_ hcell=>⟨az,hn3 λg' y0 y1=>?_⟩) (λk hk=>?_)
   ·by_cases e:g'=g
    ·rw[e];exact hcell
    ·exact hP3 g' y0 aa
   have hcell:∀b,kg c f g=b->b=false->¬ShapeP c:=λb h1 h2 h=>by have:=h.cell f g h0 aa g0 aa;rw[h1,h2]at this;cases this
   have hk':=hk ((),());obtain⟨v,hv⟩:∃v,(c.2.2.2.2.getD f.toNat []).getD g.toNat 0=v:=⟨_,rfl⟩;have hR:kg c f g=mt c f g v:=by unfold kg bU;rw[hv]
   rw[hR]at hk';rw[hR]at hcell;rw[hv];clear hP3 hn3 hP hn hk hR hv hidt hok;refine⟨g0,g1,h0,aa,g0,aa,aC (λha=>aC (λhb=>bad ?_) (λhb=>hk' ?_)) (λha=>⟨az,λhv=>?_,λ_=>⟨aa,h0⟩,λ_=>⟨aa,g0⟩,aC (λhb=>bad ?_) (λhb=>hk' ?_)⟩)⟩
   ·exact hcell _ rfl (by grind[cnd,bO,cf,mt])
   ·grind[cnd,bO,cf,mt]
   ·simp only[inR,jK,ao,cj]at hv;omega
   ·exact hcell _ rfl (by simp only[inR]at hb;grind[cnd,bO,cf,mt])
   ·simp only[inR]at hb;grind[cnd,bO,cf,mt]
  ·intro next3 hP3 hin3;refine aE (λh=>absurd h ae) (λ_=>⟨az,hn λf' y0 y1=>?_⟩);by_cases e:f'=f
   ·rw[e];exact⟨aa,λg g0 g1=>hP3 g g0 aa⟩
   ·exact hP f' y0 aa
 ·intro next2 hP2 hin2;refine aE (λh=>absurd h ae) (λ_=>?_);simp only[mP];rw[S7 ⟨hob,aa,aa,hfr,hto,aa,hids,aa,λx a b=>hidt x a aa,λf a b=>(hP2 f a aa).1,λf g a b d e=>(hP2 f a aa).2 g d e⟩]
theorem Vn:aN Tryz.prog 49 mP:=ctb (au Cw (au My (au wT (au HZ aQ)))) aR 49 Tryz.f49 mP Vm [(2,43),(20,15),(4,28),(23,26)] (λx K=>Gz x.1 K) (λx h1 h2=>Vz x.1 h1 h2)
theorem ShapeP.frm(h:ShapeP c)(h0:0<=f)(h1:f<c.2.1.length):0<=c.2.1.getD f.toNat 0/\c.2.1.getD f.toNat 0<c.1/\0<=c.2.2.1.getD f.toNat 0/\c.2.2.1.getD f.toNat 0<c.1:=by have a:=fF.1 h.fr f h0 h1;have b:=fF.1 h.to f h0 (by have:=h.lt;omega);exact⟨a.1,a.2,b.1,b.2⟩
theorem ShapeP.idn(h:ShapeP c)(h0:0<=x)(h1:x<c.1):0<=c.2.2.2.1.getD x.toNat 0/\c.2.2.2.1.getD x.toNat 0<c.2.1.length/\c.2.1.getD (c.2.2.2.1.getD x.toNat 0).toNat 0=x/\c.2.2.1.getD (c.2.2.2.1.getD x.toNat 0).toNat 0=x:=by have a:=fF.1 h.ids x h0 (by have:=h.li;omega);have b:=h.idt x h0 h1;exact⟨a.1,a.2,b.1,b.2⟩
theorem ShapeP.yes{c:aF}(h:ShapeP c){f g:Int}(h0:0<=f)(h1:f<c.2.1.length)(g0:0<=g)(g1:g<c.2.1.length)(e:c.2.2.1.getD f.toNat 0=c.2.1.getD g.toNat 0) :
  0<=bU c f g/\bU c f g<c.2.1.length/\c.2.1.getD (bU c f g).toNat 0=c.2.1.getD f.toNat 0/\c.2.2.1.getD (bU c f g).toNat 0=c.2.2.1.getD g.toNat 0:=by
 have:=h.cell f g h0 h1 g0 g1;unfold kg mt at this;rw[am e]at this;simpa using this
theorem ShapeP.no(h:ShapeP c)(h0:0<=f)(h1:f<c.2.1.length)(g0:0<=g)(g1:g<c.2.1.length)(e:c.2.2.1.getD f.toNat 0≠c.2.1.getD g.toNat 0):bU c f g=-1:=by have:=h.cell f g h0 h1 g0 g1;unfold kg mt at this;rw[ai e]at this;simpa using this
theorem ShapeP.comp(h:ShapeP c)(h0:0<=f)(h1:f<c.2.1.length)(g0:0<=g)(g1:g<c.2.1.length):0<=bU c f g<->c.2.2.1.getD f.toNat 0=c.2.1.getD g.toNat 0:=by
 constructor
 ·intro h2;by_cases e:c.2.2.1.getD f.toNat 0=c.2.1.getD g.toNat 0
  ·exact e
  ·have:=h.no h0 h1 g0 g1 e;omega
 ·intro e;exact (h.yes h0 h1 g0 g1 e).1
def ml(c:aF)(f:Int):Option FZ:=if bU c (c.2.2.2.1.getD (c.2.1.getD f.toNat 0).toNat 0) f≠f\/bU c f (c.2.2.2.1.getD (c.2.2.1.getD f.toNat 0).toNat 0)≠f then some (1,f,0,0)else none
def ot(c:aF)(f g h:Int):Option FZ:=if c.2.2.1.getD g.toNat 0=c.2.1.getD h.toNat 0/\bU c (bU c f g) h≠bU c f (bU c g h)then some (2,f,g,h)else none
def mj(c:aF)(f g:Int):Option FZ:=if c.2.2.1.getD f.toNat 0=c.2.1.getD g.toNat 0 then fK (ot c f g) c.2.1.length 0 else none
def ow(c:aF)(f:Int):Option FZ:=fK (mj c f) c.2.1.length 0
def iK(c:aF):Int×Int×Int×Int:=orR (fK (ml c) c.2.1.length 0) (orR (fK (ow c) c.2.1.length 0) (0,0,0,0))
def qC:Ct:=⟨[vG],[false],λx=>[ShapeP x.1],[(false,cA),(false,cA),(false,cA),(false,cA)],λx=>((iK x.1).1,(iK x.1).2.1,(iK x.1).2.2.1,(iK x.1).2.2.2,()),false,none⟩
def VB:Ann:=(.s .n (.s .n (.s (.s .n (.l [(7,(.d aq))] [] [0,6] .n)) (.s (.s .n (.l [(8,(.d aq))] [] [0,6] (.s .n (.s (.s .n (.l [(9,(.d aq))] [] [0,6,8] (.s .n (.s (.j [] [] [0,6,8,9] (.s .n (.s .n (.l [(10,(.d aq))] [] [0,6,8,9] .n)))) .n)))) .n)))) .n))))
def ahc:FuncId->Option Ct:=lkp [(51,si),(26,wF)]
def GD(c:aF)(K:Int×Int×Int×Int×Unit->Prop):Prop:=let v:=c.2.1.length;let o:=c.2.2.2.2.length;aI (S:=cZ) (λa b=>let p:=a.1.1;let a2:=c.2.1.getD p.toNat 0;let t:=c.2.2.1.getD p.toNat 0;let a0:=c.2.2.2.1.getD t.toNat 0;let m:=c.2.2.2.1.getD a2.toNat 0;let z:=bU c m p;Iq p<|cnd (decide (p<(v:Int))) (Ix p v<|Ix a2 c.2.2.2.1.length<|Ix m o<|Ix p (c.2.2.2.2.getD m.toNat []).length<|((z != p)=false->p<(c.2.2.1.length:Int)/\0<=p)/\((z != p)=false->t<(c.2.2.2.1.length:Int)/\0<=t)/\((z != p)=false->p<(o:Int)/\(Ix a0 (c.2.2.2.2.getD p.toNat []).length<|0<=p))/\cnd (z != p||bU c p a0 != p) (K (1,p,0,0,())) (Ik (p+1)<|b ((p+1,()),()))) (aI (S:=cZ) (λd e=>let w:=d.1.1;let r:=(c.2.2.2.2.getD w.toNat []).length;Iq w<|cnd (decide (w<(v:Int))) (aI (S:=cZ) (λf g=>let u:=f.1.1;let y:=(c.2.2.2.2.getD u.toNat []).length;let q:=bU c w u;Iq u<|cnd (decide (u<(v:Int))) (bZ (S:=(Unit×Unit)) (λh=>Ik (u+1)<|g ((u+1,()),())) (λi=>Ix w o<|Ix u r<|cnd (decide (q<0)) (i ((),())) (aI (S:=cZ) (λj l=>let x:=j.1.1;let a1:=bU c u x;let n:=decide (0<=a1);Iq x<|cnd (decide (x<(v:Int))) (Ix u o<|Ix x y<|(n=true->w<(o:Int)/\(Ix u r<|0<=w))/\(n=true->q<(o:Int)/\(Ix x (c.2.2.2.2.getD q.toNat []).length<|0<=q))/\(n=true->u<(o:Int)/\(Ix x y<|0<=u))/\(n=true->w<(o:Int)/\(Ix a1 r<|0<=w))/\cnd (n&&bU c q x != bU c w a1) (K (2,w,u,x,())) (Ik (x+1)<|l ((x+1,()),()))) (i ((),()))) ((0,()),())))) (Ik (w+1)<|e ((w+1,()),()))) ((0,()),())) (K (0,0,0,0,()))) ((0,()),()))) ((0,()),())
theorem VJ(c:aF)(hok:ab (okL qC.args (c,())))(hpre:ab (qC.pre (c,()))):GD c (λr=>r=qC.res (c,())):=by
 simp only[qC,okL,T.oks,T.ok,ap,ab,aL,aA,bf]at hok hpre
 try dsimp only[T.den]at hok hpre
 delta GD Ik Iq Ix
 dsimp -proj -eta only;have S:ShapeP c:=hpre;have hlt:=S.lt;have hli:=S.li;have hlc:=S.lc;have hmm:=S.m;have resq:∀a b d e,iK c=(a,b,d,e)->(a,b,d,e,())=qC.res (c,()):=λa b d e h=>by simp only[qC,h]
 refine il (n:=c.2.1.length) (λf=>fK (ml c) c.2.1.length 0=fK (ml c) ((c.2.1.length:Int)-f).toNat f) aa tB ?_ ?_
 ·intro f next h0 h1 hP hn hin
  try dsimp only
  obtain⟨a1,a2,a3,a4⟩:=S.frm h0 h1;obtain⟨b1,b2,_,_⟩:=S.idn a1 a2;obtain⟨d1,d2,_,_⟩:=S.idn a3 a4;have r1:=S.row _ b1 b2;have r2:=S.row f h0 h1;refine aE (λ_=>⟨h0,h1,aa,aa,aa,aa,h0,aa,λ_=>aa,λ_=>aa,λ_=>aa,aC (λhx=>resq _ _ _ _ ?_) (λhx=>⟨az,hn ?_⟩)⟩) (λh=>absurd h1 h)
  ·have:ml c f=some (1,f,0,0):=by unfold ml;rw[am];simpa using hx
   unfold iK;rw[hP,tC h1 this];rfl
  ·have:ml c f=none:=by unfold ml;rw[ai];simpa using hx
   rw[hP,t8 h1 this]
 intro next hI hin
 rw[tz]at hI;refine aE (λh=>absurd h ae) (λ_=>?_);have hF:iK c=orR (fK (ow c) c.2.1.length 0) (0,0,0,0):=by unfold iK;rw[hI];rfl
 refine il (n:=c.2.1.length) (λf=>fK (ow c) c.2.1.length 0=fK (ow c) ((c.2.1.length:Int)-f).toNat f) aa tB ?_ ?_
 ·intro f next h0 h1 hP hn hin
  try dsimp only
  refine aE (λ_=>?_) (λh=>absurd h1 h);have r1:=S.row f h0 h1;refine il (n:=c.2.1.length) (λg=>ow c f=fK (mj c f) ((c.2.1.length:Int)-g).toNat g) aa tB ?_ ?_
  ·intro g next3 g0 g1 hP3 hn3 hin3
   try dsimp only
   refine aE (λ_=>?_) (λh=>absurd g1 h);have r2:=S.row g g0 g1;refine cp (λ_=>mj c f g=none) (λ_ hG=>⟨az,hn3 (by rw[hP3,t8 g1 hG])⟩) (λk hk=>?_);have hk':=hk ((),());refine⟨aa,aa,aa,aa,aE (λhx=>hk' ?_) (λhx=>?_)⟩
   ·unfold mj;rw[ai];intro e;have:=(S.comp h0 h1 g0 g1).2 e;omega
   have hfg:=(S.comp h0 h1 g0 g1).1 aa;obtain⟨y1,y2,_,_⟩:=S.yes h0 h1 g0 g1 hfg;refine il (n:=c.2.1.length) (λh=>mj c f g=fK (ot c f g) ((c.2.1.length:Int)-h).toNat h) aa (by unfold mj;rw[am hfg];exact tB) ?_ ?_
   ·intro h next4 i0 i1 hP4 hn4 hin4
    try dsimp only
    refine aE (λ_=>?_) (λh=>absurd i1 h);have r3:=S.row _ y1 y2;have cgh:=S.comp g0 g1 i0 i1;have ygh:=@ShapeP.yes c S g h g0 g1 i0 i1;refine⟨aa,aa,aa,aa,λ_=>aa,λ_=>aa,λ_=>aa,λhe=>?_,aC (λhx=>resq _ _ _ _ ?_) (λhx=>⟨az,hn4 ?_⟩)⟩
    ·have:=ygh (cgh.1 (by simpa using he));omega
    ·have:ot c f g h=some (2,f,g,h):=by unfold ot;rw[am];rw[←cgh];simpa using hx
     have e1:mj c f g=some (2,f,g,h):=by rw[hP4,tC i1 this]
     have e2:ow c f=some (2,f,g,h):=by rw[hP3,tC g1 e1]
     rw[hF,hP,tC h1 e2];rfl
    ·have:ot c f g h=none:=by unfold ot;rw[ai];rw[←cgh];simpa using hx
     rw[hP4,t8 i1 this]
   ·intro next4 hP4 hin4;rw[tz]at hP4;exact aE (λh=>absurd h ae) (λ_=>hk' hP4)
  ·intro next3 hP3 hin3;rw[tz]at hP3;exact aE (λh=>absurd h ae) (λ_=>⟨az,hn (by rw[hP,t8 h1 hP3])⟩)
 ·intro next2 hP2 hin2;rw[tz]at hP2;refine aE (λh=>absurd h ae) (λ_=>resq _ _ _ _ ?_);rw[hF,hP2];rfl
theorem VD:aN Tryz.prog 50 qC:=ctb (au Cw (au GG aQ)) aR 50 Tryz.f50 qC VB [(5,38)] (λx K=>GD x.1 K) (λx h1 h2=>VJ x.1 h1 h2)
def lu:Ct:=⟨[bd],[false],λx=>[x.1.length<=1099511627776],[(false,cd)],λx=>(x.1,()),false,none⟩
abbrev oO:Type:=(List Int)×Unit->Prop
def Iz(list:aw)(K:oO):Prop:=aX 0 list.length 8/\K (list,())
theorem YO(list:aw):Mh lu (list,()) (Iz list):=by
 intro hok hpre;simp only[lu,okL,T.oks,T.ok,ap,ab,aL,aA,bf]at hok hpre
 try dsimp only[T.den]at hok hpre
 unfold Iz;have hl:list.length<=1099511627776:=hpre;exact⟨bh aa,rfl⟩
theorem jo:aN Tryz.prog 46 lu:=ctb aQ aR 46 Tryz.f46 lu .n [] (λx K=>Iz x.1 K) (λx h1 h2=>YO x.1 h1 h2)
structure PthsR (l:bg):Prop where
 n:l.length<=1000000
 e:∀p∈l,p.2.length<=1000000
def sn:Ct:=⟨[aW],[false],λx=>[PthsR x.1],[(false,(.sl Bl))],λx=>(x.1,()),false,none⟩
def Wl:Ann:=(.s .n (.s .n (.s (.s .n (.l Lz [(800003,ye)] [0] .n)) .n)))
def GX(list:bg)(K:(List aO)×Unit->Prop):Prop:=aI (S:=dT) (λa b=>let d:=a.1.2.1;let c:=list.getD d.toNat (0,[]);Iq d<|Oa aW a.2.1<|cnd (decide (d<(list.length:Int))) (Ix d list.length<|Ix d list.length<|c.2.length<=1099511627776/\aX a.2.1.length (c::([]:List aS)).length 32/\(Ik (d+1)<|b (((),d+1,()),a.2.1++c::([]:List aS),()))) (K (a.2.1,()))) (((),0,()),([]:List aS),())
theorem Wx(list:bg)(hok:ab (okL sn.args (list,())))(hpre:ab (sn.pre (list,()))):GX list (λr=>r=sn.res (list,())):=by
 simp only[sn,okL,T.oks,T.ok,ap,ab,aL,aA,bf]at hok hpre
 try dsimp only[T.den]at hok hpre
 delta GX Ik Iq Ix Oa
 dsimp -proj -eta only;have hP:PthsR list:=hpre;have hn:=hP.n;refine aY (λ(s:dT)=>0<=s.1.2.1/\s.1.2.1<=list.length/\s.2.1=list.take s.1.2.1.toNat) (λ(s:dT)=>(list.length-s.1.2.1).toNat) ?_ ⟨ak,ak,rfl⟩;rintro⟨⟨_,i,_⟩,out,_⟩ next ⟨i0,i1,q⟩ hnx
 intros
 try dsimp only at i0 i1 q hnx⊢
 subst q;refine aE (λhi=>?_) (λhi=>?_)
 ·have he:=hP.e _ (cC list (0,[]) i0 hi);have hl:(list.take i.toNat).length=i.toNat:=by rw[ez];omega
  have ht:=fY list (0,[]) i0 hi;exact⟨i0,hi,i0,hi,aa,bh (by rw[hl];simp only[aH,aM];omega),az,hnx _ ⟨ae,ae,ht.symm⟩ ae⟩
 ·simp only[sn];rw[jv list aa]
theorem Wi:aN Tryz.prog 21 sn:=ctb (au jo aQ) aR 21 Tryz.f21 sn Wl [(5,512)] (λx K=>GX x.1 K) (λx h1 h2=>Wx x.1 h1 h2)
def o9(c:aF)(ed:aw):Int->List Int->Int
 |h,[]=>h
 |h,e::r=>o9 c ed (bU c h (ed.getD e.toNat 0)) r
def dG(c:aF)(ed:aw)(p:aO):Int:=o9 c ed (c.2.2.2.1.getD p.1.toNat 0) p.2
def tT(c:aF)(ed:aw):Int->List Int->Prop
 |h,[]=>True
 |h,e::r=>(0<=e/\e<ed.length)/\(0<=ed.getD e.toNat 0/\ed.getD e.toNat 0<c.2.1.length)/\c.2.2.1.getD h.toNat 0=c.2.1.getD (ed.getD e.toNat 0).toNat 0/\tT c ed (bU c h (ed.getD e.toNat 0)) r
structure AroP (t:uK) (p:aO):Prop where
 s:ShapeP t.1
 p0:0<=p.1
 p1:p.1<t.1.1
 c:tT t.1 t.2.2 (t.1.2.2.2.1.getD p.1.toNat 0) p.2
def sq:Ct:=⟨[NU,eH],[true,true],λx=>[AroP x.1 x.2.1],[(false,cA)],λx=>(dG x.1.1 x.1.2.2 x.2.1,()),false,none⟩
def Xi:Ann:=(.s .n (.s .n (.s (.s .n (.l [(5,(.d aq)),(6,(.d aq))] [] [2,3] .n)) .n)))
def H6(t:uK)(p:aO)(K:jB):Prop:=Ix p.1 t.1.2.2.2.1.length<|aI (S:=(jf×Unit)) (λa b=>let e:=a.1.2.1;let d:=t.1.2.2.2.2.getD a.1.1.toNat [];let c:=p.2.getD e.toNat 0;let f:=t.2.2.getD c.toNat 0;Iq a.1.1<|Iq e<|cnd (decide (e<(p.2.length:Int))) (Ix a.1.1 t.1.2.2.2.2.length<|Ix e p.2.length<|Ix c t.2.2.length<|Ix f d.length<|Ik (e+1)<|b ((d.getD f.toNat 0,e+1,()),())) (K (a.1.1,()))) ((t.1.2.2.2.1.getD p.1.toNat 0,0,()),())
abbrev kZ:Type:=(jf×Unit)
theorem X0(t:uK)(p:aO)(hok:ab (okL sq.args (t,p,())))(hpre:ab (sq.pre (t,p,()))):H6 t p (λr=>r=sq.res (t,p,())):=by
 simp only[sq,okL,T.oks,T.ok,ap,ab,aL,aA,bf]at hok hpre
 try dsimp only[T.den]at hok hpre
 delta H6 Ik Iq Ix
 dsimp -proj -eta only;obtain⟨S,p0,p1,hc⟩:=hpre;have hid:=S.idn p0 p1;have hlc:=S.lc;have hli:=S.li;have hpl:p.2.length<=140737488355328:=by have:=hok.2.2.2.2.2.2.2.2.1;rw[bO]at this;exact this
 simp only[sq,dG];refine⟨p0,aa,?_⟩;generalize t.1.2.2.2.1.getD p.1.toNat 0=h0 at *;refine aY (λ(q:kZ)=>0<=q.1.2.1/\q.1.2.1<=p.2.length/\0<=q.1.1/\q.1.1<t.1.2.1.length/\tT t.1 t.2.2 q.1.1 (p.2.drop q.1.2.1.toNat)/\o9 t.1 t.2.2 h0 p.2=o9 t.1 t.2.2 q.1.1 (p.2.drop q.1.2.1.toNat)) (λ(q:kZ)=>(p.2.length-q.1.2.1).toNat) ?_ ⟨ak,ak,hid.1,hid.2.1,hc,rfl⟩;rintro⟨⟨h,i,_⟩,_⟩ next ⟨i0,i1,a0,a1,a2,a3⟩ hnx
 intros
 try dsimp only at i0 i1 a0 a1 a2 a3 hnx⊢
 refine aE (λhi=>?_) (λhi=>?_)
 ·rw[im p.2 0 i0 hi]at a2 a3;obtain⟨b1,b2,b3,b4⟩:=a2;have hr:=S.row h a0 a1;have y:=S.yes a0 a1 b2.1 b2.2 b3;refine⟨a0,aa,i0,hi,b1.1,b1.2,b2.1,by rw[hr];exact b2.2,az,hnx _ ⟨ae,ae,y.1,y.2.1,b4,?_⟩ ae⟩;rw[a3];rfl
 ·rw[a3,jt p.2 aa];rfl
theorem Xd:aN Tryz.prog 48 sq:=ctb aQ aR 48 Tryz.f48 sq Xi [(5,15)] (λx K=>H6 x.1 x.2.1 K) (λx h1 h2=>X0 x.1 x.2.1 h1 h2)
def pd:Ct:=⟨[(.pt lw),eH],[false,true],λx=>[AroP (x.1.2.1,(x.1.2.2.2,x.1.2.2.1)) x.2.1],[(false,cA)],λx=>(dG x.1.2.1 x.1.2.2.1 x.2.1,()),false,none⟩
def Vy:Ann:=(.s .n (.s .n (.s (.s .n (.l [(5,(.d aq)),(20,(.d aq))] [] [0,18,19] .n)) .n)))
def GA(k:T.den lw)(p:aO)(K:jB):Prop:=Ix p.1 k.2.1.2.2.2.1.length<|aI (S:=(jf×Unit)) (λa b=>let d:=a.1.2.1;let c:=p.2.getD d.toNat 0;let e:=k.2.2.1.getD c.toNat 0;Iq a.1.1<|Iq d<|cnd (decide (d<(p.2.length:Int))) (Ix d p.2.length<|Ix c k.2.2.1.length<|Ix a.1.1 k.2.1.2.2.2.2.length<|Ix e (k.2.1.2.2.2.2.getD a.1.1.toNat []).length<|Ik (d+1)<|b ((bU k.2.1 a.1.1 e,d+1,()),())) (K (a.1.1,()))) ((k.2.1.2.2.2.1.getD p.1.toNat 0,0,()),())
theorem V7(k:T.den lw)(p:aO)(hok:ab (okL pd.args (k,p,())))(hpre:ab (pd.pre (k,p,()))):GA k p (λr=>r=pd.res (k,p,())):=by
 simp only[pd,okL,T.oks,T.ok,ap,ab,aL,aA,bf]at hok hpre
 try dsimp only[T.den]at hok hpre
 delta GA Ik Iq Ix
 dsimp -proj -eta only;obtain⟨S,p0,p1,hc⟩:=hpre
 try dsimp only at S p0 p1 hc
 have hid:=S.idn p0 p1;have hlc:=S.lc;have hli:=S.li;have hpl:p.2.length<=140737488355328:=by have:=hok.2.2.2.2.2.2.2.2.2.2.2.2.2.1;rw[bO]at this;exact this
 clear hok;simp only[pd,dG];refine⟨p0,aa,?_⟩;generalize k.2.1.2.2.2.1.getD p.1.toNat 0=h0 at *;refine aY (λ(q:kZ)=>0<=q.1.2.1/\q.1.2.1<=p.2.length/\0<=q.1.1/\q.1.1<k.2.1.2.1.length/\tT k.2.1 k.2.2.1 q.1.1 (p.2.drop q.1.2.1.toNat)/\o9 k.2.1 k.2.2.1 h0 p.2=o9 k.2.1 k.2.2.1 q.1.1 (p.2.drop q.1.2.1.toNat)) (λ(q:kZ)=>(p.2.length-q.1.2.1).toNat) ?_ ⟨ak,ak,hid.1,hid.2.1,hc,rfl⟩;rintro⟨⟨h,i,_⟩,_⟩ next ⟨i0,i1,a0,a1,a2,a3⟩ hnx
 intros
 try dsimp only at i0 i1 a0 a1 a2 a3 hnx⊢
 refine aE (λhi=>?_) (λhi=>?_)
 ·rw[im p.2 0 i0 hi]at a2 a3;obtain⟨b1,b2,b3,b4⟩:=a2;have hr:=S.row h a0 a1;have y:=S.yes a0 a1 b2.1 b2.2 b3;refine⟨i0,hi,b1.1,b1.2,a0,aa,b2.1,by rw[hr];exact b2.2,az,hnx _ ⟨ae,ae,y.1,y.2.1,b4,?_⟩ ae⟩;rw[a3];rfl
 ·rw[a3,jt p.2 aa];rfl
theorem G1:aN Tryz.prog 28 pd:=ctb (au GG aQ) aR 28 Tryz.f28 pd Vy [(1,7),(5,511)] (λx K=>GA x.1 x.2.1 K) (λx h1 h2=>V7 x.1 x.2.1 h1 h2)
def ca(s:aB):Int->List Int->Int×Bool
 |n,[]=>(n,true)
 |n,e::r=>if inR e 0 ((s.2.1.length:Int)-1)=true/\s.2.1.getD e.toNat 0=n then ca s (s.2.2.1.getD e.toNat 0) r else (0,false)
def uw:Ct:=⟨[kH,aq,bd],[false,false,false],λx=>[x.1.2.1.length<=x.1.2.2.1.length],[(false,cA),(false,dS)],λx=>((ca x.1 x.2.1 x.2.2.1).1,(ca x.1 x.2.1 x.2.2.1).2,()),false,none⟩
def VK:Ann:=(.s .n (.s (.s .n (.l [(1,(.d aq)),(12,(.d aq))] [] [0,10,11] .n)) .n))
def GT(s:aB)(node:Int)(edges:aw)(K:Int×Bool×Unit->Prop):Prop:=let d:=s.2.1.length;aI (S:=(jf×Unit)) (λa b=>let e:=a.1.2.1;let c:=edges.getD e.toNat 0;Iq a.1.1<|Iq e<|cnd (decide (e<(edges.length:Int))) (Ix e edges.length<|Ik ((d:Int)-1)<|((!inR c 0 ((d:Int)-1))=false->c<(d:Int)/\0<=c)/\cnd (!inR c 0 ((d:Int)-1)||s.2.1.getD c.toNat 0 != a.1.1) (K (0,false,())) (Ix c s.2.2.1.length<|Ik (e+1)<|b ((s.2.2.1.getD c.toNat 0,e+1,()),()))) (K (a.1.1,true,()))) ((node,0,()),())
theorem VS(s:aB)(node:Int)(edges:aw):Mh uw (s,node,edges,()) (GT s node edges):=by
 intro hok hpre;simp only[uw,okL,T.oks,T.ok,ap,ab,aL,aA,bf]at hok hpre
 try dsimp only[T.den]at hok hpre
 delta GT Ik Iq Ix
 dsimp -proj -eta only;refine aY (λ(s1:kZ)=>0<=s1.1.2.1/\s1.1.2.1<=edges.length/\ca s node edges=ca s s1.1.1 (edges.drop s1.1.2.1.toNat)) (λ(s1:kZ)=>(edges.length-s1.1.2.1).toNat) ?_ ak;rintro⟨⟨nd,i,_⟩,_⟩ next ⟨h0,h1,h2⟩ hn ha hin
 simp only at h0 h1 h2 hn⊢;refine aE (λhc=>?_) (λhc=>?_)
 ·rw[im edges 0 h0 hc]at h2;simp only[ca]at h2;generalize edges.getD i.toNat 0=e at *
  grind[cnd,bO,cf,uw,inR]
 ·rw[jt edges aa]at h2;simp[ca,h2,uw]
theorem VR:aN Tryz.prog 58 uw:=ctb (au wT aQ) aR 58 Tryz.f58 uw VK [] (λx K=>GT x.1 x.2.1 x.2.2.1 K) (λx h1 h2=>VS x.1 x.2.1 x.2.2.1 h1 h2)
def aV(s:aB)(p:aO):Int×Bool:=if inR p.1 0 (s.1-1)=true/\p.2.length<=6 then ca s p.1 p.2 else (0,false)
def mS:Ct:=⟨[kH,eH],[false,true],λx=>[x.1.2.1.length<=x.1.2.2.1.length,inK .i64 (x.1.1-1)],[(false,cA),(false,dS)],λx=>((aV x.1 x.2.1).1,(aV x.1 x.2.1).2,()),false,none⟩
def ahq:FuncId->Option Ct:=lkp [(58,uw),(25,qH)]
def Hf(s:aB)(p:aO)(K:Int×Bool×Unit->Prop):Prop:=Ik (s.1-1)<|cnd (!inR p.1 0 (s.1-1)||decide (6<(p.2.length:Int))) (K (0,false,())) (s.2.1.length<=s.2.2.1.length/\K ((ca s p.1 p.2).1,(ca s p.1 p.2).2,()))
theorem WJ(s:aB)(p:aO)(hok:ab (okL mS.args (s,p,())))(hpre:ab (mS.pre (s,p,()))):Hf s p (λr=>r=mS.res (s,p,())):=by
 simp only[mS,okL,T.oks,T.ok,ap,ab,aL,aA,bf]at hok hpre
 try dsimp only[T.den]at hok hpre
 delta Hf Ik
 simp only[mS,aV]
 grind[cnd,bO,cf]
theorem u6:aN Tryz.prog 34 mS:=ctb (au VR (au wT aQ)) aR 34 Tryz.f34 mS .n [(1,15)] (λx K=>Hf x.1 x.2.1 K) (λx h1 h2=>WJ x.1 x.2.1 h1 h2)
def F3(s:aB)(p q:aO):Bool:=(aV s p).2&&(aV s q).2&&decide (p.1=q.1)&&decide ((aV s p).1=(aV s q).1)
def kI(s:aB):List aO->List aO->Bool
 |p::l,q::r=>F3 s p q&&kI s l r
 |_,_=>true
def bE(s:aB):Bool:=inR s.1 0 8&&decide (s.2.1.length<=8)&&decide (s.2.2.1.length=s.2.1.length)&&bD s.2.1 s.1&&bD s.2.2.1 s.1&&decide (s.2.2.2.1.length<=8)&&decide (s.2.2.2.2.length=s.2.2.2.1.length)&&kI s s.2.2.2.1 s.2.2.2.2
def mQ:Ct:=⟨[kH],[false],λx=>[],[(false,dS)],λx=>(bE x.1,()),false,none⟩
def Vv:Ann:=(.s .n (.s .n (.s .n (.s (.s .n (.l [(85,(.d aq))] [] [0,83,84] .n)) .n))))
def ahf:FuncId->Option Ct:=lkp [(34,mS),(25,qH),(33,qJ)]
def G8(s:aB)(K:fP):Prop:=let i:=inR s.1 0 8;let g:=s.2.2.2.1.length;let f:=s.2.2.1.length;let c:=s.2.1.length;let h:=decide (8<(c:Int));((!i||h||(f:Int) != (c:Int))=false->inK .i64 (s.1-1))/\((!i||h||(f:Int) != (c:Int)||!bD s.2.1 s.1)=false->inK .i64 (s.1-1))/\cnd (!i||h||(f:Int) != (c:Int)||!bD s.2.1 s.1||!bD s.2.2.1 s.1) (K (false,())) (cnd (decide (8<(g:Int))||(s.2.2.2.2.length:Int) != (g:Int)) (K (false,())) (aI (S:=cZ) (λa b=>let j:=a.1.1;let e:=s.2.2.2.2.getD j.toNat (0,[]);let d:=s.2.2.2.1.getD j.toNat (0,[]);Iq j<|cnd (decide (j<(g:Int))) (Ix j g<|Ix j s.2.2.2.2.length<|c<=f/\(Ik (s.1-1)<|c<=f/\(Ik (s.1-1)<|cnd (!(aV s d).2||!(aV s e).2||d.1 != e.1||(aV s d).1 != (aV s e).1) (K (false,())) (Ik (j+1)<|b ((j+1,()),()))))) (K (true,()))) ((0,()),())))
theorem V4(s:aB)(hok:ab (okL mQ.args (s,())))(hpre:ab (mQ.pre (s,()))):G8 s (λr=>r=mQ.res (s,())):=by
 simp only[mQ,okL,T.oks,T.ok,ap,ab,aL,aA,bf]at hok hpre
 try dsimp only[T.den]at hok hpre
 delta G8 Ik Iq Ix
 dsimp -proj -eta only;refine⟨by grind[cnd,bO,cf,inR],by grind[cnd,bO,cf,inR],aC (λhc=>?_) (λhc=>aC (λhd=>?_) (λhd=>?_))⟩
 ·grind[cnd,bO,cf,mQ,bE]
 ·grind[cnd,bO,cf,mQ,bE]
 have he:bE s=kI s s.2.2.2.1 s.2.2.2.2:=by grind[cnd,bO,cf,bE]
 simp only[mQ,he];simp only[inR,gV,jK,ao,cj,fS,fT]at hc hd;refine aY (λ(s1:cZ)=>0<=s1.1.1/\s1.1.1<=s.2.2.2.1.length/\kI s s.2.2.2.1 s.2.2.2.2=kI s (s.2.2.2.1.drop s1.1.1.toNat) (s.2.2.2.2.drop s1.1.1.toNat)) (λ(s1:cZ)=>(s.2.2.2.1.length-s1.1.1).toNat) ?_ ak;rintro⟨⟨i,_⟩,_⟩ next ⟨h0,h1,h2⟩ hn hin
 simp only at h0 h1 h2 hn⊢;refine aE (λhx=>?_) (λhx=>?_)
 ·rw[im s.2.2.2.1 (0,[]) h0 hx,im s.2.2.2.2 (0,[]) h0 aa]at h2;simp only[kI,F3]at h2;generalize s.2.2.2.1.getD i.toNat (0,[])=p at *;generalize s.2.2.2.2.getD i.toNat (0,[])=q at *;refine⟨aa,aa,aa,aa,aa,az,aa,az,aC (λhy=>?_) (λhy=>?_)⟩
  ·grind[cnd,bO,cf]
  ·grind[cnd,bO,cf]
 ·rw[jt s.2.2.2.1 aa]at h2;simp[kI,h2]
theorem Cu:aN Tryz.prog 16 mQ:=ctb (au u6 (au wT (au HZ aQ))) aR 16 Tryz.f16 mQ Vv [(1,51),(3,19)] (λx K=>G8 x.1 K) (λx h1 h2=>V4 x.1 h1 h2)
def qN:Ct:=⟨[aq,aq,aq],[false,false,false],λx=>[],[(false,dS)],λx=>(inR x.1 x.2.1 x.2.2.1,()),false,none⟩
def I9(n low high:Int)(K:fP):Prop:=K (decide (low<=n)&&decide (n<=high),())
theorem YR(n low high:Int):Mh qN (n,low,high,()) (I9 n low high):=by
 intro hok hpre;simp only[qN,okL,T.oks,T.ok,ap,ab,aL,aA,bf]at hok hpre
 try dsimp only[T.den]at hok hpre
 unfold I9
 grind[cnd,bO,cf,qN,inR]
theorem Af:aN Tryz.prog 38 qN:=ctb aQ aR 38 Tryz.f38 qN .n [] (λx K=>I9 x.1 x.2.1 x.2.2.1 K) (λx h1 h2=>YR x.1 x.2.1 x.2.2.1 h1 h2)
def qM:Ct:=⟨[aq,bd],[false,false],λx=>[],[(false,dS)],λx=>(bD x.2.1 x.1,()),false,none⟩
def Yd:Ann:=(.s .n (.s (.s .n (.l vE [] [0,1] .n)) .n))
def Is(n:Int)(f:aw)(K:fP):Prop:=aI (S:=cZ) (λa b=>let d:=a.1.1;let c:=f.getD d.toNat 0;Iq d<|cnd (decide (d<(f.length:Int))) (Ix d f.length<|(decide (c<0)=false->d<(f.length:Int)/\0<=d)/\cnd (decide (c<0)||decide (n<=c)) (K (false,())) (Ik (d+1)<|b ((d+1,()),()))) (K (true,()))) ((0,()),())
theorem YF(n:Int)(f:aw):Mh qM (n,f,()) (Is n f):=by
 intro hok hpre;simp only[qM,okL,T.oks,T.ok,ap,ab,aL,aA,bf]at hok hpre
 try dsimp only[T.den]at hok hpre
 delta Is Ik Iq Ix
 dsimp -proj -eta only;refine aY (λ(s:cZ)=>0<=s.1.1/\s.1.1<=f.length/\bD f n=bD (f.drop s.1.1.toNat) n) (λ(s:cZ)=>(f.length-s.1.1).toNat) ?_ ak;rintro⟨⟨i,_⟩,_⟩ next ⟨h0,h1,h2⟩ hn hin
 simp only at h0 h1 h2 hn⊢;refine aE (λhc=>?_) (λhc=>?_)
 ·rw[im f 0 h0 hc]at h2;simp only[bD,oX]at h2
  grind[cnd,bO,cf,qM,bD,inR]
 ·rw[jt f aa]at h2
  grind[cnd,bO,cf,qM,bD]
theorem Da:aN Tryz.prog 39 qM:=ctb aQ aR 39 Tryz.f39 qM Yd [] (λx K=>Is x.1 x.2.1 K) (λx h1 h2=>YF x.1 x.2.1 h1 h2)
def dF(s:aB)(p:aO):Int:=if p.2.length=0 then p.1 else s.2.2.1.getD (p.2.getD (p.2.length-1) 0).toNat 0
def mV:Ct:=⟨[fV,eH],[true,true],λx=>[bD x.2.1.2 x.1.2.2.1.length=true],[(false,cA)],λx=>(dF x.1 x.2.1,()),false,none⟩
def I5(s:aB)(p:aO)(K:jB):Prop:=let b:=p.2.length;let a:=p.2.getD (Int.toNat ((b:Int)-1)) 0;cnd ((b:Int)==0) (K (p.1,())) (Ik ((b:Int)-1)<|Ix ((b:Int)-1) b<|Ix a s.2.2.1.length<|K (s.2.2.1.getD a.toNat 0,()))
theorem YH(s:aB)(p:aO)(hok:ab (okL mV.args (s,p,())))(hpre:ab (mV.pre (s,p,()))):I5 s p (λr=>r=mV.res (s,p,())):=by
 simp only[mV,okL,T.oks,T.ok,ap,ab,aL,aA,bf]at hok hpre
 try dsimp only[T.den]at hok hpre
 delta I5 Ik Ix
 dsimp -proj -eta only;simp only[mV,dF];refine aC (λhc=>?_) (λhc=>?_)
 ·grind[cnd,bO,cf]
 ·simp at hc;have hl:0<p.2.length:=by grind[cnd,bO,cf]
  have hi:((p.2.length:Int)-1).toNat=p.2.length-1:=aa
  have hm:p.2.getD (p.2.length-1) 0∈p.2:=by rw[←hi];exact cC p.2 0 aa aa
  have:=eU.1 hpre _ hm;rw[hi]
  grind[cnd,bO,cf,inR]
theorem wZ:aN Tryz.prog 41 mV:=ctb aQ aR 41 Tryz.f41 mV .n [(3,13)] (λx K=>I5 x.1 x.2.1 K) (λx h1 h2=>YH x.1 x.2.1 h1 h2)
def sK:Ct:=⟨[fV,eH],[true,true],λx=>[x.1.2.1.length<=x.1.2.2.1.length,inK .i64 (x.1.1-1)],[(false,dS)],λx=>((aV x.1 x.2.1).2,()),false,none⟩
def Xp:Ann:=(.s .n (.s .n (.s .n (.s (.s .n (.l [(5,(.d aq)),(6,(.d aq))] [] [2,3] .n)) .n))))
def ah4:FuncId->Option Ct:=lkp [(38,qN),(39,qM)]
def HX(s:aB)(p:aO)(K:fP):Prop:=let e:=p.2.length;Ik (s.1-1)<|cnd (!inR p.1 0 (s.1-1)||decide (6<(e:Int))||!bD p.2 (s.2.1.length:Int)) (K (false,())) (aI (S:=(jf×Unit)) (λa b=>let d:=a.1.2.1;let c:=p.2.getD d.toNat 0;Iq a.1.1<|Iq d<|cnd (decide (d<(e:Int))) (Ix d e<|Ix c s.2.1.length<|cnd (s.2.1.getD c.toNat 0 != a.1.1) (K (false,())) (Ix d e<|Ix c s.2.2.1.length<|Ik (d+1)<|b ((s.2.2.1.getD c.toNat 0,d+1,()),()))) (K (true,()))) ((p.1,0,()),()))
theorem Y2(s:aB)(p:aO)(hok:ab (okL sK.args (s,p,())))(hpre:ab (sK.pre (s,p,()))):HX s p (λr=>r=sK.res (s,p,())):=by
 simp only[sK,okL,T.oks,T.ok,ap,ab,aL,aA,bf]at hok hpre
 try dsimp only[T.den]at hok hpre
 delta HX Ik Iq Ix
 dsimp -proj -eta only;simp only[sK,aV]
 have key:∀(nd:Int)(l:aw),(ca s nd l).2=true->bD l s.2.1.length=true:=by
  intro nd l
  induction l generalizing nd with
  |nil=>intro _;rfl
  |cons e l ih=>
   simp only[ca];split
   ·rename_i h;intro hf;simp only[bD,oX];have:=ih _ hf;simp only[bD]at this;rw[this,h.1];rfl
   ·intro h;cases h
 refine⟨hpre.2,aC (λhc=>?_) (λhc=>?_)⟩
 ·have:=key p.1 p.2
  grind[cnd,bO,cf]
 ·simp only[inR,gV,jK,ao,cj,fS]at hc;rw[am ⟨by simp[inR,hc.1.1],aa⟩];refine aY (λ(s1:kZ)=>0<=s1.1.2.1/\s1.1.2.1<=p.2.length/\ca s p.1 p.2=ca s s1.1.1 (p.2.drop s1.1.2.1.toNat)) (λ(s1:kZ)=>(p.2.length-s1.1.2.1).toNat) ?_ ak;rintro⟨⟨nd,i,_⟩,_⟩ next ⟨h0,h1,h2⟩ hn ha hin
  simp only at h0 h1 h2 hn⊢;refine aE (λhx=>?_) (λhx=>?_)
  ·have hm:=eU.1 hc.2 _ (cC p.2 0 h0 hx);rw[im p.2 0 h0 hx]at h2;simp only[ca,hm,aL]at h2;generalize p.2.getD i.toNat 0=e at *;simp only[inR,ao,cj]at hm
   grind[cnd,bO,cf]
  ·rw[jt p.2 aa]at h2;simp[ca,h2]
theorem X4:aN Tryz.prog 40 sK:=ctb (au Af (au Da aQ)) aR 40 Tryz.f40 sK Xp [(7,11),(9,10)] (λx K=>HX x.1 x.2.1 K) (λx h1 h2=>Y2 x.1 x.2.1 h1 h2)
theorem IF(s:aB):∀(nd:Int)(l:aw),(ca s nd l).2=true->(ca s nd l).1=if l.length=0 then nd else s.2.2.1.getD (l.getD (l.length-1) 0).toNat 0
 |nd,[],_=>rfl
 |nd,e::r,h=>by
  simp only[ca]at h⊢;split at h
  ·rename_i hc;rw[am hc];rw[IF s _ r h]
   cases r with
   |nil|cons e' r'=>simp
  ·cases h
theorem I0(s:aB):∀(nd:Int)(l:aw),(ca s nd l).2=true->bD l s.2.1.length=true
 |nd,[],_=>rfl
 |nd,e::r,h=>by
  simp only[ca]at h;split at h
  ·rename_i hc;have:=I0 s _ r h;simp only[bD,oX]at this⊢;rw[this,hc.1];rfl
  ·cases h
theorem gX{s:aB}{p:aO}(h:(aV s p).2=true):dF s p=(aV s p).1/\bD p.2 s.2.1.length=true:=by
 unfold aV at h⊢;split at h
 ·rename_i hc;rw[am hc];exact⟨(IF s _ _ h).symm,I0 s _ _ h⟩
 ·cases h
def mT:Ct:=⟨[fV],[true],λx=>[],[(false,dS)],λx=>(bE x.1,()),false,none⟩
def W7:Ann:=(.s .n (.s .n (.s (.s .n (.l [(3,(.d aq))] [] [1] .n)) .n)))
def ahx:FuncId->Option Ct:=lkp [(38,qN),(39,qM),(41,mV),(40,sK)]
def H5(s:aB)(K:fP):Prop:=let g:=s.2.1.length;let f:=s.2.2.2.1.length;let e:=s.2.2.1.length;cnd (!inR s.1 0 8||decide (8<(g:Int))||(e:Int) != (g:Int)||!bD s.2.1 s.1||!bD s.2.2.1 s.1||decide (8<(f:Int))||(s.2.2.2.2.length:Int) != (f:Int)) (K (false,())) (aI (S:=cZ) (λa b=>let i:=a.1.1;let d:=s.2.2.2.2.getD i.toNat (0,[]);let j:=(aV s d).2;let c:=s.2.2.2.1.getD i.toNat (0,[]);let h:=(aV s c).2;Iq i<|cnd (decide (i<(f:Int))) (Ix i f<|Ix i s.2.2.2.2.length<|g<=e/\(Ik (s.1-1)<|((!h)=false->(Ik (s.1-1)<|g<=e))/\((!h||!j||c.1 != d.1)=false->bD c.2 (e:Int)=true)/\((!h||!j||c.1 != d.1)=false->bD d.2 (e:Int)=true)/\cnd (!h||!j||c.1 != d.1||dF s c != dF s d) (K (false,())) (Ik (i+1)<|b ((i+1,()),())))) (K (true,()))) ((0,()),()))
theorem XR(s:aB)(hok:ab (okL mT.args (s,())))(hpre:ab (mT.pre (s,()))):H5 s (λr=>r=mT.res (s,())):=by
 simp only[mT,okL,T.oks,T.ok,ap,ab,aL,aA,bf]at hok hpre
 try dsimp only[T.den]at hok hpre
 delta H5 Ik Iq Ix
 dsimp -proj -eta only;refine aC (λhc=>?_) (λhc=>?_)
 ·grind[cnd,bO,cf,mT,bE]
 have he:bE s=kI s s.2.2.2.1 s.2.2.2.2:=by grind[cnd,bO,cf,bE]
 simp only[mT,he];simp only[inR,gV,jK,ao,cj,fS,fT]at hc;refine aY (λ(s1:cZ)=>0<=s1.1.1/\s1.1.1<=s.2.2.2.1.length/\kI s s.2.2.2.1 s.2.2.2.2=kI s (s.2.2.2.1.drop s1.1.1.toNat) (s.2.2.2.2.drop s1.1.1.toNat)) (λ(s1:cZ)=>(s.2.2.2.1.length-s1.1.1).toNat) ?_ ak;rintro⟨⟨i,_⟩,_⟩ next ⟨h0,h1,h2⟩ hn hin
 simp only at h0 h1 h2 hn⊢;refine aE (λhx=>?_) (λhx=>?_)
 ·rw[im s.2.2.2.1 (0,[]) h0 hx,im s.2.2.2.2 (0,[]) h0 aa]at h2;simp only[kI,F3]at h2;generalize s.2.2.2.1.getD i.toNat (0,[])=p at *;generalize s.2.2.2.2.getD i.toNat (0,[])=q at *;have ep:=@gX s p;have eq:=@gX s q;have hl:s.2.2.1.length=s.2.1.length:=aa
  rw[hl];refine⟨aa,aa,aa,aa,aa,az,λ_=>⟨az,aa⟩,λhy=>?_,λhy=>?_,aC (λhy=>?_) (λhy=>?_)⟩
  ·grind[cnd,bO,cf]
  ·grind[cnd,bO,cf]
  ·grind[cnd,bO,cf]
  ·grind[cnd,bO,cf]
 ·rw[jt s.2.2.2.1 aa]at h2;simp[kI,h2]
theorem wN:aN Tryz.prog 19 mT:=ctb (au Af (au Da (au wZ (au X4 aQ)))) aR 19 Tryz.f19 mT W7 [(6,2012),(7,23)] (λx K=>H5 x.1 K) (λx h1 h2=>XR x.1 h1 h2)
def oh(s:aB)(p:aO):Bool:=bE s&&(aV s p).2
theorem ZI{s:aB}(h:bE s=true):0<=s.1/\s.1<=8/\s.2.2.1.length=s.2.1.length:=by simp only[bE,inR,ao,cj]at h;exact⟨h.1.1.1.1.1.1.1.1,h.1.1.1.1.1.1.1.2,h.1.1.1.1.1.2⟩
def wG:Ct:=⟨[kH,eH],[false,true],λx=>[],[(false,dS)],λx=>(oh x.1 x.2.1,()),false,none⟩
def ahj:FuncId->Option Ct:=lkp [(34,mS),(16,mQ)]
def GN(s:aB)(p:aO)(K:fP):Prop:=cnd (!bE s) (K (false,())) (s.2.1.length<=s.2.2.1.length/\(Ik (s.1-1)<|K ((aV s p).2,())))
theorem VV(s:aB)(p:aO):Mh wG (s,p,()) (GN s p):=by
 intro hok hpre;simp only[wG,okL,T.oks,T.ok,ap,ab,aL,aA,bf]at hok hpre
 try dsimp only[T.den]at hok hpre
 delta GN Ik
 have:=@ZI s
 grind[cnd,bO,cf,wG,oh]
theorem Mz:aN Tryz.prog 52 wG:=ctb (au u6 (au Cu aQ)) aR 52 Tryz.f52 wG .n [] (λx K=>GN x.1 x.2.1 K) (λx h1 h2=>VV x.1 x.2.1 h1 h2)
def sO:Ct:=⟨[bd],[false],λx=>[x.1.length<=1099511627776],[(false,cd)],λx=>(x.1,()),false,none⟩
def IA(list:aw)(K:oO):Prop:=aX 0 list.length 8/\K (list,())
theorem Zh(list:aw):Mh sO (list,()) (IA list):=by
 intro hok hpre;simp only[sO,okL,T.oks,T.ok,ap,ab,aL,aA,bf]at hok hpre
 try dsimp only[T.den]at hok hpre
 unfold IA;have hl:list.length<=1099511627776:=hpre;exact⟨bh aa,rfl⟩
theorem uM:aN Tryz.prog 37 sO:=ctb aQ aR 37 Tryz.f37 sO .n [] (λx K=>IA x.1 K) (λx h1 h2=>Zh x.1 h1 h2)
def dU:List Int->List Int->Int
 |[],[]=>0
 |[],_::_=>-1
 |_::_,[]=>1
 |x::a,y::b=>if x=y then dU a b else if x<y then -1 else 1
theorem xF{a b:aw}:dU a b=0<->a=b:=by
 induction a generalizing b with
 |nil=>cases b<;>simp[dU]
 |cons x a ih=>cases b with
  |nil=>simp[dU]
  |cons y b=>
   simp only[dU,bH];by_cases h:x=y
   ·rw[am h,ih];simp[h]
   ·rw[ai h];split<;>simp[h]
def mW:Ct:=⟨[bd,bd],[false,false],λx=>[],[(false,cA)],λx=>(dU x.1 x.2.1,()),false,none⟩
def XB:Ann:=(.s .n (.s (.s .n (.l [(8,(.d aq))] [] [0,1,7] .n)) .n))
def HU(a b:aw)(K:jB):Prop:=aI (S:=cZ) (λc d=>let e:=c.1.1;Iq e<|cnd (decide (e<(a.length:Int))) (cnd (e==(b.length:Int)) (K (1,())) (Ix e a.length<|Ix e b.length<|cnd (a.getD e.toNat 0 != b.getD e.toNat 0) (Ix e a.length<|Ix e b.length<|cnd (decide (a.getD e.toNat 0<b.getD e.toNat 0)) (K (-1,())) (K (1,()))) (Ik (e+1)<|d ((e+1,()),())))) (cnd (decide ((a.length:Int)<(b.length:Int))) (K (-1,())) (K (0,())))) ((0,()),())
theorem Y0(a b:aw)(hok:ab (okL mW.args (a,b,())))(hpre:ab (mW.pre (a,b,()))):HU a b (λr=>r=mW.res (a,b,())):=by
 simp only[mW,okL,T.oks,T.ok,ap,ab,aL,aA,bf]at hok hpre
 try dsimp only[T.den]at hok hpre
 delta HU Ik Iq Ix
 dsimp -proj -eta only;have ha:a.length<=140737488355328:=by simp only[bO]at hok;omega
 clear hok;refine il (n:=a.length) (λi=>i<=b.length/\dU a b=dU (a.drop i.toNat) (b.drop i.toNat)) aa ⟨aa,ak⟩ ?_ ?_
 ·intro i next i0 i1 hP hn hin
  obtain⟨hb,hP⟩:=hP;rw[im a 0 i0 i1]at hP;refine aE (λ_=>aC (λh=>?_) (λh=>?_)) (λh=>absurd i1 h)
  ·rw[cR]at h;rw[jt b (by dsimp only at h;omega)]at hP;simp only[mW,hP,dU]
  ·rw[iH]at h
   try dsimp only at h⊢
   rw[im b 0 i0 aa]at hP;simp only[dU]at hP;have hiK:inK .i64 (i+1):=az
   refine⟨i0,i1,i0,aa,aC (λh1=>?_) (λh1=>?_)⟩
   ·rw[qu]at h1;rw[ai h1]at hP;refine⟨i0,i1,i0,aa,aE (λh2=>?_) (λh2=>?_)⟩
    ·rw[am h2]at hP;simp only[mW,hP]
    ·rw[ai h2]at hP;simp only[mW,hP]
   ·rw[fT]at h1;rw[am h1]at hP;exact⟨hiK,hn ⟨aa,hP⟩⟩
 ·intro next hP hin
  obtain⟨hb,hP⟩:=hP;rw[jt a (cB _)]at hP;refine aE (λh=>absurd h ae) (λ_=>aE (λh=>?_) (λh=>?_))
  ·rw[im b 0 aa h]at hP;simp only[mW,hP,dU]
  ·rw[jt b aa]at hP;simp only[mW,hP,dU]
theorem H7:aN Tryz.prog 97 mW:=ctb aQ aR 97 Tryz.f97 mW XB [(6,9),(7,9)] (λx K=>HU x.1 x.2.1 K) (λx h1 h2=>Y0 x.1 x.2.1 h1 h2)
def sT:Ct:=⟨[bd,bd],[false,false],λx=>[],[(false,dS)],λx=>(eqR bd x.1 x.2.1,()),false,none⟩
def ID(a b:aw)(K:fP):Prop:=K (dU a b==0,())
theorem Zo(a b:aw)(hok:ab (okL sT.args (a,b,())))(hpre:ab (sT.pre (a,b,()))):ID a b (λr=>r=sT.res (a,b,())):=by
 simp only[sT,okL,T.oks,T.ok,ap,ab,aL,aA,bf]at hok hpre
 try dsimp only[T.den]at hok hpre
 unfold ID;have h:=@xF a b;have h2:(dU a b==0)=eqR bd a b:=by rw[Bool.eq_iff_iff,cR,h,gi]
 simp only[sT,h2]
theorem YW:aN Tryz.prog 119 sT:=ctb (au H7 aQ) aR 119 Tryz.f119 sT .n [] (λx K=>ID x.1 x.2.1 K) (λx h1 h2=>Zo x.1 x.2.1 h1 h2)
structure UfP (j:aw):Prop where
 le:∀i:Int,0<=i->i<j.length->0<=j.getD i.toNat 0/\j.getD i.toNat 0<=i
def tN:Nat->List Int->Int->List Int×Int
 |0,j,x=>(j,x)
 |n+1,j,x=>if j.getD x.toNat 0=x then (j,x)else tN n (j.set x.toNat (j.getD (j.getD x.toNat 0).toNat 0)) (j.getD (j.getD x.toNat 0).toNat 0)
def d6(j:aw)(x:Int):List Int×Int:=tN j.length j x
def ub:Nat->List Int->Int->Int
 |0,_,x=>x
 |n+1,j,x=>if j.getD x.toNat 0=x then x else ub n j (j.getD x.toNat 0)
def cE(j:aw)(x:Int):Int:=ub j.length j x
theorem T7{j:aw}(U:UfP j):∀(n:Nat)(x:Int),0<=x->x<j.length->x.toNat<=n->ub (n+1) j x=ub n j x
 |0,x,x0,x1,h=>by have:=U.le x x0 x1;simp only[ub];rw[am aa]
 |n+1,x,x0,x1,h=>by
  have:=U.le x x0 x1;show (if j.getD x.toNat 0=x then x else ub (n+1) j (j.getD x.toNat 0))=(if j.getD x.toNat 0=x then x else ub n j (j.getD x.toNat 0));split
  ·rfl
  ·exact T7 U n _ this.1 aa aa
theorem pI(U:UfP j)(x0:0<=x)(x1:x<j.length):cE j x=if j.getD x.toNat 0=x then x else cE j (j.getD x.toNat 0):=by
 have:=U.le x x0 x1;unfold cE;obtain⟨m,hm⟩:∃m,j.length=m+1:=⟨j.length-1,aa⟩;rw[hm]
 conv=>lhs;rw[ub]
 split
 ·rfl
 ·rw[T7 U m _ this.1 aa aa]
theorem KY{p:Int->Prop}(h:∀x:Int,0<=x->x<j.length->(∀y:Int,0<=y->y<x->p y)->p x)(x0:0<=x)(x1:x<j.length):p x:=by
 have key:∀n:Nat,∀x:Int,0<=x->x<j.length->x.toNat<n->p x:=by
  intro n
  induction n with
  |zero=>intro x _ _ hx;omega
  |succ n ih=>intro x x0 x1 hx;exact h x x0 x1 λy y0 y1=>ih y y0 aa aa
 exact key (x.toNat+1) x x0 x1 aa
theorem Fg(U:UfP j)(x0:0<=x)(x1:x<j.length):0<=cE j x/\cE j x<=x/\j.getD (cE j x).toNat 0=cE j x:=by
 refine KY (j:=j) (p:=λx=>0<=cE j x/\cE j x<=x/\j.getD (cE j x).toNat 0=cE j x) (λx x0 x1 ih=>?_) x0 x1;have:=U.le x x0 x1;rw[pI U x0 x1];split
 ·rename_i h;exact⟨x0,cB _,h⟩
 ·rename_i h;have hp:=ih _ this.1 aa;exact⟨hp.1,aa,hp.2.2⟩
theorem pp(U:UfP j)(x0:0<=x)(x1:x<j.length)(h:j.getD x.toNat 0=x):cE j x=x:=by rw[pI U x0 x1,am h]
theorem EK{j:aw}{x y v:Int}(x0:0<=x)(x1:x<j.length)(y0:0<=y):(j.set x.toNat v).getD y.toNat 0=if y=x then v else j.getD y.toNat 0:=by
 rw[ly _ _ _ _ _ aa];by_cases h:y=x
 ·rw[am h,am (by rw[h])]
 ·rw[ai h,ai aa]
theorem t7(U:UfP j)(x0:0<=x)(x1:x<j.length)(v0:0<=v)(v1:v<=x):UfP (j.set x.toNat v):=by
 refine⟨λi i0 i1=>?_⟩;rw[fx]at i1;rw[EK x0 x1 i0];split
 ·omega
 ·exact U.le i i0 i1
theorem Qy(U:UfP j)(x0:0<=x)(x1:x<j.length)(y0:0<=y)(y1:y<j.length):cE (j.set x.toNat (j.getD (j.getD x.toNat 0).toNat 0)) y=cE j y:=by
 have hx:=U.le x x0 x1;have hp:=U.le _ hx.1 aa;have U':=t7 U x0 x1 hp.1 aa;refine KY (j:=j) (p:=λy=>cE (j.set x.toNat (j.getD (j.getD x.toNat 0).toNat 0)) y=cE j y) (λy y0 y1 ih=>?_) y0 y1;rw[pI U' y0 (by rw[fx];exact y1),EK x0 x1 y0];by_cases h:y=x
 ·subst h;simp only[eX];split
  ·rename_i hq;have:j.getD y.toNat 0=y:=aa
   rw[pp U y0 y1 this]
  ·rename_i hq;rw[ih _ hp.1 aa];rw[pI U y0 y1];have hne:¬j.getD y.toNat 0=y:=λe=>hq (by rw[e,e]);rw[ai hne,pI U hx.1 aa];split
   ·rename_i he;rw[he];exact pp U hx.1 aa he
   ·rfl
 ·simp only[ai h];have hy:=U.le y y0 y1;rw[pI U y0 y1];split
  ·rfl
  ·exact ih _ hy.1 aa
theorem Rk{j:aw}(U:UfP j):∀(n:Nat)(j:aw)(x:Int),UfP j->0<=x->x<j.length->x.toNat<=n->tN (n+1) j x=tN n j x
 |0,j,x,U,x0,x1,h=>by have:=U.le x x0 x1;simp only[tN];rw[am aa]
 |n+1,j,x,U,x0,x1,h=>by
  have hx:=U.le x x0 x1;have hp:=U.le _ hx.1 aa;show (if j.getD x.toNat 0=x then (j,x)else tN (n+1) (j.set x.toNat (j.getD (j.getD x.toNat 0).toNat 0)) (j.getD (j.getD x.toNat 0).toNat 0))=(if j.getD x.toNat 0=x then (j,x)else tN n (j.set x.toNat (j.getD (j.getD x.toNat 0).toNat 0)) (j.getD (j.getD x.toNat 0).toNat 0));split
  ·rfl
  ·exact Rk U n _ _ (t7 U x0 x1 hp.1 aa) hp.1 (by rw[fx];omega) aa
theorem TA(U:UfP j)(x0:0<=x)(x1:x<j.length):d6 j x=if j.getD x.toNat 0=x then (j,x)else d6 (j.set x.toNat (j.getD (j.getD x.toNat 0).toNat 0)) (j.getD (j.getD x.toNat 0).toNat 0):=by
 have hx:=U.le x x0 x1;have hp:=U.le _ hx.1 aa;unfold d6;rw[fx];obtain⟨m,hm⟩:∃m,j.length=m+1:=⟨j.length-1,aa⟩;rw[hm]
 conv=>lhs;rw[tN]
 split
 ·rfl
 ·rw[Rk U m _ _ (t7 U x0 x1 hp.1 aa) hp.1 (by rw[fx];omega) aa]
theorem To:∀(n:Nat) {j:aw},UfP j->∀{x:Int},0<=x->x<j.length->x.toNat<n->UfP (d6 j x).1/\(d6 j x).1.length=j.length/\(d6 j x).2=cE j x/\∀y:Int,0<=y->y<j.length->cE (d6 j x).1 y=cE j y
 |0,j,U,x,x0,x1,h=>aa
 |n+1,j,U,x,x0,x1,h=>by
  have hx:=U.le x x0 x1;have hp:=U.le _ hx.1 aa;have U':=t7 U x0 x1 hp.1 aa;rw[TA U x0 x1];split
  ·rename_i he;exact⟨U,rfl,(pp U x0 x1 he).symm,λy _ _=>rfl⟩
  ·rename_i he;obtain⟨h1,h2,h3,h4⟩:=To n U' hp.1 (by rw[fx];omega) aa;rw[fx]at h2;refine⟨h1,h2,?_,λy y0 y1=>?_⟩
   ·rw[h3,Qy U x0 x1 hp.1 aa];rw[pI U x0 x1,ai he];by_cases hq:j.getD (j.getD x.toNat 0).toNat 0=j.getD x.toNat 0
    ·rw[hq]
    ·rw[pI U hx.1 aa,ai hq]
   ·rw[h4 y y0 (by rw[fx];exact y1),Qy U x0 x1 y0 y1]
theorem AE(U:UfP j)(x0:0<=x)(x1:x<j.length):UfP (d6 j x).1/\(d6 j x).1.length=j.length/\(d6 j x).2=cE j x/\∀y:Int,0<=y->y<j.length->cE (d6 j x).1 y=cE j y:=To (x.toNat+1) U x0 x1 aa
def sk:Wt:=⟨cd,[aq],[false],λx y=>[UfP x,0<=y.1,y.1<x.length],λx y=>(d6 x y.1).1,[(false,cA)],λx y=>((d6 x y.1).2,()),0⟩
def ML:Ct:=iO sk
def Wh:Ann:=(.s .n (.s (.l [(0,(.ref 1000000 [])),(1,(.d aq))] [(1000000,cd)] [] .n) .n))
def MG(j:aw)(x:Int)(K:(List Int)->(Int×Unit)->Prop):Prop:=aI (S:=(dW×cV)) (λa b=>let f:=a.2.1.length;let d:=a.1.2.1;let e:=a.2.1.getD d.toNat 0;let c:=List.set a.2.1 d.toNat (a.2.1.getD e.toNat 0);Iq d<|Ol a.2.1<|Ix d f<|cnd (e != d) (Ix d f<|Ix e f<|Ix d f<|Ix d c.length<|b (((),c.getD d.toNat 0,()),c,())) (K a.2.1 (d,()))) (((),x,()),j,())
abbrev yE:Type:=(dW×cV)
theorem Wd(j:aw)(x:Int)(hok:ab (sk.o.strip.oks j))(hok2:ab (okL sk.as (x,())))(hpre:ab (sk.pre j (x,()))):MG j x (λz r=>z=sk.new j (x,())/\r=sk.res j (x,())):=by
 simp only[sk,O.strip,okL,T.oks,T.ok,ap,ab,aL,aA,bf]at hok hok2 hpre
 try dsimp only[T.den]at hok
 try dsimp only[T.den]at hok2
 try dsimp only[T.den]at hpre
 delta MG Iq Ix Ol
 dsimp -proj -eta only;obtain⟨U,x0,x1⟩:=hpre;clear hok;refine aY (λ(s:yE)=>UfP s.2.1/\0<=s.1.2.1/\s.1.2.1<s.2.1.length/\d6 s.2.1 s.1.2.1=d6 j x) (λ(s:yE)=>s.1.2.1.toNat) ?_ ⟨U,x0,x1,rfl⟩;rintro⟨⟨_,y,_⟩,l,_⟩ next ⟨V,y0,y1,hr⟩ hn _ _
 try dsimp only at V y0 y1 hr hn⊢
 have hy:=V.le y y0 y1;have hp:=V.le _ hy.1 aa;rw[TA V y0 y1]at hr;refine⟨y0,y1,aC (λhx=>?_) (λhx=>?_)⟩
 ·have hne:¬l.getD y.toNat 0=y:=by simpa using hx
  rw[ai hne]at hr;have hs:=@EK l y y (l.getD (l.getD y.toNat 0).toNat 0) y0 y1 y0;rw[am rfl]at hs;refine⟨y0,y1,hy.1,aa,y0,y1,y0,by rw[fx];exact y1,?_⟩;rw[hs];exact hn _ ⟨t7 V y0 y1 hp.1 aa,hp.1,by dsimp only;rw[fx];omega,hr⟩ ae
 ·have he:l.getD y.toNat 0=y:=by simpa using hx
  rw[am he]at hr;exact⟨congrArg Prod.fst hr,congrArg (λz:List Int×Int=>(z.2,())) hr⟩
theorem M8:aN Tryz.prog 120 ML:=wtb aQ aR 120 Tryz.f120 sk Wh [] (λx y h1 h2 h3=>Eq.mp (by kernel_rfl) (Wd x y.1 h1 h2 h3))
def UH(j:aw)(a b:Int):List Int:=j.set (mxR a b).toNat (mnR a b)
def lC(j:aw)(x y:Int):List Int×Bool:=(UH (d6 (d6 j x).1 y).1 (d6 j x).2 (d6 (d6 j x).1 y).2,(d6 j x).2 != (d6 (d6 j x).1 y).2)
theorem mm_p(a b:Int):(mxR a b=a/\mnR a b=b/\b<=a)\/(mxR a b=b/\mnR a b=a/\a<=b):=by unfold mxR mnR;split<;>split<;>omega
theorem PA(U:UfP j){m n:Int}(m1:m<j.length)(n0:0<=n)(h:n<=m)(hm:j.getD m.toNat 0=m)(hn:j.getD n.toNat 0=n)(y0:0<=y)(y1:y<j.length):
  cE (j.set m.toNat n) y=if cE j y=m then n else cE j y:=by
 have m0:0<=m:=aa
 have U':=t7 U m0 m1 n0 h;refine KY (j:=j) (p:=λy=>cE (j.set m.toNat n) y=if cE j y=m then n else cE j y) (λy y0 y1 ih=>?_) y0 y1;rw[pI U' y0 (by rw[fx];exact y1),EK m0 m1 y0];by_cases e:y=m
 ·subst e;simp only[eX];rw[pp U y0 y1 hm,am rfl];split
  ·rename_i h1;exact h1.symm
  ·rename_i h1;rw[ih n n0 aa,pp U n0 aa hn,ai h1]
 ·simp only[ai e];have hy:=U.le y y0 y1;split
  ·rename_i h1;rw[pp U y0 y1 h1,ai e]
  ·rename_i h1;rw[ih _ hy.1 aa,pI U y0 y1,ai h1]
theorem IQ(U:UfP j)(x0:0<=x)(x1:x<j.length)(y0:0<=y)(y1:y<j.length):
  UfP (lC j x y).1/\(lC j x y).1.length=j.length/\((∀z:Int,0<=z->z<j.length->cE (lC j x y).1 z=if cE j z=cE j x then cE j y else cE j z)\/∀z:Int,0<=z->z<j.length->cE (lC j x y).1 z=if cE j z=cE j y then cE j x else cE j z):=by
 obtain⟨a1,a2,a3,a4⟩:=AE U x0 x1;obtain⟨b1,b2,b3,b4⟩:=AE a1 y0 aa;have hl:(d6 (d6 j x).1 y).1.length=j.length:=by rw[b2,a2]
 have hr:∀z:Int,0<=z->z<j.length->cE (d6 (d6 j x).1 y).1 z=cE j z:=λz z0 z1=>by rw[b4 z z0 aa,a4 z z0 z1]
 have hx:(d6 j x).2=cE (d6 (d6 j x).1 y).1 x:=by rw[hr x x0 x1,a3]
 have hy:(d6 (d6 j x).1 y).2=cE (d6 (d6 j x).1 y).1 y:=by rw[hr y y0 y1,b3,a4 y y0 y1]
 have px:=Fg b1 x0 aa;have py:=Fg b1 y0 aa;rw[hr x x0 x1]at px;rw[hr y y0 y1]at py;unfold lC UH;simp only;rw[hx,hy,hr x x0 x1,hr y y0 y1];generalize (d6 (d6 j x).1 y).1=k at *;rcases mm_p (cE j x) (cE j y)with⟨h1,h2,h3⟩|⟨h1,h2,h3⟩
 ·rw[h1,h2];refine⟨t7 b1 px.1 aa py.1 h3,by rw[fx];exact hl,.inl λz z0 z1=>?_⟩;rw[PA b1 aa py.1 h3 px.2.2 py.2.2 z0 aa,hr z z0 z1]
 ·rw[h1,h2];refine⟨t7 b1 py.1 aa px.1 h3,by rw[fx];exact hl,.inr λz z0 z1=>?_⟩;rw[PA b1 aa px.1 h3 py.2.2 px.2.2 z0 aa,hr z z0 z1]
def sj:Wt:=⟨cd,[aq,aq],[false,false],λx y=>[UfP x,0<=y.1,y.1<x.length,0<=y.2.1,y.2.1<x.length],λx y=>(lC x y.1 y.2.1).1,[(false,dS)],λx y=>((lC x y.1 y.2.1).2,()),0⟩
def MH:Ct:=iO sj
def MK(j:aw)(x y:Int)(K:(List Int)->(Bool×Unit)->Prop):Prop:=let b:=d6 j x;let a:=d6 b.1 y;UfP j/\(Ix x j.length<|UfP b.1/\(Ix y b.1.length<|Ix (mxR b.2 a.2) a.1.length<|K (List.set a.1 (mxR b.2 a.2).toNat (mnR b.2 a.2)) (b.2 != a.2,())))
theorem Wr(j:aw)(x y:Int)(hok:ab (sj.o.strip.oks j))(hok2:ab (okL sj.as (x,y,())))(hpre:ab (sj.pre j (x,y,()))):MK j x y (λz r=>z=sj.new j (x,y,())/\r=sj.res j (x,y,())):=by
 simp only[sj,O.strip,okL,T.oks,T.ok,ap,ab,aL,aA,bf]at hok hok2 hpre
 try dsimp only[T.den]at hok
 try dsimp only[T.den]at hok2
 try dsimp only[T.den]at hpre
 delta MK Ix
 dsimp -proj -eta only;obtain⟨U,x0,x1,y0,y1⟩:=hpre;clear hok;obtain⟨a1,a2,a3,a4⟩:=AE U x0 x1;obtain⟨b1,b2,b3,b4⟩:=AE a1 y0 aa;have px:=Fg U x0 x1;have py:=Fg U y0 y1;rw[←a4 y y0 y1,←b3]at py;rw[←a3]at px;have hm:=mm_p (d6 j x).2 (d6 (d6 j x).1 y).2;exact⟨U,x0,x1,a1,y0,aa,aa,aa,rfl,rfl⟩
theorem We:aN Tryz.prog 90 MH:=wtb (au M8 aQ) aR 90 Tryz.f90 sj .n [] (λx y h1 h2 h3=>Eq.mp (by kernel_rfl) (Wr x y.1 y.2.1 h1 h2 h3))
def UN(l:df):Prop:=l.length<=1000000/\∀r∈l,r.length<=1000000
def kbR(l:df):List Int:=l.flatMap λr=>r.map (λn=>IntKind.wrap .u8 n)++[255]
theorem afc{β:Type}(f:α->β)(l:List α):(l.flatMap λn=>[f n])=l.map f:=by
 induction l with
 |nil=>rfl
 |cons a l ih=>simp only[List.flatMap_cons,gO,ih];rfl
def mD(l:df):ByteArray:=nh (kbR l)
def xf:Ct:=⟨[nz],[false],λx=>[UN x.1],[(false,nx)],λx=>(mD x.1,()),false,none⟩
def Zn:Ann:=(.s .n (.s .n (.s (.s .n (.l [(3,(.ref 800003 [])),(11,(.d aq))] [(800003,(.sl (.fz (.int .u8))))] [9,10] (.s .n (.s .n (.s (.s .n (.s (.s .n (.l [(3,(.ref 800003 [])),(17,(.d aq))] [(800003,(.sl (.fz (.int .u8))))] [9,10,11,15,16] .n)) .n)) .n))))) .n)))
def IN(lists:df)(K:ByteArray×Unit->Prop):Prop:=aI (S:=(dW×cV)) (λa b=>let g:=a.1.2.1;let e:=lists.getD g.toNat [];Iq g<|Oa dK a.2.1<|cnd (decide (g<(lists.length:Int))) (Ix g lists.length<|aI (S:=(dW×cV)) (λc d=>let h:=c.1.2.1;let f:=IntKind.wrap .u8 (e.getD h.toNat 0);Iq h<|Oa dK c.2.1<|cnd (decide (h<(e.length:Int))) (Ix h e.length<|aX c.2.1.length [f].length 1/\(Ik (h+1)<|d (((),h+1,()),c.2.1++[f],()))) (aX c.2.1.length [255].length 1/\(Ik (g+1)<|b (((),g+1,()),c.2.1++[255],())))) (((),0,()),a.2.1,())) (K (nh a.2.1,()))) (((),0,()),[],())
theorem Zz(lists:df)(hok:ab (okL xf.args (lists,())))(hpre:ab (xf.pre (lists,()))):IN lists (λr=>r=xf.res (lists,())):=by
 simp only[xf,okL,T.oks,T.ok,ap,ab,aL,aA,bf]at hok hpre
 try dsimp only[T.den]at hok hpre
 delta IN Ik Iq Ix Oa
 dsimp -proj -eta only;obtain⟨h1,h2⟩:=hpre;clear hok;refine Q3 lists [] (λr=>r.map (λn=>IntKind.wrap .u8 n)++[255]) [] 1000001 (λr hr=>by have:=h2 r hr;simp only[bj,d5,aH,aM];omega) ?_ ?_
 ·intro i out next i0 i1 hb hn _ _
  refine aE (λ_=>?_) (λh=>absurd i1 h);refine⟨i0,i1,?_⟩;have hl:=h2 _ (cC lists [] i0 i1);simp only[bj,d5,aH,aM,aM]at hb
  try dsimp only at hn⊢
  generalize lists.getD i.toNat []=l at hl hb hn⊢;have hle:out.length+l.length<=4000000000000:=aa
  refine Q3 l 0 (λn=>[IntKind.wrap .u8 n]) out 1 (λx _=>aZ _) ?_ ?_
  ·intro j acc next1 j0 j1 hb1 hn1 _ _;simp only[aH,aM]at hb1;exact aE (λ_=>⟨j0,j1,by simp only[aX,bO,aH,aM];omega,by rw[cf];dsimp only;omega,hn1⟩) (λh=>absurd j1 h)
  ·intro next1 _ _;refine aE (λh=>absurd h (jL _)) (λ_=>?_);rw[afc];refine⟨by simp only[aX,bO,bj,d5,aH,aM];omega,az,?_⟩;rw[eP];exact hn
 ·intro next _ _
  exact aE (λh=>absurd h (jL _)) (λ_=>rfl)
theorem Zk:aN Tryz.prog 118 xf:=ctb aQ aR 118 Tryz.f118 xf Zn [] (λx K=>IN x.1 K) (λx h1 h2=>Zz x.1 h1 h2)
def wY:Ct:=⟨[aq,bd],[false,false],λx=>[x.2.1.length<=1000000],[(false,nx)],λx=>(mD [[x.1],x.2.1],()),false,none⟩
def HP(start:Int)(edges:aw)(K:ByteArray×Unit->Prop):Prop:=UN [[start],edges]/\K (mD [[start],edges],())
theorem Yv(start:Int)(edges:aw):Mh wY (start,edges,()) (HP start edges):=by
 intro hok hpre;simp only[wY,okL,T.oks,T.ok,ap,ab,aL,aA,bf]at hok hpre
 try dsimp only[T.den]at hok hpre
 unfold HP;refine⟨⟨ak,?_⟩,rfl⟩;intro r hr;simp only[cQ,w8,or_false]at hr;rcases hr with rfl|rfl
 ·simp
 ·exact hpre
theorem CN:aN Tryz.prog 86 wY:=ctb (au Zk aQ) aR 86 Tryz.f86 wY .n [] (λx K=>HP x.1 x.2.1 K) (λx h1 h2=>Yv x.1 x.2.1 h1 h2)
def da(k:cF)(x:Int)(es:aw):Int:=jw .str aq k.1 (mD [[x],es])
def wC:Ct:=⟨[B3,aq,bd],[false,false,false],λx=>[x.2.2.1.length<=1000000,0<=da x.1 x.2.1 x.2.2.1,da x.1 x.2.1 x.2.2.1<x.1.2.1.length],[(false,cA)],λx=>(x.1.2.1.getD (da x.1 x.2.1 x.2.2.1).toNat 0,()),false,none⟩
def GJ(k:cF)(start:Int)(edges:aw)(K:jB):Prop:=let a:=jw T.str aq k.1 (mD [[start],edges]);edges.length<=1000000/\(Ix a k.2.1.length<|K (k.2.1.getD a.toNat 0,()))
theorem VQ(k:cF)(start:Int)(edges:aw):Mh wC (k,start,edges,()) (GJ k start edges):=by
 intro hok hpre;simp only[wC,okL,T.oks,T.ok,ap,ab,aL,aA,bf]at hok hpre
 try dsimp only[T.den]at hok hpre
 delta GJ Ix
 dsimp -proj -eta only;exact⟨hpre.1,hpre.2.1,hpre.2.2,rfl⟩
theorem G9:aN Tryz.prog 62 wC:=ctb (au CN aQ) aR 62 Tryz.f62 wC .n [(1,12)] (λx K=>GJ x.1 x.2.1 x.2.2.1 K) (λx h1 h2=>VQ x.1 x.2.1 x.2.2.1 h1 h2)
def uq:Wc:=⟨xZ,1,[bd,.any,Bh,yg,(.pt eH)],[false,false,false,false,false],λx y=>[UfP x,0<=y.2.2.1,y.2.2.1<x.length,y.1.length<=1000000,0<=da y.2.2.2.1 y.2.2.2.2.1.1 y.1,da y.2.2.2.1 y.2.2.2.2.1.1 y.1<x.length],λx y=>(lC x y.2.2.1 (da y.2.2.2.1 y.2.2.2.2.1.1 y.1)).1⟩
def Gt:Ct:=LE uq
def UR:FuncId->Option Ct:=lkp [(90,MH),(86,wY)]
def Mb(box:(List Int))(edges:aw)(j:Unit)(i:Int)(k:cF)(p:aO)(K:(List Int)->Prop):Prop:=let a:=jw T.str aq k.1 (mD [[p.1],edges]);edges.length<=1000000/\UfP box/\(Ix i box.length<|Ix a box.length<|K (lC box i a).1)
theorem UZ(box:(List Int))(edges:aw)(j:Unit)(i:Int)(k:cF)(p:aO)(hok:ab (uq.o.strip.oks box))(hok2:ab (okL uq.as (edges,j,i,k,p,())))(hpre:ab (uq.pre box (edges,j,i,k,p,()))):Mb box edges j i k p (λz=>z=uq.new box (edges,j,i,k,p,())):=by
 simp only[uq,O.strip,okL,T.oks,T.ok,ap,ab,aL,aA,bf]at hok hok2 hpre
 try dsimp only[T.den]at hok
 try dsimp only[T.den]at hok2
 try dsimp only[T.den]at hpre
 delta Mb Ix
 dsimp -proj -eta only;obtain⟨h1,h2,h3,h4,h5,h6⟩:=hpre;exact⟨h4,h1,h2,h3,h5,h6,rfl⟩
theorem Gq:aN Tryz.prog 89 Gt:=Uw (Φ:=UR) (au We (au CN aQ)) aR (by kernel_rfl) (fn:=Tryz.f89) (c:=fa Tryz.f89) (by kernel_rfl) (by kernel_rfl) (by kernel_rfl) uq .n (fN [(0,11)]) (by kernel_rfl) (by kernel_rfl) (by kernel_rfl) (by kernel_rfl) (by kernel_rfl) bz (by kernel_rfl) (λx y h1 h2 h3=>Eq.mp (by kernel_rfl) (UZ x y.1 y.2.1 y.2.2.1 y.2.2.2.1 y.2.2.2.2.1 h1 h2 h3))
def oF(s:aB)(p:aO)(i:Int):Int:=if i=0 then p.1 else s.2.2.1.getD (p.2.getD (i-1).toNat 0).toNat 0
def kO(s:aB)(p l:aO)(i:Int):Bool:=(oF s p i==l.1&&decide (i+l.2.length<=p.2.length))&&eqR bd ((p.2.take (i+l.2.length).toNat).drop i.toNat) l.2
def gl(p l r:aO)(i:Int):List Int:=p.2.take i.toNat++r.2++p.2.drop (i+l.2.length).toNat
def gR(s:aB)(p l r:aO)(i:Int)(k:cF)(p2:aO):Nat->List Int->List Int
 |0,j=>j
 |n+1,j=>if kO s p l n=true/\(gl p l r n).length<=6 then (lC (gR s p l r i k p2 n j) i (da k p2.1 (gl p l r n))).1 else gR s p l r i k p2 n j
structure VisP (s:aB) (p l r:aO) (i:Int) (k:cF) (p2:aO) (j:aw):Prop where
 U:UfP j
 i0:0<=i
 i1:i<j.length
 lp:p.2.length<=1000000
 ll:l.2.length<=1000000
 lr:r.2.length<=1000000
 wp:bD p.2 s.2.2.1.length=true
 at_:∀n:Int,0<=n->n<=p.2.length->kO s p l n=true->(gl p l r n).length<=6->0<=da k p2.1 (gl p l r n)/\da k p2.1 (gl p l r n)<j.length
theorem TG{s:aB}{p l r:aO}{i:Int}{k:cF}{p2:aO}{j:aw}(V:VisP s p l r i k p2 j):∀n:Nat,n<=p.2.length+1->UfP (gR s p l r i k p2 n j)/\(gR s p l r i k p2 n j).length=j.length
 |0,_=>⟨V.U,rfl⟩
 |n+1,h=>by
  obtain⟨a,b⟩:=TG V n aa;simp only[gR];split
  ·rename_i hc;obtain⟨q1,q2⟩:=V.at_ n aa aa hc.1 hc.2;obtain⟨u1,u2,_⟩:=IQ a V.i0 (by rw[b];exact V.i1) q1 (by rw[b];exact q2);exact⟨u1,u2.trans b⟩
  ·exact⟨a,b⟩
def uu:Wc:=⟨xZ,4,[kH,eH,eH,eH,(.fn 89 (.p .any (.p Bh (.p yg (.p (.pt eH) .u)))))],[false,true,true,true,false],λx y=>[VisP y.1 y.2.1 y.2.2.1 y.2.2.2.1 y.2.2.2.2.1.2.1 y.2.2.2.2.1.2.2.1 y.2.2.2.2.1.2.2.2.1 x],λx y=>gR y.1 y.2.1 y.2.2.1 y.2.2.2.1 y.2.2.2.2.1.2.1 y.2.2.2.2.1.2.2.1 y.2.2.2.2.1.2.2.2.1 (y.2.1.2.length+1) x⟩
def Mx:Ct:=LE uu
def Vp:Ann:=(.s .n (.s .n (.s .n (.l [(4,(.fc 89 (.pr (.ad 1000000 [.de]) (.pr (.d Bh) (.pr (.d (.pt (.pt (.p (.mp .str aq) vB)))) (.pr (.d Lo) .u)))))),(10,(.d aq)),(11,(.d aq))] Fk [0,6,7,8] (.s .n (.s (.s .n (.s (.s .n (.j Uz Fk [0,6,7,8,10,11] (.s (.s .n (.s .n (.j Uz Fk [0,6,7,8,10,11] .n))) .n))) (.s .n (.j [(4,(.fc 89 (.pr (.ad 1000000 [.de]) (.pr (.d Bh) (.pr (.d (.pt (.pt (.p (.mp .str aq) vB)))) (.pr (.d Lo) .u)))))),(10,(.d aq))] Fk [0,6,7,8,11] .n)))) .n))))))
def Vt:FuncId->Option Ct:=lkp [(37,sO),(119,sT),(89,Gt)]
def Mw(box:(List Int))(s:aB)(p left right:aO)(visit:Unit×(Int×(cF×(aO×Unit))))(K:(List Int)->Prop):Prop:=let a0:=right.2;let r:=T.mp T.str aq;let o:=p.2.length;let n:=left.2.length;aI (S:=(((Unit×(Int×(((List (ByteArray×Int))×fE)×(aS×Unit))))×jf)×cV)) (λa b=>let z:=a.2.1;let m:=a.1.1.2;let x:=m.2.2.1;let j:=a.1.2.2.1;let y:=Int.toNat (j+(n:Int));let w:=decide (j+(n:Int)<=(o:Int));let l:=List.take j.toNat p.2;let i:=List.drop y p.2;let v:=da m.2.1 x.1 (l++a0++i);Iq m.1<|T.ok r m.2.1.1->(Ol m.2.1.2.1<|Oa aW m.2.1.2.2<|Iq x.1<|Ol x.2<|Iq a.1.2.1<|Iq j<|Ol z<|cnd (decide (j<=(o:Int))) (Ik (j+(n:Int))<|((a.1.2.1==left.1&&w)=true->j<=j+(n:Int)/\j+(n:Int)<=(o:Int)/\0<=j)/\bZ (S:=(((Unit×(Int×(((List (ByteArray×Int))×fE)×(aS×Unit))))×Unit)×cV)) (λc=>let q:=c.1.1.2.2;Iq c.1.1.2.1<|T.ok r q.1.1->(Ol q.1.2.1<|Oa aW q.1.2.2<|Iq q.2.1.1<|Ol q.2.1.2<|Ol c.2.1<|bZ (S:=(((Unit×(Int×(((List (ByteArray×Int))×fE)×(aS×Unit))))×(Int×Unit))×cV)) (λd=>let t:=d.1.1.2.2;Iq d.1.1.2.1<|T.ok r t.1.1->(Ol t.1.2.1<|Oa aW t.1.2.2<|Iq t.2.1.1<|Ol t.2.1.2<|Iq d.1.2.1<|Ol d.2.1<|Ik (j+1)<|b ((((),d.1.1.2.1,t.1,t.2.1,()),d.1.2.1,j+1,()),d.2.1,()))) (λe=>cnd (decide (j<(o:Int))) (Ix j o<|Ix (p.2.getD j.toNat 0) s.2.2.1.length<|e ((((),c.1.1.2.1,q.1,q.2.1,()),s.2.2.1.getD (p.2.getD j.toNat 0).toNat 0,()),c.2.1,())) (e ((((),c.1.1.2.1,q.1,q.2.1,()),a.1.2.1,()),c.2.1,()))))) (λf=>cnd (a.1.2.1==left.1&&w&&eqR bd (List.drop j.toNat (List.take y p.2)) left.2) (0<=j/\j<=(o:Int)/\l.length<=1099511627776/\0<=j+(n:Int)/\j+(n:Int)<=(o:Int)/\aX l.length a0.length 8/\aX (l++a0).length i.length 8/\bZ (S:=(((Unit×(Int×(((List (ByteArray×Int))×fE)×(aS×Unit))))×Unit)×cV)) (λg=>let u:=g.1.1.2.2;Iq g.1.1.2.1<|T.ok r u.1.1->(Ol u.1.2.1<|Oa aW u.1.2.2<|Iq u.2.1.1<|Ol u.2.1.2<|Ol g.2.1<|f ((((),g.1.1.2.1,u.1,u.2.1,()),()),g.2.1,()))) (λh=>cnd (decide (((l++a0++i).length:Int)<=6)) (UfP z/\(Ix m.1 z.length<|(l++a0++i).length<=1000000/\(Ix v z.length<|h ((((),m.1,m.2.1,x,()),()),(lC z m.1 v).1,())))) (h ((((),m.1,m.2.1,x,()),()),z,())))) (f ((((),m.1,m.2.1,x,()),()),z,())))) (K z))) ((((),visit.2.1,visit.2.2.1,visit.2.2.2.1,()),p.1,0,()),box,())
theorem VG(box:(List Int))(s:aB)(p left right:aO)(visit:Unit×(Int×(cF×(aO×Unit))))(hok:ab (uu.o.strip.oks box))(hok2:ab (okL uu.as (s,p,left,right,visit,())))(hpre:ab (uu.pre box (s,p,left,right,visit,()))):Mw box s p left right visit (λz=>z=uu.new box (s,p,left,right,visit,())):=by
 simp only[uu,O.strip,okL,T.oks,T.ok,ap,ab,aL,aA,bf]at hok hok2 hpre
 try dsimp only[T.den]at hok
 try dsimp only[T.den]at hok2
 try dsimp only[T.den]at hpre
 delta Mw Ik Iq Ix Oa Ol
 dsimp -proj -eta only;have V:=hpre;clear hpre hok hok2;have lp:=V.lp;have ll:=V.ll;have lr:=V.lr;refine aY (λ(q:(((Unit×(Int×(((List (ByteArray×Int))×fE)×(aS×Unit))))×jf)×cV))=>q.1.1.2.1=visit.2.1/\q.1.1.2.2.1=visit.2.2.1/\q.1.1.2.2.2.1=visit.2.2.2.1/\(q.1.2.2.1<=p.2.length->q.1.2.1=oF s p q.1.2.2.1)/\0<=q.1.2.2.1/\q.1.2.2.1<=p.2.length+1/\q.2.1=gR s p left right visit.2.1 visit.2.2.1 visit.2.2.2.1 q.1.2.2.1.toNat box) (λ(q:(((Unit×(Int×(((List (ByteArray×Int))×fE)×(aS×Unit))))×jf)×cV))=>(p.2.length+1-q.1.2.2.1).toNat) ?_ ⟨rfl,rfl,rfl,λ_=>rfl,cB _,ae,rfl⟩;rintro⟨⟨⟨_,vi,vk,vp,_⟩,nd,n,_⟩,J,_⟩ next ⟨e1,e2,e3,hnd,a0,a1,eJ⟩ hnx
 intros
 try dsimp only at e1 e2 e3 hnd a0 a1 eJ hnx⊢
 subst e1;subst e2;subst e3;subst eJ;obtain⟨U,lJ⟩:=TG V n.toNat aa;refine aE (λhle=>?_) (λhgt=>?_)
 ·have hnd:=hnd hle;subst hnd;have hs:gR s p left right visit.2.1 visit.2.2.1 visit.2.2.2.1 (n+1).toNat box=if kO s p left n=true/\(gl p left right n).length<=6 then (lC (gR s p left right visit.2.1 visit.2.2.1 visit.2.2.2.1 n.toNat box) visit.2.1 (da visit.2.2.1 visit.2.2.2.1.1 (gl p left right n))).1 else gR s p left right visit.2.1 visit.2.2.1 visit.2.2.2.1 n.toNat box:=by rw[show (n+1).toNat=n.toNat+1 from by omega];simp only[gR];rw[jI a0]
  refine⟨az,λh=>?_,cp (λ(q:(((Unit×(Int×(((List (ByteArray×Int))×fE)×(aS×Unit))))×Unit)×cV))=>q.1.1.2.1=visit.2.1/\q.1.1.2.2.1=visit.2.2.1/\q.1.1.2.2.2.1=visit.2.2.2.1/\q.2.1=gR s p left right visit.2.1 visit.2.2.1 visit.2.2.2.1 (n+1).toNat box) ?_ ?_⟩
  ·rw[ao,cj]at h;exact⟨aa,h.2,a0⟩
  ·rintro⟨⟨⟨_,vi,vk,vp,_⟩,_⟩,J,_⟩ ⟨e1,e2,e3,eJ⟩;intros
   try dsimp only at e1 e2 e3 eJ⊢
   subst e1;subst e2;subst e3;subst eJ;refine cp (λ(q:(((Unit×(Int×(((List (ByteArray×Int))×fE)×(aS×Unit))))×(Int×Unit))×cV))=>q.1.1.2.1=visit.2.1/\q.1.1.2.2.1=visit.2.2.1/\q.1.1.2.2.2.1=visit.2.2.2.1/\(n+1<=p.2.length->q.1.2.1=oF s p (n+1))/\q.2.1=gR s p left right visit.2.1 visit.2.2.1 visit.2.2.2.1 (n+1).toNat box) ?_ ?_
   ·rintro⟨⟨⟨_,vi,vk,vp,_⟩,nd,_⟩,J,_⟩ ⟨e1,e2,e3,e4,eJ⟩;intros
    try dsimp only at e1 e2 e3 e4 eJ⊢
    exact⟨az,hnx _ ⟨e1,e2,e3,e4,ae,ae,eJ⟩ ae⟩
   ·intro k3 hk3;refine aE (λhlt=>?_) (λh=>hk3 _ ⟨rfl,rfl,rfl,λh'=>absurd h' aa,rfl⟩);obtain⟨w0,w1⟩:=fF.1 V.wp n a0 hlt;refine⟨a0,hlt,w0,w1,hk3 _ ⟨rfl,rfl,rfl,λ_=>?_,rfl⟩⟩;unfold oF;rw[ai aa,show n+1-1=n from by omega]
  ·intro kk hk;refine aC (λhb=>?_) (λhb=>?_)
   ·have hb0:=hb;rw[ao,ao,cj]at hb;have hl1:(p.2.take n.toNat).length<=1000000:=by rw[ez];omega
    refine⟨a0,hle,aa,aa,hb.1.2,bh aa,bh (by rw[bj,iz];omega),cp (λ(q:(((Unit×(Int×(((List (ByteArray×Int))×fE)×(aS×Unit))))×Unit)×cV))=>q.1.1.2.1=visit.2.1/\q.1.1.2.2.1=visit.2.2.1/\q.1.1.2.2.2.1=visit.2.2.2.1/\q.2.1=gR s p left right visit.2.1 visit.2.2.1 visit.2.2.2.1 (n+1).toNat box) ?_ ?_⟩
    ·rintro⟨⟨⟨_,vi,vk,vp,_⟩,_⟩,J,_⟩ ⟨e1,e2,e3,eJ⟩;intros
     try dsimp only at e1 e2 e3 eJ⊢
     exact hk _ ⟨e1,e2,e3,eJ⟩
    ·intro k4 hk4;refine aE (λh6=>?_) (λh6=>?_)
     ·have h6':(gl p left right n).length<=6:=Int.ofNat_le.1 h6;obtain⟨q1,q2⟩:=V.at_ n a0 hle hb0 h6';rw[am ⟨hb0,h6'⟩]at hs;exact⟨U,V.i0,by rw[lJ];exact V.i1,eu h6' bz,q1,by rw[lJ];exact q2,hk4 _ ⟨rfl,rfl,rfl,hs.symm⟩⟩
     ·have h6':¬(gl p left right n).length<=6:=λh=>h6 (Int.ofNat_le.2 h);rw[ai (λh=>h6' h.2)]at hs;exact hk4 _ ⟨rfl,rfl,rfl,hs.symm⟩
   ·have hb':¬kO s p left n=true:=λh=>by unfold kO at h;rw[hb]at h;cases h
    rw[ai (λh=>hb' h.1)]at hs;exact hk _ ⟨rfl,rfl,rfl,hs.symm⟩
 ·have en:n=p.2.length+1:=aa
  subst en;show gR _ _ _ _ _ _ _ _ _=gR _ _ _ _ _ _ _ _ _;rfl
theorem Ms:aN Tryz.prog 88 Mx:=Uw (Φ:=Vt) (au uM (au YW (au Gq aQ))) aR (by kernel_rfl) (fn:=Tryz.f88) (c:=fa Tryz.f88) (by kernel_rfl) (by kernel_rfl) (by kernel_rfl) uu Vp (fN [(6,19),(7,2011),(11,9)]) (by kernel_rfl) (by kernel_rfl) (by kernel_rfl) (by kernel_rfl) (by kernel_rfl) bz (by kernel_rfl) (λx y h1 h2 h3=>Eq.mp (by kernel_rfl) (VG x y.1 y.2.1 y.2.2.1 y.2.2.2.1 y.2.2.2.2.1 h1 h2 h3))
def mh:List Int->List Int->Bool
 |_,[]=>false
 |[],_::_=>true
 |x::a,y::b=>if x=y then mh a b else decide (x<y)
def qI:Ct:=⟨[bd,bd],[false,false],λx=>[],[(false,dS)],λx=>(mh x.1 x.2.1,()),false,none⟩
def Xw:Ann:=(.s .n (.s (.s .n (.l vE [] [0,1] .n)) .n))
def HR(a b:aw)(K:fP):Prop:=aI (S:=cZ) (λc d=>let e:=c.1.1;Iq e<|cnd (decide (e<(a.length:Int))&&decide (e<(b.length:Int))) (Ix e a.length<|Ix e b.length<|cnd (a.getD e.toNat 0 != b.getD e.toNat 0) (Ix e a.length<|Ix e b.length<|K (decide (a.getD e.toNat 0<b.getD e.toNat 0),())) (Ik (e+1)<|d ((e+1,()),()))) (K (decide ((a.length:Int)<(b.length:Int)),()))) ((0,()),())
theorem Yw(a b:aw)(hok:ab (okL qI.args (a,b,())))(hpre:ab (qI.pre (a,b,()))):HR a b (λr=>r=qI.res (a,b,())):=by
 simp only[qI,okL,T.oks,T.ok,ap,ab,aL,aA,bf]at hok hpre
 try dsimp only[T.den]at hok hpre
 delta HR Ik Iq Ix
 dsimp -proj -eta only;have h1:a.length<=140737488355328:=by simp only[bO]at hok;omega
 clear hok hpre;refine aY (λ(s:cZ)=>0<=s.1.1/\s.1.1<=a.length/\s.1.1<=b.length/\mh a b=mh (a.drop s.1.1.toNat) (b.drop s.1.1.toNat)) (λ(s:cZ)=>(a.length-s.1.1).toNat) ?_ ⟨ak,ak,ak,ak⟩;rintro⟨⟨i,_⟩,_⟩ next ⟨h0,h2,h3,h4⟩ hn _
 try dsimp only at h0 h2 h3 h4 hn⊢
 refine aC (λhc=>?_) (λhc=>?_)
 ·simp only[ao,cj]at hc;rw[im a 0 h0 hc.1,im b 0 h0 hc.2,mh]at h4;refine⟨h0,hc.1,h0,hc.2,aC (λhd=>⟨h0,hc.1,h0,hc.2,?_⟩) (λhd=>⟨az,?_⟩)⟩
  ·rw[ai (by simpa using hd)]at h4;simp only[qI,h4]
  ·rw[am (by simpa using hd)]at h4;exact hn _ ⟨ae,ae,ae,h4⟩ ae
 ·simp only[yZ,fS]at hc;simp only[qI,h4];by_cases hb:i<b.length
  ·have ha:¬i<a.length:=by rcases hc with h|h<;>omega
   rw[jt a aa,im b 0 h0 hb,mh,decide_eq_true (by omega:(a.length:Int)<b.length)]
  ·rw[jt b aa,Ce (by omega:¬(a.length:Int)<b.length)];cases a.drop i.toNat<;>rfl
theorem N8:aN Tryz.prog 101 qI:=ctb aQ aR 101 Tryz.f101 qI Xw [(4,8),(5,8)] (λx K=>HR x.1 x.2.1 K) (λx h1 h2=>Yw x.1 x.2.1 h1 h2)
def jX(s:aB)(p q:aO):Bool:=mh (p.1::dF s p::(p.2.length:Int)::p.2) (q.1::dF s q::(q.2.length:Int)::q.2)
def uE:Ct:=⟨[fV,eH,eH],[true,true,true],λx=>[bD x.2.1.2 x.1.2.2.1.length=true,bD x.2.2.1.2 x.1.2.2.1.length=true,x.2.1.2.length<=1000000,x.2.2.1.2.length<=1000000],[(false,dS)],λx=>(jX x.1 x.2.1 x.2.2.1,()),false,none⟩
def ah1:FuncId->Option Ct:=lkp [(101,qI),(41,mV)]
def Ii(s:aB)(p q:aO)(K:fP):Prop:=bD p.2 (s.2.2.1.length:Int)=true/\aX [p.1,dF s p,(p.2.length:Int)].length p.2.length 8/\bD q.2 (s.2.2.1.length:Int)=true/\aX [q.1,dF s q,(q.2.length:Int)].length q.2.length 8/\K (mh ([p.1,dF s p,(p.2.length:Int)]++p.2) ([q.1,dF s q,(q.2.length:Int)]++q.2),())
theorem Yo(s:aB)(p q:aO)(hok:ab (okL uE.args (s,p,q,())))(hpre:ab (uE.pre (s,p,q,()))):Ii s p q (λr=>r=uE.res (s,p,q,())):=by
 simp only[uE,okL,T.oks,T.ok,ap,ab,aL,aA,bf]at hok hpre
 try dsimp only[T.den]at hok hpre
 unfold Ii;obtain⟨h1,h2,h3,h4⟩:=hpre;exact⟨h1,bh (by simp only[aH,aM];omega),h2,bh (by simp only[aH,aM];omega),rfl⟩
theorem XM:aN Tryz.prog 70 uE:=ctb (au N8 (au wZ aQ)) aR 70 Tryz.f70 uE .n [(1,511),(2,511)] (λx K=>Ii x.1 x.2.1 x.2.2.1 K) (λx h1 h2=>Yo x.1 x.2.1 x.2.2.1 h1 h2)
def dx(s:aB)(p:aO)(n:Nat):List aO:=((be n λe=>e).filter λe=>s.2.1.getD e.toNat 0==dF s p).map λe=>(p.1,p.2++[e])
def dC(s:aB):Nat->Nat->List aO->List aO×Bool
 |0,_,l=>(l,true)
 |u+1,k,l=>if k<l.length then (if (l.getD k (0,[])).2.length=6 then dC s u (k+1) l else if 400<(l++dx s (l.getD k (0,[])) s.2.1.length).length then ([],false)else dC s u (k+1) (l++dx s (l.getD k (0,[])) s.2.1.length))else (l,true)
def dE(n:Int):List aO:=be n.toNat λx=>(x,[])
abbrev jh:Type:=aO->aO->Bool
def ir(lt:jh)(x:aO):List aO->List aO
 |[]=>[x]
 |y::r=>if lt x y then y::ir lt x r else x::y::r
def lL(lt:jh)(l:bg):List aO:=l.foldl (λa x=>ir lt x a) []
def lB(lt:jh)(l:bg):List aO:=(lL lt l).reverse
def me(s:aB):List aO×Bool:=if (dC s 402 0 (dE s.1)).2=true then (lB (jX s) (dC s 402 0 (dE s.1)).1,true)else ([],false)
theorem EW{s:aB}{p:aO}{e:Int}(h:0<=e):dx s p (e+1).toNat=dx s p e.toNat++(if (s.2.1.getD e.toNat 0==dF s p)=true then [(p.1,p.2++[e])]else []):=by unfold dx;rw[gC h,List.filter_append,mN];split<;>rename_i h1<;>simp only[List.filter_cons,h1,eX,ul,List.filter_nil,gO,nP,eE]
theorem ady{s:aB}{p:aO}{n:Nat}:(dx s p n).length<=n:=by unfold dx;rw[d5];exact eu (List.length_filter_le _ _) (Nat.le_of_eq (bG n))
def yu(s:aB)(p:aO):Prop:=p.2.length<=6/\bD p.2 s.2.2.1.length=true
theorem aeq(hl:s.2.2.1.length=s.2.1.length)(hp:yu s p)(h6:¬p.2.length=6)(hn:n<=s.2.1.length)(h:q∈dx s p n):yu s q:=by unfold dx at h;obtain⟨e,he,rfl⟩:=jJ.1 h;obtain⟨he,_⟩:=we.1 he;obtain⟨_,h0,h1,rfl⟩:=ij.1 he;refine⟨by have:=hp.1;rw[bj];simp only[aH,aM];omega,?_⟩;have h2:=hp.2;unfold bD at h2⊢;rw[yX,h2,hl];simp only[oX,List.all_nil,bM,ji,inR,ao,cj];omega
theorem RS{lt:jh}{x:aO}:∀l:List aO,(ir lt x l).length=l.length+1
 |[]=>rfl
 |y::r=>by unfold ir;split<;>simp only[aH,RS r]
theorem aew{lt:jh}(h0:0<=i)(h1:i<l.length):lL lt (l.take (i+1).toNat)=ir lt (l.getD i.toNat (0,[])) (lL lt (l.take i.toNat)):=by unfold lL;rw[fY l (0,[]) h0 h1,oY];rfl
theorem QV{lt:jh}:∀(l a:bg),(l.foldl (λa x=>ir lt x a) a).length=a.length+l.length
 |[],a=>rfl
 |x::l,a=>by rw[jF,QV l,RS,aH];omega
theorem PW{lt:jh}(l:bg):(lL lt l).length=l.length:=by unfold lL;rw[QV];exact jC _
theorem JT{lt:jh}{x z:aO}:∀l:List aO,z∈ir lt x l->z=x\/z∈l
 |[],h=>.inl (cP.1 h)
 |y::r,h=>by
  unfold ir at h;split at h
  ·rcases cQ.1 h with h|h
   ·exact .inr (h▸oW ..)
   ·rcases JT r h with h|h
    ·exact .inl h
    ·exact .inr (oV _ h)
  ·rcases cQ.1 h with h|h
   ·exact .inl h
   ·exact .inr h
theorem Qb{lt:jh}{z:aO}:∀(l a:bg),z∈l.foldl (λa x=>ir lt x a) a->z∈a\/z∈l
 |[],a,h=>.inl h
 |x::l,a,h=>by
  rcases Qb l _ h with h|h
  ·rcases JT a h with h|h
   ·exact .inr (h▸oW ..)
   ·exact .inl h
  ·exact .inr (oV _ h)
def qb(lt:jh)(l:bg)(i:Int):List aO:=(lL lt (l.take i.toNat)).reverse++l.drop i.toNat
theorem adv{lt:jh}(l:bg)(i:Int):(qb lt l i).length=l.length:=by unfold qb;rw[bj,wg,PW,ez,iz];omega
theorem afl{lt:jh}(l:bg):qb lt l 1=l:=by cases l<;>rfl
theorem agp{lt:jh}(h:(l.length:Int)<=i):qb lt l i=lB lt l:=by unfold qb lB;rw[jv l h,yS aa,lS]
theorem RL{d x:α}{t:List α}:∀p:List α,(p++x::t).getD p.length d=x
 |[]=>rfl
 |_::p=>ak
theorem aaw{d x y:α}{t:List α}:∀p:List α,(p++y::x::t).getD (p.length+1) d=x
 |[]=>rfl
 |_::p=>ak
theorem abk{x y:α}{t:List α}:∀p:List α,((p++y::x::t).set (p.length+1) y).set p.length x=p++x::y::t
 |[]=>rfl
 |a::p=>ak
theorem JO{l m:List α}{d:α}{k:Nat}(h:k<l.length):(l++m).getD k d=l.getD k d:=by rw[bN,bN,g9 h]
def qG:Ct:=⟨[fV],[true],λx=>[0<=x.1.1,x.1.1<=400,x.1.2.1.length<=1000000,x.1.2.2.1.length=x.1.2.1.length],[(false,vD),(false,dS)],λx=>((me x.1).1,(me x.1).2,()),true,none⟩
def WW:Ann:=(.s .n (.j [(1,(.ad 1 [.de])),(4,(.ref 800004 []))] [(1,tyN7),(800004,yn)] [] (.s .n (.s (.s .n (.l [(4,(.ref 800004 [])),(5,(.d aq))] mq [1] .n)) (.s (.s .n (.l [(4,(.ref 800004 [])),(6,(.d aq))] mq [1] (.s .n (.s (.j BC mq [1,6] (.s .n (.s (.s .n (.l [(4,(.ref 800004 [])),(7,(.d aq))] mq [1,6] (.s .n (.s (.s .n (.j BC mq [1,6,7] .n)) .n)))) .n))) .n)))) (.s (.s .n (.l [(4,(.ref 800004 [])),(8,(.d aq))] mq [1] (.s .n (.s (.s .n (.l [(4,(.ref 800004 [])),(9,(.d aq))] mq [1,8] .n)) .n)))) .n))))))
def ahz:FuncId->Option Ct:=lkp [(46,lu),(41,mV),(70,uE)]
def H0(s:aB)(K:(List aO)×Bool×Unit->Prop):Prop:=bZ (S:=(iw×(uf×((List aS)×Unit)))) (λa=>let y:=a.2.1.2;let a4:=y.2.1.length;Iq a.2.1.1<|Ol y.1<|Ol y.2.1<|Oa aW y.2.2.1<|Oa aW y.2.2.2<|Oa aW a.2.2.1<|aI (S:=dT) (λb c=>let a2:=b.1.2.1;Iq a2<|Oa aW b.2.1<|cnd (decide (a2<a.2.1.1)) (aX b.2.1.length ((a2,[])::([]:List aS)).length 32/\(Ik (a2+1)<|c (((),a2+1,()),b.2.1++(a2,[])::([]:List aS),()))) (aI (S:=dT) (λd e=>let w:=d.1.2.1;Iq w<|Oa aW d.2.1<|cnd (decide (w<(d.2.1.length:Int))) (bZ (S:=kv) (λf=>Oa aW f.2.1<|Ik (w+1)<|e (((),w+1,()),f.2.1,())) (λg=>Ix w d.2.1.length<|cnd (((d.2.1.getD w.toNat (0,[])).2.length:Int)==6) (g (((),()),d.2.1,())) (aI (S:=dT) (λh i=>let a0:=h.2.1.length;let z:=h.1.2.1;let r:=h.2.1.getD w.toNat (0,[]);Iq z<|Oa aW h.2.1<|cnd (decide (z<(y.1.length:Int))) (Ix z y.1.length<|Ix w a0<|bD r.2 (a4:Int)=true/\bZ (S:=kv) (λj=>Oa aW j.2.1<|Ik (z+1)<|i (((),z+1,()),j.2.1,())) (λl=>cnd (y.1.getD z.toNat 0==dF a.2.1 r) (Ix w a0<|Ix w a0<|r.2.length<=1099511627776/\aX r.2.length [z].length 8/\aX a0 ((r.1,r.2++[z])::([]:List aS)).length 32/\l (((),()),h.2.1++(r.1,r.2++[z])::([]:List aS),())) (l (((),()),h.2.1,())))) (cnd (decide (400<(a0:Int))) (K (([]:List aS),false,())) (g (((),()),h.2.1,())))) (((),0,()),d.2.1,())))) (aI (S:=dT) (λm n=>let a5:=m.1.2.1;Iq a5<|Oa aW m.2.1<|cnd (decide (a5<(m.2.1.length:Int))) (aI (S:=dT) (λo p=>let a1:=o.2.1.length;let u:=o.1.2.1;let x:=decide (0<u);let v:=o.2.1.getD u.toNat (0,[]);let t:=o.2.1.getD (Int.toNat (u-1)) (0,[]);let a3:=List.set o.2.1 u.toNat t;Iq u<|Oa aW o.2.1<|(x=true->u<(a1:Int)/\0<=u)/\(x=true->inK .i64 (u-1))/\(x=true->u-1<(a1:Int)/\0<=u-1)/\(x=true->bD t.2 (a4:Int)=true/\v.2.length<=1000000/\t.2.length<=1000000/\bD v.2 (a4:Int)=true)/\cnd (x&&jX a.2.1 v t) (Ix u a1<|Ik (u-1)<|Ix (u-1) a1<|Ix u a1<|Ik (u-1)<|Ix (u-1) a3.length<|Ik (u-1)<|p (((),u-1,()),List.set a3 (Int.toNat (u-1)) v,())) (Ik (a5+1)<|n (((),a5+1,()),o.2.1,()))) (((),a5,()),m.2.1,())) (K (m.2.1,true,()))) (((),1,()),d.2.1,()))) (((),0,()),b.2.1,()))) (((),0,()),a.2.2.1,())) (λq=>q (((),(),()),s,([]:List aS),()))
theorem X9(s:aB)(hok:ab (okL qG.args (s,())))(hpre:ab (qG.pre (s,()))):H0 s (λr=>r=qG.res (s,())):=by
 simp only[qG,okL,T.oks,T.ok,ap,ab,aL,aA,bf]at hok hpre
 try dsimp only[T.den]at hok hpre
 delta H0 Ik Iq Ix Oa Ol
 dsimp -proj -eta only;obtain⟨n0,n8,hf,ht⟩:=hpre;refine cp (λ(q:(iw×(uf×((List aS)×Unit))))=>q.2.1=s/\q.2.2.1=[]) ?_ (λk hk=>hk _ ⟨rfl,rfl⟩);rintro⟨_,sc,l0,_⟩ ⟨e0,e1⟩;intros
 try dsimp only at e0 e1⊢
 subst e0;subst e1;refine aY (λ(q:dT)=>0<=q.1.2.1/\q.1.2.1<=sc.1/\q.2.1=dE q.1.2.1) (λ(q:dT)=>(sc.1-q.1.2.1).toNat) ?_ ⟨ak,n0,rfl⟩;rintro⟨⟨_,x,_⟩,l,_⟩ next ⟨x0,x1,q⟩ hnx
 intros
 try dsimp only at x0 x1 q hnx⊢
 subst q;have zl:(dE x).length=x.toNat:=bG _;refine aE (λhx=>?_) (λhx=>?_)
 ·refine⟨bh (by rw[zl];simp only[aH,aM];omega),az,hnx _ ⟨ae,ae,?_⟩ ae⟩
  try dsimp only
  unfold dE;rw[gC x0]
 have ex:x=sc.1:=aa
 subst ex;clear hnx;have hz0:∀p∈dE sc.1,yu sc p:=by intro p hp;unfold dE at hp;obtain⟨e,h0,h1,rfl⟩:=ij.1 hp;exact⟨ak,rfl⟩
 refine aY (λ(q:dT)=>0<=q.1.2.1/\q.1.2.1<=400/\dC sc 402 0 (dE sc.1)=dC sc (402-q.1.2.1).toNat q.1.2.1.toNat q.2.1/\(∀p∈q.2.1,yu sc p)/\q.2.1.length<=400) (λ(q:dT)=>(400-q.1.2.1).toNat) ?_ ⟨ak,ak,rfl,hz0,ae⟩;rintro⟨⟨_,k,_⟩,L,_⟩ next ⟨k0,k41,hg,hp,hL⟩ hnx
 intros
 try dsimp only at k0 k41 hg hp hL hnx⊢
 refine aE (λhc=>?_) (λhc=>?_)
 ·have hpk:=hp _ (cC L (0,[]) k0 hc);have hgk:dC sc 402 0 (dE sc.1)=(if (L.getD k.toNat (0,[])).2.length=6 then dC sc (402-(k+1)).toNat (k+1).toNat L else if 400<(L++dx sc (L.getD k.toNat (0,[])) sc.2.1.length).length then ([],false)else dC sc (402-(k+1)).toNat (k+1).toNat (L++dx sc (L.getD k.toNat (0,[])) sc.2.1.length)):=by rw[hg,show (402-k).toNat=(402-(k+1)).toNat+1 from by omega,show (k+1).toNat=k.toNat+1 from by omega];rw[dC,am aa]
  refine cp (λ(q:kv)=>dC sc 402 0 (dE sc.1)=dC sc (402-(k+1)).toNat (k+1).toNat q.2.1/\(∀p∈q.2.1,yu sc p)/\q.2.1.length<=400) ?_ ?_
  ·rintro⟨_,M,_⟩ ⟨m1,m2,m3⟩;intros
   try dsimp only at m1 m2 m3⊢
   exact⟨az,hnx _ ⟨ae,ae,m1,m2,m3⟩ ae⟩
  intro kk hkk;generalize hP:L.getD k.toNat (0,[])=P at *;refine⟨k0,hc,aC (λh6=>?_) (λh6=>?_)⟩
  ·have h6:P.2.length=6:=by have:=iT h6;omega
   rw[am h6]at hgk;exact hkk _ ⟨hgk,hp,hL⟩
  have h6:¬P.2.length=6:=by have:=iH.1 h6;omega
  rw[ai h6]at hgk;refine aY (λ(q:dT)=>0<=q.1.2.1/\q.1.2.1<=sc.2.1.length/\q.2.1=L++dx sc P q.1.2.1.toNat) (λ(q:dT)=>(sc.2.1.length-q.1.2.1).toNat) ?_ ⟨ak,ak,by simp[dx,be]⟩;rintro⟨⟨_,e,_⟩,M,_⟩ next1 ⟨e0,e1,q⟩ hn1;intros
  try dsimp only at e0 e1 q hn1⊢
  subst q;have hM:(L++dx sc P e.toNat).length<=400+sc.2.1.length:=by rw[bj];have:=@ady sc P e.toNat;omega
  have hMk:k<(L++dx sc P e.toNat).length:=by rw[bj];omega
  have hG:(L++dx sc P e.toNat).getD k.toNat (0,[])=P:=by rw[JO aa,hP]
  have hE:=@EW sc P e e0;rw[hG];refine aE (λhe=>?_) (λhe=>?_)
  ·refine⟨e0,he,k0,hMk,hpk.2,cp (λ(q:kv)=>q.2.1=L++dx sc P (e+1).toNat) ?_ ?_⟩
   ·rintro⟨_,M2,_⟩ q2;intros
    try dsimp only at q2⊢
    subst q2;exact⟨az,hn1 _ ⟨ae,ae,rfl⟩ ae⟩
   ·intro k1 hk1;rw[hE]at hk1;have hp6:=hpk.1;refine aC (λhb=>?_) (λhb=>?_)
    ·rw[am hb]at hk1;exact⟨k0,hMk,k0,hMk,aa,bh (by simp only[aH,aM];omega),bh (by simp only[aH,aM];omega),hk1 _ (eP _ _ _)⟩
    ·rw[ai (by rw[hb];decide),lS]at hk1;exact hk1 _ rfl
  ·have ee:e=sc.2.1.length:=aa
   subst ee;rw[bB];refine aE (λh4=>?_) (λh4=>?_)
   ·rw[am aa]at hgk;simp only[qG,me];rw[hgk,ai bz]
   ·rw[ai aa]at hgk;refine hkk _ ⟨hgk,λp hp'=>?_,ae⟩;rcases dN.1 hp' with h|h
    ·exact hp p h
    ·exact aeq ht hpk h6 (aZ _) h
 ·have hgl:dC sc 402 0 (dE sc.1)=(L,true):=by rw[hg,show (402-k).toNat=(401-k).toNat+1 from by omega,dC,ai aa]
  clear hnx;simp only[qG,me];rw[hgl,am rfl]
  try dsimp only
  generalize hlt:jX sc=lt at *;refine aY (λ(q:dT)=>1<=q.1.2.1/\q.2.1=qb lt L q.1.2.1) (λ(q:dT)=>(L.length-q.1.2.1).toNat) ?_ ⟨ak,(afl L).symm⟩;rintro⟨⟨_,i,_⟩,A,_⟩ next1 ⟨i0,q⟩ hn1;intros
  try dsimp only at i0 q hn1⊢
  subst q;rw[adv];refine aE (λhi=>?_) (λhi=>?_)
  ·have hs:=aew (lt:=lt) (l:=L) (i:=i) aa hi;have hd:L.drop i.toNat=L.getD i.toNat (0,[])::L.drop (i+1).toNat:=im L (0,[]) aa hi;have ha:qb lt L (i+1)=(ir lt (L.getD i.toNat (0,[])) (lL lt (L.take i.toNat))).reverse++L.drop (i+1).toNat:=by unfold qb;rw[hs]
   have hl:(lL lt (L.take i.toNat)).length=i.toNat:=by rw[PW,ez];omega
   have hA:qb lt L i=(lL lt (L.take i.toNat)).reverse++L.getD i.toNat (0,[])::L.drop (i+1).toNat:=by unfold qb;rw[hd]
   have hX:=hp _ (cC L (0,[]) (i:=i) aa hi)
   have hRm:∀z∈lL lt (L.take i.toNat),yu sc z:=λz hz=>by
    rcases Qb _ _ hz with h|h
    ·cases h
    ·exact hp z (List.mem_of_mem_take h)
   rw[hA];generalize L.getD i.toNat (0,[])=X at *;generalize lL lt (L.take i.toNat)=R at *;generalize L.drop (i+1).toNat=Q at *;refine aY (λ(q:dT)=>∃R1 R2,R=R1++R2/\(R2.length:Int)=q.1.2.1/\ir lt X R=R1++ir lt X R2/\q.2.1=R2.reverse++X::(R1.reverse++Q)) (λ(q:dT)=>q.1.2.1.toNat) ?_ ⟨[],R,rfl,ae,rfl,rfl⟩;rintro⟨⟨_,k,_⟩,B,_⟩ next2 ⟨R1,R2,r1,r2,r3,r4⟩ hn2;intros
   try dsimp only at r1 r2 r3 r4 hn2⊢
   subst r4
   cases R2 with
   |nil=>
    have ek:k=0:=by simpa using r2.symm
    subst ek;refine⟨λh=>by simp at h,λh=>by simp at h,λh=>by simp at h,λh=>by simp at h,aC (λh=>by simp at h) (λ_=>⟨az,hn1 _ ⟨ae,?_⟩ ae⟩)⟩
    try dsimp only
    rw[ha,r3];simp[ir]
   |cons Y R2=>
    simp only[aH]at r2;have hr:R1.length+(R2.length+1)=i.toNat:=by rw[←hl,r1];simp
    have hY:=hRm Y (by rw[r1];simp);have e1:(Y::R2).reverse++X::(R1.reverse++Q)=R2.reverse++Y::X::(R1.reverse++Q):=ak
    rw[e1];have hk:k.toNat=R2.reverse.length+1:=by rw[wg];omega
    have hk1:(k-1).toNat=R2.reverse.length:=by rw[wg];omega
    rw[hk,hk1,RL,aaw,abk];have hlen:((R2.reverse++Y::X::(R1.reverse++Q)).length:Int)=R2.length+2+R1.length+Q.length:=by simp;omega
    have hlen2:(((R2.reverse++Y::X::(R1.reverse++Q)).set (R2.reverse.length+1) Y).length:Int)=R2.length+2+R1.length+Q.length:=by rw[fx];exact hlen
    have hk63:inK .i64 (k-1):=az
    have y6:=hY.1;have x6:=hX.1;refine⟨λ_=>⟨aa,aa⟩,λ_=>hk63,λ_=>⟨aa,aa⟩,λ_=>⟨hY.2,aa,aa,hX.2⟩,aC (λh=>?_) (λh=>?_)⟩
    ·simp only[ao,cj]at h;refine⟨aa,aa,hk63,aa,aa,aa,aa,hk63,aa,aa,hk63,hn2 _ ⟨R1++[Y],R2,by simp[r1],ae,?_,?_⟩ ae⟩
     ·rw[r3];simp[ir,h.2]
     ·simp
    ·have hb:lt X Y=false:=by
      rcases yZ.1 h with h|h
      ·simp only[fS]at h;omega
      ·exact h
     refine⟨az,hn1 _ ⟨ae,?_⟩ ae⟩
     try dsimp only
     rw[ha,r3];simp[ir,hb]
  ·rw[agp aa]
theorem WU:aN Tryz.prog 42 qG:=ctb (au jo (au wZ (au XM aQ))) aR 42 Tryz.f42 qG WW [(21,13),(13,11),(14,8000055014)] (λx K=>H0 x.1 K) (λx h1 h2=>X9 x.1 h1 h2)
def bI(s:aB):List aO×Bool:=dC s 402 0 (dE s.1)
theorem O0(s:aB)(e:Int):∀(nd:Int)(l:aw),(ca s nd l).2=true->0<=e->e<s.2.1.length->s.2.1.getD e.toNat 0=(ca s nd l).1->(ca s nd (l++[e])).2=true
 |nd,[],_,e0,e1,h2=>by simp only[ca]at h2;simp only[rQ,ca];rw[am ⟨iD.2 ⟨e0,aa⟩,h2⟩]
 |nd,x::r,h,e0,e1,h2=>by
  simp only[ca]at h h2;simp only[oT,ca];split at h
  ·rename_i hc;rw[am hc]at h2⊢;exact O0 s e _ r h e0 e1 h2
  ·cases h
theorem J2(h:(aV s p).2=true)(h6:¬p.2.length=6)(e0:0<=e)(e1:e<s.2.1.length)(h2:s.2.1.getD e.toNat 0=(aV s p).1):(aV s (p.1,p.2++[e])).2=true:=by
 unfold aV at h h2⊢;split at h
 ·rename_i hc;rw[am hc]at h2;rw[am ⟨hc.1,by have:=hc.2;rw[bj];simp only[aH,aM];omega⟩];exact O0 s e _ _ h e0 e1 h2
 ·cases h
theorem KE{s:aB}{p:aO}{a:Nat}:∀{b:Nat},a<=b->(dx s p a).length<=(dx s p b).length
 |0,h=>by rw[Nat.le_zero.1 h];exact aZ _
 |b+1,h=>by
  rcases ig b a with h1|h1
  ·rw[show a=b+1 from by omega];exact aZ _
  ·refine eu (KE h1) ?_;have:=@EW s p (b:Int) (Int.natCast_nonneg b);rw[show ((b:Int)+1).toNat=b+1 from by omega,bB]at this;rw[this,bj];omega
theorem JP(hp:(aV s p).2=true)(h6:¬p.2.length=6)(hn:n<=s.2.1.length)(h:q∈dx s p n):(aV s q).2=true:=by unfold dx at h;obtain⟨e,he,rfl⟩:=jJ.1 h;obtain⟨he,hb⟩:=we.1 he;obtain⟨_,h0,h1,rfl⟩:=ij.1 he;exact J2 hp h6 h0 aa ((iT hb).trans (gX hp).1)
theorem qX(h:(aV s p).2=true):p.2.length<=6:=by
 unfold aV at h;split at h
 ·rename_i hc;exact hc.2
 ·cases h
theorem Az(h0:0<=x)(h1:x<s.1):(aV s (x,[])).2=true:=by unfold aV;rw[am ⟨iD.2 ⟨h0,ae⟩,ak⟩];rfl
def wI:Sp:=⟨[kH],[false],true,λx=>(bI x.1).2,λx=>[0<=x.1.1,x.1.1<=400,x.1.2.1.length<=1000000,x.1.2.2.1.length=x.1.2.1.length],[(false,vD),(false,ym)],λx=>((bI x.1).1,false,()),[(false,vD),(false,ym)],λx=>([],true,())⟩
def se:Ct:=fO wI true
def uv:Ct:=fO wI false
def M6:Ct:=spC wI
def Mn:Ann:=(.s .n (.j BC mq [0] (.s .n (.s (.s .n (.l [(4,(.ref 800004 [])),(16,(.d aq))] mq [0,15] .n)) (.s (.s .n (.l [(4,(.ref 800004 [])),(6,(.d aq))] mq [0] (.s .n (.s (.j BC mq [0,6] (.s .n (.s .n (.s .n (.l [(4,(.ref 800004 [])),(52,(.d aq))] mq [0,6,7,50,51] (.s .n (.s .n (.s (.j BC mq [0,6,7,50,51,52] .n) .n)))))))) .n)))) .n)))))
def ahk:FuncId->Option Ct:=lkp [(34,mS),(37,sO)]
def GE(s:aB)(K:bV se.rt->Prop):Prop:=let w:=s.2.1.length;let p:=T.sl eH;bZ (S:=kv) (λa=>T.ok p a.2.1->aI (S:=dT) (λb c=>let u:=b.1.2.1;inK IntKind.i64 u->T.ok p b.2.1->cnd (decide (u<s.1)) (aX b.2.1.length ((u,([]:List Int))::([]:List aS)).length 32/\inK IntKind.i64 (u+(1:Int))/\c (((),u+(1:Int),()),b.2.1++(u,([]:List Int))::([]:List aS),())) (aI (S:=dT) (λd e=>let v:=d.2.1.length;let o:=d.1.2.1;let q:=d.2.1.getD o.toNat ((0:Int),([]:List Int));inK IntKind.i64 o->T.ok p d.2.1->cnd (decide (o<(v:Int))) (bZ (S:=kv) (λf=>T.ok p f.2.1->inK IntKind.i64 (o+(1:Int))/\e (((),o+(1:Int),()),f.2.1,())) (λg=>Ix o v<|cnd ((q.2.length:Int)==(6:Int)) (g (((),()),d.2.1,())) (Ix o v<|w<=s.2.2.1.length/\inK IntKind.i64 (s.1-(1:Int))/\aI (S:=dT) (λh i=>let t:=h.2.1.length;let r:=h.1.2.1;let n:=h.2.1.getD o.toNat ((0:Int),([]:List Int));inK IntKind.i64 r->T.ok p h.2.1->cnd (decide (r<(w:Int))) (bZ (S:=kv) (λj=>T.ok p j.2.1->inK IntKind.i64 (r+(1:Int))/\i (((),r+(1:Int),()),j.2.1,())) (λl=>Ix r w<|cnd (s.2.1.getD r.toNat (0:Int) != (aV s q).1) (l (((),()),h.2.1,())) (cnd ((t:Int)==(400:Int)) (K (([]:List aS),Bool.true,())) (Ix o t<|Ix o t<|n.2.length<=1099511627776/\aX n.2.length (r::([]:List Int)).length 8/\aX t ((n.1,n.2++r::([]:List Int))::([]:List aS)).length 32/\l (((),()),h.2.1++(n.1,n.2++r::([]:List Int))::([]:List aS),()))))) (g (((),()),h.2.1,()))) (((),(0:Int),()),d.2.1,())))) (K (d.2.1,Bool.false,()))) (((),(0:Int),()),b.2.1,()))) (((),(0:Int),()),a.2.1,())) (λm=>m (((),()),([]:List aS),()))
theorem VO(s:aB)(hok:ab (okL se.args (s,())))(hpre:ab (se.pre (s,()))):GE s (λr=>r=se.res (s,())):=by
 simp only[se,fO,wI,okL,T.oks,T.ok,ap,ab,aL,aA,bf]at hok hpre
 try dsimp only[T.den]at hok hpre
 delta GE Ix
 dsimp -proj -eta only;obtain⟨hs,n0,n4,hf,ht⟩:=hpre;unfold bI at hs;refine cp (λ(q:kv)=>q.2.1=[]) ?_ (λk hk=>hk _ rfl);rintro⟨_,l0,_⟩ e1;intros
 try dsimp only at e1⊢
 subst e1;refine aY (λ(q:dT)=>0<=q.1.2.1/\q.1.2.1<=s.1/\q.2.1=dE q.1.2.1) (λ(q:dT)=>(s.1-q.1.2.1).toNat) ?_ ⟨ak,n0,rfl⟩;rintro⟨⟨_,x,_⟩,l,_⟩ next ⟨x0,x1,q⟩ hnx
 intros
 try dsimp only at x0 x1 q hnx⊢
 subst q;have zl:(dE x).length=x.toNat:=bG _;refine aE (λhx=>?_) (λhx=>?_)
 ·refine⟨bh (by rw[zl];simp only[aH,aM];omega),az,hnx _ ⟨ae,ae,?_⟩ ae⟩
  try dsimp only
  unfold dE;rw[gC x0]
 have ex:x=s.1:=aa
 subst ex;clear hnx;have hz0:∀p∈dE s.1,(aV s p).2=true:=by intro p hp;unfold dE at hp;obtain⟨e,h0,h1,rfl⟩:=ij.1 hp;exact Az h0 aa
 refine aY (λ(q:dT)=>0<=q.1.2.1/\q.1.2.1<=400/\dC s 402 0 (dE s.1)=dC s (402-q.1.2.1).toNat q.1.2.1.toNat q.2.1/\(∀p∈q.2.1,(aV s p).2=true)/\q.2.1.length<=400) (λ(q:dT)=>(400-q.1.2.1).toNat) ?_ ⟨ak,ak,rfl,hz0,ae⟩;rintro⟨⟨_,k,_⟩,L,_⟩ next ⟨k0,k41,hg,hp,hL⟩ hnx
 intros
 try dsimp only at k0 k41 hg hp hL hnx⊢
 refine aE (λhc=>?_) (λhc=>?_)
 ·have hpk:=hp _ (cC L (0,[]) k0 hc);have hgk:dC s 402 0 (dE s.1)=(if (L.getD k.toNat (0,[])).2.length=6 then dC s (402-(k+1)).toNat (k+1).toNat L else if 400<(L++dx s (L.getD k.toNat (0,[])) s.2.1.length).length then ([],false)else dC s (402-(k+1)).toNat (k+1).toNat (L++dx s (L.getD k.toNat (0,[])) s.2.1.length)):=by rw[hg,show (402-k).toNat=(402-(k+1)).toNat+1 from by omega,show (k+1).toNat=k.toNat+1 from by omega];rw[dC,am aa]
  refine cp (λ(q:kv)=>dC s 402 0 (dE s.1)=dC s (402-(k+1)).toNat (k+1).toNat q.2.1/\(∀p∈q.2.1,(aV s p).2=true)/\q.2.1.length<=400) ?_ ?_
  ·rintro⟨_,M,_⟩ ⟨m1,m2,m3⟩;intros
   try dsimp only at m1 m2 m3⊢
   exact⟨az,hnx _ ⟨ae,ae,m1,m2,m3⟩ ae⟩
  intro kk hkk;generalize hP:L.getD k.toNat (0,[])=P at *;refine⟨k0,hc,aC (λh6=>?_) (λh6=>?_)⟩
  ·have h6:P.2.length=6:=by have:=iT h6;omega
   rw[am h6]at hgk;exact hkk _ ⟨hgk,hp,hL⟩
  have h6:¬P.2.length=6:=by have:=iH.1 h6;omega
  rw[ai h6]at hgk;refine⟨k0,hc,aa,az,?_⟩;refine aY (λ(q:dT)=>0<=q.1.2.1/\q.1.2.1<=s.2.1.length/\q.2.1=L++dx s P q.1.2.1.toNat/\q.2.1.length<=400) (λ(q:dT)=>(s.2.1.length-q.1.2.1).toNat) ?_ ⟨ak,ak,by simp[dx,be],hL⟩;rintro⟨⟨_,e,_⟩,M,_⟩ next1 ⟨e0,e1,q,hM⟩ hn1;intros
  try dsimp only at e0 e1 q hM hn1⊢
  subst q;have hMk:k<(L++dx s P e.toNat).length:=by rw[bj];omega
  have hG:(L++dx s P e.toNat).getD k.toNat (0,[])=P:=by rw[JO aa,hP]
  have hE:=@EW s P e e0;rw[hG];have hp6:=qX hpk;refine aE (λhe=>?_) (λhe=>?_)
  ·refine cp (λ(q:kv)=>q.2.1=L++dx s P (e+1).toNat/\q.2.1.length<=400) ?_ ?_
   ·rintro⟨_,M2,_⟩ ⟨q2,q3⟩;intros
    try dsimp only at q2 q3⊢
    subst q2;exact⟨az,hn1 _ ⟨ae,ae,rfl,q3⟩ ae⟩
   ·intro k1 hk1;rw[hE]at hk1;refine⟨e0,he,aC (λhb=>?_) (λhb=>?_)⟩
    ·have hb:¬(s.2.1.getD e.toNat 0==dF s P)=true:=by rw[(gX hpk).1];intro h;rw[iT h]at hb;simp at hb
     rw[ai hb,lS]at hk1;exact hk1 _ ⟨rfl,hM⟩
    ·have hb:(s.2.1.getD e.toNat 0==dF s P)=true:=by rw[(gX hpk).1];exact cR.2 (fT.1 hb)
     rw[am hb]at hk1 hE;refine aC (λh4=>?_) (λh4=>?_)
     ·have h4:=iT h4;have hbig:400<(L++dx s P s.2.1.length).length:=by have:=@KE s P (e+1).toNat s.2.1.length aa;rw[hE]at this;simp only[bj,aH,aM]at this h4⊢;omega
      rw[am hbig]at hgk;rw[hgk]at hs;cases hs
     ·have h4:=iH.1 h4;refine⟨k0,hMk,k0,hMk,aa,bh (by simp only[aH,aM];omega),bh (by simp only[aH,aM];omega),hk1 _ ⟨eP _ _ _,?_⟩⟩;rw[bj];simp only[aH,aM];omega
  ·have ee:e=s.2.1.length:=aa
   subst ee;rw[bB]at hM⊢;rw[ai aa]at hgk;refine hkk _ ⟨hgk,λp hp'=>?_,hM⟩;rcases dN.1 hp' with h|h
   ·exact hp p h
   ·exact JP hpk h6 (aZ _) h
 ·have hgl:dC s 402 0 (dE s.1)=(L,true):=by rw[hg,show (402-k).toNat=(401-k).toNat+1 from by omega,dC,ai aa]
  simp only[se,fO,wI,bI];rw[hgl]
theorem VF:aN Tryz.prog 85 se:=ctb (au u6 (au uM aQ)) aR 85 Tryz.f85 se Mn [(18,8000055014)] (λx K=>GE x.1 K) (λx h1 h2=>VO x.1 h1 h2)
def GF(s:aB)(K:bV uv.rt->Prop):Prop:=let w:=s.2.1.length;let p:=T.sl eH;bZ (S:=kv) (λa=>T.ok p a.2.1->aI (S:=dT) (λb c=>let u:=b.1.2.1;inK IntKind.i64 u->T.ok p b.2.1->cnd (decide (u<s.1)) (aX b.2.1.length ((u,([]:List Int))::([]:List aS)).length 32/\inK IntKind.i64 (u+(1:Int))/\c (((),u+(1:Int),()),b.2.1++(u,([]:List Int))::([]:List aS),())) (aI (S:=dT) (λd e=>let v:=d.2.1.length;let o:=d.1.2.1;let q:=d.2.1.getD o.toNat ((0:Int),([]:List Int));inK IntKind.i64 o->T.ok p d.2.1->cnd (decide (o<(v:Int))) (bZ (S:=kv) (λf=>T.ok p f.2.1->inK IntKind.i64 (o+(1:Int))/\e (((),o+(1:Int),()),f.2.1,())) (λg=>Ix o v<|cnd ((q.2.length:Int)==(6:Int)) (g (((),()),d.2.1,())) (Ix o v<|w<=s.2.2.1.length/\inK IntKind.i64 (s.1-(1:Int))/\aI (S:=dT) (λh i=>let t:=h.2.1.length;let r:=h.1.2.1;let n:=h.2.1.getD o.toNat ((0:Int),([]:List Int));inK IntKind.i64 r->T.ok p h.2.1->cnd (decide (r<(w:Int))) (bZ (S:=kv) (λj=>T.ok p j.2.1->inK IntKind.i64 (r+(1:Int))/\i (((),r+(1:Int),()),j.2.1,())) (λl=>Ix r w<|cnd (s.2.1.getD r.toNat (0:Int) != (aV s q).1) (l (((),()),h.2.1,())) (cnd ((t:Int)==(400:Int)) (K (([]:List aS),Bool.true,())) (Ix o t<|Ix o t<|n.2.length<=1099511627776/\aX n.2.length (r::([]:List Int)).length 8/\aX t ((n.1,n.2++r::([]:List Int))::([]:List aS)).length 32/\l (((),()),h.2.1++(n.1,n.2++r::([]:List Int))::([]:List aS),()))))) (g (((),()),h.2.1,()))) (((),(0:Int),()),d.2.1,())))) (K (d.2.1,Bool.false,()))) (((),(0:Int),()),b.2.1,()))) (((),(0:Int),()),a.2.1,())) (λm=>m (((),()),([]:List aS),()))
theorem VM(s:aB)(hok:ab (okL uv.args (s,())))(hpre:ab (uv.pre (s,()))):GF s (λr=>r=uv.res (s,())):=by
 simp only[uv,fO,wI,okL,T.oks,T.ok,ap,ab,aL,aA,bf]at hok hpre
 try dsimp only[T.den]at hok hpre
 delta GF Ix
 dsimp -proj -eta only;obtain⟨hs,n0,n4,hf,ht⟩:=hpre;unfold bI at hs;refine cp (λ(q:kv)=>q.2.1=[]) ?_ (λk hk=>hk _ rfl);rintro⟨_,l0,_⟩ e1;intros
 try dsimp only at e1⊢
 subst e1;refine aY (λ(q:dT)=>0<=q.1.2.1/\q.1.2.1<=s.1/\q.2.1=dE q.1.2.1) (λ(q:dT)=>(s.1-q.1.2.1).toNat) ?_ ⟨ak,n0,rfl⟩;rintro⟨⟨_,x,_⟩,l,_⟩ next ⟨x0,x1,q⟩ hnx
 intros
 try dsimp only at x0 x1 q hnx⊢
 subst q;have zl:(dE x).length=x.toNat:=bG _;refine aE (λhx=>?_) (λhx=>?_)
 ·refine⟨bh (by rw[zl];simp only[aH,aM];omega),az,hnx _ ⟨ae,ae,?_⟩ ae⟩
  try dsimp only
  unfold dE;rw[gC x0]
 have ex:x=s.1:=aa
 subst ex;clear hnx;have hz0:∀p∈dE s.1,(aV s p).2=true:=by intro p hp;unfold dE at hp;obtain⟨e,h0,h1,rfl⟩:=ij.1 hp;exact Az h0 aa
 refine aY (λ(q:dT)=>0<=q.1.2.1/\q.1.2.1<=400/\dC s 402 0 (dE s.1)=dC s (402-q.1.2.1).toNat q.1.2.1.toNat q.2.1/\(∀p∈q.2.1,(aV s p).2=true)/\q.2.1.length<=400) (λ(q:dT)=>(400-q.1.2.1).toNat) ?_ ⟨ak,ak,rfl,hz0,ae⟩;rintro⟨⟨_,k,_⟩,L,_⟩ next ⟨k0,k41,hg,hp,hL⟩ hnx
 intros
 try dsimp only at k0 k41 hg hp hL hnx⊢
 refine aE (λhc=>?_) (λhc=>?_)
 ·have hpk:=hp _ (cC L (0,[]) k0 hc);have hgk:dC s 402 0 (dE s.1)=(if (L.getD k.toNat (0,[])).2.length=6 then dC s (402-(k+1)).toNat (k+1).toNat L else if 400<(L++dx s (L.getD k.toNat (0,[])) s.2.1.length).length then ([],false)else dC s (402-(k+1)).toNat (k+1).toNat (L++dx s (L.getD k.toNat (0,[])) s.2.1.length)):=by rw[hg,show (402-k).toNat=(402-(k+1)).toNat+1 from by omega,show (k+1).toNat=k.toNat+1 from by omega];rw[dC,am aa]
  refine cp (λ(q:kv)=>dC s 402 0 (dE s.1)=dC s (402-(k+1)).toNat (k+1).toNat q.2.1/\(∀p∈q.2.1,(aV s p).2=true)/\q.2.1.length<=400) ?_ ?_
  ·rintro⟨_,M,_⟩ ⟨m1,m2,m3⟩;intros
   try dsimp only at m1 m2 m3⊢
   exact⟨az,hnx _ ⟨ae,ae,m1,m2,m3⟩ ae⟩
  intro kk hkk;generalize hP:L.getD k.toNat (0,[])=P at *;refine⟨k0,hc,aC (λh6=>?_) (λh6=>?_)⟩
  ·have h6:P.2.length=6:=by have:=iT h6;omega
   rw[am h6]at hgk;exact hkk _ ⟨hgk,hp,hL⟩
  have h6:¬P.2.length=6:=by have:=iH.1 h6;omega
  rw[ai h6]at hgk;refine⟨k0,hc,aa,az,?_⟩;refine aY (λ(q:dT)=>0<=q.1.2.1/\q.1.2.1<=s.2.1.length/\q.2.1=L++dx s P q.1.2.1.toNat/\q.2.1.length<=400) (λ(q:dT)=>(s.2.1.length-q.1.2.1).toNat) ?_ ⟨ak,ak,by simp[dx,be],hL⟩;rintro⟨⟨_,e,_⟩,M,_⟩ next1 ⟨e0,e1,q,hM⟩ hn1;intros
  try dsimp only at e0 e1 q hM hn1⊢
  subst q;have hMk:k<(L++dx s P e.toNat).length:=by rw[bj];omega
  have hG:(L++dx s P e.toNat).getD k.toNat (0,[])=P:=by rw[JO aa,hP]
  have hE:=@EW s P e e0;rw[hG];have hp6:=qX hpk;refine aE (λhe=>?_) (λhe=>?_)
  ·refine cp (λ(q:kv)=>q.2.1=L++dx s P (e+1).toNat/\q.2.1.length<=400) ?_ ?_
   ·rintro⟨_,M2,_⟩ ⟨q2,q3⟩;intros
    try dsimp only at q2 q3⊢
    subst q2;exact⟨az,hn1 _ ⟨ae,ae,rfl,q3⟩ ae⟩
   ·intro k1 hk1;rw[hE]at hk1;refine⟨e0,he,aC (λhb=>?_) (λhb=>?_)⟩
    ·have hb:¬(s.2.1.getD e.toNat 0==dF s P)=true:=by rw[(gX hpk).1];intro h;rw[iT h]at hb;simp at hb
     rw[ai hb,lS]at hk1;exact hk1 _ ⟨rfl,hM⟩
    ·have hb:(s.2.1.getD e.toNat 0==dF s P)=true:=by rw[(gX hpk).1];exact cR.2 (fT.1 hb)
     rw[am hb]at hk1 hE;refine aC (λh4=>?_) (λh4=>?_)
     ·have h4:=iT h4;have hbig:400<(L++dx s P s.2.1.length).length:=by have:=@KE s P (e+1).toNat s.2.1.length aa;rw[hE]at this;simp only[bj,aH,aM]at this h4⊢;omega
      rw[am hbig]at hgk;rfl
     ·have h4:=iH.1 h4;refine⟨k0,hMk,k0,hMk,aa,bh (by simp only[aH,aM];omega),bh (by simp only[aH,aM];omega),hk1 _ ⟨eP _ _ _,?_⟩⟩;rw[bj];simp only[aH,aM];omega
  ·have ee:e=s.2.1.length:=aa
   subst ee;rw[bB]at hM⊢;rw[ai aa]at hgk;refine hkk _ ⟨hgk,λp hp'=>?_,hM⟩;rcases dN.1 hp' with h|h
   ·exact hp p h
   ·exact JP hpk h6 (aZ _) h
 ·have hgl:dC s 402 0 (dE s.1)=(L,true):=by rw[hg,show (402-k).toNat=(401-k).toNat+1 from by omega,dC,ai aa]
  rw[hgl]at hs;cases hs
theorem V8:aN Tryz.prog 85 uv:=ctb (au u6 (au uM aQ)) aR 85 Tryz.f85 uv Mn [(18,8000055014)] (λx K=>GF x.1 K) (λx h1 h2=>VM x.1 h1 h2)
theorem ME:aN Tryz.prog 85 M6:=B9 VF V8
def cT{α:Type}[DecidableEq α]:List α->α->Int
 |[],_=>-1
 |a::r,x=>if a=x then 0 else (if cT r x<0 then -1 else cT r x+1)
theorem iE{α:Type}[DecidableEq α](z:α):∀{l:List α} {x:α},(x∈l->0<=cT l x/\cT l x<l.length/\l.getD (cT l x).toNat z=x/\∀i:Int,0<=i->i<cT l x->l.getD i.toNat z≠x)/\(x∉l->cT l x=-1)
 |[],x=>by simp[cT]
 |a::r,x=>by
  have ih:=@iE α _ z r x;rw[cT];by_cases h:a=x
  ·subst h;simp only[eX,cQ,true_or,not_true_eq_false,false_implies,aA,true_implies];exact⟨cB _,ak,rfl,λi i0 i1=>aa⟩
  ·rw[ai h];simp only[cQ,not_or];refine⟨λhm=>?_,λhm=>?_⟩
   ·have hm:x∈r:=hm.resolve_left λe=>h e.symm;obtain⟨h0,h1,h2,h3⟩:=ih.1 hm;rw[ai aa];have e:(cT r x+1).toNat=(cT r x).toNat+1:=aa
    refine⟨aa,by simp only[aH];omega,by rw[e,Cg];exact h2,λi i0 i1=>?_⟩;by_cases hi:i=0
    ·rw[hi];exact h
    ·have e:i.toNat=(i-1).toNat+1:=aa
     rw[e,Cg];exact h3 (i-1) aa aa
   ·rw[ih.2 hm.2,am aa]
theorem EA[DecidableEq α]{z:α}{l:List α}{x:α}(i0:0<=i)(i1:i<l.length)(h:l.getD i.toNat z=x)(hn:∀k:Int,0<=k->k<i->l.getD k.toNat z≠x):cT l x=i:=by
 have hm:x∈l:=h▸cC l z i0 i1;obtain⟨h0,h1,h2,h3⟩:=(iE z).1 hm;rcases Int.lt_trichotomy (cT l x) i with hl|hl|hl
 ·exact absurd h2 (hn _ h0 hl)
 ·exact hl
 ·exact absurd h (h3 i i0 hl)
theorem ad9[DecidableEq α]{z:α}{l:List α}{x:α}(hn:∀k:Int,0<=k->k<l.length->l.getD k.toNat z≠x):cT l x=-1:=by refine (iE z).2 λhm=>?_;obtain⟨h0,h1,h2,_⟩:=(iE z).1 hm;exact hn _ h0 h1 h2
def fJ(s:aw)(k:Int):List Int:=if cT s k<0 then s++[k]else s
def cX(l:aw):List Int:=l.foldl fJ []
def cq(l:aw):List Int:=l.map (cT (cX l))
theorem Sn{s:aw}(r:aw)(h:0<=cT s k):cT (s++r) k=cT s k:=by
 have hm:k∈s:=wc λhn=>by have:=(iE (0:Int)).2 hn;omega
 obtain⟨h0,h1,h2,h3⟩:=(iE (0:Int)).1 hm;have hg:∀i:Int,0<=i->i<s.length->(s++r).getD i.toNat 0=s.getD i.toNat 0:=λi i0 i1=>by simp only[bN];rw[g9 aa]
 refine EA (z:=(0:Int)) h0 (by rw[bj];omega) (by rw[hg _ h0 h1];exact h2) λi i0 i1=>?_;rw[hg i i0 aa];exact h3 i i0 i1
theorem RW:∀(l:aw)(s:aw),∃r,l.foldl fJ s=s++r
 |[],s=>⟨[],ak⟩
 |k::l,s=>by
  obtain⟨r,hr⟩:=RW l (fJ s k);rw[jF,hr];unfold fJ;split
  ·exact⟨k::r,ak⟩
  ·exact⟨r,rfl⟩
theorem E4:∀(l:aw)(s:aw),(l.foldl fJ s).length<=s.length+l.length
 |[],s=>ak
 |k::l,s=>by
  have:=E4 l (fJ s k);rw[jF,aH];have h2:(fJ s k).length<=s.length+1:=by unfold fJ;split<;>simp
  omega
theorem EU{l:aw}{i:Int}(i0:0<=i)(i1:i<l.length):cX (l.take (i+1).toNat)=fJ (cX (l.take i.toNat)) (l.getD i.toNat 0):=by rw[fY l 0 i0 i1];unfold cX;rw[oY];rfl
theorem AI{l:aw}{n:Nat}{k:Int}(h:0<=cT (cX (l.take n)) k):cT (cX l) k=cT (cX (l.take n)) k:=by
 obtain⟨r,hr⟩:=RW (l.drop n) (cX (l.take n))
 have:cX l=cX (l.take n)++r:=by
  rw[←hr]
  conv=>lhs;rw[←kx n l]
  unfold cX;rw[oY]
 rw[this,Sn r h]
theorem Ky{s:aw}(h:cT s k<0):cT (s++[k]) k=s.length:=by
 have hm:k∉s:=λhm=>by have:=((iE (0:Int)).1 hm).1;omega
 refine EA (z:=(0:Int)) aa (by simp only[bj,aH,aM];omega) (by simp[bN]) λi i0 i1=>?_;simp only[bN];rw[g9 aa];intro e;exact hm (e▸(by rw[←bN];exact cC s 0 i0 i1))
structure NumM (m:Ca) (s:aw):Prop where
 n:m.length=s.length
 f:∀k:Int,jV aq aq m k=if cT s k<0 then none else some (cT s k)
theorem Ps{x y z:Int}:∀{l:Ca},jV aq aq (eI aq aq l x z) y=if y=x then some z else jV aq aq l y
 |[]=>by
  show jV aq aq [(x,z)] y=_;rw[jq];by_cases h:y=x
  ·rw[am (gi.2 h),am h]
  ·rw[ai (λe=>h (gi.1 e)),ai h]
 |e::r=>by
  have ih:=@Ps x y z r;unfold eI;by_cases h:eqR aq x e.1=true
  ·rw[am h,jq,jq];have e1:=gi.1 h;rw[←e1];by_cases h2:y=x
   ·rw[am (gi.2 h2),am h2]
   ·rw[ai (λe=>h2 (gi.1 e)),ai h2,ai (λe=>h2 (gi.1 e))]
  ·rw[ai h,jq,jq,ih];by_cases h2:eqR aq y e.1=true
   ·rw[am h2,am h2,ai];intro h3;exact h (gi.2 (h3▸gi.1 h2))
   ·rw[ai h2,ai h2]
theorem NumM.add{s:aw}(h:NumM m s)(hk:cT s k<0):NumM (eI aq aq m k m.length) (s++[k]):=by
 have hno:k∉m.map (·.1):=λhm=>by
  have:∀{l:Ca},k∈l.map (·.1)->jV aq aq l k≠none:=by
   intro l
   induction l with
   |nil=>intro h;simp at h
   |cons e r ih=>
    intro hm;rw[jq];split
    ·simp
    ·rename_i h1;rcases cQ.1 hm with h2|h2
     ·exact absurd (gi.2 h2) h1
     ·exact ih h2
  have:=this hm;rw[h.f,am hk]at this;exact this rfl
 refine⟨?_,λy=>?_⟩
 ·have:=@PJ aq aq k m.length m hno;rw[this,bj,h.n];rfl
 ·rw[Ps];by_cases e:y=k
  ·subst e;rw[am rfl,Ky hk,ai aa,h.n]
  ·rw[ai e,h.f];by_cases hy:cT s y<0
   ·have hn:y∉s:=λhm=>by have:=((iE (0:Int)).1 hm).1;omega
    have:cT (s++[k]) y=-1:=(iE (0:Int)).2 (by simp[hn,e]);rw[am hy,this,am aa]
   ·rw[Sn _ aa]
def sM:Ct:=⟨[bd],[false],λx=>[x.1.length<=1099511627776],[(false,cd)],λx=>(cq x.1,()),false,none⟩
def XZ:Ann:=(.s .n (.s .n (.s .n (.s (.s .n (.l [(3,(.ref 9 [])),(4,(.ref 12 [])),(15,(.d aq))] [(9,(.mp aq aq)),(12,cd)] [13,14] (.s .n (.s .n (.s (.s .n (.s .n (.s (.s .n (.j [(3,(.ref 9 [])),(4,(.ref 12 [])),(7,(.d aq))] [(9,(.mp aq aq)),(12,cd)] [5,13,14,15] .n)) .n))) .n))))) .n))))
def Ir(labels:aw)(K:oO):Prop:=let e:=labels.length;0<=(e:Int)/\(e:Int)<=(e:Int)/\(e:Int)<=((140737488355328:Nat):Int)/\(e:Int)*((8:Nat):Int)<=((140737488355328:Nat):Int)/\aI (S:=BX) (λa b=>let h:=a.2.1;let f:=a.1.2.2.1;let g:=labels.getD f.toNat 0;Iq f<|T.ok (T.mp aq aq) h->(Ol a.2.2.1<|cnd (decide (f<(e:Int))) (Ix f e<|bZ (S:=BX) (λc=>Iq c.1.2.2.1<|T.ok (T.mp aq aq) c.2.1->(Ol c.2.2.1<|Ix f c.2.2.1.length<|Ik (f+1)<|b (((),(),f+1,()),c.2.1,List.set c.2.2.1 f.toNat c.1.2.2.1,()))) (λd=>cnd (!tL aq aq h g) (aX h.length 1 1/\d (((),(),(h.length:Int),()),eI aq aq h g (h.length:Int),a.2.2.1,())) (d (((),(),jw aq aq h g,()),h,a.2.2.1,())))) (K (a.2.2.1,())))) (((),(),0,()),([]:List (Int×Int)),List.replicate (Int.toNat (e:Int)) (0:Int),())
theorem YL(labels:aw)(hok:ab (okL sM.args (labels,())))(hpre:ab (sM.pre (labels,()))):Ir labels (λr=>r=sM.res (labels,())):=by
 simp only[sM,okL,T.oks,T.ok,ap,ab,aL,aA,bf]at hok hpre
 try dsimp only[T.den]at hok hpre
 delta Ir Ik Iq Ix Ol
 dsimp -proj -eta only;have hl:labels.length<=1099511627776:=hpre;clear hok;refine⟨aa,cB _,aa,aa,?_⟩;rw[bB,qY];refine aY (λ(s:BX)=>0<=s.1.2.2.1/\s.1.2.2.1<=labels.length/\NumM s.2.1 (cX (labels.take s.1.2.2.1.toNat))/\s.2.2.1=be labels.length λk=>if k<s.1.2.2.1 then cT (cX labels) (labels.getD k.toNat 0)else 0) (λ(s:BX)=>(labels.length-s.1.2.2.1).toNat) ?_ ⟨ak,ak,⟨rfl,λk=>rfl⟩,dJ λk k0 _=>by dsimp only;rw[ai aa]⟩;rintro⟨⟨_,_,i,_⟩,m,out,_⟩ next ⟨i0,i1,hM,ho⟩ hn _ _ _
 try dsimp only at i0 i1 hM ho hn⊢
 refine aE (λhc=>?_) (λhc=>?_)
 ·have hs:=@EU labels i i0 hc;have hex:=@AI labels (i+1).toNat (labels.getD i.toNat 0);have hml:m.length<=labels.length:=by rw[hM.n];have:=E4 (labels.take i.toNat) [];rw[ez]at this;simp only[aM]at this;unfold cX;omega
  have hout:∀v:Int,v=cT (cX labels) (labels.getD i.toNat 0)->out.set i.toNat v=be labels.length λk=>if k<i+1 then cT (cX labels) (labels.getD k.toNat 0)else 0:=λv hv=>by
   rw[ho,mb i0 hc];refine dJ λk k0 k1=>?_;by_cases h:k=i
   ·rw[am h,am aa,hv,h]
   ·rw[ai h];by_cases h2:k<i
    ·rw[am h2,am aa]
    ·rw[ai h2,ai aa]
  have hol:i<(out.length:Int):=by rw[ho,bG];exact hc
  rw[hs]at hex;generalize labels.getD i.toNat 0=k at *;refine⟨i0,hc,?_⟩;refine cp (λ(s:BX)=>NumM s.2.1 (fJ (cX (labels.take i.toNat)) k)/\s.1.2.2.1=cT (cX labels) k/\s.2.2.1=out) (λs ⟨s1,s2,s3⟩ _ _ _=>⟨i0,by rw[s3];exact hol,az,hn _ ⟨ae,ae,by dsimp only;rw[hs];exact s1,by dsimp only;rw[s3];exact hout _ s2⟩ ae⟩) (λkk hk=>?_);have hf:=hM.f k;refine aC (λhx=>?_) (λhx=>?_)
  ·have hneg:cT (cX (labels.take i.toNat)) k<0:=by refine wc λh=>?_;rw[ai h]at hf;simp[tL,hf]at hx
   have hd:fJ (cX (labels.take i.toNat)) k=cX (labels.take i.toNat)++[k]:=by unfold fJ;rw[am hneg]
   have hi:=Ky hneg;rw[hd]at hex hk;rw[hi]at hex;refine⟨by unfold aX;rw[bO];omega,hk _ ⟨hM.add hneg,?_,rfl⟩⟩
   try dsimp only
   rw[hex aa,hM.n]
  ·have hpos:¬cT (cX (labels.take i.toNat)) k<0:=λh=>by rw[am h]at hf;simp[tL,hf]at hx
   have hd:fJ (cX (labels.take i.toNat)) k=cX (labels.take i.toNat):=by unfold fJ;rw[ai hpos]
   rw[ai hpos]at hf;rw[hd]at hex hk;refine hk _ ⟨hM,?_,rfl⟩
   try dsimp only
   rw[hex aa];unfold jw;rw[hf];rfl
 ·have e:i=labels.length:=aa
  subst e;simp only[sM,cq];rw[ho];congr 1;apply lR;intro k;rw[fQ];by_cases hk:k<labels.length
  ·have h1:=@iJ Int (λk=>if k<(labels.length:Int)then cT (cX labels) (labels.getD k.toNat 0)else 0) 0 k labels.length aa aa;rw[bB,am aa,bN,bX (by rw[bG];exact hk)]at h1;rw[bX (by rw[bG];exact hk),bX hk];simp only[dY]at h1;rw[h1,bN,bX hk];rfl
  ·rw[jj (by rw[bG];omega),jj aa];rfl
theorem Ya:aN Tryz.prog 121 sM:=ctb aQ aR 121 Tryz.f121 sM XZ [] (λx K=>Ir x.1 K) (λx h1 h2=>YL x.1 h1 h2)
def dn(j:aw):List Int:=be j.length (cE j)
def EH(j:aw):Nat->List Int
 |0=>j
 |n+1=>(d6 (EH j n) n).1
def ad3(j:aw):List Int:=EH j j.length
def rZ:Wt:=⟨cd,[],[],λx y=>[UfP x,x.length<=1099511627776],λx y=>ad3 x,[(false,cd)],λx y=>(cq (dn x),()),0⟩
def Mv:Ct:=iO rZ
def Vl:Ann:=(.s .n (.s .n (.s (.s .n (.l [(0,(.ref 1000000 [])),(3,(.ref 7 [])),(10,(.d aq))] [(1000000,cd),(7,cd)] [9] .n)) .n)))
def ag8:FuncId->Option Ct:=lkp [(120,ML),(121,sM)]
def Mr(j:aw)(K:(List Int)->cV->Prop):Prop:=let d:=j.length;0<=(d:Int)/\(d:Int)<=(d:Int)/\(d:Int)<=((140737488355328:Nat):Int)/\(d:Int)*((8:Nat):Int)<=((140737488355328:Nat):Int)/\aI (S:=oN) (λa b=>let e:=a.2.2.1;let c:=a.1.2.2.1;Iq c<|Ol a.2.1<|Ol e<|cnd (decide (c<(d:Int))) (UfP a.2.1/\(Ix c a.2.1.length<|Ix c e.length<|Ik (c+1)<|b (((),(),c+1,()),(d6 a.2.1 c).1,List.set e c.toNat (d6 a.2.1 c).2,()))) (e.length<=1099511627776/\K a.2.1 (cq e,()))) (((),(),0,()),j,List.replicate (Int.toNat (d:Int)) (0:Int),())
theorem Vw(j:aw)(hok:ab (rZ.o.strip.oks j))(hok2:ab (okL rZ.as (())))(hpre:ab (rZ.pre j (()))):Mr j (λz r=>z=rZ.new j (())/\r=rZ.res j (())):=by
 simp only[rZ,O.strip,okL,T.oks,T.ok,ap,ab,aL,aA,bf]at hok hok2 hpre
 try dsimp only[T.den]at hok
 try dsimp only[T.den]at hok2
 try dsimp only[T.den]at hpre
 delta Mr Ik Iq Ix Ol
 dsimp -proj -eta only;obtain⟨U,hl⟩:=hpre;clear hok;refine⟨aa,cB _,aa,aa,?_⟩;rw[bB,qY];refine aY (λ(s:oN)=>0<=s.1.2.2.1/\s.1.2.2.1<=j.length/\s.2.1=EH j s.1.2.2.1.toNat/\UfP s.2.1/\s.2.1.length=j.length/\(∀y:Int,0<=y->y<j.length->cE s.2.1 y=cE j y)/\s.2.2.1=be j.length λk=>if k<s.1.2.2.1 then cE j k else 0) (λ(s:oN)=>(j.length-s.1.2.2.1).toNat) ?_ ⟨ak,ak,rfl,U,rfl,λ_ _ _=>rfl,dJ λk k0 _=>by dsimp only;rw[ai aa]⟩;rintro⟨⟨_,_,i,_⟩,l,out,_⟩ next ⟨i0,i1,hq,V,hll,hr,ho⟩ hn _ _ _
 try dsimp only at i0 i1 hq V hll hr ho hn⊢
 refine aE (λhc=>?_) (λhc=>?_)
 ·obtain⟨a1,a2,a3,a4⟩:=AE V i0 aa;refine⟨V,i0,aa,i0,by rw[ho,bG];exact hc,az,hn _ ⟨ae,ae,?_,a1,by dsimp only;rw[a2];exact hll,λy y0 y1=>?_,?_⟩ ae⟩
  ·try dsimp only
   rw[show (i+1).toNat=i.toNat+1 from by omega,EH,hq,show ((i.toNat:Nat):Int)=i from by omega]
  ·try dsimp only;rw[a4 y y0 aa,hr y y0 y1]
  ·try dsimp only
   rw[ho,mb i0 hc];refine dJ λk k0 k1=>?_;by_cases h:k=i
   ·rw[am h,am aa,a3,hr i i0 hc,h]
   ·rw[ai h];by_cases h2:k<i
    ·rw[am h2,am aa]
    ·rw[ai h2,ai aa]
 ·have e:i=j.length:=aa
  subst e;have hrep:out=dn j:=by rw[ho];exact dJ λk _ k1=>by rw[am k1]
  refine⟨by rw[ho,bG];exact hl,?_⟩;rw[bB]at hq;exact⟨hq,by rw[hrep];rfl⟩
theorem Mm:aN Tryz.prog 91 Mv:=wtb (au M8 (au Ya aQ)) aR 91 Tryz.f91 rZ Vl [] (λx y h1 h2 h3=>Eq.mp (by kernel_rfl) (Vw x h1 h2 h3))
def eA(p:aw):Int:=p.foldl (λn k=>mxR n (k+1)) 0
theorem agi{p:aw}(i0:0<=i)(i1:i<p.length):eA (p.take (i+1).toNat)=mxR (eA (p.take i.toNat)) (p.getD i.toNat 0+1):=by rw[fY p 0 i0 i1];unfold eA;rw[oY];rfl
def rY:Ct:=⟨[bd],[false],λx=>[x.1.length<=1099511627776,bD x.1 1099511627776=true],[(false,cA)],λx=>(eA x.1,()),false,none⟩
def Vh:Ann:=(.s .n (.s .n (.s (.s .n (.l [(3,(.d aq)),(8,(.d aq))] [] [6,7] .n)) .n)))
def G5(p:aw)(K:jB):Prop:=aI (S:=(jf×Unit)) (λa b=>let c:=a.1.2.1;Iq a.1.1<|Iq c<|cnd (decide (c<(p.length:Int))) (Ix c p.length<|Ik (p.getD c.toNat 0+1)<|Ik (c+1)<|b ((mxR a.1.1 (p.getD c.toNat 0+1),c+1,()),())) (K (a.1.1,()))) ((0,0,()),())
theorem Vs(p:aw)(hok:ab (okL rY.args (p,())))(hpre:ab (rY.pre (p,()))):G5 p (λr=>r=rY.res (p,())):=by
 simp only[rY,okL,T.oks,T.ok,ap,ab,aL,aA,bf]at hok hpre
 try dsimp only[T.den]at hok hpre
 delta G5 Ik Iq Ix
 dsimp -proj -eta only;obtain⟨hl,hw⟩:=hpre;clear hok;refine aY (λ(s:kZ)=>0<=s.1.2.1/\s.1.2.1<=p.length/\s.1.1=eA (p.take s.1.2.1.toNat)) (λ(s:kZ)=>(p.length-s.1.2.1).toNat) ?_ ⟨ak,ak,rfl⟩;rintro⟨⟨n,i,_⟩,_⟩ next ⟨i0,i1,hq⟩ hn _ _
 try dsimp only at i0 i1 hq hn⊢
 refine aE (λhc=>?_) (λhc=>?_)
 ·have hk:=fF.1 hw i i0 hc;refine⟨i0,hc,az,az,hn _ ⟨ae,ae,?_⟩ ae⟩
  try dsimp only
  rw[agi i0 hc,hq]
 ·simp only[rY];rw[hq,jv _ aa]
theorem Mi:aN Tryz.prog 92 rY:=ctb aQ aR 92 Tryz.f92 rY Vh [] (λx K=>G5 x.1 K) (λx h1 h2=>Vs x.1 h1 h2)
def iY(p q:aO):Int:=if (p.2.length:Int)-q.2.length≠0 then (p.2.length:Int)-q.2.length else dU p.2 q.2
def qB:Ct:=⟨[eH,eH],[true,true],λx=>[x.1.2.length<=1000000,x.2.1.2.length<=1000000],[(false,cA)],λx=>(iY x.1 x.2.1,()),false,none⟩
def GR(p q:aO)(K:jB):Prop:=Ik ((p.2.length:Int)-(q.2.length:Int))<|cnd ((p.2.length:Int)-(q.2.length:Int) != 0) (K ((p.2.length:Int)-(q.2.length:Int),())) (K (dU p.2 q.2,()))
theorem Wj(p q:aO)(hok:ab (okL qB.args (p,q,())))(hpre:ab (qB.pre (p,q,()))):GR p q (λr=>r=qB.res (p,q,())):=by
 simp only[qB,okL,T.oks,T.ok,ap,ab,aL,aA,bf]at hok hpre
 try dsimp only[T.den]at hok hpre
 delta GR Ik
 obtain⟨h1,h2⟩:=hpre;simp only[qB,iY];refine⟨az,aC (λh=>?_) (λh=>?_)⟩
 ·rw[qu]at h;rw[am h]
 ·have h:=fT.1 h;rw[ai (λhh=>hh h)]
theorem GL:aN Tryz.prog 93 qB:=ctb (au H7 aQ) aR 93 Tryz.f93 qB .n [] (λx K=>GR x.1 x.2.1 K) (λx h1 h2=>Wj x.1 x.2.1 h1 h2)
def cJ(n:Int):List Int:=be n.toNat λi=>i
theorem agz(i0:0<=i)(i1:i<n):(be n λk=>if k<i then k else 0).set i.toNat i=be n λk=>if k<i+1 then k else 0:=by
 rw[mb i0 i1];refine dJ λk k0 k1=>?_;by_cases h:k=i
 ·rw[am h,am aa,h]
 ·rw[ai h];by_cases h2:k<i
  ·rw[am h2,am aa]
  ·rw[ai h2,ai aa]
def sE:Ct:=⟨[aq],[false],λx=>[0<=x.1,x.1<=1099511627776],[(false,cd)],λx=>(cJ x.1,()),false,none⟩
def Xq:Ann:=(.s .n (.s .n (.s (.s .n (.l [(3,(.ref 6 [])),(9,(.d aq))] [(6,cd)] [8] .n)) .n)))
def HN(n:Int)(K:oO):Prop:=let d:=List.replicate n.toNat (0:Int);0<=n/\n<=n/\n<=((140737488355328:Nat):Int)/\n*((8:Nat):Int)<=((140737488355328:Nat):Int)/\aI (S:=(dW×cV)) (λa b=>let c:=a.1.2.1;Iq c<|Ol a.2.1<|cnd (decide (c<(d.length:Int))) (Ix c a.2.1.length<|Ik (c+1)<|b (((),c+1,()),List.set a.2.1 c.toNat c,())) (K (a.2.1,()))) (((),0,()),d,())
theorem Yk(n:Int)(hok:ab (okL sE.args (n,())))(hpre:ab (sE.pre (n,()))):HN n (λr=>r=sE.res (n,())):=by
 simp only[sE,okL,T.oks,T.ok,ap,ab,aL,aA,bf]at hok hpre
 try dsimp only[T.den]at hok hpre
 delta HN Ik Iq Ix Ol
 dsimp -proj -eta only;obtain⟨n0,n1⟩:=hpre;refine⟨n0,cB _,aa,aa,?_⟩;rw[qY,bG];refine po (n:=(n.toNat:Int)) (λi=>be n.toNat λk=>if k<i then k else 0) aa (dJ λk k0 _=>by rw[ai aa]) ?_ ?_
 ·intro i next i0 i1 hn _ _
  try dsimp only at hn⊢
  rw[←agz i0 i1]at hn;exact aE (λ_=>⟨i0,by rw[bG];exact i1,az,hn⟩) (λh=>absurd i1 h)
 ·intro next _ _
  refine aE (λh=>absurd h (jL _)) (λ_=>?_);simp only[sE,cJ];exact congrArg (λz=>(z,())) (dJ λk _ k1=>by rw[am k1])
theorem NA:aN Tryz.prog 94 sE:=ctb aQ aR 94 Tryz.f94 sE Xq [] (λx K=>HN x.1 K) (λx h1 h2=>Yk x.1 h1 h2)
def zI:Ct:=⟨[aq],[false],λx=>[0<=x.1,x.1<=1099511627776],[(false,cd)],λx=>(cJ x.1,()),false,none⟩
def HF(n:Int)(K:oO):Prop:=0<=n/\n<=1099511627776/\K (cJ n,())
theorem XL(n:Int):Mh zI (n,()) (HF n):=by
 intro hok hpre;simp only[zI,okL,T.oks,T.ok,ap,ab,aL,aA,bf]at hok hpre
 try dsimp only[T.den]at hok hpre
 unfold HF;exact⟨hpre.1,hpre.2,rfl⟩
theorem Nl:aN Tryz.prog 87 zI:=ctb (au NA aQ) aR 87 Tryz.f87 zI .n [] (λx K=>HF x.1 K) (λx h1 h2=>XL x.1 h1 h2)
end
end Go.Bm
