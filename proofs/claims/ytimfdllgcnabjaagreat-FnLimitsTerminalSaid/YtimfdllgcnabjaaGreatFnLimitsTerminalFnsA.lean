/- What the functions that FnLimitsTerminal reaches give: for each its contract, what it asks, and the proof. No condition. -/
import Derived.Test.YtimfdllgcnabjaaGreatTab
set_option linter.unusedVariables false
set_option linter.unusedSimpArgs false
namespace Go.Bm
open Go.Proofs
abbrev a0g:=@implies_true
abbrev a1o:=@decide_eq_false_iff_not
abbrev a1w:=@bne_eq_false_iff_eq
abbrev a3i:=@bne_iff_ne
abbrev a1b:=@Int.lt_irrefl
abbrev a34:=@List.eq_of_mem_replicate
abbrev a49:=@List.getD_cons_succ
abbrev a11:=@List.foldl_append
abbrev a2m:=@List.map_append
abbrev a3j:=@Bool.eq_iff_iff
abbrev a4l:=@List.getElem?_set_self
abbrev a4m:=@List.getElem?_set_ne
abbrev a1p:=@decide_eq_true
abbrev a3a:=@List.mem_filter
abbrev a5f:=@Int.toNat_of_nonneg
abbrev cew:Type:=(Int×((List Int)×((List Int)×((List Int)×(List (List Int))))))
abbrev cex:Type:=(Unit×(Unit×(Int×Unit)))
abbrev cey:Type:=(cew×(cew×((List Int)×(List Int))))
abbrev cez:Type:=((List Int)×Unit)
abbrev ce0:Type:=((List Int)×(Int×Int))
abbrev ce1:Type:=(cew×(cew×Unit))
abbrev ce2:Type:=(List (List Int))
abbrev ce3:Type:=((Unit×cex)×(cew×(cew×cez)))
abbrev ce4:Type:=(Unit×(Int×Unit))
abbrev ce5:Type:=(Int×(List Int))
abbrev ce6:Type:=(Unit×(Unit×Unit))
abbrev ce7:Type:=((Int×Unit)×Unit)
abbrev ce8:Type:=((Unit×ce6)×(ce0×ce1))
abbrev ce9:Type:=(Unit×(Unit×cex))
abbrev cfa:Type:=(cex×(ce0×(ce2×Unit)))
abbrev cfb:Type:=(cew×((List ce5)×(Int×((List Int)×(cew×(Int×(cey×Unit)))))))
abbrev cfc:Type:=(cey×(cew×(cew×((List (Int×(Int×Int)))×(ce5×Unit)))))
abbrev cfd:Type:=(ce4×((List (Int×ce5))×Unit))
abbrev cfe:Type:=(Int×Int×List Int)
abbrev cff:Type:=((Unit×ce6)×(ce0×(cey×(cey×Unit))))
abbrev cfg:Type:=((cey×(cey×(Bool×(Int×ce2))))×Unit)
abbrev cfh:Type:=(Unit×(Bool×(Int×Unit)))
abbrev cfi:Type:=((Unit×(Unit×(Unit×(Bool×Unit))))×(ce0×ce1))
abbrev cfj:Type:=(cew×(ce2×Unit))
abbrev cfk:Type:=((List Int)×cez)
abbrev cfl:Type:=(ce9×((List cey)×(cew×(cew×cez))))
abbrev cfm:Type:=(ce9×(cew×(cew×(ce2×cez))))
abbrev cfn:Type:=(ce4×((List ce5)×Unit))
abbrev cfo:Type:=((Unit×Unit)×cez)
abbrev cfp:Type:=(cex×(cey×cez))
abbrev cfq:Type:=(Int×(Int×Int))
abbrev cfr:Type:=((Unit×cex)×((List cey)×ce1))
abbrev cfs:Type:=((Unit×(Unit×(Unit×(Int×(Int×Unit)))))×(cew×(cew×cez)))
abbrev cft:Type:=((Unit×Unit)×((List (Int×ce5))×Unit))
abbrev cfu:Type:=(ce9×(cey×(cew×(cew×((List cfq)×Unit)))))
abbrev cfv:Type:=((Unit×(Bool×Unit))×cez)
abbrev cfw:Type:=(cew×(ce2×(cew×cez)))
abbrev cfx:Type:=((Unit×ce9)×cfc)
abbrev cfy:Type:=((Unit×cex)×(cew×(ce2×(cew×Unit))))
abbrev cfz:Type:=(ce6×(ce0×(ce2×Unit)))
abbrev cf0:Type:=(ce9×(ce0×(cew×(ce2×cez))))
abbrev cf1:Type:=((Int×(Unit×ce6))×(ce2×ce1))
abbrev cf2:Type:=((Unit×cex)×(ce0×(ce2×cez)))
abbrev cf3:Type:=((Unit×(Unit×(Unit×(cew×Unit))))×(ce0×(cew×(cey×Unit))))
abbrev cf4:Type:=(ce0×(cey×Unit))
abbrev cf5:Type:=((Unit×(Int×(Int×Unit)))×cfg)
abbrev cf6:Type:=(ce6×((List ce5)×(Int×Unit)))
abbrev cf7:Type:=(ce9×(ce0×(cew×cfk)))
abbrev cf8:Type:=(Unit×(Unit×ce6))
abbrev cf9:Type:=((Unit×cex)×(cew×cfj))
abbrev cga:Type:=((Unit×cex)×(ce0×cfj))
abbrev cgb:Type:=(Int×Int×Int×Int)
abbrev cgc:Type:=(ce4×(ce2×Unit))
abbrev cgd:Type:=((Unit×cex)×(ce2×ce1))
abbrev cge:Type:=(ce4×(ce0×Unit))
abbrev cgf:Type:=(cex×(ce0×(cew×Unit)))
set_option maxRecDepth 100000
set_option maxHeartbeats 1000000
noncomputable section
abbrev bc:T:=.int .i64
abbrev ed:T:=.sl bc
abbrev wm:T:=.sl ed
abbrev bhu:T:=.p bc (.p ed (.p ed (.p ed wm)))
abbrev tyN8:T:=.p bhu (.p bhu (.p ed ed))
abbrev bve:O:=.fz tyN8
abbrev kf:O:=.fz .bool
abbrev kg:O:=.fz bc
abbrev dq:O:=.sl kg
abbrev vp:O:=.sl dq
abbrev bxd:O:=.p kf (.p kg vp)
abbrev bu3:O:=.pt (.p bve (.p bve bxd))
abbrev bph:O:=.p kg (.p dq (.p dq (.p dq vp)))
abbrev bpp:O:=.p dq dq
abbrev au6:O:=.pt (.p bph (.p bph bpp))
abbrev bq4:O:=.fz bhu
abbrev tyN4:O:=.p bq4 (.p bq4 bpp)
abbrev bw5:O:=.sl tyN4
abbrev tyN3:O:=.pt tyN4
abbrev tyN5:O:=.pt (.fz (.pt tyN8))
abbrev tyN6:O:=.pt bve
abbrev gh:O:=.pt bph
abbrev alh:O:=.sl (.fz ed)
abbrev ceg:O:=.pt (.p kg (.p dq (.p dq (.p dq alh))))
abbrev bya:T:=.pt bhu
abbrev bxa:O:=.pt (.fz bya)
abbrev ac8:O:=.pt bq4
abbrev ai1:O:=.fz jq
abbrev byh:O:=.pt (.p ai1 (.p ai1 bxd))
abbrev awj:O:=.fz bp
abbrev av3:O:=.p awj (.p awj bpp)
abbrev av5:O:=.sl av3
abbrev bh5:T:=.p bc (.p bc bc)
abbrev byu:O:=.pt (.sl (.fz bh5))
abbrev bpq:T:=.p bc ed
abbrev bxm:T:=.p bc bpq
abbrev cdo:O:=.sl (.fz bxm)
abbrev iq:T:=.sl (.int .u8)
abbrev yj:O:=.pt (.fz (.p iq (.p bc (.int .u64))))
abbrev byw:O:=.p kg dq
abbrev bql:O:=.sl byw
abbrev bb8:O:=.pt bql
abbrev bq6:T:=.sl bh5
abbrev bxh:T:=.pt bq6
abbrev bhs:O:=.sl (.fz bpq)
abbrev cd8:O:=.pt (.fz bpq)
abbrev bxz:O:=.pt dq
abbrev oc:O:=.pt (.fz gz)
abbrev as1:O:=.pt kg
abbrev aeo:T:=.pt bp
abbrev aao:T:=.pt jq
abbrev awu:O:=.fz yg
abbrev adh:T:=.sl yg
abbrev asq:T:=.sl bqk
abbrev bqd:Obs:=[(999900,bxa),(999901,bb8),(999902,as1),(999903,bxz),(999904,bxa),(999905,as1),(999906,tyN5)]
abbrev bx3:Shs:=[(4,(.ad 4 [.de])),(5,(.ad 5 [.de])),(9,(.ref 800009 [])),(11,(.ref 800011 [])),(13,(.d bc))]
abbrev bxb:Shs:=[(0,(.ad 1000000 [.de])),(3,(.ad 3 [.de])),(4,(.ad 4 [.de])),(58,(.d .bool))]
abbrev byc:Shs:=[(4,(.ad 4 [.de])),(7,(.ad 7 [.de])),(12,(.ref 800012 [])),(13,(.d bc))]
abbrev bx7:Shs:=[(4,(.ad 4 [.de])),(7,(.ad 7 [.de])),(12,(.ref 800012 [])),(14,(.d bc))]
abbrev bxi:Shs:=[(4,(.ad 4 [.de])),(7,(.ad 7 [.de])),(12,(.ref 800012 [])),(15,(.d bc))]
abbrev bw9:Shs:=[(6,(.ad 6 [.de])),(8,(.ad 8 [.de])),(11,(.ref 800011 [])),(13,(.d bc))]
abbrev ak4:Shs:=[(0,(.ad 1000000 [.de])),(3,(.ad 3 [.de])),(4,(.ad 4 [.de]))]
abbrev byt:Shs:=[(0,(.ad 1000000 [.de])),(6,(.ad 6 [.de])),(8,(.ad 8 [.de]))]
abbrev bh9:Shs:=[(0,(.ad 1000000 [.de])),(2,(.ad 2 [.de])),(3,(.ad 3 [.de]))]
abbrev bxv:Shs:=[(4,(.ad 4 [.de])),(7,(.ad 7 [.de])),(10,(.d bc))]
abbrev bxe:Shs:=[(4,(.ad 4 [.de])),(7,(.ad 7 [.de])),(11,(.d bc))]
abbrev bqu:Obs:=[(1,tyN6),(2,gh),(6,gh),(7,byu),(9,cd8)]
abbrev byp:Shs:=[(4,(.ad 4 [.de])),(7,(.ad 7 [.de])),(8,(.d bc))]
abbrev byl:Shs:=[(4,(.ad 4 [.de])),(7,(.ad 7 [.de])),(9,(.d bc))]
abbrev bx1:Obs:=[(999900,bw5),(4,ac8),(5,ac8),(800009,dq)]
abbrev bo9:Obs:=[(4,gh),(5,gh),(800009,vp),(800011,dq)]
abbrev byz:Obs:=[(2,gh),(800004,vp),(5,gh),(800007,dq)]
abbrev bxp:Shs:=[(0,(.ad 1000000 [.de])),(5,(.ref 800005 []))]
abbrev ars:Obs:=[(1000000,yj),(3,ceg),(4,gh)]
abbrev bhk:Shs:=[(3,(.ref 800003 [])),(4,(.d bc))]
abbrev bij:Shs:=[(5,(.ref 800005 [])),(6,(.d bc))]
abbrev bcb:Obs:=[(1000000,yj),(3,gh),(4,gh)]
abbrev bhi:Obs:=[(1000000,yj),(2,au6),(3,tyN3)]
abbrev avw:Obs:=[(4,gh),(7,gh),(800012,dq)]
abbrev bii:Obs:=[(6,gh),(8,gh),(800011,dq)]
abbrev awa:Obs:=[(1000000,yj),(800005,vp)]
abbrev bpo:Obs:=[(2,gh),(800006,vp)]
abbrev bil:Shs:=[(7,(.ref 800007 []))]
abbrev aon:Obs:=[(4,gh),(7,gh)]
abbrev bh8:Obs:=[(1000000,dq)]
abbrev arw:Shs:=[(7,(.d bc))]
abbrev ais:Shs:=[(5,(.d bc))]
abbrev ak5:Obs:=[(800005,dq)]
abbrev awd:Obs:=[(800008,dq)]
abbrev baw:Obs:=[(800003,dq)]
abbrev ar5:Obs:=[(800007,cdo)]
def Ix(a:Int)(l:Nat)(P:Prop):Prop:=0<=a/\a<(l:Int)/\P
def Iq(a:Int)(P:Prop):Prop:=inK .i64 a->P
def Ik(a:Int)(P:Prop):Prop:=inK .i64 a/\P
def Ol(a:List Int)(P:Prop):Prop:=T.ok (.sl (.int .i64)) a->P
def Om(a:List (List Int))(P:Prop):Prop:=T.ok (.sl (.sl (.int .i64))) a->P
def Oc(a:aa)(P:Prop):Prop:=inK .i64 a.1->T.ok (.sl (.int .i64)) a.2.1->T.ok (.sl (.int .i64)) a.2.2.1->T.ok (.sl (.int .i64)) a.2.2.2.1->T.ok (.sl (.sl (.int .i64))) a.2.2.2.2->P
def Of(a:am)(P:Prop):Prop:=Oc a.1 (Oc a.2.1 (T.ok (.sl (.int .i64)) a.2.2.1->T.ok (.sl (.int .i64)) a.2.2.2->P))
def Oa(t:T)(a:t.den)(P:Prop):Prop:=T.ok t a->P
theorem ctb {Φ : FuncId -> Option Ct} (g : uf Tryz.prog Φ) {B : Tab} (hB : TabOk Tryz.prog B) (f : FuncId) (fn : Func) (ct : Ct) (A : Ann) (l : List (Nat × Nat)) (W : db ct.args -> (gq ct.rt -> Prop) -> Prop) (hm : ∀ x, ab (okL ct.args x) -> ab (ct.pre x) -> W x (fun r => r = ct.res x)) (h : (Tryz.prog.funcs[f]?, fn.body, fn.name == "runtime.NumGoroutine", ct.ga, orb ct.sh (af9 ct.rt), okC fn.ntmps (tq l) (kh fn), Nat.ble ct.ga.length fn.ntmps) = (some fn, some (kh fn), false, agL B fn, true, true, true) := by kernel_rfl) (hu : ct.mu = none := by rfl) (hw : ∀ x K, evF B Φ (tq l) fn (kh fn) A ct x K = W x K := by intros; kernel_rfl) : bw Tryz.prog f ct := by
 simp only[a0n]at h;obtain⟨h1,h2,h3,h4,h5,h6,h7⟩:=h;exact cdm g hB (by kernel_rfl) h1 h2 h3 ct hu A (tq l) h4 h5 h6 (a08 h7) W hw hm
abbrev Mh(c:Ct)(x:db c.args)(V:(gq c.rt->Prop)->Prop):Prop:=ab (okL c.args x)->ab (c.pre x)->V (fun r=>r=c.res x)
theorem wtb {Φ : FuncId -> Option Ct} (g : uf Tryz.prog Φ) {B : Tab} (hB : TabOk Tryz.prog B) (f : FuncId) (fn : Func) (W : Wt) (A : Ann) (l : List (Nat × Nat)) (hm : ∀ x y, ab (W.o.strip.oks x) -> ab (okL W.as y) -> ab (W.pre x y) -> aps B Φ (tq l) fn (kh fn) A W x y (fun z r => z = W.new x y /\ r = W.res x y)) (h : (Tryz.prog.funcs[f]?, fn.body, fn.name == "runtime.NumGoroutine", abw W.o, gw W.i false W.ag, okC fn.ntmps (tq l) (kh fn), Nat.ble W.i W.ag.length, Nat.ble (W.ag.length + 1) fn.ntmps, noW [W.i] (kh fn)) = (some fn, some (kh fn), false, true, agL B fn, true, true, true, true) := by kernel_rfl) : bw Tryz.prog f (vr W) := by
 simp only[a0n]at h;obtain⟨h1,h2,h3,h4,h5,h6,h7,h8,h9⟩:=h;exact cdw g hB (by kernel_rfl) h1 h2 h3 W A (tq l) h4 (a08 h7) h5 h6 (a08 h8) h9 hm
theorem pkb {Φ : FuncId -> Option Ct} (g : uf Tryz.prog Φ) {B : Tab} (hB : TabOk Tryz.prog B) (f : FuncId) (fn : Func) (ct : Ct) (A : Ann) (l : List (Nat × Nat)) (W : db ct.args -> (gq ct.rt -> Prop) -> Prop) (Q : db ct.args -> gq ct.rt -> Prop) (hm : ∀ x, ab (okL ct.args x) -> ab (ct.pre x) -> W x (Q x)) (x : db ct.args) (h : (Tryz.prog.funcs[f]?, fn.body, fn.name == "runtime.NumGoroutine", bbb l, ct.ga, orb ct.sh (af9 ct.rt), okC fn.ntmps (tq l) (kh fn), Nat.ble ct.ga.length fn.ntmps, reL ct.ga ct.args) = (some fn, some (kh fn), false, true, agL B fn, true, true, true, true) := by kernel_rfl) (hw : ∀ x K, evF B Φ (tq l) fn (kh fn) A ct x K = W x K := by intros; kernel_rfl) :
  ∃r,ab (okL ct.args x)->ab (ct.pre x)->W x (fun r'=>r'=r)/\ab (okR ct.rt r)/\Q x r:=by
 simp only[a0n]at h;obtain⟨h1,h2,h3,h4,h5,h6,h7,h8,h9⟩:=h;exact bz1 g hB (by kernel_rfl) h1 h2 h3 ct A (tq l) (bju h4) (bi7 (by kernel_rfl)) h5 h6 h7 (a08 h8) h9 W hw Q hm x
theorem pkw{Φ:FuncId->Option Ct}(g:uf Tryz.prog Φ){B:Tab}(hB:TabOk Tryz.prog B)(f:FuncId)(fn:Func)(W:Wt)(A:Ann)(l:List (Nat×Nat))(t:T)(V:W.o.strip.den->db W.as->(W.o.strip.den->gq W.rt->Prop)->Prop)
  (Q : W.o.strip.den -> db W.as -> W.o.strip.den -> gq W.rt -> Prop) (hm : ∀ x y, ab (W.o.strip.oks x) -> ab (okL W.as y) -> ab (W.pre x y) -> V x y (Q x y)) (x : W.o.strip.den) (y : db W.as) (h : (Tryz.prog.funcs[f]?, fn.body, fn.name == "runtime.NumGoroutine", bbb l, abw W.o, gw W.i false W.ag, okC fn.ntmps (tq l) (kh fn), Nat.ble W.i W.ag.length, Nat.ble (W.ag.length + 1) fn.ntmps, noW [W.i] (kh fn), reL W.ag W.as, W.o, reT t) = (some fn, some (kh fn), false, true, true, agL B fn, true, true, true, true, true, .pt (.fz t), true) := by kernel_rfl) (hw : ∀ x y K, aps B Φ (tq l) fn (kh fn) A W x y K = V x y K := by intros; kernel_rfl) :
  ∃q:W.o.strip.den×gq W.rt,ab (W.o.strip.oks x)->ab (okL W.as y)->ab (W.pre x y)->V x y (fun z r=>z=q.1/\r=q.2)/\ab (W.o.strip.oks q.1)/\ab (okR W.rt q.2)/\Q x y q.1 q.2:=by
 simp only[a0n]at h;obtain⟨h1,h2,h3,h4,h5,h6,h7,h8,h9,h10,h11,h12,h13⟩:=h;exact ca2 g hB (by kernel_rfl) h1 h2 h3 W A (tq l) (bju h4) (bi7 (by kernel_rfl)) h5 (a08 h8) h6 h7 (a08 h9) h10 h11 t h12 h13 V hw Q hm x y
def j8:Ct:=⟨[aeo],[false],fun x=>[],[(false,kg)],fun x=>((x.1.2.1.length:Int),()),false,none⟩
def yc(c:aa)(K:Int×Unit->Prop):Prop:=K ((c.2.1.length:Int),())
theorem apj(c:aa):Mh j8 (c,()) (yc c):=by
 intro hok hpre;simp only[j8,okL,T.oks,T.ok,ap,ab,a0f,a0c,a0g]at hok hpre
 try dsimp only[T.den]at hok hpre
 unfold yc;rfl
theorem sy:bw Tryz.prog 85 j8:=ctb az bg 85 Tryz.f85 j8 .n [] (fun x K=>yc x.1 K) (fun x h1 h2=>apj x.1 h1 h2)
def bi(c:aa)(f g:Int):Int:=(c.2.2.2.2.getD f.toNat []).getD g.toNat 0
def je:Ct:=⟨[aeo,bc,bc],[false,false,false],fun x=>[0<=x.2.1,x.2.1<x.1.2.2.2.2.length,0<=x.2.2.1,x.2.2.1<(x.1.2.2.2.2.getD x.2.1.toNat []).length],[(false,kg)],fun x=>(bi x.1 x.2.1 x.2.2.1,()),false,none⟩
def aaw(c:aa)(f g:Int)(K:Int×Unit->Prop):Prop:=let a:=c.2.2.2.2.getD f.toNat [];Ix f c.2.2.2.2.length<|Ix g a.length<|K (a.getD g.toNat 0,())
theorem asb(c:aa)(f g:Int):Mh je (c,f,g,()) (aaw c f g):=by
 intro hok hpre;simp only[je,okL,T.oks,T.ok,ap,ab,a0f,a0c,a0g]at hok hpre
 try dsimp only[T.den]at hok hpre
 delta aaw Ix
 dsimp -proj -eta only;exact⟨hpre.1,hpre.2.1,hpre.2.2.1,hpre.2.2.2,rfl⟩
theorem qk:bw Tryz.prog 46 je:=ctb az bg 46 Tryz.f46 je .n [] (fun x K=>aaw x.1 x.2.1 x.2.2.1 K) (fun x h1 h2=>asb x.1 x.2.1 x.2.2.1 h1 h2)
def rr:Ct:=⟨[aeo,bc],[false,false],fun x=>[0<=x.2.1,x.2.1<x.1.2.1.length,x.2.1<x.1.2.2.1.length],[(true,(.fz cd6))],fun x=>(((x.1.2.1.getD x.2.1.toNat 0,x.1.2.2.1.getD x.2.1.toNat 0):Int×Int),()),false,none⟩
def aab(c:aa)(f:Int)(K:cde×Unit->Prop):Prop:=Ix f c.2.1.length<|Ix f c.2.2.1.length<|K ((c.2.1.getD f.toNat 0,c.2.2.1.getD f.toNat 0),())
theorem asi(c:aa)(f:Int):Mh rr (c,f,()) (aab c f):=by
 intro hok hpre;simp only[rr,okL,T.oks,T.ok,ap,ab,a0f,a0c,a0g]at hok hpre
 try dsimp only[T.den]at hok hpre
 delta aab Ix
 exact⟨hpre.1,hpre.2.1,hpre.1,hpre.2.2,rfl⟩
theorem aqe:bw Tryz.prog 78 rr:=ctb az bg 78 Tryz.f78 rr .n [(1,15)] (fun x K=>aab x.1 x.2.1 K) (fun x h1 h2=>asi x.1 x.2.1 h1 h2)
def vv:Ct:=⟨[bc,bc,bc],[false,false,false],fun x=>[],[(false,kf)],fun x=>(inR x.1 x.2.1 x.2.2.1,()),false,none⟩
def ahy(n low high:Int)(K:Bool×Unit->Prop):Prop:=K (decide (low<=n)&&decide (n<=high),())
theorem bep(n low high:Int):Mh vv (n,low,high,()) (ahy n low high):=by
 intro hok hpre;simp only[vv,okL,T.oks,T.ok,ap,ab,a0f,a0c,a0g]at hok hpre
 try dsimp only[T.den]at hok hpre
 unfold ahy
 grind[cnd,eh,au,vv,inR]
theorem aou:bw Tryz.prog 108 vv:=ctb az bg 108 Tryz.f108 vv .n [] (fun x K=>ahy x.1 x.2.1 x.2.2.1 K) (fun x h1 h2=>bep x.1 x.2.1 x.2.2.1 h1 h2)
def sn:Ct:=⟨[ed,bc],[false,false],fun x=>[inK .i64 (x.2.1-1)],[(false,kf)],fun x=>(e9 x.1 x.2.1,()),false,none⟩
def bdb:Ann:=(.s .n (.s (.s .n (.l [(9,(.d bc))] [] [1,7,8] .n)) .n))
def ake(list:List Int)(n:Int)(K:Bool×Unit->Prop):Prop:=bn (S:=ce7) (fun a b=>Iq a.1.1<|cnd (decide (a.1.1<(list.length:Int))) (Ix a.1.1 list.length<|Ik (n-1)<|cnd (!inR (list.getD a.1.1.toNat 0) 0 (n-1)) (K (false,())) (Ik (a.1.1+1)<|b ((a.1.1+1,()),()))) (K (true,()))) ((0,()),())
theorem bha(list:List Int)(n:Int):Mh sn (list,n,()) (ake list n):=by
 intro hok hpre;simp only[sn,okL,T.oks,T.ok,ap,ab,a0f,a0c,a0g]at hok hpre
 try dsimp only[T.den]at hok hpre
 delta ake Ik Iq Ix
 refine bq (fun (s:ce7)=>0<=s.1.1/\s.1.1<=list.length/\e9 list n=e9 (list.drop s.1.1.toNat) n) (fun (s:ce7)=>(list.length-s.1.1).toNat) ?_ (by simp);rintro⟨⟨i,_⟩,_⟩ next ⟨h0,h1,h2⟩ hn hin
 simp only at h0 h1 h2 hn⊢;refine bd (fun hc=>?_) (fun hc=>?_)
 ·rw[aj2 list 0 h0 hc]at h2;simp only[e9,a4i]at h2
  grind[cnd,eh,au,sn,e9]
 ·rw[al9 list (by omega)]at h2
  grind[cnd,eh,au,sn,e9]
theorem ap8:bw Tryz.prog 96 sn:=ctb (ae aou az) bg 96 Tryz.f96 sn bdb [] (fun x K=>ake x.1 x.2.1 K) (fun x h1 h2=>bha x.1 x.2.1 h1 h2)
def yi(c:aa)(f g v:Int):Bool:=
 if c.2.2.1.getD f.toNat 0=c.2.1.getD g.toNat 0 then decide (0<=v/\v<c.2.1.length/\c.2.1.getD v.toNat 0=c.2.1.getD f.toNat 0/\c.2.2.1.getD v.toNat 0=c.2.2.1.getD g.toNat 0)
 else decide (v=-1)
def vu(c:aa)(f g:Int):Bool:=yi c f g (bi c f g)
structure ShapeP (c:aa):Prop where
 ob:0<=c.1/\c.1<=8
 m:c.2.1.length<=40
 lt:c.2.2.1.length=c.2.1.length
 fr:e9 c.2.1 c.1=true
 to:e9 c.2.2.1 c.1=true
 li:(c.2.2.2.1.length:Int)=c.1
 ids:e9 c.2.2.2.1 c.2.1.length=true
 lc:c.2.2.2.2.length=c.2.1.length
 idt:∀x:Int,0<=x->x<c.1->c.2.1.getD (c.2.2.2.1.getD x.toNat 0).toNat 0=x/\c.2.2.1.getD (c.2.2.2.1.getD x.toNat 0).toNat 0=x
 row:∀f:Int,0<=f->f<c.2.1.length->(c.2.2.2.2.getD f.toNat []).length=c.2.1.length
 cell:∀f g:Int,0<=f->f<c.2.1.length->0<=g->g<c.2.1.length->vu c f g=true
def yy(c:aa):Bool:=inR c.1 0 8&&decide (c.2.1.length<=40)&&decide (c.2.2.1.length=c.2.1.length)&&e9 c.2.1 c.1&&e9 c.2.2.1 c.1&&decide ((c.2.2.2.1.length:Int)=c.1)&&e9 c.2.2.2.1 c.2.1.length &&
 decide (c.2.2.2.2.length=c.2.1.length)&&jv c.1.toNat (fun x=>decide (c.2.1.getD (c.2.2.2.1.getD x.toNat 0).toNat 0=x/\c.2.2.1.getD (c.2.2.2.1.getD x.toNat 0).toNat 0=x)) &&
 jv c.2.1.length (fun f=>decide ((c.2.2.2.2.getD f.toNat []).length=c.2.1.length))&&jv c.2.1.length (fun f=>jv c.2.1.length fun g=>vu c f g)
theorem acn{c:aa}:yy c=true<->ShapeP c:=by
 simp only[yy,a0b,a0w,inR,ov];constructor
 ·rintro⟨⟨⟨⟨⟨⟨⟨⟨⟨⟨h0,h1⟩,h2⟩,h3⟩,h4⟩,h5⟩,h6⟩,h7⟩,h8⟩,h9⟩,h10⟩;exact⟨h0,h1,h2,h3,h4,h5,h6,h7,fun x a b=>h8 x a (by omega),h9,fun f g a b d e=>h10 f a b g d e⟩
 ·intro h;exact⟨⟨⟨⟨⟨⟨⟨⟨⟨⟨h.ob,h.m⟩,h.lt⟩,h.fr⟩,h.to⟩,h.li⟩,h.ids⟩,h.lc⟩,fun x a b=>h.idt x a (by have:=h.ob;omega)⟩,h.row⟩,fun f a b g d e=>h.cell f g a b d e⟩
theorem avt{c:aa}(h:¬ShapeP c):yy c=false:=by
 cases hs:yy c with
 |false=>rfl
 |true=>exact absurd (acn.1 hs) h
theorem be6{c:aa}(h:ShapeP c):yy c=true:=acn.2 h
def d9:Ct:=⟨[aeo],[false],fun x=>[],[(false,kf)],fun x=>(yy x.1,()),false,none⟩
def amg:Ann:=(.s .n (.s .n (.s .n (.s .n (.s (.s .n (.l [(88,(.d bc))] [] [0,3,86,87] .n)) (.s (.s .n (.l [(106,(.d bc))] [] [0,3,104,105] (.s .n (.s .n (.s (.s .n (.s .n (.s .n (.l [(117,(.d bc))] [] [0,3,6,104,105,106,115,116] (.s .n (.s .n (.s (.j [] [] [0,3,6,104,105,106,115,116,117] .n) .n))))))) .n))))) .n))))))
def bls:FuncId->Option Ct:=lkp [(85,j8),(78,rr),(108,vv),(96,sn)]
def ws(c:aa)(K:Bool×Unit->Prop):Prop:=let w:=inR c.1 0 8;let v:=c.2.2.2.2.length;let q:=c.2.2.2.1.length;let o:=c.2.2.1.length;let l:=c.2.1.length;let r:=decide (40<(l:Int));((!w||r||(o:Int) != (l:Int))=false->inK .i64 (c.1-1))/\((!w||r||(o:Int) != (l:Int)||!e9 c.2.1 c.1)=false->inK .i64 (c.1-1))/\cnd (!w||r||(o:Int) != (l:Int)||!e9 c.2.1 c.1||!e9 c.2.2.1 c.1) (K (false,())) ((((q:Int) != c.1)=false->inK .i64 ((l:Int)-1))/\cnd ((q:Int) != c.1||!e9 c.2.2.2.1 (l:Int)||(v:Int) != (l:Int)) (K (false,())) (bn (S:=ce7) (fun a b=>let x:=a.1.1;let n:=c.2.2.2.1.getD x.toNat 0;Iq x<|cnd (decide (x<(q:Int))) (Ix x q<|Ix n l<|n<(o:Int)/\cnd (!(c.2.1.getD n.toNat 0==x&&c.2.2.1.getD n.toNat 0==x)) (K (false,())) (Ik (x+1)<|b ((x+1,()),()))) (bn (S:=ce7) (fun d e=>let t:=d.1.1;let m:=c.2.2.2.2.getD t.toNat [];Iq t<|cnd (decide (t<(v:Int))) (Ix t v<|cnd ((m.length:Int) != (l:Int)) (K (false,())) (bn (S:=ce7) (fun f g=>let u:=f.1.1;let j:=m.getD u.toNat 0;let p:=inR j 0 ((l:Int)-1);Iq u<|cnd (decide (u<(m.length:Int))) (dk (S:=(Unit×Unit)) (fun h=>Ik (u+1)<|g ((u+1,()),())) (fun i=>Ix u m.length<|Ix t o<|Ix u l<|cnd (c.2.2.1.getD t.toNat 0 != c.2.1.getD u.toNat 0) (cnd (j != -1) (K (false,())) (i ((),()))) (Ik ((l:Int)-1)<|((!p)=false->j<(l:Int)/\j<(o:Int)/\0<=j)/\((!p)=false->t<(l:Int)/\0<=t)/\((!p)=false->u<(o:Int)/\0<=u)/\cnd (!p||!(c.2.1.getD j.toNat 0==c.2.1.getD t.toNat 0&&c.2.2.1.getD j.toNat 0==c.2.2.1.getD u.toNat 0)) (K (false,())) (i ((),()))))) (Ik (t+1)<|e ((t+1,()),()))) ((0,()),()))) (K (true,()))) ((0,()),()))) ((0,()),())))
theorem anl(c:aa)(hok:ab (okL d9.args (c,())))(hpre:ab (d9.pre (c,()))):ws c (fun r=>r=d9.res (c,())):=by
 simp only[d9,okL,T.oks,T.ok,ap,ab,a0f,a0c,a0g]at hok hpre
 try dsimp only[T.den]at hok hpre
 delta ws Ik Iq Ix
 dsimp -proj -eta only;refine⟨by grind[cnd,eh,au,inR],by grind[cnd,eh,au,inR],ba (fun hc=>?_) (fun hc=>⟨by rw[au];have:=hok.2.1.1;grind[cnd,eh,au],ba (fun hd=>?_) (fun hd=>?_)⟩)⟩
 ·simp only[d9];rw[avt];intro h;have h1:=h.ob;have h2:=h.m;have h3:=h.lt;have h4:=h.fr;have h5:=h.to;simp only[inR]at hc;grind[cnd,eh,au]
 ·simp only[d9];rw[avt];intro h;have h1:=h.li;have h2:=h.ids;have h3:=h.lc;grind[cnd,eh,au]
 simp only[inR,a2j,a2t,a0b,a0w,a1o,a1w]at hc hd;obtain⟨⟨⟨⟨hob,hm⟩,hlt⟩,hfr⟩,hto⟩:=hc;obtain⟨⟨hli,hids⟩,hlc⟩:=hd;have bad:¬ShapeP c->(false,())=d9.res (c,()):=fun h=>by simp only[d9];rw[avt h]
 refine jc (n:=c.2.2.2.1.length) (fun x=>∀y:Int,0<=y->y<x->c.2.1.getD (c.2.2.2.1.getD y.toNat 0).toNat 0=y/\c.2.2.1.getD (c.2.2.2.1.getD y.toNat 0).toNat 0=y) (by omega) (by intro y h0 h1;omega) ?_ ?_
 ·intro x next h0 h1 hP hn hin
  have hb:=ep.1 hids x h0 h1
  try dsimp only
  refine bd (fun _=>⟨h0,h1,hb.1,hb.2,by omega,ba (fun hx=>bad fun h=>?_) (fun hx=>?_)⟩) (fun h=>absurd h1 h)
  ·have:=h.idt x h0 (by omega);rw[this.1,this.2]at hx;simp at hx
  ·simp only[a2t,a0b,a0r]at hx;refine⟨by rw[au];(try dsimp only);omega,hn fun y y0 y1=>?_⟩;by_cases e:y=x
   ·rw[e];exact hx
   ·exact hP y y0 (by omega)
 intro next hidt hin
 refine bd (fun h=>absurd h (by dsimp only;omega)) (fun _=>?_);refine jc (n:=c.2.2.2.2.length) (fun f=>∀f':Int,0<=f'->f'<f->(c.2.2.2.2.getD f'.toNat []).length=c.2.1.length/\∀g:Int,0<=g->g<c.2.1.length->vu c f' g=true) (by omega) (by intro y h0 h1;omega) ?_ ?_
 ·intro f next h0 h1 hP hn hin
  try dsimp only
  refine bd (fun _=>⟨h0,h1,ba (fun hx=>bad fun h=>?_) (fun hx=>?_)⟩) (fun h=>absurd h1 h)
  ·have:=h.row f h0 (by omega);rw[this]at hx;simp at hx
  simp only[a1w]at hx;refine jc (n:=(c.2.2.2.2.getD f.toNat []).length) (fun g=>∀g':Int,0<=g'->g'<g->vu c f g'=true) (by omega) (by intro y h0 h1;omega) ?_ ?_
  ·intro g next3 g0 g1 hP3 hn3 hin3
   try dsimp only
   refine bd (fun _=>?_) (fun h=>absurd g1 h);refine cz (fun _=>vu c f g=true) (fun _ hcell=>⟨by rw[au];(try dsimp only);omega,hn3 fun g' y0 y1=>?_⟩) (fun k hk=>?_)
   ·by_cases e:g'=g
    ·rw[e];exact hcell
    ·exact hP3 g' y0 (by omega)
   have hcell:∀b,vu c f g=b->b=false->¬ShapeP c:=fun b h1 h2 h=>by have:=h.cell f g h0 (by omega) g0 (by omega);rw[h1,h2]at this;cases this
   have hk':=hk ((),());obtain⟨v,hv⟩:∃v,(c.2.2.2.2.getD f.toNat []).getD g.toNat 0=v:=⟨_,rfl⟩;have hR:vu c f g=yi c f g v:=by unfold vu bi;rw[hv]
   rw[hR]at hk';rw[hR]at hcell;rw[hv];clear hP3 hn3 hP hn hk hR hv hidt hok;refine⟨g0,g1,h0,by omega,g0,by omega,ba (fun ha=>ba (fun hb=>bad ?_) (fun hb=>hk' ?_)) (fun ha=>⟨by rw[au];(try dsimp only);omega,fun hv=>?_,fun _=>⟨by omega,h0⟩,fun _=>⟨by omega,g0⟩,ba (fun hb=>bad ?_) (fun hb=>hk' ?_)⟩)⟩
   ·exact hcell _ rfl (by grind[cnd,eh,au,yi])
   ·grind[cnd,eh,au,yi]
   ·simp only[inR,a2t,a0b,a0w]at hv;omega
   ·exact hcell _ rfl (by simp only[inR]at hb;grind[cnd,eh,au,yi])
   ·simp only[inR]at hb;grind[cnd,eh,au,yi]
  ·intro next3 hP3 hin3;refine bd (fun h=>absurd h (by dsimp only;omega)) (fun _=>⟨by rw[au];(try dsimp only);omega,hn fun f' y0 y1=>?_⟩);by_cases e:f'=f
   ·rw[e];exact⟨by omega,fun g g0 g1=>hP3 g g0 (by omega)⟩
   ·exact hP f' y0 (by omega)
 ·intro next2 hP2 hin2;refine bd (fun h=>absurd h (by dsimp only;omega)) (fun _=>?_);simp only[d9];rw[be6 ⟨hob,by omega,by omega,hfr,hto,by omega,hids,by omega,fun x a b=>hidt x a (by omega),fun f a b=>(hP2 f a (by omega)).1,fun f g a b d e=>(hP2 f a (by omega)).2 g d e⟩]
theorem amo:bw Tryz.prog 73 d9:=ctb (ae sy (ae aqe (ae aou (ae ap8 az)))) bg 73 Tryz.f73 d9 amg [(2,43),(20,15),(4,28),(23,26)] (fun x K=>ws x.1 K) (fun x h1 h2=>anl x.1 h1 h2)
theorem ShapeP.frm{c:aa}(h:ShapeP c){f:Int}(h0:0<=f)(h1:f<c.2.1.length):0<=c.2.1.getD f.toNat 0/\c.2.1.getD f.toNat 0<c.1/\0<=c.2.2.1.getD f.toNat 0/\c.2.2.1.getD f.toNat 0<c.1:=by have a:=ep.1 h.fr f h0 h1;have b:=ep.1 h.to f h0 (by have:=h.lt;omega);exact⟨a.1,a.2,b.1,b.2⟩
theorem ShapeP.idn{c:aa}(h:ShapeP c){x:Int}(h0:0<=x)(h1:x<c.1):0<=c.2.2.2.1.getD x.toNat 0/\c.2.2.2.1.getD x.toNat 0<c.2.1.length/\c.2.1.getD (c.2.2.2.1.getD x.toNat 0).toNat 0=x/\c.2.2.1.getD (c.2.2.2.1.getD x.toNat 0).toNat 0=x:=by have a:=ep.1 h.ids x h0 (by have:=h.li;omega);have b:=h.idt x h0 h1;exact⟨a.1,a.2,b.1,b.2⟩
theorem ShapeP.yes{c:aa}(h:ShapeP c){f g:Int}(h0:0<=f)(h1:f<c.2.1.length)(g0:0<=g)(g1:g<c.2.1.length)(e:c.2.2.1.getD f.toNat 0=c.2.1.getD g.toNat 0) :
  0<=bi c f g/\bi c f g<c.2.1.length/\c.2.1.getD (bi c f g).toNat 0=c.2.1.getD f.toNat 0/\c.2.2.1.getD (bi c f g).toNat 0=c.2.2.1.getD g.toNat 0:=by
 have:=h.cell f g h0 h1 g0 g1;unfold vu yi at this;rw[a0a e]at this;simpa using this
theorem ShapeP.no{c:aa}(h:ShapeP c){f g:Int}(h0:0<=f)(h1:f<c.2.1.length)(g0:0<=g)(g1:g<c.2.1.length)(e:c.2.2.1.getD f.toNat 0≠c.2.1.getD g.toNat 0):bi c f g=-1:=by have:=h.cell f g h0 h1 g0 g1;unfold vu yi at this;rw[ds e]at this;simpa using this
theorem ShapeP.comp{c:aa}(h:ShapeP c){f g:Int}(h0:0<=f)(h1:f<c.2.1.length)(g0:0<=g)(g1:g<c.2.1.length):0<=bi c f g<->c.2.2.1.getD f.toNat 0=c.2.1.getD g.toNat 0:=by
 constructor
 ·intro h2;by_cases e:c.2.2.1.getD f.toNat 0=c.2.1.getD g.toNat 0
  ·exact e
  ·have:=h.no h0 h1 g0 g1 e;omega
 ·intro e;exact (h.yes h0 h1 g0 g1 e).1
def qm(c:aa)(f:Int):Option cgb:=if bi c (c.2.2.2.1.getD (c.2.1.getD f.toNat 0).toNat 0) f≠f\/bi c f (c.2.2.2.1.getD (c.2.2.1.getD f.toNat 0).toNat 0)≠f then some (1,f,0,0)else none
def xg(c:aa)(f g h:Int):Option cgb:=if c.2.2.1.getD g.toNat 0=c.2.1.getD h.toNat 0/\bi c (bi c f g) h≠bi c f (bi c g h)then some (2,f,g,h)else none
def vk(c:aa)(f g:Int):Option cgb:=if c.2.2.1.getD f.toNat 0=c.2.1.getD g.toNat 0 then gp (xg c f g) c.2.1.length 0 else none
def vl(c:aa)(f:Int):Option cgb:=gp (vk c f) c.2.1.length 0
def pn(c:aa):Int×Int×Int×Int:=orR (gp (qm c) c.2.1.length 0) (orR (gp (vl c) c.2.1.length 0) (0,0,0,0))
def jn:Ct:=⟨[aeo],[false],fun x=>[ShapeP x.1],[(false,kg),(false,kg),(false,kg),(false,kg)],fun x=>((pn x.1).1,(pn x.1).2.1,(pn x.1).2.2.1,(pn x.1).2.2.2,()),false,none⟩
def apk:Ann:=(.s .n (.s .n (.s (.s .n (.l arw [] [0,6] .n)) (.s (.s .n (.l [(8,(.d bc))] [] [0,6] (.s .n (.s (.s .n (.l [(9,(.d bc))] [] [0,6,8] (.s .n (.s (.j [] [] [0,6,8,9] (.s .n (.s .n (.l [(10,(.d bc))] [] [0,6,8,9] .n)))) .n)))) .n)))) .n))))
def bmi:FuncId->Option Ct:=lkp [(85,j8),(46,je)]
def zm(c:aa)(K:Int×Int×Int×Int×Unit->Prop):Prop:=let v:=c.2.1.length;let o:=c.2.2.2.2.length;bn (S:=ce7) (fun a b=>let p:=a.1.1;let a2:=c.2.1.getD p.toNat 0;let t:=c.2.2.1.getD p.toNat 0;let a0:=c.2.2.2.1.getD t.toNat 0;let m:=c.2.2.2.1.getD a2.toNat 0;let z:=bi c m p;Iq p<|cnd (decide (p<(v:Int))) (Ix p v<|Ix a2 c.2.2.2.1.length<|Ix m o<|Ix p (c.2.2.2.2.getD m.toNat []).length<|((z != p)=false->p<(c.2.2.1.length:Int)/\0<=p)/\((z != p)=false->t<(c.2.2.2.1.length:Int)/\0<=t)/\((z != p)=false->p<(o:Int)/\(Ix a0 (c.2.2.2.2.getD p.toNat []).length<|0<=p))/\cnd (z != p||bi c p a0 != p) (K (1,p,0,0,())) (Ik (p+1)<|b ((p+1,()),()))) (bn (S:=ce7) (fun d e=>let w:=d.1.1;let r:=(c.2.2.2.2.getD w.toNat []).length;Iq w<|cnd (decide (w<(v:Int))) (bn (S:=ce7) (fun f g=>let u:=f.1.1;let y:=(c.2.2.2.2.getD u.toNat []).length;let q:=bi c w u;Iq u<|cnd (decide (u<(v:Int))) (dk (S:=(Unit×Unit)) (fun h=>Ik (u+1)<|g ((u+1,()),())) (fun i=>Ix w o<|Ix u r<|cnd (decide (q<0)) (i ((),())) (bn (S:=ce7) (fun j l=>let x:=j.1.1;let a1:=bi c u x;let n:=decide (0<=a1);Iq x<|cnd (decide (x<(v:Int))) (Ix u o<|Ix x y<|(n=true->w<(o:Int)/\(Ix u r<|0<=w))/\(n=true->q<(o:Int)/\(Ix x (c.2.2.2.2.getD q.toNat []).length<|0<=q))/\(n=true->u<(o:Int)/\(Ix x y<|0<=u))/\(n=true->w<(o:Int)/\(Ix a1 r<|0<=w))/\cnd (n&&bi c q x != bi c w a1) (K (2,w,u,x,())) (Ik (x+1)<|l ((x+1,()),()))) (i ((),()))) ((0,()),())))) (Ik (w+1)<|e ((w+1,()),()))) ((0,()),())) (K (0,0,0,0,()))) ((0,()),()))) ((0,()),())
theorem ap6(c:aa)(hok:ab (okL jn.args (c,())))(hpre:ab (jn.pre (c,()))):zm c (fun r=>r=jn.res (c,())):=by
 simp only[jn,okL,T.oks,T.ok,ap,ab,a0f,a0c,a0g]at hok hpre
 try dsimp only[T.den]at hok hpre
 delta zm Ik Iq Ix
 dsimp -proj -eta only;have S:ShapeP c:=hpre;have hlt:=S.lt;have hli:=S.li;have hlc:=S.lc;have hmm:=S.m;have resq:∀a b d e,pn c=(a,b,d,e)->(a,b,d,e,())=jn.res (c,()):=fun a b d e h=>by simp only[jn,h]
 refine jc (n:=c.2.1.length) (fun f=>gp (qm c) c.2.1.length 0=gp (qm c) ((c.2.1.length:Int)-f).toNat f) (by omega) ajt ?_ ?_
 ·intro f next h0 h1 hP hn hin
  try dsimp only
  obtain⟨a1,a2,a3,a4⟩:=S.frm h0 h1;obtain⟨b1,b2,_,_⟩:=S.idn a1 a2;obtain⟨d1,d2,_,_⟩:=S.idn a3 a4;have r1:=S.row _ b1 b2;have r2:=S.row f h0 h1;refine bd (fun _=>⟨h0,h1,by omega,by omega,by omega,by omega,h0,by omega,fun _=>by omega,fun _=>by omega,fun _=>by omega,ba (fun hx=>resq _ _ _ _ ?_) (fun hx=>⟨by rw[au];(try dsimp only);omega,hn ?_⟩)⟩) (fun h=>absurd h1 h)
  ·have:qm c f=some (1,f,0,0):=by unfold qm;rw[a0a];simpa using hx
   unfold pn;rw[hP,aju h1 this];rfl
  ·have:qm c f=none:=by unfold qm;rw[ds];simpa using hx
   rw[hP,ajh h1 this]
 intro next hI hin
 rw[aja]at hI;refine bd (fun h=>absurd h (by dsimp only;omega)) (fun _=>?_);have hF:pn c=orR (gp (vl c) c.2.1.length 0) (0,0,0,0):=by unfold pn;rw[hI];rfl
 refine jc (n:=c.2.1.length) (fun f=>gp (vl c) c.2.1.length 0=gp (vl c) ((c.2.1.length:Int)-f).toNat f) (by omega) ajt ?_ ?_
 ·intro f next h0 h1 hP hn hin
  try dsimp only
  refine bd (fun _=>?_) (fun h=>absurd h1 h);have r1:=S.row f h0 h1;refine jc (n:=c.2.1.length) (fun g=>vl c f=gp (vk c f) ((c.2.1.length:Int)-g).toNat g) (by omega) ajt ?_ ?_
  ·intro g next3 g0 g1 hP3 hn3 hin3
   try dsimp only
   refine bd (fun _=>?_) (fun h=>absurd g1 h);have r2:=S.row g g0 g1;refine cz (fun _=>vk c f g=none) (fun _ hG=>⟨by rw[au];(try dsimp only);omega,hn3 (by rw[hP3,ajh g1 hG])⟩) (fun k hk=>?_);have hk':=hk ((),());refine⟨by omega,by omega,by omega,by omega,bd (fun hx=>hk' ?_) (fun hx=>?_)⟩
   ·unfold vk;rw[ds];intro e;have:=(S.comp h0 h1 g0 g1).2 e;omega
   have hfg:=(S.comp h0 h1 g0 g1).1 (by omega);obtain⟨y1,y2,_,_⟩:=S.yes h0 h1 g0 g1 hfg;refine jc (n:=c.2.1.length) (fun h=>vk c f g=gp (xg c f g) ((c.2.1.length:Int)-h).toNat h) (by omega) (by unfold vk;rw[a0a hfg];exact ajt) ?_ ?_
   ·intro h next4 i0 i1 hP4 hn4 hin4
    try dsimp only
    refine bd (fun _=>?_) (fun h=>absurd i1 h);have r3:=S.row _ y1 y2;have cgh:=S.comp g0 g1 i0 i1;have ygh:=@ShapeP.yes c S g h g0 g1 i0 i1;refine⟨by omega,by omega,by omega,by omega,fun _=>by omega,fun _=>by omega,fun _=>by omega,fun he=>?_,ba (fun hx=>resq _ _ _ _ ?_) (fun hx=>⟨by rw[au];(try dsimp only);omega,hn4 ?_⟩)⟩
    ·have:=ygh (cgh.1 (by simpa using he));omega
    ·have:xg c f g h=some (2,f,g,h):=by unfold xg;rw[a0a];rw[←cgh];simpa using hx
     have e1:vk c f g=some (2,f,g,h):=by rw[hP4,aju i1 this]
     have e2:vl c f=some (2,f,g,h):=by rw[hP3,aju g1 e1]
     rw[hF,hP,aju h1 e2];rfl
    ·have:xg c f g h=none:=by unfold xg;rw[ds];rw[←cgh];simpa using hx
     rw[hP4,ajh i1 this]
   ·intro next4 hP4 hin4;rw[aja]at hP4;exact bd (fun h=>absurd h (by dsimp only;omega)) (fun _=>hk' hP4)
  ·intro next3 hP3 hin3;rw[aja]at hP3;exact bd (fun h=>absurd h (by dsimp only;omega)) (fun _=>⟨by rw[au];(try dsimp only);omega,hn (by rw[hP,ajh h1 hP3])⟩)
 ·intro next2 hP2 hin2;rw[aja]at hP2;refine bd (fun h=>absurd h (by dsimp only;omega)) (fun _=>resq _ _ _ _ ?_);rw[hF,hP2];rfl
theorem apm:bw Tryz.prog 74 jn:=ctb (ae sy (ae qk az)) bg 74 Tryz.f74 jn apk [(5,38)] (fun x K=>zm x.1 K) (fun x h1 h2=>ap6 x.1 h1 h2)
def ip(c:aa)(x y:Int):List Int:=mc c.2.1.length fun f=>c.2.1.getD f.toNat 0==x&&c.2.2.1.getD f.toNat 0==y
theorem ti{c:aa}{x y g:Int}:g∈ip c x y<->0<=g/\g<c.2.1.length/\c.2.1.getD g.toNat 0=x/\c.2.2.1.getD g.toNat 0=y:=by unfold ip;rw[alt,a0b,a0r,a0r]
def jo:Ct:=⟨[aeo,bc,bc],[false,false,false],fun x=>[x.1.2.1.length<=40,x.1.2.2.1.length=x.1.2.1.length],[(false,dq)],fun x=>(ip x.1 x.2.1 x.2.2.1,()),false,none⟩
def ard:Ann:=(.s .n (.s .n (.s (.s .n (.l [(7,(.ref 800007 [])),(15,(.d bc))] [(800007,dq)] [0,1,2,14] (.s .n (.s .n (.s (.s .n (.s .n (.j bil [(800007,dq)] [0,1,2,14,15] .n))) .n))))) .n)))
def abs(c:aa)(x y:Int)(K:(List Int)×Unit->Prop):Prop:=bn (S:=(ce4×cez)) (fun a b=>let f:=a.1.2.1;let g:=c.2.1.getD f.toNat 0;Iq f<|Ol a.2.1<|cnd (decide (f<(c.2.1.length:Int))) (Ix f c.2.1.length<|((g==x)=true->f<(c.2.2.1.length:Int)/\0<=f)/\dk (S:=cfo) (fun d=>Ol d.2.1<|Ik (f+1)<|b (((),f+1,()),d.2.1,())) (fun e=>cnd (g==x&&c.2.2.1.getD f.toNat 0==y) (c9 a.2.1.length [f].length 8/\e (((),()),a.2.1++[f],())) (e (((),()),a.2.1,())))) (K (a.2.1,()))) (((),0,()),[],())
theorem atb(c:aa)(x y:Int)(hok:ab (okL jo.args (c,x,y,())))(hpre:ab (jo.pre (c,x,y,()))):abs c x y (fun r=>r=jo.res (c,x,y,())):=by
 simp only[jo,okL,T.oks,T.ok,ap,ab,a0f,a0c,a0g]at hok hpre
 try dsimp only[T.den]at hok hpre
 delta abs Ik Iq Ix Ol
 dsimp -proj -eta only;have hm:c.2.1.length<=40:=hpre.1;have hlt:c.2.2.1.length=c.2.1.length:=hpre.2;refine bq (fun (s:(ce4×cez))=>0<=s.1.2.1/\s.1.2.1<=c.2.1.length/\s.2.1=mc s.1.2.1.toNat fun f=>c.2.1.getD f.toNat 0==x&&c.2.2.1.getD f.toNat 0==y) (fun (s:(ce4×cez))=>(c.2.1.length-s.1.2.1).toNat) ?_ ⟨by simp,by simp,rfl⟩;rintro⟨⟨_,i,_⟩,l,_⟩ next ⟨h0,h1,h2⟩ hn hin hl
 try dsimp only at h0 h1 h2 hn⊢
 subst h2;refine bd (fun hc=>⟨h0,hc,fun _=>by omega,cz (fun s1=>s1.2.1=mc (i+1).toNat fun f=>c.2.1.getD f.toNat 0==x&&c.2.2.1.getD f.toNat 0==y) (fun s1 hs _=>⟨by rw[au];(try dsimp only);omega,hn _ ⟨(by first|omega|(dsimp only;omega)),(by first|omega|(dsimp only;omega)),hs⟩ (by first|omega|(dsimp only;omega))⟩) (fun k hk=>ba (fun hx=>⟨?_,hk _ ?_⟩) (fun hx=>hk _ ?_))⟩) (fun hc=>?_)
 ·have:=abg (p:=fun f=>c.2.1.getD f.toNat 0==x&&c.2.2.1.getD f.toNat 0==y) i.toNat;unfold c9;rw[eh];have h3:(i::([]:List Int)).length=1:=rfl;rw[h3];omega
 ·exact (bid h0 hx).symm
 ·exact (bh2 h0 hx).symm
 ·have e1:i.toNat=c.2.1.length:=by omega
  simp only[jo,ip];rw[e1]
theorem zx:bw Tryz.prog 84 jo:=ctb az bg 84 Tryz.f84 jo ard [] (fun x K=>abs x.1 x.2.1 x.2.2.1 K) (fun x h1 h2=>atb x.1 x.2.1 x.2.2.1 h1 h2)
def wj:Ct:=⟨[ed],[false],fun x=>[x.1.length<=1099511627776],[(false,dq)],fun x=>(x.1,()),false,none⟩
def aml(list:List Int)(K:(List Int)×Unit->Prop):Prop:=c9 0 list.length 8/\K (list,())
theorem bl1(list:List Int):Mh wj (list,()) (aml list):=by
 intro hok hpre;simp only[wj,okL,T.oks,T.ok,ap,ab,a0f,a0c,a0g]at hok hpre
 try dsimp only[T.den]at hok hpre
 unfold aml;have hl:list.length<=1099511627776:=hpre;exact⟨ck (by omega),rfl⟩
theorem as5:bw Tryz.prog 75 wj:=ctb az bg 75 Tryz.f75 wj .n [] (fun x K=>aml x.1 K) (fun x h1 h2=>bl1 x.1 h1 h2)
def acK:List V->List Nat
 |[.ad o _,.ad x _]=>[o,x]
 |_=>[]
def acP:List Nat->List V
 |[o,x]=>[.ad o [.de],.ad x [.de]]
 |_=>[]
def ji:Wz:=⟨true,[bb8,as1],[ed],acK,acP,fun xs y=>[xs.1.length<=1000,y.1.length<=1000],fun xs y=>(xs.1++[(xs.2.1,y.1)],xs.2.1,()),fun xs y=>decide ((xs.1.length:Int)+1<=400)⟩
def ad6:Ct:=zCt ji
def ye(out:List bo)(x:Int)(list:List Int)(K:(List bo×Int×Unit)->Bool->Prop):Prop:=list.length<=1099511627776/\c9 out.length ((x,list)::([]:List ce5)).length 32/\K (out++(x,list)::([]:List ce5),x,()) (decide (((out++(x,list)::([]:List ce5)).length:Int)<=400))
theorem awv(xs:nr ji.os)(y:db ji.as)(K:(List bo×Int×Unit)->Bool->Prop):azw tab (lkp [(75,wj)]) (tq [(1,9999015005)]) Tryz.f83 (kh Tryz.f83) .n ji xs y K=ye xs.1 xs.2.1 y.1 K:=by kernel_rfl
theorem aw5(out:List bo)(x:Int)(list:List Int)(hok:ab (okZ ji.os (out,x,())))(hok2:ab (okL ji.as (list,())))(hpre:ab (ji.pre (out,x,()) (list,()))):ye out x list (fun zs b=>zs=ji.new (out,x,()) (list,())/\b=ji.res (out,x,()) (list,())):=by
 simp only[ji,okZ,O.strip,okL,T.oks,T.ok,ap,ab,a0f,a0c,a0g]at hok hok2 hpre
 try dsimp only[T.den]at hok
 try dsimp only[T.den]at hok2
 try dsimp only[T.den]at hpre
 unfold ye;obtain⟨h1,h2⟩:=hpre;refine⟨by omega,ck (by simp only[a0h,a0i];omega),rfl,?_⟩;show decide (((out++[(x,list)]).length:Int)<=400)=decide ((out.length:Int)+1<=400);rw[a0m];rfl
theorem aus:bw Tryz.prog 83 ad6:=bwo (Φ:=lkp [(75,wj)]) (ae as5 az) bg (by kernel_rfl) (fn:=Tryz.f83) (c:=kh Tryz.f83) (by kernel_rfl) (by kernel_rfl) (by kernel_rfl) ji .n (tq [(1,9999015005)]) (fun ρ=>by kernel_rfl) (by kernel_rfl) (by kernel_rfl) (by kernel_rfl) (by kernel_rfl) (by kernel_rfl) (by kernel_rfl) (a08 rfl) (by kernel_rfl) (fun xs y K=>ye xs.1 xs.2.1 y.1 K) (awv) (fun xs y h1 h2 h3=>aw5 xs.1 xs.2.1 y.1 h1 h2 h3)
def k9(c:aa):Bool:=yy c&&(pn c).1==0
def ir:Ct:=⟨[aeo],[false],fun x=>[],[(false,kf)],fun x=>(k9 x.1,()),false,none⟩
def bfp:FuncId->Option Ct:=lkp [(74,jn),(73,d9)]
def u6(c:aa)(K:Bool×Unit->Prop):Prop:=cnd (!yy c) (K (false,())) (ShapeP c/\K ((pn c).1==0,()))
theorem aj3(c:aa)(hok:ab (okL ir.args (c,())))(hpre:ab (ir.pre (c,()))):u6 c (fun r=>r=ir.res (c,())):=by
 simp only[ir,okL,T.oks,T.ok,ap,ab,a0f,a0c,a0g]at hok hpre
 try dsimp only[T.den]at hok hpre
 unfold u6;simp only[ir,k9];have:=@acn c
 grind[cnd,eh,au]
theorem t9:bw Tryz.prog 37 ir:=ctb (ae apm (ae amo az)) bg 37 Tryz.f37 ir .n [] (fun x K=>u6 x.1 K) (fun x h1 h2=>aj3 x.1 h1 h2)
theorem sr{c:aa}(h:k9 c=true):ShapeP c:=by simp only[k9,a0b]at h;exact acn.1 h.1
theorem ajg{α:Type}{p:Int->Option α}:∀{n:Nat} {i:Int},gp p n i=none->∀j:Int,i<=j->j<i+n->p j=none
 |0,i,_,j,h0,h1=>by omega
 |n+1,i,h,j,h0,h1=>by
  unfold gp at h
  cases hp:p i with
  |some v=>rw[hp]at h;cases h
  |none=>
   rw[hp]at h;by_cases e:j=i
   ·rw[e,hp]
   ·exact ajg (n:=n) (i:=i+1) h j (by omega) (by omega)
theorem afv{α:Type}{p:Int->Option α}{v:α}:∀{n:Nat} {i:Int},gp p n i=some v->∃j:Int,p j=some v
 |0,i,h=>by cases h
 |n+1,i,h=>by
  unfold gp at h
  cases hp:p i with
  |some w=>rw[hp]at h;exact⟨i,hp.trans h⟩
  |none=>rw[hp]at h;exact afv (n:=n) (i:=i+1) h
theorem bfs{c:aa}(hc:k9 c=true){f g h:Int}(f0:0<=f)(f1:f<c.2.1.length)(g0:0<=g)(g1:g<c.2.1.length)(h0:0<=h)(h1:h<c.2.1.length)
  (hfg:c.2.2.1.getD f.toNat 0=c.2.1.getD g.toNat 0) (hgh:c.2.2.1.getD g.toNat 0=c.2.1.getD h.toNat 0):bi c (bi c f g) h=bi c f (bi c g h):=by
 simp only[k9,a0b,a0r]at hc;have h2:=hc.2;unfold pn at h2
 cases h3:gp (qm c) c.2.1.length 0 with
 |some v=>
  obtain⟨j,hj⟩:=afv h3;unfold qm at hj;split at hj
  ·cases hj;rw[h3]at h2;simp[orR]at h2
  ·cases hj
 |none=>
  rw[h3]at h2
  cases h4:gp (vl c) c.2.1.length 0 with
  |some v=>
   obtain⟨j,hj⟩:=afv h4;unfold vl at hj;obtain⟨k,hk⟩:=afv hj;unfold vk at hk;split at hk
   ·obtain⟨l,hl⟩:=afv hk;unfold xg at hl;split at hl
    ·cases hl;rw[h4]at h2;simp[orR]at h2
    ·cases hl
   ·cases hk
  |none=>
   have a1:=ajg h4 f f0 (by omega);unfold vl at a1;have a2:=ajg a1 g g0 (by omega);unfold vk at a2;rw[a0a hfg]at a2;have a3:=ajg a2 h h0 (by omega);unfold xg at a3;split at a3
   ·cases a3
   ·rename_i hn;exact a29 fun hne=>hn ⟨hgh,hne⟩
def avs(f:am):Bool:=decide ((f.2.2.1.length:Int)=f.1.1)&&decide (f.2.2.2.length=f.1.2.1.length)&&e9 f.2.2.1 f.2.1.1&&e9 f.2.2.2 f.2.1.2.1.length &&
 jv f.1.2.1.length (fun a=>decide (f.2.1.2.1.getD (f.2.2.2.getD a.toNat 0).toNat 0=f.2.2.1.getD (f.1.2.1.getD a.toNat 0).toNat 0)&&decide (f.2.1.2.2.1.getD (f.2.2.2.getD a.toNat 0).toNat 0=f.2.2.1.getD (f.1.2.2.1.getD a.toNat 0).toNat 0)) &&
 jv f.1.1.toNat (fun x=>decide (f.2.2.2.getD (f.1.2.2.2.1.getD x.toNat 0).toNat 0=f.2.1.2.2.2.1.getD (f.2.2.1.getD x.toNat 0).toNat 0)) &&
 jv f.1.2.1.length (fun a=>jv f.1.2.1.length fun b=>decide (f.1.2.2.1.getD a.toNat 0=f.1.2.1.getD b.toNat 0->f.2.2.2.getD (bi f.1 a b).toNat 0=bi f.2.1 (f.2.2.2.getD a.toNat 0) (f.2.2.2.getD b.toNat 0)))
structure FitP (f:am):Prop where
 lo:(f.2.2.1.length:Int)=f.1.1
 la:f.2.2.2.length=f.1.2.1.length
 ow:e9 f.2.2.1 f.2.1.1=true
 aw:e9 f.2.2.2 f.2.1.2.1.length=true
 ends:∀a:Int,0<=a->a<f.1.2.1.length->f.2.1.2.1.getD (f.2.2.2.getD a.toNat 0).toNat 0=f.2.2.1.getD (f.1.2.1.getD a.toNat 0).toNat 0/\f.2.1.2.2.1.getD (f.2.2.2.getD a.toNat 0).toNat 0=f.2.2.1.getD (f.1.2.2.1.getD a.toNat 0).toNat 0
 ids:∀x:Int,0<=x->x<f.1.1->f.2.2.2.getD (f.1.2.2.2.1.getD x.toNat 0).toNat 0=f.2.1.2.2.2.1.getD (f.2.2.1.getD x.toNat 0).toNat 0
 comp:∀a:Int,0<=a->a<f.1.2.1.length->∀b:Int,0<=b->b<f.1.2.1.length->f.1.2.2.1.getD a.toNat 0=f.1.2.1.getD b.toNat 0->f.2.2.2.getD (bi f.1 a b).toNat 0=bi f.2.1 (f.2.2.2.getD a.toNat 0) (f.2.2.2.getD b.toNat 0)
theorem amr{f:am}(S:ShapeP f.1):avs f=true<->FitP f:=by
 have e:((f.1.1.toNat:Nat):Int)=f.1.1:=by have:=S.ob;omega
 simp only[avs,a0b,a0w,ov,e];constructor
 ·rintro⟨⟨⟨⟨⟨⟨h1,h2⟩,h3⟩,h4⟩,h5⟩,h6⟩,h7⟩;exact⟨h1,h2,h3,h4,h5,h6,h7⟩
 ·intro h;exact⟨⟨⟨⟨⟨⟨h.lo,h.la⟩,h.ow⟩,h.aw⟩,h.ends⟩,h.ids⟩,h.comp⟩
def jp:Ct:=⟨[aao],[false],fun x=>[ShapeP x.1.1,ShapeP x.1.2.1],[(false,kf)],fun x=>(avs x.1,()),false,none⟩
def ara:Ann:=(.s .n (.s .n (.s .n (.s (.s .n (.l [(66,(.d bc))] [] [0,3,4,64,65] .n)) (.s (.s .n (.l [(121,(.d bc))] [] [0,3,4,119,120] .n)) (.s (.s .n (.l [(153,(.d bc))] [] [0,4,151,152] (.s .n (.s .n (.s (.s .n (.s .n (.l [(160,(.d bc))] [] [0,4,9,151,152,153,158,159] .n))) .n))))) .n))))))
def bqz:FuncId->Option Ct:=lkp [(85,j8),(46,je),(96,sn)]
def abq(f:am)(K:Bool×Unit->Prop):Prop:=let a5:=f.1.2.2.2;let a1:=e9 f.2.2.1 f.2.1.1;let x:=f.2.1.2.1.length;let u:=f.1.2.1.length;let q:=f.2.2.1.length;let m:=f.2.2.2.length;(((q:Int) != f.1.1||(m:Int) != (u:Int))=false->inK .i64 (f.2.1.1-1))/\(((q:Int) != f.1.1||(m:Int) != (u:Int)||!a1)=false->inK .i64 ((x:Int)-1))/\cnd ((q:Int) != f.1.1||(m:Int) != (u:Int)||!a1||!e9 f.2.2.2 (x:Int)) (K (false,())) (bn (S:=ce7) (fun a b=>let v:=a.1.1;let a2:=f.1.2.1.getD v.toNat 0;let r:=f.1.2.2.1.getD v.toNat 0;let l:=f.2.2.1.getD a2.toNat 0;let k:=f.2.2.2.getD v.toNat 0;let o:=f.2.1.2.1.getD k.toNat 0;Iq v<|cnd (decide (v<(m:Int))) (Ix v m<|Ix k x<|Ix v u<|Ix a2 q<|((o != l)=false->k<(f.2.1.2.2.1.length:Int)/\0<=k)/\((o != l)=false->v<(f.1.2.2.1.length:Int)/\0<=v)/\((o != l)=false->r<(q:Int)/\0<=r)/\cnd (o != l||f.2.1.2.2.1.getD k.toNat 0 != f.2.2.1.getD r.toNat 0) (K (false,())) (Ik (v+1)<|b ((v+1,()),()))) (bn (S:=ce7) (fun c d=>let a4:=c.1.1;let z:=f.2.2.1.getD a4.toNat 0;let w:=a5.1.getD a4.toNat 0;Iq a4<|cnd (decide (a4<(a5.1.length:Int))) (Ix a4 a5.1.length<|Ix w m<|Ix a4 q<|Ix z f.2.1.2.2.2.1.length<|cnd (f.2.2.2.getD w.toNat 0 != f.2.1.2.2.2.1.getD z.toNat 0) (K (false,())) (Ik (a4+1)<|d ((a4+1,()),()))) (bn (S:=ce7) (fun e g=>let a0:=e.1.1;let p:=a5.2.getD a0.toNat [];let n:=f.2.2.2.getD a0.toNat 0;Iq a0<|cnd (decide (a0<(a5.2.length:Int))) (Ix a0 a5.2.length<|bn (S:=ce7) (fun h i=>let y:=h.1.1;let a3:=f.2.2.2.getD y.toNat 0;let j:=p.getD y.toNat 0;let t:=decide (0<=j);Iq y<|cnd (decide (y<(p.length:Int))) (Ix y p.length<|(t=true->j<(m:Int)/\0<=j)/\(t=true->a0<(m:Int)/\0<=a0)/\(t=true->y<(m:Int)/\0<=y)/\(t=true->n<(f.2.1.2.2.2.2.length:Int)/\(Ix a3 (f.2.1.2.2.2.2.getD n.toNat []).length<|0<=n))/\cnd (t&&f.2.2.2.getD j.toNat 0 != bi f.2.1 n a3) (K (false,())) (Ik (y+1)<|i ((y+1,()),()))) (Ik (a0+1)<|g ((a0+1,()),()))) ((0,()),())) (K (true,()))) ((0,()),()))) ((0,()),()))) ((0,()),()))
theorem atd(f:am)(hok:ab (okL jp.args (f,())))(hpre:ab (jp.pre (f,()))):abq f (fun r=>r=jp.res (f,())):=by
 simp only[jp,okL,T.oks,T.ok,ap,ab,a0f,a0c,a0g]at hok hpre
 try dsimp only[T.den]at hok hpre
 delta abq Ik Iq Ix
 dsimp -proj -eta only;have S:ShapeP f.1:=hpre.1;have S2:ShapeP f.2.1:=hpre.2;have hob:=S.ob;have hlt:=S.lt;have hli:=S.li;have hlc:=S.lc;have hmm:=S.m;have tob:=S2.ob;have tlt:=S2.lt;have tli:=S2.li;have tlc:=S2.lc
 have bad:¬FitP f->(false,())=jp.res (f,()):=fun h=>by
  simp only[jp]
  cases hs:avs f with
  |false=>rfl
  |true=>exact absurd ((amr S).1 hs) h
 have at1:∀i j:Int,(f.1.2.2.2.2.getD i.toNat []).getD j.toNat 0=bi f.1 i j:=fun _ _=>rfl;have at2:∀i j:Int,(f.2.1.2.2.2.2.getD i.toNat []).getD j.toNat 0=bi f.2.1 i j:=fun _ _=>rfl;refine⟨fun _=>by rw[au];(try dsimp only);omega,fun _=>by rw[au];have:=S2.m;omega,ba (fun hc=>bad fun h=>?_) (fun hc=>?_)⟩
 ·have h1:=h.lo;have h2:=h.la;have h3:=h.ow;have h4:=h.aw;grind[cnd,eh,au]
 simp only[a2j,a2t,a1w]at hc;obtain⟨⟨⟨hlo,hla⟩,how⟩,haw⟩:=hc;refine jc (n:=f.2.2.2.length) (fun a=>∀a':Int,0<=a'->a'<a->f.2.1.2.1.getD (f.2.2.2.getD a'.toNat 0).toNat 0=f.2.2.1.getD (f.1.2.1.getD a'.toNat 0).toNat 0/\f.2.1.2.2.1.getD (f.2.2.2.getD a'.toNat 0).toNat 0=f.2.2.1.getD (f.1.2.2.1.getD a'.toNat 0).toNat 0) (by omega) (by intro y h0 h1;omega) ?_ ?_
 ·intro a next a0 a1 hP hn hin
  try dsimp only
  have sa:=S.frm a0 (by omega);have fa:=ep.1 haw a a0 a1;refine bd (fun _=>⟨a0,a1,fa.1,by omega,a0,by omega,sa.1,by omega,fun _=>by omega,fun _=>by omega,fun _=>by omega,ba (fun hx=>bad fun h=>?_) (fun hx=>⟨by rw[au];(try dsimp only);omega,hn fun a' b0 b1=>?_⟩)⟩) (fun h=>absurd a1 h)
  ·have:=h.ends a a0 (by omega);rw[this.1,this.2]at hx;simp at hx
  ·by_cases e:a'=a
   ·rw[e];simpa only [a2j,a1w]using hx
   ·exact hP a' b0 (by omega)
 intro next hE hin
 refine bd (fun h=>absurd h (by dsimp only;omega)) (fun _=>?_);clear next
 refine jc (n:=f.1.2.2.2.1.length) (fun x=>∀x':Int,0<=x'->x'<x->f.2.2.2.getD (f.1.2.2.2.1.getD x'.toNat 0).toNat 0=f.2.1.2.2.2.1.getD (f.2.2.1.getD x'.toNat 0).toNat 0) (by omega) (by intro y h0 h1;omega) ?_ ?_
 ·intro x next x0 x1 hP hn hin
  try dsimp only
  have ix:=S.idn x0 (by omega);have ox:=ep.1 how x x0 (by omega);refine bd (fun _=>⟨x0,x1,ix.1,by omega,x0,by omega,ox.1,by omega,ba (fun hx=>bad fun h=>?_) (fun hx=>⟨by rw[au];(try dsimp only);omega,hn fun x' b0 b1=>?_⟩)⟩) (fun h=>absurd x1 h)
  ·rw[h.ids x x0 (by omega)]at hx;simp at hx
  ·by_cases e:x'=x
   ·rw[e];simpa only [a1w]using hx
   ·exact hP x' b0 (by omega)
 intro next hI hin
 refine bd (fun h=>absurd h (by dsimp only;omega)) (fun _=>?_);clear next
 refine jc (n:=f.1.2.2.2.2.length) (fun a=>∀a':Int,0<=a'->a'<a->∀b:Int,0<=b->b<f.1.2.1.length->f.1.2.2.1.getD a'.toNat 0=f.1.2.1.getD b.toNat 0->f.2.2.2.getD (bi f.1 a' b).toNat 0=bi f.2.1 (f.2.2.2.getD a'.toNat 0) (f.2.2.2.getD b.toNat 0)) (by omega) (by intro y h0 h1;omega) ?_ ?_
 ·intro a next a0 a1 hP hn hin
  try dsimp only
  have ra:=S.row a a0 (by omega);have fa:=ep.1 haw a a0 (by omega);have rfa:=S2.row _ fa.1 fa.2;refine bd (fun _=>⟨a0,a1,?_⟩) (fun h=>absurd a1 h);refine jc (n:=(f.1.2.2.2.2.getD a.toNat []).length) (fun b=>∀b':Int,0<=b'->b'<b->f.1.2.2.1.getD a.toNat 0=f.1.2.1.getD b'.toNat 0->f.2.2.2.getD (bi f.1 a b').toNat 0=bi f.2.1 (f.2.2.2.getD a.toNat 0) (f.2.2.2.getD b'.toNat 0)) (by omega) (by intro y h0 h1;omega) ?_ ?_
  ·intro b next2 b0 b1 hP2 hn2 hin2
   try dsimp only
   simp only[at1,at2];have fb:=ep.1 haw b b0 (by omega);have cab:=S.comp a0 (by omega) b0 (by omega);have yab:=@ShapeP.yes f.1 S a b a0 (by omega) b0 (by omega);refine bd (fun _=>⟨b0,b1,fun hq=>?_,fun _=>by omega,fun _=>by omega,fun _=>by omega,ba (fun hx=>bad fun h=>?_) (fun hx=>⟨by rw[au];(try dsimp only);omega,hn2 fun b' c0 c1=>?_⟩)⟩) (fun h=>absurd b1 h)
   ·have:=yab (cab.1 (a4a hq));omega
   ·simp only[a0b,a0w,a3i]at hx;exact hx.2 (h.comp a a0 (by omega) b b0 (by omega) (cab.1 hx.1))
   ·by_cases e:b'=b
    ·rw[e];intro eab;have hq:=cab.2 eab;simpa[hq]using hx
    ·exact hP2 b' c0 (by omega)
  ·intro next2 hP2 hin2;refine bd (fun h=>absurd h (by dsimp only;omega)) (fun _=>⟨by rw[au];(try dsimp only);omega,hn fun a' b0 b1=>?_⟩);by_cases e:a'=a
   ·rw[e];exact fun b b0 b1=>hP2 b b0 (by omega)
   ·exact hP a' b0 (by omega)
 ·intro next hP hin
  refine bd (fun h=>absurd h (by dsimp only;omega)) (fun _=>?_);have key:FitP f:=⟨by omega,by omega,how,haw,fun a a0 a1=>hE a a0 (by omega),fun x x0 x1=>hI x x0 (by omega),fun a a0 a1 b b0 b1=>hP a a0 (by omega) b b0 b1⟩;simp only[jp];rw[(amr S).2 key]
theorem ar9:bw Tryz.prog 69 jp:=ctb (ae sy (ae qk (ae ap8 az))) bg 69 Tryz.f69 jp ara [(1,8),(2,42),(22,28),(7,44),(13,21)] (fun x K=>abq x.1 K) (fun x h1 h2=>atd x.1 h1 h2)
def jx:Ct:=⟨[(.sl aeo)],[false],fun x=>[],[(false,kf)],fun x=>(x.1.all k9,()),false,none⟩
def aqw:Ann:=(.s .n (.s (.s .n (.l arw [] [5,6] .n)) .n))
def aas(list:List aa)(K:Bool×Unit->Prop):Prop:=bn (S:=ce7) (fun a b=>Iq a.1.1<|cnd (decide (a.1.1<(list.length:Int))) (Ix a.1.1 list.length<|cnd (!k9 (list.getD a.1.1.toNat (0,[],[],[],[]))) (K (false,())) (Ik (a.1.1+1)<|b ((a.1.1+1,()),()))) (K (true,()))) ((0,()),())
theorem ar4(list:List aa)(hok:ab (okL jx.args (list,())))(hpre:ab (jx.pre (list,()))):aas list (fun r=>r=jx.res (list,())):=by
 simp only[jx,okL,T.oks,T.ok,ap,ab,a0f,a0c,a0g]at hok hpre
 try dsimp only[T.den]at hok hpre
 delta aas Ik Iq Ix
 have hl:list.length<=140737488355328:=by simp only[eh]at hok;omega
 refine jc (n:=list.length) (fun i=>list.all k9=(list.drop i.toNat).all k9) (by omega) (by simp) ?_ ?_
 ·intro i next h0 h1 hP hn hin
  try dsimp only
  rw[aj2 list (0,([],([],([],[])))) h0 h1,a4i]at hP;refine bd (fun _=>⟨h0,h1,ba (fun hx=>?_) (fun hx=>⟨by rw[au];(try dsimp only);omega,hn ?_⟩)⟩) (fun h=>absurd h1 h)
  ·simp only[a1z]at hx;simp only[jx];rw[hP,hx];rfl
  ·simp only[a2t]at hx;rw[hP,hx,a1v]
 ·intro next hP hin
  refine bd (fun h=>absurd h (by dsimp only;omega)) (fun _=>?_);simp only[jx];rw[hP,al9 list (by omega)];rfl
theorem aqt:bw Tryz.prog 68 jx:=ctb (ae t9 az) bg 68 Tryz.f68 jx aqw [] (fun x K=>aas x.1 K) (fun x h1 h2=>ar4 x.1 h1 h2)
def d5(f:am):Bool:=k9 f.1&&k9 f.2.1&&avs f
structure FunP (f:am):Prop where
 src:ShapeP f.1
 tgt:ShapeP f.2.1
 fit:FitP f
theorem cbm{f:am}(h:d5 f=true):FunP f:=by simp only[d5,a0b]at h;exact⟨sr h.1.1,sr h.1.2,(amr (sr h.1.1)).1 h.2⟩
def fy:Ct:=⟨[aao],[false],fun x=>[],[(false,kf)],fun x=>(d5 x.1,()),false,none⟩
def bhy:FuncId->Option Ct:=lkp [(69,jp),(68,jx)]
def wg(f:am)(K:Bool×Unit->Prop):Prop:=let a:=List.all (f.1::f.2.1::([]:List cew)) k9;(a=true->ShapeP f.2.1/\ShapeP f.1)/\K (a&&avs f,())
theorem ame(f:am)(hok:ab (okL fy.args (f,())))(hpre:ab (fy.pre (f,()))):wg f (fun r=>r=fy.res (f,())):=by
 simp only[fy,okL,T.oks,T.ok,ap,ab,a0f,a0c,a0g]at hok hpre
 try dsimp only[T.den]at hok hpre
 delta wg
 dsimp -proj -eta only;simp only[fy,d5,a4i,List.all_nil,a0o];have h1:=@sr f.1;have h2:=@sr f.2.1
 grind[cnd,eh,au]
theorem vo:bw Tryz.prog 33 fy:=ctb (ae ar9 (ae aqt az)) bg 33 Tryz.f33 fy .n [(1,13)] (fun x K=>wg x.1 K) (fun x h1 h2=>ame x.1 h1 h2)
def jt:Ct:=⟨[ed],[false],fun x=>[x.1.length<=1099511627776],[(false,dq)],fun x=>(x.1,()),false,none⟩
def akj(list:List Int)(K:(List Int)×Unit->Prop):Prop:=c9 0 list.length 8/\K (list,())
theorem bhe(list:List Int):Mh jt (list,()) (akj list):=by
 intro hok hpre;simp only[jt,okL,T.oks,T.ok,ap,ab,a0f,a0c,a0g]at hok hpre
 try dsimp only[T.den]at hok hpre
 unfold akj;have hl:list.length<=1099511627776:=hpre;exact⟨ck (by omega),rfl⟩
theorem mz:bw Tryz.prog 143 jt:=ctb az bg 143 Tryz.f143 jt .n [] (fun x K=>akj x.1 K) (fun x h1 h2=>bhe x.1 h1 h2)
structure OwnP (l:List (List Int)):Prop where
 n:l.length<=1099511627776
 e:∀r∈l,r.length<=1099511627776
def qy:Ct:=⟨[wm],[false],fun x=>[OwnP x.1],[(false,vp)],fun x=>(x.1,()),false,none⟩
def ba8:Ann:=(.s .n (.s .n (.s (.s .n (.l bhk [(800003,vp)] [0] .n)) .n)))
def aia(lists:List (List Int))(K:ce2×Unit->Prop):Prop:=bn (S:=cgc) (fun a b=>let d:=a.1.2.1;let c:=lists.getD d.toNat [];Iq d<|Om a.2.1<|cnd (decide (d<(lists.length:Int))) (Ix d lists.length<|c.length<=1099511627776/\c9 a.2.1.length [c].length 24/\(Ik (d+1)<|b (((),d+1,()),a.2.1++[c],()))) (K (a.2.1,()))) (((),0,()),[],())
theorem bct(lists:List (List Int))(hok:ab (okL qy.args (lists,())))(hpre:ab (qy.pre (lists,()))):aia lists (fun r=>r=qy.res (lists,())):=by
 simp only[qy,okL,T.oks,T.ok,ap,ab,a0f,a0c,a0g]at hok hpre
 try dsimp only[T.den]at hok hpre
 delta aia Ik Iq Ix Om
 dsimp -proj -eta only;have h1:=hpre.n;have h2:=hpre.e;clear hok;refine uz (fun i=>lists.take i.toNat) (n:=lists.length) (by omega) rfl ?_ ?_
 ·intro i next i0 i1 hn _ _
  try dsimp only at hn⊢
  rw[mm lists [] i0 i1]at hn;exact bd (fun _=>⟨i0,i1,h2 _ (cp lists [] i0 i1),ck (by rw[a03];simp only[a0h,a0i];omega),by rw[au];(try dsimp only);omega,hn⟩) (fun h=>absurd i1 h)
 ·intro next _ _
  refine bd (fun h=>absurd h (a1b _)) (fun _=>?_);simp only[qy];rw[acf _ (a02 _)]
theorem aoa:bw Tryz.prog 144 qy:=ctb (ae mz az) bg 144 Tryz.f144 qy ba8 [] (fun x K=>aia x.1 K) (fun x h1 h2=>bct x.1 h1 h2)
def adn(t:List (List Int)):aa:=(1,(List.replicate t.length 0,(List.replicate t.length 0,([0],t))))
structure CgR (b:Int) (c:aa):Prop where
 b1:1<=b
 ob0:0<=c.1
 ob:c.1<=b
 m:(c.2.1.length:Int)<=b
 lt:c.2.2.1.length=c.2.1.length
 li:(c.2.2.2.1.length:Int)=c.1
 lc:c.2.2.2.2.length=c.2.1.length
 fr:∀x∈c.2.1,0<=x/\x<=b
 to:∀x∈c.2.2.1,0<=x/\x<=b
 id:∀x∈c.2.2.2.1,0<=x/\x<=b
 row:∀r∈c.2.2.2.2,r.length=c.2.1.length/\∀x∈r,-b<=x/\x<=b
theorem CgR.le{a b:Int}{c:aa}(h:CgR a c)(hab:a<=b):CgR b c:=
 ⟨by have:=h.b1;omega,h.ob0,by have:=h.ob;omega,by have:=h.m;omega,h.lt,h.li,h.lc,fun x hx=>by have:=h.fr x hx;omega,fun x hx=>by have:=h.to x hx;omega,fun x hx=>by have:=h.id x hx;omega,
  fun r hr=>⟨(h.row r hr).1,fun x hx=>by have:=(h.row r hr).2 x hx;omega⟩⟩
theorem CgR.frG{b:Int}{c:aa}(h:CgR b c){f:Int}(f0:0<=f)(f1:f<c.2.1.length):0<=c.2.1.getD f.toNat 0/\c.2.1.getD f.toNat 0<=b:=h.fr _ (cp c.2.1 0 f0 f1)
theorem CgR.toG{b:Int}{c:aa}(h:CgR b c){f:Int}(f0:0<=f)(f1:f<c.2.1.length):0<=c.2.2.1.getD f.toNat 0/\c.2.2.1.getD f.toNat 0<=b:=h.to _ (cp c.2.2.1 0 f0 (by rw[h.lt];exact f1))
theorem CgR.idG{b:Int}{c:aa}(h:CgR b c){x:Int}(f0:0<=x)(f1:x<c.1):0<=c.2.2.2.1.getD x.toNat 0/\c.2.2.2.1.getD x.toNat 0<=b:=h.id _ (cp c.2.2.2.1 0 f0 (by have:=h.li;omega))
theorem CgR.rowG{b:Int}{c:aa}(h:CgR b c){f:Int}(f0:0<=f)(f1:f<c.2.1.length):(c.2.2.2.2.getD f.toNat []).length=c.2.1.length:=(h.row _ (cp c.2.2.2.2 [] f0 (by rw[h.lc];exact f1))).1
theorem CgR.cel{b:Int}{c:aa}(h:CgR b c){f g:Int}(f0:0<=f)(f1:f<c.2.1.length)(g0:0<=g)(g1:g<c.2.1.length):-b<=(c.2.2.2.2.getD f.toNat []).getD g.toNat 0/\(c.2.2.2.2.getD f.toNat []).getD g.toNat 0<=b:=(h.row _ (cp c.2.2.2.2 [] f0 (by rw[h.lc];exact f1))).2 _ (cp _ 0 g0 (by rw[h.rowG f0 f1];exact g1))
theorem ca4{t:List (List Int)}(h0:1<=t.length)(h8:t.length<=8)(hr:∀r∈t,r.length=t.length)(he:∀r∈t,∀x∈r,0<=x/\x<=8):CgR 8 (adn t):=
 ⟨by omega,Int.le.intro 1 rfl,by show (1:Int)<=8;omega,by show ((List.replicate t.length (0:Int)).length:Int)<=8;rw[a05];omega,rfl,rfl,by show t.length=(List.replicate t.length (0:Int)).length;rw[a05],
  fun x hx=>by rw[a34 hx];omega,fun x hx=>by rw[a34 hx];omega,fun x hx=>by rw[a0s.1 hx];omega,
  fun r hr'=>⟨by show r.length=(List.replicate t.length (0:Int)).length;rw[a05];exact hr r hr',fun x hx=>by have:=he r hr' x hx;omega⟩⟩
def mh:Ct:=⟨[wm],[false],fun x=>[OwnP x.1],[(true,iw)],fun x=>(adn x.1,()),false,none⟩
def ae4(table:List (List Int))(K:aa×Unit->Prop):Prop:=let a:=table.length;let b:=List.replicate (Int.toNat (a:Int)) (0:Int);0<=(a:Int)/\(a:Int)<=(a:Int)/\(a:Int)<=((140737488355328:Nat):Int)/\(a:Int)*((8:Nat):Int)<=((140737488355328:Nat):Int)/\0<=(a:Int)/\(a:Int)<=(a:Int)/\(a:Int)<=((140737488355328:Nat):Int)/\(a:Int)*((8:Nat):Int)<=((140737488355328:Nat):Int)/\OwnP table/\K ((1,b,b,[0],table),())
theorem ayf(table:List (List Int))(hok:ab (okL mh.args (table,())))(hpre:ab (mh.pre (table,()))):ae4 table (fun r=>r=mh.res (table,())):=by
 simp only[mh,okL,T.oks,T.ok,ap,ab,a0f,a0c,a0g]at hok hpre
 try dsimp only[T.den]at hok hpre
 delta ae4
 dsimp -proj -eta only;have hl:=hpre.n;refine⟨by omega,a02 _,by omega,by omega,by omega,a02 _,by omega,by omega,hpre,?_⟩;simp only[mh,adn,a0y]
theorem yr:bw Tryz.prog 128 mh:=ctb (ae aoa az) bg 128 Tryz.f128 mh .n [(2,507)] (fun x K=>ae4 x.1 K) (fun x h1 h2=>ayf x.1 h1 h2)
structure OwcR (c:aa):Prop where
 a:c.2.1.length<=1099511627776
 b:c.2.2.1.length<=1099511627776
 d:c.2.2.2.1.length<=1099511627776
 e:OwnP c.2.2.2.2
theorem btx{b:Int}{c:aa}(h:CgR b c)(hb:b<=1000000000000):OwcR c:=by have h1:=h.m;have h2:=h.lt;have h3:=h.li;have h4:=h.ob;have h5:=h.lc;exact⟨by omega,by omega,by omega,⟨by omega,fun r hr=>by have:=(h.row r hr).1;omega⟩⟩
def wy:Ct:=⟨[bp],[true],fun x=>[OwcR x.1],[(true,iw)],fun x=>(x.1,()),false,none⟩
def bzp:FuncId->Option Ct:=lkp [(143,jt),(144,qy)]
def akq(c:aa)(K:aa×Unit->Prop):Prop:=c.2.1.length<=1099511627776/\c.2.2.1.length<=1099511627776/\c.2.2.2.1.length<=1099511627776/\OwnP c.2.2.2.2/\K (c,())
theorem bhb(c:aa):Mh wy (c,()) (akq c):=by
 intro hok hpre;simp only[wy,okL,T.oks,T.ok,ap,ab,a0f,a0c,a0g]at hok hpre
 try dsimp only[T.den]at hok hpre
 unfold akq;exact⟨hpre.a,hpre.b,hpre.d,hpre.e,rfl⟩
theorem y8:bw Tryz.prog 124 wy:=ctb (ae mz (ae aoa az)) bg 124 Tryz.f124 wy .n [(1,514)] (fun x K=>akq x.1 K) (fun x h1 h2=>bhb x.1 h1 h2)
theorem bgf{c:aa}(S:ShapeP c):OwcR c:=by have h1:=S.m;have h2:=S.lt;have h3:=S.li;have h4:=S.ob;have h5:=S.lc;refine⟨by omega,by omega,by omega,by omega,fun r hr=>?_⟩;obtain⟨i,hi,rfl⟩:=a2d hr;have:=S.row (i:Int) (by omega) (by omega);rw[a0y,a0l,a0p hi]at this;simp only[a1n]at this;omega
def vw:Ct:=⟨[bp,bp,ed,ed],[true,true,false,false],fun x=>[ShapeP x.1,ShapeP x.2.1,x.2.2.1.length<=1099511627776,x.2.2.2.1.length<=1099511627776],[(true,av3)],fun x=>((x.1,x.2.1,x.2.2.1,x.2.2.2.1),()),true,none⟩
def byy:FuncId->Option Ct:=lkp [(143,jt),(124,wy)]
def aif(c d:aa)(objects arrows:List Int)(K:am×Unit->Prop):Prop:=OwcR c/\OwcR d/\objects.length<=1099511627776/\arrows.length<=1099511627776/\K ((c,d,objects,arrows),())
theorem be2(c d:aa)(objects arrows:List Int):Mh vw (c,d,objects,arrows,()) (aif c d objects arrows):=by
 intro hok hpre;simp only[vw,okL,T.oks,T.ok,ap,ab,a0f,a0c,a0g]at hok hpre
 try dsimp only[T.den]at hok hpre
 unfold aif;exact⟨bgf hpre.1,bgf hpre.2.1,hpre.2.2.1,hpre.2.2.2,rfl⟩
theorem agf:bw Tryz.prog 133 vw:=ctb (ae mz (ae y8 az)) bg 133 Tryz.f133 vw .n [(1,507)] (fun x K=>aif x.1 x.2.1 x.2.2.1 x.2.2.2.1 K) (fun x h1 h2=>be2 x.1 x.2.1 x.2.2.1 x.2.2.2.1 h1 h2)
def fm(c d:aa)(y:Int):am:=(c,d,bh c.1.toNat (fun _=>y),bh c.2.1.length fun _=>d.2.2.2.1.getD y.toNat 0)
def lf:Ct:=⟨[bp,bp,bc],[true,true,false],fun x=>[ShapeP x.1,ShapeP x.2.1,0<=x.2.2.1,x.2.2.1<x.2.1.1],[(true,av3)],fun x=>(fm x.1 x.2.1 x.2.2.1,()),true,none⟩
def atf:Ann:=(.s .n (.s .n (.s (.s .n (.l [(6,(.ad 6 [.de])),(7,(.ref 800007 [])),(9,(.d bc))] [(6,au6),(800007,dq)] [2,3,4,8] .n)) (.s (.s .n (.l [(6,(.ad 6 [.de])),(8,(.ref 800008 [])),(10,(.d bc))] [(6,au6),(800008,dq)] [2,3,4,7] .n)) .n))))
def ab9(c d:aa)(y:Int)(K:am×Unit->Prop):Prop:=let g:=d.2.2.2.1.getD y.toNat 0;bn (S:=cfp) (fun a b=>let j:=a.2.2.1;let h:=a.1.2.2.1;Iq h<|Of a.2.1<|Ol j<|cnd (decide (h<c.1)) (c9 j.length [y].length 8/\(Ik (h+1)<|b (((),(),h+1,()),a.2.1,j++[y],()))) (bn (S:=cfp) (fun e f=>let k:=e.2.2.1;let i:=e.1.2.2.1;Iq i<|Of e.2.1<|Ol k<|cnd (decide (i<(c.2.1.length:Int))) (Ix y d.2.2.2.1.length<|c9 k.length [g].length 8/\(Ik (i+1)<|f (((),(),i+1,()),e.2.1,k++[g],()))) (ShapeP c/\ShapeP d/\j.length<=1099511627776/\k.length<=1099511627776/\K ((c,d,j,k),()))) (((),(),0,()),a.2.1,[],()))) (((),(),0,()),((0,[],[],[],[]),(0,[],[],[],[]),[],[]),[],())
theorem at9(c d:aa)(y:Int)(hok:ab (okL lf.args (c,d,y,())))(hpre:ab (lf.pre (c,d,y,()))):ab9 c d y (fun r=>r=lf.res (c,d,y,())):=by
 simp only[lf,okL,T.oks,T.ok,ap,ab,a0f,a0c,a0g]at hok hpre
 try dsimp only[T.den]at hok hpre
 delta ab9 Ik Iq Ix Oc Of Ol Om
 dsimp -proj -eta only;obtain⟨S,D,y0,y1⟩:=hpre;clear hok;have h1:=S.ob;have h2:=S.m;have h3:=D.li;refine bq (fun (s:cfp)=>0<=s.1.2.2.1/\s.1.2.2.1<=c.1/\s.2.2.1=bh s.1.2.2.1.toNat fun _=>y) (fun (s:cfp)=>(c.1-s.1.2.2.1).toNat) ?_ ⟨a02 _,h1.1,rfl⟩;rintro⟨⟨_,_,i,_⟩,z,l,_⟩ next ⟨i0,i1,hl⟩ hn _ _ _ _ _ _ _ _ _ _ _ _ _ _
 try dsimp only at i0 i1 hl hn⊢
 refine bd (fun hc=>?_) (fun hc=>?_)
 ·have hll:l.length=i.toNat:=by rw[hl,bj]
  refine⟨ck (by simp only[a0h,a0i];omega),by rw[au];(try dsimp only);omega,hn _ ⟨by dsimp only;omega,by dsimp only;omega,?_⟩ (by dsimp only;omega)⟩
  try dsimp only
  rw[kq i0,←hl]
 ·have e:i=c.1:=by omega
  subst e;refine bq (fun (s:cfp)=>0<=s.1.2.2.1/\s.1.2.2.1<=c.2.1.length/\s.2.2.1=bh s.1.2.2.1.toNat fun _=>d.2.2.2.1.getD y.toNat 0) (fun (s:cfp)=>(c.2.1.length-s.1.2.2.1).toNat) ?_ ⟨by simp,by simp,rfl⟩;rintro⟨⟨_,_,i,_⟩,z2,l2,_⟩ next ⟨j0,j1,hl2⟩ hn _ _ _ _ _ _ _ _ _ _ _ _ _ _
  try dsimp only at j0 j1 hl2 hn⊢
  refine bd (fun hc=>?_) (fun hc=>?_)
  ·have hll:l2.length=i.toNat:=by rw[hl2,bj]
   refine⟨y0,by omega,ck (by simp only[a0h,a0i];omega),by rw[au];(try dsimp only);omega,hn _ ⟨by dsimp only;omega,by dsimp only;omega,?_⟩ (by dsimp only;omega)⟩
   try dsimp only
   rw[kq j0,←hl2]
  ·have e:i=c.2.1.length:=by omega
   subst e;refine⟨S,D,by rw[hl,bj];omega,by rw[hl2,bj];omega,?_⟩;simp only[lf,fm];rw[hl,hl2,a0y]
theorem abr:bw Tryz.prog 115 lf:=ctb (ae agf az) bg 115 Tryz.f115 lf atf [] (fun x K=>ab9 x.1 x.2.1 x.2.2.1 K) (fun x h1 h2=>at9 x.1 x.2.1 x.2.2.1 h1 h2)
def io{α:Type}[DecidableEq α]:List α->α->Int
 |[],_=>-1
 |a::r,x=>if a=x then 0 else (if io r x<0 then -1 else io r x+1)
theorem aos{α:Type}[DecidableEq α](z:α):∀{l:List α} {x:α},(x∈l->0<=io l x/\io l x<l.length/\l.getD (io l x).toNat z=x/\∀i:Int,0<=i->i<io l x->l.getD i.toNat z≠x)/\(x∉l->io l x=-1)
 |[],x=>by simp[io]
 |a::r,x=>by
  have ih:=@aos α _ z r x;rw[io];by_cases h:a=x
  ·subst h;simp only[a04,a0t,true_or,not_true_eq_false,false_implies,a0c,true_implies];exact⟨a02 _,by simp,rfl,fun i i0 i1=>by omega⟩
  ·rw[ds h];simp only[a0t,not_or];refine⟨fun hm=>?_,fun hm=>?_⟩
   ·have hm:x∈r:=hm.resolve_left fun e=>h e.symm;obtain⟨h0,h1,h2,h3⟩:=ih.1 hm;rw[ds (by omega)];have e:(io r x+1).toNat=(io r x).toNat+1:=by omega
    refine⟨by omega,by simp only[a0h];omega,by rw[e,a49];exact h2,fun i i0 i1=>?_⟩;by_cases hi:i=0
    ·rw[hi];exact h
    ·have e:i.toNat=(i-1).toNat+1:=by omega
     rw[e,a49];exact h3 (i-1) (by omega) (by omega)
   ·rw[ih.2 hm.2,a0a (by omega)]
theorem aui{α:Type}[DecidableEq α]{z:α}{l:List α}{x:α}{i:Int}(i0:0<=i)(i1:i<l.length)(h:l.getD i.toNat z=x)(hn:∀k:Int,0<=k->k<i->l.getD k.toNat z≠x):io l x=i:=by
 have hm:x∈l:=h▸cp l z i0 i1;obtain⟨h0,h1,h2,h3⟩:=(aos z).1 hm;rcases Int.lt_trichotomy (io l x) i with hl|hl|hl
 ·exact absurd h2 (hn _ h0 hl)
 ·exact hl
 ·exact absurd h (h3 i i0 hl)
theorem bio{α:Type}[DecidableEq α]{z:α}{l:List α}{x:α}(hn:∀k:Int,0<=k->k<l.length->l.getD k.toNat z≠x):io l x=-1:=by refine (aos z).2 fun hm=>?_;obtain⟨h0,h1,h2,_⟩:=(aos z).1 hm;exact hn _ h0 h1 h2
def abx(s:List Int)(k:Int):List Int:=if io s k<0 then s++[k]else s
def acb(l:List Int):List Int:=l.foldl abx []
def ak7(l:List Int):List Int:=l.map (io (acb l))
theorem cao{s:List Int}{k:Int}(r:List Int)(h:0<=io s k):io (s++r) k=io s k:=by
 have hm:k∈s:=a29 fun hn=>by have:=(aos (0:Int)).2 hn;omega
 obtain⟨h0,h1,h2,h3⟩:=(aos (0:Int)).1 hm;have hg:∀i:Int,0<=i->i<s.length->(s++r).getD i.toNat 0=s.getD i.toNat 0:=fun i i0 i1=>by simp only[a0l];rw[a1f (by omega)]
 refine aui (z:=(0:Int)) h0 (by rw[a0m];omega) (by rw[hg _ h0 h1];exact h2) fun i i0 i1=>?_;rw[hg i i0 (by omega)];exact h3 i i0 i1
theorem bno:∀(l:List Int)(s:List Int),∃r,l.foldl abx s=s++r
 |[],s=>⟨[],by simp⟩
 |k::l,s=>by
  obtain⟨r,hr⟩:=bno l (abx s k);rw[a10,hr];unfold abx;split
  ·exact⟨k::r,by simp⟩
  ·exact⟨r,rfl⟩
theorem boq:∀(l:List Int)(s:List Int),(l.foldl abx s).length<=s.length+l.length
 |[],s=>by simp
 |k::l,s=>by
  have:=boq l (abx s k);rw[a10,a0h];have h2:(abx s k).length<=s.length+1:=by unfold abx;split<;>simp
  omega
theorem cdr{l:List Int}{i:Int}(i0:0<=i)(i1:i<l.length):acb (l.take (i+1).toNat)=abx (acb (l.take i.toNat)) (l.getD i.toNat 0):=by rw[mm l 0 i0 i1];unfold acb;rw[a11];rfl
theorem cai{l:List Int}{n:Nat}{k:Int}(h:0<=io (acb (l.take n)) k):io (acb l) k=io (acb (l.take n)) k:=by
 obtain⟨r,hr⟩:=bno (l.drop n) (acb (l.take n))
 have:acb l=acb (l.take n)++r:=by
  rw[←hr]
  conv=>lhs;rw[←a1x n l]
  unfold acb;rw[a11]
 rw[this,cao r h]
theorem ca6{s:List Int}{k:Int}(h:io s k<0):io (s++[k]) k=s.length:=by
 have hm:k∉s:=fun hm=>by have:=((aos (0:Int)).1 hm).1;omega
 refine aui (z:=(0:Int)) (by omega) (by simp only[a0m,a0h,a0i];omega) (by simp[a0l]) fun i i0 i1=>?_;simp only[a0l];rw[a1f (by omega)];intro e;exact hm (e▸(by rw[←a0l];exact cp s 0 i0 i1))
structure NumM (m:List (Int×Int)) (s:List Int):Prop where
 n:m.length=s.length
 f:∀k:Int,bli bc bc m k=if io s k<0 then none else some (io s k)
def px:Ct:=⟨[ed,bc],[false,false],fun x=>[],[(false,kg)],fun x=>(io x.1 x.2.1,()),false,none⟩
def ayh:Ann:=(.s .n (.s (.s .n (.l ais [] [0,1] .n)) .n))
def agw(list:List Int)(n:Int)(K:Int×Unit->Prop):Prop:=bn (S:=ce7) (fun a b=>Iq a.1.1<|cnd (decide (a.1.1<(list.length:Int))) (Ix a.1.1 list.length<|cnd (list.getD a.1.1.toNat 0==n) (K (a.1.1,())) (Ik (a.1.1+1)<|b ((a.1.1+1,()),()))) (K (-1,()))) ((0,()),())
theorem azz(list:List Int)(n:Int)(hok:ab (okL px.args (list,n,())))(hpre:ab (px.pre (list,n,()))):agw list n (fun r=>r=px.res (list,n,())):=by
 simp only[px,okL,T.oks,T.ok,ap,ab,a0f,a0c,a0g]at hok hpre
 try dsimp only[T.den]at hok hpre
 delta agw Ik Iq Ix
 have hl:list.length<=140737488355328:=by simp only[eh]at hok;omega
 clear hok;refine jc (n:=list.length) (fun i=>∀k:Int,0<=k->k<i->list.getD k.toNat 0≠n) (by omega) (by intro k h0 h1;omega) ?_ ?_
 ·intro i next i0 i1 hP hn _
  try dsimp only
  refine bd (fun _=>⟨i0,i1,ba (fun hx=>?_) (fun hx=>⟨by rw[au];(try dsimp only);omega,hn fun k k0 k1=>?_⟩)⟩) (fun h=>absurd i1 h)
  ·have:io list n=i:=aui (z:=(0:Int)) i0 i1 (by simpa using hx) hP;simp only[px,this]
  ·by_cases hk:k=i
   ·subst hk;simpa using hx
   ·exact hP k k0 (by omega)
 ·intro next hP _
  refine bd (fun h=>absurd h (a1b _)) (fun _=>?_);have:io list n=-1:=bio (z:=(0:Int)) hP;simp only[px,this]
theorem azv:bw Tryz.prog 153 px:=ctb az bg 153 Tryz.f153 px ayh [] (fun x K=>agw x.1 x.2.1 K) (fun x h1 h2=>azz x.1 x.2.1 h1 h2)
def pu:Ct:=⟨[ed],[false],fun x=>[x.1.length<=1099511627776],[(false,dq)],fun x=>(ak7 x.1,()),false,none⟩
def aub:Ann:=(.s .n (.s .n (.s (.s .n (.l [(3,(.ref 800003 [])),(4,(.ref 800004 [])),(5,(.d bc))] [(800003,dq),(800004,dq)] [0] (.s .n (.s (.s .n (.s (.s .n (.j [(3,(.ref 800003 [])),(4,(.ref 800004 [])),(6,(.d bc))] [(800003,dq),(800004,dq)] [0,5] .n)) .n)) .n)))) .n)))
def ad8(labels:List Int)(K:(List Int)×Unit->Prop):Prop:=let h:=labels.length;bn (S:=(cex×cfk)) (fun a b=>let g:=a.2.2.1;let f:=a.1.2.2.1;let e:=labels.getD f.toNat 0;Iq f<|Ol a.2.1<|Ol g<|cnd (decide (f<(h:Int))) (Ix f h<|dk (S:=(cex×cfk)) (fun c=>Iq c.1.2.2.1<|Ol c.2.1<|Ol c.2.2.1<|c9 c.2.1.length [c.1.2.2.1].length 8/\(Ik (f+1)<|b (((),(),f+1,()),c.2.1++[c.1.2.2.1],c.2.2.1,()))) (fun d=>cnd (decide (io g e<0)) (Ix f h<|c9 g.length [e].length 8/\d (((),(),(g.length:Int),()),a.2.1,g++[e],())) (d (((),(),io g e,()),a.2.1,g,())))) (K (a.2.1,()))) (((),(),0,()),[],[],())
theorem aw8(labels:List Int)(hok:ab (okL pu.args (labels,())))(hpre:ab (pu.pre (labels,()))):ad8 labels (fun r=>r=pu.res (labels,())):=by
 simp only[pu,okL,T.oks,T.ok,ap,ab,a0f,a0c,a0g]at hok hpre
 try dsimp only[T.den]at hok hpre
 delta ad8 Ik Iq Ix Ol
 dsimp -proj -eta only;have hl:labels.length<=1099511627776:=hpre;clear hok;refine bq (fun (s:(cex×cfk))=>0<=s.1.2.2.1/\s.1.2.2.1<=labels.length/\s.2.2.1=acb (labels.take s.1.2.2.1.toNat)/\s.2.1=(labels.take s.1.2.2.1.toNat).map (io (acb labels))) (fun (s:(cex×cfk))=>(labels.length-s.1.2.2.1).toNat) ?_ ⟨by simp,by simp,rfl,rfl⟩;rintro⟨⟨_,_,i,_⟩,out,seen,_⟩ next ⟨i0,i1,hM,ho⟩ hn _ _ _
 try dsimp only at i0 i1 hM ho hn⊢
 refine bd (fun hc=>?_) (fun hc=>?_)
 ·have hs:=@cdr labels i i0 hc;have hex:=@cai labels (i+1).toNat (labels.getD i.toNat 0);have hml:seen.length<=labels.length:=by rw[hM];have:=boq (labels.take i.toNat) [];rw[a03]at this;simp only[a0i]at this;unfold acb;omega
  have hol:out.length<=labels.length:=by rw[ho,a00,a03];omega
  have hout:(labels.take (i+1).toNat).map (io (acb labels))=out++[io (acb labels) (labels.getD i.toNat 0)]:=by rw[mm labels 0 i0 hc,a2m,←ho];rfl
  rw[hs,←hM]at hex;rw[←hM]at hs;generalize labels.getD i.toNat 0=k at *;refine⟨i0,hc,?_⟩;refine cz (fun (s:(cex×cfk))=>s.2.2.1=abx seen k/\s.1.2.2.1=io (acb labels) k/\s.2.1=out) (fun s ⟨s1,s2,s3⟩ _ _ _=>?_) (fun kk hk=>?_)
  ·rw[s3,s2];refine⟨ck (by simp only[a0h,a0i];omega),by rw[au];(try dsimp only);omega,hn _ ⟨by dsimp only;omega,by dsimp only;omega,by dsimp only;rw[hs];exact s1,by dsimp only;rw[hout]⟩ (by dsimp only;omega)⟩
  refine bd (fun hx=>?_) (fun hx=>?_)
  ·have hd:abx seen k=seen++[k]:=by unfold abx;rw[a0a hx]
   have hi:=ca6 hx;rw[hd]at hex hk;rw[hi]at hex;exact⟨i0,hc,ck (by simp only[a0h,a0i];omega),hk _ ⟨rfl,(hex (by omega)).symm,rfl⟩⟩
  ·have hd:abx seen k=seen:=by unfold abx;rw[ds hx]
   rw[hd]at hex hk;exact hk _ ⟨rfl,(hex (by omega)).symm,rfl⟩
 ·have e:i=labels.length:=by omega
  subst e;simp only[pu,ak7];rw[ho,acf _ (a02 _)]
theorem auy:bw Tryz.prog 149 pu:=ctb (ae azv az) bg 149 Tryz.f149 pu aub [] (fun x K=>ad8 x.1 K) (fun x h1 h2=>aw8 x.1 h1 h2)
def bqc(n:Int):List Int:=bh n.toNat fun i=>i
structure PrsP (n:Int) (l:List (List Int)):Prop where
 len:l.length<=1099511627776
 e:∀k:Int,0<=k->k<l.length->2<=(l.getD k.toNat []).length/\(0<=(l.getD k.toNat []).getD 0 0/\(l.getD k.toNat []).getD 0 0<n)/\(0<=(l.getD k.toNat []).getD 1 0/\(l.getD k.toNat []).getD 1 0<n)
def bdj(l:List Int)(a b:Int):List Int:=bh l.length fun z=>if l.getD z.toNat 0=b then a else l.getD z.toNat 0
def bbx(l p:List Int):List Int:=bdj l (l.getD (p.getD 0 0).toNat 0) (l.getD (p.getD 1 0).toNat 0)
def aer(n:Int)(pairs:List (List Int)):List Int:=pairs.foldl bbx (bqc n)
theorem brr{l:List Int}:(bh l.length fun z=>l.getD z.toNat 0)=l:=by
 apply a2o;intro k;by_cases hk:k<l.length
 ·have h1:=@d6 Int (fun z=>l.getD z.toNat 0) 0 k l.length (by omega) (by omega);rw[a0y,a0l,a0p (by rw[bj];exact hk)]at h1;rw[a0p (by rw[bj];exact hk),a0p hk];simp only[a1n]at h1;rw[h1,a0l,a0p hk];rfl
 ·rw[a12 (by rw[bj];omega),a12 (by omega)]
theorem ccy{l:List Int}{a:Int}:bdj l a a=l:=by
 unfold bdj
 conv=>rhs;rw[←@brr l]
 refine fw fun z _ _=>?_;split
 ·rename_i h;exact h.symm
 ·rfl
theorem bzn{l:List Int}{a b:Int}:(bdj l a b).length=l.length:=by unfold bdj;rw[bj]
theorem avv{n:Int}:∀(p:List (List Int)) (l:List Int),l.length=n.toNat->(p.foldl bbx l).length=n.toNat
 |[],l,h=>h
 |e::r,l,h=>by rw[a10];exact avv r _ (by unfold bbx;rw[bzn];exact h)
theorem cdv{n:Int}{p:List (List Int)}{i:Int}(i0:0<=i)(i1:i<p.length):aer n (p.take (i+1).toNat)=bbx (aer n (p.take i.toNat)) (p.getD i.toNat []):=by unfold aer;rw[mm p [] i0 i1,a11];rfl
def qp:Ct:=⟨[bc,wm],[false,false],fun x=>[0<=x.1,x.1<=1099511627776,PrsP x.1 x.2.1],[(false,dq)],fun x=>(ak7 (aer x.1 x.2.1),()),false,none⟩
def bbq:Ann:=(.s .n (.s .n (.s (.s .n (.l bij ak5 [0,1] .n)) (.s (.s .n (.l [(5,(.ref 800005 [])),(7,(.d bc))] ak5 [1] (.s .n (.s (.s .n (.s .n (.l [(5,(.ref 800005 [])),(10,(.d bc))] ak5 [1,7,8,9] (.s .n (.s (.s .n (.j [(5,(.ref 800005 []))] ak5 [1,7,8,9,10] .n)) .n))))) .n)))) .n))))
def ah9(n:Int)(pairs:List (List Int))(K:(List Int)×Unit->Prop):Prop:=let q:=pairs.length;bn (S:=(ce4×cez)) (fun a b=>let p:=a.1.2.1;Iq p<|Ol a.2.1<|cnd (decide (p<n)) (c9 a.2.1.length [p].length 8/\(Ik (p+1)<|b (((),p+1,()),a.2.1++[p],()))) (bn (S:=(ce4×cez)) (fun c d=>let r:=c.2.1.length;let o:=c.1.2.1;let i:=pairs.getD o.toNat [];let l:=i.getD (Int.toNat 1) 0;let v:=c.2.1.getD l.toNat 0;let j:=i.getD (Int.toNat 0) 0;let u:=c.2.1.getD j.toNat 0;Iq o<|Ol c.2.1<|cnd (decide (o<(q:Int))) (Ix o q<|Ix 0 i.length<|Ix j r<|Ix o q<|Ix 1 i.length<|Ix l r<|bn (S:=(ce4×cez)) (fun e f=>let t:=e.2.1.length;let m:=e.1.2.1;Iq m<|Ol e.2.1<|cnd (decide (m<(t:Int))&&u != v) (Ix m t<|dk (S:=cfo) (fun g=>Ol g.2.1<|Ik (m+1)<|f (((),m+1,()),g.2.1,())) (fun h=>cnd (e.2.1.getD m.toNat 0==v) (Ix m t<|h (((),()),List.set e.2.1 m.toNat u,())) (h (((),()),e.2.1,())))) (Ik (o+1)<|d (((),o+1,()),e.2.1,()))) (((),0,()),c.2.1,())) (r<=1099511627776/\K (ak7 c.2.1,()))) (((),0,()),a.2.1,()))) (((),0,()),[],())
theorem bec(n:Int)(pairs:List (List Int))(hok:ab (okL qp.args (n,pairs,())))(hpre:ab (qp.pre (n,pairs,()))):ah9 n pairs (fun r=>r=qp.res (n,pairs,())):=by
 simp only[qp,okL,T.oks,T.ok,ap,ab,a0f,a0c,a0g]at hok hpre
 try dsimp only[T.den]at hok hpre
 delta ah9 Ik Iq Ix Ol
 dsimp -proj -eta only;obtain⟨n0,n1,hp⟩:=hpre;have hpn:=hp.len;have hpe:=hp.e;clear hok;refine uz (fun i=>bh i.toNat fun k=>k) (n:=n) n0 rfl ?_ ?_
 ·intro i next i0 i1 hn _ _
  try dsimp only at hn⊢
  rw[kq i0]at hn;exact bd (fun _=>⟨ck (by rw[bj];simp only[a0h,a0i];omega),by rw[au];(try dsimp only);omega,hn⟩) (fun h=>absurd i1 h)
 ·intro next _ _
  refine bd (fun h=>absurd h (a1b _)) (fun _=>?_);refine uz (fun i=>aer n (pairs.take i.toNat)) (n:=pairs.length) (by omega) rfl ?_ ?_
  ·intro i next i0 i1 hn _ _
   try dsimp only at hn⊢
   obtain⟨e0,⟨e1,e2⟩,e3,e4⟩:=hpe i i0 i1;have hl:(aer n (pairs.take i.toNat)).length=n.toNat:=avv _ _ (by unfold bqc;rw[bj]);rw[cdv i0 i1]at hn;unfold bbx at hn;generalize aer n (pairs.take i.toNat)=l at *;have hz:(0:Int).toNat=0:=rfl;have hz1:(1:Int).toNat=1:=rfl;simp only[hz,hz1];refine bd (fun _=>⟨i0,i1,by decide,by omega,e1,by omega,i0,i1,by decide,by omega,e3,by omega,?_⟩) (fun h=>absurd i1 h);generalize l.getD ((pairs.getD i.toNat []).getD 0 0).toNat 0=a at *;generalize l.getD ((pairs.getD i.toNat []).getD 1 0).toNat 0=b at *;by_cases hab:a=b
   ·subst hab;rw[ccy]at hn;refine bq (fun (s:(ce4×cez))=>s.2.1=l) (fun _=>0) ?_ rfl;rintro⟨⟨_,j,_⟩,l2,_⟩ next2 hl2 _ _ _
    try dsimp only at hl2⊢
    subst hl2;refine ba (fun h=>?_) (fun _=>⟨by rw[au];(try dsimp only);omega,hn⟩);simp at h
   ·refine uz (fun j=>bh l.length fun z=>if z<j then (if l.getD z.toNat 0=b then a else l.getD z.toNat 0)else l.getD z.toNat 0) (n:=l.length) (by omega) ?_ ?_ ?_
    ·conv=>lhs;rw[←@brr l]
     exact fw fun z z0 _=>(ds (by omega)).symm
    ·intro j next2 j0 j1 hn2 _ _
     try dsimp only at hn2⊢
     have hg:(bh l.length fun z=>if z<j then (if l.getD z.toNat 0=b then a else l.getD z.toNat 0)else l.getD z.toNat 0).getD j.toNat 0=l.getD j.toNat 0:=by rw[d6 j0 j1,ds (by omega)]
     refine ba (fun _=>⟨j0,by rw[bj];exact j1,?_⟩) (fun h=>?_)
     ·refine bwc (bh l.length fun z=>if z<j+1 then (if l.getD z.toNat 0=b then a else l.getD z.toNat 0)else l.getD z.toNat 0) (fun s hs _=>⟨by rw[au];(try dsimp only);omega,by rw[hs];exact hn2⟩) (fun k hk=>?_);rw[hg];refine ba (fun hx=>⟨j0,by rw[bj];exact j1,hk _ ?_⟩) (fun hx=>hk _ ?_)
      ·rw[alr j0 j1];refine fw fun z z0 z1=>?_;by_cases h:z=j
       ·subst h;rw[a0a rfl,a0a (show z<z+1 by omega),a0a (by simpa using hx)]
       ·rw[ds h];by_cases h2:z<j
        ·rw[a0a h2,a0a (show z<j+1 by omega)]
        ·rw[ds h2,ds (show ¬z<j+1 by omega)]
      ·refine fw fun z z0 z1=>?_;by_cases h:z=j
       ·subst h;rw[ds (show ¬z<z by omega),a0a (show z<z+1 by omega),ds (by simpa using hx)]
       ·by_cases h2:z<j
        ·rw[a0a h2,a0a (show z<j+1 by omega)]
        ·rw[ds h2,ds (show ¬z<j+1 by omega)]
     ·rw[bj]at h;simp[hab,j1]at h
    ·intro next2 _ _
     try dsimp only
     refine ba (fun h=>?_) (fun _=>⟨by rw[au];(try dsimp only);omega,?_⟩)
     ·rw[bj]at h;simp at h
     ·have:bdj l a b=bh l.length fun z=>if z<(l.length:Int)then (if l.getD z.toNat 0=b then a else l.getD z.toNat 0)else l.getD z.toNat 0:=fw fun z _ z1=>by rw[a0a z1]
      rw[this]at hn;exact hn
  ·intro next _ _
   refine bd (fun h=>absurd h (a1b _)) (fun _=>?_);rw[acf _ (a02 _)];have hl:(aer n pairs).length=n.toNat:=avv _ _ (by unfold bqc;rw[bj]);refine⟨by rw[hl];omega,?_⟩;simp only[qp]
theorem bck:bw Tryz.prog 138 qp:=ctb (ae auy az) bg 138 Tryz.f138 qp bbq [(9,19)] (fun x K=>ah9 x.1 x.2.1 K) (fun x h1 h2=>bec x.1 x.2.1 h1 h2)
def mo:Ct:=⟨[bp,bc,bc],[true,false,false],fun x=>[x.1.2.1.length<=40,x.1.2.2.1.length=x.1.2.1.length],[(false,dq)],fun x=>(ip x.1 x.2.1 x.2.2.1,()),false,none⟩
def bd5:Ann:=(.s .n (.s .n (.s (.s .n (.l [(7,(.ref 800007 [])),(8,(.d bc))] [(800007,dq)] [1,2,3] (.s .n (.s (.s .n (.j bil [(800007,dq)] [1,2,3,8] .n)) .n)))) .n)))
def aki(c:aa)(x y:Int)(K:(List Int)×Unit->Prop):Prop:=bn (S:=(ce4×cez)) (fun a b=>let f:=a.1.2.1;let g:=c.2.1.getD f.toNat 0;Iq f<|Ol a.2.1<|cnd (decide (f<(c.2.1.length:Int))) (Ix f c.2.1.length<|((g==x)=true->f<(c.2.2.1.length:Int)/\0<=f)/\dk (S:=cfo) (fun d=>Ol d.2.1<|Ik (f+1)<|b (((),f+1,()),d.2.1,())) (fun e=>cnd (g==x&&c.2.2.1.getD f.toNat 0==y) (c9 a.2.1.length [f].length 8/\e (((),()),a.2.1++[f],())) (e (((),()),a.2.1,())))) (K (a.2.1,()))) (((),0,()),[],())
theorem bg9(c:aa)(x y:Int)(hok:ab (okL mo.args (c,x,y,())))(hpre:ab (mo.pre (c,x,y,()))):aki c x y (fun r=>r=mo.res (c,x,y,())):=by
 simp only[mo,okL,T.oks,T.ok,ap,ab,a0f,a0c,a0g]at hok hpre
 try dsimp only[T.den]at hok hpre
 delta aki Ik Iq Ix Ol
 dsimp -proj -eta only;have hm:c.2.1.length<=40:=hpre.1;have hlt:c.2.2.1.length=c.2.1.length:=hpre.2;refine bq (fun (s:(ce4×cez))=>0<=s.1.2.1/\s.1.2.1<=c.2.1.length/\s.2.1=mc s.1.2.1.toNat fun f=>c.2.1.getD f.toNat 0==x&&c.2.2.1.getD f.toNat 0==y) (fun (s:(ce4×cez))=>(c.2.1.length-s.1.2.1).toNat) ?_ ⟨by simp,by simp,rfl⟩;rintro⟨⟨_,i,_⟩,l,_⟩ next ⟨h0,h1,h2⟩ hn hin hl
 try dsimp only at h0 h1 h2 hn⊢
 subst h2;refine bd (fun hc=>⟨h0,hc,fun _=>by omega,cz (fun s1=>s1.2.1=mc (i+1).toNat fun f=>c.2.1.getD f.toNat 0==x&&c.2.2.1.getD f.toNat 0==y) (fun s1 hs _=>⟨by rw[au];(try dsimp only);omega,hn _ ⟨(by first|omega|(dsimp only;omega)),(by first|omega|(dsimp only;omega)),hs⟩ (by first|omega|(dsimp only;omega))⟩) (fun k hk=>ba (fun hx=>⟨?_,hk _ ?_⟩) (fun hx=>hk _ ?_))⟩) (fun hc=>?_)
 ·have:=abg (p:=fun f=>c.2.1.getD f.toNat 0==x&&c.2.2.1.getD f.toNat 0==y) i.toNat;unfold c9;rw[eh];have h3:(i::([]:List Int)).length=1:=rfl;rw[h3];omega
 ·exact (bid h0 hx).symm
 ·exact (bh2 h0 hx).symm
 ·have e1:i.toNat=c.2.1.length:=by omega
  simp only[mo,ip];rw[e1]
theorem y5:bw Tryz.prog 88 mo:=ctb az bg 88 Tryz.f88 mo bd5 [] (fun x K=>aki x.1 x.2.1 x.2.2.1 K) (fun x h1 h2=>bg9 x.1 x.2.1 x.2.2.1 h1 h2)
def apr(l:List Int)(n:Int):Bool:=l.any fun x=>x==n
def u7:Ct:=⟨[ed,bc],[false,false],fun x=>[],[(false,kf)],fun x=>(apr x.1 x.2.1,()),false,none⟩
def bdz:Ann:=(.s .n (.s (.s .n (.l ais [] [0,1] .n)) .n))
def aka(list:List Int)(n:Int)(K:Bool×Unit->Prop):Prop:=bn (S:=ce7) (fun a b=>Iq a.1.1<|cnd (decide (a.1.1<(list.length:Int))) (Ix a.1.1 list.length<|cnd (list.getD a.1.1.toNat 0==n) (K (true,())) (Ik (a.1.1+1)<|b ((a.1.1+1,()),()))) (K (false,()))) ((0,()),())
theorem bgw(list:List Int)(n:Int):Mh u7 (list,n,()) (aka list n):=by
 intro hok hpre;simp only[u7,okL,T.oks,T.ok,ap,ab,a0f,a0c,a0g]at hok hpre
 try dsimp only[T.den]at hok hpre
 delta aka Ik Iq Ix
 refine bq (fun (s:ce7)=>0<=s.1.1/\s.1.1<=list.length/\apr list n=apr (list.drop s.1.1.toNat) n) (fun (s:ce7)=>(list.length-s.1.1).toNat) ?_ (by simp);rintro⟨⟨i,_⟩,_⟩ next ⟨h0,h1,h2⟩ hn hin
 simp only at h0 h1 h2 hn⊢;refine bd (fun hc=>?_) (fun hc=>?_)
 ·rw[aj2 list 0 h0 hc]at h2;simp only[apr,List.any_cons]at h2
  grind[cnd,eh,au,u7,apr]
 ·rw[al9 list (by omega)]at h2
  grind[cnd,eh,au,u7,apr]
theorem bd9:bw Tryz.prog 159 u7:=ctb az bg 159 Tryz.f159 u7 bdz [] (fun x K=>aka x.1 x.2.1 K) (fun x h1 h2=>bgw x.1 x.2.1 h1 h2)
def idR(c:aa)(f:Int):Bool:=c.2.2.2.1.getD (c.2.1.getD f.toNat 0).toNat 0==f
def mq:Ct:=⟨[aeo,bc],[false,false],fun x=>[ShapeP x.1,0<=x.2.1,x.2.1<x.1.2.1.length],[(false,kf)],fun x=>(idR x.1 x.2.1,()),false,none⟩
def u9(c:aa)(f:Int)(K:Bool×Unit->Prop):Prop:=let a:=c.2.1.getD f.toNat 0;Ix f c.2.1.length<|Ix a c.2.2.2.1.length<|K (c.2.2.2.1.getD a.toNat 0==f,())
theorem aj8(c:aa)(f:Int):Mh mq (c,f,()) (u9 c f):=by
 intro hok hpre;simp only[mq,okL,T.oks,T.ok,ap,ab,a0f,a0c,a0g]at hok hpre
 try dsimp only[T.den]at hok hpre
 delta u9 Ix
 dsimp -proj -eta only;have S:ShapeP c:=hpre.1;have a:=S.frm hpre.2.1 hpre.2.2;have:=S.li;exact⟨hpre.2.1,hpre.2.2,a.1,by omega,rfl⟩
theorem aji:bw Tryz.prog 42 mq:=ctb az bg 42 Tryz.f42 mq .n [(1,16)] (fun x K=>u9 x.1 x.2.1 K) (fun x h1 h2=>aj8 x.1 x.2.1 h1 h2)
def azg(c:aa)(f g:Int):Bool:=bi c f g==c.2.2.2.1.getD (c.2.1.getD f.toNat 0).toNat 0&&bi c g f==c.2.2.2.1.getD (c.2.2.1.getD f.toNat 0).toNat 0
def apg(c:aa)(f:Int):List Int->Int
 |[]=>-1
 |g::r=>if azg c f g=true then g else apg c f r
def bl2(c:aa)(f:Int):Int:=apg c f (ip c (c.2.2.1.getD f.toNat 0) (c.2.1.getD f.toNat 0))
def at7(c:aa)(f g:Int):Bool:=c.2.1.getD g.toNat 0==c.2.2.1.getD f.toNat 0&&c.2.2.1.getD g.toNat 0==c.2.1.getD f.toNat 0&&bi c f g==c.2.2.2.1.getD (c.2.1.getD f.toNat 0).toNat 0
def asd(c:aa)(f:Int):List Int:=mc c.2.1.length (at7 c f)
def ku:Ct:=⟨[bp,bc],[true,false],fun x=>[ShapeP x.1,0<=x.2.1,x.2.1<x.1.2.1.length],[(false,dq)],fun x=>(asd x.1 x.2.1,()),false,none⟩
def apc:Ann:=(.s .n (.s .n (.s (.s .n (.l bij ak5 [1,2] (.s .n (.s (.s .n (.j [(5,(.ref 800005 []))] ak5 [1,2,6] .n)) .n)))) .n)))
def yz(c:aa)(f:Int)(K:(List Int)×Unit->Prop):Prop:=let n:=c.2.2.2.2.getD f.toNat [];let m:=c.2.1.length;let i:=c.2.2.1.getD f.toNat 0;let h:=c.2.1.getD f.toNat 0;bn (S:=(ce4×cez)) (fun a b=>let l:=a.1.2.1;let j:=c.2.2.1.getD l.toNat 0;let g:=c.2.1.getD l.toNat 0;Iq l<|Ol a.2.1<|cnd (decide (l<(m:Int))) (Ix l m<|Ix f c.2.2.1.length<|((g==i)=true->l<(c.2.2.1.length:Int)/\0<=l)/\((g==i)=true->f<(m:Int)/\0<=f)/\((g==i&&j==h)=true->f<(c.2.2.2.2.length:Int)/\0<=f)/\((g==i&&j==h)=true->l<(n.length:Int)/\0<=l)/\((g==i&&j==h)=true->f<(m:Int)/\0<=f)/\((g==i&&j==h)=true->h<(c.2.2.2.1.length:Int)/\0<=h)/\dk (S:=cfo) (fun d=>Ol d.2.1<|Ik (l+1)<|b (((),l+1,()),d.2.1,())) (fun e=>cnd (g==i&&j==h&&n.getD l.toNat 0==c.2.2.2.1.getD h.toNat 0) (c9 a.2.1.length [l].length 8/\e (((),()),a.2.1++[l],())) (e (((),()),a.2.1,())))) (K (a.2.1,()))) (((),0,()),[],())
theorem ap1(c:aa)(f:Int)(hok:ab (okL ku.args (c,f,())))(hpre:ab (ku.pre (c,f,()))):yz c f (fun r=>r=ku.res (c,f,())):=by
 simp only[ku,okL,T.oks,T.ok,ap,ab,a0f,a0c,a0g]at hok hpre
 try dsimp only[T.den]at hok hpre
 delta yz Ik Iq Ix Ol
 dsimp -proj -eta only;obtain⟨S,f0,f1⟩:=hpre;have hlt:=S.lt;have hli:=S.li;have hlc:=S.lc;have hm:=S.m;have hf:=S.frm f0 f1;have rf:=S.row f f0 f1;refine bj6 c.2.1.length (at7 c f) ?_ ?_
 ·intro i out next i0 i1 hn hl hin hok
  have ri:=S.row i i0 i1
  try dsimp only
  refine bd (fun _=>?_) (fun h=>absurd i1 h)
  repeat' (with_reducible apply And.intro)
  all_goals first|omega|(intro _;first|omega|(repeat' (with_reducible apply And.intro))<;>omega)|skip
  refine cz (fun s1=>s1.2.1=if at7 c f i=true then out++[i]else out) (fun s1 hs _=>⟨by rw[au];(try dsimp only);omega,hn _ hs⟩) (fun k hk=>ba (fun hx=>⟨?_,hk _ ?_⟩) (fun hx=>hk _ ?_))
  ·unfold c9;rw[eh];have h3:(i::([]:List Int)).length=1:=rfl;rw[h3];omega
  ·rw[a0a (show at7 c f i=true from hx)]
  ·rw[ds (show ¬at7 c f i=true from by unfold at7 bi;rw[hx];simp)]
 ·intro next hin hok
  refine bd (fun h=>absurd h (a1b _)) (fun _=>?_);simp only[ku,asd]
theorem ao9:bw Tryz.prog 157 ku:=ctb az bg 157 Tryz.f157 ku apc [(5,42)] (fun x K=>yz x.1 x.2.1 K) (fun x h1 h2=>ap1 x.1 x.2.1 h1 h2)
def au1(c:aa)(f g:Int):Bool:=c.2.1.getD g.toNat 0==c.2.2.1.getD f.toNat 0&&c.2.2.1.getD g.toNat 0==c.2.1.getD f.toNat 0&&bi c g f==c.2.2.2.1.getD (c.2.2.1.getD f.toNat 0).toNat 0
def ayv(c:aa)(f:Int):List Int:=mc c.2.1.length (au1 c f)
def md:Ct:=⟨[bp,bc],[true,false],fun x=>[ShapeP x.1,0<=x.2.1,x.2.1<x.1.2.1.length],[(false,dq)],fun x=>(ayv x.1 x.2.1,()),false,none⟩
def ata:Ann:=(.s .n (.s .n (.s (.s .n (.l bij ak5 [1,2] (.s .n (.s (.s .n (.j [(5,(.ref 800005 []))] ak5 [1,2,6] .n)) .n)))) .n)))
def acp(c:aa)(f:Int)(K:(List Int)×Unit->Prop):Prop:=let o:=c.2.1.length;let n:=c.2.2.1.length;let j:=c.2.1.getD f.toNat 0;let g:=c.2.2.1.getD f.toNat 0;bn (S:=(ce4×cez)) (fun a b=>let l:=a.1.2.1;let m:=c.2.2.2.2.getD l.toNat [];let i:=c.2.2.1.getD l.toNat 0;let h:=c.2.1.getD l.toNat 0;Iq l<|Ol a.2.1<|cnd (decide (l<(o:Int))) (Ix l o<|Ix f n<|((h==g)=true->l<(n:Int)/\0<=l)/\((h==g)=true->f<(o:Int)/\0<=f)/\((h==g&&i==j)=true->l<(c.2.2.2.2.length:Int)/\0<=l)/\((h==g&&i==j)=true->f<(m.length:Int)/\0<=f)/\((h==g&&i==j)=true->f<(n:Int)/\0<=f)/\((h==g&&i==j)=true->g<(c.2.2.2.1.length:Int)/\0<=g)/\dk (S:=cfo) (fun d=>Ol d.2.1<|Ik (l+1)<|b (((),l+1,()),d.2.1,())) (fun e=>cnd (h==g&&i==j&&m.getD f.toNat 0==c.2.2.2.1.getD g.toNat 0) (c9 a.2.1.length [l].length 8/\e (((),()),a.2.1++[l],())) (e (((),()),a.2.1,())))) (K (a.2.1,()))) (((),0,()),[],())
theorem auv(c:aa)(f:Int)(hok:ab (okL md.args (c,f,())))(hpre:ab (md.pre (c,f,()))):acp c f (fun r=>r=md.res (c,f,())):=by
 simp only[md,okL,T.oks,T.ok,ap,ab,a0f,a0c,a0g]at hok hpre
 try dsimp only[T.den]at hok hpre
 delta acp Ik Iq Ix Ol
 dsimp -proj -eta only;obtain⟨S,f0,f1⟩:=hpre;have hlt:=S.lt;have hli:=S.li;have hlc:=S.lc;have hm:=S.m;have hf:=S.frm f0 f1;have rf:=S.row f f0 f1;refine bj6 c.2.1.length (au1 c f) ?_ ?_
 ·intro i out next i0 i1 hn hl hin hok
  have ri:=S.row i i0 i1
  try dsimp only
  refine bd (fun _=>?_) (fun h=>absurd i1 h)
  repeat' (with_reducible apply And.intro)
  all_goals first|omega|(intro _;first|omega|(repeat' (with_reducible apply And.intro))<;>omega)|skip
  refine cz (fun s1=>s1.2.1=if au1 c f i=true then out++[i]else out) (fun s1 hs _=>⟨by rw[au];(try dsimp only);omega,hn _ hs⟩) (fun k hk=>ba (fun hx=>⟨?_,hk _ ?_⟩) (fun hx=>hk _ ?_))
  ·unfold c9;rw[eh];have h3:(i::([]:List Int)).length=1:=rfl;rw[h3];omega
  ·rw[a0a (show au1 c f i=true from hx)]
  ·rw[ds (show ¬au1 c f i=true from by unfold au1 bi;rw[hx];simp)]
 ·intro next hin hok
  refine bd (fun h=>absurd h (a1b _)) (fun _=>?_);simp only[md,ayv]
theorem atc:bw Tryz.prog 158 md:=ctb az bg 158 Tryz.f158 md ata [(5,42)] (fun x K=>acp x.1 x.2.1 K) (fun x h1 h2=>auv x.1 x.2.1 h1 h2)
theorem bl7{c:aa}{f:Int}{p:Int->Bool}:∀l:List Int,(∀g∈l,azg c f g=true->p g=true)->apg c f l=apg c f (l.filter p)
 |[],_=>rfl
 |g::r,h=>by
  have ih:=bl7 r fun g hg=>h g (a1k _ hg)
  cases hp:p g with
  |true=>rw[a2r,a0a hp];unfold apg;rw[ih]
  |false=>
   rw[a2r,ds (by rw[hp];simp)]
   have hg:azg c f g=false:=by
    cases hg:azg c f g with
    |false=>rfl
    |true=>rw[h g (a1t ..) hg]at hp;cases hp
   conv=>lhs;unfold apg
   rw[ds (by rw[hg];simp),ih]
theorem bz9(c:aa)(f:Int):asd c f=(ip c (c.2.2.1.getD f.toNat 0) (c.2.1.getD f.toNat 0)).filter fun g=>bi c f g==c.2.2.2.1.getD (c.2.1.getD f.toNat 0).toNat 0:=by unfold ip;rw[bou];rfl
theorem ca0(c:aa)(f:Int):bl2 c f=apg c f (asd c f):=by unfold bl2;rw[bz9];refine bl7 _ fun g _ h=>?_;unfold azg at h;rw[a0b]at h;exact h.1
theorem bzy{c:aa}{f g:Int}(h:g∈asd c f):apr (ayv c f) g=azg c f g:=by
 have h':0<=g/\g<c.2.1.length/\at7 c f g=true:=alt.1 h;have hq:=h'.2.2;unfold at7 at hq;rw[a0b,a0b]at hq;rw[a3j];have e:apr (ayv c f) g=true<->g∈ayv c f:=by unfold apr;simp
 have e2:g∈ayv c f<->0<=g/\g<c.2.1.length/\au1 c f g=true:=alt;rw[e,e2];unfold au1 azg;rw[hq.1.1,hq.1.2,hq.2];simp only[a1v,a0o];exact⟨fun h=>h.2.2,fun h=>⟨h'.1,h'.2.1,h⟩⟩
def ni:Ct:=⟨[bp,bc],[true,false],fun x=>[ShapeP x.1,0<=x.2.1,x.2.1<x.1.2.1.length],[(false,kg)],fun x=>(bl2 x.1 x.2.1,()),false,none⟩
def aup:Ann:=(.s .n (.s .n (.s (.s .n (.l arw [] [5,6] .n)) .n)))
def brn:FuncId->Option Ct:=lkp [(159,u7),(157,ku),(158,md)]
def ad1(c:aa)(f:Int)(K:Int×Unit->Prop):Prop:=let d:=(asd c f).length;ShapeP c/\(Ix f c.2.1.length<|ShapeP c/\(Ix f c.2.1.length<|bn (S:=ce7) (fun a b=>let e:=(asd c f).getD a.1.1.toNat 0;Iq a.1.1<|cnd (decide (a.1.1<(d:Int))) (Ix a.1.1 d<|cnd (apr (ayv c f) e) (Ix a.1.1 d<|K (e,())) (Ik (a.1.1+1)<|b ((a.1.1+1,()),()))) (K (-1,()))) ((0,()),())))
theorem aw9(c:aa)(f:Int)(hok:ab (okL ni.args (c,f,())))(hpre:ab (ni.pre (c,f,()))):ad1 c f (fun r=>r=ni.res (c,f,())):=by
 simp only[ni,okL,T.oks,T.ok,ap,ab,a0f,a0c,a0g]at hok hpre
 try dsimp only[T.den]at hok hpre
 delta ad1 Ik Iq Ix
 dsimp -proj -eta only;obtain⟨S,f0,f1⟩:=hpre;have hl:(asd c f).length<=40:=a0z (abg _) S.m;have hv:=ca0 c f;have hh:=fun g=>@bzy c f g;refine⟨S,f0,f1,S,f0,f1,?_⟩;simp only[ni,hv];generalize asd c f=l at *;refine jc (n:=l.length) (fun i=>apg c f l=apg c f (l.drop i.toNat)) (by omega) (by simp) ?_ ?_
 ·intro i next i0 i1 hP hn hin
  try dsimp only
  have hg:=hh _ (cp l 0 i0 i1);rw[aj2 l 0 i0 i1]at hP;simp only[apg]at hP;refine bd (fun _=>⟨i0,i1,ba (fun hx=>⟨i0,i1,?_⟩) (fun hx=>⟨by rw[au];(try dsimp only);omega,hn ?_⟩)⟩) (fun h=>absurd i1 h)
  ·rw[hP,a0a (by rw[←hg];exact hx)]
  ·rw[hP,ds (by rw[←hg,hx];simp)]
 ·intro next hP hin
  refine bd (fun h=>absurd h (by dsimp only;omega)) (fun _=>?_);rw[hP,al9 l (by omega)];rfl
theorem avj:bw Tryz.prog 154 ni:=ctb (ae bd9 (ae ao9 (ae atc az))) bg 154 Tryz.f154 ni aup [(1,505)] (fun x K=>ad1 x.1 x.2.1 K) (fun x h1 h2=>aw9 x.1 x.2.1 h1 h2)
def azp(f g:am)(l:List Int)(a:Int):Bool:=bi f.2.1 (f.2.2.2.getD a.toNat 0) (l.getD (f.1.2.2.1.getD a.toNat 0).toNat 0)==bi f.2.1 (l.getD (f.1.2.1.getD a.toNat 0).toNat 0) (g.2.2.2.getD a.toNat 0)
structure ParP (f g:am):Prop where
 F:FunP f
 G:FunP g
 s:g.1=f.1
 t:g.2.1=f.2.1
structure SqrP (f g:am) (l:List Int) (a:Int):Prop where
 p:ParP f g
 n:(l.length:Int)=f.1.1
 a0:0<=a
 a1:a<f.2.2.2.length
 x:0<=l.getD (f.1.2.1.getD a.toNat 0).toNat 0/\l.getD (f.1.2.1.getD a.toNat 0).toNat 0<f.2.1.2.1.length
 y:0<=l.getD (f.1.2.2.1.getD a.toNat 0).toNat 0/\l.getD (f.1.2.2.1.getD a.toNat 0).toNat 0<f.2.1.2.1.length
def om:Ct:=⟨[jq,jq,ed,bc],[true,true,false,false],fun x=>[SqrP x.1 x.2.1 x.2.2.1 x.2.2.2.1],[(false,kf)],fun x=>(azp x.1 x.2.1 x.2.2.1 x.2.2.2.1,()),false,none⟩
def ae7(f g:am)(components:List Int)(a:Int)(K:Bool×Unit->Prop):Prop:=let e:=a.toNat;let d:=components.getD (f.1.2.2.1.getD e 0).toNat 0;let c:=f.2.1.2.2.2.2.getD (f.2.2.2.getD e 0).toNat [];let b:=components.getD (f.1.2.1.getD e 0).toNat 0;let h:=f.2.1.2.2.2.2.getD b.toNat [];Ix a f.2.2.2.length<|Ix (f.2.2.2.getD e 0) f.2.1.2.2.2.2.length<|Ix a f.1.2.2.1.length<|Ix (f.1.2.2.1.getD e 0) components.length<|Ix d c.length<|Ix a f.1.2.1.length<|Ix (f.1.2.1.getD e 0) components.length<|Ix b f.2.1.2.2.2.2.length<|Ix a g.2.2.2.length<|Ix (g.2.2.2.getD e 0) h.length<|K (c.getD d.toNat 0==h.getD (g.2.2.2.getD e 0).toNat 0,())
theorem azd(f g:am)(components:List Int)(a:Int)(hok:ab (okL om.args (f,g,components,a,())))(hpre:ab (om.pre (f,g,components,a,()))):ae7 f g components a (fun r=>r=om.res (f,g,components,a,())):=by
 simp only[om,okL,T.oks,T.ok,ap,ab,a0f,a0c,a0g]at hok hpre
 try dsimp only[T.den]at hok hpre
 delta ae7 Ix
 dsimp -proj -eta only;obtain⟨⟨hF,hG,hs,ht⟩,hl,a0,a1,hx,hy⟩:=hpre;have hm:=hF.tgt.m;have lc:=hF.tgt.lc;have lt:=hF.src.lt;have la:=hF.fit.la;have ga:=hG.fit.la;rw[hs]at ga;have e:=hF.src.frm a0 (by omega);have f1:=ep.1 hF.fit.aw a a0 a1;have g1:=ep.1 hG.fit.aw a a0 (by omega);rw[ht]at g1;have r1:=hF.tgt.row _ f1.1 f1.2;have r2:=hF.tgt.row _ hx.1 hx.2
 repeat' (with_reducible apply And.intro)
 all_goals first|omega|skip
 simp only[om,azp,bi]
theorem aww:bw Tryz.prog 155 om:=ctb az bg 155 Tryz.f155 om .n [(1,55006),(2,38)] (fun x K=>ae7 x.1 x.2.1 x.2.2.1 x.2.2.2.1 K) (fun x h1 h2=>azd x.1 x.2.1 x.2.2.1 x.2.2.2.1 h1 h2)
theorem avl{c:aa}{x y i:Int}(h0:0<=i)(h1:i<(ip c x y).length):0<=(ip c x y).getD i.toNat 0/\(ip c x y).getD i.toNat 0<c.2.1.length/\c.2.1.getD ((ip c x y).getD i.toNat 0).toNat 0=x/\c.2.2.1.getD ((ip c x y).getD i.toNat 0).toNat 0=y:=ti.1 (cp _ 0 h0 h1)
theorem avq{c:aa}(S:ShapeP c)(x y:Int):(ip c x y).length<=40:=a0z (abg _) S.m
structure CmpP (d:am) (p q:bo):Prop where
 S:ShapeP d.2.1
 l:p.2.length=q.2.length
 n:q.2.length<=1000000
 q:∀f∈q.2,0<=f/\f<d.2.1.2.1.length
def kt(d:am)(p q:bo):List Int:=(ip d.2.1 p.1 q.1).filter fun u=>jv q.2.length fun j=>bi d.2.1 u (q.2.getD j.toNat 0)==p.2.getD j.toNat 0
def ah5(d:am)(p q:bo)(u j:Int):Bool:=bi d.2.1 u (q.2.getD j.toNat 0)==p.2.getD j.toNat 0
theorem bnh{d:am}{p q:bo}:kt d p q=(ip d.2.1 p.1 q.1).filter fun u=>jv q.2.length (ah5 d p q u):=rfl
theorem awc{n:Nat}{p:Int->Bool}{i:Int}(h0:0<=i)(h1:i<n)(h:p i=false):jv n p=false:=by
 cases hb:jv n p with
 |false=>rfl
 |true=>rw[ov.1 hb i h0 h1]at h;cases h
def pw:Ct:=⟨[aao,yg,yg],[false,true,true],fun x=>[CmpP x.1 x.2.1 x.2.2.1],[(false,dq)],fun x=>(kt x.1 x.2.1 x.2.2.1,()),false,none⟩
def ayr:Ann:=(.s .n (.s .n (.s .n (.s .n (.s (.s .n (.l [(8,(.ref 800008 [])),(24,(.d bc))] awd [4,5,7,22,23] (.s .n (.s .n (.s (.j [(8,(.ref 800008 []))] awd [4,5,7,22,23,24] (.s .n (.s (.s .n (.l [(8,(.ref 800008 [])),(31,(.d bc))] awd [4,5,7,10,22,23,24,29,30] .n)) .n))) .n))))) .n)))))
def bvg:FuncId->Option Ct:=lkp [(84,jo),(46,je)]
def agb(d:am)(p q:bo)(K:(List Int)×Unit->Prop):Prop:=let j:=ip d.2.1 p.1 q.1;d.2.1.2.1.length<=40/\d.2.1.2.2.1.length=d.2.1.2.1.length/\bn (S:=(ce4×cez)) (fun a b=>let l:=a.1.2.1;let h:=j.getD l.toNat 0;Iq l<|Ol a.2.1<|cnd (decide (l<(j.length:Int))) (dk (S:=cfo) (fun c=>Ol c.2.1<|Ik (l+1)<|b (((),l+1,()),c.2.1,())) (fun e=>Ix l j.length<|bn (S:=(ce4×cez)) (fun f g=>let i:=f.1.2.1;Iq i<|Ol f.2.1<|cnd (decide (i<(q.2.length:Int))) (Ix i q.2.length<|Ix h d.2.1.2.2.2.2.length<|Ix (q.2.getD i.toNat 0) (d.2.1.2.2.2.2.getD h.toNat []).length<|Ix i p.2.length<|cnd (bi d.2.1 h (q.2.getD i.toNat 0) != p.2.getD i.toNat 0) (e (((),()),f.2.1,())) (Ik (i+1)<|g (((),i+1,()),f.2.1,()))) (c9 f.2.1.length [h].length 8/\e (((),()),f.2.1++[h],()))) (((),0,()),a.2.1,()))) (K (a.2.1,()))) (((),0,()),[],())
theorem az3(d:am)(p q:bo)(hok:ab (okL pw.args (d,p,q,())))(hpre:ab (pw.pre (d,p,q,()))):agb d p q (fun r=>r=pw.res (d,p,q,())):=by
 simp only[pw,okL,T.oks,T.ok,ap,ab,a0f,a0c,a0g]at hok hpre
 try dsimp only[T.den]at hok hpre
 delta agb Ik Iq Ix Ol
 dsimp -proj -eta only;obtain⟨S,hl,hn,hq⟩:=hpre;refine⟨S.m,S.lt,?_⟩;have hL:=avq S p.1 q.1;have hmem:=fun i:Int=>@avl d.2.1 p.1 q.1 i;have hval:=@bnh d p q;have hlc:=S.lc;have hm:=S.m;generalize ip d.2.1 p.1 q.1=l at *;refine uz (abo (fun u=>jv q.2.length (ah5 d p q u)) l) (n:=l.length) (by omega) rfl ?_ ?_
 ·intro i next h0 h1 hnx hin hok
  have hmi:=hmem i h0 h1;have hr:=S.row _ hmi.1 hmi.2.1;have hf:=@bc0 (fun u=>jv q.2.length (ah5 d p q u)) l i;refine bd (fun _=>?_) (fun h=>absurd h1 h)
  try dsimp only
  refine cz (fun s1=>s1.2.1=abo (fun u=>jv q.2.length (ah5 d p q u)) l (i+1)) (fun s1 hs _=>⟨by rw[au];(try dsimp only);omega,by rw[←hs]at hnx;exact hnx⟩) (fun k hk=>⟨h0,h1,?_⟩);refine bi8 (n:=q.2.length) (fun j=>jv j.toNat (ah5 d p q (l.getD i.toNat 0))=true) (by omega) rfl ?_ ?_
  ·intro j next1 j0 j1 hP hn1 hin1 hok1;have hqj:=hq _ (cp q.2 0 j0 j1)
   try dsimp only
   refine bd (fun _=>⟨j0,j1,hmi.1,by omega,hqj.1,by omega,j0,by omega,ba (fun hx=>hk _ (bh6 h0 h1 (awc j0 j1 ?_)).symm) (fun hx=>⟨by rw[au];(try dsimp only);omega,hn1 ?_⟩)⟩) (fun h=>absurd j1 h)
   ·unfold ah5;simpa using hx
   ·rw[atl j0,hP,a1v];unfold ah5;simpa using hx
  ·intro next1 hP hin1 hok1;refine bd (fun h=>absurd h (a1b _)) (fun _=>⟨?_,hk _ (bpg h0 h1 hP).symm⟩);unfold c9;rw[eh];have h3:((l.getD i.toNat 0)::([]:List Int)).length=1:=rfl;rw[h3]
   try dsimp only
   omega
 ·intro next hin hok
  refine bd (fun h=>absurd h (a1b _)) (fun _=>?_);simp only[pw];rw[bo2 (by omega),hval]
theorem al8:bw Tryz.prog 41 pw:=ctb (ae zx (ae qk az)) bg 41 Tryz.f41 pw ayr [(9,9)] (fun x K=>agb x.1 x.2.1 x.2.2.1 K) (fun x h1 h2=>az3 x.1 x.2.1 x.2.2.1 h1 h2)
def avi(f g:am)(n:List Int)(x a:Int):Bool:=(((f.1.2.1.getD a.toNat 0 != x&&f.1.2.2.1.getD a.toNat 0 != x)||decide (n.getD (f.1.2.1.getD a.toNat 0).toNat 0<0))||decide (n.getD (f.1.2.2.1.getD a.toNat 0).toNat 0<0))||azp f g n a
def akp(f g:am)(iso:Bool)(l:List Int)(x h:Int):Bool:=!(iso&&decide (bl2 f.2.1 h<0))&&jv f.2.2.2.length (avi f g (l.set x.toNat h) x)
def ky(s:cj)(l:List Int)(x:Int):List Int:=(ip s.1.2.1 (s.1.2.2.1.getD x.toNat 0) (s.2.1.2.2.1.getD x.toNat 0)).filter (akp s.1 s.2.1 s.2.2.1 l x)
structure ChcP (s:cj) (l:List Int) (x:Int):Prop where
 p:ParP s.1 s.2.1
 n:(l.length:Int)=s.1.1.1
 w:∀y∈l,y<s.1.2.1.2.1.length
 x0:0<=x
 x1:x<s.1.1.1
def lw:Ct:=⟨[(.pt bez),ed,bc],[false,false,false],fun x=>[ChcP x.1 x.2.1 x.2.2.1],[(false,dq)],fun x=>(ky x.1 x.2.1 x.2.2.1,()),false,none⟩
def aty:Ann:=(.s .n (.s .n (.s .n (.s .n (.s (.s .n (.l [(10,(.ref 800010 [])),(11,(.d bc))] [(800010,dq)] [0,1,2,7,8,9] (.s .n (.s (.j [(10,(.ref 800010 []))] [(800010,dq)] [0,1,2,7,8,9,11] (.s .n (.s .n (.s .n (.s .n (.s (.s .n (.l [(10,(.ref 800010 [])),(12,(.ref 106600 [])),(13,(.d .bool)),(14,(.d bc))] [(800010,dq),(106600,dq)] [0,1,2,7,8,9,11] .n)) (.s .n (.j [(10,(.ref 800010 []))] [(800010,dq)] [0,1,2,7,8,9,11] .n)))))))) .n)))) .n)))))
def br5:FuncId->Option Ct:=lkp [(143,jt),(88,mo),(154,ni),(155,om)]
def aeg(s:cj)(components:List Int)(x:Int)(K:(List Int)×Unit->Prop):Prop:=let u:=s.1.2.1;let r:=u.2.1.length;let i:=ip u (s.1.2.2.1.getD x.toNat 0) (s.2.1.2.2.1.getD x.toNat 0);Ix x s.1.2.2.1.length<|Ix x s.2.1.2.2.1.length<|r<=40/\u.2.2.1.length=r/\bn (S:=(ce4×cez)) (fun a b=>let p:=a.1.2.1;let m:=i.getD p.toNat 0;Iq p<|Ol a.2.1<|cnd (decide (p<(i.length:Int))) (dk (S:=cfo) (fun c=>Ol c.2.1<|Ik (p+1)<|b (((),p+1,()),c.2.1,())) (fun d=>(s.2.2.1=true->p<(i.length:Int)/\0<=p)/\(s.2.2.1=true->(Ix m r<|ShapeP u))/\cnd (s.2.2.1&&decide (bl2 u m<0)) (d (((),()),a.2.1,())) (components.length<=1099511627776/\(Ix p i.length<|Ix x components.length<|bn (S:=((Unit×cfh)×cfk)) (fun e f=>let t:=e.2.2.1;let n:=e.1.2.2.2.1;let l:=s.1.1.2.2.1.getD n.toNat 0;let q:=decide (t.getD l.toNat 0<0);let j:=s.1.1.2.1.getD n.toNat 0;let o:=decide (t.getD j.toNat 0<0);Iq n<|Ol e.2.1<|Ol t<|cnd (e.1.2.2.1&&decide (n<(s.1.2.2.2.length:Int))) (Ix n s.1.1.2.1.length<|Ix n s.1.1.2.2.1.length<|((j != x&&l != x)=false->j<(t.length:Int)/\0<=j)/\((j != x&&l != x||o)=false->l<(t.length:Int)/\0<=l)/\((j != x&&l != x||o||q)=false->SqrP s.1 s.2.1 t n)/\(Ik (n+1)<|f (((),(),j != x&&l != x||o||q||azp s.1 s.2.1 t n,n+1,()),e.2.1,t,()))) (dk (S:=cfo) (fun g=>Ol g.2.1<|d (((),()),g.2.1,())) (fun h=>cnd e.1.2.2.1 (Ix p i.length<|c9 e.2.1.length [m].length 8/\h (((),()),e.2.1++[m],())) (h (((),()),e.2.1,()))))) (((),(),true,0,()),a.2.1,List.set components x.toNat m,()))))) (K (a.2.1,()))) (((),0,()),[],())
theorem awy(s:cj)(components:List Int)(x:Int)(hok:ab (okL lw.args (s,components,x,())))(hpre:ab (lw.pre (s,components,x,()))):aeg s components x (fun r=>r=lw.res (s,components,x,())):=by
 simp only[lw,okL,T.oks,T.ok,ap,ab,a0f,a0c,a0g]at hok hpre
 try dsimp only[T.den]at hok hpre
 delta aeg Ik Iq Ix Ol
 dsimp -proj -eta only;obtain⟨⟨hF,hG,hs,ht⟩,hn,hw,x0,x1⟩:=hpre;have hm:=hF.tgt.m;have S:=hF.tgt;have lt:=hF.src.lt;have sm:=hF.src.m;have so:=hF.src.ob;have la:=hF.fit.la;have lo:=hF.fit.lo;have go:=hG.fit.lo;rw[hs]at go;refine⟨x0,by omega,x0,by omega,hm,S.lt,?_⟩;have hL:=avq S (s.1.2.2.1.getD x.toNat 0) (s.2.1.2.2.1.getD x.toNat 0);have hmem:=fun i:Int=>@avl s.1.2.1 (s.1.2.2.1.getD x.toNat 0) (s.2.1.2.2.1.getD x.toNat 0) i;have hval:ky s components x=(ip s.1.2.1 (s.1.2.2.1.getD x.toNat 0) (s.2.1.2.2.1.getD x.toNat 0)).filter (akp s.1 s.2.1 s.2.2.1 components x):=rfl;generalize ip s.1.2.1 (s.1.2.2.1.getD x.toNat 0) (s.2.1.2.2.1.getD x.toNat 0)=l at *;refine uz (abo (akp s.1 s.2.1 s.2.2.1 components x) l) (n:=l.length) (by omega) rfl ?_ ?_
 ·intro i next i0 i1 hnx hin hok
  have hmi:=hmem i i0 i1;have hf:=@bc0 (akp s.1 s.2.1 s.2.2.1 components x) l i;refine bd (fun _=>?_) (fun h=>absurd i1 h)
  try dsimp only
  refine cz (fun s1=>s1.2.1=abo (akp s.1 s.2.1 s.2.2.1 components x) l (i+1)) (fun s1 hs _=>⟨by rw[au];(try dsimp only);omega,by rw[←hs]at hnx;exact hnx⟩) (fun k hk=>⟨fun _=>⟨i1,i0⟩,fun _=>⟨hmi.1,hmi.2.1,S⟩,ba (fun hx=>hk _ (bh6 i0 i1 (by unfold akp;rw[hx];rfl)).symm) (fun hx=>⟨by omega,i0,i1,x0,by omega,?_⟩)⟩);have hq:akp s.1 s.2.1 s.2.2.1 components x (l.getD i.toNat 0)=jv s.1.2.2.2.length (avi s.1 s.2.1 (components.set x.toNat (l.getD i.toNat 0)) x):=by unfold akp;rw[hx];rfl
  have hcl:((components.set x.toNat (l.getD i.toNat 0)).length:Int)=s.1.1.1:=by rw[a1m];exact hn
  have hcw:∀y∈components.set x.toNat (l.getD i.toNat 0),y<s.1.2.1.2.1.length:=fun y hy=>by
   rcases a48 hy with h|h
   ·exact hw y h
   ·rw[h];exact hmi.2.1
  generalize components.set x.toNat (l.getD i.toNat 0)=cs at *;refine bq (fun (s2:((Unit×cfh)×cfk))=>0<=s2.1.2.2.2.1/\s2.1.2.2.2.1<=s.1.2.2.2.length/\s2.2.1=abo (akp s.1 s.2.1 s.2.2.1 components x) l i/\s2.2.2.1=cs/\(s2.1.2.2.1=true->jv s2.1.2.2.2.1.toNat (avi s.1 s.2.1 cs x)=true)/\(s2.1.2.2.1=false->jv s.1.2.2.2.length (avi s.1 s.2.1 cs x)=false)) (fun (s2:((Unit×cfh)×cfk))=>(s.1.2.2.2.length-s2.1.2.2.2.1).toNat) ?_ ⟨a02 _,by dsimp only;omega,rfl,rfl,fun _=>rfl,fun h=>nomatch h⟩;rintro⟨⟨_,_,b,a,_⟩,y,z,_⟩ next1 ⟨a0,a1,hy,hz,hb,hb2⟩ hn1 hin1 hok1 hok2
  try dsimp only at a0 a1 hy hz hb hb2 hn1⊢
  subst hy;subst hz;refine ba (fun hc=>?_) (fun hc=>?_)
  ·obtain⟨rfl,ha⟩:b=true/\a<(s.1.2.2.2.length:Int):=by simpa using hc
   have hP:=hb rfl;have e:=hF.src.frm a0 (by omega);have c1:=hcw _ (cp z 0 e.1 (by omega));have c2:=hcw _ (cp z 0 e.2.2.1 (by omega));refine⟨a0,by omega,a0,by omega,fun _=>⟨by omega,e.1⟩,fun _=>⟨by omega,e.2.2.1⟩,fun hg=>⟨⟨hF,hG,hs,ht⟩,hcl,a0,ha,⟨?_,c1⟩,⟨?_,c2⟩⟩,by rw[au];(try dsimp only);omega,hn1 _ ⟨by dsimp only;omega,by dsimp only;omega,rfl,rfl,fun h=>?_,fun h=>awc a0 ha h⟩ (by dsimp only;omega)⟩
   ·simp only[a2j,a1o]at hg;exact Int.not_lt.1 hg.1.2
   ·simp only[a2j,a1o]at hg;exact Int.not_lt.1 hg.2
   ·try dsimp only
    rw[atl a0,hP,a1v];exact h
  ·refine cz (fun s3=>s3.2.1=abo (akp s.1 s.2.1 s.2.2.1 components x) l (i+1)) (fun s3 hs _=>hk _ hs) (fun k1 hk1=>?_)
   cases b with
   |true=>
    have hj:¬a<(s.1.2.2.2.length:Int):=by simpa using hc
    have e:a.toNat=s.1.2.2.2.length:=by omega
    have hP:=hb rfl;rw[e]at hP;refine⟨fun _=>⟨i0,i1,?_,hk1 _ (bpg i0 i1 (hq.trans hP)).symm⟩,fun h=>nomatch h⟩;unfold c9;rw[eh];have h3:((l.getD i.toNat 0)::([]:List Int)).length=1:=rfl;rw[h3];omega
   |false=>exact⟨(fun h=>nomatch h),fun _=>hk1 _ (bh6 i0 i1 (hq.trans (hb2 rfl))).symm⟩
 ·intro next hin hok
  refine bd (fun h=>absurd h (a1b _)) (fun _=>?_);simp only[lw];rw[bo2 (by omega),hval]
theorem at4:bw Tryz.prog 150 lw:=ctb (ae mz (ae y5 (ae avj (ae aww az)))) bg 150 Tryz.f150 lw aty [(1,2012),(2,517),(7,10),(14,11),(15,33)] (fun x K=>aeg x.1 x.2.1 x.2.2.1 K) (fun x h1 h2=>awy x.1 x.2.1 x.2.2.1 h1 h2)
structure TyP (c:aa):Prop where
 ob:0<=c.1
 lt:c.2.2.1.length=c.2.1.length
 li:(c.2.2.2.1.length:Int)=c.1
 lc:c.2.2.2.2.length=c.2.1.length
 row:∀f:Int,0<=f->f<c.2.1.length->(c.2.2.2.2.getD f.toNat []).length=c.2.1.length
 fr:∀f:Int,0<=f->f<c.2.1.length->0<=c.2.1.getD f.toNat 0/\c.2.1.getD f.toNat 0<c.1
 to:∀f:Int,0<=f->f<c.2.1.length->0<=c.2.2.1.getD f.toNat 0/\c.2.2.1.getD f.toNat 0<c.1
 idn:∀x:Int,0<=x->x<c.1->0<=c.2.2.2.1.getD x.toNat 0/\c.2.2.2.1.getD x.toNat 0<c.2.1.length/\c.2.1.getD (c.2.2.2.1.getD x.toNat 0).toNat 0=x/\c.2.2.1.getD (c.2.2.2.1.getD x.toNat 0).toNat 0=x
 yes:∀f g:Int,0<=f->f<c.2.1.length->0<=g->g<c.2.1.length->c.2.2.1.getD f.toNat 0=c.2.1.getD g.toNat 0->0<=bi c f g/\bi c f g<c.2.1.length/\c.2.1.getD (bi c f g).toNat 0=c.2.1.getD f.toNat 0/\c.2.2.1.getD (bi c f g).toNat 0=c.2.2.1.getD g.toNat 0
 no:∀f g:Int,0<=f->f<c.2.1.length->0<=g->g<c.2.1.length->c.2.2.1.getD f.toNat 0≠c.2.1.getD g.toNat 0->bi c f g=-1
theorem wq{α:Type}{d:α}{a b:List α}{i:Int}(h0:0<=i)(h:i<a.length):(a++b).getD i.toNat d=a.getD i.toNat d:=by rw[a0l,a1f (by omega),←a0l]
theorem aby{α:Type}{d:α}{a b:List α}{i:Int}(h:(a.length:Int)<=i):(a++b).getD i.toNat d=b.getD (i-a.length).toNat d:=by rw[a0l,a1s (by omega),←a0l,show i.toNat-a.length=(i-a.length).toNat by omega]
theorem al1{i:Int}{n:Nat}{a:Int}(h0:0<=i)(h:i<n):(List.replicate n a).getD i.toNat 0=a:=by rw[a0l,a4v,a0a (by omega)];rfl
structure FrcP (c d:aa) (arr:List Int):Prop where
 C:TyP c
 D:TyP d
 l:arr.length=c.2.1.length
 m:c.2.1.length<=1000000
 t:∃ob:Int->Int,∀a:Int,0<=a->a<c.2.1.length->0<=arr.getD a.toNat 0->arr.getD a.toNat 0<d.2.1.length/\d.2.1.getD (arr.getD a.toNat 0).toNat 0=ob (c.2.1.getD a.toNat 0)/\d.2.2.1.getD (arr.getD a.toNat 0).toNat 0=ob (c.2.2.1.getD a.toNat 0)
abbrev aef:=List Int×Bool×Bool
def ahz(c d:aa)(a b:Int)(s:aef):aef:=
 if s.2.2=false then s else
 if bi c a b<0\/s.1.getD a.toNat 0<0\/s.1.getD b.toNat 0<0 then s else
 if 0<=s.1.getD (bi c a b).toNat 0/\s.1.getD (bi c a b).toNat 0≠bi d (s.1.getD a.toNat 0) (s.1.getD b.toNat 0)then (s.1,s.2.1,false)else
 (s.1.set (bi c a b).toNat (bi d (s.1.getD a.toNat 0) (s.1.getD b.toNat 0)),s.2.1||decide (s.1.getD (bi c a b).toNat 0<0),true)
def s8(c d:aa)(a:Int):Nat->aef->aef
 |0,s=>s
 |n+1,s=>ahz c d a n (s8 c d a n s)
def ug(c d:aa)(m:Nat):Nat->aef->aef
 |0,s=>s
 |n+1,s=>s8 c d n m (ug c d m n s)
def aug(c d:aa):Nat->List Int->List Int×Bool
 |0,arr=>(arr,true)
 |n+1,arr=>if (ug c d arr.length arr.length (arr,false,true)).2.2=false then ((ug c d arr.length arr.length (arr,false,true)).1,false)else if (ug c d arr.length arr.length (arr,false,true)).2.1=true then aug c d n (ug c d arr.length arr.length (arr,false,true)).1 else ((ug c d arr.length arr.length (arr,false,true)).1,true)
def aev(c d:aa)(arr:List Int):List Int×Bool:=aug c d (arr.length+1) arr
theorem bis{c d:aa}{a b:Int}{s:aef}(h:s.2.2=false):ahz c d a b s=s:=by unfold ahz;rw[a0a h]
theorem bcj{c d:aa}{a:Int}{s:aef}{k:Nat}(h:(s8 c d a k s).2.2=false):∀n,k<=n->s8 c d a n s=s8 c d a k s
 |0,hn=>by rw[show k=0 by omega]
 |n+1,hn=>by
  by_cases e:k=n+1
  ·rw[e]
  ·have ih:=bcj h n (by omega);show ahz c d a n (s8 c d a n s)=_;rw[ih,bis h]
theorem bgc{c d:aa}{a:Int}{s:aef}(h:s.2.2=false):∀n,s8 c d a n s=s
 |0=>rfl
 |n+1=>by show ahz c d a n (s8 c d a n s)=_;rw[bgc h n,bis h]
theorem bbz{c d:aa}{m:Nat}{s:aef}{k:Nat}(h:(ug c d m k s).2.2=false):∀n,k<=n->ug c d m n s=ug c d m k s
 |0,hn=>by rw[show k=0 by omega]
 |n+1,hn=>by
  by_cases e:k=n+1
  ·rw[e]
  ·have ih:=bbz h n (by omega);show s8 c d n m (ug c d m n s)=_;rw[ih,bgc h]
def amm(l:List Int):Nat:=l.countP fun x=>decide (x<0)
theorem bmx:∀(l:List Int)(h:Nat)(x:Int),h<l.length->0<=x->amm (l.set h x)+(if l.getD h 0<0 then 1 else 0)=amm l
 |[],_,_,h,_=>by simp at h
 |y::l,0,x,_,hx=>by
  unfold amm;simp only[a4j,List.countP_cons,a31];rw[ds (by simp;omega)];by_cases hy:y<0
  ·rw[a0a hy,a0a (by simpa using hy)]
  ·rw[ds hy,ds (by simpa using hy)]
 |y::l,h+1,x,hl,hx=>by have ih:=bmx l h x (by simpa using hl) hx;unfold amm at ih⊢;simp only[List.set_cons_succ,List.countP_cons,a49];omega
theorem FrcP.im{c d:aa}{arr:List Int}(F:FrcP c d arr){a b:Int}(a0:0<=a)(a1:a<c.2.1.length)(b0:0<=b)(b1:b<c.2.1.length)(h:0<=bi c a b)(ha:0<=arr.getD a.toNat 0)(hb:0<=arr.getD b.toNat 0) :
  bi c a b<c.2.1.length/\arr.getD a.toNat 0<d.2.1.length/\arr.getD b.toNat 0<d.2.1.length/\0<=bi d (arr.getD a.toNat 0) (arr.getD b.toNat 0)/\FrcP c d (arr.set (bi c a b).toNat (bi d (arr.getD a.toNat 0) (arr.getD b.toNat 0))):=by
 obtain⟨ob,T⟩:=F.t;have hl:=F.l;have e:c.2.2.1.getD a.toNat 0=c.2.1.getD b.toNat 0:=a29 fun hn=>by rw[F.C.no a b a0 a1 b0 b1 hn]at h;omega
 have y:=F.C.yes a b a0 a1 b0 b1 e;have ta:=T a a0 a1 ha;have tb:=T b b0 b1 hb;have z:=F.D.yes _ _ ha ta.1 hb tb.1 (by rw[ta.2.2,tb.2.1,e]);refine⟨y.2.1,ta.1,tb.1,z.1,F.C,F.D,by rw[a1m];exact hl,F.m,ob,fun x x0 x1 hx=>?_⟩;by_cases ex:x=bi c a b
 ·subst ex;have eg:(arr.set (bi c a b).toNat (bi d (arr.getD a.toNat 0) (arr.getD b.toNat 0))).getD (bi c a b).toNat 0=bi d (arr.getD a.toNat 0) (arr.getD b.toNat 0):=by rw[a0l,a4l (by omega)];rfl
  rw[eg,z.2.2.1,z.2.2.2,y.2.2.1,y.2.2.2,ta.2.1,tb.2.2];exact⟨z.2.1,rfl,rfl⟩
 ·have eg:(arr.set (bi c a b).toNat (bi d (arr.getD a.toNat 0) (arr.getD b.toNat 0))).getD x.toNat 0=arr.getD x.toNat 0:=by rw[a0l,a4m (by omega),←a0l]
  rw[eg]at hx⊢;exact T x x0 x1 hx
structure FrcI (c d:aa) (arr:List Int) (more:Bool) (z:List Int):Prop where
 p:FrcP c d z
 n:amm z<=amm arr
 k:more=true->amm z<amm arr
theorem FrcI.step{c d:aa}{arr z:List Int}{more:Bool}(I:FrcI c d arr more z){a b:Int}(a0:0<=a)(a1:a<c.2.1.length)(b0:0<=b)(b1:b<c.2.1.length)(h:0<=bi c a b)(ha:0<=z.getD a.toNat 0)(hb:0<=z.getD b.toNat 0) :
  FrcI c d arr (more||decide (z.getD (bi c a b).toNat 0<0)) (z.set (bi c a b).toNat (bi d (z.getD a.toNat 0) (z.getD b.toNat 0))):=by
 have q:=I.p.im a0 a1 b0 b1 h ha hb;have hl:=I.p.l;have ng:=bmx z (bi c a b).toNat _ (by omega) q.2.2.2.1;have h1:=I.n;refine⟨q.2.2.2.2,?_,fun hm=>?_⟩
 ·split at ng<;>omega
 ·rw[a09,a0w]at hm;rcases hm with hm|hm
  ·have:=I.k hm;split at ng<;>omega
  ·rw[a0a hm]at ng;omega
def js:Wt:=⟨dq,[bp,bp],[true,true],fun x y=>[FrcP y.1 y.2.1 x],fun x y=>(aev y.1 y.2.1 x).1,[(false,kf)],fun x y=>((aev y.1 y.2.1 x).2,()),2⟩
def agq:Ct:=vr js
def ayw:Ann:=(.s .n (.s (.s .n (.l [(2,(.ref 1000000 [])),(7,(.d .bool))] bh8 [3,4] (.s .n (.s .n (.s .n (.l [(2,(.ref 1000000 [])),(7,(.d .bool)),(8,(.d bc))] bh8 [3,4] (.s .n (.s (.s .n (.l [(2,(.ref 1000000 [])),(7,(.d .bool)),(9,(.d bc))] bh8 [3,4,8] (.s .n (.s (.j [(2,(.ref 1000000 [])),(7,(.d .bool))] bh8 [3,4,8,9] .n) .n)))) .n)))))))) .n))
def aoo(arrows:List Int)(c d:aa)(K:(List Int)->(Bool×Unit)->Prop):Prop:=bn (S:=cfv) (fun a b=>Ol a.2.1<|cnd a.1.2.1 (bn (S:=(cfh×cez)) (fun e f=>let p:=e.1.2.2.1;let v:=c.2.2.2.2.getD p.toNat [];Iq p<|Ol e.2.1<|cnd (decide (p<(e.2.1.length:Int))) (bn (S:=(cfh×cez)) (fun g h=>let o:=g.2.1.length;let n:=g.1.2.2.1;let t:=g.2.1.getD n.toNat 0;let m:=g.2.1.getD p.toNat 0;let u:=d.2.2.2.2.getD m.toNat [];let q:=u.getD t.toNat 0;let l:=v.getD n.toNat 0;let w:=decide (l<0);let r:=g.2.1.getD l.toNat 0;Iq n<|Ol g.2.1<|cnd (decide (n<(o:Int))) (dk (S:=cfv) (fun i=>Ol i.2.1<|Ik (n+1)<|h (((),i.1.2.1,n+1,()),i.2.1,())) (fun j=>Ix p c.2.2.2.2.length<|Ix n v.length<|(w=false->p<(o:Int)/\0<=p)/\((w||decide (m<0))=false->n<(o:Int)/\0<=n)/\cnd (w||decide (m<0)||decide (t<0)) (j (((),g.1.2.1,()),g.2.1,())) (Ix p o<|Ix m d.2.2.2.2.length<|Ix n o<|Ix t u.length<|Ix l o<|(decide (0<=r)=true->l<(o:Int)/\0<=l)/\cnd (decide (0<=r)&&r != q) (K g.2.1 (false,())) ((g.1.2.1=false->l<(o:Int)/\0<=l)/\(Ix l o<|j (((),g.1.2.1||decide (r<0),()),List.set g.2.1 l.toNat q,())))))) (Ik (p+1)<|f (((),g.1.2.1,p+1,()),g.2.1,()))) (((),e.1.2.1,0,()),e.2.1,())) (b (((),e.1.2.1,()),e.2.1,()))) (((),false,0,()),a.2.1,())) (K a.2.1 (true,()))) (((),true,()),arrows,())
theorem bca(arrows:List Int)(c d:aa)(hok:ab (js.o.strip.oks arrows))(hok2:ab (okL js.as (c,d,())))(hpre:ab (js.pre arrows (c,d,()))):aoo arrows c d (fun z r=>z=js.new arrows (c,d,())/\r=js.res arrows (c,d,())):=by
 simp only[js,O.strip,okL,T.oks,T.ok,ap,ab,a0f,a0c,a0g]at hok hok2 hpre
 try dsimp only[T.den]at hok
 try dsimp only[T.den]at hok2
 try dsimp only[T.den]at hpre
 delta aoo Ik Iq Ix Ol
 dsimp -proj -eta only;have F0:FrcP c d arrows:=hpre;clear hok hok2 hpre;have hl0:=F0.l;have hm0:=F0.m;have neg_le:∀l:List Int,amm l<=l.length:=fun l=>List.countP_le_length;refine bq (fun (s:cfv)=>FrcP c d s.2.1/\(s.1.2.1=true->∃n,amm s.2.1<n/\aug c d n s.2.1=aev c d arrows)/\(s.1.2.1=false->aev c d arrows=(s.2.1,true))) (fun (s:cfv)=>if s.1.2.1=true then amm s.2.1+1 else 0) ?_ ⟨F0,fun _=>⟨arrows.length+1,by have:=neg_le arrows;dsimp only;omega,rfl⟩,fun h=>by cases h⟩;rintro⟨⟨_,more,_⟩,arr,_⟩ next ⟨F,hT,hF⟩ hnx _
 try dsimp only at F hT hF hnx⊢
 refine ba (fun hmore=>?_) (fun hmore=>?_)
 ·subst hmore;obtain⟨n,hn,hN⟩:=hT rfl;obtain⟨n,rfl⟩:∃k,n=k+1:=⟨n-1,by omega⟩;have hla:=F.l;have hlc:=F.C.lc;rw[aug]at hN;refine bq (fun (s:(cfh×cez))=>0<=s.1.2.2.1/\s.1.2.2.1<=c.2.1.length/\FrcI c d arr s.1.2.1 s.2.1/\ug c d c.2.1.length s.1.2.2.1.toNat (arr,false,true)=(s.2.1,s.1.2.1,true)) (fun (s:(cfh×cez))=>(c.2.1.length-s.1.2.2.1).toNat) ?_ ⟨by simp,by simp,⟨F,a0k _,fun h=>by cases h⟩,rfl⟩;rintro⟨⟨_,m1,a,_⟩,z1,_⟩ next1 ⟨a0,a1,I1,e1⟩ hn1 _ _
  try dsimp only at a0 a1 I1 e1 hn1⊢
  have hl1:=I1.p.l;refine bd (fun ha=>?_) (fun ha=>?_)
  ·have ha':a<c.2.1.length:=by omega
   have hrow:=F.C.row a a0 ha';refine bq (fun (s:(cfh×cez))=>0<=s.1.2.2.1/\s.1.2.2.1<=c.2.1.length/\FrcI c d arr s.1.2.1 s.2.1/\s8 c d a s.1.2.2.1.toNat (z1,m1,true)=(s.2.1,s.1.2.1,true)) (fun (s:(cfh×cez))=>(c.2.1.length-s.1.2.2.1).toNat) ?_ ⟨by simp,by simp,I1,rfl⟩;rintro⟨⟨_,m2,b,_⟩,z2,_⟩ next2 ⟨b0,b1,I2,e2⟩ hn2 _ _
   try dsimp only at b0 b1 I2 e2 hn2⊢
   have hl2:=I2.p.l;refine bd (fun hb=>?_) (fun hb=>?_)
   ·have hb':b<c.2.1.length:=by omega
    have hstep:s8 c d a (b+1).toNat (z1,m1,true)=ahz c d a b (z2,m2,true):=by rw[show (b+1).toNat=b.toNat+1 by omega];show ahz c d a (b.toNat:Int) (s8 c d a b.toNat (z1,m1,true))=_;rw[e2,show ((b.toNat:Nat):Int)=b by omega]
    have hS:ahz c d a b (z2,m2,true)=if bi c a b<0\/z2.getD a.toNat 0<0\/z2.getD b.toNat 0<0 then (z2,m2,true)else if 0<=z2.getD (bi c a b).toNat 0/\z2.getD (bi c a b).toNat 0≠bi d (z2.getD a.toNat 0) (z2.getD b.toNat 0)then (z2,m2,false)else (z2.set (bi c a b).toNat (bi d (z2.getD a.toNat 0) (z2.getD b.toNat 0)),m2||decide (z2.getD (bi c a b).toNat 0<0),true):=by unfold ahz;rw[ds (by simp)]
    have ecell:(c.2.2.2.2.getD a.toNat []).getD b.toNat 0=bi c a b:=rfl;rw[ecell];refine cz (fun (q:cfv)=>FrcI c d arr q.1.2.1 q.2.1/\s8 c d a (b+1).toNat (z1,m1,true)=(q.2.1,q.1.2.1,true)) ?_ (fun k hk=>?_)
    ·rintro⟨⟨_,m3,_⟩,z3,_⟩ ⟨I3,e3⟩ _
     try dsimp only at I3 e3⊢
     exact⟨by rw[au];(try dsimp only);omega,hn2 _ ⟨by dsimp only;omega,by dsimp only;omega,I3,e3⟩ (by dsimp only;omega)⟩
    ·refine⟨a0,by omega,b0,by omega,fun _=>⟨by omega,a0⟩,fun _=>⟨hb,b0⟩,ba (fun hx=>hk _ ⟨I2,?_⟩) (fun hx=>?_)⟩
     ·try dsimp only
      rw[hstep,hS,a0a];simp only[a09,a0w]at hx;rcases hx with (hx|hx)|hx
      ·exact .inl hx
      ·exact .inr (.inl hx)
      ·exact .inr (.inr hx)
     ·simp only[a2j,a1o]at hx;obtain⟨⟨x1,x2⟩,x3⟩:=hx;have q:=I2.p.im a0 ha' b0 hb' (by omega) (by omega) (by omega);have dlc:=F.D.lc;have drow:=F.D.row (z2.getD a.toNat 0) (by omega) q.2.1;have ecd:(d.2.2.2.2.getD (z2.getD a.toNat 0).toNat []).getD (z2.getD b.toNat 0).toNat 0=bi d (z2.getD a.toNat 0) (z2.getD b.toNat 0):=rfl;rw[ecd];refine⟨a0,by omega,by omega,by omega,b0,hb,by omega,by omega,by omega,by omega,fun _=>⟨by omega,by omega⟩,ba (fun hy=>?_) (fun hy=>⟨fun _=>⟨by omega,by omega⟩,by omega,by omega,hk _ ⟨I2.step a0 ha' b0 hb' (by omega) (by omega) (by omega),?_⟩⟩)⟩
      ·simp only[a0b,a0w,a3i]at hy;have hbad:s8 c d a (b+1).toNat (z1,m1,true)=(z2,m2,false):=by rw[hstep,hS,ds (by omega),a0a hy]
       have hr2:=bcj (c:=c) (d:=d) (a:=a) (s:=(z1,m1,true)) (k:=(b+1).toNat) (by rw[hbad]) c.2.1.length (by omega);have ha2:ug c d c.2.1.length (a+1).toNat (arr,false,true)=(z2,m2,false):=by rw[show (a+1).toNat=a.toNat+1 by omega];show s8 c d (a.toNat:Int) c.2.1.length (ug c d c.2.1.length a.toNat (arr,false,true))=_;rw[e1,show ((a.toNat:Nat):Int)=a by omega,hr2,hbad]
       have hall:=bbz (c:=c) (d:=d) (m:=c.2.1.length) (s:=(arr,false,true)) (k:=(a+1).toNat) (by rw[ha2]) c.2.1.length (by omega);rw[hla,hall,ha2,a0a rfl]at hN;exact⟨by simp only[js];rw[←hN],by simp only[js];rw[←hN]⟩
      ·try dsimp only
       rw[hstep,hS,ds (by omega),ds];rintro⟨h1,h2⟩;rw[a1p h1,a1v,a1w]at hy;exact h2 hy
   ·have eb:b=c.2.1.length:=by omega
    subst eb;rw[a0y]at e2;refine⟨by rw[au];(try dsimp only);omega,hn1 _ ⟨by dsimp only;omega,by dsimp only;omega,I2,?_⟩ (by dsimp only;omega)⟩
    try dsimp only
    rw[show (a+1).toNat=a.toNat+1 by omega];show s8 c d (a.toNat:Int) c.2.1.length (ug c d c.2.1.length a.toNat (arr,false,true))=_;rw[e1,show ((a.toNat:Nat):Int)=a by omega,e2]
  ·have ea:a=c.2.1.length:=by omega
   subst ea;rw[a0y]at e1;rw[hla,e1,ds (by simp)]at hN
   try dsimp only at hN
   refine hnx _ ⟨I1.p,fun hm=>⟨n,?_,?_⟩,fun hm=>?_⟩ ?_
   ·have:=I1.k hm;dsimp only;omega
   ·try dsimp only at hm⊢;rw[a0a hm]at hN;exact hN
   ·try dsimp only at hm⊢;rw[ds (by rw[hm];decide)]at hN;exact hN.symm
   ·try dsimp only
    rw[a0a rfl];split
    ·rename_i hm;have:=I1.k hm;omega
    ·omega
 ·subst hmore;have:=hF rfl;exact⟨by simp only[js];rw[this],by simp only[js];rw[this]⟩
theorem ay8:bw Tryz.prog 152 agq:=wtb az bg 152 Tryz.f152 js ayw [(12,12)] (fun x y h1 h2 h3=>Eq.mp (by kernel_rfl) (bca x y.1 y.2.1 h1 h2 h3))
def agc(arr:List Int):Nat->Int->Int
 |0,f=>f
 |n+1,f=>if f<arr.length/\0<=arr.getD f.toNat 0 then agc arr n (f+1)else f
def acs(c d:aa)(ob:List Int):Nat->List Int->Int->List (List Int)->List (List Int)
 |0,_,_,found=>found
 |n+1,arr,f0,found=>
  if agc arr arr.length f0=arr.length then found++[arr]else
  (ip d (ob.getD (c.2.1.getD (agc arr arr.length f0).toNat 0).toNat 0) (ob.getD (c.2.2.1.getD (agc arr arr.length f0).toNat 0).toNat 0)).foldl (fun fd h=>if (fd.length:Int)<=200 then (if (aev c d (arr.set (agc arr arr.length f0).toNat h)).2=true then acs c d ob n (aev c d (arr.set (agc arr arr.length f0).toNat h)).1 (agc arr arr.length f0+1) fd else fd)else fd) found
structure FrcO (c d:aa) (ob:Int->Int) (arr:List Int):Prop where
 C:TyP c
 D:TyP d
 l:arr.length=c.2.1.length
 m:c.2.1.length<=1000000
 t:∀a:Int,0<=a->a<c.2.1.length->0<=arr.getD a.toNat 0->arr.getD a.toNat 0<d.2.1.length/\d.2.1.getD (arr.getD a.toNat 0).toNat 0=ob (c.2.1.getD a.toNat 0)/\d.2.2.1.getD (arr.getD a.toNat 0).toNat 0=ob (c.2.2.1.getD a.toNat 0)
theorem FrcO.p{c d:aa}{ob:Int->Int}{arr:List Int}(h:FrcO c d ob arr):FrcP c d arr:=⟨h.C,h.D,h.l,h.m,ob,h.t⟩
theorem bwd{l:List Int}{h x:Int}(h0:0<=h)(h1:h<l.length):(l.set h.toNat x).getD h.toNat 0=x:=by rw[a0l,a4l (by omega)];rfl
theorem buc{l:List Int}{h g x:Int}(h0:0<=h)(g0:0<=g)(e:g≠h):(l.set h.toNat x).getD g.toNat 0=l.getD g.toNat 0:=by rw[a0l,a4m (by omega),←a0l]
theorem FrcO.set{c d:aa}{ob:Int->Int}{arr:List Int}(F:FrcO c d ob arr){h x:Int}(h0:0<=h)(h1:h<c.2.1.length)(x1:x<d.2.1.length)(e1:d.2.1.getD x.toNat 0=ob (c.2.1.getD h.toNat 0))(e2:d.2.2.1.getD x.toNat 0=ob (c.2.2.1.getD h.toNat 0)):FrcO c d ob (arr.set h.toNat x):=by
 have hl:=F.l;refine⟨F.C,F.D,by rw[a1m];exact hl,F.m,fun a a0 a1 ha=>?_⟩;by_cases e:a=h
 ·subst e;rw[bwd a0 (by omega)]at ha⊢;exact⟨x1,e1,e2⟩
 ·rw[buc h0 a0 e]at ha⊢;exact F.t a a0 a1 ha
theorem cck{c d:aa}{ob:Int->Int}{a b:Int}(a0:0<=a)(a1:a<c.2.1.length)(b0:0<=b)(b1:b<c.2.1.length){s:aef}(F:FrcO c d ob s.1):FrcO c d ob (ahz c d a b s).1:=by
 unfold ahz;split
 ·exact F
 split
 ·exact F
 ·rename_i hn;split
  ·exact F
  ·have h:0<=bi c a b:=by omega
   have ha:0<=s.1.getD a.toNat 0:=by omega
   have hb:0<=s.1.getD b.toNat 0:=by omega
   have e:c.2.2.1.getD a.toNat 0=c.2.1.getD b.toNat 0:=a29 fun hn=>by rw[F.C.no a b a0 a1 b0 b1 hn]at h;omega
   have y:=F.C.yes a b a0 a1 b0 b1 e;have ta:=F.t a a0 a1 ha;have tb:=F.t b b0 b1 hb;have z:=F.D.yes _ _ ha ta.1 hb tb.1 (by rw[ta.2.2,tb.2.1,e]);exact F.set y.1 y.2.1 z.2.1 (by rw[z.2.2.1,ta.2.1,y.2.2.1]) (by rw[z.2.2.2,tb.2.2,y.2.2.2])
theorem bjm{c d:aa}{ob:Int->Int}{a:Int}(a0:0<=a)(a1:a<c.2.1.length){s:aef}(F:FrcO c d ob s.1):∀n:Nat,n<=c.2.1.length->FrcO c d ob (s8 c d a n s).1
 |0,_=>F
 |n+1,h=>cck a0 a1 (by omega) (by omega) (bjm a0 a1 F n (by omega))
theorem bln{c d:aa}{ob:Int->Int}{s:aef}(F:FrcO c d ob s.1):∀n:Nat,n<=c.2.1.length->FrcO c d ob (ug c d c.2.1.length n s).1
 |0,_=>F
 |n+1,h=>bjm (by omega) (by omega) (bln F n (by omega)) _ (a0k _)
theorem bsm{c d:aa}{ob:Int->Int}:∀(n:Nat)(arr:List Int),FrcO c d ob arr->FrcO c d ob (aug c d n arr).1
 |0,arr,F=>F
 |n+1,arr,F=>by
  have h:=bln (s:=(arr,false,true)) F c.2.1.length (a0k _);rw[←F.l]at h;rw[aug];split
  ·exact h
  ·split
   ·exact bsm n _ h
   ·exact h
theorem ccs{c d:aa}{ob:Int->Int}{arr:List Int}(F:FrcO c d ob arr):FrcO c d ob (aev c d arr).1:=bsm _ _ F
theorem bot{arr:List Int}:∀(n:Nat)(f g:Int),0<=f->f<=g->g<=arr.length->(g-f).toNat<=n->(∀j:Int,f<=j->j<g->0<=arr.getD j.toNat 0)->(g=arr.length\/arr.getD g.toNat 0<0)->agc arr n f=g
 |0,f,g,f0,fg,gl,hn,_,_=>by show f=g;omega
 |n+1,f,g,f0,fg,gl,hn,hj,he=>by
  unfold agc;by_cases e:f=g
  ·subst e;rw[ds];rintro⟨h1,h2⟩;rcases he with he|he<;>omega
  ·rw[a0a ⟨by omega,hj f (a02 _) (by omega)⟩];exact bot n (f+1) g (by omega) (by omega) gl (by omega) (fun j h1 h2=>hj j (by omega) h2) he
structure ArwP (c d:aa) (ob arr:List Int) (f:Int) (found:List (List Int)):Prop where
 o:FrcO c d (fun x=>ob.getD x.toNat 0) arr
 cm:c.2.1.length<=40
 dm:d.2.1.length<=40
 ol:(ob.length:Int)=c.1
 f0:0<=f
 f1:f<=arr.length
 fd:found.length<=200
def aih(c d:aa)(ob:List Int)(n:Nat)(arr:List Int)(f:Int)(fd:List (List Int))(h:Int):List (List Int):=if (fd.length:Int)<=200 then (if (aev c d (arr.set f.toNat h)).2=true then acs c d ob n (aev c d (arr.set f.toNat h)).1 (f+1) fd else fd)else fd
theorem bpx{c d:aa}{ob:List Int}{n:Nat}{arr:List Int}{f0:Int}{found:List (List Int)}:acs c d ob (n+1) arr f0 found=if agc arr arr.length f0=arr.length then found++[arr]else (ip d (ob.getD (c.2.1.getD (agc arr arr.length f0).toNat 0).toNat 0) (ob.getD (c.2.2.1.getD (agc arr arr.length f0).toNat 0).toNat 0)).foldl (aih c d ob n arr (agc arr arr.length f0)) found:=rfl
theorem aay{α β:Type}{P:β->Prop}{g:β->α->β}(hg:∀s x,P s->P (g s x)):∀(l:List α)(s:β),P s->P (l.foldl g s)
 |[],s,h=>h
 |x::r,s,h=>aay hg r _ (hg s x h)
theorem bcs{c d:aa}{ob:List Int}:∀(n:Nat)(arr:List Int)(f:Int)(found:List (List Int)),found.length<=200->(acs c d ob n arr f found).length<=201
 |0,arr,f,found,h=>a0z h (by omega)
 |n+1,arr,f,found,h=>by
  rw[bpx];split
  ·rw[a0m];simp only[a0h,a0i];omega
  ·refine aay (P:=fun l:List (List Int)=>l.length<=201) (fun s x hs=>?_) _ _ (by omega);unfold aih;split
   ·split
    ·exact bcs n _ _ _ (by omega)
    ·exact hs
   ·exact hs
theorem bf2{c d:aa}{ob:List Int}{n:Nat}{arr:List Int}{f:Int}{fd:List (List Int)}(h:¬(fd.length:Int)<=200):∀l:List Int,l.foldl (aih c d ob n arr f) fd=fd
 |[]=>rfl
 |x::r=>by
  rw[a10];have:aih c d ob n arr f fd x=fd:=by unfold aih;rw[ds h]
  rw[this];exact bf2 h r
def si:Wu:=⟨alh,[bp,bp,ed,ed,bc],[true,true,false,false,false],fun x y=>[ArwP y.1 y.2.1 y.2.2.1 y.2.2.2.1 y.2.2.2.2.1 x],[(false,alh)],fun x y=>(acs y.1 y.2.1 y.2.2.1 ((y.2.2.2.1.length-y.2.2.2.2.1).toNat+1) y.2.2.2.1 y.2.2.2.2.1 x,()),5⟩
def afg:Ct:=asg si
def ad7(x:(alh:O).strip.den)(y:db [bp,bp,ed,ed,bc]):Nat:=(y.2.2.2.1.length-y.2.2.2.2.1).toNat
def nf(n:Nat):Wu:=⟨alh,[bp,bp,ed,ed,bc],[true,true,false,false,false],fun x y=>[ad7 x y<n,ArwP y.1 y.2.1 y.2.2.1 y.2.2.2.1 y.2.2.2.2.1 x],[(false,alh)],fun x y=>(acs y.1 y.2.1 y.2.2.1 n y.2.2.2.1 y.2.2.2.2.1 x,()),5⟩
def am4(n:Nat):Ct:=asg (nf n)
def aks:Ann:=(.s .n (.s (.l [(4,(.d bc)),(5,(.ref 999900 [])),(6,(.ad 6 [.de])),(7,(.ad 7 [.de]))] [(999900,alh),(6,ac8),(7,ac8)] [2,3] .n) (.s .n (.s .n (.s (.s .n (.l [(5,(.ref 999900 [])),(6,(.ad 6 [.de])),(7,(.ad 7 [.de])),(14,(.d bc))] [(999900,alh),(6,ac8),(7,ac8)] [2,3,4,13] (.s .n (.s (.s .n (.s .n (.s .n (.j [(5,(.ref 108700 [])),(6,(.ad 6 [.de])),(7,(.ad 7 [.de]))] [(108700,alh),(6,ac8),(7,ac8)] [2,3,4,13,14] .n)))) .n)))) .n)))))
def afa(n:Nat)(found:List (List Int))(c d:aa)(objects arrows:List Int)(f:Int)(K:ce2×Unit->Prop):Prop:=let m:=arrows.length;bn (S:=cf1) (fun a b=>let x:=a.2.2.1;let q:=a.2.2.2.1;let o:=a.1.1;let w:=x.2.1.getD o.toNat 0;let v:=x.2.2.1.getD o.toNat 0;let j:=ip q (objects.getD w.toNat 0) (objects.getD v.toNat 0);Iq o<|Om a.2.1<|Oc x<|Oc q<|(decide (o<(m:Int))=true->o<(m:Int)/\0<=o)/\cnd (decide (o<(m:Int))&&decide (0<=arrows.getD o.toNat 0)) (Ik (o+1)<|b ((o+1,(),(),(),()),a.2.1,x,q,())) (cnd (o==(m:Int)) (m<=1099511627776/\c9 a.2.1.length [arrows].length 24/\K (a.2.1++[arrows],())) (Ix o x.2.1.length<|Ix w objects.length<|Ix o x.2.2.1.length<|Ix v objects.length<|q.2.1.length<=40/\q.2.2.1.length=q.2.1.length/\bn (S:=cgd) (fun e g=>let u:=e.2.2.1;let r:=e.2.2.2.1;let p:=e.1.2.2.2.1;let t:=List.set arrows o.toNat (j.getD p.toNat 0);let l:=aev u r t;Iq p<|Om e.2.1<|Oc u<|Oc r<|cnd (decide (p<(j.length:Int))&&decide ((e.2.1.length:Int)<=200)) (m<=1099511627776/\(Ix p j.length<|Ix o m<|FrcP u r t/\dk (S:=((Unit×ce6)×(ce2×ce1))) (fun h=>Om h.2.1<|Oc h.2.2.1<|Oc h.2.2.2.1<|Ik (p+1)<|g (((),(),(),p+1,()),h.2.1,h.2.2.1,h.2.2.2.1,())) (fun i=>cnd l.2 (Ik (o+1)<|Int.toNat ((l.1.length:Int)-(o+1))<n/\ArwP u r objects l.1 (o+1) e.2.1/\i (((),(),(),()),acs u r objects n l.1 (o+1) e.2.1,u,r,())) (i (((),(),(),()),e.2.1,u,r,()))))) (K (e.2.1,()))) (((),(),(),0,()),a.2.1,x,q,())))) ((f,(),(),(),()),found,c,d,())
theorem ax2(n:Nat)(x:si.o.strip.den)(y:db si.as)(K:ce2×Unit->Prop):bly tab (lkp [(148,am4 n),(143,jt),(88,mo),(152,agq)]) (tq [(5,517)]) Tryz.f148 (kh Tryz.f148) aks (nf (n+1)) x y K=afa n x y.1 y.2.1 y.2.2.1 y.2.2.2.1 y.2.2.2.2.1 K:=by kernel_rfl
theorem ax9(n:Nat)(found:List (List Int))(c d:aa)(objects arrows:List Int)(f:Int)(hok:ab (si.o.strip.oks found))(hok2:ab (okL si.as (c,d,objects,arrows,f,())))(hpre:ab ((nf (n+1)).pre found (c,d,objects,arrows,f,()))):afa n found c d objects arrows f (fun r=>r=(nf (n+1)).res found (c,d,objects,arrows,f,())):=by
 simp only[si,nf,O.strip,okL,T.oks,T.ok,ap,ab,a0f,a0c,a0g]at hok hok2 hpre
 try dsimp only[T.den]at hok
 try dsimp only[T.den]at hok2
 try dsimp only[T.den]at hpre
 delta afa Ik Iq Ix Oc Ol Om
 dsimp -proj -eta only;obtain⟨hmu,hP⟩:=hpre;have F:=hP.o;have hl:=F.l;have hcm:=hP.cm;have hdm:=hP.dm;have f00:=hP.f0;have f01:=hP.f1;have hfd:=hP.fd;have hol:=hP.ol;have clt:=F.C.lt;have dlt:=F.D.lt;clear hok hok2;refine bq (fun (s:cf1)=>f<=s.1.1/\s.1.1<=arrows.length/\(∀j:Int,f<=j->j<s.1.1->0<=arrows.getD j.toNat 0)/\s.2.1=found/\s.2.2.1=c/\s.2.2.2.1=d) (fun (s:cf1)=>(arrows.length-s.1.1).toNat) ?_ ⟨a02 _,f01,fun j h1 h2=>by dsimp only at h2;omega,rfl,rfl,rfl⟩;rintro⟨⟨g,_⟩,fd,c1,d1,_⟩ next ⟨g0,g1,hj,q1,q2,q3⟩ hnx
 intros
 try dsimp only at g0 g1 hj q1 q2 q3 hnx⊢
 subst q1;subst q2;subst q3;refine⟨fun h=>⟨a4a h,by omega⟩,ba (fun hx=>?_) (fun hx=>?_)⟩
 ·simp only[a0b,a0w]at hx;refine⟨by rw[au];(try dsimp only);omega,hnx _ ⟨by dsimp only;omega,by dsimp only;omega,fun j h1 h2=>?_,rfl,rfl,rfl⟩ (by dsimp only;omega)⟩
  try dsimp only at h2
  by_cases e:j=g
  ·subst e;exact hx.2
  ·exact hj j h1 (by omega)
 have hend:g=arrows.length\/arrows.getD g.toNat 0<0:=by
  by_cases e:g=arrows.length
  ·exact .inl e
  ·refine .inr ?_;rw[a1p (show g<arrows.length by omega),a1v,a1o]at hx;omega
 have hfst:agc arrows arrows.length f=g:=bot _ f g f00 g0 g1 (by omega) hj hend;have hres:(nf (n+1)).res fd (c1,d1,objects,arrows,f,())=(acs c1 d1 objects (n+1) arrows f fd,()):=rfl;rw[hres,bpx,hfst];refine ba (fun hg=>?_) (fun hg=>?_)
 ·have hg:g=arrows.length:=by simpa using hg
  rw[a0a hg];exact⟨by omega,ck (by simp only[a0h,a0i];omega),rfl⟩
 have hg:¬g=arrows.length:=by simpa using hg
 have hneg:arrows.getD g.toNat 0<0:=hend.resolve_left hg;rw[ds hg];have gm:g<c1.2.1.length:=by omega
 have fr:=F.C.fr g (by omega) gm;have to:=F.C.to g (by omega) gm;refine⟨by omega,by omega,fr.1,by omega,by omega,by omega,to.1,by omega,hdm,dlt,?_⟩;generalize hH:ip d1 (objects.getD (c1.2.1.getD g.toNat 0).toNat 0) (objects.getD (c1.2.2.1.getD g.toNat 0).toNat 0)=H;have hHl:H.length<=40:=by rw[←hH];exact a0z (abg _) hdm
 have hmem:∀h∈H,0<=h/\FrcO c1 d1 (fun x=>objects.getD x.toNat 0) (arrows.set g.toNat h):=fun h hh=>by rw[←hH,ti]at hh;exact⟨hh.1,F.set (by omega) gm hh.2.1 hh.2.2.1 hh.2.2.2⟩
 refine bq (fun (s:cgd)=>0<=s.1.2.2.2.1/\s.1.2.2.2.1<=H.length/\s.2.1=(H.take s.1.2.2.2.1.toNat).foldl (aih c1 d1 objects n arrows g) fd/\s.2.1.length<=201/\s.2.2.1=c1/\s.2.2.2.1=d1) (fun (s:cgd)=>(H.length-s.1.2.2.2.1).toNat) ?_ ⟨by simp,by simp,rfl,by dsimp only;omega,rfl,rfl⟩;rintro⟨⟨_,_,_,i,_⟩,fd1,c2,d2,_⟩ next1 ⟨i0,i1,q1,hfl,q2,q3⟩ hn1;intros
 try dsimp only at i0 i1 q1 hfl q2 q3 hn1⊢
 subst q2;subst q3;refine ba (fun hx=>?_) (fun hx=>?_)
 ·simp only[a0b,a0w]at hx;have hm:=hmem _ (cp H 0 i0 hx.1);have ht:=mm H 0 i0 hx.1;generalize H.getD i.toNat 0=h at *;have hstep:(H.take (i+1).toNat).foldl (aih c2 d2 objects n arrows g) fd=aih c2 d2 objects n arrows g fd1 h:=by rw[ht,a11,←q1];rfl
  have hS:aih c2 d2 objects n arrows g fd1 h=if (aev c2 d2 (arrows.set g.toNat h)).2=true then acs c2 d2 objects n (aev c2 d2 (arrows.set g.toNat h)).1 (g+1) fd1 else fd1:=by unfold aih;rw[a0a hx.2]
  have F2:=ccs hm.2;have hl2:=F2.l;refine⟨by omega,i0,hx.1,by omega,by omega,hm.2.p,cz (fun (q:((Unit×ce6)×(ce2×ce1)))=>q.2.1=aih c2 d2 objects n arrows g fd1 h/\q.2.1.length<=201/\q.2.2.1=c2/\q.2.2.2.1=d2) ?_ (fun k hk=>ba (fun ho=>?_) (fun ho=>?_))⟩
  ·rintro⟨_,fd3,c3,d3,_⟩ ⟨r1,r2,r3,r4⟩;intros
   try dsimp only at r1 r2 r3 r4⊢
   subst r3;subst r4;exact⟨by rw[au];(try dsimp only);omega,hn1 _ ⟨by dsimp only;omega,by dsimp only;omega,by dsimp only;rw[hstep];exact r1,r2,rfl,rfl⟩ (by dsimp only;omega)⟩
  ·refine⟨by rw[au];(try dsimp only);omega,?_,⟨F2,hcm,hdm,hol,by omega,by omega,by omega⟩,hk _ ⟨?_,?_,rfl,rfl⟩⟩
   ·simp only[ad7]at hmu;omega
   ·try dsimp only;rw[hS,a0a ho]
   ·exact bcs n _ _ _ (by omega)
  ·exact hk _ ⟨by dsimp only;rw[hS,ds (by rw[ho];decide)],hfl,rfl,rfl⟩
 ·have hfin:H.foldl (aih c2 d2 objects n arrows g) fd=fd1:=by
   by_cases e:i<H.length
   ·rw[a1p e,a1v,a1o]at hx
    conv=>lhs;rw[←a1x i.toNat H]
    rw[a11,←q1];exact bf2 hx _
   ·rw[q1,a1c (by omega)]
  rw[hfin]
theorem axc:bw Tryz.prog 148 afg:=bsr ad7 (g:=fun n=>(nf n).res) (t6 (fn:=Tryz.f148) (c:=kh Tryz.f148) (by kernel_rfl) (by kernel_rfl) (by kernel_rfl)) (fun x y=>rfl) (fun n ih=>bxf (Φ:=lkp [(148,am4 n),(143,jt),(88,mo),(152,agq)]) (ae ih (ae mz (ae y5 (ae ay8 az)))) bg (by kernel_rfl) (fn:=Tryz.f148) (c:=kh Tryz.f148) (by kernel_rfl) (by kernel_rfl) (by kernel_rfl) (nf (n+1)) aks (tq [(5,517)]) (by kernel_rfl) (a08 rfl) (by kernel_rfl) (by kernel_rfl) (a08 rfl) (fun x y h1 h2 h3=>(ax2 n x y _).mpr (ax9 n x y.1 y.2.1 y.2.2.1 y.2.2.2.1 y.2.2.2.2.1 h1 h2 h3)))
def goM(l:List Int):Nat:=(l.filter fun y=>y==-1).length
def goX(s:cj)(l:List Int):Nat->Int->Option Int
 |0,x=>some x
 |y+1,x=>if l.getD y 0=-1 then (if (ky s l y).length=0 then none else goX s l y y)else goX s l y x
def goR(s:cj):Nat->List Int->List (List Int)->List (List Int)
 |0,_,fd=>fd
 |n+1,l,fd=>match goX s l l.length (-1)with
  |none=>fd
  |some x=>if x<0 then fd++[l]else (ky s l x).foldl (fun fd h=>if (fd.length:Int)<s.2.2.2.1 then goR s n (l.set x.toNat h) fd else fd) fd
def goW(s:cj)(n:Nat)(l:List Int):cj:=(s.1,s.2.1,s.2.2.1,s.2.2.2.1,goR s n l s.2.2.2.2)
theorem bxj{s t:cj}(h:t.1=s.1/\t.2.1=s.2.1/\t.2.2.1=s.2.2.1){l:List Int}{x:Int}:ky t l x=ky s l x:=by unfold ky;rw[h.1,h.2.1,h.2.2]
theorem avp{s:cj}{l:List Int}{y:Nat}{x:Int}:goX s l (y+1) x=if l.getD y 0=-1 then (if (ky s l y).length=0 then none else goX s l y y)else goX s l y x:=rfl
theorem bao{s:cj}{n:Nat}{l:List Int}{fd:List (List Int)}:goR s (n+1) l fd=match goX s l l.length (-1)with
  |none=>fd
  |some x=>if x<0 then fd++[l]else (ky s l x).foldl (fun fd h=>if (fd.length:Int)<s.2.2.2.1 then goR s n (l.set x.toNat h) fd else fd) fd:=rfl
theorem bqm{s t:cj}(h:t.1=s.1/\t.2.1=s.2.1/\t.2.2.1=s.2.2.1){l:List Int}:∀(n:Nat)(x:Int),goX t l n x=goX s l n x
 |0,x=>rfl
 |n+1,x=>by rw[avp,avp,bxj h,bqm h n,bqm h n]
theorem bx5{s t:cj}(h:t.1=s.1/\t.2.1=s.2.1/\t.2.2.1=s.2.2.1)(hm:t.2.2.2.1=s.2.2.2.1):∀(n:Nat)(l:List Int)(fd:List (List Int)),goR t n l fd=goR s n l fd
 |0,l,fd=>rfl
 |n+1,l,fd=>by
  have ih:goR t n=goR s n:=funext fun a=>funext fun b=>bx5 h hm n a b;rw[bao,bao,bqm h,hm,ih];split
  ·rfl
  ·rw[bxj h]
def goS(s:cj)(n:Nat)(l:List Int)(x:Int)(fd:List (List Int))(h:Int):List (List Int):=if (fd.length:Int)<s.2.2.2.1 then goR s n (l.set x.toNat h) fd else fd
theorem av8{s:cj}{n:Nat}{l:List Int}{fd:List (List Int)}(h:goX s l l.length (-1)=none):goR s (n+1) l fd=fd:=by rw[bao,h]
theorem aqq{s:cj}{n:Nat}{l:List Int}{fd:List (List Int)}{x:Int}(h:goX s l l.length (-1)=some x)(hx:x<0):goR s (n+1) l fd=fd++[l]:=by rw[bao,h];dsimp only;rw[a0a hx]
theorem aqd{s:cj}{n:Nat}{l:List Int}{fd:List (List Int)}{x:Int}(h:goX s l l.length (-1)=some x)(hx:¬x<0):goR s (n+1) l fd=(ky s l x).foldl (goS s n l x) fd:=by rw[bao,h];dsimp only;rw[ds hx];rfl
theorem bj7{s:cj}{n:Nat}{l:List Int}{x:Int}{fd:List (List Int)}(h:¬(fd.length:Int)<s.2.2.2.1):∀L:List Int,L.foldl (goS s n l x) fd=fd
 |[]=>rfl
 |y::r=>by
  rw[a10];have:goS s n l x fd y=fd:=by unfold goS;rw[ds h]
  rw[this];exact bj7 h r
theorem blh{s:cj}:∀(n:Nat)(l:List Int)(fd:List (List Int)),(fd.length:Int)<s.2.2.2.1->((goR s n l fd).length:Int)<=s.2.2.2.1
 |0,l,fd,h=>Int.le_of_lt h
 |n+1,l,fd,h=>by
  cases hx:goX s l l.length (-1)with
  |none=>rw[av8 hx];exact Int.le_of_lt h
  |some x=>
   by_cases h0:x<0
   ·rw[aqq hx h0,a0m];simp only[a0h,a0i];omega
   ·rw[aqd hx h0];refine aay (P:=fun q:List (List Int)=>(q.length:Int)<=s.2.2.2.1) (fun q y hq=>?_) _ _ (Int.le_of_lt h);unfold goS;split
    ·rename_i h1;exact blh n _ _ h1
    ·exact hq
theorem be4{h:Int}(hh:h≠-1):∀(l:List Int)(i:Nat),l.getD i 0=-1->goM (l.set i h)+1=goM l
 |[],i,e=>by simp at e
 |y::r,0,e=>by
  simp only[a31]at e;subst e;have:(h==-1)=false:=by simpa using hh
  simp[goM,a4j,a2r,this]
 |y::r,i+1,e=>by simp only[a49]at e;have:=be4 hh r i e;simp only[goM,List.set_cons_succ,a2r]at this⊢;split<;>(try simp only[a0h])<;>omega
theorem cbz{s:cj}{l:List Int}{x i:Int}(i0:0<=i)(i1:i<(ky s l x).length):0<=(ky s l x).getD i.toNat 0/\(ky s l x).getD i.toNat 0<s.1.2.1.2.1.length:=by have h:=cp (ky s l x) 0 i0 i1;generalize (ky s l x).getD i.toNat 0=z at *;unfold ky at h;have h:=(a3a.1 h).1;obtain⟨j,j1,rfl⟩:=a2d h;have:=@avl s.1.2.1 (s.1.2.2.1.getD x.toNat 0) (s.2.1.2.2.1.getD x.toNat 0) j (by omega) (by omega);rw[a0y,a0l,a0p j1]at this;exact⟨this.1,this.2.1⟩
structure GoP (s:cj) (l:List Int):Prop where
 p:ParP s.1 s.2.1
 n:(l.length:Int)=s.1.1.1
 w:∀y∈l,y<s.1.2.1.2.1.length
 f:s.2.2.2.2.length<=1000
 m:s.2.2.2.1<=1000
def sv:Wt:=⟨byh,[ed],[false],fun x y=>[GoP x y.1],fun x y=>goW x (goM y.1+1) y.1,[],fun x y=>(()),0⟩
def avf:Ct:=vr sv
def wz(n:Nat):Wt:=⟨byh,[ed],[false],fun x y=>[goM y.1<n,GoP x y.1],fun x y=>goW x (goM y.1+1) y.1,[],fun x y=>(()),0⟩
def ave(n:Nat):Ct:=vr (wz n)
def as4:Ann:=(.s .n (.s (.s .n (.l [(0,(.ad 999900 [.de])),(4,(.d bc)),(5,(.d bc))] [(999900,bu3)] [1] (.s .n (.s (.s .n (.j [(0,(.ad 999900 [.de])),(4,(.d bc))] [(999900,bu3)] [1,5] .n)) .n)))) (.s .n (.s .n (.s .n (.l [(0,(.ad 999900 [.de])),(7,(.d bc))] [(999900,bu3)] [1,4,6] .n))))))
def al6(n:Nat)(s:cj)(components:List Int)(K:cj->(Unit)->Prop):Prop:=let j:=components.length;Ik ((j:Int)-1)<|bn (S:=cf5) (fun a b=>let q:=a.1.2.1;let m:=a.1.2.2.1;let l:=a.2.1;let u:=l.2.2.2;let o:=ky l components q;Iq q<|Iq m<|Of l.1<|Of l.2.1<|Iq u.1<|Om u.2<|cnd (decide (0<=m)) (Ix m j<|dk (S:=(ce4×cfg)) (fun c=>Iq c.1.2.1<|Of c.2.1.1<|Of c.2.1.2.1<|Iq c.2.1.2.2.2.1<|Om c.2.1.2.2.2.2<|Ik (m-1)<|b (((),c.1.2.1,m-1,()),c.2.1,())) (fun d=>cnd (components.getD m.toNat 0==-1) (ChcP l components m/\cnd (((ky l components m).length:Int)==0) (K l ()) (d (((),m,()),l,()))) (d (((),q,()),l,())))) (cnd (decide (q<0)) (j<=1099511627776/\c9 u.2.length [components].length 24/\K (l.1,l.2.1,l.2.2.1,u.1,u.2++[components]) ()) (ChcP l components q/\bn (S:=(ce4×cfg)) (fun e f=>let t:=e.2.1;let r:=e.1.2.1;let p:=t.2.2.2;let i:=List.set components q.toNat (o.getD r.toNat 0);Iq r<|Of t.1<|Of t.2.1<|Iq p.1<|Om p.2<|cnd (decide (r<(o.length:Int))&&decide ((p.2.length:Int)<p.1)) (j<=1099511627776/\(Ix r o.length<|Ix q j<|(List.filter (fun g=>g==-1) i).length<n/\GoP t i/\(Ik (r+1)<|f (((),r+1,()),(t.1,t.2.1,t.2.2.1,p.1,goR t ((List.filter (fun h=>h==-1) i).length+1) i p.2),())))) (K t ())) (((),0,()),l,())))) (((),-1,(j:Int)-1,()),s,())
theorem blk(n:Nat)(x:sv.o.strip.den)(y:db sv.as)(K:cj->(Unit)->Prop):bq5 tab (lkp [(139,ave n),(143,jt),(150,lw)]) (tq [(8,9999015006),(11,14)]) Tryz.f139 (kh Tryz.f139) as4 (wz (n+1)) x y K=al6 n x y.1 K:=by kernel_rfl
theorem bmc(n:Nat)(s:cj)(components:List Int)(hok:ab (sv.o.strip.oks s))(hok2:ab (okL sv.as (components,())))(hpre:ab ((wz (n+1)).pre s (components,()))):al6 n s components (fun z r=>z=sv.new s (components,())/\r=sv.res s (components,())):=by
 simp only[sv,wz,O.strip,okL,T.oks,T.ok,ap,ab,a0f,a0c,a0g]at hok hok2 hpre
 try dsimp only[T.den]at hok
 try dsimp only[T.den]at hok2
 try dsimp only[T.den]at hpre
 delta al6 Ik Iq Ix Oc Of Ol Om
 dsimp -proj -eta only;obtain⟨hmu,hP⟩:=hpre;have hmu:goM components<n+1:=hmu;have hl:=hP.n;have hob:=hP.p.F.src.ob;have hfd:=hP.f;have hmo:=hP.m;have hw:=hP.w;clear hok hok2;refine⟨by rw[au];(try dsimp only);omega,?_⟩;refine bq (fun (t:cf5)=>-1<=t.1.2.2.1/\t.1.2.2.1<components.length/\t.2.1=s/\goX s components components.length (-1)=goX s components (t.1.2.2.1+1).toNat t.1.2.1/\(0<=t.1.2.1->t.1.2.1<components.length/\components.getD t.1.2.1.toNat 0=-1)) (fun (t:cf5)=>(t.1.2.2.1+1).toNat) ?_ ⟨by dsimp only;omega,by dsimp only;omega,rfl,by dsimp only;rw[show ((components.length:Int)-1+1).toNat=components.length by omega],fun h=>by dsimp only at h;omega⟩;rintro⟨⟨_,x,y,_⟩,t,_⟩ next ⟨y0,y1,ht,hx,hxr⟩ hnx
 intros
 try dsimp only at y0 y1 ht hx hxr hnx⊢
 subst ht;refine bd (fun hy=>?_) (fun hy=>?_)
 ·rw[show (y+1).toNat=y.toNat+1 by omega]at hx;refine⟨hy,y1,cz (fun (q:(ce4×cfg))=>q.2.1=t/\goX t components components.length (-1)=goX t components y.toNat q.1.2.1/\(0<=q.1.2.1->q.1.2.1<components.length/\components.getD q.1.2.1.toNat 0=-1)) ?_ ?_⟩
  ·rintro⟨⟨_,x2,_⟩,t2,_⟩ ⟨p1,p2,p3⟩;intros
   try dsimp only at p1 p2 p3⊢
   subst p1;exact⟨by rw[au];(try dsimp only);omega,hnx _ ⟨by dsimp only;omega,by dsimp only;omega,rfl,by dsimp only;rw[show (y-1+1).toNat=y.toNat by omega];exact p2,p3⟩ (by dsimp only;omega)⟩
  ·intro k hk;rw[avp,a5f hy]at hx;refine ba (fun h=>?_) (fun h=>?_)
   ·have h1:components.getD y.toNat 0=-1:=by simpa using h
    rw[a0a h1]at hx;refine⟨⟨hP.p,hl,hw,hy,by omega⟩,ba (fun h2=>?_) (fun h2=>?_)⟩
    ·have h2:(ky t components y).length=0:=by simpa using h2
     rw[a0a h2]at hx;refine⟨?_,rfl⟩;show t=goW t (goM components+1) components;unfold goW;rw[av8 hx]
    ·have h2:¬(ky t components y).length=0:=by simpa using h2
     rw[ds h2]at hx;exact hk _ ⟨rfl,hx,fun _=>⟨y1,h1⟩⟩
   ·have h1:¬components.getD y.toNat 0=-1:=by simpa using h
    rw[ds h1]at hx;exact hk _ ⟨rfl,hx,hxr⟩
 have ey:y=-1:=by omega
 subst ey;have hx:goX t components components.length (-1)=some x:=hx;refine bd (fun h0=>?_) (fun h0=>?_)
 ·refine⟨by omega,ck (by simp only[a0h,a0i];omega),?_,rfl⟩;show _=goW t (goM components+1) components;unfold goW;rw[aqq hx h0]
 have hxr:=hxr (by omega);refine⟨⟨hP.p,hl,hw,by omega,by omega⟩,?_⟩;have hcl:(ky t components x).length<=40:=by have h1:=avq hP.p.F.tgt (t.1.2.2.1.getD x.toNat 0) (t.2.1.2.2.1.getD x.toNat 0);have h2:=hP.p.F.tgt.m;have h3:(ky t components x).length<=(ip t.1.2.1 (t.1.2.2.1.getD x.toNat 0) (t.2.1.2.2.1.getD x.toNat 0)).length:=a4k _ _;omega
 have hch:=fun i:Int=>@cbz t components x i;refine bq (fun (q:(ce4×cfg))=>0<=q.1.2.1/\q.1.2.1<=(ky t components x).length/\q.2.1=(t.1,t.2.1,t.2.2.1,t.2.2.2.1,((ky t components x).take q.1.2.1.toNat).foldl (goS t (goM components) components x) t.2.2.2.2)/\q.2.1.2.2.2.2.length<=1000) (fun (q:(ce4×cfg))=>((ky t components x).length-q.1.2.1).toNat) ?_ ⟨a02 _,by dsimp only;omega,rfl,hfd⟩;rintro⟨⟨_,k,_⟩,t2,_⟩ next1 ⟨k0,k1,hq,hf2⟩ hn1;intros
 try dsimp only at k0 k1 hq hf2 hn1⊢
 refine ba (fun hc=>?_) (fun hc=>?_)
 ·simp only[a0b,a0w]at hc;have hb:=hch k k0 hc.1;have hset:=be4 (h:=(ky t components x).getD k.toNat 0) (by omega) components x.toNat hxr.2;have e4:t2.1=t.1/\t2.2.1=t.2.1/\t2.2.2.1=t.2.2.1/\t2.2.2.2.1=t.2.2.2.1:=by rw[hq];exact⟨rfl,rfl,rfl,rfl⟩
  have hlen:=blh (s:=t2) (goM (components.set x.toNat ((ky t components x).getD k.toNat 0))+1) (components.set x.toNat ((ky t components x).getD k.toNat 0)) t2.2.2.2.2 hc.2;have hrs:=bx5 (s:=t) (t:=t2) ⟨e4.1,e4.2.1,e4.2.2.1⟩ e4.2.2.2;refine⟨by omega,k0,hc.1,by omega,hxr.1,?_,⟨by rw[e4.1,e4.2.1];exact hP.p,by rw[a1m,e4.1];exact hl,fun z hz=>?_,hf2,by rw[e4.2.2.2];exact hmo⟩,by rw[au];(try dsimp only);omega,hn1 _ ⟨by dsimp only;omega,by dsimp only;omega,?_,Int.ofNat_le.1 (a3q hlen (by rw[e4.2.2.2];exact hmo))⟩ (by dsimp only;omega)⟩
  ·show goM (components.set x.toNat ((ky t components x).getD k.toNat 0))<n;omega
  ·rw[e4.1];rcases a48 hz with h|h
   ·exact hw z h
   ·rw[h];exact hb.2
  ·try dsimp only
   rw[mm _ 0 k0 hc.1,a11];have e5:t2.2.2.2.2=((ky t components x).take k.toNat).foldl (goS t (goM components) components x) t.2.2.2.2:=by rw[hq]
   rw[←e5,e4.1,e4.2.1,e4.2.2.1,e4.2.2.2];show _=(t.1,t.2.1,t.2.2.1,t.2.2.2.1,goS t (goM components) components x t2.2.2.2.2 ((ky t components x).getD k.toNat 0));unfold goS;have hset':(List.filter (fun y=>y==-1) (components.set x.toNat ((ky t components x).getD k.toNat 0))).length+1=goM components:=hset;rw[a0a (by rw[←e4.2.2.2];exact hc.2),hrs,hset']
 ·refine⟨?_,rfl⟩;show t2=goW t (goM components+1) components;unfold goW;rw[aqd hx h0];have e5:t2.2.2.2.2=((ky t components x).take k.toNat).foldl (goS t (goM components) components x) t.2.2.2.2:=by rw[hq]
  have hfin:(ky t components x).foldl (goS t (goM components) components x) t.2.2.2.2=t2.2.2.2.2:=by
   by_cases e:k<(ky t components x).length
   ·rw[a1p e,a1v,a1o]at hc
    conv=>lhs;rw[←a1x k.toNat (ky t components x)]
    rw[a11,←e5];have e4:t2.2.2.2.1=t.2.2.2.1:=by rw[hq]
    rw[e4]at hc;exact bj7 hc _
   ·rw[e5,a1c (by omega)]
  rw[hfin,hq]
theorem bhd:bw Tryz.prog 139 avf:=cbi (q:=fun n=>(wz n).pre) (t6 (fn:=Tryz.f139) (c:=kh Tryz.f139) (by kernel_rfl) (by kernel_rfl) (by kernel_rfl)) (fun x y h=>a45 _ h.1) (fun x y h=>⟨_,a3r _,h⟩) (fun n ih=>cdp (Φ:=lkp [(139,ave n),(143,jt),(150,lw)]) (ae ih (ae mz (ae at4 az))) bg (by kernel_rfl) (fn:=Tryz.f139) (c:=kh Tryz.f139) (by kernel_rfl) (by kernel_rfl) (by kernel_rfl) (wz (n+1)) as4 (tq [(8,9999015006),(11,14)]) rfl (by kernel_rfl) (a08 rfl) (by kernel_rfl) (by kernel_rfl) (a08 rfl) (by kernel_rfl) (fun x y h1 h2 h3=>(blk n x y _).mpr (bmc n x y.1 h1 h2 h3)))
def fpR(f:am):List (List Int):=bh f.1.2.1.length fun a=>[f.1.2.1.getD a.toNat 0,f.1.2.2.1.getD a.toNat 0]
def fcR(f:am):List Int:=ak7 (aer f.1.1 (fpR f))
def fsR(cl:List Int)(x:Int):List Int:=bh cl.length fun y=>if cl.getD y.toNat 0=x then -1 else -2
def foR(f g:am)(iso:Bool)(x:Int):Bool:=decide ((goR (f,g,iso,1,[]) (goM (fsR (fcR f) x)+1) (fsR (fcR f) x) []).length≠0)
def agv(f g:am)(iso:Bool)(most:Int):List (List Int):=if jv (fcR f).length (foR f g iso)=true then goR (f,g,iso,most,[]) (goM (List.replicate (fcR f).length (-1))+1) (List.replicate (fcR f).length (-1)) []else []
theorem bqw{l:List Int}:(ak7 l).length=l.length:=by unfold ak7;rw[a00]
theorem btw{f:am}(h:0<=f.1.1):((fcR f).length:Int)=f.1.1:=by unfold fcR;rw[bqw,aer,avv (n:=f.1.1) _ _ (by simp[bqc,bj])];omega
theorem cd1{f:am}(F:FunP f):PrsP f.1.1 (fpR f):=by
 have hm:=F.src.m;refine⟨by show (bh _ _).length<=_;rw[bj];omega,fun k k0 k1=>?_⟩;have k1:k<f.1.2.1.length:=by have:((fpR f).length:Int)=f.1.2.1.length:=(by unfold fpR;rw[bj]);omega
 have hg:(fpR f).getD k.toNat []=[f.1.2.1.getD k.toNat 0,f.1.2.2.1.getD k.toNat 0]:=d6 k0 k1;rw[hg];have e:=F.src.frm k0 k1;exact⟨by simp,⟨e.1,e.2.1⟩,⟨e.2.2.1,e.2.2.2⟩⟩
def vx:Ct:=⟨[jq,jq,.bool,bc],[true,true,false,false],fun x=>[ParP x.1 x.2.1,x.2.2.2.1<=1000],[(false,vp)],fun x=>(agv x.1 x.2.1 x.2.2.1 x.2.2.2.1,()),false,none⟩
def baj:Ann:=(.s .n (.s .n (.s .n (.s (.s .n (.l [(10,(.ref 800010 [])),(11,(.d bc))] [(800010,vp)] [2,3,4,5,9] .n)) (.s .n (.s .n (.s (.s .n (.l [(13,(.ref 800013 [])),(14,(.d bc))] [(800013,dq)] [2,3,4,5,12] (.s .n (.s (.s .n (.s .n (.s (.s .n (.l [(13,(.ref 800013 [])),(15,(.ref 800015 [])),(16,(.d bc))] [(800013,dq),(800015,dq)] [2,3,4,5,12,14] (.s .n (.s (.s .n (.j [(13,(.ref 800013 [])),(15,(.ref 800015 []))] [(800013,dq),(800015,dq)] [2,3,4,5,12,14,16] .n)) .n)))) .n))) .n)))) .n)))))))
def bx8:FuncId->Option Ct:=lkp [(138,qp),(139,avf)]
def aht(f g:am)(iso:Bool)(most:Int)(K:ce2×Unit->Prop):Prop:=bn (S:=cgc) (fun a b=>let o:=a.1.2.1;let t:=f.1.2.1.getD o.toNat 0;let r:=f.1.2.2.1.getD o.toNat 0;let n:=ak7 (aer f.1.1 a.2.1);Iq o<|Om a.2.1<|cnd (decide (o<(f.1.2.1.length:Int))) (Ix o f.1.2.1.length<|Ix o f.1.2.2.1.length<|c9 a.2.1.length [[t,r]].length 24/\(Ik (o+1)<|b (((),o+1,()),a.2.1++[[t,r]],()))) (0<=f.1.1/\f.1.1<=1099511627776/\PrsP f.1.1 a.2.1/\bn (S:=(ce4×cez)) (fun c d=>let u:=c.1.2.1;Iq u<|Ol c.2.1<|cnd (decide (u<(n.length:Int))) (c9 c.2.1.length [-1].length 8/\bn (S:=(cex×cfk)) (fun e h=>let q:=e.2.2.1;let p:=e.1.2.2.1;Iq p<|Ol e.2.1<|Ol q<|cnd (decide (p<(n.length:Int))) (Ix p n.length<|dk (S:=(ce6×cfk)) (fun i=>Ol i.2.1<|Ol i.2.2.1<|Ik (p+1)<|h (((),(),p+1,()),i.2.1,i.2.2.1,())) (fun j=>cnd (n.getD p.toNat 0==u) (c9 q.length [-1].length 8/\j (((),(),()),e.2.1,q++[-1],())) (c9 q.length [-2].length 8/\j (((),(),()),e.2.1,q++[-2],())))) (GoP (f,g,iso,1,[]) q/\cnd (((goR (f,g,iso,1,[]) ((List.filter (fun l=>l==-1) q).length+1) q []).length:Int)==0) (K ([],())) (Ik (u+1)<|d (((),u+1,()),e.2.1,())))) (((),(),0,()),c.2.1++[-1],[],())) (GoP (f,g,iso,most,[]) c.2.1/\K (goR (f,g,iso,most,[]) ((List.filter (fun m=>m==-1) c.2.1).length+1) c.2.1 [],()))) (((),0,()),[],()))) (((),0,()),[],())
theorem bes(f g:am)(iso:Bool)(most:Int):Mh vx (f,g,iso,most,()) (aht f g iso most):=by
 intro hok hpre;simp only[vx,okL,T.oks,T.ok,ap,ab,a0f,a0c,a0g]at hok hpre
 try dsimp only[T.den]at hok hpre
 delta aht Ik Iq Ix Ol Om
 dsimp -proj -eta only;obtain⟨hP,hmost⟩:=hpre;have hob:=hP.F.src.ob;have hm:=hP.F.src.m;have hlt:=hP.F.src.lt;clear hok;refine bq (fun (s:cgc)=>0<=s.1.2.1/\s.1.2.1<=f.1.2.1.length/\s.2.1=bh s.1.2.1.toNat fun a=>[f.1.2.1.getD a.toNat 0,f.1.2.2.1.getD a.toNat 0]) (fun (s:cgc)=>(f.1.2.1.length-s.1.2.1).toNat) ?_ ⟨by simp,by simp,rfl⟩;rintro⟨⟨_,a,_⟩,ps,_⟩ next ⟨a0,a1,hps⟩ hnx
 intros
 try dsimp only at a0 a1 hps hnx⊢
 subst hps;refine bd (fun ha=>⟨a0,ha,a0,by omega,ck (by rw[bj];simp only[a0h,a0i];omega),by rw[au];(try dsimp only);omega,hnx _ ⟨by dsimp only;omega,by dsimp only;omega,by dsimp only;rw[kq a0]⟩ (by dsimp only;omega)⟩) (fun ha=>?_);have ea:a.toNat=f.1.2.1.length:=by omega
 rw[ea];have hfp:=cd1 hP.F;have hfl:=btw (f:=f) hob.1;have hfc:ak7 (aer f.1.1 (bh f.1.2.1.length fun a=>[f.1.2.1.getD a.toNat 0,f.1.2.2.1.getD a.toNat 0]))=fcR f:=rfl;refine⟨hob.1,by omega,hfp,?_⟩;rw[hfc];have hres:(vx).res (f,g,iso,most,())=(agv f g iso most,()):=rfl;rw[hres];have hgo:∀(m:Int)(l:List Int),m<=1000->(l.length:Int)=f.1.1->(∀y∈l,y<0)->GoP (f,(g,(iso,(m,([]:List (List Int)))))) l:=fun m l h1 h2 h3=>⟨hP,h2,fun y hy=>by have:=h3 y hy;show y<_;omega,by show (0:Nat)<=1000;omega,h1⟩;refine bq (fun (s:(ce4×cez))=>0<=s.1.2.1/\s.1.2.1<=(fcR f).length/\s.2.1=List.replicate s.1.2.1.toNat (-1)/\jv s.1.2.1.toNat (foR f g iso)=true) (fun (s:(ce4×cez))=>((fcR f).length-s.1.2.1).toNat) ?_ ⟨by simp,by simp,rfl,rfl⟩;rintro⟨⟨_,x,_⟩,al,_⟩ next1 ⟨x0,x1,hal,hb⟩ hn1;intros
 try dsimp only at x0 x1 hal hb hn1⊢
 subst hal;refine bd (fun hx=>⟨ck (by rw[a05];simp only[a0h,a0i];omega),?_⟩) (fun hx=>?_)
 ·refine bq (fun (s:(cex×cfk))=>0<=s.1.2.2.1/\s.1.2.2.1<=(fcR f).length/\s.2.1=List.replicate (x+1).toNat (-1)/\s.2.2.1=bh s.1.2.2.1.toNat fun y=>if (fcR f).getD y.toNat 0=x then -1 else -2) (fun (s:(cex×cfk))=>((fcR f).length-s.1.2.2.1).toNat) ?_ ⟨by simp,by simp,by dsimp only;rw[show (x+1).toNat=x.toNat+1 by omega,a32],rfl⟩;rintro⟨⟨_,_,y,_⟩,al2,st,_⟩ next2 ⟨y0,y1,h1,h2⟩ hn2;intros
  try dsimp only at y0 y1 h1 h2 hn2⊢
  subst h1;subst h2;refine bd (fun hy=>⟨y0,hy,cz (fun (q:(ce6×cfk))=>q.2.1=List.replicate (x+1).toNat (-1)/\q.2.2.1=bh (y+1).toNat fun y=>if (fcR f).getD y.toNat 0=x then -1 else -2) ?_ ?_⟩) (fun hy=>?_)
  ·rintro⟨_,al3,st3,_⟩ ⟨p1,p2⟩;intros
   try dsimp only at p1 p2⊢
   exact⟨by rw[au];(try dsimp only);omega,hn2 _ ⟨by dsimp only;omega,by dsimp only;omega,p1,p2⟩ (by dsimp only;omega)⟩
  ·intro k hk;refine ba (fun h=>⟨ck (by rw[bj];simp only[a0h,a0i];omega),hk _ ⟨rfl,?_⟩⟩) (fun h=>⟨ck (by rw[bj];simp only[a0h,a0i];omega),hk _ ⟨rfl,?_⟩⟩)
   ·have h:(fcR f).getD y.toNat 0=x:=by simpa using h
    try dsimp only
    rw[kq y0,a0a h]
   ·have h:¬(fcR f).getD y.toNat 0=x:=by simpa using h
    try dsimp only
    rw[kq y0,ds h]
  ·have ey:y.toNat=(fcR f).length:=by omega
   rw[ey];have hs:(bh (fcR f).length fun y=>if (fcR f).getD y.toNat 0=x then (-1:Int)else -2)=fsR (fcR f) x:=rfl;rw[hs];have hfo:foR f g iso x=decide ((goR (f,g,iso,1,[]) (goM (fsR (fcR f) x)+1) (fsR (fcR f) x) []).length≠0):=rfl;have hsn:∀y∈fsR (fcR f) x,y<0:=fun y hy=>by obtain⟨i,_,_,rfl⟩:=lp.1 hy;split<;>decide
   have hsl:((fsR (fcR f) x).length:Int)=f.1.1:=by unfold fsR;rw[bj];exact hfl
   refine⟨hgo _ _ (by decide) hsl hsn,ba (fun h=>?_) (fun h=>?_)⟩
   ·have h:(goR (f,g,iso,1,[]) (goM (fsR (fcR f) x)+1) (fsR (fcR f) x) []).length=0:=by unfold goM;simpa using h
    have:¬jv (fcR f).length (foR f g iso)=true:=fun hh=>by have:=(ov.1 hh) x x0 hx;rw[hfo,h]at this;simp at this
    show (([]:List (List Int)),())=(agv f g iso most,());unfold agv;rw[ds this]
   ·have h:¬(goR (f,g,iso,1,[]) (goM (fsR (fcR f) x)+1) (fsR (fcR f) x) []).length=0:=by unfold goM;simpa using h
    refine⟨by rw[au];(try dsimp only);omega,hn1 _ ⟨by dsimp only;omega,by dsimp only;omega,rfl,?_⟩ (by dsimp only;omega)⟩;rw[ov]at hb⊢;intro i i0 i1;by_cases e:i<x
    ·exact hb i i0 (by omega)
    ·have:i=x:=by dsimp only at i1;omega
     subst this;rw[hfo];simpa using h
 ·have ex:x.toNat=(fcR f).length:=by omega
  rw[ex]at hb⊢;refine⟨hgo _ _ hmost (by rw[a05];exact hfl) (fun y hy=>by rw[a34 hy];decide),?_⟩;show _=(agv f g iso most,());unfold agv;rw[a0a hb];rfl
theorem az9:bw Tryz.prog 114 vx:=ctb (ae bck (ae bhd az)) bg 114 Tryz.f114 vx baj [(6,511)] (fun x K=>aht x.1 x.2.1 x.2.2.1 x.2.2.2.1 K) (fun x h1 h2=>bes x.1 x.2.1 x.2.2.1 x.2.2.2.1 h1 h2)
theorem alp{α:Type}{p:Int->Option α}:∀(n:Nat)(i:Int),(∀j:Int,i<=j->j<i+n->p j=none)->gp p n i=none
 |0,i,_=>rfl
 |n+1,i,h=>by unfold gp;rw[h i (a02 _) (by omega)];exact alp n (i+1) fun j h0 h1=>h j (by omega) (by omega)
theorem aoe{c:aa}(hc:k9 c=true){f:Int}(f0:0<=f)(f1:f<c.2.1.length):bi c (c.2.2.2.1.getD (c.2.1.getD f.toNat 0).toNat 0) f=f/\bi c f (c.2.2.2.1.getD (c.2.2.1.getD f.toNat 0).toNat 0)=f:=by
 simp only[k9,a0b,a0r]at hc;have h2:=hc.2;unfold pn at h2
 cases h3:gp (qm c) c.2.1.length 0 with
 |some v=>
  obtain⟨j,hj⟩:=afv h3;unfold qm at hj;split at hj
  ·cases hj;rw[h3]at h2;simp[orR]at h2
  ·cases hj
 |none=>
  have:=ajg h3 f f0 (by omega);unfold qm at this;split at this
  ·cases this
  ·rename_i h;exact⟨a4c fun h1=>h (.inl h1),a4c fun h1=>h (.inr h1)⟩
theorem cc7{c:aa}(S:ShapeP c)(hu:∀f:Int,0<=f->f<c.2.1.length->bi c (c.2.2.2.1.getD (c.2.1.getD f.toNat 0).toNat 0) f=f/\bi c f (c.2.2.2.1.getD (c.2.2.1.getD f.toNat 0).toNat 0)=f)
  (ha:∀f g h:Int,0<=f->f<c.2.1.length->0<=g->g<c.2.1.length->0<=h->h<c.2.1.length->c.2.2.1.getD f.toNat 0=c.2.1.getD g.toNat 0->c.2.2.1.getD g.toNat 0=c.2.1.getD h.toNat 0->bi c (bi c f g) h=bi c f (bi c g h)):k9 c=true:=by
 have h1:gp (qm c) c.2.1.length 0=none:=alp _ _ fun j j0 j1=>by obtain⟨u1,u2⟩:=hu j j0 (by omega);unfold qm;rw[ds (by intro h;rcases h with h|h;exact h u1;exact h u2)]
 have h2:gp (vl c) c.2.1.length 0=none:=alp _ _ fun f f0 f1=>by
  unfold vl;refine alp _ _ fun g g0 g1=>?_;unfold vk;split
  ·rename_i e;refine alp _ _ fun h h0 h1=>?_;unfold xg;rw[ds (by rintro⟨e2,h2⟩;exact h2 (ha f g h f0 (by omega) g0 (by omega) h0 (by omega) e e2))]
  ·rfl
 simp only[k9,a0b,a0r];exact⟨be6 S,by unfold pn;rw[h1,h2];rfl⟩
theorem alc{f:am}(h:d5 f=true):FunP f:=cbm h
theorem azn{f:am}(h:d5 f=true):k9 f.1=true/\k9 f.2.1=true:=by simp only[d5,a0b]at h;exact h.1
theorem bsi{c d:aa}{x:Int}(C:ShapeP c)(hd:k9 d=true)(x0:0<=x)(x1:x<d.1):FunP (fm c d x):=by
 have D:=sr hd;have co:=C.ob;have ix:=D.idn x0 x1;have it:=D.idt x x0 x1;have hu:=(aoe hd ix.1 ix.2.1).1;rw[it.1]at hu;have eo:∀y:Int,0<=y->y<c.1->(fm c d x).2.2.1.getD y.toNat 0=x:=fun y y0 y1=>d6 y0 (by omega);have ea:∀a:Int,0<=a->a<c.2.1.length->(fm c d x).2.2.2.getD a.toNat 0=d.2.2.2.1.getD x.toNat 0:=fun a a0 a1=>d6 a0 a1;refine⟨C,D,⟨by show ((bh _ _).length:Int)=c.1;rw[bj];omega,by show (bh _ _).length=c.2.1.length;rw[bj],?_,?_,fun a a0 a1=>?_,fun y y0 y1=>?_,fun a a0 a1 b b0 b1 e=>?_⟩⟩
 ·refine ep.2 fun i i0 i1=>?_;have t1:((bh c.1.toNat fun _=>x).length:Int)=c.1:=by rw[bj];omega
  have i1:i<((bh c.1.toNat fun _=>x).length:Int):=i1;rw[eo i i0 (by omega)];exact⟨x0,x1⟩
 ·refine ep.2 fun i i0 i1=>?_;have t1:(bh c.2.1.length fun _=>d.2.2.2.1.getD x.toNat 0).length=c.2.1.length:=bj _;have i1:i<((bh c.2.1.length fun _=>d.2.2.2.1.getD x.toNat 0).length:Int):=i1;rw[ea i i0 (by omega)];exact⟨ix.1,ix.2.1⟩
 ·have a1:a<c.2.1.length:=a1;have e:=C.frm a0 a1;show d.2.1.getD ((fm c d x).2.2.2.getD a.toNat 0).toNat 0=(fm c d x).2.2.1.getD (c.2.1.getD a.toNat 0).toNat 0/\d.2.2.1.getD ((fm c d x).2.2.2.getD a.toNat 0).toNat 0=(fm c d x).2.2.1.getD (c.2.2.1.getD a.toNat 0).toNat 0;rw[ea a a0 a1,eo _ e.1 e.2.1,eo _ e.2.2.1 e.2.2.2];exact it
 ·have y1:y<c.1:=y1;have e:=C.idn y0 y1;show (fm c d x).2.2.2.getD (c.2.2.2.1.getD y.toNat 0).toNat 0=d.2.2.2.1.getD ((fm c d x).2.2.1.getD y.toNat 0).toNat 0;rw[ea _ e.1 e.2.1,eo y y0 y1]
 ·have a1:a<c.2.1.length:=a1;have b1:b<c.2.1.length:=b1;have k:=C.yes a0 a1 b0 b1 e;show (fm c d x).2.2.2.getD (bi c a b).toNat 0=bi d ((fm c d x).2.2.2.getD a.toNat 0) ((fm c d x).2.2.2.getD b.toNat 0);rw[ea a a0 a1,ea b b0 b1,ea _ k.1 k.2.1,hu]
def bpv(d:am)(x m:Int):List bo:=(agv (fm d.1 d.2.1 x) d false m).map fun l=>(x,l)
def cnS(d:am)(l:List bo)(x:Int):List bo:=if (l.length:Int)<=400 then l++bpv d x (401-l.length)else l
def kj(d:am):List bo:=(bh d.2.1.1.toNat fun x=>x).foldl (cnS d) []
theorem bom{f g:am}{iso:Bool}{m:Int}(h:0<m):((agv f g iso m).length:Int)<=m:=by
 unfold agv;split
 ·exact blh (s:=(f,g,iso,m,[])) _ _ [] h
 ·exact Int.le_of_lt h
theorem bjo{d:am}{l:List bo}(h:¬(l.length:Int)<=400):∀L:List Int,L.foldl (cnS d) l=l
 |[]=>rfl
 |y::r=>by
  rw[a10];have:cnS d l y=l:=by unfold cnS;rw[ds h]
  rw[this];exact bjo h r
theorem aqx{d:am}:(kj d).length<=401:=by
 refine aay (P:=fun q:List bo=>q.length<=401) (fun q y hq=>?_) _ _ (by simp);unfold cnS;split
 ·have h:=@bom (fm d.1 d.2.1 y) d false (401-q.length) (by omega);rw[a0m,bpv,a00];omega
 ·exact hq
def xe:Ct:=⟨[jq],[true],fun x=>[d5 x.1=true],[(false,(.sl awu))],fun x=>(kj x.1,()),true,none⟩
def ayt:Ann:=(.s .n (.s .n (.s (.s .n (.l bhk [(800003,bhs)] [1] (.s .n (.s (.s .n (.s .n (.l [(3,(.ref 800003 [])),(6,(.d bc))] [(800003,bhs)] [1,4,5] .n))) .n)))) .n)))
def bvp:FuncId->Option Ct:=lkp [(115,lf),(114,vx)]
def af7(d:am)(K:(List bo)×Unit->Prop):Prop:=bn (S:=cfn) (fun a b=>let h:=a.2.1.length;let g:=a.1.2.1;let f:=agv (fm d.1 d.2.1 g) d false (401-(h:Int));Iq g<|Oa adh a.2.1<|cnd (decide (g<d.2.1.1)&&decide ((h:Int)<=400)) (ShapeP d.1/\ShapeP d.2.1/\0<=g/\g<d.2.1.1/\(Ik (401-(h:Int))<|ParP (fm d.1 d.2.1 g) d/\401-(h:Int)<=1000/\bn (S:=cfn) (fun c e=>let i:=c.1.2.1;Iq i<|Oa adh c.2.1<|cnd (decide (i<(f.length:Int))) (Ix i f.length<|c9 c.2.1.length ((g,f.getD i.toNat [])::([]:List ce5)).length 32/\(Ik (i+1)<|e (((),i+1,()),c.2.1++(g,f.getD i.toNat [])::([]:List ce5),()))) (Ik (g+1)<|b (((),g+1,()),c.2.1,()))) (((),0,()),a.2.1,()))) (K (a.2.1,()))) (((),0,()),([]:List ce5),())
theorem az8(d:am):Mh xe (d,()) (af7 d):=by
 intro hok hpre;simp only[xe,okL,T.oks,T.ok,ap,ab,a0f,a0c,a0g]at hok hpre
 try dsimp only[T.den]at hok hpre
 delta af7 Ik Iq Ix Oa
 dsimp -proj -eta only;have hf:d5 d=true:=hpre;have F:=alc hf;have hd:=(azn hf).2;have tob:=F.tgt.ob;have hres:(xe).res (d,())=(kj d,()):=rfl;rw[hres];have hL:kj d=(bh d.2.1.1.toNat fun x=>x).foldl (cnS d) []:=rfl;have hl:=@aqx d;rw[hL]at hl⊢;generalize hX:(bh d.2.1.1.toNat fun x=>x)=X at *;have hXl:(X.length:Int)=d.2.1.1:=by rw[←hX,bj];omega
 have hXg:∀y:Int,0<=y->y<d.2.1.1->X.getD y.toNat 0=y:=fun y y0 y1=>by rw[←hX];exact d6 y0 (by omega)
 clear hok hX;refine bq (fun (s:cfn)=>0<=s.1.2.1/\s.1.2.1<=d.2.1.1/\s.2.1=(X.take s.1.2.1.toNat).foldl (cnS d) []/\s.2.1.length<=401) (fun (s:cfn)=>(d.2.1.1-s.1.2.1).toNat) ?_ ⟨by simp,tob.1,rfl,by simp⟩;rintro⟨⟨_,x,_⟩,l,_⟩ next ⟨x0,x1,hq,hll⟩ hnx
 intros
 try dsimp only at x0 x1 hq hll hnx⊢
 refine ba (fun h=>?_) (fun h=>?_)
 ·simp only[a0b,a0w]at h;have hm:=@bom (fm d.1 d.2.1 x) d false (401-l.length) (by omega);refine⟨F.src,F.tgt,x0,h.1,by rw[au];(try dsimp only);omega,⟨bsi F.src hd x0 h.1,F,rfl,rfl⟩,by omega,?_⟩;have hA:bpv d x (401-l.length)=(agv (fm d.1 d.2.1 x) d false (401-l.length)).map fun q=>(x,q):=rfl;generalize agv (fm d.1 d.2.1 x) d false (401-l.length)=G at *;refine bq (fun (s:cfn)=>0<=s.1.2.1/\s.1.2.1<=G.length/\s.2.1=l++(G.take s.1.2.1.toNat).map fun q=>(x,q)) (fun (s:cfn)=>(G.length-s.1.2.1).toNat) ?_ ⟨by simp,by simp,by simp⟩;rintro⟨⟨_,i,_⟩,l2,_⟩ next1 ⟨i0,i1,hl2⟩ hn1;intros
  try dsimp only at i0 i1 hl2 hn1⊢
  subst hl2;refine bd (fun hi=>⟨i0,hi,ck (by rw[a0m,a00,a03];simp only[a0h,a0i];omega),by rw[au];(try dsimp only);omega,hn1 _ ⟨by dsimp only;omega,by dsimp only;omega,by dsimp only;rw[mm G [] i0 hi,a2m,a01];rfl⟩ (by dsimp only;omega)⟩) (fun hi=>?_);refine⟨by rw[au];(try dsimp only);omega,hnx _ ⟨by dsimp only;omega,by dsimp only;omega,?_,?_⟩ (by dsimp only;omega)⟩
  ·try dsimp only
   rw[mm X 0 x0 (by omega),a11,←hq,hXg x x0 h.1,a1c (by omega)];show _=cnS d l x;unfold cnS;rw[a0a h.2,hA]
  ·try dsimp only
   rw[a0m,a00,a03];omega
 ·have hfin:X.foldl (cnS d) []=l:=by
   by_cases e:x<d.2.1.1
   ·rw[a1p e,a1v,a1o]at h
    conv=>lhs;rw[←a1x x.toNat X]
    rw[a11,←hq];exact bjo h _
   ·rw[hq,a1c (by omega)]
  rw[hfin]
theorem ayl:bw Tryz.prog 87 xe:=ctb (ae abr (ae az9 az)) bg 87 Tryz.f87 xe ayt [(5,510)] (fun x K=>af7 x.1 K) (fun x h1 h2=>az8 x.1 h1 h2)
end
end Go.Bm
